/- Contracts of the program's and the reference's functions, and the plain laws behind them: part 13 of 13. -/
import Derived.Test.YtljfoglilggkjaaGreatM1
import Derived.Test.YtljfoglilggkjaaGreatM2
import Derived.Test.YtljfoglilggkjaaGreatM3
import Derived.Test.YtljfoglilggkjaaGreatM4
import Derived.Test.YtljfoglilggkjaaGreatM5
import Derived.Test.YtljfoglilggkjaaGreatM6
import Derived.Test.YtljfoglilggkjaaGreatM7
import Derived.Test.YtljfoglilggkjaaGreatM8
import Derived.Test.YtljfoglilggkjaaGreatM9
import Derived.Test.YtljfoglilggkjaaGreatM10
import Derived.Test.YtljfoglilggkjaaGreatM11
import Derived.Test.YtljfoglilggkjaaGreatM12
import Derived.Test.YtljfoglilggkjaaGreatRows
import Derived.JoinedOf
import Derived.KernelRfl
set_option linter.unusedVariables false
set_option linter.unusedSimpArgs false
set_option maxHeartbeats 64000000
set_option maxRecDepth 10000
namespace Go.Proofs.YtljfoglilggkjaaGreat
open Go.RowKit Go.Proofs.YtljfoglilggkjaaGreatW.PrintWords Go.Proofs.YtljfoglilggkjaaGreatW.PrintLast
theorem WI.rd {w w' : World} {base g rb k : Nat} {a b : NVl} {term lead : Int} {vn vd : Value} {xs : List LV} {ds : List Op} (h : WI w base g a b term lead vn xs vd ds) (hR : Rd w rb k) (hg : w.grownBy w' (some rb)) : WI w' base g a b term lead vn xs vd ds := by
 obtain ⟨A, c, bs, q, hB, _⟩ := hR.h
 refine ⟨h.blk.grown hg (fun e => ?_), h.ge, h.o.kept hg (fun k e => ⟨_, _, by cases e; exact hB, by decide, by decide⟩), h.lead, h.term⟩
 injection e with e
 subst e
 exact absurd (blk_one h.blk hB) (by decide)
theorem Rd.sets {rb k b : Nat} (hb : rb < b) (vs : List Value) : ∀ {W : World} (j : Nat), Rd W rb k → Rd (wsets W b j vs) rb k := by
 induction vs with
 | nil => intro W j h; exact h
 | cons v vs ih => intro W j h; exact ih _ (h.set hb j v)
def EvV (v : Value) : Prop := ∃ (ek ea : Int) (eo : Op), v = .agg #[.int .i64 ek, .int .i64 ea, .int .i64 eo.kind, .string eo.name, .string eo.dest, .int .i64 eo.n, .string eo.text] ∧ SmallO eo
structure EvS (w : World) (rb base : Nat) (wv nv : Array Value) (v : Value) (os : List Op) (W : World) (k : Nat) : Prop where
  var : Blk W w.heap.size wv 62
  res : Blk W (w.heap.size + 1) #[.int .i64 0, .int .i64 0, .int .i64 0, .string ⟨#[]⟩, .string ⟨#[]⟩, .int .i64 0, .string ⟨#[]⟩] 135
  nod : Blk W (w.heap.size + 1 + 1) nv 25
  rd : Rd W rb k
  own : OwnT W base v os
  gr : w.grownBy W (some rb)
  lt : rb < base
  le : base ≤ w.heap.size
section
variable {w W W' : World} {rb base k k' : Nat} {wv nv : Array Value} {v : Value} {os : List Op}
theorem EvS.step (h : EvS w rb base wv nv v os W k) (hR : Rd W' rb k') (hg : W.grownBy W' (some rb)) : EvS w rb base wv nv v os W' k' :=
 ⟨h.var.grown hg (fun e => by injection e with e; have := h.lt; have := h.le; omega), h.res.grown hg (fun e => by injection e with e; have := h.lt; have := h.le; omega), h.nod.grown hg (fun e => by injection e with e; have := h.lt; have := h.le; omega), hR, h.own.rd h.rd hg, grown_tr h.gr hg, h.lt, h.le⟩
theorem EvS.bel (h : EvS w rb base wv nv v os W k) (hb : Bel W W') : EvS w rb base wv nv v os W' k :=
 ⟨h.var.bel hb, h.res.bel hb, h.nod.bel hb, h.rd.bel hb, h.own.bel hb, grown_tr h.gr (grown_of_bel hb _), h.lt, h.le⟩
theorem EvS.fin (h : EvS w rb base wv nv v os W k') (hk : k' ≤ k + 300) (vs : List Value) : Rd (wsets W (w.heap.size + 1) 0 vs) rb (k + 300) ∧ w.grownBy (wsets W (w.heap.size + 1) 0 vs) (some rb) :=
 ⟨(Rd.sets (by have := h.lt; have := h.le; omega) vs 0 h.rd).more hk, grown_sets (Nat.le_succ _) vs 0 h.gr⟩
end
theorem smallO_z : SmallO ⟨0, ⟨#[]⟩, ⟨#[]⟩, 0, ⟨#[]⟩⟩ := smallO_no
section
variable {w : World} {A V D : Option Addr} {base g j rb k ac vc dc : Nat} {au al aa both : Bool} {ta term : Int} {xa ds : List Op} {xs : List LV} {y : NVl}
theorem l72Event_j (h : Rd w rb k) (hk : k ≤ 1099511300000) (hrb : rb < base) (hI : WJ w base g j ⟨⟨au, ta, al, aa, xa⟩, A, ac⟩ y term ((j : Int) + 1) (.slice V xs.length vc) xs (.slice D ds.length dc) ds) (hbase : base ≤ w.heap.size) :
  Calls Tryz.prog 107 #[.pointer (some ⟨rb, 0, none⟩), .agg #[.slice (some ⟨g, 0, none⟩) 2 2, .int .i64 term, .int .i64 ((j : Int) + 1), .bool both, .slice V xs.length vc, .slice D ds.length dc]] w (Drawn rb k 300 EvV w) := by
 have hjl := hI.jl
 have hj2 : (j : Int) < 2 := by omega
 have hw0 : wrap64 (j : Int) = (j : Int) := by unfold wrap64; omega
 obtain ⟨ol, hol⟩ : ∃ o : Int, 3 - ((j : Int) + 1) = o := ⟨_, rfl⟩
 have hw1 : wrap64 (3 - ((j : Int) + 1)) = ol := by unfold wrap64; omega
 have hwn : wrap64 ((xs.length : Int) + 1) = (xs.length : Int) + 1 := by have := hI.o.many; unfold wrap64; omega
 have hxl := hI.o.many
 have HOA := Lib.hid hI.o.oa
 have hln := hI.o.oa.len
 have hgl := hI.blk.lt
 obtain ⟨g_0, g_1, g_2, g_3, g_4⟩ := cells2_at hI.blk hI.jl
 dsimp only at g_0 g_1 g_2 g_3 g_4
 have g_y1 : g < w.heap.size + 1 := by omega
 have g_y2 : g < w.heap.size + 1 + 1 := by omega
 have g_n0 : ¬ g = w.heap.size := by omega
 have g_n1 : ¬ g = w.heap.size + 1 := by omega
 have g_n2 : ¬ g = w.heap.size + 1 + 1 := by omega
 have HRD := Lib.hid h
 have HBS := Lib.hid hbase
 have HI := Lib.hid hI
 clear h hbase hI
 go_enter Tryz.func107, Tryz.ntmps107
 go_wp2_with fail
 clear g_0 g_1 g_2 g_3 g_4 g_y1 g_y2 g_n0 g_n1 g_n2 hol
 obtain ⟨hW, hB, hE, hN⟩ := allocs3 w #[.slice (some ⟨g, 0, none⟩) 2 2, .int .i64 term, .int .i64 ((j : Int) + 1), .bool both, .slice V xs.length vc, .slice D ds.length dc] #[.int .i64 0, .int .i64 0, .int .i64 0, .string ⟨#[]⟩, .string ⟨#[]⟩, .int .i64 0, .string ⟨#[]⟩] #[.bool au, .int .i64 ta, .bool al, .bool aa, .slice A xa.length ac] 62 135 25
 generalize (((w.alloc (.cells #[.slice (some ⟨g, 0, none⟩) 2 2, .int .i64 term, .int .i64 ((j : Int) + 1), .bool both, .slice V xs.length vc, .slice D ds.length dc] 62)).alloc (.cells #[.int .i64 0, .int .i64 0, .int .i64 0, .string ⟨#[]⟩, .string ⟨#[]⟩, .int .i64 0, .string ⟨#[]⟩] 135)).alloc (.cells #[.bool au, .int .i64 ta, .bool al, .bool aa, .slice A xa.length ac] 25)) = W0 at hW hB hE hN ⊢
 have ST0 : Hid (EvS w rb base #[.slice (some ⟨g, 0, none⟩) 2 2, .int .i64 term, .int .i64 ((j : Int) + 1), .bool both, .slice V xs.length vc, .slice D ds.length dc] #[.bool au, .int .i64 ta, .bool al, .bool aa, .slice A xa.length ac] (.slice A xa.length ac) xa W0 k) := Lib.hid ⟨hB, hE, hN, HRD.out.bel hW, HI.out.o.oa.own.bel hW, grown_of_bel hW _, hrb, HBS.out⟩
 clear hW hB hE hN
 refine (pick_c ST0.out.rd (by omega) 14 (by omega)).mono ?_
 rintro e w1 ⟨pv, rfl, ⟨r1, rfl, hr1a, hr1b, -⟩, hRp, hgp⟩
 have ST1 := Lib.hid (ST0.out.step hRp hgp)
 clear hRp hgp
 have hr1b := hr1b (by omega)
 by_cases q0 : r1 = 0 ∨ r1 = 1 ∨ r1 = 2
 ·rcases q0 with rfl | rfl | rfl
  all_goals
   go_wp2
   have hb0 : Bel w1 w1.drew := bel_drew
   have STd := Lib.hid (ST1.out.bel hb0)
   have hfx := Lib.hid (fun (W : World) (hb : Bel w1.drew W) => (show W.cell? ⟨w.heap.size + 1 + 1, 4, none⟩ = some (.slice A xa.length ac) from blkn (STd.out.nod.bel hb) 4 _ rfl))
   have hC1 : kOp.C w1.drew A xa.length xa := STd.out.own.reads2
   have D0 : Hid (Bel w1.drew w1.drew) := Lib.hid (Below.refl _ _)
   have HRX0 : Hid ((runP newP xa).isSome = true) := Lib.hid HOA.out.run
   obtain ⟨x, hrx⟩ := Option.isSome_iff_exists.1 HOA.out.run
   have HQ := Lib.hid (runP_ok _ newP_ok hrx)
   have HRX := Lib.hid hrx
   have HNP := Lib.hid specPoolNew_c
   obtain ⟨np, hnp⟩ : ∃ np, newP = np := ⟨_, rfl⟩
   have hrun := Lib.hid (fun (W' : World) (v0 v1 : Value) (bvs : List Value) (h : OwnP W' w1.drew.heap.size v0 v1 newP bvs) (hb : Bel w1.drew W') => l13Run_c (c2 := ac) h newP_ok (Below.size hb) hC1 (Nat.le_refl _) hb HOA.out.ops)
   unfold RunsP at hrun
   rw [HRX0.out, hnp] at hrun
   rw [hnp] at HNP HRX
   clear hb0 hC1 hrx hnp
   refine start_ (n := 10) (S := fun w' => w'.cell? ⟨w.heap.size + 1 + 1, 4, none⟩ = some (.slice A xa.length ac)) (ds := [8]) #[F, F, F, F, F, F, F, F, F, F] (by kernel_rfl) rfl rfl ((hfx.out _ D0.out)) (fun hHeld => ?_)
   refine py 1 (some 23) #[F, T, F, F, F, F, F, F, F, F] ?_
   refine ty 2 (some 24) #[F, T, T, F, F, F, F, F, F, F] (hS := hHeld) (hz := by intro w' s0; go_simp; with_reducible rfl) (h := ?_)
   refine join_ (σ := Option Addr × Nat × Option Addr × Nat × Option Addr × Nat × Option Addr × Nat × List Value × Nat) 2 #[T, T, T, T, T, T, T, T, F, F] (fun s => [(22, .agg #[.slice s.1 np.slots.length s.2.1, .slice s.2.2.1 np.vols.length s.2.2.2.1]), (25, .tuple #[.agg #[.slice s.2.2.2.2.1 x.slots.length s.2.2.2.2.2.1, .slice s.2.2.2.2.2.2.1 x.vols.length s.2.2.2.2.2.2.2.1], .bool true]), (21, .tuple #[.agg #[.slice s.2.2.2.2.1 x.slots.length s.2.2.2.2.2.1, .slice s.2.2.2.2.2.2.1 x.vols.length s.2.2.2.2.2.2.2.1], .bool true]), (26, .agg #[.slice s.2.2.2.2.1 x.slots.length s.2.2.2.2.2.1, .slice s.2.2.2.2.2.2.1 x.vols.length s.2.2.2.2.2.2.2.1]), (27, .bool true), (6, .pointer (some ⟨s.2.2.2.2.2.2.2.2.2, 0, none⟩))]) (fun s w' => (w'.cell? ⟨w.heap.size + 1 + 1, 4, none⟩ = some (.slice A xa.length ac)) ∧ OwnP w' w1.drew.heap.size (.slice s.2.2.2.2.1 x.slots.length s.2.2.2.2.2.1) (.slice s.2.2.2.2.2.2.1 x.vols.length s.2.2.2.2.2.2.2.1) x s.2.2.2.2.2.2.2.2.1 ∧ Blk w' s.2.2.2.2.2.2.2.2.2 #[.slice none 0 0, .slice none 0 0] 44 ∧ w1.drew.heap.size ≤ s.2.2.2.2.2.2.2.2.2 ∧ Bel w1.drew w') ?_ ?_
   rotate_left
   ·intro hCont
    refine two_ (i := 0) (j := 7) (Ni := some 22) (Nj := some 6) #[T, T, T, F, F, F, F, F, F, F] #[F, T, T, F, F, F, F, T, F, F] rfl rfl rfl rfl (by kernel_rfl) (by decide) (by decide) (fun K hK => ?_) (fun K hK => ?_)
    ·skip
     refine goes_ Tryz.func51 (by kernel_rfl) rfl #[] (by rfl) rfl rfl (by simp only [List.map_toArray, List.map_cons, List.map_nil]) ?_
     with_reducible refine (HNP.out _).mono ?_
     rintro e w1_ ⟨va, vb, bva, rfl, ho, X1⟩
     have D1 := Lib.hid (Bel.tr D0.out X1)
     obtain ⟨A5, B5, k5, m5, rfl, rfl, hpi⟩ := ho.reads
     have P1 : Hid (OwnP w1_ w1.drew.heap.size (.slice A5 np.slots.length k5) (.slice B5 np.vols.length m5) np bva) := Lib.hid (ho.lower D0.out.size)
     clear ho hpi
     refine ⟨_, rfl, ?_⟩
     refine hK.out _ _ ((hfx.out _ D1.out)) (fun hHeld => ?_)
     clear hK K
     refine nox 22 (h := ?_)
     refine two_ (i := 3) (j := 7) (Ni := some 25) (Nj := some 6) #[T, T, T, T, F, F, F, F, F, F] #[T, T, T, F, F, F, F, T, F, F] rfl rfl rfl rfl (by kernel_rfl) (by decide) (by decide) (fun K hK => ?_) (fun K hK => ?_)
     ·skip
      refine gox Tryz.func50 #[.agg #[.slice A5 np.slots.length k5, .slice B5 np.vols.length m5], .slice A xa.length ac] ?_
      with_reducible refine (hrun.out _ _ _ _ P1.out D1.out).mono ?_
      rintro e w2_ ⟨A2, A3, n2, n3, k2, k3, rfl, hq, X2⟩
      have D2 : Hid (Bel w1.drew w2_) := Lib.hid (D1.out.trans X2.b)
      obtain ⟨bvc, hq2⟩ := hq x HRX.out
      obtain ⟨E0, E1, d0, d1, e0, e1, hpi⟩ := hq2.reads
      have e0 := slice_eq e0
      have e1 := slice_eq e1
      obtain ⟨rfl, rfl, rfl⟩ := e0
      obtain ⟨rfl, rfl, rfl⟩ := e1
      have Q2 := Lib.hid hq2
      clear hq hq2 hpi
      refine ⟨_, rfl, ?_⟩
      refine hK.out _ _ ((hfx.out _ D2.out)) (fun hHeld => ?_)
      clear hK K
      refine nox 25 (h := ?_)
      refine py 4 (some 21) #[T, T, T, T, T, F, F, F, F, F] ?_
      refine py 5 (some 26) #[T, T, T, T, T, T, F, F, F, F] ?_
      refine py 6 (some 27) #[T, T, T, T, T, T, T, F, F, F] ?_
      refine ox 7 (some 6) #[T, T, T, T, T, T, T, T, F, F] fun K hK => ?_
      refine vx ?_
      have D3 : Hid (Bel w1.drew (w2_.alloc (.cells #[.slice none 0 0, .slice none 0 0] 44))) := Lib.hid (bel_alloc D2.out (.cells #[.slice none 0 0, .slice none 0 0] 44))
      have Q3 := Lib.hid (OwnP.bel Q2.out (bel_alloc (Below.refl _ _) (.cells #[.slice none 0 0, .slice none 0 0] 44)))
      have O3 : Hid (Blk (w2_.alloc (.cells #[.slice none 0 0, .slice none 0 0] 44)) w2_.heap.size #[.slice none 0 0, .slice none 0 0] 44) := Lib.hid (Blk.new w2_ _ _)
      have L3 := D2.out.size
      refine hK.out _ _ ((hfx.out _ D3.out)) (fun hHeld => ?_)
      clear hK K
      refine nox 6 (h := ?_)
      exact nof (hCont (A5, k5, B5, m5, A2, k2, A3, k3, bvc, w2_.heap.size) _ ⟨hHeld, Q3.out, O3.out, L3, D3.out⟩)
     ·skip
      refine vx ?_
      have D2 : Hid (Bel w1.drew (w1_.alloc (.cells #[.slice none 0 0, .slice none 0 0] 44))) := Lib.hid (bel_alloc D1.out (.cells #[.slice none 0 0, .slice none 0 0] 44))
      have P2 := Lib.hid (OwnP.bel P1.out (bel_alloc (Below.refl _ _) (.cells #[.slice none 0 0, .slice none 0 0] 44)))
      have O2 : Hid (Blk (w1_.alloc (.cells #[.slice none 0 0, .slice none 0 0] 44)) w1_.heap.size #[.slice none 0 0, .slice none 0 0] 44) := Lib.hid (Blk.new w1_ _ _)
      have L2 := D1.out.size
      refine hK.out _ _ ((hfx.out _ D2.out)) (fun hHeld => ?_)
      clear hK K
      refine nox 6 (h := ?_)
      refine ox 3 (some 25) #[T, T, T, T, F, F, F, T, F, F] fun K hK => ?_
      refine gox Tryz.func50 #[.agg #[.slice A5 np.slots.length k5, .slice B5 np.vols.length m5], .slice A xa.length ac] ?_
      with_reducible refine (hrun.out _ _ _ _ P2.out D2.out).mono ?_
      rintro e w3_ ⟨A2, A3, n2, n3, k2, k3, rfl, hq, X3⟩
      have D3 : Hid (Bel w1.drew w3_) := Lib.hid (D2.out.trans X3.b)
      obtain ⟨bvc, hq2⟩ := hq x HRX.out
      obtain ⟨E0, E1, d0, d1, e0, e1, hpi⟩ := hq2.reads
      have e0 := slice_eq e0
      have e1 := slice_eq e1
      obtain ⟨rfl, rfl, rfl⟩ := e0
      obtain ⟨rfl, rfl, rfl⟩ := e1
      have Q3 := Lib.hid hq2
      clear hq hq2 hpi
      have O3 := Lib.hid (X3.k _ _ _ (by decide) (by decide) (by decide) O2.out)
      refine ⟨_, rfl, ?_⟩
      refine hK.out _ _ ((hfx.out _ D3.out)) (fun hHeld => ?_)
      clear hK K
      refine nox 25 (h := ?_)
      refine py 4 (some 21) #[T, T, T, T, T, F, F, T, F, F] ?_
      refine py 5 (some 26) #[T, T, T, T, T, T, F, T, F, F] ?_
      refine py 6 (some 27) #[T, T, T, T, T, T, T, T, F, F] ?_
      exact nof (hCont (A5, k5, B5, m5, A2, k2, A3, k3, bvc, w1_.heap.size) _ ⟨hHeld, Q3.out, O3.out, L2, D3.out⟩)
    ·skip
     refine vx ?_
     have D1 : Hid (Bel w1.drew (w1.alloc (.cells #[.slice none 0 0, .slice none 0 0] 44)).drew) := Lib.hid (bel_alloc D0.out (.cells #[.slice none 0 0, .slice none 0 0] 44))
     have O1 : Hid (Blk (w1.alloc (.cells #[.slice none 0 0, .slice none 0 0] 44)).drew w1.drew.heap.size #[.slice none 0 0, .slice none 0 0] 44) := Lib.hid (Blk.new w1.drew _ _)
     have L1 := D0.out.size
     refine hK.out _ _ ((hfx.out _ D1.out)) (fun hHeld => ?_)
     clear hK K
     refine nox 6 (h := ?_)
     refine ox 0 (some 22) #[T, T, T, F, F, F, F, T, F, F] fun K hK => ?_
     refine goes_ Tryz.func51 (by kernel_rfl) rfl #[] (by rfl) rfl rfl (by simp only [List.map_toArray, List.map_cons, List.map_nil]) ?_
     with_reducible refine (HNP.out _).mono ?_
     rintro e w2_ ⟨va, vb, bva, rfl, ho, X2⟩
     have D2 := Lib.hid (Bel.tr D1.out X2)
     obtain ⟨A5, B5, k5, m5, rfl, rfl, hpi⟩ := ho.reads
     have O2 := Lib.hid (Blk.bel O1.out X2)
     have P2 : Hid (OwnP w2_ w1.drew.heap.size (.slice A5 np.slots.length k5) (.slice B5 np.vols.length m5) np bva) := Lib.hid (ho.lower D1.out.size)
     clear ho hpi
     refine ⟨_, rfl, ?_⟩
     refine hK.out _ _ ((hfx.out _ D2.out)) (fun hHeld => ?_)
     clear hK K
     refine nox 22 (h := ?_)
     refine ox 3 (some 25) #[T, T, T, T, F, F, F, T, F, F] fun K hK => ?_
     refine gox Tryz.func50 #[.agg #[.slice A5 np.slots.length k5, .slice B5 np.vols.length m5], .slice A xa.length ac] ?_
     with_reducible refine (hrun.out _ _ _ _ P2.out D2.out).mono ?_
     rintro e w3_ ⟨A2, A3, n2, n3, k2, k3, rfl, hq, X3⟩
     have D3 : Hid (Bel w1.drew w3_) := Lib.hid (D2.out.trans X3.b)
     obtain ⟨bvc, hq2⟩ := hq x HRX.out
     obtain ⟨E0, E1, d0, d1, e0, e1, hpi⟩ := hq2.reads
     have e0 := slice_eq e0
     have e1 := slice_eq e1
     obtain ⟨rfl, rfl, rfl⟩ := e0
     obtain ⟨rfl, rfl, rfl⟩ := e1
     have Q3 := Lib.hid hq2
     clear hq hq2 hpi
     have O3 := Lib.hid (X3.k _ _ _ (by decide) (by decide) (by decide) O2.out)
     refine ⟨_, rfl, ?_⟩
     refine hK.out _ _ ((hfx.out _ D3.out)) (fun hHeld => ?_)
     clear hK K
     refine nox 25 (h := ?_)
     refine py 4 (some 21) #[T, T, T, T, T, F, F, T, F, F] ?_
     refine py 5 (some 26) #[T, T, T, T, T, T, F, T, F, F] ?_
     refine py 6 (some 27) #[T, T, T, T, T, T, T, T, F, F] ?_
     exact nof (hCont (A5, k5, B5, m5, A2, k2, A3, k3, bvc, w1.heap.size) _ ⟨hHeld, Q3.out, O3.out, L1, D3.out⟩)
   rintro ⟨A5, k5, B5, m5, A2, k2, A3, k3, bvc, nb⟩ w3 ⟨hHeld, hQ, hO, hL, hD⟩
   dsimp only at hQ hO hL
   have hnr : ¬ nb = rb := by have h1 := STd.out.rd.lt; omega
   obtain ⟨r0, r1_, f0, f1, -⟩ := k2f hO
   refine norm_ (a' := ?_) ?_ ?_
   rotate_left
   ·simp only [putAll, Act.put, lA, lB, lC]
    rfl
   refine lx 8 none #[T, T, T, T, T, T, T, T, T, F] fun K hK => ?_
   refine sx ?_
   refine hK.out _ _ ?_
   clear hK K
   refine py 9 (some 7) #[T, T, T, T, T, T, T, T, T, T] ?_
   refine done_ (by kernel_rfl) ?_
   have hO1 := hO.set 0 (.slice A2 x.slots.length k2) (cs' := #[.slice A2 x.slots.length k2, .slice none 0 0]) rfl
   have hO2 := hO1.set 1 (.slice A3 x.vols.length k3) (cs' := #[.slice A2 x.slots.length k2, .slice A3 x.vols.length k3]) rfl
   have hq2 := (hQ.far hO (by decide) (by decide) (by decide) 0 (.slice A2 x.slots.length k2)).far hO1 (by decide) (by decide) (by decide) 1 (.slice A3 x.vols.length k3)
   have hb5 : Bel w1.drew ((w3.setCell ⟨nb, 0, none⟩ (.slice A2 x.slots.length k2)).setCell ⟨nb, 1, none⟩ (.slice A3 x.vols.length k3)) := bel_set (bel_set hD hL 0 (.slice A2 x.slots.length k2)) hL 1 (.slice A3 x.vols.length k3)
   clear hO hO1 hD hL hQ f0 f1 r0 r1_ hHeld D0 hrun hfx
   generalize ((w3.setCell ⟨nb, 0, none⟩ (.slice A2 x.slots.length k2)).setCell ⟨nb, 1, none⟩ (.slice A3 x.vols.length k3)) = W5 at hO2 hq2 hb5 ⊢
   have HO2 := Lib.hid hO2
   have HQ2 := Lib.hid hq2
   have ST5 := Lib.hid (STd.out.bel hb5)
   clear hO2 hq2 hb5
   go_wp2
   refine start_ (n := 7) (S := fun w' => w'.cell? ⟨w.heap.size, 2, none⟩ = some (.int .i64 ((j : Int) + 1)) ∧ w'.cell? ⟨nb, 0, none⟩ = some (.slice A2 x.slots.length k2) ∧ w'.cell? ⟨nb, 1, none⟩ = some (.slice A3 x.vols.length k3)) (ds := [6]) #[F, F, F, F, F, F, F] (by kernel_rfl) rfl rfl ⟨(blkn (ST5.out.var.bel bel_drew) 2 _ rfl), (blkn (HO2.out.bel bel_drew) 0 _ rfl), (blkn (HO2.out.bel bel_drew) 1 _ rfl)⟩ (fun hHeld => ?_)
   refine py 0 (some 28) #[T, F, F, F, F, F, F] ?_
   refine py 2 (some 30) #[T, F, T, F, F, F, F] ?_
   refine ty 1 (some 29) #[T, T, T, F, F, F, F] (hS := hHeld) (hz := by rintro w' ⟨s0, s1, s2⟩; go_simp; with_reducible rfl) (h := ?_)
   refine ty 3 (some 31) #[T, T, T, T, F, F, F] (hS := hHeld) (hz := by rintro w' ⟨s0, s1, s2⟩; go_simp; with_reducible rfl) (h := ?_)
   refine ox 4 (some 32) #[T, T, T, T, T, F, F] fun K hK => ?_
   refine gox Tryz.func121 #[.pointer (some ⟨rb, 0, none⟩), .agg #[.slice A2 x.slots.length k2, .slice A3 x.vols.length k3]] ?_
   with_reducible refine (fits_c (ST5.out.rd.bel bel_drew) (by omega) (HQ2.out.bel bel_drew) HQ.out).mono ?_
   rintro e w8 ⟨ov, rfl, ⟨o, rfl, hso, -⟩, hRp, hgp⟩
   unfold opV
   have ST8 := Lib.hid ((ST5.out.bel bel_drew).step hRp hgp)
   have hN8 : Blk w8 nb #[.slice A2 x.slots.length k2, .slice A3 x.vols.length k3] 44 := (HO2.out.bel bel_drew).grown hgp (fun e => by have h1 := ST5.out.rd.lt; injection e with e; exact absurd e hnr)
   clear hRp hgp
   obtain ⟨e_0, e_1, e_2, e_3, e_4, e_5, e_6, e_f0, e_f1, e_f2, e_f3, e_f4, e_f5, e_f6, e_y⟩ := k7f ST8.out.res
   refine ⟨_, rfl, ?_⟩
   refine hK.out _ _ ⟨(blkn ST8.out.var 2 _ rfl), (blkn hN8 0 _ rfl), (blkn hN8 1 _ rfl)⟩ (fun hHeld => ?_)
   clear hK K
   refine nox 32 (h := ?_)
   refine py 5 (some 33) #[T, T, T, T, T, T, F] ?_
   refine lx 6 none #[T, T, T, T, T, T, T] fun K hK => ?_
   refine sx ?_
   refine hK.out _ _ ?_
   clear hK K
   refine done_ (by kernel_rfl) ?_
   go_wp2
   clear e_0 e_f0 e_1 e_f1 e_2 e_f2 e_3 e_f3 e_4 e_f4 e_5 e_f5 e_6 e_f6 e_y
   have hf := ST8.out.fin (k := k) (by omega) [.int .i64 1, .int .i64 ((j : Int) + 1), .int .i64 o.kind, .string o.name, .string o.dest, .int .i64 o.n, .string o.text]
   refine bodyPost_ret (results_cell_row rfl _ _ (w.heap.size + 1) 135 #[.int .i64 1, .int .i64 ((j : Int) + 1), .int .i64 o.kind, .string o.name, .string o.dest, .int .i64 o.n, .string o.text] (0, 0) _ rfl (ST8.out.res.sets [.int .i64 1, .int .i64 ((j : Int) + 1), .int .i64 o.kind, .string o.name, .string o.dest, .int .i64 o.n, .string o.text] rfl) Tryz.underlying135 rfl (by kernel_rfl)) rfl ?_
   exact ⟨_, rfl, ⟨_, _, o, rfl, hso⟩, hf.1, hf.2⟩
 have p0 : ¬ r1 = 0 := fun e => q0 (.inl e)
 have p1 : ¬ r1 = 1 := fun e => q0 (.inr (.inl e))
 have p2 : ¬ r1 = 2 := fun e => q0 (.inr (.inr e))
 clear q0
 have b0 : (r1 == 0) = false := by simp [p0]
 have b1 : (r1 == 1) = false := by simp [p1]
 have b2 : (r1 == 2) = false := by simp [p2]
 by_cases p3 : r1 = 3
 ·subst p3
  go_wp2
  refine start_ (n := 7) (S := fun w' => w'.cell? ⟨w.heap.size, 2, none⟩ = some (.int .i64 ((j : Int) + 1))) (ds := [6]) #[F, F, F, F, F, F, F] (by kernel_rfl) rfl rfl ((blkn (ST1.out.var.bel bel_drew) 2 _ rfl)) (fun hHeld => ?_)
  refine py 0 (some 36) #[T, F, F, F, F, F, F] ?_
  refine py 3 (some 39) #[T, F, F, T, F, F, F] ?_
  refine ty 1 (some 37) #[T, T, F, T, F, F, F] (hS := hHeld) (hz := by intro w' s0; go_simp; with_reducible rfl) (h := ?_)
  refine py 2 (some 38) #[T, T, T, T, F, F, F] ?_
  refine ox 4 (some 40) #[T, T, T, T, T, F, F] fun K hK => ?_
  refine gox Tryz.func37 #[.pointer (some ⟨rb, 0, none⟩)] ?_
  with_reducible refine (op_c (ST1.out.rd.bel bel_drew) (by omega)).mono ?_
  rintro e w8 ⟨ov, rfl, ⟨o, rfl, hso, -⟩, hRp, hgp⟩
  unfold opV
  have ST8 := Lib.hid ((ST1.out.bel bel_drew).step hRp hgp)
  clear hRp hgp
  obtain ⟨e_0, e_1, e_2, e_3, e_4, e_5, e_6, e_f0, e_f1, e_f2, e_f3, e_f4, e_f5, e_f6, e_y⟩ := k7f ST8.out.res
  refine ⟨_, rfl, ?_⟩
  refine hK.out _ _ ((blkn ST8.out.var 2 _ rfl)) (fun hHeld => ?_)
  clear hK K
  refine nox 40 (h := ?_)
  refine py 5 (some 41) #[T, T, T, T, T, T, F] ?_
  refine lx 6 none #[T, T, T, T, T, T, T] fun K hK => ?_
  refine sx ?_
  refine hK.out _ _ ?_
  clear hK K
  refine done_ (by kernel_rfl) ?_
  go_wp2
  clear e_0 e_f0 e_1 e_f1 e_2 e_f2 e_3 e_f3 e_4 e_f4 e_5 e_f5 e_6 e_f6 e_y
  have hf := ST8.out.fin (k := k) (by omega) [.int .i64 1, .int .i64 ol, .int .i64 o.kind, .string o.name, .string o.dest, .int .i64 o.n, .string o.text]
  refine bodyPost_ret (results_cell_row rfl _ _ (w.heap.size + 1) 135 #[.int .i64 1, .int .i64 ol, .int .i64 o.kind, .string o.name, .string o.dest, .int .i64 o.n, .string o.text] (0, 0) _ rfl (ST8.out.res.sets [.int .i64 1, .int .i64 ol, .int .i64 o.kind, .string o.name, .string o.dest, .int .i64 o.n, .string o.text] rfl) Tryz.underlying135 rfl (by kernel_rfl)) rfl ?_
  exact ⟨_, rfl, ⟨_, _, o, rfl, hso⟩, hf.1, hf.2⟩
 have b3 : (r1 == 3) = false := by simp [p3]
 by_cases p4 : r1 = 4
 ·subst p4
  go_wp2_with fail
  refine (pick_c ST1.out.rd (by omega) 3 (by omega)).mono ?_
  rintro e w2 ⟨pv, rfl, ⟨r2, rfl, hr2a, hr2b, -⟩, hRp, hgp⟩
  have ST2 := Lib.hid (ST1.out.step hRp hgp)
  clear hRp hgp
  by_cases q2 : 0 < r2
  ·have e_0 := blkn ST2.out.res 0 _ rfl
   obtain ⟨e_0, e_1, e_2, e_3, e_4, e_5, e_6, e_f0, e_f1, e_f2, e_f3, e_f4, e_f5, e_f6, e_y⟩ := k7f ST2.out.res
   go_wp2
   clear e_0 e_f0 e_1 e_f1 e_2 e_f2 e_3 e_f3 e_4 e_f4 e_5 e_f5 e_6 e_f6 e_y
   have hf := ST2.out.fin (k := k) (by omega) [.int .i64 9, .int .i64 0, .int .i64 0, .string ⟨#[]⟩, .string ⟨#[]⟩, .int .i64 0, .string ⟨#[]⟩]
   refine bodyPost_ret (results_cell_row rfl _ _ (w.heap.size + 1) 135 #[.int .i64 9, .int .i64 0, .int .i64 0, .string ⟨#[]⟩, .string ⟨#[]⟩, .int .i64 0, .string ⟨#[]⟩] (0, 0) _ rfl (ST2.out.res.sets [.int .i64 9, .int .i64 0, .int .i64 0, .string ⟨#[]⟩, .string ⟨#[]⟩, .int .i64 0, .string ⟨#[]⟩] rfl) Tryz.underlying135 rfl (by kernel_rfl)) rfl ?_
   exact ⟨_, rfl, ⟨_, _, ⟨0, ⟨#[]⟩, ⟨#[]⟩, 0, ⟨#[]⟩⟩, rfl, smallO_z⟩, hf.1, hf.2⟩
  go_wp2_with fail
  have hb3 : Bel w2 (w2.alloc (.cells #[.int .i64 7, .int .i64 7, .int .i64 8] 3)) := bel_alloc (Below.refl _ _) _
  have hV3 : Blk (w2.alloc (.cells #[.int .i64 7, .int .i64 7, .int .i64 8] 3)) w2.heap.size #[.int .i64 7, .int .i64 7, .int .i64 8] 3 := Blk.new _ _ _
  have ST3 := Lib.hid (ST2.out.bel hb3)
  obtain ⟨nb, hnb⟩ : ∃ nb, w2.heap.size = nb := ⟨_, rfl⟩
  have hn9 : rb < nb := by have h1 := ST2.out.rd.lt; omega
  rw [hnb] at hV3
  generalize (w2.alloc (.cells #[.int .i64 7, .int .i64 7, .int .i64 8] 3)) = w3 at hb3 hV3 ST3 ⊢
  try rw [hnb]
  have HV3 := Lib.hid hV3
  clear hb3 hV3 hnb
  refine (pick_c ST3.out.rd (by omega) 3 (by omega)).mono ?_
  rintro e w4 ⟨pv, rfl, ⟨r4, rfl, hr4a, hr4b, -⟩, hRp, hgp⟩
  have ST4 := Lib.hid (ST3.out.step hRp hgp)
  have HV4 := Lib.hid (HV3.out.grown hgp (fun e => by injection e with e; omega))
  clear hRp hgp
  have hr4b := hr4b (by omega)
  obtain rfl | rfl | rfl : r4 = 0 ∨ r4 = 1 ∨ r4 = 2 := by omega
  ·have y_0 := blkn HV4.out 0 _ rfl
   have y_y := HV4.out.lt
   obtain ⟨e_0, e_1, e_2, e_3, e_4, e_5, e_6, e_f0, e_f1, e_f2, e_f3, e_f4, e_f5, e_f6, e_y⟩ := k7f ST4.out.res
   go_wp2
   clear y_0 y_y
   clear e_0 e_f0 e_1 e_f1 e_2 e_f2 e_3 e_f3 e_4 e_f4 e_5 e_f5 e_6 e_f6 e_y
   have hf := ST4.out.fin (k := k) (by omega) [.int .i64 7, .int .i64 0, .int .i64 0, .string ⟨#[]⟩, .string ⟨#[]⟩, .int .i64 0, .string ⟨#[]⟩]
   refine bodyPost_ret (results_cell_row rfl _ _ (w.heap.size + 1) 135 #[.int .i64 7, .int .i64 0, .int .i64 0, .string ⟨#[]⟩, .string ⟨#[]⟩, .int .i64 0, .string ⟨#[]⟩] (0, 0) _ rfl (ST4.out.res.sets [.int .i64 7, .int .i64 0, .int .i64 0, .string ⟨#[]⟩, .string ⟨#[]⟩, .int .i64 0, .string ⟨#[]⟩] rfl) Tryz.underlying135 rfl (by kernel_rfl)) rfl ?_
   exact ⟨_, rfl, ⟨_, _, ⟨0, ⟨#[]⟩, ⟨#[]⟩, 0, ⟨#[]⟩⟩, rfl, smallO_z⟩, hf.1, hf.2⟩
  ·have y_1 := blkn HV4.out 1 _ rfl
   have y_y := HV4.out.lt
   obtain ⟨e_0, e_1, e_2, e_3, e_4, e_5, e_6, e_f0, e_f1, e_f2, e_f3, e_f4, e_f5, e_f6, e_y⟩ := k7f ST4.out.res
   go_wp2
   clear y_1 y_y
   clear e_0 e_f0 e_1 e_f1 e_2 e_f2 e_3 e_f3 e_4 e_f4 e_5 e_f5 e_6 e_f6 e_y
   have hf := ST4.out.fin (k := k) (by omega) [.int .i64 7, .int .i64 0, .int .i64 0, .string ⟨#[]⟩, .string ⟨#[]⟩, .int .i64 0, .string ⟨#[]⟩]
   refine bodyPost_ret (results_cell_row rfl _ _ (w.heap.size + 1) 135 #[.int .i64 7, .int .i64 0, .int .i64 0, .string ⟨#[]⟩, .string ⟨#[]⟩, .int .i64 0, .string ⟨#[]⟩] (0, 0) _ rfl (ST4.out.res.sets [.int .i64 7, .int .i64 0, .int .i64 0, .string ⟨#[]⟩, .string ⟨#[]⟩, .int .i64 0, .string ⟨#[]⟩] rfl) Tryz.underlying135 rfl (by kernel_rfl)) rfl ?_
   exact ⟨_, rfl, ⟨_, _, ⟨0, ⟨#[]⟩, ⟨#[]⟩, 0, ⟨#[]⟩⟩, rfl, smallO_z⟩, hf.1, hf.2⟩
  ·have y_2 := blkn HV4.out 2 _ rfl
   have y_y := HV4.out.lt
   obtain ⟨e_0, e_1, e_2, e_3, e_4, e_5, e_6, e_f0, e_f1, e_f2, e_f3, e_f4, e_f5, e_f6, e_y⟩ := k7f ST4.out.res
   go_wp2
   clear y_2 y_y
   clear e_0 e_f0 e_1 e_f1 e_2 e_f2 e_3 e_f3 e_4 e_f4 e_5 e_f5 e_6 e_f6 e_y
   have hf := ST4.out.fin (k := k) (by omega) [.int .i64 8, .int .i64 0, .int .i64 0, .string ⟨#[]⟩, .string ⟨#[]⟩, .int .i64 0, .string ⟨#[]⟩]
   refine bodyPost_ret (results_cell_row rfl _ _ (w.heap.size + 1) 135 #[.int .i64 8, .int .i64 0, .int .i64 0, .string ⟨#[]⟩, .string ⟨#[]⟩, .int .i64 0, .string ⟨#[]⟩] (0, 0) _ rfl (ST4.out.res.sets [.int .i64 8, .int .i64 0, .int .i64 0, .string ⟨#[]⟩, .string ⟨#[]⟩, .int .i64 0, .string ⟨#[]⟩] rfl) Tryz.underlying135 rfl (by kernel_rfl)) rfl ?_
   exact ⟨_, rfl, ⟨_, _, ⟨0, ⟨#[]⟩, ⟨#[]⟩, 0, ⟨#[]⟩⟩, rfl, smallO_z⟩, hf.1, hf.2⟩
 have b4 : (r1 == 4) = false := by simp [p4]
 by_cases p5 : r1 = 5
 ·subst p5
  go_wp2_with fail
  refine (pick_c ST1.out.rd (by omega) 2 (by omega)).mono ?_
  rintro e w2 ⟨pv, rfl, ⟨r2, rfl, hr2a, hr2b, -⟩, hRp, hgp⟩
  have ST2 := Lib.hid (ST1.out.step hRp hgp)
  clear hRp hgp
  by_cases q2 : r2 = 0
  ·subst q2
   go_wp2_with fail
   refine (pick_c ST2.out.rd (by omega) 2 (by omega)).mono ?_
   rintro e w3 ⟨pv, rfl, ⟨r3, rfl, hr3a, hr3b, -⟩, hRp, hgp⟩
   have ST3 := Lib.hid (ST2.out.step hRp hgp)
   clear hRp hgp
   obtain ⟨e_0, e_1, e_2, e_3, e_4, e_5, e_6, e_f0, e_f1, e_f2, e_f3, e_f4, e_f5, e_f6, e_y⟩ := k7f ST3.out.res
   go_wp2
   clear e_0 e_f0 e_1 e_f1 e_2 e_f2 e_3 e_f3 e_4 e_f4 e_5 e_f5 e_6 e_f6 e_y
   have hf := ST3.out.fin (k := k) (by omega) [.int .i64 5, .int .i64 (1 + r3), .int .i64 0, .string ⟨#[]⟩, .string ⟨#[]⟩, .int .i64 0, .string ⟨#[]⟩]
   refine bodyPost_ret (results_cell_row rfl _ _ (w.heap.size + 1) 135 #[.int .i64 5, .int .i64 (1 + r3), .int .i64 0, .string ⟨#[]⟩, .string ⟨#[]⟩, .int .i64 0, .string ⟨#[]⟩] (0, 0) _ rfl (ST3.out.res.sets [.int .i64 5, .int .i64 (1 + r3), .int .i64 0, .string ⟨#[]⟩, .string ⟨#[]⟩, .int .i64 0, .string ⟨#[]⟩] rfl) Tryz.underlying135 rfl (by kernel_rfl)) rfl ?_
   exact ⟨_, rfl, ⟨_, _, ⟨0, ⟨#[]⟩, ⟨#[]⟩, 0, ⟨#[]⟩⟩, rfl, smallO_z⟩, hf.1, hf.2⟩
  have bq : (r2 == 0) = false := by simp [q2]
  obtain ⟨v_0, v_1, v_2, v_3, v_4, v_5, v_y⟩ := k6c ST2.out.var
  go_wp2_with fail
  clear v_0 v_1 v_2 v_3 v_4 v_5 v_y
  refine (pick_c ST2.out.rd (by omega) ((xs.length : Int) + 1) (by omega)).mono ?_
  rintro e w3 ⟨pv, rfl, ⟨r3, rfl, hr3a, hr3b, -⟩, hRp, hgp⟩
  have ST3 := Lib.hid (ST2.out.step hRp hgp)
  clear hRp hgp
  obtain ⟨e_0, e_1, e_2, e_3, e_4, e_5, e_6, e_f0, e_f1, e_f2, e_f3, e_f4, e_f5, e_f6, e_y⟩ := k7f ST3.out.res
  go_wp2
  clear e_0 e_f0 e_1 e_f1 e_2 e_f2 e_3 e_f3 e_4 e_f4 e_5 e_f5 e_6 e_f6 e_y
  have hf := ST3.out.fin (k := k) (by omega) [.int .i64 3, .int .i64 r3, .int .i64 0, .string ⟨#[]⟩, .string ⟨#[]⟩, .int .i64 0, .string ⟨#[]⟩]
  refine bodyPost_ret (results_cell_row rfl _ _ (w.heap.size + 1) 135 #[.int .i64 3, .int .i64 r3, .int .i64 0, .string ⟨#[]⟩, .string ⟨#[]⟩, .int .i64 0, .string ⟨#[]⟩] (0, 0) _ rfl (ST3.out.res.sets [.int .i64 3, .int .i64 r3, .int .i64 0, .string ⟨#[]⟩, .string ⟨#[]⟩, .int .i64 0, .string ⟨#[]⟩] rfl) Tryz.underlying135 rfl (by kernel_rfl)) rfl ?_
  exact ⟨_, rfl, ⟨_, _, ⟨0, ⟨#[]⟩, ⟨#[]⟩, 0, ⟨#[]⟩⟩, rfl, smallO_z⟩, hf.1, hf.2⟩
 have b5 : (r1 == 5) = false := by simp [p5]
 by_cases p6 : r1 = 6
 ·subst p6
  go_wp2_with fail
  refine (pick_c ST1.out.rd (by omega) 2 (by omega)).mono ?_
  rintro e w2 ⟨pv, rfl, ⟨r2, rfl, hr2a, hr2b, -⟩, hRp, hgp⟩
  have ST2 := Lib.hid (ST1.out.step hRp hgp)
  clear hRp hgp
  obtain ⟨e_0, e_1, e_2, e_3, e_4, e_5, e_6, e_f0, e_f1, e_f2, e_f3, e_f4, e_f5, e_f6, e_y⟩ := k7f ST2.out.res
  go_wp2
  clear e_0 e_f0 e_1 e_f1 e_2 e_f2 e_3 e_f3 e_4 e_f4 e_5 e_f5 e_6 e_f6 e_y
  have hf := ST2.out.fin (k := k) (by omega) [.int .i64 6, .int .i64 (1 + r2), .int .i64 0, .string ⟨#[]⟩, .string ⟨#[]⟩, .int .i64 0, .string ⟨#[]⟩]
  refine bodyPost_ret (results_cell_row rfl _ _ (w.heap.size + 1) 135 #[.int .i64 6, .int .i64 (1 + r2), .int .i64 0, .string ⟨#[]⟩, .string ⟨#[]⟩, .int .i64 0, .string ⟨#[]⟩] (0, 0) _ rfl (ST2.out.res.sets [.int .i64 6, .int .i64 (1 + r2), .int .i64 0, .string ⟨#[]⟩, .string ⟨#[]⟩, .int .i64 0, .string ⟨#[]⟩] rfl) Tryz.underlying135 rfl (by kernel_rfl)) rfl ?_
  exact ⟨_, rfl, ⟨_, _, ⟨0, ⟨#[]⟩, ⟨#[]⟩, 0, ⟨#[]⟩⟩, rfl, smallO_z⟩, hf.1, hf.2⟩
 have b6 : (r1 == 6) = false := by simp [p6]
 by_cases p7 : r1 = 7
 ·subst p7
  obtain ⟨v_0, v_1, v_2, v_3, v_4, v_5, v_y⟩ := k6c ST1.out.var
  go_wp2_with fail
  clear v_0 v_1 v_2 v_3 v_4 v_5 v_y
  refine (pick_c ST1.out.rd (by omega) ((xs.length : Int) + 1) (by omega)).mono ?_
  rintro e w2 ⟨pv, rfl, ⟨r2, rfl, hr2a, hr2b, -⟩, hRp, hgp⟩
  have ST2 := Lib.hid (ST1.out.step hRp hgp)
  clear hRp hgp
  obtain ⟨e_0, e_1, e_2, e_3, e_4, e_5, e_6, e_f0, e_f1, e_f2, e_f3, e_f4, e_f5, e_f6, e_y⟩ := k7f ST2.out.res
  go_wp2
  clear e_0 e_f0 e_1 e_f1 e_2 e_f2 e_3 e_f3 e_4 e_f4 e_5 e_f5 e_6 e_f6 e_y
  have hf := ST2.out.fin (k := k) (by omega) [.int .i64 4, .int .i64 r2, .int .i64 0, .string ⟨#[]⟩, .string ⟨#[]⟩, .int .i64 0, .string ⟨#[]⟩]
  refine bodyPost_ret (results_cell_row rfl _ _ (w.heap.size + 1) 135 #[.int .i64 4, .int .i64 r2, .int .i64 0, .string ⟨#[]⟩, .string ⟨#[]⟩, .int .i64 0, .string ⟨#[]⟩] (0, 0) _ rfl (ST2.out.res.sets [.int .i64 4, .int .i64 r2, .int .i64 0, .string ⟨#[]⟩, .string ⟨#[]⟩, .int .i64 0, .string ⟨#[]⟩] rfl) Tryz.underlying135 rfl (by kernel_rfl)) rfl ?_
  exact ⟨_, rfl, ⟨_, _, ⟨0, ⟨#[]⟩, ⟨#[]⟩, 0, ⟨#[]⟩⟩, rfl, smallO_z⟩, hf.1, hf.2⟩
 have b7 : (r1 == 7) = false := by simp [p7]
 by_cases p8 : r1 = 8
 ·subst p8
  cases both with
  | true =>
   obtain ⟨v_0, v_1, v_2, v_3, v_4, v_5, v_y⟩ := k6c ST1.out.var
   go_wp2_with fail
   clear v_0 v_1 v_2 v_3 v_4 v_5 v_y
   refine (pick_c ST1.out.rd (by omega) 2 (by omega)).mono ?_
   rintro e w2 ⟨pv, rfl, ⟨r2, rfl, hr2a, hr2b, -⟩, hRp, hgp⟩
   have ST2 := Lib.hid (ST1.out.step hRp hgp)
   clear hRp hgp
   by_cases q2 : r2 = 0
   ·subst q2
    obtain ⟨e_0, e_1, e_2, e_3, e_4, e_5, e_6, e_f0, e_f1, e_f2, e_f3, e_f4, e_f5, e_f6, e_y⟩ := k7f ST2.out.res
    go_wp2
    clear e_0 e_f0 e_1 e_f1 e_2 e_f2 e_3 e_f3 e_4 e_f4 e_5 e_f5 e_6 e_f6 e_y
    have hf := ST2.out.fin (k := k) (by omega) [.int .i64 7, .int .i64 0, .int .i64 0, .string ⟨#[]⟩, .string ⟨#[]⟩, .int .i64 0, .string ⟨#[]⟩]
    refine bodyPost_ret (results_cell_row rfl _ _ (w.heap.size + 1) 135 #[.int .i64 7, .int .i64 0, .int .i64 0, .string ⟨#[]⟩, .string ⟨#[]⟩, .int .i64 0, .string ⟨#[]⟩] (0, 0) _ rfl (ST2.out.res.sets [.int .i64 7, .int .i64 0, .int .i64 0, .string ⟨#[]⟩, .string ⟨#[]⟩, .int .i64 0, .string ⟨#[]⟩] rfl) Tryz.underlying135 rfl (by kernel_rfl)) rfl ?_
    exact ⟨_, rfl, ⟨_, _, ⟨0, ⟨#[]⟩, ⟨#[]⟩, 0, ⟨#[]⟩⟩, rfl, smallO_z⟩, hf.1, hf.2⟩
   have bq : (r2 == 0) = false := by simp [q2]
   obtain ⟨v_0, v_1, v_2, v_3, v_4, v_5, v_y⟩ := k6c ST2.out.var
   go_wp2_with fail
   clear v_0 v_1 v_2 v_3 v_4 v_5 v_y
   refine (pick_c ST2.out.rd (by omega) ((xs.length : Int) + 1) (by omega)).mono ?_
   rintro e w3 ⟨pv, rfl, ⟨r3, rfl, hr3a, hr3b, -⟩, hRp, hgp⟩
   have ST3 := Lib.hid (ST2.out.step hRp hgp)
   clear hRp hgp
   go_wp2_with fail
   refine (pick_c ST3.out.rd (by omega) 2 (by omega)).mono ?_
   rintro e w4 ⟨pv, rfl, ⟨r4, rfl, hr4a, hr4b, -⟩, hRp, hgp⟩
   have ST4 := Lib.hid (ST3.out.step hRp hgp)
   clear hRp hgp
   obtain ⟨e_0, e_1, e_2, e_3, e_4, e_5, e_6, e_f0, e_f1, e_f2, e_f3, e_f4, e_f5, e_f6, e_y⟩ := k7f ST4.out.res
   go_wp2
   clear e_0 e_f0 e_1 e_f1 e_2 e_f2 e_3 e_f3 e_4 e_f4 e_5 e_f5 e_6 e_f6 e_y
   have hf := ST4.out.fin (k := k) (by omega) [.int .i64 2, .int .i64 (wrap64 (r3 * r4)), .int .i64 0, .string ⟨#[]⟩, .string ⟨#[]⟩, .int .i64 0, .string ⟨#[]⟩]
   refine bodyPost_ret (results_cell_row rfl _ _ (w.heap.size + 1) 135 #[.int .i64 2, .int .i64 (wrap64 (r3 * r4)), .int .i64 0, .string ⟨#[]⟩, .string ⟨#[]⟩, .int .i64 0, .string ⟨#[]⟩] (0, 0) _ rfl (ST4.out.res.sets [.int .i64 2, .int .i64 (wrap64 (r3 * r4)), .int .i64 0, .string ⟨#[]⟩, .string ⟨#[]⟩, .int .i64 0, .string ⟨#[]⟩] rfl) Tryz.underlying135 rfl (by kernel_rfl)) rfl ?_
   exact ⟨_, rfl, ⟨_, _, ⟨0, ⟨#[]⟩, ⟨#[]⟩, 0, ⟨#[]⟩⟩, rfl, smallO_z⟩, hf.1, hf.2⟩
  | false =>
   obtain ⟨v_0, v_1, v_2, v_3, v_4, v_5, v_y⟩ := k6c ST1.out.var
   obtain ⟨e_0, e_1, e_2, e_3, e_4, e_5, e_6, e_f0, e_f1, e_f2, e_f3, e_f4, e_f5, e_f6, e_y⟩ := k7f ST1.out.res
   go_wp2
   clear v_0 v_1 v_2 v_3 v_4 v_5 v_y e_0 e_f0 e_1 e_f1 e_2 e_f2 e_3 e_f3 e_4 e_f4 e_5 e_f5 e_6 e_f6 e_y
   have hf := ST1.out.fin (k := k) (by omega) [.int .i64 9, .int .i64 0, .int .i64 0, .string ⟨#[]⟩, .string ⟨#[]⟩, .int .i64 0, .string ⟨#[]⟩]
   refine bodyPost_ret (results_cell_row rfl _ _ (w.heap.size + 1) 135 #[.int .i64 9, .int .i64 0, .int .i64 0, .string ⟨#[]⟩, .string ⟨#[]⟩, .int .i64 0, .string ⟨#[]⟩] (0, 0) _ rfl (ST1.out.res.sets [.int .i64 9, .int .i64 0, .int .i64 0, .string ⟨#[]⟩, .string ⟨#[]⟩, .int .i64 0, .string ⟨#[]⟩] rfl) Tryz.underlying135 rfl (by kernel_rfl)) rfl ?_
   exact ⟨_, rfl, ⟨_, _, ⟨0, ⟨#[]⟩, ⟨#[]⟩, 0, ⟨#[]⟩⟩, rfl, smallO_z⟩, hf.1, hf.2⟩
 have b8 : (r1 == 8) = false := by simp [p8]
 obtain ⟨v_0, v_1, v_2, v_3, v_4, v_5, v_y⟩ := k6c ST1.out.var
 go_wp2_with fail
 clear v_0 v_1 v_2 v_3 v_4 v_5 v_y
 refine (pick_c ST1.out.rd (by omega) ((xs.length : Int) + 1) (by omega)).mono ?_
 rintro e w2 ⟨pv, rfl, ⟨r2, rfl, hr2a, hr2b, -⟩, hRp, hgp⟩
 have ST2 := Lib.hid (ST1.out.step hRp hgp)
 clear hRp hgp
 go_wp2_with fail
 refine (pick_c ST2.out.rd (by omega) 2 (by omega)).mono ?_
 rintro e w3 ⟨pv, rfl, ⟨r3, rfl, hr3a, hr3b, -⟩, hRp, hgp⟩
 have ST3 := Lib.hid (ST2.out.step hRp hgp)
 clear hRp hgp
 obtain ⟨e_0, e_1, e_2, e_3, e_4, e_5, e_6, e_f0, e_f1, e_f2, e_f3, e_f4, e_f5, e_f6, e_y⟩ := k7f ST3.out.res
 go_wp2
 clear e_0 e_f0 e_1 e_f1 e_2 e_f2 e_3 e_f3 e_4 e_f4 e_5 e_f5 e_6 e_f6 e_y
 have hf := ST3.out.fin (k := k) (by omega) [.int .i64 2, .int .i64 (wrap64 (r2 * r3)), .int .i64 0, .string ⟨#[]⟩, .string ⟨#[]⟩, .int .i64 0, .string ⟨#[]⟩]
 refine bodyPost_ret (results_cell_row rfl _ _ (w.heap.size + 1) 135 #[.int .i64 2, .int .i64 (wrap64 (r2 * r3)), .int .i64 0, .string ⟨#[]⟩, .string ⟨#[]⟩, .int .i64 0, .string ⟨#[]⟩] (0, 0) _ rfl (ST3.out.res.sets [.int .i64 2, .int .i64 (wrap64 (r2 * r3)), .int .i64 0, .string ⟨#[]⟩, .string ⟨#[]⟩, .int .i64 0, .string ⟨#[]⟩] rfl) Tryz.underlying135 rfl (by kernel_rfl)) rfl ?_
 exact ⟨_, rfl, ⟨_, _, ⟨0, ⟨#[]⟩, ⟨#[]⟩, 0, ⟨#[]⟩⟩, rfl, smallO_z⟩, hf.1, hf.2⟩
end
theorem fine_nil : Fine [] := ⟨⟨Nat.zero_le _, fun x hx => by cases hx⟩, rfl, Nat.zero_le _⟩
theorem ownT_emp {w : World} {base b : Nat} (hB : Blk w b #[] 27) (hb : base ≤ b) : OwnT w base (.slice (some ⟨b, 0, none⟩) 0 0) [] :=
 .inl ⟨rfl, some ⟨b, 0, none⟩, rfl, fun a e => by cases e; exact ⟨hb, hB.lt, _, hB⟩⟩
def WNew (w : World) (e : Ending) (w' : World) : Prop := ∃ (g : Nat) (a b : NVl) (V : Option Addr) (vc : Nat) (D : Option Addr) (dc : Nat), e = .returned (.agg #[.slice (some ⟨g, 0, none⟩) 2 2, .int .i64 1, .int .i64 1, .bool false, .slice V 0 vc, .slice D 0 dc]) ∧ WI w' w.heap.size g a b 1 1 (.slice V 0 vc) [] (.slice D 0 dc) [] ∧ Bel w w'
theorem nodeNew1_w (w : World) : Calls Tryz.prog 120 #[.int .i64 1] w (fun e w' => ∃ b, e = .returned (.tuple #[.agg #[.bool true, .int .i64 1, .bool true, .bool true, .slice (some ⟨b, 0, none⟩) 0 0], .bool true]) ∧ Blk w' b #[] 27 ∧ w.heap.size ≤ b ∧ Bel w w') := by
 have hin : inR 1 1 2 = true := rfl
 go_enter Tryz.func120, Tryz.ntmps120
 go_wp2_with (go_at_call 38; refine (l6In_c 1 1 2 _).mono ?_; rintro e w' ⟨rfl, rfl⟩)
 refine bodyPost_ret (results_ct rfl _ _ w.heap.size 25 #[.bool true, .int .i64 1, .bool true, .bool true, .slice (some ⟨w.heap.size + 1, 0, none⟩) 0 0] (0, 0) _ rfl ((Blk.new w _ _).alloc _) Tryz.underlying25 rfl (by kernel_rfl)) rfl ?_
 exact ⟨w.heap.size + 1, rfl, Blk.nw2 w _ _ _, Nat.le_succ _, bel_alloc (bel_alloc (Below.refl _ _) _) _⟩
theorem nodeNew2_w (w : World) : Calls Tryz.prog 120 #[.int .i64 2] w (fun e w' => ∃ b, e = .returned (.tuple #[.agg #[.bool true, .int .i64 0, .bool false, .bool false, .slice (some ⟨b, 0, none⟩) 0 0], .bool true]) ∧ Blk w' b #[] 27 ∧ w.heap.size ≤ b ∧ Bel w w') := by
 have hin : inR 2 1 2 = true := rfl
 go_enter Tryz.func120, Tryz.ntmps120
 go_wp2_with (go_at_call 38; refine (l6In_c 2 1 2 _).mono ?_; rintro e w' ⟨rfl, rfl⟩)
 refine bodyPost_ret (results_ct rfl _ _ w.heap.size 25 #[.bool true, .int .i64 0, .bool false, .bool false, .slice (some ⟨w.heap.size + 1, 0, none⟩) 0 0] (0, 0) _ rfl ((Blk.new w _ _).alloc _) Tryz.underlying25 rfl (by kernel_rfl)) rfl ?_
 exact ⟨w.heap.size + 1, rfl, Blk.nw2 w _ _ _, Nat.le_succ _, bel_alloc (bel_alloc (Below.refl _ _) _) _⟩
theorem worldNew_w (w : World) : Calls Tryz.prog 106 #[] w (WNew w) := by
 go_enter Tryz.func106, Tryz.ntmps106
 go_wp2_with fail
 have hB : Blk (w.alloc (.cells zW 62)) w.heap.size zW 62 := Blk.new _ _ _
 have hb : Bel w (w.alloc (.cells zW 62)) := bel_alloc (Below.refl _ _) _
 have hsz0 : w.heap.size < (w.alloc (.cells zW 62)).heap.size := hB.lt
 generalize w.alloc (.cells zW 62) = W0 at hB hb hsz0 ⊢
 refine (nodeNew1_w _).mono ?_
 rintro e w1 ⟨b1, rfl, hk1, hq1, hb1⟩
 have HK1 := Lib.hid hk1
 have hk1lt := hk1.lt
 clear hk1
 have HB := Lib.hid (hB.bel hb1)
 have HW := Lib.hid (hb.tr hb1)
 clear hB hb hb1
 go_wp2_with fail
 have hN : Blk (w1.alloc (.cells #[.bool true, .int .i64 1, .bool true, .bool true, .slice (some ⟨b1, 0, none⟩) 0 0] 25)) w1.heap.size #[.bool true, .int .i64 1, .bool true, .bool true, .slice (some ⟨b1, 0, none⟩) 0 0] 25 := Blk.new _ _ _
 have hb : Bel w1 (w1.alloc (.cells #[.bool true, .int .i64 1, .bool true, .bool true, .slice (some ⟨b1, 0, none⟩) 0 0] 25)) := bel_alloc (Below.refl _ _) _
 have hlt := HB.out.lt
 generalize w1.alloc (.cells #[.bool true, .int .i64 1, .bool true, .bool true, .slice (some ⟨b1, 0, none⟩) 0 0] 25) = W2 at hN hb ⊢
 obtain ⟨n1, hn1⟩ : ∃ b, w1.heap.size = b := ⟨_, rfl⟩
 rw [hn1] at hN hlt hk1lt ⊢
 clear hn1
 refine (nodeNew2_w _).mono ?_
 rintro e w3 ⟨b2, rfl, hk2, hq2, hb3⟩
 have HK2 := Lib.hid hk2
 clear hk2
 have hN2lt := hN.lt
 replace HB := Lib.hid (HB.out.bel (hb.tr hb3))
 replace HK1 := Lib.hid (HK1.out.bel (hb.tr hb3))
 have HN := Lib.hid (hN.bel hb3)
 replace HW := Lib.hid (HW.out.tr (hb.tr hb3))
 clear hN hb hb3
 obtain ⟨q0, q1, q2, q3, q4, q5, f0, f1, f2, f3, f4, f5, y⟩ := k6f HB.out
 obtain ⟨m0, m1, m2, m3, m4, ym⟩ := k5c HN.out
 have y1 : w.heap.size < w3.heap.size + 1 := by omega
 have y2 : w.heap.size < w3.heap.size + 1 + 1 := by omega
 have y3 : w.heap.size < w3.heap.size + 1 + 1 + 1 := by omega
 have z0 : ¬ w.heap.size = w3.heap.size := by omega
 have z1 : ¬ w.heap.size = w3.heap.size + 1 := by omega
 have z2 : ¬ w.heap.size = w3.heap.size + 1 + 1 := by omega
 have z3 : ¬ w.heap.size = w3.heap.size + 1 + 1 + 1 := by omega
 go_wp2
 have hR0 := HB.out.set 0 (.slice (some ⟨w3.heap.size + 1, 0, none⟩) 2 2) (cs' := #[.slice (some ⟨w3.heap.size + 1, 0, none⟩) 2 2, .int .i64 0, .int .i64 0, .bool false, .slice none 0 0, .slice none 0 0]) rfl
 have hR1 := hR0.set 1 (.int .i64 1) (cs' := #[.slice (some ⟨w3.heap.size + 1, 0, none⟩) 2 2, .int .i64 1, .int .i64 0, .bool false, .slice none 0 0, .slice none 0 0]) rfl
 have hR2 := hR1.set 2 (.int .i64 1) (cs' := #[.slice (some ⟨w3.heap.size + 1, 0, none⟩) 2 2, .int .i64 1, .int .i64 1, .bool false, .slice none 0 0, .slice none 0 0]) rfl
 have hR3 := hR2.set 3 (.bool false) (cs' := #[.slice (some ⟨w3.heap.size + 1, 0, none⟩) 2 2, .int .i64 1, .int .i64 1, .bool false, .slice none 0 0, .slice none 0 0]) rfl
 have hR4 := hR3.set 4 (.slice (some ⟨w3.heap.size + 1 + 1, 0, none⟩) 0 0) (cs' := #[.slice (some ⟨w3.heap.size + 1, 0, none⟩) 2 2, .int .i64 1, .int .i64 1, .bool false, .slice (some ⟨w3.heap.size + 1 + 1, 0, none⟩) 0 0, .slice none 0 0]) rfl
 have hR5 := hR4.set 5 (.slice (some ⟨w3.heap.size + 1 + 1 + 1, 0, none⟩) 0 0) (cs' := #[.slice (some ⟨w3.heap.size + 1, 0, none⟩) 2 2, .int .i64 1, .int .i64 1, .bool false, .slice (some ⟨w3.heap.size + 1 + 1, 0, none⟩) 0 0, .slice (some ⟨w3.heap.size + 1 + 1 + 1, 0, none⟩) 0 0]) rfl
 have hbl : Bel w ((((((w3.setCell ⟨w.heap.size, 0, none⟩ (.slice (some ⟨w3.heap.size + 1, 0, none⟩) 2 2)).setCell ⟨w.heap.size, 1, none⟩ (.int .i64 1)).setCell ⟨w.heap.size, 2, none⟩ (.int .i64 1)).setCell ⟨w.heap.size, 3, none⟩ (.bool false)).setCell ⟨w.heap.size, 4, none⟩ (.slice (some ⟨w3.heap.size + 1 + 1, 0, none⟩) 0 0)).setCell ⟨w.heap.size, 5, none⟩ (.slice (some ⟨w3.heap.size + 1 + 1 + 1, 0, none⟩) 0 0)) := (bel_set (bel_set (bel_set (bel_set (bel_set (bel_set HW.out (Nat.le_refl _) 0 (.slice (some ⟨w3.heap.size + 1, 0, none⟩) 2 2)) (Nat.le_refl _) 1 (.int .i64 1)) (Nat.le_refl _) 2 (.int .i64 1)) (Nat.le_refl _) 3 (.bool false)) (Nat.le_refl _) 4 (.slice (some ⟨w3.heap.size + 1 + 1, 0, none⟩) 0 0)) (Nat.le_refl _) 5 (.slice (some ⟨w3.heap.size + 1 + 1 + 1, 0, none⟩) 0 0))
 have hsz : ((((((w3.setCell ⟨w.heap.size, 0, none⟩ (.slice (some ⟨w3.heap.size + 1, 0, none⟩) 2 2)).setCell ⟨w.heap.size, 1, none⟩ (.int .i64 1)).setCell ⟨w.heap.size, 2, none⟩ (.int .i64 1)).setCell ⟨w.heap.size, 3, none⟩ (.bool false)).setCell ⟨w.heap.size, 4, none⟩ (.slice (some ⟨w3.heap.size + 1 + 1, 0, none⟩) 0 0)).setCell ⟨w.heap.size, 5, none⟩ (.slice (some ⟨w3.heap.size + 1 + 1 + 1, 0, none⟩) 0 0)).heap.size = w3.heap.size := by simp
 clear hR0 hR1 hR2 hR3 hR4
 have hk1 : Blk ((((((w3.setCell ⟨w.heap.size, 0, none⟩ (.slice (some ⟨w3.heap.size + 1, 0, none⟩) 2 2)).setCell ⟨w.heap.size, 1, none⟩ (.int .i64 1)).setCell ⟨w.heap.size, 2, none⟩ (.int .i64 1)).setCell ⟨w.heap.size, 3, none⟩ (.bool false)).setCell ⟨w.heap.size, 4, none⟩ (.slice (some ⟨w3.heap.size + 1 + 1, 0, none⟩) 0 0)).setCell ⟨w.heap.size, 5, none⟩ (.slice (some ⟨w3.heap.size + 1 + 1 + 1, 0, none⟩) 0 0)) b1 #[] 27 := Blk.apartS (show w.heap.size ≠ b1 by omega) [.slice (some ⟨w3.heap.size + 1, 0, none⟩) 2 2, .int .i64 1, .int .i64 1, .bool false, .slice (some ⟨w3.heap.size + 1 + 1, 0, none⟩) 0 0, .slice (some ⟨w3.heap.size + 1 + 1 + 1, 0, none⟩) 0 0] 0 HK1.out
 have hk2 : Blk ((((((w3.setCell ⟨w.heap.size, 0, none⟩ (.slice (some ⟨w3.heap.size + 1, 0, none⟩) 2 2)).setCell ⟨w.heap.size, 1, none⟩ (.int .i64 1)).setCell ⟨w.heap.size, 2, none⟩ (.int .i64 1)).setCell ⟨w.heap.size, 3, none⟩ (.bool false)).setCell ⟨w.heap.size, 4, none⟩ (.slice (some ⟨w3.heap.size + 1 + 1, 0, none⟩) 0 0)).setCell ⟨w.heap.size, 5, none⟩ (.slice (some ⟨w3.heap.size + 1 + 1 + 1, 0, none⟩) 0 0)) b2 #[] 27 := Blk.apartS (show w.heap.size ≠ b2 by omega) [.slice (some ⟨w3.heap.size + 1, 0, none⟩) 2 2, .int .i64 1, .int .i64 1, .bool false, .slice (some ⟨w3.heap.size + 1 + 1, 0, none⟩) 0 0, .slice (some ⟨w3.heap.size + 1 + 1 + 1, 0, none⟩) 0 0] 0 HK2.out
 have hk2lt := HK2.out.lt
 generalize ((((((w3.setCell ⟨w.heap.size, 0, none⟩ (.slice (some ⟨w3.heap.size + 1, 0, none⟩) 2 2)).setCell ⟨w.heap.size, 1, none⟩ (.int .i64 1)).setCell ⟨w.heap.size, 2, none⟩ (.int .i64 1)).setCell ⟨w.heap.size, 3, none⟩ (.bool false)).setCell ⟨w.heap.size, 4, none⟩ (.slice (some ⟨w3.heap.size + 1 + 1, 0, none⟩) 0 0)).setCell ⟨w.heap.size, 5, none⟩ (.slice (some ⟨w3.heap.size + 1 + 1 + 1, 0, none⟩) 0 0)) = W5 at hR5 hbl hsz hk1 hk2 ⊢
 clear HK1 HK2
 have hN : Blk ((W5.alloc (.cells #[.bool true, .int .i64 0, .bool false, .bool false, .slice (some ⟨b2, 0, none⟩) 0 0] 25)).alloc (.cells #[.bool true, .int .i64 1, .bool true, .bool true, .slice (some ⟨b1, 0, none⟩) 0 0, .bool true, .int .i64 0, .bool false, .bool false, .slice (some ⟨b2, 0, none⟩) 0 0] 25)) (W5.heap.size + 1) #[.bool true, .int .i64 1, .bool true, .bool true, .slice (some ⟨b1, 0, none⟩) 0 0, .bool true, .int .i64 0, .bool false, .bool false, .slice (some ⟨b2, 0, none⟩) 0 0] 25 := Blk.nw2 _ _ _ _
 rw [hsz] at hN
 refine bodyPost_ret (results_cell_row rfl _ _ w.heap.size 62 #[.slice (some ⟨w3.heap.size + 1, 0, none⟩) 2 2, .int .i64 1, .int .i64 1, .bool false, .slice (some ⟨w3.heap.size + 1 + 1, 0, none⟩) 0 0, .slice (some ⟨w3.heap.size + 1 + 1 + 1, 0, none⟩) 0 0] (0, 0) _ rfl ((((hR5.alloc (.cells #[.bool true, .int .i64 0, .bool false, .bool false, .slice (some ⟨b2, 0, none⟩) 0 0] 25)).alloc (.cells #[.bool true, .int .i64 1, .bool true, .bool true, .slice (some ⟨b1, 0, none⟩) 0 0, .bool true, .int .i64 0, .bool false, .bool false, .slice (some ⟨b2, 0, none⟩) 0 0] 25)).alloc (.cells #[] 29)).alloc (.cells #[] 27)) Tryz.underlying62 rfl (by kernel_rfl)) rfl ?_
 have hbx : Bel W5 ((W5.alloc (.cells #[.bool true, .int .i64 0, .bool false, .bool false, .slice (some ⟨b2, 0, none⟩) 0 0] 25)).alloc (.cells #[.bool true, .int .i64 1, .bool true, .bool true, .slice (some ⟨b1, 0, none⟩) 0 0, .bool true, .int .i64 0, .bool false, .bool false, .slice (some ⟨b2, 0, none⟩) 0 0] 25)) := bel_alloc (bel_alloc (Below.refl _ _) _) _
 have hbm : Bel ((W5.alloc (.cells #[.bool true, .int .i64 0, .bool false, .bool false, .slice (some ⟨b2, 0, none⟩) 0 0] 25)).alloc (.cells #[.bool true, .int .i64 1, .bool true, .bool true, .slice (some ⟨b1, 0, none⟩) 0 0, .bool true, .int .i64 0, .bool false, .bool false, .slice (some ⟨b2, 0, none⟩) 0 0] 25)) (((W5.alloc (.cells #[.bool true, .int .i64 0, .bool false, .bool false, .slice (some ⟨b2, 0, none⟩) 0 0] 25)).alloc (.cells #[.bool true, .int .i64 1, .bool true, .bool true, .slice (some ⟨b1, 0, none⟩) 0 0, .bool true, .int .i64 0, .bool false, .bool false, .slice (some ⟨b2, 0, none⟩) 0 0] 25)).alloc (.cells #[] 29)) := bel_alloc (Below.refl _ _) _
 have hbo : Bel (((W5.alloc (.cells #[.bool true, .int .i64 0, .bool false, .bool false, .slice (some ⟨b2, 0, none⟩) 0 0] 25)).alloc (.cells #[.bool true, .int .i64 1, .bool true, .bool true, .slice (some ⟨b1, 0, none⟩) 0 0, .bool true, .int .i64 0, .bool false, .bool false, .slice (some ⟨b2, 0, none⟩) 0 0] 25)).alloc (.cells #[] 29)) ((((W5.alloc (.cells #[.bool true, .int .i64 0, .bool false, .bool false, .slice (some ⟨b2, 0, none⟩) 0 0] 25)).alloc (.cells #[.bool true, .int .i64 1, .bool true, .bool true, .slice (some ⟨b1, 0, none⟩) 0 0, .bool true, .int .i64 0, .bool false, .bool false, .slice (some ⟨b2, 0, none⟩) 0 0] 25)).alloc (.cells #[] 29)).alloc (.cells #[] 27)) := bel_alloc (Below.refl _ _) _
 have e1 : (((W5.alloc (.cells #[.bool true, .int .i64 0, .bool false, .bool false, .slice (some ⟨b2, 0, none⟩) 0 0] 25)).alloc (.cells #[.bool true, .int .i64 1, .bool true, .bool true, .slice (some ⟨b1, 0, none⟩) 0 0, .bool true, .int .i64 0, .bool false, .bool false, .slice (some ⟨b2, 0, none⟩) 0 0] 25))).heap.size = w3.heap.size + 1 + 1 := by simp [hsz]
 have e2 : (((W5.alloc (.cells #[.bool true, .int .i64 0, .bool false, .bool false, .slice (some ⟨b2, 0, none⟩) 0 0] 25)).alloc (.cells #[.bool true, .int .i64 1, .bool true, .bool true, .slice (some ⟨b1, 0, none⟩) 0 0, .bool true, .int .i64 0, .bool false, .bool false, .slice (some ⟨b2, 0, none⟩) 0 0] 25)).alloc (.cells #[] 29)).heap.size = w3.heap.size + 1 + 1 + 1 := by simp [hsz]
 have hm : OwnM (((W5.alloc (.cells #[.bool true, .int .i64 0, .bool false, .bool false, .slice (some ⟨b2, 0, none⟩) 0 0] 25)).alloc (.cells #[.bool true, .int .i64 1, .bool true, .bool true, .slice (some ⟨b1, 0, none⟩) 0 0, .bool true, .int .i64 0, .bool false, .bool false, .slice (some ⟨b2, 0, none⟩) 0 0] 25)).alloc (.cells #[] 29)) w.heap.size (.slice (some ⟨(((W5.alloc (.cells #[.bool true, .int .i64 0, .bool false, .bool false, .slice (some ⟨b2, 0, none⟩) 0 0] 25)).alloc (.cells #[.bool true, .int .i64 1, .bool true, .bool true, .slice (some ⟨b1, 0, none⟩) 0 0, .bool true, .int .i64 0, .bool false, .bool false, .slice (some ⟨b2, 0, none⟩) 0 0] 25))).heap.size, 0, none⟩) 0 0) [] := ownM_empty _ _ (by rw [e1]; omega)
 have hd : Blk ((((W5.alloc (.cells #[.bool true, .int .i64 0, .bool false, .bool false, .slice (some ⟨b2, 0, none⟩) 0 0] 25)).alloc (.cells #[.bool true, .int .i64 1, .bool true, .bool true, .slice (some ⟨b1, 0, none⟩) 0 0, .bool true, .int .i64 0, .bool false, .bool false, .slice (some ⟨b2, 0, none⟩) 0 0] 25)).alloc (.cells #[] 29)).alloc (.cells #[] 27)) (((W5.alloc (.cells #[.bool true, .int .i64 0, .bool false, .bool false, .slice (some ⟨b2, 0, none⟩) 0 0] 25)).alloc (.cells #[.bool true, .int .i64 1, .bool true, .bool true, .slice (some ⟨b1, 0, none⟩) 0 0, .bool true, .int .i64 0, .bool false, .bool false, .slice (some ⟨b2, 0, none⟩) 0 0] 25)).alloc (.cells #[] 29)).heap.size #[] 27 := Blk.new _ _ _
 rw [e1] at hm
 rw [e2] at hd
 have hk1' := (hk1.bel hbx).bel (hbm.tr hbo)
 have hk2' := (hk2.bel hbx).bel (hbm.tr hbo)
 have f1 : Fine [] := fine_nil
 refine ⟨w3.heap.size + 1, ⟨⟨true, 1, true, true, []⟩, some ⟨b1, 0, none⟩, 0⟩, ⟨⟨true, 0, false, false, []⟩, some ⟨b2, 0, none⟩, 0⟩, _, 0, _, 0, rfl, ⟨((hN.alloc _).alloc _), by omega, ?_, .inl rfl, by omega⟩, hbl.tr (hbx.tr (hbm.tr hbo))⟩
 refine ⟨NOk.of (n := ⟨true, 1, true, true, []⟩) f1 (ownT_emp hk1' (by omega)), NOk.of (n := ⟨true, 0, false, false, []⟩) f1 (ownT_emp hk2' (by omega)), ?_, hm.bel hbo, fun x hx => (by cases hx), fun x hx => (by cases hx), fun x hx => (by cases hx), ownT_emp hd (by omega), ?_, ?_, Nat.zero_le _, Nat.zero_le _, fun x hx => (by cases hx)⟩
 ·intro k h1 h2
  have h1 : some b1 = some k := h1
  have h2 : some b2 = some k := h2
  injection h1 with h1
  injection h2 with h2
  omega
 ·intro k h1 h2
  have h1 : some b1 = some k := h1
  have h2 : some (w3.heap.size + 1 + 1 + 1) = some k := h2
  injection h1 with h1
  injection h2 with h2
  omega
 ·intro k h1 h2
  have h1 : some b2 = some k := h1
  have h2 : some (w3.heap.size + 1 + 1 + 1) = some k := h2
  injection h1 with h1
  injection h2 with h2
  omega
theorem info_event : (Tryz.prog.info? 135).map (fun i => (i.zero, i.size, i.bytes)) = some (some (.agg #[.int .i64 0, .int .i64 0, .int .i64 0, .string ⟨#[]⟩, .string ⟨#[]⟩, .int .i64 0, .string ⟨#[]⟩]), 7, 80) := by kernel_rfl
theorem Rd.low {W W' : World} {rb k : Nat} (h : Rd W rb k) (hb : ∀ j, j ≤ rb → W'.heap[j]? = W.heap[j]?) : Rd W' rb k := by
 obtain ⟨A, c, bs, p, h1, h2, h3, h4, h5, h6⟩ := h.h
 refine ⟨⟨A, c, bs, p, (hb rb (Nat.le_refl _)).trans h1, ?_, h3, h4, h5, h6⟩⟩
 refine ⟨h2.1, h2.2.1, fun h0 => ?_⟩
 obtain ⟨ad, e, hh⟩ := h2.2.2 h0
 refine ⟨ad, e, fun j q hj => ?_⟩
 obtain ⟨c, g1, g2, g3⟩ := hh j q hj
 refine ⟨c, g1, g2, fun i u hu => ?_⟩
 have h7 := g3 i u hu
 have h8 := h6 ad e
 have h9 := hb ad.block (by omega)
 have h10 : ∀ n, (ad.add n).block = ad.block := add_block ad
 unfold World.cell? at h7 ⊢
 rw [h10, h9]
 rw [h10] at h7
 exact h7
theorem Rd.turn {W W' : World} {rb k base : Nat} (h : Rd W rb k) (hT : Turn base W W') (hb : rb < base) : Rd W' rb k := h.low fun j hj => hT.below j (by have := h.lt; omega) (by omega)
structure PlS (w W : World) (rb k base nw : Nat) (wv : Array Value) (v5 : Value) (ne : Nat) (es : List Value) : Prop where
  res : Blk W w.heap.size zW 62
  var : Blk W nw wv 62
  rd : Rd W rb k
  row : W.ownsRow w.heap.size 135 7 v5 ne es
  gr : w.grownBy W (some rb)
  l1 : rb < w.heap.size
  l2 : w.heap.size < base
  l3 : base ≤ nw
section
variable {w W W' : World} {rb k k' base nw ne ne' : Nat} {wv wv' : Array Value} {v5 v5' : Value} {es es' : List Value}
theorem PlS.step (h : PlS w W rb k base nw wv v5 ne es) (hR : Rd W' rb k') (hg : W.grownBy W' (some rb)) : PlS w W' rb k' base nw wv v5 ne es := by
 obtain ⟨A, c, bs, q, hB, _⟩ := h.rd.h
 refine ⟨h.res.grown hg (fun e => by injection e with e; have := h.l1; omega), h.var.grown hg (fun e => by injection e with e; have := h.l1; have := h.l2; have := h.l3; omega), hR, World.ownsRow.kept h.row hg (.inr fun e => ?_), grown_tr h.gr hg, h.l1, h.l2, h.l3⟩
 obtain ⟨cs, hc⟩ := own_type h.row e
 exact absurd (blk_one hB hc) (by decide)
theorem PlS.bel (h : PlS w W rb k base nw wv v5 ne es) (hb : Bel W W') : PlS w W' rb k base nw wv v5 ne es :=
 ⟨h.res.bel hb, h.var.bel hb, h.rd.bel hb, pw_own_below h.row hb, grown_tr h.gr (grown_of_bel hb _), h.l1, h.l2, h.l3⟩
theorem PlS.turn (h : PlS w W rb k base nw wv v5 ne es) (hT : Turn base W W') : PlS w W' rb k base nw wv v5 ne es :=
  ⟨hT.other _ _ _ h.res (by decide) (by decide) (by decide), hT.other _ _ _ h.var (by decide) (by decide) (by decide), h.rd.turn hT (by have := h.l1; have := h.l2; omega),
   own_move h.row (fun k hk => by obtain ⟨cs, hc⟩ := own_type h.row hk; exact (hT.other k cs _ hc (by decide) (by decide) (by decide)).trans hc.symm),
   ⟨hT.os.trans h.gr.os, hT.tape.trans h.gr.tape, hT.output.trans h.gr.output, Nat.le_trans h.gr.size hT.size, fun i hi hne => (hT.below i (Nat.lt_of_lt_of_le hi h.gr.size) (by have := h.l2; omega)).trans (h.gr.block i hi hne)⟩, h.l1, h.l2, h.l3⟩
theorem PlS.setw (h : PlS w W rb k base nw wv v5 ne es) (vs : List Value) (hl : wv.size = vs.length) : PlS w (wsets W nw 0 vs) rb k base nw vs.toArray v5 ne es := by
 have hn : w.heap.size < nw := by have := h.l2; have := h.l3; omega
 refine ⟨Blk.apartS (by omega) vs 0 h.res, h.var.sets vs hl, Rd.sets (by have := h.l1; omega) vs 0 h.rd, World.ownsRow.kept h.row (grown_wsets nw vs W 0) (.inr fun e => ?_), grown_sets (Nat.le_of_lt hn) vs 0 h.gr, h.l1, h.l2, h.l3⟩
 obtain ⟨cs, hc⟩ := own_type h.row e
 exact absurd (blk_one h.var hc) (by decide)
theorem PlS.app (h : PlS w W rb k base nw wv v5 ne es) (hg : W.grownBy W' v5.ownBlock) (hr : W'.ownsRow w.heap.size 135 7 v5' ne' es') : PlS w W' rb k base nw wv v5' ne' es' := by
 have hk : ∀ b, v5.ownBlock = some b → w.heap.size ≤ b ∧ ∃ cs, W.heap[b]? = some (.cells cs 135 (0, 0)) := fun b e => ⟨own_base h.row b e, own_type h.row e⟩
 have hne : ∀ {b : Nat} {cs : Array Value} {t : TypeId}, Blk W b cs t → 135 ≠ t → some b ≠ v5.ownBlock := fun hB ht e => by
  obtain ⟨_, cs, hc⟩ := hk _ e.symm
  exact ht (blk_one hc hB)
 refine ⟨h.res.grown hg (hne h.res (by decide)), h.var.grown hg (hne h.var (by decide)), h.rd.grown hg (fun b e => by have := (hk b e).1; have := h.l1; omega), hr, ?_, h.l1, h.l2, h.l3⟩
 exact grown_own h.gr hg (fun b e => (hk b e).1)
end
theorem PlS.more {w W : World} {rb k k' base nw ne : Nat} {wv : Array Value} {v5 : Value} {es : List Value} (h : PlS w W rb k base nw wv v5 ne es) (hk : k ≤ k') : PlS w W rb k' base nw wv v5 ne es := ⟨h.res, h.var, h.rd.more hk, h.row, h.gr, h.l1, h.l2, h.l3⟩
theorem WI.kept {w w' : World} {base g : Nat} {a b : NVl} {term lead : Int} {vn vd : Value} {xs : List LV} {ds : List Op} {r : Option Nat} (h : WI w base g a b term lead vn xs vd ds) (hg : w.grownBy w' r) (hr : ∀ k, r = some k → ∃ cs t, Blk w k cs t ∧ 27 ≠ t ∧ 29 ≠ t ∧ 25 ≠ t) : WI w' base g a b term lead vn xs vd ds :=
 ⟨h.blk.grown hg (fun e => by obtain ⟨cs, t, hB, _, _, h3⟩ := hr g e.symm; exact h3 (blk_one h.blk hB)), h.ge, h.o.kept hg (fun k e => by obtain ⟨cs, t, hB, h1, h2, _⟩ := hr k e; exact ⟨cs, t, hB, h1, h2⟩), h.lead, h.term⟩
theorem l72Event_c {w : World} {V D : Option Addr} {base g rb k vc dc : Nat} {a b : NVl} {both : Bool} {term lead : Int} {ds : List Op} {xs : List LV} (h : Rd w rb k) (hk : k ≤ 1099511300000) (hrb : rb < base) (hI : WI w base g a b term lead (.slice V xs.length vc) xs (.slice D ds.length dc) ds) (hbase : base ≤ w.heap.size) :
  Calls Tryz.prog 107 #[.pointer (some ⟨rb, 0, none⟩), .agg #[.slice (some ⟨g, 0, none⟩) 2 2, .int .i64 term, .int .i64 lead, .bool both, .slice V xs.length vc, .slice D ds.length dc]] w (Drawn rb k 300 EvV w) := by
 obtain ⟨j, hj, rfl⟩ := idxJ hI.lead
 obtain ⟨⟨⟨au, ta, al, aa, xa⟩, A, ac⟩, y, hJ⟩ := hI.toJ hj
 exact l72Event_j h hk hrb hJ hbase
theorem l22Do_g {w : World} {V D : Option Addr} {base g vc dc : Nat} {a b : NVl} {both : Bool} {term lead ek ea : Int} {ds : List Op} {xs : List LV} {eo : Op} (hI : WI w base g a b term lead (.slice V xs.length vc) xs (.slice D ds.length dc) ds) (hbase : base ≤ w.heap.size) (hso : SmallO eo) :
  Calls Tryz.prog 108 #[.agg #[.slice (some ⟨g, 0, none⟩) 2 2, .int .i64 term, .int .i64 lead, .bool both, .slice V xs.length vc, .slice D ds.length dc], .agg #[.int .i64 ek, .int .i64 ea, .int .i64 eo.kind, .string eo.name, .string eo.dest, .int .i64 eo.n, .string eo.text]] w (WRes base w) := by
 exact l22Do_c hI hbase hso
def PlayOut (rb k d : Nat) (w : World) (e : Ending) (w' : World) : Prop :=
 ∃ (v5 : Value) (base g : Nat) (a b : NVl) (term lead : Int) (both : Bool) (V : Option Addr) (xs : List LV) (vc : Nat) (D : Option Addr) (ds : List Op) (dc : Nat), e = .returned (.tuple #[v5, .agg #[.slice (some ⟨g, 0, none⟩) 2 2, .int .i64 term, .int .i64 lead, .bool both, .slice V xs.length vc, .slice D ds.length dc]]) ∧ WI w' base g a b term lead (.slice V xs.length vc) xs (.slice D ds.length dc) ds ∧ w.heap.size ≤ base ∧ base ≤ w'.heap.size ∧ Rd w' rb (k + d) ∧ w.grownBy w' (some rb)
theorem l72Play_c {w : World} {rb k : Nat} (h : Rd w rb k) (hk : k ≤ 1099511000000) :
  Calls Tryz.prog 76 #[.pointer (some ⟨rb, 0, none⟩)] w (PlayOut rb k 20000 w) := by
 have H := Lib.hid h
 have hlt := h.lt
 clear h
 go_enter Tryz.func76, Tryz.ntmps76
 go_wp2_with fail
 have hR0 : Blk (w.alloc (.cells zW 62)) w.heap.size zW 62 := Blk.new _ _ _
 have hb0 : Bel w (w.alloc (.cells zW 62)) := bel_alloc (Below.refl _ _) _
 have hsz0 : (w.alloc (.cells zW 62)).heap.size = w.heap.size + 1 := by simp
 generalize (w.alloc (.cells zW 62)) = W0 at hR0 hb0 hsz0 ⊢
 refine (worldNew_w _).mono ?_
 rintro e w1 ⟨g, a, b, V, vc, D, dc, rfl, hI, hb1⟩
 rw [hsz0] at hI
 have HS1 := Lib.hid (And.intro (hb0.tr hb1) (And.intro (hR0.bel hb1) hI))
 have hl1 : w.heap.size + 1 ≤ w1.heap.size := by have := Below.size hb1; omega
 clear hR0 hb0 hsz0 hb1 hI
 go_wp2_with fail
 have hb2 : Bel w1 ((w1.alloc (.cells #[.slice (some ⟨g, 0, none⟩) 2 2, .int .i64 1, .int .i64 1, .bool false, .slice V 0 vc, .slice D 0 dc] 62)).alloc (.cells #[] 135)) := bel_alloc (bel_alloc (Below.refl _ _) _) _
 have hrow : (((w1.alloc (.cells #[.slice (some ⟨g, 0, none⟩) 2 2, .int .i64 1, .int .i64 1, .bool false, .slice V 0 vc, .slice D 0 dc] 62)).alloc (.cells #[] 135))).ownsRow w.heap.size 135 7 (.slice (some ⟨w1.heap.size + 1, 0, none⟩) 0 0) 0 [] := (show (w1.alloc (.cells #[.slice (some ⟨g, 0, none⟩) 2 2, .int .i64 1, .int .i64 1, .bool false, .slice V 0 vc, .slice D 0 dc] 62)).heap.size = w1.heap.size + 1 by simp) ▸ own_empty _ w.heap.size 135 7 (by simp; omega)
 have HST : Hid (PlS w ((w1.alloc (.cells #[.slice (some ⟨g, 0, none⟩) 2 2, .int .i64 1, .int .i64 1, .bool false, .slice V 0 vc, .slice D 0 dc] 62)).alloc (.cells #[] 135)) rb k (w.heap.size + 1) w1.heap.size #[.slice (some ⟨g, 0, none⟩) 2 2, .int .i64 1, .int .i64 1, .bool false, .slice V 0 vc, .slice D 0 dc] (.slice (some ⟨w1.heap.size + 1, 0, none⟩) 0 0) 0 []) := Lib.hid ⟨HS1.out.2.1.bel hb2, (Blk.new w1 _ _).alloc _, H.out.bel (HS1.out.1.tr hb2), hrow, grown_of_bel (HS1.out.1.tr hb2) _, hlt, Nat.lt_succ_self _, hl1⟩
 have HI := Lib.hid (HS1.out.2.2.bel hb2)
 clear hb2 hrow HS1
 generalize ((w1.alloc (.cells #[.slice (some ⟨g, 0, none⟩) 2 2, .int .i64 1, .int .i64 1, .bool false, .slice V 0 vc, .slice D 0 dc] 62)).alloc (.cells #[] 135)) = W4 at HST HI ⊢
 obtain ⟨nw, hnw⟩ : ∃ n, w1.heap.size = n := ⟨_, rfl⟩
 rw [hnw] at HST hl1 ⊢
 clear hnw
 refine (pick_c HST.out.rd (by omega) 55 (by omega)).mono ?_
 rintro e w5 ⟨pv, rfl, ⟨r, rfl, hr0, hr1, -⟩, hRp, hgp⟩
 have hr1 := hr1 (by omega)
 obtain ⟨n, rfl⟩ : ∃ n : Nat, r = (n : Int) := ⟨r.toNat, by omega⟩
 have HI5 := Lib.hid (HI.out.rd HST.out.rd hgp)
 have HST5 := Lib.hid (HST.out.step hRp hgp)
 clear hRp hgp HI HST hr0
 go_wp2
 go_loopg [5, 6] n (fun gg v5 v6 W => ∃ (r ne : Nat) (es : List Value) (g : Nat) (a b : NVl) (term lead : Int) (both : Bool) (V : Option Addr) (xs : List LV) (vc : Nat) (D : Option Addr) (ds : List Op) (dc : Nat), r + gg = n ∧ v6 = .int .i64 gg ∧ ne ≤ r ∧ Hid (PlS w W rb (k + 1 + 300 * r) (w.heap.size + 1) nw (wC g term lead both V xs vc D ds dc) v5 ne es) ∧ Hid (WI W (w.heap.size + 1) g a b term lead (.slice V xs.length vc) xs (.slice D ds.length dc) ds))
 case atStart => exact ⟨0, 0, [], g, a, b, 1, 1, false, V, [], vc, D, [], dc, by omega, rfl, Nat.le_refl _, HST5, HI5⟩
 case round =>
  clear HI5 HST5
  obtain ⟨r, ne, es, g, a, b, term, lead, both, V, xs, vc, D, ds, dc, hrn, rfl, hne, HST, HI⟩ := hrel
  obtain ⟨A5, c5, rfl, hc5⟩ := own_cap HST.out.row
  by_cases hpos : (0 : Int) < (gk : Int)
  ·have q0 := blkn HST.out.var 0 _ rfl
   have q1 := blkn HST.out.var 1 _ rfl
   have q2 := blkn HST.out.var 2 _ rfl
   have q3 := blkn HST.out.var 3 _ rfl
   have q4 := blkn HST.out.var 4 _ rfl
   have q5 := blkn HST.out.var 5 _ rfl
   go_wp2_with fail
   clear q0 q1 q2 q3 q4 q5
   refine (l72Event_c HST.out.rd (by omega) (by omega) HI.out (by have := HST.out.var.lt; omega)).mono ?_
   rintro e w2 ⟨ev, rfl, ⟨ek, ea, eo, rfl, hso⟩, hRp, hgp⟩
   have HI2 := Lib.hid (HI.out.rd HST.out.rd hgp)
   have HS2 := Lib.hid (HST.out.step hRp hgp)
   clear hRp hgp HI HST
   have hl2 : nw < w2.heap.size := HS2.out.var.lt
   have HS3 := Lib.hid (HS2.out.bel (bel_alloc (Below.refl _ _) (.cells #[.int .i64 ek, .int .i64 ea, .int .i64 eo.kind, .string eo.name, .string eo.dest, .int .i64 eo.n, .string eo.text] 135)))
   have HI3 := Lib.hid (HI2.out.bel (bel_alloc (Below.refl _ _) (.cells #[.int .i64 ek, .int .i64 ea, .int .i64 eo.kind, .string eo.name, .string eo.dest, .int .i64 eo.n, .string eo.text] 135)))
   have hE3 : Blk (w2.alloc (.cells #[.int .i64 ek, .int .i64 ea, .int .i64 eo.kind, .string eo.name, .string eo.dest, .int .i64 eo.n, .string eo.text] 135)) w2.heap.size #[.int .i64 ek, .int .i64 ea, .int .i64 eo.kind, .string eo.name, .string eo.dest, .int .i64 eo.n, .string eo.text] 135 := Blk.new _ _ _
   have hlr : ∀ k, (Value.slice A5 ne c5).ownBlock = some k → k < w2.heap.size := fun k hk => own_block_lt HS2.out.row hk
   have hrt : ∀ k, (Value.slice A5 ne c5).ownBlock = some k → ∃ cs t, Blk (w2.alloc (.cells #[.int .i64 ek, .int .i64 ea, .int .i64 eo.kind, .string eo.name, .string eo.dest, .int .i64 eo.n, .string eo.text] 135)) k cs t ∧ 27 ≠ t ∧ 29 ≠ t ∧ 25 ≠ t := fun k hk => by obtain ⟨cs, hc⟩ := own_type HS3.out.row hk; exact ⟨cs, _, hc, by decide, by decide, by decide⟩
   have HRT := Lib.hid hrt
   have HLR := Lib.hid hlr
   have HE3 := Lib.hid hE3
   clear hrt hlr hE3 HS2 HI2
   go_wp2_with (
    at_builtin
    refine print_append_cells (w0 := (w2.alloc (.cells #[.int .i64 ek, .int .i64 ea, .int .i64 eo.kind, .string eo.name, .string eo.dest, .int .i64 eo.n, .string eo.text] 135))) w.heap.size rfl (.tmp 19) (.tmp 21) 104 135 (.agg #[.int .i64 0, .int .i64 0, .int .i64 0, .string ⟨#[]⟩, .string ⟨#[]⟩, .int .i64 0, .string ⟨#[]⟩]) 7 80 rfl Tryz.underlying104 info_event rfl (by decide) (by decide) _ ne es [.int .i64 ek, .int .i64 ea, .int .i64 eo.kind, .string eo.name, .string eo.dest, .int .i64 eo.n, .string eo.text] rfl (by show Value.slice (some ⟨_, 0, none⟩) 1 1 = Value.slice (some ⟨_, 0, none⟩) 1 1; simp) rfl (by intro u hu; simp at hu; rcases hu with rfl | rfl | rfl | rfl | rfl | rfl | rfl <;> rfl) HS3.out.row (Below.refl _ _) HS3.out.gr.size (by omega) ?_
    intro v2 w5 hr2 hbq hgq hat2
    have HS5 := Lib.hid (HS3.out.app hgq hr2)
    have HI5 := Lib.hid (HI3.out.kept hgq HRT.out)
    have HE5 := Lib.hid (HE3.out.grown hgq (fun e => by have := HLR.out _ e.symm; omega))
    clear hr2 hbq hgq hat2 HS3 HI3 HE3 HRT HLR
    obtain ⟨eb, heb⟩ : ∃ n, w2.heap.size = n := ⟨_, rfl⟩
    rw [heb] at HE5 ⊢
    clear heb hl2
    obtain ⟨q0, q1, q2, q3, q4, q5, qy⟩ := k6c HS5.out.var
    obtain ⟨p0, p1, p2, p3, p4, p5, p6, -⟩ := k7c HE5.out
    have py := HE5.out.lt)
   refine (l22Do_g HI5.out (by have := HS5.out.var.lt; have := HS5.out.l3; omega) hso).mono ?_
   rintro e w8 ⟨g8, a8, b8, term8, lead8, both8, V8, xs8, vc8, D8, ds8, dc8, rfl, hI8, hT8⟩
   have HS8 := Lib.hid (HS5.out.turn hT8)
   have HI8 := Lib.hid hI8
   clear hI8 hT8 q0 q1 q2 q3 q4 q5 p0 p1 p2 p3 p4 p5 p6 qy py
   obtain ⟨q0, q1, q2, q3, q4, q5, f0, f1, f2, f3, f4, f5, qy⟩ := k6f HS8.out.var
   go_wp2
   clear q0 f0 q1 f1 q2 f2 q3 f3 q4 f4 q5 f5 qy
   go_roundg (gk - 1)
   case measure => omega
   case rel => exact ⟨r + 1, ne + 1, es ++ ([.int .i64 ek, .int .i64 ea, .int .i64 eo.kind, .string eo.name, .string eo.dest, .int .i64 eo.n, .string eo.text] : List Value), g8, a8, b8, term8, lead8, both8, V8, xs8, vc8, D8, ds8, dc8, by omega, int_eq (by omega), by omega, Lib.hid ((HS8.out.setw [.slice (some ⟨g8, 0, none⟩) 2 2, .int .i64 term8, .int .i64 lead8, .bool both8, .slice V8 xs8.length vc8, .slice D8 ds8.length dc8] rfl).more (by omega)), Lib.hid (HI8.out.sets HS8.out.var (by decide) (by decide) (by decide) [.slice (some ⟨g8, 0, none⟩) 2 2, .int .i64 term8, .int .i64 lead8, .bool both8, .slice V8 xs8.length vc8, .slice D8 ds8.length dc8] 0)⟩
  ·have hg0 : gk = 0 := by omega
   subst hg0
   go_wp2
   obtain ⟨q0, q1, q2, q3, q4, q5, f0, f1, f2, f3, f4, f5, qy⟩ := k6f HST.out.res
   refine start_ (n := 4) (S := fun w' => w'.cell? ⟨nw, 0, none⟩ = some (.slice (some ⟨g, 0, none⟩) 2 2) ∧ w'.cell? ⟨nw, 1, none⟩ = some (.int .i64 term) ∧ w'.cell? ⟨nw, 2, none⟩ = some (.int .i64 lead) ∧ w'.cell? ⟨nw, 3, none⟩ = some (.bool both) ∧ w'.cell? ⟨nw, 4, none⟩ = some (.slice V xs.length vc) ∧ w'.cell? ⟨nw, 5, none⟩ = some (.slice D ds.length dc)) (ds := [3]) #[F, F, F, F] (by kernel_rfl) rfl rfl ⟨(blkn (HST.out.var.bel bel_drew) 0 _ rfl), (blkn (HST.out.var.bel bel_drew) 1 _ rfl), (blkn (HST.out.var.bel bel_drew) 2 _ rfl), (blkn (HST.out.var.bel bel_drew) 3 _ rfl), (blkn (HST.out.var.bel bel_drew) 4 _ rfl), (blkn (HST.out.var.bel bel_drew) 5 _ rfl)⟩ (fun hHeld => ?_)
   refine py 0 (some 26) #[T, F, F, F] ?_
   refine py 2 (some 2) #[T, F, T, F] ?_
   refine ty 1 (some 27) #[T, T, T, F] (hS := hHeld) (hz := by rintro w' ⟨s0, s1, s2, s3, s4, s5⟩; go_simp; with_reducible rfl) (h := ?_)
   refine lx 3 none #[T, T, T, T] fun K hK => ?_
   refine sx ?_
   refine hK.out _ _ ?_
   clear hK K
   refine done_ (by kernel_rfl) ?_
   clear q0 f0 q1 f1 q2 f2 q3 f3 q4 f4 q5 f5 qy
   have hx2 := (HST.out.res.sets [.slice (some ⟨g, 0, none⟩) 2 2, .int .i64 term, .int .i64 lead, .bool both, .slice V xs.length vc, .slice D ds.length dc] rfl).bel bel_drew
   have hi2 := (HI.out.sets HST.out.res (by decide) (by decide) (by decide) [.slice (some ⟨g, 0, none⟩) 2 2, .int .i64 term, .int .i64 lead, .bool both, .slice V xs.length vc, .slice D ds.length dc] 0).bel bel_drew
   have hr2 := (Rd.sets (b := w.heap.size) HST.out.l1 [.slice (some ⟨g, 0, none⟩) 2 2, .int .i64 term, .int .i64 lead, .bool both, .slice V xs.length vc, .slice D ds.length dc] 0 HST.out.rd).bel bel_drew
   have hg2 := grown_tr (grown_sets (Nat.le_refl _) [.slice (some ⟨g, 0, none⟩) 2 2, .int .i64 term, .int .i64 lead, .bool both, .slice V xs.length vc, .slice D ds.length dc] 0 HST.out.gr) (grown_drew _ _)
   have hz2 : w.heap.size + 1 ≤ (wsets wr w.heap.size 0 [.slice (some ⟨g, 0, none⟩) 2 2, .int .i64 term, .int .i64 lead, .bool both, .slice V xs.length vc, .slice D ds.length dc]).drew.heap.size := by have h1 := HST.out.var.lt; have h2 := HST.out.l3; have h3 := wsets_size w.heap.size [.slice (some ⟨g, 0, none⟩) 2 2, .int .i64 term, .int .i64 lead, .bool both, .slice V xs.length vc, .slice D ds.length dc] wr 0; show w.heap.size + 1 ≤ (wsets wr w.heap.size 0 [.slice (some ⟨g, 0, none⟩) 2 2, .int .i64 term, .int .i64 lead, .bool both, .slice V xs.length vc, .slice D ds.length dc]).heap.size; omega
   go_wp2
   refine bodyPost_ret (results_tc rfl _ _ w.heap.size 62 (wC g term lead both V xs vc D ds dc) (0, 0) _ rfl hx2 Tryz.underlying62 rfl (by kernel_rfl)) rfl ?_
   exact ⟨_, _, g, a, b, term, lead, both, V, xs, vc, D, ds, dc, rfl, hi2, Nat.le_succ _, hz2, hr2.more (by omega), hg2⟩
theorem blk_cells5 {w : World} {b : Nat} {o : Op} (hB : Blk w b (oC o) 27) : ∀ j u, (encO o)[j]? = some u → w.cell? ((⟨b, 0, none⟩ : Addr).add j) = some u := by
 intro j u hj
 rw [Addr.add_lit, Nat.zero_add, hB.cell]
 simpa [encO] using hj
theorem DrawnL.more {l : Log} {n m : Nat} (h : DrawnL l n) (hm : n ≤ m) : DrawnL l m := ⟨h.small, Nat.le_trans h.len hm⟩
structure SN (w : World) (base : Nat) (x : NVl) : Prop where
  own : OwnT w base x.sl x.n.ops
  ops : SmallOs x.n.ops
  len : x.n.ops.length ≤ 20
structure SW (w : World) (base g : Nat) (a b : NVl) (vn : Value) (xs : List LV) : Prop where
  blk : Blk w g (encN a ++ encN b).toArray 25
  ge : base ≤ g
  oa : SN w base a
  ob : SN w base b
  nets : OwnM w base vn xs
  letter : ∀ x ∈ xs, LOk w base x
  many : xs.length ≤ 12
section
variable {w w' : World} {base g rb k : Nat} {a b x : NVl} {term lead : Int} {vn vd : Value} {xs : List LV} {ds : List Op} {r : Option Nat}
theorem SN.kept (h : SN w base x) (hg : w.grownBy w' r) (hne : ∀ k, x.sl.ownBlock = some k → r ≠ some k) : SN w' base x := ⟨h.own.kept hg hne, h.ops, h.len⟩
theorem SN.bel (h : SN w base x) (hb : Bel w w') : SN w' base x := ⟨h.own.bel hb, h.ops, h.len⟩
theorem WI.sw (h : WI w base g a b term lead vn xs vd ds) : SW w base g a b vn xs := ⟨h.blk, h.ge, ⟨h.o.oa.own, h.o.oa.ops, h.o.oa.len⟩, ⟨h.o.ob.own, h.o.ob.ops, h.o.ob.len⟩, h.o.nets, h.o.letter, h.o.many⟩
theorem SW.bel (h : SW w base g a b vn xs) (hb : Bel w w') : SW w' base g a b vn xs := ⟨h.blk.bel hb, h.ge, h.oa.bel hb, h.ob.bel hb, h.nets.bel hb, fun x hx => (h.letter x hx).bel hb, h.many⟩
theorem SW.kept (h : SW w base g a b vn xs) (hg : w.grownBy w' r) (hr : ∀ k, r = some k → ∃ cs t, Blk w k cs t ∧ 27 ≠ t ∧ 29 ≠ t ∧ 25 ≠ t) : SW w' base g a b vn xs := by
 have key : ∀ {v : Value} {os : List Op} {b0 : Nat}, OwnT w b0 v os → ∀ k, v.ownBlock = some k → r ≠ some k := fun hT k hk e => by
  obtain ⟨cs, t, hB, h1, _⟩ := hr k e
  exact blk_otherT hT hB h1 hk.symm
 refine ⟨h.blk.grown hg (fun e => by obtain ⟨cs, t, hB, _, _, h3⟩ := hr g e.symm; exact h3 (blk_one h.blk hB)), h.ge, h.oa.kept hg (key h.oa.own), h.ob.kept hg (key h.ob.own), h.nets.kept hg ?_, fun x hx => (h.letter x hx).kept hg (key (h.letter x hx).own), h.many⟩
 cases hv : vn.ownBlock with
 | none => exact .inl rfl
 | some k =>
  refine .inr fun e => ?_
  obtain ⟨cs, t, hB, _, h2, _⟩ := hr k e.symm
  exact own_neM h.nets hB h2 hv.symm
theorem SW.sets (h : SW w base g a b vn xs) {k : Nat} {cs : Array Value} {t : TypeId} (hB : Blk w k cs t) (h1 : 27 ≠ t) (h2 : 29 ≠ t) (h3 : 25 ≠ t) (vs : List Value) (j : Nat) : SW (wsets w k j vs) base g a b vn xs :=
 h.kept (grown_wsets k vs w j) (fun k' e => ⟨cs, t, by cases e; exact hB, h1, h2, h3⟩)
theorem SW.rd (h : SW w base g a b vn xs) (hR : Rd w rb k) (hg : w.grownBy w' (some rb)) : SW w' base g a b vn xs := by
 obtain ⟨A, c, bs, q, hB, _⟩ := hR.h
 exact h.kept hg (fun k e => ⟨_, _, by cases e; exact hB, by decide, by decide, by decide⟩)
theorem WI.growD (h : WI w base g a b term lead vn xs vd ds) (hg : w.grownBy w' vd.ownBlock) : SW w' base g a b vn xs :=
 ⟨h.blk.grown hg (blk_otherT h.o.done h.blk (by decide)), h.ge, h.sw.oa.kept hg (fun k hk e => h.o.da k hk e), h.sw.ob.kept hg (fun k hk e => h.o.db k hk e), own_keepT h.o.nets h.o.done hg, fun x hx => (h.o.letter x hx).kept hg (fun k hk e => h.o.ld x hx k e hk), h.o.many⟩
theorem node_cell {j : Nat} (hB : Blk w g (encN a ++ encN b).toArray 25) (hj : j < 2) : ∃ v, w.cell? ⟨g, j * 5 + 4, none⟩ = some v := by
 obtain rfl | rfl : j = 0 ∨ j = 1 := by omega
 ·exact ⟨_, blkn hB 4 _ rfl⟩
 ·exact ⟨_, blkn hB 9 _ rfl⟩
theorem own_row1 {b : Nat} {o : Op} (hB : Blk w b (oC o) 27) (hb : base ≤ b) : OwnO w base (.slice (some ⟨b, 0, none⟩) 1 1) [o] := ⟨rfl, .inr ⟨b, 1, _, rfl, hb, hB, Nat.le_refl _, by unfold maxLen; omega, rfl, rfl⟩⟩
theorem smallOs_one {o : Op} (h : SmallO o) : SmallOs [o] := ⟨by simp, fun x hx => by obtain rfl := List.mem_singleton.1 hx; exact h⟩
end
structure DS (w W : World) (rb k base rs nw : Nat) (zr : Array Value) (tr : TypeId) (wv : Array Value) (tv : TypeId) : Prop where
  res : Blk W rs zr tr
  var : Blk W nw wv tv
  rd : Rd W rb k
  gr : w.grownBy W (some rb)
  l1 : rb < base
  l2 : rs < base
  l3 : base ≤ nw
  l4 : w.heap.size ≤ rs
  ne : rs ≠ rb
section
variable {w W W' : World} {rb k k' base rs nw : Nat} {zr wv wv' : Array Value} {tr tv : TypeId} {r : Option Nat}
theorem DS.step (h : DS w W rb k base rs nw zr tr wv tv) (hR : Rd W' rb k') (hg : W.grownBy W' (some rb)) : DS w W' rb k' base rs nw zr tr wv tv :=
 ⟨h.res.grown hg (fun e => by injection e with e; exact h.ne e), h.var.grown hg (fun e => by injection e with e; have := h.l1; have := h.l3; omega), hR, grown_tr h.gr hg, h.l1, h.l2, h.l3, h.l4, h.ne⟩
theorem DS.bel (h : DS w W rb k base rs nw zr tr wv tv) (hb : Bel W W') : DS w W' rb k base rs nw zr tr wv tv :=
 ⟨h.res.bel hb, h.var.bel hb, h.rd.bel hb, grown_tr h.gr (grown_of_bel hb _), h.l1, h.l2, h.l3, h.l4, h.ne⟩
theorem DS.own (h : DS w W rb k base rs nw zr tr wv tv) (hg : W.grownBy W' r) (hr : ∀ b, r = some b → base ≤ b ∧ ∃ cs, W.heap[b]? = some (.cells cs 27 (0, 0))) (h1 : 27 ≠ tr) (h2 : 27 ≠ tv) : DS w W' rb k base rs nw zr tr wv tv := by
 have hne : ∀ {b : Nat} {cs : Array Value} {t : TypeId}, Blk W b cs t → 27 ≠ t → some b ≠ r := fun hB ht e => by
  obtain ⟨_, cs, hc⟩ := hr _ e.symm
  exact ht (blk_one hc hB)
 exact ⟨h.res.grown hg (hne h.res h1), h.var.grown hg (hne h.var h2), h.rd.grown hg (fun b e => by have := (hr b e).1; have := h.l1; omega), grown_own h.gr hg (fun b e => by have := (hr b e).1; have := h.l2; have := h.l4; omega), h.l1, h.l2, h.l3, h.l4, h.ne⟩
theorem DS.setv (h : DS w W rb k base rs nw zr tr wv tv) (vs : List Value) (j : Nat) (hv : Blk (wsets W nw j vs) nw wv' tv) : DS w (wsets W nw j vs) rb k base rs nw zr tr wv' tv :=
 ⟨Blk.apartS (by have := h.l2; have := h.l3; omega) vs j h.res, hv, Rd.sets (by have := h.l1; have := h.l3; omega) vs j h.rd, grown_sets (by have := h.l2; have := h.l3; have := h.l4; omega) vs j h.gr, h.l1, h.l2, h.l3, h.l4, h.ne⟩
theorem DS.fin (h : DS w W rb k base rs nw zr tr wv tv) (vs : List Value) (j : Nat) : w.grownBy (wsets W rs j vs) (some rb) := grown_sets h.l4 vs j h.gr
theorem DS.more (h : DS w W rb k base rs nw zr tr wv tv) (hk : k ≤ k') : DS w W rb k' base rs nw zr tr wv tv := ⟨h.res, h.var, h.rd.more hk, h.gr, h.l1, h.l2, h.l3, h.l4, h.ne⟩
end
def WorldOut (rb k d : Nat) (w : World) (e : Ending) (w' : World) : Prop :=
 ∃ (base g : Nat) (a b : NVl) (term lead : Int) (both : Bool) (V : Option Addr) (xs : List LV) (vc : Nat) (D : Option Addr) (dn dc : Nat), e = .returned (.agg #[.slice (some ⟨g, 0, none⟩) 2 2, .int .i64 term, .int .i64 lead, .bool both, .slice V xs.length vc, .slice D dn dc]) ∧ SW w' base g a b (.slice V xs.length vc) xs ∧ w.heap.size ≤ base ∧ base ≤ w'.heap.size ∧ Rd w' rb (k + d) ∧ w.grownBy w' (some rb)
theorem l72World_c {w : World} {rb k : Nat} (h : Rd w rb k) (hk : k ≤ 1099510000000) :
  Calls Tryz.prog 35 #[.pointer (some ⟨rb, 0, none⟩)] w (WorldOut rb k 21000 w) := by
 have H := Lib.hid h
 have hlt := h.lt
 clear h
 go_enter Tryz.func35, Tryz.ntmps35
 go_wp2_with fail
 have hR0 : Blk (w.alloc (.cells zW 62)) w.heap.size zW 62 := Blk.new _ _ _
 have hb0 : Bel w (w.alloc (.cells zW 62)) := bel_alloc (Below.refl _ _) _
 have hsz0 : (w.alloc (.cells zW 62)).heap.size = w.heap.size + 1 := by simp
 generalize (w.alloc (.cells zW 62)) = W0 at hR0 hb0 hsz0 ⊢
 refine (l72Play_c (H.out.bel hb0) (by omega)).mono ?_
 rintro e w1 ⟨v5, base, g, a, b, term, lead, both, V, xs, vc, D, ds, dc, rfl, hI, hba, hbz, hR1, hg1⟩
 have hrn : some w.heap.size ≠ some rb := fun e => by injection e with e; omega
 have hr1 := hR0.grown hg1 hrn
 have hgw : w.grownBy w1 (some rb) := grown_tr (grown_of_bel hb0 _) hg1
 have hb2 : Bel w1 (w1.alloc (.cells (wC g term lead both V xs vc D ds dc) 62)) := bel_alloc (Below.refl _ _) _
 have HS : Hid (DS w (w1.alloc (.cells (wC g term lead both V xs vc D ds dc) 62)) rb (k + 20000) base w.heap.size w1.heap.size zW 62 (wC g term lead both V xs vc D ds dc) 62) := Lib.hid ⟨hr1.bel hb2, Blk.new _ _ _, hR1.bel hb2, grown_tr hgw (grown_of_bel hb2 _), by omega, by omega, hbz, Nat.le_refl _, fun e => by omega⟩
 have HI := Lib.hid (hI.bel hb2)
 have hbw : w.heap.size ≤ base := by omega
 clear hR0 hb0 hsz0 hI hR1 hg1 hr1 hgw hb2 hrn
 go_wp2_with fail
 generalize (w1.alloc (.cells (wC g term lead both V xs vc D ds dc) 62)) = W2 at HS HI ⊢
 obtain ⟨nw, hnw⟩ : ∃ n, w1.heap.size = n := ⟨_, rfl⟩
 rw [hnw] at HS hbz ⊢
 clear hnw
 refine (pick_c HS.out.rd (by omega) 40 (by omega)).mono ?_
 rintro e w3 ⟨pv, rfl, ⟨r1, rfl, hr1a, hr1b, -⟩, hRp, hgp⟩
 have HI3 := Lib.hid (HI.out.rd HS.out.rd hgp)
 have ST := Lib.hid (HS.out.step hRp hgp)
 clear hRp hgp HS HI hr1a hr1b
 have hnn : ¬ nw = w.heap.size := by have h1 := ST.out.l2; have h2 := ST.out.l3; omega
 have hnn2 : ¬ w.heap.size = nw := fun e => hnn e.symm
 have hterm := HI3.out.term
 have hlead := HI3.out.lead
 have hdl := HI3.out.o.dlen
 have hw0 : wrap64 (term + 1) = term + 1 := by unfold wrap64; omega
 have hw3 : wrap64 (3 - lead) = 3 - lead := by unfold wrap64; omega
 by_cases p0 : r1 = 0
 ·subst p0
  obtain ⟨q0, q1, q2, q3, q4, q5, qf0, qf1, qf2, qf3, qf4, qf5, qy⟩ := k6f ST.out.var
  obtain ⟨p0, p1, p2, p3, p4, p5, pf0, pf1, pf2, pf3, pf4, pf5, py⟩ := k6f ST.out.res
  go_wp2
  clear q0 q1 q2 q3 q4 q5 qf0 qf1 qf2 qf3 qf4 qf5 qy
  clear p0 p1 p2 p3 p4 p5 pf0 pf1 pf2 pf3 pf4 pf5 py
  have hv2 := ST.out.var.set 1 (.int .i64 (term + 1)) (cs' := #[.slice (some ⟨g, 0, none⟩) 2 2, .int .i64 (term + 1), .int .i64 lead, .bool both, .slice V xs.length vc, .slice D ds.length dc]) rfl
  have ST2 := Lib.hid (ST.out.setv [.int .i64 (term + 1)] 1 hv2)
  have hs2 := HI3.out.sw.sets ST.out.var (by decide) (by decide) (by decide) [.int .i64 (term + 1)] 1
  have hsw := (hs2).sets ST2.out.res (by decide) (by decide) (by decide) [.slice (some ⟨g, 0, none⟩) 2 2, .int .i64 (term + 1), .int .i64 lead, .bool both, .slice V xs.length vc, .slice D ds.length dc] 0
  have hrd := Rd.sets (b := w.heap.size) hlt [.slice (some ⟨g, 0, none⟩) 2 2, .int .i64 (term + 1), .int .i64 lead, .bool both, .slice V xs.length vc, .slice D ds.length dc] 0 ST2.out.rd
  have hgf := ST2.out.fin [.slice (some ⟨g, 0, none⟩) 2 2, .int .i64 (term + 1), .int .i64 lead, .bool both, .slice V xs.length vc, .slice D ds.length dc] 0
  have hbf : base ≤ (wsets _ w.heap.size 0 [.slice (some ⟨g, 0, none⟩) 2 2, .int .i64 (term + 1), .int .i64 lead, .bool both, .slice V xs.length vc, .slice D ds.length dc]).heap.size := Nat.le_trans ST2.out.l3 (Nat.le_trans (Nat.le_of_lt ST2.out.var.lt) (Nat.le_of_eq (wsets_size _ _ _ _).symm))
  refine bodyPost_ret (results_cell_row rfl _ _ w.heap.size 62 #[.slice (some ⟨g, 0, none⟩) 2 2, .int .i64 (term + 1), .int .i64 lead, .bool both, .slice V xs.length vc, .slice D ds.length dc] (0, 0) _ rfl (ST2.out.res.sets [.slice (some ⟨g, 0, none⟩) 2 2, .int .i64 (term + 1), .int .i64 lead, .bool both, .slice V xs.length vc, .slice D ds.length dc] rfl) Tryz.underlying62 rfl (by kernel_rfl)) rfl ?_
  exact ⟨base, g, _, _, _, _, _, V, xs, vc, _, _, _, rfl, hsw, by omega, hbf, hrd.more (by omega), hgf⟩
 have b0 : (r1 == 0) = false := by simp [p0]
 by_cases p1 : r1 = 1
 ·subst p1
  cases both with
  | true =>
   obtain ⟨q0, q1, q2, q3, q4, q5, qf0, qf1, qf2, qf3, qf4, qf5, qy⟩ := k6f ST.out.var
   obtain ⟨p0, p1, p2, p3, p4, p5, pf0, pf1, pf2, pf3, pf4, pf5, py⟩ := k6f ST.out.res
   go_wp2
   clear q0 q1 q2 q3 q4 q5 qf0 qf1 qf2 qf3 qf4 qf5 qy
   clear p0 p1 p2 p3 p4 p5 pf0 pf1 pf2 pf3 pf4 pf5 py
   have hv2 := ST.out.var.set 3 (.bool false) (cs' := (wC g term lead false V xs vc D ds dc)) rfl
   have ST2 := Lib.hid (ST.out.setv [.bool false] 3 hv2)
   have hs2 := HI3.out.sw.sets ST.out.var (by decide) (by decide) (by decide) [.bool false] 3
   have hsw := (hs2).sets ST2.out.res (by decide) (by decide) (by decide) [.slice (some ⟨g, 0, none⟩) 2 2, .int .i64 term, .int .i64 lead, .bool false, .slice V xs.length vc, .slice D ds.length dc] 0
   have hrd := Rd.sets (b := w.heap.size) hlt [.slice (some ⟨g, 0, none⟩) 2 2, .int .i64 term, .int .i64 lead, .bool false, .slice V xs.length vc, .slice D ds.length dc] 0 ST2.out.rd
   have hgf := ST2.out.fin [.slice (some ⟨g, 0, none⟩) 2 2, .int .i64 term, .int .i64 lead, .bool false, .slice V xs.length vc, .slice D ds.length dc] 0
   have hbf : base ≤ (wsets _ w.heap.size 0 [.slice (some ⟨g, 0, none⟩) 2 2, .int .i64 term, .int .i64 lead, .bool false, .slice V xs.length vc, .slice D ds.length dc]).heap.size := Nat.le_trans ST2.out.l3 (Nat.le_trans (Nat.le_of_lt ST2.out.var.lt) (Nat.le_of_eq (wsets_size _ _ _ _).symm))
   refine bodyPost_ret (results_cell_row rfl _ _ w.heap.size 62 (wC g term lead false V xs vc D ds dc) (0, 0) _ rfl (ST2.out.res.sets [.slice (some ⟨g, 0, none⟩) 2 2, .int .i64 term, .int .i64 lead, .bool false, .slice V xs.length vc, .slice D ds.length dc] rfl) Tryz.underlying62 rfl (by kernel_rfl)) rfl ?_
   exact ⟨base, g, _, _, _, _, _, V, xs, vc, _, _, _, rfl, hsw, by omega, hbf, hrd.more (by omega), hgf⟩
  | false =>
   obtain ⟨q0, q1, q2, q3, q4, q5, qf0, qf1, qf2, qf3, qf4, qf5, qy⟩ := k6f ST.out.var
   obtain ⟨p0, p1, p2, p3, p4, p5, pf0, pf1, pf2, pf3, pf4, pf5, py⟩ := k6f ST.out.res
   go_wp2
   clear q0 q1 q2 q3 q4 q5 qf0 qf1 qf2 qf3 qf4 qf5 qy
   clear p0 p1 p2 p3 p4 p5 pf0 pf1 pf2 pf3 pf4 pf5 py
   have hv2 := ST.out.var.set 3 (.bool true) (cs' := (wC g term lead true V xs vc D ds dc)) rfl
   have ST2 := Lib.hid (ST.out.setv [.bool true] 3 hv2)
   have hs2 := HI3.out.sw.sets ST.out.var (by decide) (by decide) (by decide) [.bool true] 3
   have hsw := (hs2).sets ST2.out.res (by decide) (by decide) (by decide) [.slice (some ⟨g, 0, none⟩) 2 2, .int .i64 term, .int .i64 lead, .bool true, .slice V xs.length vc, .slice D ds.length dc] 0
   have hrd := Rd.sets (b := w.heap.size) hlt [.slice (some ⟨g, 0, none⟩) 2 2, .int .i64 term, .int .i64 lead, .bool true, .slice V xs.length vc, .slice D ds.length dc] 0 ST2.out.rd
   have hgf := ST2.out.fin [.slice (some ⟨g, 0, none⟩) 2 2, .int .i64 term, .int .i64 lead, .bool true, .slice V xs.length vc, .slice D ds.length dc] 0
   have hbf : base ≤ (wsets _ w.heap.size 0 [.slice (some ⟨g, 0, none⟩) 2 2, .int .i64 term, .int .i64 lead, .bool true, .slice V xs.length vc, .slice D ds.length dc]).heap.size := Nat.le_trans ST2.out.l3 (Nat.le_trans (Nat.le_of_lt ST2.out.var.lt) (Nat.le_of_eq (wsets_size _ _ _ _).symm))
   refine bodyPost_ret (results_cell_row rfl _ _ w.heap.size 62 (wC g term lead true V xs vc D ds dc) (0, 0) _ rfl (ST2.out.res.sets [.slice (some ⟨g, 0, none⟩) 2 2, .int .i64 term, .int .i64 lead, .bool true, .slice V xs.length vc, .slice D ds.length dc] rfl) Tryz.underlying62 rfl (by kernel_rfl)) rfl ?_
   exact ⟨base, g, _, _, _, _, _, V, xs, vc, _, _, _, rfl, hsw, by omega, hbf, hrd.more (by omega), hgf⟩
 have b1 : (r1 == 1) = false := by simp [p1]
 by_cases p2 : r1 = 2
 ·subst p2
  obtain ⟨q0, q1, q2, q3, q4, q5, qf0, qf1, qf2, qf3, qf4, qf5, qy⟩ := k6f ST.out.var
  obtain ⟨p0, p1, p2, p3, p4, p5, pf0, pf1, pf2, pf3, pf4, pf5, py⟩ := k6f ST.out.res
  go_wp2
  clear q0 q1 q2 q3 q4 q5 qf0 qf1 qf2 qf3 qf4 qf5 qy
  clear p0 p1 p2 p3 p4 p5 pf0 pf1 pf2 pf3 pf4 pf5 py
  have hv2 := ST.out.var.set 2 (.int .i64 (3 - lead)) (cs' := #[.slice (some ⟨g, 0, none⟩) 2 2, .int .i64 term, .int .i64 (3 - lead), .bool both, .slice V xs.length vc, .slice D ds.length dc]) rfl
  have ST2 := Lib.hid (ST.out.setv [.int .i64 (3 - lead)] 2 hv2)
  have hs2 := HI3.out.sw.sets ST.out.var (by decide) (by decide) (by decide) [.int .i64 (3 - lead)] 2
  have hsw := (hs2).sets ST2.out.res (by decide) (by decide) (by decide) [.slice (some ⟨g, 0, none⟩) 2 2, .int .i64 term, .int .i64 (3 - lead), .bool both, .slice V xs.length vc, .slice D ds.length dc] 0
  have hrd := Rd.sets (b := w.heap.size) hlt [.slice (some ⟨g, 0, none⟩) 2 2, .int .i64 term, .int .i64 (3 - lead), .bool both, .slice V xs.length vc, .slice D ds.length dc] 0 ST2.out.rd
  have hgf := ST2.out.fin [.slice (some ⟨g, 0, none⟩) 2 2, .int .i64 term, .int .i64 (3 - lead), .bool both, .slice V xs.length vc, .slice D ds.length dc] 0
  have hbf : base ≤ (wsets _ w.heap.size 0 [.slice (some ⟨g, 0, none⟩) 2 2, .int .i64 term, .int .i64 (3 - lead), .bool both, .slice V xs.length vc, .slice D ds.length dc]).heap.size := Nat.le_trans ST2.out.l3 (Nat.le_trans (Nat.le_of_lt ST2.out.var.lt) (Nat.le_of_eq (wsets_size _ _ _ _).symm))
  refine bodyPost_ret (results_cell_row rfl _ _ w.heap.size 62 #[.slice (some ⟨g, 0, none⟩) 2 2, .int .i64 term, .int .i64 (3 - lead), .bool both, .slice V xs.length vc, .slice D ds.length dc] (0, 0) _ rfl (ST2.out.res.sets [.slice (some ⟨g, 0, none⟩) 2 2, .int .i64 term, .int .i64 (3 - lead), .bool both, .slice V xs.length vc, .slice D ds.length dc] rfl) Tryz.underlying62 rfl (by kernel_rfl)) rfl ?_
  exact ⟨base, g, _, _, _, _, _, V, xs, vc, _, _, _, rfl, hsw, by omega, hbf, hrd.more (by omega), hgf⟩
 have b2 : (r1 == 2) = false := by simp [p2]
 by_cases p3 : r1 = 3
 ·subst p3
  go_wp2
  have ST1 := Lib.hid (ST.out.bel bel_drew)
  have HI4 := Lib.hid (HI3.out.bel bel_drew)
  refine start_ (n := 8) (S := fun w' => w'.cell? ⟨nw, 5, none⟩ = some (.slice D ds.length dc)) (ds := [7]) #[F, F, F, F, F, F, F, F] (by kernel_rfl) rfl rfl ((blkn ST1.out.var 5 _ rfl)) (fun hHeld => ?_)
  refine py 0 (some 32) #[T, F, F, F, F, F, F, F] ?_
  refine py 2 (some 34) #[T, F, T, F, F, F, F, F] ?_
  refine ty 1 (some 33) #[T, T, T, F, F, F, F, F] (hS := hHeld) (hz := by intro w' s0; go_simp; with_reducible rfl) (h := ?_)
  refine ox 3 (some 35) #[T, T, T, T, F, F, F, F] fun K hK => ?_
  refine gox Tryz.func37 #[.pointer (some ⟨rb, 0, none⟩)] ?_
  with_reducible refine (op_c ST1.out.rd (by omega)).mono ?_
  rintro e wa ⟨ov, rfl, ⟨o, rfl, hso, -⟩, hR, hg⟩
  unfold opV
  have ST2 := Lib.hid (ST1.out.step hR hg)
  have HI5 := Lib.hid (HI4.out.rd ST1.out.rd hg)
  clear hR hg
  refine ⟨_, rfl, ?_⟩
  refine hK.out _ _ ((blkn ST2.out.var 5 _ rfl)) (fun hHeld => ?_)
  clear hK K
  refine nox 35 (h := ?_)
  refine ox 4 (some 36) #[T, T, T, T, T, F, F, F] fun K hK => ?_
  refine vx ?_
  have hbo : Bel wa (wa.alloc (.cells (oC o) 27)) := bel_alloc (Below.refl _ _) _
  have ST3 := Lib.hid (ST2.out.bel hbo)
  have hB : Blk (wa.alloc (.cells (oC o) 27)) wa.heap.size (oC o) 27 := Blk.new _ _ _
  have HI6 := Lib.hid (HI5.out.bel hbo)
  clear hbo
  refine hK.out _ _ ((blkn ST3.out.var 5 _ rfl)) (fun hHeld => ?_)
  clear hK K
  refine nox 36 (h := ?_)
  refine ox 5 (some 37) #[T, T, T, T, T, T, F, F] fun K hK => ?_
  refine tail_append_step (by rfl) (.tmp 33) (.tmp 36) rfl rfl o ⟨wa.heap.size, 0, none⟩ 1 rfl ?hc (HI6.out.o.done) (by omega) ?hb ?_
  case hc => exact blk_cells5 hB
  case hb => exact Nat.le_trans ST3.out.l3 (Nat.le_of_lt ST3.out.var.lt)
  intro v1 wb hv1 hgr
  obtain ⟨no, hno⟩ : ∃ no, ds ++ [o] = no := ⟨_, rfl⟩
  rw [hno] at hv1
  have HNO := Lib.hid hno
  clear hno
  obtain ⟨C4, c4, rfl, -, -⟩ := hv1.reads
  have OW4 := Lib.hid hv1
  have ST4 := Lib.hid (ST3.out.own hgr (fun b e => ⟨((HI6.out.o.done).base b e).1, ((HI6.out.o.done).base b e).2.2⟩) (by decide) (by decide))
  have SW4 := Lib.hid (HI6.out.growD hgr)
  have k2 := blkn ST4.out.var 5 _ rfl
  have kf := ST4.out.var.free 5
  have ky := ST4.out.var.lt
  clear hB hv1 hgr
  refine hK.out _ _ (k2) (fun hHeld => ?_)
  clear hK K
  refine nox 37 (h := ?_)
  refine py 6 (some 38) #[T, T, T, T, T, T, T, F] ?_
  refine lx 7 none #[T, T, T, T, T, T, T, T] fun K hK => ?_
  refine sx ?_
  refine hK.out _ _ ?_
  clear hK K
  refine done_ (by kernel_rfl) ?_
  clear k2 kf ky
  have hv2 := ST4.out.var.set 5 (.slice C4 no.length c4) (cs' := (wC g term lead both V xs vc C4 no c4)) rfl
  have ST6 : Hid (DS w (wb.setCell ⟨nw, 5, none⟩ (.slice C4 no.length c4)) _ _ _ _ _ _ _ _ _) := Lib.hid (ST4.out.setv [.slice C4 no.length c4] 5 hv2)
  have SW6 : Hid (SW (wb.setCell ⟨nw, 5, none⟩ (.slice C4 no.length c4)) _ _ _ _ _ _) := Lib.hid (SW4.out.sets ST4.out.var (by decide) (by decide) (by decide) [.slice C4 no.length c4] 5)
  clear hv2 HI4 HI3 ST1 ST
  generalize wb.setCell ⟨nw, 5, none⟩ (.slice C4 no.length c4) = W9 at ST6 SW6 ⊢
  obtain ⟨q0, q1, q2, q3, q4, q5, qf0, qf1, qf2, qf3, qf4, qf5, qy⟩ := k6f ST6.out.var
  obtain ⟨p0, p1, p2, p3, p4, p5, pf0, pf1, pf2, pf3, pf4, pf5, py⟩ := k6f ST6.out.res
  go_wp2
  clear q0 q1 q2 q3 q4 q5 qf0 qf1 qf2 qf3 qf4 qf5 qy
  clear p0 p1 p2 p3 p4 p5 pf0 pf1 pf2 pf3 pf4 pf5 py
  have hsw := (SW6.out).sets ST6.out.res (by decide) (by decide) (by decide) [.slice (some ⟨g, 0, none⟩) 2 2, .int .i64 term, .int .i64 lead, .bool both, .slice V xs.length vc, .slice C4 no.length c4] 0
  have hrd := Rd.sets (b := w.heap.size) hlt [.slice (some ⟨g, 0, none⟩) 2 2, .int .i64 term, .int .i64 lead, .bool both, .slice V xs.length vc, .slice C4 no.length c4] 0 ST6.out.rd
  have hgf := ST6.out.fin [.slice (some ⟨g, 0, none⟩) 2 2, .int .i64 term, .int .i64 lead, .bool both, .slice V xs.length vc, .slice C4 no.length c4] 0
  have hbf : base ≤ (wsets _ w.heap.size 0 [.slice (some ⟨g, 0, none⟩) 2 2, .int .i64 term, .int .i64 lead, .bool both, .slice V xs.length vc, .slice C4 no.length c4]).heap.size := Nat.le_trans ST6.out.l3 (Nat.le_trans (Nat.le_of_lt ST6.out.var.lt) (Nat.le_of_eq (wsets_size _ _ _ _).symm))
  refine bodyPost_ret (results_cell_row rfl _ _ w.heap.size 62 (wC g term lead both V xs vc C4 no c4) (0, 0) _ rfl (ST6.out.res.sets [.slice (some ⟨g, 0, none⟩) 2 2, .int .i64 term, .int .i64 lead, .bool both, .slice V xs.length vc, .slice C4 no.length c4] rfl) Tryz.underlying62 rfl (by kernel_rfl)) rfl ?_
  exact ⟨base, g, _, _, _, _, _, V, xs, vc, _, _, _, rfl, hsw, by omega, hbf, hrd.more (by omega), hgf⟩
 have b3 : (r1 == 3) = false := by simp [p3]
 by_cases p4 : r1 = 4
 ·subst p4
  go_wp2
  have ST1 := Lib.hid (ST.out.bel bel_drew)
  have HI4 := Lib.hid (HI3.out.bel bel_drew)
  refine start_ (n := 10) (S := fun w' => w'.cell? ⟨nw, 0, none⟩ = some (.slice (some ⟨g, 0, none⟩) 2 2)) (ds := [9]) #[F, F, F, F, F, F, F, F, F, F] (by kernel_rfl) rfl rfl ((blkn ST1.out.var 0 _ rfl)) (fun hHeld => ?_)
  refine py 0 (some 41) #[T, F, F, F, F, F, F, F, F, F] ?_
  refine py 2 (some 43) #[T, F, T, F, F, F, F, F, F, F] ?_
  refine py 4 (some 45) #[T, F, T, F, T, F, F, F, F, F] ?_
  refine ty 1 (some 42) #[T, T, T, F, T, F, F, F, F, F] (hS := hHeld) (hz := by intro w' s0; go_simp; with_reducible rfl) (h := ?_)
  refine ox 3 (some 44) #[T, T, T, T, T, F, F, F, F, F] fun K hK => ?_
  refine gox Tryz.func36 #[.pointer (some ⟨rb, 0, none⟩), .int .i64 2] ?_
  with_reducible refine (pick_c ST1.out.rd (by omega) 2 (by omega)).mono ?_
  rintro e wa ⟨pv, rfl, ⟨r, rfl, hr0, hr1, -⟩, hR, hg⟩
  have hr2 := hr1 (by omega)
  obtain ⟨j, rfl⟩ : ∃ j : Nat, r = (j : Int) := ⟨r.toNat, by omega⟩
  have hj : j < 2 := by omega
  have hj2 : (j : Int) < 2 := by omega
  have ST2 := Lib.hid (ST1.out.step hR hg)
  have HI5 := Lib.hid (HI4.out.rd ST1.out.rd hg)
  clear hR hg hr1
  refine ⟨_, rfl, ?_⟩
  refine hK.out _ _ ((blkn ST2.out.var 0 _ rfl)) (fun hHeld => ?_)
  clear hK K
  refine nox 44 (h := ?_)
  refine ox 5 (some 46) #[T, T, T, T, T, T, F, F, F, F] fun K hK => ?_
  refine gox Tryz.func37 #[.pointer (some ⟨rb, 0, none⟩)] ?_
  with_reducible refine (op_c ST2.out.rd (by omega)).mono ?_
  rintro e wc ⟨ov, rfl, ⟨o, rfl, hso, -⟩, hR, hg⟩
  unfold opV
  have ST3 := Lib.hid (ST2.out.step hR hg)
  have HI6 := Lib.hid (HI5.out.rd ST2.out.rd hg)
  clear hR hg
  refine ⟨_, rfl, ?_⟩
  refine hK.out _ _ ((blkn ST3.out.var 0 _ rfl)) (fun hHeld => ?_)
  clear hK K
  refine nox 46 (h := ?_)
  refine ox 6 (some 47) #[T, T, T, T, T, T, T, F, F, F] fun K hK => ?_
  refine vx ?_
  have hbo : Bel wc (wc.alloc (.cells (oC o) 27)) := bel_alloc (Below.refl _ _) _
  have ST4 := Lib.hid (ST3.out.bel hbo)
  have HI7 := Lib.hid (HI6.out.bel hbo)
  have hB : Blk (wc.alloc (.cells (oC o) 27)) wc.heap.size (oC o) 27 := Blk.new _ _ _
  have HB := Lib.hid hB
  obtain ⟨gv, hgv⟩ := node_cell HI7.out.blk hj
  have gf := HI7.out.blk.free (j * 5 + 4)
  have gy := HI7.out.blk.lt
  clear hbo hB
  refine hK.out _ _ ((blkn ST4.out.var 0 _ rfl)) (fun hHeld => ?_)
  clear hK K
  refine nox 47 (h := ?_)
  refine py 7 (some 48) #[T, T, T, T, T, T, T, T, F, F] ?_
  refine py 8 (some 49) #[T, T, T, T, T, T, T, T, T, F] ?_
  refine lx 9 none #[T, T, T, T, T, T, T, T, T, T] fun K hK => ?_
  refine sx ?_
  refine hK.out _ _ ?_
  clear hK K
  refine done_ (by kernel_rfl) ?_
  clear hgv gf gy
  have hlo : base ≤ wc.heap.size := by have h1 := ST3.out.l3; have h2 := ST3.out.var.lt; omega
  have hfin : ∃ a' b' : NVl, SW ((wc.alloc (.cells (oC o) 27)).setCell ⟨g, j * 5 + 4, none⟩ (.slice (some ⟨wc.heap.size, 0, none⟩) 1 1)) base g a' b' (.slice V xs.length vc) xs := by
   have hO := HI7.out.o.sets HI7.out.blk (by decide) (by decide) [.slice (some ⟨wc.heap.size, 0, none⟩) 1 1] (j * 5 + 4)
   have hn := OwnO.tail (own_row1 HB.out hlo)
   have hn2 := OwnT.setsN (b := g) (fun k hk e => by injection hk with hk; have h1 := HI6.out.blk.lt; have h2 : wc.heap.size = k := hk; omega) [.slice (some ⟨wc.heap.size, 0, none⟩) 1 1] (j * 5 + 4) hn
   obtain rfl | rfl : j = 0 ∨ j = 1 := by omega
   ·exact ⟨⟨⟨a.n.up, a.n.term, a.n.leads, a.n.alone, [o]⟩, some ⟨wc.heap.size, 0, none⟩, 1⟩, b, HI7.out.blk.set 4 _ (cs' := (encN ⟨⟨a.n.up, a.n.term, a.n.leads, a.n.alone, [o]⟩, some ⟨wc.heap.size, 0, none⟩, 1⟩ ++ encN b).toArray) rfl, HI7.out.ge, ⟨hn2, smallOs_one hso, by simp⟩, ⟨hO.ob.own, hO.ob.ops, hO.ob.len⟩, hO.nets, hO.letter, hO.many⟩
   ·exact ⟨a, ⟨⟨b.n.up, b.n.term, b.n.leads, b.n.alone, [o]⟩, some ⟨wc.heap.size, 0, none⟩, 1⟩, HI7.out.blk.set 9 _ (cs' := (encN a ++ encN ⟨⟨b.n.up, b.n.term, b.n.leads, b.n.alone, [o]⟩, some ⟨wc.heap.size, 0, none⟩, 1⟩).toArray) rfl, HI7.out.ge, ⟨hO.oa.own, hO.oa.ops, hO.oa.len⟩, ⟨hn2, smallOs_one hso, by simp⟩, hO.nets, hO.letter, hO.many⟩
  have ST5 : Hid (DS w ((wc.alloc (.cells (oC o) 27)).setCell ⟨g, j * 5 + 4, none⟩ (.slice (some ⟨wc.heap.size, 0, none⟩) 1 1)) rb (k + 20000 + 1 + 1 + 20) base w.heap.size nw zW 62 (wC g term lead both V xs vc D ds dc) 62) := Lib.hid (by
   have h1 := ST4.out
   have hg := grown_wsets g [.slice (some ⟨wc.heap.size, 0, none⟩) 1 1] (wc.alloc (.cells (oC o) 27)) (j * 5 + 4)
   have hgb := HI7.out.ge
   refine ⟨h1.res.grown hg (fun e => ?_), h1.var.grown hg (fun e => ?_), h1.rd.grown hg (fun b e => by injection e with e; have := h1.l1; omega), grown_own h1.gr hg (fun b e => by injection e with e; have := h1.l2; have := h1.l4; omega), h1.l1, h1.l2, h1.l3, h1.l4, h1.ne⟩
   ·injection e with e; have := h1.l2; omega
   ·injection e with e; subst e; exact absurd (blk_one h1.var HI7.out.blk) (by decide))
  obtain ⟨a', b', hfin⟩ := hfin
  have SW5 := Lib.hid hfin
  clear hfin ST4 ST3 ST2 ST1 ST HI7 HI6 HI5 HI4 HI3 HB
  generalize ((wc.alloc (.cells (oC o) 27)).setCell ⟨g, j * 5 + 4, none⟩ (.slice (some ⟨wc.heap.size, 0, none⟩) 1 1)) = W9 at ST5 SW5 ⊢
  obtain ⟨q0, q1, q2, q3, q4, q5, qf0, qf1, qf2, qf3, qf4, qf5, qy⟩ := k6f ST5.out.var
  obtain ⟨p0, p1, p2, p3, p4, p5, pf0, pf1, pf2, pf3, pf4, pf5, py⟩ := k6f ST5.out.res
  go_wp2
  clear q0 q1 q2 q3 q4 q5 qf0 qf1 qf2 qf3 qf4 qf5 qy
  clear p0 p1 p2 p3 p4 p5 pf0 pf1 pf2 pf3 pf4 pf5 py
  have hsw := (SW5.out).sets ST5.out.res (by decide) (by decide) (by decide) [.slice (some ⟨g, 0, none⟩) 2 2, .int .i64 term, .int .i64 lead, .bool both, .slice V xs.length vc, .slice D ds.length dc] 0
  have hrd := Rd.sets (b := w.heap.size) hlt [.slice (some ⟨g, 0, none⟩) 2 2, .int .i64 term, .int .i64 lead, .bool both, .slice V xs.length vc, .slice D ds.length dc] 0 ST5.out.rd
  have hgf := ST5.out.fin [.slice (some ⟨g, 0, none⟩) 2 2, .int .i64 term, .int .i64 lead, .bool both, .slice V xs.length vc, .slice D ds.length dc] 0
  have hbf : base ≤ (wsets _ w.heap.size 0 [.slice (some ⟨g, 0, none⟩) 2 2, .int .i64 term, .int .i64 lead, .bool both, .slice V xs.length vc, .slice D ds.length dc]).heap.size := Nat.le_trans ST5.out.l3 (Nat.le_trans (Nat.le_of_lt ST5.out.var.lt) (Nat.le_of_eq (wsets_size _ _ _ _).symm))
  refine bodyPost_ret (results_cell_row rfl _ _ w.heap.size 62 (wC g term lead both V xs vc D ds dc) (0, 0) _ rfl (ST5.out.res.sets [.slice (some ⟨g, 0, none⟩) 2 2, .int .i64 term, .int .i64 lead, .bool both, .slice V xs.length vc, .slice D ds.length dc] rfl) Tryz.underlying62 rfl (by kernel_rfl)) rfl ?_
  exact ⟨base, g, _, _, _, _, _, V, xs, vc, _, _, _, rfl, hsw, by omega, hbf, hrd.more (by omega), hgf⟩
 have b4 : (r1 == 4) = false := by simp [p4]
 obtain ⟨q0, q1, q2, q3, q4, q5, qf0, qf1, qf2, qf3, qf4, qf5, qy⟩ := k6f ST.out.var
 obtain ⟨p0, p1, p2, p3, p4, p5, pf0, pf1, pf2, pf3, pf4, pf5, py⟩ := k6f ST.out.res
 go_wp2
 clear q0 q1 q2 q3 q4 q5 qf0 qf1 qf2 qf3 qf4 qf5 qy
 clear p0 p1 p2 p3 p4 p5 pf0 pf1 pf2 pf3 pf4 pf5 py
 have hsw := (HI3.out.sw).sets ST.out.res (by decide) (by decide) (by decide) [.slice (some ⟨g, 0, none⟩) 2 2, .int .i64 term, .int .i64 lead, .bool both, .slice V xs.length vc, .slice D ds.length dc] 0
 have hrd := Rd.sets (b := w.heap.size) hlt [.slice (some ⟨g, 0, none⟩) 2 2, .int .i64 term, .int .i64 lead, .bool both, .slice V xs.length vc, .slice D ds.length dc] 0 ST.out.rd
 have hgf := ST.out.fin [.slice (some ⟨g, 0, none⟩) 2 2, .int .i64 term, .int .i64 lead, .bool both, .slice V xs.length vc, .slice D ds.length dc] 0
 have hbf : base ≤ (wsets _ w.heap.size 0 [.slice (some ⟨g, 0, none⟩) 2 2, .int .i64 term, .int .i64 lead, .bool both, .slice V xs.length vc, .slice D ds.length dc]).heap.size := Nat.le_trans ST.out.l3 (Nat.le_trans (Nat.le_of_lt ST.out.var.lt) (Nat.le_of_eq (wsets_size _ _ _ _).symm))
 refine bodyPost_ret (results_cell_row rfl _ _ w.heap.size 62 (wC g term lead both V xs vc D ds dc) (0, 0) _ rfl (ST.out.res.sets [.slice (some ⟨g, 0, none⟩) 2 2, .int .i64 term, .int .i64 lead, .bool both, .slice V xs.length vc, .slice D ds.length dc] rfl) Tryz.underlying62 rfl (by kernel_rfl)) rfl ?_
 exact ⟨base, g, _, _, _, _, _, V, xs, vc, _, _, _, rfl, hsw, by omega, hbf, hrd.more (by omega), hgf⟩
theorem smallOs_add {os : List Op} {o : Op} (h : SmallOs os) (ho : SmallO o) (hl : os.length ≤ 1000) : SmallOs (os ++ [o]) := ⟨by simp; omega, fun x hx => by
 rcases List.mem_append.1 hx with hx | hx
 ·exact h.op x hx
 ·obtain rfl := List.mem_singleton.1 hx
  exact ho⟩
def NodeOut (rb k d : Nat) (w : World) (e : Ending) (w' : World) : Prop :=
 ∃ (base : Nat) (n : Node) (A : Option Addr) (c : Nat), e = .returned (.agg #[.bool n.up, .int .i64 n.term, .bool n.leads, .bool n.alone, .slice A n.ops.length c]) ∧ OwnT w' base (.slice A n.ops.length c) n.ops ∧ SmallOs n.ops ∧ n.ops.length ≤ 21 ∧ w.heap.size ≤ base ∧ base ≤ w'.heap.size ∧ Rd w' rb (k + d) ∧ w.grownBy w' (some rb)
theorem nd_cells {w : World} {g : Nat} {a b : NVl} (hB : Blk w g (encN a ++ encN b).toArray 25) {nd : Nat → NVl} (hnd : nd = fun j => if j = 0 then a else b) :
  (∀ j, j < 2 → w.cell? ⟨g, j * 5, none⟩ = some (.bool (nd j).n.up)) ∧ (∀ j, j < 2 → w.cell? ⟨g, j * 5 + 1, none⟩ = some (.int .i64 (nd j).n.term)) ∧ (∀ j, j < 2 → w.cell? ⟨g, j * 5 + 2, none⟩ = some (.bool (nd j).n.leads)) ∧ (∀ j, j < 2 → w.cell? ⟨g, j * 5 + 3, none⟩ = some (.bool (nd j).n.alone)) ∧ (∀ j, j < 2 → w.cell? ⟨g, j * 5 + 4, none⟩ = some (.slice (nd j).A (nd j).n.ops.length (nd j).c)) := by
 subst hnd
 refine ⟨?_, ?_, ?_, ?_, ?_⟩ <;> intro j hj <;> obtain rfl | rfl : j = 0 ∨ j = 1 := by omega
 ·exact blkn hB 0 _ rfl
 ·exact blkn hB 5 _ rfl
 ·exact blkn hB 1 _ rfl
 ·exact blkn hB 6 _ rfl
 ·exact blkn hB 2 _ rfl
 ·exact blkn hB 7 _ rfl
 ·exact blkn hB 3 _ rfl
 ·exact blkn hB 8 _ rfl
 ·exact blkn hB 4 _ rfl
 ·exact blkn hB 9 _ rfl
theorem l72Node_c {w : World} {rb k : Nat} (h : Rd w rb k) (hk : k ≤ 1099509000000) :
  Calls Tryz.prog 49 #[.pointer (some ⟨rb, 0, none⟩)] w (NodeOut rb k 22000 w) := by
 have H := Lib.hid h
 have hlt := h.lt
 clear h
 go_enter Tryz.func49, Tryz.ntmps49
 go_wp2_with fail
 have hR0 : Blk (w.alloc (.cells zN_ 25)) w.heap.size zN_ 25 := Blk.new _ _ _
 have hb0 : Bel w (w.alloc (.cells zN_ 25)) := bel_alloc (Below.refl _ _) _
 have hsz0 : (w.alloc (.cells zN_ 25)).heap.size = w.heap.size + 1 := by simp
 generalize (w.alloc (.cells zN_ 25)) = W0 at hR0 hb0 hsz0 ⊢
 refine (l72World_c (H.out.bel hb0) (by omega)).mono ?_
 rintro e w1 ⟨base, g, a, b, term, lead, both, V, xs, vc, D, dn, dc, rfl, hI, hba, hbz, hR1, hg1⟩
 have hrn : some w.heap.size ≠ some rb := fun e => by injection e with e; omega
 have hr1 := hR0.grown hg1 hrn
 have hgw : w.grownBy w1 (some rb) := grown_tr (grown_of_bel hb0 _) hg1
 have hb2 : Bel w1 (w1.alloc (.cells #[.slice (some ⟨g, 0, none⟩) 2 2, .int .i64 term, .int .i64 lead, .bool both, .slice V xs.length vc, .slice D dn dc] 62)) := bel_alloc (Below.refl _ _) _
 have HS : Hid (DS w (w1.alloc (.cells #[.slice (some ⟨g, 0, none⟩) 2 2, .int .i64 term, .int .i64 lead, .bool both, .slice V xs.length vc, .slice D dn dc] 62)) rb (k + 21000) base w.heap.size w1.heap.size zN_ 25 #[.slice (some ⟨g, 0, none⟩) 2 2, .int .i64 term, .int .i64 lead, .bool both, .slice V xs.length vc, .slice D dn dc] 62) := Lib.hid ⟨hr1.bel hb2, Blk.new _ _ _, hR1.bel hb2, grown_tr hgw (grown_of_bel hb2 _), by omega, by omega, hbz, Nat.le_refl _, fun e => by omega⟩
 have HI := Lib.hid (hI.bel hb2)
 have hbw : w.heap.size < base := by omega
 clear hR0 hb0 hsz0 hI hR1 hg1 hr1 hgw hb2 hrn
 go_wp2
 generalize (w1.alloc (.cells #[.slice (some ⟨g, 0, none⟩) 2 2, .int .i64 term, .int .i64 lead, .bool both, .slice V xs.length vc, .slice D dn dc] 62)) = W2 at HS HI ⊢
 obtain ⟨nw, hnw⟩ : ∃ n, w1.heap.size = n := ⟨_, rfl⟩
 rw [hnw] at HS hbz ⊢
 clear hnw
 obtain ⟨nd, hnd⟩ : ∃ f : Nat → NVl, f = (fun j => if j = 0 then a else b) := ⟨_, rfl⟩
 have HND := Lib.hid hnd
 have hne1 : some nw ≠ some rb := fun e => by injection e with e; have := HS.out.l1; omega
 have hne2 : some g ≠ some rb := fun e => by injection e with e; have := HS.out.l1; have := HI.out.ge; omega
 have hnl : nw < W2.heap.size := HS.out.var.lt
 clear hnd
 have HSF := Lib.hid (fun (W9 : World) (gb : World.grownBy W2.drew W9 (some rb)) => (⟨(blkn ((HS.out.var.bel bel_drew).grown gb hne1) 0 _ rfl), ((nd_cells ((HI.out.blk.bel bel_drew).grown gb hne2) HND.out).1), ((nd_cells ((HI.out.blk.bel bel_drew).grown gb hne2) HND.out).2.1), ((nd_cells ((HI.out.blk.bel bel_drew).grown gb hne2) HND.out).2.2.1), ((nd_cells ((HI.out.blk.bel bel_drew).grown gb hne2) HND.out).2.2.2.1), ((nd_cells ((HI.out.blk.bel bel_drew).grown gb hne2) HND.out).2.2.2.2)⟩ : W9.cell? ⟨nw, 0, none⟩ = some (.slice (some ⟨g, 0, none⟩) 2 2) ∧ (∀ j, j < 2 → W9.cell? ⟨g, j * 5, none⟩ = some (.bool (nd j).n.up)) ∧ (∀ j, j < 2 → W9.cell? ⟨g, j * 5 + 1, none⟩ = some (.int .i64 (nd j).n.term)) ∧ (∀ j, j < 2 → W9.cell? ⟨g, j * 5 + 2, none⟩ = some (.bool (nd j).n.leads)) ∧ (∀ j, j < 2 → W9.cell? ⟨g, j * 5 + 3, none⟩ = some (.bool (nd j).n.alone)) ∧ (∀ j, j < 2 → W9.cell? ⟨g, j * 5 + 4, none⟩ = some (.slice (nd j).A (nd j).n.ops.length (nd j).c))))
 refine start_ (n := 8) (S := fun w' => w'.cell? ⟨nw, 0, none⟩ = some (.slice (some ⟨g, 0, none⟩) 2 2) ∧ (∀ j, j < 2 → w'.cell? ⟨g, j * 5, none⟩ = some (.bool (nd j).n.up)) ∧ (∀ j, j < 2 → w'.cell? ⟨g, j * 5 + 1, none⟩ = some (.int .i64 (nd j).n.term)) ∧ (∀ j, j < 2 → w'.cell? ⟨g, j * 5 + 2, none⟩ = some (.bool (nd j).n.leads)) ∧ (∀ j, j < 2 → w'.cell? ⟨g, j * 5 + 3, none⟩ = some (.bool (nd j).n.alone)) ∧ (∀ j, j < 2 → w'.cell? ⟨g, j * 5 + 4, none⟩ = some (.slice (nd j).A (nd j).n.ops.length (nd j).c))) (ds := [7]) #[F, F, F, F, F, F, F, F] (by kernel_rfl) rfl rfl ⟨(blkn (HS.out.var.bel bel_drew) 0 _ rfl), ((nd_cells (HI.out.blk.bel bel_drew) HND.out).1), ((nd_cells (HI.out.blk.bel bel_drew) HND.out).2.1), ((nd_cells (HI.out.blk.bel bel_drew) HND.out).2.2.1), ((nd_cells (HI.out.blk.bel bel_drew) HND.out).2.2.2.1), ((nd_cells (HI.out.blk.bel bel_drew) HND.out).2.2.2.2)⟩ (fun hHeld => ?_)
 refine py 0 (some 7) #[T, F, F, F, F, F, F, F] ?_
 refine py 2 (some 9) #[T, F, T, F, F, F, F, F] ?_
 refine ty 1 (some 8) #[T, T, T, F, F, F, F, F] (hS := hHeld) (hz := by rintro w' ⟨s0, s1, s2, s3, s4, s5⟩; go_simp; with_reducible rfl) (h := ?_)
 refine join_ (σ := Nat × Nat) 1 #[T, T, T, T, T, T, T, F] (fun s => [(10, .int .i64 (s.1 : Int)), (11, .pointer (some ⟨g, s.1 * 5, none⟩)), (12, .agg #[.bool (nd s.1).n.up, .int .i64 (nd s.1).n.term, .bool (nd s.1).n.leads, .bool (nd s.1).n.alone, .slice (nd s.1).A (nd s.1).n.ops.length (nd s.1).c]), (4, .pointer (some ⟨s.2, 0, none⟩))]) (fun s w' => World.grownBy W2.drew w' (some rb) ∧ (s.1 < 2) ∧ (Rd w' rb (k + 21000 + 1)) ∧ (Blk w' s.2 zeN 25 ∧ W2.drew.heap.size ≤ s.2)) ?_ ?_
 rotate_left
 ·intro hJ3_6
  refine join_ (σ := Nat) 2 #[T, T, T, T, T, T, F, F] (fun s => [(10, .int .i64 (s : Int)), (11, .pointer (some ⟨g, s * 5, none⟩)), (12, .agg #[.bool (nd s).n.up, .int .i64 (nd s).n.term, .bool (nd s).n.leads, .bool (nd s).n.alone, .slice (nd s).A (nd s).n.ops.length (nd s).c])]) (fun s w' => World.grownBy W2.drew w' (some rb) ∧ (s < 2) ∧ (Rd w' rb (k + 21000 + 1))) ?_ ?_
  rotate_left
  ·intro hJ3
   refine join_ (σ := Nat) 4 #[T, T, T, F, F, F, T, F] (fun s => [(4, .pointer (some ⟨s, 0, none⟩))]) (fun s w' => Bel W2.drew w' ∧ (Blk w' s zeN 25 ∧ W2.drew.heap.size ≤ s)) ?_ ?_
   rotate_left
   ·intro hJ6
    refine two_ (i := 3) (j := 6) (Ni := some 10) (Nj := some 4) #[T, T, T, T, F, F, F, F] #[T, T, T, F, F, F, T, F] rfl rfl rfl rfl (by kernel_rfl) (by decide) (by decide) (fun K hK => ?_) (fun K hK => ?_)
    ·skip
     refine gox Tryz.func36 #[.pointer (some ⟨rb, 0, none⟩), .int .i64 2] ?_
     with_reducible refine (pick_c (Rd.bel (Rd.bel HS.out.rd bel_drew) (Below.refl _ _ : Bel W2.drew W2.drew)) (by omega) 2 (by omega)).mono ?_
     rintro e wn ⟨pv, rfl, ⟨r, rfl, hr0, hr1, -⟩, hRp, hgN⟩
     have hr2 := hr1 (by omega)
     obtain ⟨j, rfl⟩ : ∃ j : Nat, r = (j : Int) := ⟨r.toNat, by omega⟩
     have gjj : Hid (j < 2) := Lib.hid (by omega)
     have hj : j < 2 := by omega
     have hj2 : (j : Int) < 2 := by omega
     have grd := Lib.hid hRp
     clear hRp hr0 hr1 hr2
     have gb := Lib.hid (grown_tr (grown_of_bel (Below.refl _ _ : Bel W2.drew W2.drew) (some rb)) hgN)
     clear hgN
     refine ⟨_, rfl, ?_⟩
     refine hK.out _ _ (HSF.out _ gb.out) (fun hHeld => ?_)
     clear hK K
     refine nox 10 (h := ?_)
     refine py 4 (some 11) #[T, T, T, T, T, F, F, F] ?_
     refine ty 5 (some 12) #[T, T, T, T, T, T, F, F] (hS := hHeld) (hz := by rintro w' ⟨s0, s1, s2, s3, s4, s5⟩; go_simp; with_reducible rfl) (h := ?_)
     exact nof (hJ3 (j) _ ⟨gb.out, gjj.out, grd.out⟩)
    ·skip
     refine vx ?_
     have hbN : Bel W2.drew (W2.alloc (.cells zeN 25)).drew := bel_alloc (Below.refl _ _) _
     have gb := Lib.hid (Below.trans (Below.refl _ _ : Bel W2.drew W2.drew) (Below.mono hbN (Below.size (Below.refl _ _ : Bel W2.drew W2.drew))))
     have gnb : Hid (Blk (W2.alloc (.cells zeN 25)).drew W2.heap.size zeN 25 ∧ W2.drew.heap.size ≤ W2.heap.size) := Lib.hid ⟨Blk.new _ _ _, Nat.le_refl _⟩
     clear hbN
     refine hK.out _ _ (HSF.out _ (grown_of_bel gb.out (some rb))) (fun hHeld => ?_)
     clear hK K
     refine nox 4 (h := ?_)
     exact nof (hJ6 (W2.heap.size) _ ⟨gb.out, gnb.out⟩)
   ·skip
    rintro nb wc ⟨hb, hnb⟩
    try dsimp only at hnb
    have hb := Lib.hid hb
    have fnb := Lib.hid hnb
    clear hnb
    refine norm_ (a' := ?_) ?_ ?_
    rotate_left
    ·simp only [putAll, Act.put, lA, lB, lC]
     rfl
    refine ox 3 (some 10) #[T, T, T, T, F, F, T, F] fun K hK => ?_
    refine gox Tryz.func36 #[.pointer (some ⟨rb, 0, none⟩), .int .i64 2] ?_
    with_reducible refine (pick_c (Rd.bel (Rd.bel HS.out.rd bel_drew) hb.out) (by omega) 2 (by omega)).mono ?_
    rintro e wn ⟨pv, rfl, ⟨r, rfl, hr0, hr1, -⟩, hRp, hgN⟩
    have hr2 := hr1 (by omega)
    obtain ⟨j, rfl⟩ : ∃ j : Nat, r = (j : Int) := ⟨r.toNat, by omega⟩
    have gjj : Hid (j < 2) := Lib.hid (by omega)
    have hj : j < 2 := by omega
    have hj2 : (j : Int) < 2 := by omega
    have grd := Lib.hid hRp
    clear hRp hr0 hr1 hr2
    have gb := Lib.hid (grown_tr (grown_of_bel hb.out (some rb)) hgN)
    have gnb := Lib.hid ((And.intro (fnb.out.1.grown hgN (fun e => by injection e with e; have := fnb.out.2; have h5 : nw < W2.drew.heap.size := hnl; have := HS.out.l1; omega)) fnb.out.2))
    clear hgN
    refine ⟨_, rfl, ?_⟩
    refine hK.out _ _ (HSF.out _ gb.out) (fun hHeld => ?_)
    clear hK K
    refine nox 10 (h := ?_)
    refine py 4 (some 11) #[T, T, T, T, T, F, T, F] ?_
    refine ty 5 (some 12) #[T, T, T, T, T, T, T, F] (hS := hHeld) (hz := by rintro w' ⟨s0, s1, s2, s3, s4, s5⟩; go_simp; with_reducible rfl) (h := ?_)
    exact nof (hJ3_6 (j, nb) _ ⟨gb.out, gjj.out, grd.out, gnb.out⟩)
  ·skip
   rintro j wc ⟨hb, hjj, hrd⟩
   try dsimp only at hjj
   try dsimp only at hrd
   have hb := Lib.hid hb
   have fjj := Lib.hid hjj
   have frd := Lib.hid hrd
   clear hjj hrd
   have hj := fjj.out
   have hj2 : (j : Int) < 2 := by omega
   refine norm_ (a' := ?_) ?_ ?_
   rotate_left
   ·simp only [putAll, Act.put, lA, lB, lC]
    rfl
   refine ox 6 (some 4) #[T, T, T, T, T, T, T, F] fun K hK => ?_
   refine vx ?_
   have hbN : Bel wc (wc.alloc (.cells zeN 25)) := bel_alloc (Below.refl _ _) _
   have gb := Lib.hid (grown_tr hb.out (grown_of_bel hbN (some rb)))
   have gjj := Lib.hid (fjj.out)
   have grd := Lib.hid (Rd.bel frd.out hbN)
   have gnb : Hid (Blk (wc.alloc (.cells zeN 25)) wc.heap.size zeN 25 ∧ W2.drew.heap.size ≤ wc.heap.size) := Lib.hid ⟨Blk.new _ _ _, hb.out.size⟩
   clear hbN
   refine hK.out _ _ (HSF.out _ gb.out) (fun hHeld => ?_)
   clear hK K
   refine nox 4 (h := ?_)
   exact nof (hJ3_6 (j, wc.heap.size) _ ⟨gb.out, gjj.out, grd.out, gnb.out⟩)
 rintro ⟨j, nb⟩ wc ⟨hb, hjj, hrd, hnb⟩
 try dsimp only at hjj
 try dsimp only at hrd
 try dsimp only at hnb
 have hb := Lib.hid hb
 have fjj := Lib.hid hjj
 have frd := Lib.hid hrd
 have fnb := Lib.hid hnb
 clear hjj hrd hnb
 have hj := fjj.out
 have hj2 : (j : Int) < 2 := by omega
 obtain ⟨u0, u1, u2, u3, u4, v0, v1, v2, v3, v4, ynb⟩ := k5f fnb.out.1
 refine norm_ (a' := ?_) ?_ ?_
 rotate_left
 ·simp only [putAll, Act.put, lA, lB, lC]
  rfl
 refine lx 7 none #[T, T, T, T, T, T, T, T] fun K hK => ?_
 refine sx ?_
 refine hK.out _ _ ?_
 clear hK K
 refine done_ (by kernel_rfl) ?_
 clear hj2 u0 v0 u1 v1 u2 v2 u3 v3 u4 v4 ynb
 have hP1 : W2.heap.size ≤ nb := fnb.out.2
 have hSN : SN wc base (nd j) := by
  have hs := (HI.out.bel bel_drew).rd (HS.out.rd.bel bel_drew) hb.out
  rw [HND.out]
  dsimp only
  split
  ·exact hs.oa
  ·exact hs.ob
 generalize nd j = x at hSN ⊢
 obtain ⟨⟨xu, xt, xl, xe, xo⟩, XA, xc⟩ := x
 dsimp only
 have hSO : OwnT wc base (.slice XA xo.length xc) xo := hSN.own
 have HSM := Lib.hid hSN.ops
 have hxl : xo.length ≤ 20 := hSN.len
 have hv9 := fnb.out.1.sets [.bool xu, .int .i64 xt, .bool xl, .bool xe, .slice XA xo.length xc] rfl
 have hd9 : DS w wc rb (k + 21000 + 1) base w.heap.size nw zN_ 25 #[.slice (some ⟨g, 0, none⟩) 2 2, .int .i64 term, .int .i64 lead, .bool both, .slice V xs.length vc, .slice D dn dc] 62 := (HS.out.bel bel_drew).step frd.out hb.out
 have ST : Hid (DS w (((((wc.setCell ⟨nb, 0, none⟩ (.bool xu)).setCell ⟨nb, 1, none⟩ (.int .i64 xt)).setCell ⟨nb, 2, none⟩ (.bool xl)).setCell ⟨nb, 3, none⟩ (.bool xe)).setCell ⟨nb, 4, none⟩ (.slice XA xo.length xc)) rb (k + 21000 + 1) base w.heap.size nb zN_ 25 #[.bool xu, .int .i64 xt, .bool xl, .bool xe, .slice XA xo.length xc] 25) := Lib.hid ⟨Blk.apartS (by omega) [.bool xu, .int .i64 xt, .bool xl, .bool xe, .slice XA xo.length xc] 0 hd9.res, hv9, Rd.sets (by have := hd9.l1; have := hd9.l3; omega) [.bool xu, .int .i64 xt, .bool xl, .bool xe, .slice XA xo.length xc] 0 hd9.rd, grown_sets (by omega) [.bool xu, .int .i64 xt, .bool xl, .bool xe, .slice XA xo.length xc] 0 hd9.gr, hd9.l1, hd9.l2, by have := hd9.l3; omega, hd9.l4, hd9.ne⟩
 have OW : Hid (OwnT (((((wc.setCell ⟨nb, 0, none⟩ (.bool xu)).setCell ⟨nb, 1, none⟩ (.int .i64 xt)).setCell ⟨nb, 2, none⟩ (.bool xl)).setCell ⟨nb, 3, none⟩ (.bool xe)).setCell ⟨nb, 4, none⟩ (.slice XA xo.length xc)) base (.slice XA xo.length xc) xo) := Lib.hid (hSO.sets fnb.out.1 (by decide) [.bool xu, .int .i64 xt, .bool xl, .bool xe, .slice XA xo.length xc])
 clear hSN hSO hv9 hd9 fnb frd fjj hb HSF hP1 HS HI HND hne1 hne2 hnl hj
 generalize (((((wc.setCell ⟨nb, 0, none⟩ (.bool xu)).setCell ⟨nb, 1, none⟩ (.int .i64 xt)).setCell ⟨nb, 2, none⟩ (.bool xl)).setCell ⟨nb, 3, none⟩ (.bool xe)).setCell ⟨nb, 4, none⟩ (.slice XA xo.length xc)) = W9 at ST OW ⊢
 go_wp2_with fail
 refine (pick_c ST.out.rd (by omega) 24 (by omega)).mono ?_
 rintro e w3 ⟨pv, rfl, ⟨r1, rfl, hr1a, hr1b, -⟩, hRp, hgp⟩
 have OW1 := Lib.hid (OW.out.rd ST.out.rd hgp)
 have STA := Lib.hid (ST.out.step hRp hgp)
 clear hRp hgp ST OW hr1a hr1b
 have hnn : ¬ nb = w.heap.size := by have h1 := STA.out.l2; have h2 := STA.out.l3; omega
 have hnn2 : ¬ w.heap.size = nb := fun e => hnn e.symm
 by_cases p0 : r1 = 0
 ·subst p0
  cases xe with
  | true =>
   obtain ⟨q0, q1, q2, q3, q4, qf0, qf1, qf2, qf3, qf4, qy⟩ := k5f STA.out.var
   obtain ⟨p0, p1, p2, p3, p4, pf0, pf1, pf2, pf3, pf4, py⟩ := k5f STA.out.res
   go_wp2
   clear q0 q1 q2 q3 q4 qf0 qf1 qf2 qf3 qf4 qy
   clear p0 p1 p2 p3 p4 pf0 pf1 pf2 pf3 pf4 py
   have hv2 := STA.out.var.set 3 (.bool false) (cs' := #[.bool xu, .int .i64 xt, .bool xl, .bool false, .slice XA xo.length xc]) rfl
   have ST2 := Lib.hid (STA.out.setv [.bool false] 3 hv2)
   have OW2 := Lib.hid (OW1.out.far STA.out.var (by decide) 3 (.bool false))
   have hof := (OW2.out).sets ST2.out.res (by decide) [.bool xu, .int .i64 xt, .bool xl, .bool false, .slice XA xo.length xc]
   have hrd := Rd.sets (b := w.heap.size) hlt [.bool xu, .int .i64 xt, .bool xl, .bool false, .slice XA xo.length xc] 0 ST2.out.rd
   have hgf := ST2.out.fin [.bool xu, .int .i64 xt, .bool xl, .bool false, .slice XA xo.length xc] 0
   have hbf : base ≤ (wsets _ w.heap.size 0 [.bool xu, .int .i64 xt, .bool xl, .bool false, .slice XA xo.length xc]).heap.size := Nat.le_trans ST2.out.l3 (Nat.le_trans (Nat.le_of_lt ST2.out.var.lt) (Nat.le_of_eq (wsets_size _ _ _ _).symm))
   refine bodyPost_ret (results_cell_row rfl _ _ w.heap.size 25 #[.bool xu, .int .i64 xt, .bool xl, .bool false, .slice XA xo.length xc] (0, 0) _ rfl (ST2.out.res.sets [.bool xu, .int .i64 xt, .bool xl, .bool false, .slice XA xo.length xc] rfl) Tryz.underlying25 rfl (by kernel_rfl)) rfl ?_
   exact ⟨base, ⟨xu, xt, xl, false, xo⟩, XA, xc, rfl, hof, HSM.out, by show xo.length ≤ 21; omega, by omega, hbf, hrd.more (by omega), hgf⟩
  | false =>
   obtain ⟨q0, q1, q2, q3, q4, qf0, qf1, qf2, qf3, qf4, qy⟩ := k5f STA.out.var
   obtain ⟨p0, p1, p2, p3, p4, pf0, pf1, pf2, pf3, pf4, py⟩ := k5f STA.out.res
   go_wp2
   clear q0 q1 q2 q3 q4 qf0 qf1 qf2 qf3 qf4 qy
   clear p0 p1 p2 p3 p4 pf0 pf1 pf2 pf3 pf4 py
   have hv2 := STA.out.var.set 3 (.bool true) (cs' := #[.bool xu, .int .i64 xt, .bool xl, .bool true, .slice XA xo.length xc]) rfl
   have ST2 := Lib.hid (STA.out.setv [.bool true] 3 hv2)
   have OW2 := Lib.hid (OW1.out.far STA.out.var (by decide) 3 (.bool true))
   have hof := (OW2.out).sets ST2.out.res (by decide) [.bool xu, .int .i64 xt, .bool xl, .bool true, .slice XA xo.length xc]
   have hrd := Rd.sets (b := w.heap.size) hlt [.bool xu, .int .i64 xt, .bool xl, .bool true, .slice XA xo.length xc] 0 ST2.out.rd
   have hgf := ST2.out.fin [.bool xu, .int .i64 xt, .bool xl, .bool true, .slice XA xo.length xc] 0
   have hbf : base ≤ (wsets _ w.heap.size 0 [.bool xu, .int .i64 xt, .bool xl, .bool true, .slice XA xo.length xc]).heap.size := Nat.le_trans ST2.out.l3 (Nat.le_trans (Nat.le_of_lt ST2.out.var.lt) (Nat.le_of_eq (wsets_size _ _ _ _).symm))
   refine bodyPost_ret (results_cell_row rfl _ _ w.heap.size 25 #[.bool xu, .int .i64 xt, .bool xl, .bool true, .slice XA xo.length xc] (0, 0) _ rfl (ST2.out.res.sets [.bool xu, .int .i64 xt, .bool xl, .bool true, .slice XA xo.length xc] rfl) Tryz.underlying25 rfl (by kernel_rfl)) rfl ?_
   exact ⟨base, ⟨xu, xt, xl, true, xo⟩, XA, xc, rfl, hof, HSM.out, by show xo.length ≤ 21; omega, by omega, hbf, hrd.more (by omega), hgf⟩
 have b0 : (r1 == 0) = false := by simp [p0]
 by_cases p1 : r1 = 1
 ·subst p1
  go_wp2
  have ST1 := Lib.hid (STA.out.bel bel_drew)
  have OWA := Lib.hid (OW1.out.bel bel_drew)
  refine start_ (n := 8) (S := fun w' => w'.cell? ⟨nb, 4, none⟩ = some (.slice XA xo.length xc)) (ds := [7]) #[F, F, F, F, F, F, F, F] (by kernel_rfl) rfl rfl ((blkn ST1.out.var 4 _ rfl)) (fun hHeld => ?_)
  refine py 0 (some 23) #[T, F, F, F, F, F, F, F] ?_
  refine py 2 (some 25) #[T, F, T, F, F, F, F, F] ?_
  refine ty 1 (some 24) #[T, T, T, F, F, F, F, F] (hS := hHeld) (hz := by intro w' s0; go_simp; with_reducible rfl) (h := ?_)
  refine ox 3 (some 26) #[T, T, T, T, F, F, F, F] fun K hK => ?_
  refine gox Tryz.func37 #[.pointer (some ⟨rb, 0, none⟩)] ?_
  with_reducible refine (op_c ST1.out.rd (by omega)).mono ?_
  rintro e wa ⟨ov, rfl, ⟨o, rfl, hso, -⟩, hR, hg⟩
  unfold opV
  have ST2 := Lib.hid (ST1.out.step hR hg)
  have OWB := Lib.hid (OWA.out.rd ST1.out.rd hg)
  clear hR hg
  refine ⟨_, rfl, ?_⟩
  refine hK.out _ _ ((blkn ST2.out.var 4 _ rfl)) (fun hHeld => ?_)
  clear hK K
  refine nox 26 (h := ?_)
  refine ox 4 (some 27) #[T, T, T, T, T, F, F, F] fun K hK => ?_
  refine vx ?_
  have hbo : Bel wa (wa.alloc (.cells (oC o) 27)) := bel_alloc (Below.refl _ _) _
  have ST3 := Lib.hid (ST2.out.bel hbo)
  have hB : Blk (wa.alloc (.cells (oC o) 27)) wa.heap.size (oC o) 27 := Blk.new _ _ _
  have OW3 := Lib.hid (OWB.out.bel hbo)
  clear hbo
  refine hK.out _ _ ((blkn ST3.out.var 4 _ rfl)) (fun hHeld => ?_)
  clear hK K
  refine nox 27 (h := ?_)
  refine ox 5 (some 28) #[T, T, T, T, T, T, F, F] fun K hK => ?_
  refine tail_append_step (by rfl) (.tmp 24) (.tmp 27) rfl rfl o ⟨wa.heap.size, 0, none⟩ 1 rfl ?hc (OW3.out) (by omega) ?hb ?_
  case hc => exact blk_cells5 hB
  case hb => exact Nat.le_trans ST3.out.l3 (Nat.le_of_lt ST3.out.var.lt)
  intro v1 wb hv1 hgr
  obtain ⟨no, hno⟩ : ∃ no, xo ++ [o] = no := ⟨_, rfl⟩
  rw [hno] at hv1
  have HNO := Lib.hid hno
  clear hno
  obtain ⟨C4, c4, rfl, -, -⟩ := hv1.reads
  have OW4 := Lib.hid hv1
  have ST4 := Lib.hid (ST3.out.own hgr (fun b e => ⟨((OW3.out).base b e).1, ((OW3.out).base b e).2.2⟩) (by decide) (by decide))
  have k2 := blkn ST4.out.var 4 _ rfl
  have kf := ST4.out.var.free 4
  have ky := ST4.out.var.lt
  clear hB hv1 hgr
  refine hK.out _ _ (k2) (fun hHeld => ?_)
  clear hK K
  refine nox 28 (h := ?_)
  refine py 6 (some 29) #[T, T, T, T, T, T, T, F] ?_
  refine lx 7 none #[T, T, T, T, T, T, T, T] fun K hK => ?_
  refine sx ?_
  refine hK.out _ _ ?_
  clear hK K
  refine done_ (by kernel_rfl) ?_
  clear k2 kf ky
  have hv2 := ST4.out.var.set 4 (.slice C4 no.length c4) (cs' := #[.bool xu, .int .i64 xt, .bool xl, .bool xe, .slice C4 no.length c4]) rfl
  have ST6 : Hid (DS w (wb.setCell ⟨nb, 4, none⟩ (.slice C4 no.length c4)) _ _ _ _ _ _ _ _ _) := Lib.hid (ST4.out.setv [.slice C4 no.length c4] 4 hv2)
  have OW6 := Lib.hid (OW4.out.far ST4.out.var (by decide) 4 (.slice C4 no.length c4))
  have HSN := Lib.hid (show SmallOs no from HNO.out ▸ smallOs_add HSM.out hso (by omega))
  have hnl : no.length ≤ 21 := by rw [← HNO.out]; simp; omega
  clear hv2 ST1 STA OW1 OWA OW4 ST4
  generalize wb.setCell ⟨nb, 4, none⟩ (.slice C4 no.length c4) = W9 at ST6 OW6 ⊢
  obtain ⟨q0, q1, q2, q3, q4, qf0, qf1, qf2, qf3, qf4, qy⟩ := k5f ST6.out.var
  obtain ⟨p0, p1, p2, p3, p4, pf0, pf1, pf2, pf3, pf4, py⟩ := k5f ST6.out.res
  go_wp2
  clear q0 q1 q2 q3 q4 qf0 qf1 qf2 qf3 qf4 qy
  clear p0 p1 p2 p3 p4 pf0 pf1 pf2 pf3 pf4 py
  have hof := (OW6.out).sets ST6.out.res (by decide) [.bool xu, .int .i64 xt, .bool xl, .bool xe, .slice C4 no.length c4]
  have hrd := Rd.sets (b := w.heap.size) hlt [.bool xu, .int .i64 xt, .bool xl, .bool xe, .slice C4 no.length c4] 0 ST6.out.rd
  have hgf := ST6.out.fin [.bool xu, .int .i64 xt, .bool xl, .bool xe, .slice C4 no.length c4] 0
  have hbf : base ≤ (wsets _ w.heap.size 0 [.bool xu, .int .i64 xt, .bool xl, .bool xe, .slice C4 no.length c4]).heap.size := Nat.le_trans ST6.out.l3 (Nat.le_trans (Nat.le_of_lt ST6.out.var.lt) (Nat.le_of_eq (wsets_size _ _ _ _).symm))
  refine bodyPost_ret (results_cell_row rfl _ _ w.heap.size 25 #[.bool xu, .int .i64 xt, .bool xl, .bool xe, .slice C4 no.length c4] (0, 0) _ rfl (ST6.out.res.sets [.bool xu, .int .i64 xt, .bool xl, .bool xe, .slice C4 no.length c4] rfl) Tryz.underlying25 rfl (by kernel_rfl)) rfl ?_
  exact ⟨base, ⟨xu, xt, xl, xe, no⟩, C4, c4, rfl, hof, HSN.out, hnl, by omega, hbf, hrd.more (by omega), hgf⟩
 have b1 : (r1 == 1) = false := by simp [p1]
 by_cases p2 : r1 = 2
 ·subst p2
  go_wp2_with fail
  have hb3 : Bel w3 (w3.alloc (.cells #[.int .i64 (-1), .int .i64 100] 3)) := bel_alloc (Below.refl _ _) _
  have hV3 : Blk (w3.alloc (.cells #[.int .i64 (-1), .int .i64 100] 3)) w3.heap.size #[.int .i64 (-1), .int .i64 100] 3 := Blk.new _ _ _
  have ST3 := Lib.hid (STA.out.bel hb3)
  have OW3 := Lib.hid (OW1.out.bel hb3)
  obtain ⟨nv, hnv⟩ : ∃ nv, w3.heap.size = nv := ⟨_, rfl⟩
  have hn8 : nb < nv := by have h1 := STA.out.var.lt; omega
  have hn9 : rb < nv := by have h1 := STA.out.rd.lt; omega
  rw [hnv] at hV3
  generalize (w3.alloc (.cells #[.int .i64 (-1), .int .i64 100] 3)) = w4 at hb3 hV3 ST3 OW3 ⊢
  try rw [hnv]
  have HV3 := Lib.hid hV3
  clear hb3 hV3 hnv
  refine (pick_c ST3.out.rd (by omega) 2 (by omega)).mono ?_
  rintro e w5 ⟨pv, rfl, ⟨r5, rfl, hr5a, hr5b, -⟩, hRp, hgp⟩
  have HV5 := Lib.hid (HV3.out.grown hgp (fun e => by injection e with e; omega))
  have OW5 := Lib.hid (OW3.out.rd ST3.out.rd hgp)
  have ST5 := Lib.hid (ST3.out.step hRp hgp)
  clear hRp hgp ST3 OW3 HV3
  have hr5c := hr5b (by omega)
  obtain rfl | rfl : r5 = 0 ∨ r5 = 1 := by omega
  ·have y_0 := blkn HV5.out 0 _ rfl
   have y_y := HV5.out.lt
   obtain ⟨q0, q1, q2, q3, q4, qf0, qf1, qf2, qf3, qf4, qy⟩ := k5f ST5.out.var
   obtain ⟨p0, p1, p2, p3, p4, pf0, pf1, pf2, pf3, pf4, py⟩ := k5f ST5.out.res
   go_wp2
   clear q0 q1 q2 q3 q4 qf0 qf1 qf2 qf3 qf4 qy
   clear p0 p1 p2 p3 p4 pf0 pf1 pf2 pf3 pf4 py
   have hv2 := ST5.out.var.set 1 (.int .i64 (-1)) (cs' := #[.bool xu, .int .i64 (-1), .bool xl, .bool xe, .slice XA xo.length xc]) rfl
   have ST2 := Lib.hid (ST5.out.setv [.int .i64 (-1)] 1 hv2)
   have OW2 := Lib.hid (OW5.out.far ST5.out.var (by decide) 1 (.int .i64 (-1)))
   have hof := (OW2.out).sets ST2.out.res (by decide) [.bool xu, .int .i64 (-1), .bool xl, .bool xe, .slice XA xo.length xc]
   have hrd := Rd.sets (b := w.heap.size) hlt [.bool xu, .int .i64 (-1), .bool xl, .bool xe, .slice XA xo.length xc] 0 ST2.out.rd
   have hgf := ST2.out.fin [.bool xu, .int .i64 (-1), .bool xl, .bool xe, .slice XA xo.length xc] 0
   have hbf : base ≤ (wsets _ w.heap.size 0 [.bool xu, .int .i64 (-1), .bool xl, .bool xe, .slice XA xo.length xc]).heap.size := Nat.le_trans ST2.out.l3 (Nat.le_trans (Nat.le_of_lt ST2.out.var.lt) (Nat.le_of_eq (wsets_size _ _ _ _).symm))
   refine bodyPost_ret (results_cell_row rfl _ _ w.heap.size 25 #[.bool xu, .int .i64 (-1), .bool xl, .bool xe, .slice XA xo.length xc] (0, 0) _ rfl (ST2.out.res.sets [.bool xu, .int .i64 (-1), .bool xl, .bool xe, .slice XA xo.length xc] rfl) Tryz.underlying25 rfl (by kernel_rfl)) rfl ?_
   exact ⟨base, ⟨xu, (-1), xl, xe, xo⟩, XA, xc, rfl, hof, HSM.out, by show xo.length ≤ 21; omega, by omega, hbf, hrd.more (by omega), hgf⟩
  ·have y_1 := blkn HV5.out 1 _ rfl
   have y_y := HV5.out.lt
   obtain ⟨q0, q1, q2, q3, q4, qf0, qf1, qf2, qf3, qf4, qy⟩ := k5f ST5.out.var
   obtain ⟨p0, p1, p2, p3, p4, pf0, pf1, pf2, pf3, pf4, py⟩ := k5f ST5.out.res
   go_wp2
   clear q0 q1 q2 q3 q4 qf0 qf1 qf2 qf3 qf4 qy
   clear p0 p1 p2 p3 p4 pf0 pf1 pf2 pf3 pf4 py
   have hv2 := ST5.out.var.set 1 (.int .i64 100) (cs' := #[.bool xu, .int .i64 100, .bool xl, .bool xe, .slice XA xo.length xc]) rfl
   have ST2 := Lib.hid (ST5.out.setv [.int .i64 100] 1 hv2)
   have OW2 := Lib.hid (OW5.out.far ST5.out.var (by decide) 1 (.int .i64 100))
   have hof := (OW2.out).sets ST2.out.res (by decide) [.bool xu, .int .i64 100, .bool xl, .bool xe, .slice XA xo.length xc]
   have hrd := Rd.sets (b := w.heap.size) hlt [.bool xu, .int .i64 100, .bool xl, .bool xe, .slice XA xo.length xc] 0 ST2.out.rd
   have hgf := ST2.out.fin [.bool xu, .int .i64 100, .bool xl, .bool xe, .slice XA xo.length xc] 0
   have hbf : base ≤ (wsets _ w.heap.size 0 [.bool xu, .int .i64 100, .bool xl, .bool xe, .slice XA xo.length xc]).heap.size := Nat.le_trans ST2.out.l3 (Nat.le_trans (Nat.le_of_lt ST2.out.var.lt) (Nat.le_of_eq (wsets_size _ _ _ _).symm))
   refine bodyPost_ret (results_cell_row rfl _ _ w.heap.size 25 #[.bool xu, .int .i64 100, .bool xl, .bool xe, .slice XA xo.length xc] (0, 0) _ rfl (ST2.out.res.sets [.bool xu, .int .i64 100, .bool xl, .bool xe, .slice XA xo.length xc] rfl) Tryz.underlying25 rfl (by kernel_rfl)) rfl ?_
   exact ⟨base, ⟨xu, 100, xl, xe, xo⟩, XA, xc, rfl, hof, HSM.out, by show xo.length ≤ 21; omega, by omega, hbf, hrd.more (by omega), hgf⟩
 have b2 : (r1 == 2) = false := by simp [p2]
 obtain ⟨q0, q1, q2, q3, q4, qf0, qf1, qf2, qf3, qf4, qy⟩ := k5f STA.out.var
 obtain ⟨p0, p1, p2, p3, p4, pf0, pf1, pf2, pf3, pf4, py⟩ := k5f STA.out.res
 go_wp2
 clear q0 q1 q2 q3 q4 qf0 qf1 qf2 qf3 qf4 qy
 clear p0 p1 p2 p3 p4 pf0 pf1 pf2 pf3 pf4 py
 have hof := (OW1.out).sets STA.out.res (by decide) [.bool xu, .int .i64 xt, .bool xl, .bool xe, .slice XA xo.length xc]
 have hrd := Rd.sets (b := w.heap.size) hlt [.bool xu, .int .i64 xt, .bool xl, .bool xe, .slice XA xo.length xc] 0 STA.out.rd
 have hgf := STA.out.fin [.bool xu, .int .i64 xt, .bool xl, .bool xe, .slice XA xo.length xc] 0
 have hbf : base ≤ (wsets _ w.heap.size 0 [.bool xu, .int .i64 xt, .bool xl, .bool xe, .slice XA xo.length xc]).heap.size := Nat.le_trans STA.out.l3 (Nat.le_trans (Nat.le_of_lt STA.out.var.lt) (Nat.le_of_eq (wsets_size _ _ _ _).symm))
 refine bodyPost_ret (results_cell_row rfl _ _ w.heap.size 25 #[.bool xu, .int .i64 xt, .bool xl, .bool xe, .slice XA xo.length xc] (0, 0) _ rfl (STA.out.res.sets [.bool xu, .int .i64 xt, .bool xl, .bool xe, .slice XA xo.length xc] rfl) Tryz.underlying25 rfl (by kernel_rfl)) rfl ?_
 exact ⟨base, ⟨xu, xt, xl, xe, xo⟩, XA, xc, rfl, hof, HSM.out, by show xo.length ≤ 21; omega, by omega, hbf, hrd.more (by omega), hgf⟩
def DrewN (w : World) (e : Ending) (w' : World) : Prop := ∃ (n : Node) (A : Option Addr) (c : Nat), e = .returned (.agg #[.bool n.up, .int .i64 n.term, .bool n.leads, .bool n.alone, .slice A n.ops.length c]) ∧ kOp.C w' A n.ops.length n.ops ∧ n.ops.length ≤ c ∧ SmallOs n.ops ∧ n.ops.length ≤ 22 ∧ Bel w w'
theorem OwnT.cap {w : World} {base : Nat} {A : Option Addr} {c : Nat} {os : List Op} (h : OwnT w base (.slice A os.length c) os) : os.length ≤ c := by
 obtain ⟨A', c', e, h1, _⟩ := h.reads
 have e := slice_eq e
 obtain ⟨-, -, rfl⟩ := e
 exact h1
theorem drawNodePool_c {w : World} {A : Option Addr} {n c : Nat} {bs : List Int} (h : CodeIn w A n c bs) (hn : n ≤ 9223372036854775807) :
  Calls Tryz.prog 22 #[.slice A n c] w (DrewN w) := by
 have H := Lib.hid h
 clear h
 go_enter Tryz.func22, Tryz.ntmps22
 go_wp2_with fail
 have hR0 : Blk (w.alloc (.cells zN_ 25)) w.heap.size zN_ 25 := Blk.new _ _ _
 have hb0 : Bel w (w.alloc (.cells zN_ 25)) := bel_alloc (Below.refl _ _) _
 have hsz0 : (w.alloc (.cells zN_ 25)).heap.size = w.heap.size + 1 := by simp
 generalize (w.alloc (.cells zN_ 25)) = W0 at hR0 hb0 hsz0 ⊢
 refine (open_c (H.out.bel hb0) hn).mono ?_
 rintro e w1 ⟨rb, rfl, hR1, hrb, hb1⟩
 have hr1 := hR0.bel hb1
 have hbw := hb0.tr hb1
 go_wp2_with fail
 refine (l72Node_c hR1 (by omega)).mono ?_
 rintro e w2 ⟨base, nn, NA, nc, rfl, ho, hs, hl, hba, hbz, hR2, hg2⟩
 have HR2 := Lib.hid (hr1.grown hg2 (fun e => by injection e with e; omega))
 have HB2 := Lib.hid (hbw.grown hg2 hbw.size (fun k e => by injection e with e; omega) : Bel w w2)
 have HO := Lib.hid ho
 clear hR0 hb0 hsz0 hR1 hr1 hbw hb1 ho hR2 hg2
 obtain ⟨p0, p1, p2, p3, p4, pf0, pf1, pf2, pf3, pf4, py⟩ := k5f HR2.out
 go_wp2
 clear p0 pf0 p1 pf1 p2 pf2 p3 pf3 p4 pf4 py
 have hof := HO.out.sets HR2.out (by decide) [.bool nn.up, .int .i64 nn.term, .bool nn.leads, .bool nn.alone, .slice NA nn.ops.length nc]
 have hbf := bel_sets (Nat.le_refl _) [.bool nn.up, .int .i64 nn.term, .bool nn.leads, .bool nn.alone, .slice NA nn.ops.length nc] 0 HB2.out
 refine bodyPost_ret (results_cell_row rfl _ _ w.heap.size 25 (nC nn NA nc) (0, 0) _ rfl (HR2.out.sets [.bool nn.up, .int .i64 nn.term, .bool nn.leads, .bool nn.alone, .slice NA nn.ops.length nc] rfl) Tryz.underlying25 rfl (by kernel_rfl)) rfl ?_
 exact ⟨nn, NA, nc, rfl, hof.reads2, hof.cap, hs, by omega, hbf⟩
theorem drawNodeOk_c {w : World} {A : Option Addr} {n c : Nat} {bs : List Int} (h : CodeIn w A n c bs) (hn : n ≤ 9223372036854775807) :
  Calls Tryz.prog 20 #[.slice A n c] w (DrewN w) := by
 have H := Lib.hid h
 clear h
 go_enter Tryz.func20, Tryz.ntmps20
 go_wp2_with fail
 have hR0 : Blk (w.alloc (.cells zN_ 25)) w.heap.size zN_ 25 := Blk.new _ _ _
 have hb0 : Bel w (w.alloc (.cells zN_ 25)) := bel_alloc (Below.refl _ _) _
 have hsz0 : (w.alloc (.cells zN_ 25)).heap.size = w.heap.size + 1 := by simp
 generalize (w.alloc (.cells zN_ 25)) = W0 at hR0 hb0 hsz0 ⊢
 refine (open_c (H.out.bel hb0) hn).mono ?_
 rintro e w1 ⟨rb, rfl, hR1, hrb, hb1⟩
 have hr1 := hR0.bel hb1
 have hbw := hb0.tr hb1
 have hrl := hR1.lt
 go_wp2_with fail
 refine (l72Node_c hR1 (by omega)).mono ?_
 rintro e w2 ⟨base, ⟨xu, xt, xl, xe, xo⟩, XA, xc, rfl, ho, hs, hl, hba, hbz, hR2, hg2⟩
 dsimp only at ho hs hl
 have hgw : w.grownBy w2 (some rb) := grown_tr (grown_of_bel hbw _) hg2
 have hr2 := hr1.grown hg2 (fun e => by injection e with e; omega)
 have hba2 : Bel w2 (w2.alloc (.cells #[.bool xu, .int .i64 xt, .bool xl, .bool xe, .slice XA xo.length xc] 25)) := bel_alloc (Below.refl _ _) _
 have HS : Hid (DS w (w2.alloc (.cells #[.bool xu, .int .i64 xt, .bool xl, .bool xe, .slice XA xo.length xc] 25)) rb (0 + 22000) base w.heap.size w2.heap.size zN_ 25 #[.bool xu, .int .i64 xt, .bool xl, .bool xe, .slice XA xo.length xc] 25) := Lib.hid ⟨hr2.bel hba2, Blk.new _ _ _, hR2.bel hba2, grown_tr hgw (grown_of_bel hba2 _), by omega, by omega, hbz, Nat.le_refl _, by omega⟩
 have OW := Lib.hid (ho.bel hba2)
 have HSM := Lib.hid hs
 have hrw : w.heap.size ≤ rb := by omega
 clear hR0 hb0 hsz0 hR1 hr1 hbw hb1 ho hR2 hg2 hgw hr2 hba2 hs
 go_wp2_with fail
 generalize (w2.alloc (.cells #[.bool xu, .int .i64 xt, .bool xl, .bool xe, .slice XA xo.length xc] 25)) = W2 at HS OW ⊢
 obtain ⟨nb, hnb⟩ : ∃ n, w2.heap.size = n := ⟨_, rfl⟩
 rw [hnb] at HS hbz ⊢
 clear hnb
 refine (pick_c HS.out.rd (by omega) 5 (by omega)).mono ?_
 rintro e w3 ⟨pv, rfl, ⟨r1, rfl, hr1a, hr1b, -⟩, hRp, hgp⟩
 have OW1 := Lib.hid (OW.out.rd HS.out.rd hgp)
 have STA := Lib.hid (HS.out.step hRp hgp)
 clear hRp hgp HS OW hr1a hr1b
 have hnn : ¬ nb = w.heap.size := by have h1 := STA.out.l2; have h2 := STA.out.l3; omega
 have hnn2 : ¬ w.heap.size = nb := fun e => hnn e.symm
 by_cases p1 : r1 = 0
 ·subst p1
  go_wp2
  have ST1 := Lib.hid (STA.out.bel bel_drew)
  have OWA := Lib.hid (OW1.out.bel bel_drew)
  refine start_ (n := 8) (S := fun w' => w'.cell? ⟨nb, 4, none⟩ = some (.slice XA xo.length xc)) (ds := [7]) #[F, F, F, F, F, F, F, F] (by kernel_rfl) rfl rfl ((blkn ST1.out.var 4 _ rfl)) (fun hHeld => ?_)
  refine py 0 (some 12) #[T, F, F, F, F, F, F, F] ?_
  refine py 2 (some 14) #[T, F, T, F, F, F, F, F] ?_
  refine ty 1 (some 13) #[T, T, T, F, F, F, F, F] (hS := hHeld) (hz := by intro w' s0; go_simp; with_reducible rfl) (h := ?_)
  refine ox 3 (some 15) #[T, T, T, T, F, F, F, F] fun K hK => ?_
  refine gox Tryz.func37 #[.pointer (some ⟨rb, 0, none⟩)] ?_
  with_reducible refine (op_c ST1.out.rd (by omega)).mono ?_
  rintro e wa ⟨ov, rfl, ⟨o, rfl, hso, -⟩, hR, hg⟩
  unfold opV
  have ST2 := Lib.hid (ST1.out.step hR hg)
  have OWB := Lib.hid (OWA.out.rd ST1.out.rd hg)
  clear hR hg
  refine ⟨_, rfl, ?_⟩
  refine hK.out _ _ ((blkn ST2.out.var 4 _ rfl)) (fun hHeld => ?_)
  clear hK K
  refine nox 15 (h := ?_)
  refine ox 4 (some 16) #[T, T, T, T, T, F, F, F] fun K hK => ?_
  refine vx ?_
  have hbo : Bel wa (wa.alloc (.cells (oC o) 27)) := bel_alloc (Below.refl _ _) _
  have ST3 := Lib.hid (ST2.out.bel hbo)
  have hB : Blk (wa.alloc (.cells (oC o) 27)) wa.heap.size (oC o) 27 := Blk.new _ _ _
  have OW3 := Lib.hid (OWB.out.bel hbo)
  clear hbo
  refine hK.out _ _ ((blkn ST3.out.var 4 _ rfl)) (fun hHeld => ?_)
  clear hK K
  refine nox 16 (h := ?_)
  refine ox 5 (some 17) #[T, T, T, T, T, T, F, F] fun K hK => ?_
  refine tail_append_step (by rfl) (.tmp 13) (.tmp 16) rfl rfl o ⟨wa.heap.size, 0, none⟩ 1 rfl ?hc (OW3.out) (by omega) ?hb ?_
  case hc => exact blk_cells5 hB
  case hb => exact Nat.le_trans ST3.out.l3 (Nat.le_of_lt ST3.out.var.lt)
  intro v1 wb hv1 hgr
  obtain ⟨no, hno⟩ : ∃ no, xo ++ [o] = no := ⟨_, rfl⟩
  rw [hno] at hv1
  have HNO := Lib.hid hno
  clear hno
  obtain ⟨C4, c4, rfl, -, -⟩ := hv1.reads
  have OW4 := Lib.hid hv1
  have ST4 := Lib.hid (ST3.out.own hgr (fun b e => ⟨((OW3.out).base b e).1, ((OW3.out).base b e).2.2⟩) (by decide) (by decide))
  have k2 := blkn ST4.out.var 4 _ rfl
  have kf := ST4.out.var.free 4
  have ky := ST4.out.var.lt
  clear hB hv1 hgr
  refine hK.out _ _ (k2) (fun hHeld => ?_)
  clear hK K
  refine nox 17 (h := ?_)
  refine py 6 (some 18) #[T, T, T, T, T, T, T, F] ?_
  refine lx 7 none #[T, T, T, T, T, T, T, T] fun K hK => ?_
  refine sx ?_
  refine hK.out _ _ ?_
  clear hK K
  refine done_ (by kernel_rfl) ?_
  clear k2 kf ky
  have hv2 := ST4.out.var.set 4 (.slice C4 no.length c4) (cs' := #[.bool xu, .int .i64 xt, .bool xl, .bool xe, .slice C4 no.length c4]) rfl
  have ST6 : Hid (DS w (wb.setCell ⟨nb, 4, none⟩ (.slice C4 no.length c4)) _ _ _ _ _ _ _ _ _) := Lib.hid (ST4.out.setv [.slice C4 no.length c4] 4 hv2)
  have OW6 := Lib.hid (OW4.out.far ST4.out.var (by decide) 4 (.slice C4 no.length c4))
  have HSN := Lib.hid (show SmallOs no from HNO.out ▸ smallOs_add HSM.out hso (by omega))
  have hnl : no.length ≤ 22 := by rw [← HNO.out]; simp; omega
  clear hv2 ST1 STA OW1 OWA OW4 ST4
  generalize wb.setCell ⟨nb, 4, none⟩ (.slice C4 no.length c4) = W9 at ST6 OW6 ⊢
  obtain ⟨q0, q1, q2, q3, q4, qf0, qf1, qf2, qf3, qf4, qy⟩ := k5f ST6.out.var
  obtain ⟨p0, p1, p2, p3, p4, pf0, pf1, pf2, pf3, pf4, py⟩ := k5f ST6.out.res
  go_wp2
  clear q0 q1 q2 q3 q4 qf0 qf1 qf2 qf3 qf4 qy
  clear p0 p1 p2 p3 p4 pf0 pf1 pf2 pf3 pf4 py
  have hof := (OW6.out).sets ST6.out.res (by decide) [.bool xu, .int .i64 xt, .bool xl, .bool xe, .slice C4 no.length c4]
  have hgf := ST6.out.fin [.bool xu, .int .i64 xt, .bool xl, .bool xe, .slice C4 no.length c4] 0
  have hbf : Bel w (wsets _ w.heap.size 0 [.bool xu, .int .i64 xt, .bool xl, .bool xe, .slice C4 no.length c4]) := ⟨hgf.os, hgf.tape, hgf.output, hgf.size, fun k hk => hgf.block k hk (fun e => by injection e with e; omega)⟩
  refine bodyPost_ret (results_cell_row rfl _ _ w.heap.size 25 #[.bool xu, .int .i64 xt, .bool xl, .bool xe, .slice C4 no.length c4] (0, 0) _ rfl (ST6.out.res.sets [.bool xu, .int .i64 xt, .bool xl, .bool xe, .slice C4 no.length c4] rfl) Tryz.underlying25 rfl (by kernel_rfl)) rfl ?_
  exact ⟨⟨xu, xt, xl, xe, no⟩, C4, c4, rfl, hof.reads2, hof.cap, HSN.out, hnl, hbf⟩
 have b1 : (r1 == 0) = false := by simp [p1]
 obtain ⟨q0, q1, q2, q3, q4, qf0, qf1, qf2, qf3, qf4, qy⟩ := k5f STA.out.var
 obtain ⟨p0, p1, p2, p3, p4, pf0, pf1, pf2, pf3, pf4, py⟩ := k5f STA.out.res
 go_wp2
 clear q0 q1 q2 q3 q4 qf0 qf1 qf2 qf3 qf4 qy
 clear p0 p1 p2 p3 p4 pf0 pf1 pf2 pf3 pf4 py
 have hof := (OW1.out).sets STA.out.res (by decide) [.bool xu, .int .i64 xt, .bool xl, .bool xe, .slice XA xo.length xc]
 have hgf := STA.out.fin [.bool xu, .int .i64 xt, .bool xl, .bool xe, .slice XA xo.length xc] 0
 have hbf : Bel w (wsets _ w.heap.size 0 [.bool xu, .int .i64 xt, .bool xl, .bool xe, .slice XA xo.length xc]) := ⟨hgf.os, hgf.tape, hgf.output, hgf.size, fun k hk => hgf.block k hk (fun e => by injection e with e; omega)⟩
 refine bodyPost_ret (results_cell_row rfl _ _ w.heap.size 25 #[.bool xu, .int .i64 xt, .bool xl, .bool xe, .slice XA xo.length xc] (0, 0) _ rfl (STA.out.res.sets [.bool xu, .int .i64 xt, .bool xl, .bool xe, .slice XA xo.length xc] rfl) Tryz.underlying25 rfl (by kernel_rfl)) rfl ?_
 exact ⟨⟨xu, xt, xl, xe, xo⟩, XA, xc, rfl, hof.reads2, hof.cap, HSM.out, by show xo.length ≤ 22; omega, hbf⟩
open Go.ChangeShapes Go.WideShapes
theorem joined_of {P : Program} {f : FuncId} {fn : Func} {s : ChangeSpec} {c : OpenClaim}
  (h0 : (c.wf (OpenSpec.ofChange s)) = true)
  (h1 : (laidOutB P) = true)
  (h2 : (mapsRowed P) = true)
  (h3 : (fn.params.all (P.readableRec ·)) = true)
  (h4 : (namedTie P c.named s.vars) = true)
  (h5 : (c.stops == []) = true)
  (h6 : (P.stops == []) = true)
  (h7 : (c.knobs == []) = true)
  (h8 : (P.stopKnobs == []) = true)
  (h9 : (c.inPlace == P.inPlace f) = true)
  (h10 : (c.unfollowed == P.unfollowed f) = true)
  (h11 : (c.recurses == P.recurses f) = true)
  (h12 : (c.named == P.varsNamed f) = true)
  (h13 : (c.maps == (fn.params.toList ++ s.plain.varTypes P).any (P.mapsRec ·)) = true)
  (h14 : (c.ifaces == (fn.params.toList ++ s.plain.varTypes P).any (P.ifacesRec ·)) = true)
  (h15 : (c.mapsOut == P.mapsAmong fn.resultTypes.toList) = true)
  (h16 : (c.loops == (fn.params.toList ++ s.plain.varTypes P).any (P.loopsFrom ·)) = true)
  (h17 : (c.wideKeys == (fn.params.toList ++ s.plain.varTypes P ++ fn.resultTypes.toList).any (P.wideKeysFrom ·)) = true)
  (h18 : (s.vars.all (P.varReadable ·)) = true)
  (h19 : (fn.resultTypes.all (fun t => P.readableRec t && decide (t < P.types.size))) = true)
  (h20 : (c.ifacesOut == fn.resultTypes.toList.any (P.ifacesRec ·)) = true)
  (h21 : (c.loopsOut == fn.resultTypes.toList.any (P.loopsFrom ·)) = true)
  (h22 : (c.plainKeys == P.plainKeys) = true)
  (h23 : (c.shortTexts.isNone) = true)
  (h24 : (P.stopsHeard) = true)
  (h25 : (P.mayEnter) = true)
  (h26 : (c.lifted == P.liftsFinal) = true)
  (h27 : (P.make == some c.make) = true)
  (h28 : (c.kinds == (if c.domain.isEmpty then [] else fn.params.toList.map fun t => match P.underlying t with | some (.int k) => some k | _ => none)) = true)
  (h29 : (c.pinned == c.pinnedBy) = true)
  (h30 : (c.veiled == (fn.params.toList ++ s.plain.varTypes P ++ fn.resultTypes.toList).any (P.veiledRec ·)) = true)
  (h31 : (c.veiledFits P fn.params.toList (fn.params.toList ++ s.plain.varTypes P ++ fn.resultTypes.toList)) = true) : joinedFacts P f fn s c = true := by
 unfold joinedFacts
 simp only [Bool.and_eq_true]
 exact ⟨⟨⟨⟨⟨⟨⟨⟨⟨⟨⟨⟨⟨⟨⟨⟨⟨⟨⟨⟨⟨⟨⟨⟨⟨⟨⟨⟨⟨⟨⟨h0, h1⟩, h2⟩, h3⟩, h4⟩, h5⟩, h6⟩, h7⟩, h8⟩, h9⟩, h10⟩, h11⟩, h12⟩, h13⟩, h14⟩, h15⟩, h16⟩, h17⟩, h18⟩, h19⟩, h20⟩, h21⟩, h22⟩, h23⟩, h24⟩, h25⟩, h26⟩, h27⟩, h28⟩, h29⟩, h30⟩, h31⟩
def ordN : List Nat := [104, 97, 114, 110, 101, 115, 115, 32, 52, 54, 48, 99, 48, 56, 53, 48, 48, 57, 52, 56, 57, 50, 53, 48, 51, 48, 100, 53, 52, 48, 54, 52, 52, 49, 54, 100, 102, 54, 54, 52,
 54, 50, 53, 102, 100, 100, 102, 54, 102, 57, 99, 101, 53, 53, 98, 55, 55, 56, 52, 98, 49, 50, 50, 98, 99, 57, 56, 49, 97, 55, 57, 57, 32, 99, 117, 116, 32, 97, 116, 32,
 108, 111, 111, 112, 46, 101, 120, 97, 109, 112, 108, 101, 47, 103, 97, 114, 110, 101, 114, 47, 108, 97, 119, 115, 46, 70, 110, 72, 101, 97, 114, 71, 97, 112, 32, 108, 111, 111, 112, 46,
 101, 120, 97, 109, 112, 108, 101, 47, 103, 97, 114, 110, 101, 114, 47, 108, 97, 119, 115, 46, 70, 110, 72, 101, 97, 114, 74, 111, 105, 110, 32, 108, 111, 111, 112, 46, 101, 120, 97, 109,
 112, 108, 101, 47, 103, 97, 114, 110, 101, 114, 47, 108, 97, 119, 115, 46, 70, 110, 72, 101, 97, 114, 67, 111, 112, 121, 32, 108, 111, 111, 112, 46, 101, 120, 97, 109, 112, 108, 101, 47,
 103, 97, 114, 110, 101, 114, 47, 108, 97, 119, 115, 46, 70, 110, 78, 111, 100, 101, 76, 101, 115, 115, 32, 108, 111, 111, 112, 46, 101, 120, 97, 109, 112, 108, 101, 47, 103, 97, 114, 110,
 101, 114, 47, 108, 97, 119, 115, 46, 70, 110, 78, 111, 100, 101, 80, 111, 111, 108, 32, 108, 111, 111, 112, 46, 101, 120, 97, 109, 112, 108, 101, 47, 103, 97, 114, 110, 101, 114, 47, 108,
 97, 119, 115, 46, 70, 110, 69, 120, 97, 99, 116, 87, 111, 114, 108, 100, 79, 107, 32, 108, 111, 111, 112, 46, 101, 120, 97, 109, 112, 108, 101, 47, 103, 97, 114, 110, 101, 114, 47, 108,
 97, 119, 115, 46, 70, 110, 72, 101, 97, 114, 65, 103, 97, 105, 110, 32, 108, 111, 111, 112, 46, 101, 120, 97, 109, 112, 108, 101, 47, 103, 97, 114, 110, 101, 114, 47, 108, 97, 119, 115,
 46, 70, 110, 72, 101, 97, 114, 68, 111, 119, 110, 32, 108, 111, 111, 112, 46, 101, 120, 97, 109, 112, 108, 101, 47, 103, 97, 114, 110, 101, 114, 47, 108, 97, 119, 115, 46, 70, 110, 72,
 101, 97, 114, 69, 108, 100, 101, 114]
theorem ord_eq : Tryz.prog.initOrder = String.ofList (ordN.map Char.ofNat) := by kernel_rfl
theorem ord_list : Tryz.prog.initOrder.toList = ordN.map Char.ofNat := by rw [ord_eq, String.toList_ofList]
theorem jo_laid : laidOutB Tryz.prog = true := by kernel_rfl
theorem jo_maps : mapsRowed Tryz.prog = true := by kernel_rfl
theorem jo_stops : (Tryz.prog.stops == []) = true := by kernel_rfl
theorem jo_knobs : (Tryz.prog.stopKnobs == []) = true := by kernel_rfl
theorem jo_keys : (true == Tryz.prog.plainKeys) = true := by kernel_rfl
theorem jo_heard : Tryz.prog.stopsHeard = true := by kernel_rfl
theorem ord_words : behindMainWord (wordsSigns (ordN.map Char.ofNat)) = "cut".toList :: (behindMainWord (wordsSigns (ordN.map Char.ofNat))).tail := by kernel_rfl
theorem strip_cut (W : List (List Char)) : stripLifts liftWords ("cut".toList :: W) = ([], "cut".toList :: W) := by kernel_rfl
theorem jo_later : Tryz.prog.laysLater = false := by kernel_rfl
theorem jo_reflect : Tryz.prog.bearsReflect = false := by kernel_rfl
theorem jo_door : Tryz.prog.doorFits [] = true := by kernel_rfl
theorem cut_gc : ("cut".toList == "gc".toList) = false := by kernel_rfl
theorem cut_spec : ("cut".toList == "spec".toList) = false := by kernel_rfl
theorem cut_carried : ("cut".toList == "carried".toList) = false := by kernel_rfl
theorem cut_cut : ("cut".toList == "cut".toList) = true := by kernel_rfl
theorem some_cut : (some "cut".toList == some "cut".toList) = true := by kernel_rfl
theorem jo_enter : Tryz.prog.mayEnter = true := by
 rw [Program.mayEnter, ord_list, ord_words]
 generalize (behindMainWord (wordsSigns (ordN.map Char.ofNat))).tail = W
 simp only [strip_cut, cut_gc, cut_spec, cut_carried, List.head?_cons, some_cut, jo_later, jo_reflect, jo_door, Bool.or_self, Bool.false_and, Bool.not_false, Bool.or_true, Bool.and_self, List.contains_nil]
theorem jo_lifts : Tryz.prog.headLifts = [] := by
 unfold Program.headLifts
 rw [ord_list, ord_words]
 generalize (behindMainWord (wordsSigns (ordN.map Char.ofNat))).tail = W
 simp only [strip_cut, List.head?_cons, some_cut, if_true]
theorem jo_final : (false == Tryz.prog.liftsFinal) = true := by
 unfold Program.liftsFinal
 rw [jo_lifts, ord_list, ord_words]
 generalize (behindMainWord (wordsSigns (ordN.map Char.ofNat))).tail = W
 kernel_rfl
theorem jo_make : (Tryz.prog.make == some .cut) = true := by
 rw [Program.make, ord_list, ord_words]
 generalize (behindMainWord (wordsSigns (ordN.map Char.ofNat))).tail = W
 simp only [cut_gc, cut_spec, cut_cut, Bool.or_self, Bool.true_or, if_true, Bool.false_eq_true, if_false]
 kernel_rfl
open Go.RowKit Go.Proofs.YtljfoglilggkjaaGreatW.PrintWords Go.Joins Go.ChangeShapes Go.WideShapes Go.Deep
section
variable {H : Type} {enc : TypeId × Value → H} {w : World} {base : Nat} {spare : Nat → Bool} {held : Bool}
theorem open_byteE {n : Nat} {c : List Value} {y : DataW H × List MemPlace} (h : DataW.trod enc Tryz.prog w base spare held n 5 c = some y) : ∃ z : Int, kByte.K w z c ∧ 0 ≤ z ∧ z ≤ 255 := by
 obtain ⟨z, rfl, _, hw⟩ := DataW.trod_int Tryz.underlying5 h
 have hb := bounds_u8 hw
 exact ⟨z, rfl, hb.1, hb.2⟩
theorem cells_byte : Tryz.prog.cellsOf 5 = 1 := by kernel_rfl
set_option maxRecDepth 100000 in
theorem bytes_lt {r : Reach} {b0 : Nat} {ad : Addr} {n c : Nat} (h : Value.okWide Tryz.prog w r b0 22 (.slice (some ad) n c)) : ad.block < w.heap.size := by
 simp only [Value.okWide, Tryz.underlying22, Cell.okWide, Cell.ok, World.has] at h
 obtain ⟨_, _, _, _, row, cells, hs, _⟩ := h
 unfold World.shape? at hs
 by_cases hl : ad.block < w.heap.size
 ·exact hl
 ·rw [Array.getElem?_eq_none (by omega)] at hs
  cases hs
set_option maxRecDepth 100000 in
theorem open_bytes {r : Reach} {b0 : Nat} {v : Value} {d : DataW H} {p : List MemPlace} (hv : Value.okWide Tryz.prog w r b0 22 v) (h : DataW.Trod enc Tryz.prog w base spare held 22 v d p) :
  ∃ A n c, ∃ bs : List Int, v = .slice A n c ∧ CodeIn w A n c bs ∧ n ≤ 9223372036854775807 := by
 obtain ⟨a, len, cap, rfl⟩ := okWide_slice Tryz.underlying22 hv
 obtain ⟨fuel, hf⟩ := h
 obtain ⟨A, c, xs, e, hc, hC, hQ, hm⟩ := open_row kByte (Q := fun z => 0 ≤ z ∧ z ≤ 255) Tryz.underlying22 cells_byte (fun n c y hl h => by
  obtain ⟨z, hz, h0, h1⟩ := open_byteE h
  exact ⟨z, hz, h0, h1⟩) hf
 simp [Value.cells] at e
 obtain ⟨rfl, rfl, rfl⟩ := e
 have := big_max
 exact ⟨_, _, _, xs, rfl, ⟨rfl, hc, hC, hQ, fun ad e => by subst e; exact bytes_lt hv⟩, by omega⟩
end
end Go.Proofs.YtljfoglilggkjaaGreat

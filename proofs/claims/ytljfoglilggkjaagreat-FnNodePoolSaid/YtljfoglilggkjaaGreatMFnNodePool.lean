/- The law FnNodePool: its body walked. -/
import Derived.Test.YtljfoglilggkjaaGreatM1
import Derived.Test.YtljfoglilggkjaaGreatM2
import Derived.Test.YtljfoglilggkjaaGreatM3
import Derived.Test.YtljfoglilggkjaaGreatM4
import Derived.Test.YtljfoglilggkjaaGreatM5
import Derived.Test.YtljfoglilggkjaaGreatM6
import Derived.Test.YtljfoglilggkjaaGreatM7
import Derived.Test.YtljfoglilggkjaaGreatM8
import Derived.Test.YtljfoglilggkjaaGreatM9
import Derived.Test.YtljfoglilggkjaaGreatM10
import Derived.Test.YtljfoglilggkjaaGreatM11
import Derived.Test.YtljfoglilggkjaaGreatM12
import Derived.Test.YtljfoglilggkjaaGreatM13
set_option maxHeartbeats 64000000
set_option maxRecDepth 10000
namespace Go.Proofs.YtljfoglilggkjaaGreat
open Go.RowKit Go.Proofs.YtljfoglilggkjaaGreatW.PrintWords Go.Proofs.YtljfoglilggkjaaGreatW.PrintLast
set_option linter.unusedVariables false
set_option linter.unusedSimpArgs false

theorem node_log {n : Node} (h : nodeOk n = true) : poolF ⟨newP, n.ops, 0⟩ = nodePF n := by
 obtain ⟨q, h1, h2, h3⟩ := nodePF_yes h
 have hn := (nodeOk_iff newP_ok).1 h
 obtain ⟨q', hq⟩ := hn
 have hl : LogP ⟨newP, n.ops, 0⟩ q := ⟨newP_ok, h2, hq.len, Int.le_refl _, by show (0 : Int) ≤ (n.ops.length : Int); omega⟩
 rw [hl.poolE, h1]
theorem node_pool {n : Node} (h : nodeOk n = true) : poolOk (nodePF n) = true := by
 obtain ⟨q, h1, h2, h3⟩ := nodePF_yes h
 rw [h1]
 exact poolOk_iff.2 (runP_ok _ newP_ok h2)
theorem lawFnNodePool_c {w : World} {A : Option Addr} {n c : Nat} {bs : List Int} (h : CodeIn w A n c bs) (hn : n ≤ 9223372036854775807) :
  Calls Tryz.prog 7 #[.slice A n c] w (Ret (.bool true) w) := by
 have H := Lib.hid h
 clear h
 go_enter Tryz.func7, Tryz.ntmps7
 by_cases hlen : (1048576 : Int) < (n : Int)
 ·go_wp2
  go_ret
  exact ⟨rfl, Below.refl _ _⟩
 go_wp2_with fail
 refine (drawNodePool_c H.out hn).mono ?_
 rintro e w1 ⟨n9, XA, xc, rfl, hC, hcap, hs, hl, hb⟩
 have HS := Lib.hid hs
 have HC := Lib.hid hC
 have HB1 := Lib.hid hb
 have hN : Blk (w1.alloc (.cells (nC n9 XA xc) 25)) w1.heap.size (nC n9 XA xc) 25 := Blk.new _ _ _
 have hb2 : Bel w1 (w1.alloc (.cells (nC n9 XA xc) 25)) := bel_alloc (Below.refl _ _) _
 have KB := Lib.hid hb2
 obtain ⟨p, hp⟩ : ∃ p, nodePF n9 = p := ⟨_, rfl⟩
 have HP := Lib.hid hp
 have HSP : Hid (SmallP p) := Lib.hid (hp ▸ nodePF_small)
 clear hs hC hb hp
 go_wp2_with fail
 generalize (w1.alloc (.cells (nC n9 XA xc) 25)) = W2 at hN hb2 KB ⊢
 obtain ⟨nb, hnb⟩ : ∃ b, w1.heap.size = b := ⟨_, rfl⟩
 rw [hnb] at hN ⊢
 clear hnb hb2
 refine ((implNodePool_c (n := n9) (c := xc) (kOp_keep HC.out KB.out) HS.out).mono fun _ _ h => h.new1).mono ?_
 rw [HP.out]
 rintro e w3 ⟨A0, A1, c0, c1, rfl, hi, hb⟩
 have hQ : Blk (w3.alloc (.cells #[.slice A0 p.slots.length c0, .slice A1 p.vols.length c1] 44)) w3.heap.size #[.slice A0 p.slots.length c0, .slice A1 p.vols.length c1] 44 := Blk.new _ _ _
 have hb4 : Bel w3 (w3.alloc (.cells #[.slice A0 p.slots.length c0, .slice A1 p.vols.length c1] 44)) := bel_alloc (Below.refl _ _) _
 have HN := Lib.hid ((hN.bel hb).bel hb4)
 have HI := Lib.hid (hi.bel hb4)
 replace KB := Lib.hid ((Bel.tr KB.out hb).tr hb4)
 have hlt3 : nb < w3.heap.size := (hN.bel hb).lt
 clear hN hi hb
 go_wp2
 generalize (w3.alloc (.cells #[.slice A0 p.slots.length c0, .slice A1 p.vols.length c1] 44)) = W4 at hQ hb4 HN HI KB ⊢
 obtain ⟨pb, hpb⟩ : ∃ b, w3.heap.size = b := ⟨_, rfl⟩
 rw [hpb] at hQ hlt3 ⊢
 have HQ := Lib.hid hQ
 clear hQ hb4 hpb
 have HC1 := Lib.hid (fun (W : World) (hb : Bel W4.drew W) => kOp_keep HC.out ((Bel.tr KB.out bel_drew).tr hb))
 cases hz : nodeOk n9 with
 | false =>
  have hnk := Lib.hid (fun (W : World) (hC : kOp.C W XA n9.ops.length n9.ops) => (by
   have h2 := specNodeOk_c (n := n9) (c := xc) hC HS.out
   rw [hz] at h2
   exact h2 : Calls Tryz.prog 21 #[.agg #[.bool n9.up, .int .i64 n9.term, .bool n9.leads, .bool n9.alone, .slice XA n9.ops.length xc]] W (Ret (.bool false) W)))
  refine start_ (n := 10) (S := fun w' => w'.cell? ⟨nb, 0, none⟩ = some (.bool n9.up) ∧ w'.cell? ⟨nb, 1, none⟩ = some (.int .i64 n9.term) ∧ w'.cell? ⟨nb, 2, none⟩ = some (.bool n9.leads) ∧ w'.cell? ⟨nb, 3, none⟩ = some (.bool n9.alone) ∧ w'.cell? ⟨nb, 4, none⟩ = some (.slice XA n9.ops.length xc) ∧ w'.cell? ⟨pb, 0, none⟩ = some (.slice A0 p.slots.length c0) ∧ w'.cell? ⟨pb, 1, none⟩ = some (.slice A1 p.vols.length c1)) (ds := []) #[F, F, F, F, F, F, F, F, F, F] (by kernel_rfl) rfl rfl ⟨(blkn (HN.out.bel bel_drew) 0 _ rfl), (blkn (HN.out.bel bel_drew) 1 _ rfl), (blkn (HN.out.bel bel_drew) 2 _ rfl), (blkn (HN.out.bel bel_drew) 3 _ rfl), (blkn (HN.out.bel bel_drew) 4 _ rfl), (blkn (HQ.out.bel bel_drew) 0 _ rfl), (blkn (HQ.out.bel bel_drew) 1 _ rfl)⟩ (fun hHeld => ?_)
  refine ty 0 (some 12) #[T, F, F, F, F, F, F, F, F, F] (hS := hHeld) (hz := by rintro w' ⟨s0, s1, s2, s3, s4, s5, s6⟩; go_simp; with_reducible rfl) (h := ?_)
  refine ty 1 (some 13) #[T, T, F, F, F, F, F, F, F, F] (hS := hHeld) (hz := by rintro w' ⟨s0, s1, s2, s3, s4, s5, s6⟩; go_simp; with_reducible rfl) (h := ?_)
  refine ox 2 (some 14) #[T, T, T, F, F, F, F, F, F, F] fun K hK => ?_
  refine gox Tryz.func25 #[.agg #[.bool n9.up, .int .i64 n9.term, .bool n9.leads, .bool n9.alone, .slice XA n9.ops.length xc]] ?_
  with_reducible refine (((specNodePool_c (n := n9) (c := xc) (HC1.out _ (Below.refl _ _)) HS.out).mono fun _ _ h => h.new1)).mono ?_
  rintro e wa ⟨B0, B1, d0, d1, rfl, hi, hb⟩
  have HBa : Hid (Bel W4.drew wa) := Lib.hid hb
  have hi2 := hi
  rw [HP.out] at hi2
  have HIa := Lib.hid hi2
  clear hi hi2 hb
  rw [HP.out]
  refine ⟨_, rfl, ?_⟩
  refine hK.out _ _ ⟨(blkn ((HN.out.bel bel_drew).bel HBa.out) 0 _ rfl), (blkn ((HN.out.bel bel_drew).bel HBa.out) 1 _ rfl), (blkn ((HN.out.bel bel_drew).bel HBa.out) 2 _ rfl), (blkn ((HN.out.bel bel_drew).bel HBa.out) 3 _ rfl), (blkn ((HN.out.bel bel_drew).bel HBa.out) 4 _ rfl), (blkn ((HQ.out.bel bel_drew).bel HBa.out) 0 _ rfl), (blkn ((HQ.out.bel bel_drew).bel HBa.out) 1 _ rfl)⟩ (fun hHeld => ?_)
  clear hK K
  refine nox 14 (h := ?_)
  refine ox 3 (some 15) #[T, T, T, T, F, F, F, F, F, F] fun K hK => ?_
  refine gox Tryz.func24 #[.agg #[.slice A0 p.slots.length c0, .slice A1 p.vols.length c1], .agg #[.slice B0 p.slots.length d0, .slice B1 p.vols.length d1]] ?_
  with_reducible refine (lgPool_c ((HI.out.bel bel_drew).bel HBa.out) HIa.out HSP.out).mono ?_
  rintro e wb ⟨rfl, hb⟩
  have HBb : Hid (Bel W4.drew wb) := Lib.hid (Bel.tr HBa.out hb)
  clear hb
  refine ⟨_, rfl, ?_⟩
  refine hK.out _ _ ⟨(blkn ((HN.out.bel bel_drew).bel HBb.out) 0 _ rfl), (blkn ((HN.out.bel bel_drew).bel HBb.out) 1 _ rfl), (blkn ((HN.out.bel bel_drew).bel HBb.out) 2 _ rfl), (blkn ((HN.out.bel bel_drew).bel HBb.out) 3 _ rfl), (blkn ((HN.out.bel bel_drew).bel HBb.out) 4 _ rfl), (blkn ((HQ.out.bel bel_drew).bel HBb.out) 0 _ rfl), (blkn ((HQ.out.bel bel_drew).bel HBb.out) 1 _ rfl)⟩ (fun hHeld => ?_)
  clear hK K
  refine nox 15 (h := ?_)
  refine py 4 (some 16) #[T, T, T, T, T, F, F, F, F, F] ?_
  refine py 5 (some 17) #[T, T, T, T, T, T, F, F, F, F] ?_
  refine ty 6 (some 18) #[T, T, T, T, T, T, T, F, F, F] (hS := hHeld) (hz := by rintro w' ⟨s0, s1, s2, s3, s4, s5, s6⟩; go_simp; with_reducible rfl) (h := ?_)
  refine ox 7 (some 19) #[T, T, T, T, T, T, T, T, F, F] fun K hK => ?_
  refine gox Tryz.func21 #[.agg #[.bool n9.up, .int .i64 n9.term, .bool n9.leads, .bool n9.alone, .slice XA n9.ops.length xc]] ?_
  with_reducible refine (hnk.out _ (HC1.out _ HBb.out)).mono ?_
  rintro e wc ⟨rfl, hb⟩
  have HBc : Hid (Bel W4.drew wc) := Lib.hid (Bel.tr HBb.out hb)
  clear hb
  refine ⟨_, rfl, ?_⟩
  refine hK.out _ _ ⟨(blkn ((HN.out.bel bel_drew).bel HBc.out) 0 _ rfl), (blkn ((HN.out.bel bel_drew).bel HBc.out) 1 _ rfl), (blkn ((HN.out.bel bel_drew).bel HBc.out) 2 _ rfl), (blkn ((HN.out.bel bel_drew).bel HBc.out) 3 _ rfl), (blkn ((HN.out.bel bel_drew).bel HBc.out) 4 _ rfl), (blkn ((HQ.out.bel bel_drew).bel HBc.out) 0 _ rfl), (blkn ((HQ.out.bel bel_drew).bel HBc.out) 1 _ rfl)⟩ (fun hHeld => ?_)
  clear hK K
  refine nox 19 (h := ?_)
  refine py 8 (some 20) #[T, T, T, T, T, T, T, T, T, F] ?_
  refine py 9 (some 21) #[T, T, T, T, T, T, T, T, T, T] ?_
  refine done_ (by kernel_rfl) ?_
  have HN5 := Lib.hid ((HN.out.bel bel_drew).bel HBc.out)
  have HQ5 := Lib.hid ((HQ.out.bel bel_drew).bel HBc.out)
  have KB5 := Lib.hid ((Bel.tr KB.out bel_drew).tr HBc.out)
  have HI5 := Lib.hid ((HI.out.bel bel_drew).bel HBc.out)
  clear HN HQ HC1
  go_wp2
  have HCD := Lib.hid (fun (W : World) (hb : Bel wc.drew W) => kOp_keep HC.out ((Bel.tr KB5.out bel_drew).tr hb))
  refine start_ (n := 5) (S := fun w' => w'.cell? ⟨nb, 0, none⟩ = some (.bool n9.up) ∧ w'.cell? ⟨nb, 1, none⟩ = some (.int .i64 n9.term) ∧ w'.cell? ⟨nb, 2, none⟩ = some (.bool n9.leads) ∧ w'.cell? ⟨nb, 3, none⟩ = some (.bool n9.alone) ∧ w'.cell? ⟨nb, 4, none⟩ = some (.slice XA n9.ops.length xc) ∧ w'.cell? ⟨pb, 0, none⟩ = some (.slice A0 p.slots.length c0) ∧ w'.cell? ⟨pb, 1, none⟩ = some (.slice A1 p.vols.length c1)) (ds := []) #[F, F, F, F, F] (by kernel_rfl) rfl rfl ⟨(blkn (HN5.out.bel bel_drew) 0 _ rfl), (blkn (HN5.out.bel bel_drew) 1 _ rfl), (blkn (HN5.out.bel bel_drew) 2 _ rfl), (blkn (HN5.out.bel bel_drew) 3 _ rfl), (blkn (HN5.out.bel bel_drew) 4 _ rfl), (blkn (HQ5.out.bel bel_drew) 0 _ rfl), (blkn (HQ5.out.bel bel_drew) 1 _ rfl)⟩ (fun hHeld => ?_)
  refine ty 0 (some 22) #[T, F, F, F, F] (hS := hHeld) (hz := by rintro w' ⟨s0, s1, s2, s3, s4, s5, s6⟩; go_simp; with_reducible rfl) (h := ?_)
  refine ty 1 (some 23) #[T, T, F, F, F] (hS := hHeld) (hz := by rintro w' ⟨s0, s1, s2, s3, s4, s5, s6⟩; go_simp; with_reducible rfl) (h := ?_)
  refine ox 2 (some 24) #[T, T, T, F, F] fun K hK => ?_
  refine gox Tryz.func25 #[.agg #[.bool n9.up, .int .i64 n9.term, .bool n9.leads, .bool n9.alone, .slice XA n9.ops.length xc]] ?_
  with_reducible refine (((specNodePool_c (n := n9) (c := xc) (HCD.out _ (Below.refl _ _)) HS.out).mono fun _ _ h => h.new1)).mono ?_
  rintro e wd ⟨D0, D1, e0, e1, rfl, hi, hb⟩
  have HBd : Hid (Bel wc.drew wd) := Lib.hid hb
  have hi2 := hi
  rw [HP.out] at hi2
  have HId := Lib.hid hi2
  clear hi hi2 hb
  rw [HP.out]
  refine ⟨_, rfl, ?_⟩
  refine hK.out _ _ ⟨(blkn ((HN5.out.bel bel_drew).bel HBd.out) 0 _ rfl), (blkn ((HN5.out.bel bel_drew).bel HBd.out) 1 _ rfl), (blkn ((HN5.out.bel bel_drew).bel HBd.out) 2 _ rfl), (blkn ((HN5.out.bel bel_drew).bel HBd.out) 3 _ rfl), (blkn ((HN5.out.bel bel_drew).bel HBd.out) 4 _ rfl), (blkn ((HQ5.out.bel bel_drew).bel HBd.out) 0 _ rfl), (blkn ((HQ5.out.bel bel_drew).bel HBd.out) 1 _ rfl)⟩ (fun hHeld => ?_)
  clear hK K
  refine nox 24 (h := ?_)
  refine ox 3 (some 25) #[T, T, T, T, F] fun K hK => ?_
  refine gox Tryz.func24 #[.agg #[.slice A0 p.slots.length c0, .slice A1 p.vols.length c1], .agg #[.slice D0 p.slots.length e0, .slice D1 p.vols.length e1]] ?_
  with_reducible refine (lgPool_c ((HI5.out.bel bel_drew).bel HBd.out) HId.out HSP.out).mono ?_
  rintro e we ⟨rfl, hb⟩
  have HBe : Hid (Bel wc.drew we) := Lib.hid (Bel.tr HBd.out hb)
  clear hb
  refine ⟨_, rfl, ?_⟩
  refine hK.out _ _ ⟨(blkn ((HN5.out.bel bel_drew).bel HBe.out) 0 _ rfl), (blkn ((HN5.out.bel bel_drew).bel HBe.out) 1 _ rfl), (blkn ((HN5.out.bel bel_drew).bel HBe.out) 2 _ rfl), (blkn ((HN5.out.bel bel_drew).bel HBe.out) 3 _ rfl), (blkn ((HN5.out.bel bel_drew).bel HBe.out) 4 _ rfl), (blkn ((HQ5.out.bel bel_drew).bel HBe.out) 0 _ rfl), (blkn ((HQ5.out.bel bel_drew).bel HBe.out) 1 _ rfl)⟩ (fun hHeld => ?_)
  clear hK K
  refine nox 25 (h := ?_)
  refine py 4 (some 2) #[T, T, T, T, T] ?_
  refine done_ (by kernel_rfl) ?_
  go_wp2
  go_ret
  exact ⟨rfl, HB1.out.tr ((Bel.tr KB5.out bel_drew).tr HBe.out)⟩
 | true =>
  have hnk := Lib.hid (fun (W : World) (hC : kOp.C W XA n9.ops.length n9.ops) => (by
   have h2 := specNodeOk_c (n := n9) (c := xc) hC HS.out
   rw [hz] at h2
   exact h2 : Calls Tryz.prog 21 #[.agg #[.bool n9.up, .int .i64 n9.term, .bool n9.leads, .bool n9.alone, .slice XA n9.ops.length xc]] W (Ret (.bool true) W)))
  refine start_ (n := 10) (S := fun w' => w'.cell? ⟨nb, 0, none⟩ = some (.bool n9.up) ∧ w'.cell? ⟨nb, 1, none⟩ = some (.int .i64 n9.term) ∧ w'.cell? ⟨nb, 2, none⟩ = some (.bool n9.leads) ∧ w'.cell? ⟨nb, 3, none⟩ = some (.bool n9.alone) ∧ w'.cell? ⟨nb, 4, none⟩ = some (.slice XA n9.ops.length xc) ∧ w'.cell? ⟨pb, 0, none⟩ = some (.slice A0 p.slots.length c0) ∧ w'.cell? ⟨pb, 1, none⟩ = some (.slice A1 p.vols.length c1)) (ds := []) #[F, F, F, F, F, F, F, F, F, F] (by kernel_rfl) rfl rfl ⟨(blkn (HN.out.bel bel_drew) 0 _ rfl), (blkn (HN.out.bel bel_drew) 1 _ rfl), (blkn (HN.out.bel bel_drew) 2 _ rfl), (blkn (HN.out.bel bel_drew) 3 _ rfl), (blkn (HN.out.bel bel_drew) 4 _ rfl), (blkn (HQ.out.bel bel_drew) 0 _ rfl), (blkn (HQ.out.bel bel_drew) 1 _ rfl)⟩ (fun hHeld => ?_)
  refine ty 0 (some 12) #[T, F, F, F, F, F, F, F, F, F] (hS := hHeld) (hz := by rintro w' ⟨s0, s1, s2, s3, s4, s5, s6⟩; go_simp; with_reducible rfl) (h := ?_)
  refine ty 1 (some 13) #[T, T, F, F, F, F, F, F, F, F] (hS := hHeld) (hz := by rintro w' ⟨s0, s1, s2, s3, s4, s5, s6⟩; go_simp; with_reducible rfl) (h := ?_)
  refine ox 2 (some 14) #[T, T, T, F, F, F, F, F, F, F] fun K hK => ?_
  refine gox Tryz.func25 #[.agg #[.bool n9.up, .int .i64 n9.term, .bool n9.leads, .bool n9.alone, .slice XA n9.ops.length xc]] ?_
  with_reducible refine (((specNodePool_c (n := n9) (c := xc) (HC1.out _ (Below.refl _ _)) HS.out).mono fun _ _ h => h.new1)).mono ?_
  rintro e wa ⟨B0, B1, d0, d1, rfl, hi, hb⟩
  have HBa : Hid (Bel W4.drew wa) := Lib.hid hb
  have hi2 := hi
  rw [HP.out] at hi2
  have HIa := Lib.hid hi2
  clear hi hi2 hb
  rw [HP.out]
  refine ⟨_, rfl, ?_⟩
  refine hK.out _ _ ⟨(blkn ((HN.out.bel bel_drew).bel HBa.out) 0 _ rfl), (blkn ((HN.out.bel bel_drew).bel HBa.out) 1 _ rfl), (blkn ((HN.out.bel bel_drew).bel HBa.out) 2 _ rfl), (blkn ((HN.out.bel bel_drew).bel HBa.out) 3 _ rfl), (blkn ((HN.out.bel bel_drew).bel HBa.out) 4 _ rfl), (blkn ((HQ.out.bel bel_drew).bel HBa.out) 0 _ rfl), (blkn ((HQ.out.bel bel_drew).bel HBa.out) 1 _ rfl)⟩ (fun hHeld => ?_)
  clear hK K
  refine nox 14 (h := ?_)
  refine ox 3 (some 15) #[T, T, T, T, F, F, F, F, F, F] fun K hK => ?_
  refine gox Tryz.func24 #[.agg #[.slice A0 p.slots.length c0, .slice A1 p.vols.length c1], .agg #[.slice B0 p.slots.length d0, .slice B1 p.vols.length d1]] ?_
  with_reducible refine (lgPool_c ((HI.out.bel bel_drew).bel HBa.out) HIa.out HSP.out).mono ?_
  rintro e wb ⟨rfl, hb⟩
  have HBb : Hid (Bel W4.drew wb) := Lib.hid (Bel.tr HBa.out hb)
  clear hb
  refine ⟨_, rfl, ?_⟩
  refine hK.out _ _ ⟨(blkn ((HN.out.bel bel_drew).bel HBb.out) 0 _ rfl), (blkn ((HN.out.bel bel_drew).bel HBb.out) 1 _ rfl), (blkn ((HN.out.bel bel_drew).bel HBb.out) 2 _ rfl), (blkn ((HN.out.bel bel_drew).bel HBb.out) 3 _ rfl), (blkn ((HN.out.bel bel_drew).bel HBb.out) 4 _ rfl), (blkn ((HQ.out.bel bel_drew).bel HBb.out) 0 _ rfl), (blkn ((HQ.out.bel bel_drew).bel HBb.out) 1 _ rfl)⟩ (fun hHeld => ?_)
  clear hK K
  refine nox 15 (h := ?_)
  refine py 4 (some 16) #[T, T, T, T, T, F, F, F, F, F] ?_
  refine py 5 (some 17) #[T, T, T, T, T, T, F, F, F, F] ?_
  refine ty 6 (some 18) #[T, T, T, T, T, T, T, F, F, F] (hS := hHeld) (hz := by rintro w' ⟨s0, s1, s2, s3, s4, s5, s6⟩; go_simp; with_reducible rfl) (h := ?_)
  refine ox 7 (some 19) #[T, T, T, T, T, T, T, T, F, F] fun K hK => ?_
  refine gox Tryz.func21 #[.agg #[.bool n9.up, .int .i64 n9.term, .bool n9.leads, .bool n9.alone, .slice XA n9.ops.length xc]] ?_
  with_reducible refine (hnk.out _ (HC1.out _ HBb.out)).mono ?_
  rintro e wc ⟨rfl, hb⟩
  have HBc : Hid (Bel W4.drew wc) := Lib.hid (Bel.tr HBb.out hb)
  clear hb
  refine ⟨_, rfl, ?_⟩
  refine hK.out _ _ ⟨(blkn ((HN.out.bel bel_drew).bel HBc.out) 0 _ rfl), (blkn ((HN.out.bel bel_drew).bel HBc.out) 1 _ rfl), (blkn ((HN.out.bel bel_drew).bel HBc.out) 2 _ rfl), (blkn ((HN.out.bel bel_drew).bel HBc.out) 3 _ rfl), (blkn ((HN.out.bel bel_drew).bel HBc.out) 4 _ rfl), (blkn ((HQ.out.bel bel_drew).bel HBc.out) 0 _ rfl), (blkn ((HQ.out.bel bel_drew).bel HBc.out) 1 _ rfl)⟩ (fun hHeld => ?_)
  clear hK K
  refine nox 19 (h := ?_)
  refine py 8 (some 20) #[T, T, T, T, T, T, T, T, T, F] ?_
  refine py 9 (some 21) #[T, T, T, T, T, T, T, T, T, T] ?_
  refine done_ (by kernel_rfl) ?_
  have HN5 := Lib.hid ((HN.out.bel bel_drew).bel HBc.out)
  have HQ5 := Lib.hid ((HQ.out.bel bel_drew).bel HBc.out)
  have KB5 := Lib.hid ((Bel.tr KB.out bel_drew).tr HBc.out)
  have HI5 := Lib.hid ((HI.out.bel bel_drew).bel HBc.out)
  clear HN HQ HC1
  go_wp2
  have HCD := Lib.hid (fun (W : World) (hb : Bel wc.drew W) => kOp_keep HC.out ((Bel.tr KB5.out bel_drew).tr hb))
  obtain ⟨np, hnp⟩ : ∃ x, newP = x := ⟨_, rfl⟩
  have HNPW := Lib.hid (fun (W : World) => ((implPoolNew_c W).mono fun _ _ h => h.new1 : Calls Tryz.prog 27 #[] W (NewP1 W newP)))
  have HLG := Lib.hid (node_log hz)
  have HSN : Hid (SmallP np) := Lib.hid (hnp ▸ newP_ok.small)
  rw [hnp] at HNPW HLG
  have HPK := Lib.hid (node_pool hz)
  rw [HP.out] at HLG HPK
  clear hnp
  have hpk := Lib.hid (fun (W : World) (hi : PoolIn W A0 A1 c0 c1 p) => (by
   have h2 := implPoolOk_c p A0 A1 c0 c1 W hi.s hi.sc hi.v HSP.out
   rw [HPK.out] at h2
   exact h2 : Calls Tryz.prog 28 #[.agg #[.slice A0 p.slots.length c0, .slice A1 p.vols.length c1]] W (Ret (.bool true) W)))
  refine start_ (n := 12) (S := fun w' => w'.cell? ⟨nb, 0, none⟩ = some (.bool n9.up) ∧ w'.cell? ⟨nb, 1, none⟩ = some (.int .i64 n9.term) ∧ w'.cell? ⟨nb, 2, none⟩ = some (.bool n9.leads) ∧ w'.cell? ⟨nb, 3, none⟩ = some (.bool n9.alone) ∧ w'.cell? ⟨nb, 4, none⟩ = some (.slice XA n9.ops.length xc) ∧ w'.cell? ⟨pb, 0, none⟩ = some (.slice A0 p.slots.length c0) ∧ w'.cell? ⟨pb, 1, none⟩ = some (.slice A1 p.vols.length c1)) (ds := []) #[F, F, F, F, F, F, F, F, F, F, F, F] (by kernel_rfl) rfl rfl ⟨(blkn (HN5.out.bel bel_drew) 0 _ rfl), (blkn (HN5.out.bel bel_drew) 1 _ rfl), (blkn (HN5.out.bel bel_drew) 2 _ rfl), (blkn (HN5.out.bel bel_drew) 3 _ rfl), (blkn (HN5.out.bel bel_drew) 4 _ rfl), (blkn (HQ5.out.bel bel_drew) 0 _ rfl), (blkn (HQ5.out.bel bel_drew) 1 _ rfl)⟩ (fun hHeld => ?_)
  refine py 2 (some 28) #[F, F, T, F, F, F, F, F, F, F, F, F] ?_
  refine ty 0 (some 26) #[T, F, T, F, F, F, F, F, F, F, F, F] (hS := hHeld) (hz := by rintro w' ⟨s0, s1, s2, s3, s4, s5, s6⟩; go_simp; with_reducible rfl) (h := ?_)
  refine ty 3 (some 29) #[T, F, T, T, F, F, F, F, F, F, F, F] (hS := hHeld) (hz := by rintro w' ⟨s0, s1, s2, s3, s4, s5, s6⟩; go_simp; with_reducible rfl) (h := ?_)
  refine ox 1 (some 27) #[T, T, T, T, F, F, F, F, F, F, F, F] fun K hK => ?_
  refine goes_ Tryz.func27 (by kernel_rfl) rfl #[] (by rfl) rfl rfl (by simp only [List.map_toArray, List.map_cons, List.map_nil]) ?_
  with_reducible refine (HNPW.out _).mono ?_
  rintro e wd ⟨D0, D1, e0, e1, rfl, hi, hb⟩
  have HBd : Hid (Bel wc.drew wd) := Lib.hid hb
  have HId := Lib.hid hi
  clear hi hb
  refine ⟨_, rfl, ?_⟩
  refine hK.out _ _ ⟨(blkn ((HN5.out.bel bel_drew).bel HBd.out) 0 _ rfl), (blkn ((HN5.out.bel bel_drew).bel HBd.out) 1 _ rfl), (blkn ((HN5.out.bel bel_drew).bel HBd.out) 2 _ rfl), (blkn ((HN5.out.bel bel_drew).bel HBd.out) 3 _ rfl), (blkn ((HN5.out.bel bel_drew).bel HBd.out) 4 _ rfl), (blkn ((HQ5.out.bel bel_drew).bel HBd.out) 0 _ rfl), (blkn ((HQ5.out.bel bel_drew).bel HBd.out) 1 _ rfl)⟩ (fun hHeld => ?_)
  clear hK K
  refine nox 27 (h := ?_)
  refine py 4 (some 30) #[T, T, T, T, T, F, F, F, F, F, F, F] ?_
  refine ox 5 (some 31) #[T, T, T, T, T, T, F, F, F, F, F, F] fun K hK => ?_
  refine gox Tryz.func26 #[.agg #[.slice D0 np.slots.length e0, .slice D1 np.vols.length e1, .slice XA n9.ops.length xc, .int .i64 0]] ?_
  with_reducible refine (((implLogPool_c (l := ⟨np, n9.ops, 0⟩) (c := xc) ⟨HId.out, HCD.out _ HBd.out, hcap⟩ ⟨HSN.out, HS.out⟩).mono fun _ _ h => h.new1)).mono ?_
  rintro e we ⟨F0, F1, k0, k1, rfl, hi, hb⟩
  have HBe : Hid (Bel wc.drew we) := Lib.hid (Bel.tr HBd.out hb)
  have hi2 := hi
  rw [HLG.out] at hi2
  have HIe := Lib.hid hi2
  clear hi hi2 hb
  rw [HLG.out]
  refine ⟨_, rfl, ?_⟩
  refine hK.out _ _ ⟨(blkn ((HN5.out.bel bel_drew).bel HBe.out) 0 _ rfl), (blkn ((HN5.out.bel bel_drew).bel HBe.out) 1 _ rfl), (blkn ((HN5.out.bel bel_drew).bel HBe.out) 2 _ rfl), (blkn ((HN5.out.bel bel_drew).bel HBe.out) 3 _ rfl), (blkn ((HN5.out.bel bel_drew).bel HBe.out) 4 _ rfl), (blkn ((HQ5.out.bel bel_drew).bel HBe.out) 0 _ rfl), (blkn ((HQ5.out.bel bel_drew).bel HBe.out) 1 _ rfl)⟩ (fun hHeld => ?_)
  clear hK K
  refine nox 31 (h := ?_)
  refine ox 6 (some 32) #[T, T, T, T, T, T, T, F, F, F, F, F] fun K hK => ?_
  refine gox Tryz.func24 #[.agg #[.slice A0 p.slots.length c0, .slice A1 p.vols.length c1], .agg #[.slice F0 p.slots.length k0, .slice F1 p.vols.length k1]] ?_
  with_reducible refine (lgPool_c ((HI5.out.bel bel_drew).bel HBe.out) HIe.out HSP.out).mono ?_
  rintro e wf ⟨rfl, hb⟩
  have HBf : Hid (Bel wc.drew wf) := Lib.hid (Bel.tr HBe.out hb)
  clear hb
  refine ⟨_, rfl, ?_⟩
  refine hK.out _ _ ⟨(blkn ((HN5.out.bel bel_drew).bel HBf.out) 0 _ rfl), (blkn ((HN5.out.bel bel_drew).bel HBf.out) 1 _ rfl), (blkn ((HN5.out.bel bel_drew).bel HBf.out) 2 _ rfl), (blkn ((HN5.out.bel bel_drew).bel HBf.out) 3 _ rfl), (blkn ((HN5.out.bel bel_drew).bel HBf.out) 4 _ rfl), (blkn ((HQ5.out.bel bel_drew).bel HBf.out) 0 _ rfl), (blkn ((HQ5.out.bel bel_drew).bel HBf.out) 1 _ rfl)⟩ (fun hHeld => ?_)
  clear hK K
  refine nox 32 (h := ?_)
  refine py 7 (some 33) #[T, T, T, T, T, T, T, T, F, F, F, F] ?_
  refine ty 8 (some 34) #[T, T, T, T, T, T, T, T, T, F, F, F] (hS := hHeld) (hz := by rintro w' ⟨s0, s1, s2, s3, s4, s5, s6⟩; go_simp; with_reducible rfl) (h := ?_)
  refine ox 9 (some 35) #[T, T, T, T, T, T, T, T, T, T, F, F] fun K hK => ?_
  refine gox Tryz.func28 #[.agg #[.slice A0 p.slots.length c0, .slice A1 p.vols.length c1]] ?_
  with_reducible refine (hpk.out _ ((HI5.out.bel bel_drew).bel HBf.out)).mono ?_
  rintro e wg ⟨rfl, hb⟩
  have HBg : Hid (Bel wc.drew wg) := Lib.hid (Bel.tr HBf.out hb)
  clear hb
  refine ⟨_, rfl, ?_⟩
  refine hK.out _ _ ⟨(blkn ((HN5.out.bel bel_drew).bel HBg.out) 0 _ rfl), (blkn ((HN5.out.bel bel_drew).bel HBg.out) 1 _ rfl), (blkn ((HN5.out.bel bel_drew).bel HBg.out) 2 _ rfl), (blkn ((HN5.out.bel bel_drew).bel HBg.out) 3 _ rfl), (blkn ((HN5.out.bel bel_drew).bel HBg.out) 4 _ rfl), (blkn ((HQ5.out.bel bel_drew).bel HBg.out) 0 _ rfl), (blkn ((HQ5.out.bel bel_drew).bel HBg.out) 1 _ rfl)⟩ (fun hHeld => ?_)
  clear hK K
  refine nox 35 (h := ?_)
  refine py 10 (some 36) #[T, T, T, T, T, T, T, T, T, T, T, F] ?_
  refine py 11 (some 2) #[T, T, T, T, T, T, T, T, T, T, T, T] ?_
  refine done_ (by kernel_rfl) ?_
  go_wp2
  go_ret
  exact ⟨rfl, HB1.out.tr ((Bel.tr KB5.out bel_drew).tr HBg.out)⟩
end Go.Proofs.YtljfoglilggkjaaGreat

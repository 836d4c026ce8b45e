/- The law FnNodeLess: its body walked. -/
import Derived.Test.YtljfoglilggkjaaGreatM1
import Derived.Test.YtljfoglilggkjaaGreatM2
import Derived.Test.YtljfoglilggkjaaGreatM3
import Derived.Test.YtljfoglilggkjaaGreatM4
import Derived.Test.YtljfoglilggkjaaGreatM5
import Derived.Test.YtljfoglilggkjaaGreatM6
import Derived.Test.YtljfoglilggkjaaGreatM7
import Derived.Test.YtljfoglilggkjaaGreatM8
import Derived.Test.YtljfoglilggkjaaGreatM9
import Derived.Test.YtljfoglilggkjaaGreatM10
import Derived.Test.YtljfoglilggkjaaGreatM11
import Derived.Test.YtljfoglilggkjaaGreatM12
import Derived.Test.YtljfoglilggkjaaGreatM13
set_option maxHeartbeats 64000000
set_option maxRecDepth 10000
namespace Go.Proofs.YtljfoglilggkjaaGreat
open Go.RowKit Go.Proofs.YtljfoglilggkjaaGreatW.PrintWords Go.Proofs.YtljfoglilggkjaaGreatW.PrintLast
set_option linter.unusedVariables false
set_option linter.unusedSimpArgs false

theorem nodeOk_less {xu xl xe : Bool} {xt : Int} {xo : List Op} (h : nodeOk ⟨xu, xt, xl, xe, xo⟩ = true) (u : Bool) (m : Nat) : nodeOk ⟨u, xt, xl, xe, xo.take m⟩ = true := by
 obtain ⟨q, hq⟩ := (nodeOk_iff newP_ok).1 h
 unfold nodeOk at h ⊢
 simp only [Bool.and_eq_true, decide_eq_true_eq] at h ⊢
 refine ⟨h.1, h.2.1, ?_, ?_⟩
 ·have h2 := runP_part (p := newP) (os := xo) (by rw [hq.run]; rfl) m
  unfold runB
  rw [poolOk_iff.2 newP_ok]
  simpa using h2
 ·have := h.2.2.2; rw [List.length_take]; omega
theorem nodeOk_lone {xu : Bool} {xt : Int} {xo : List Op} : nodeOk ⟨xu, xt, false, true, xo⟩ = false := by unfold nodeOk; simp
theorem nodeOk_late {xu xl xe : Bool} {xo : List Op} : nodeOk ⟨xu, 100, xl, xe, xo⟩ = false := by unfold nodeOk inR; simp
theorem lawFnNodeLess_c {w : World} {A : Option Addr} {n c : Nat} {bs : List Int} {A2 : Option Addr} {n2 c2 : Nat} {bs2 : List Int} (h : CodeIn w A n c bs) (hn : n ≤ 9223372036854775807) (h2 : CodeIn w A2 n2 c2 bs2) (hn2 : n2 ≤ 9223372036854775807) :
  Calls Tryz.prog 6 #[.slice A n c, .slice A2 n2 c2] w (Ret (.bool true) w) := by
 have H := Lib.hid h
 clear h
 have H2 := Lib.hid h2
 clear h2
 go_enter Tryz.func6, Tryz.ntmps6
 by_cases hlen : (1048576 : Int) < (n : Int)
 ·go_wp2
  go_ret
  exact ⟨rfl, Below.refl _ _⟩
 by_cases hlen2 : (1048576 : Int) < (n2 : Int)
 ·go_wp2
  go_ret
  exact ⟨rfl, Below.refl _ _⟩
 go_wp2_with fail
 refine (drawNodeOk_c H.out hn).mono ?_
 rintro e w1 ⟨⟨xu, xt, xl, xe, xo⟩, XA, xc, rfl, hC, hcap, hs, hl, hb⟩
 dsimp only at hC hcap hs hl
 have HS := Lib.hid hs
 have hN : Blk (w1.alloc (.cells #[.bool xu, .int .i64 xt, .bool xl, .bool xe, .slice XA xo.length xc] 25)) w1.heap.size #[.bool xu, .int .i64 xt, .bool xl, .bool xe, .slice XA xo.length xc] 25 := Blk.new _ _ _
 have hb2 : Bel w1 (w1.alloc (.cells #[.bool xu, .int .i64 xt, .bool xl, .bool xe, .slice XA xo.length xc] 25)) := bel_alloc (Below.refl _ _) _
 have HC := Lib.hid hC
 have HB1 := Lib.hid hb
 have KB := Lib.hid hb2
 obtain ⟨z, hz⟩ : ∃ z, nodeOk ⟨xu, xt, xl, xe, xo⟩ = z := ⟨_, rfl⟩
 have HI := Lib.hid (fun (W : World) (m : Nat) (hC : kOp.C W XA xo.length xo) => (hz ▸ implNodeOk_c (n := ⟨xu, xt, xl, xe, xo⟩) (c := xc) hC HS.out : Calls Tryz.prog 18 #[.agg #[.bool xu, .int .i64 xt, .bool xl, .bool xe, .slice XA xo.length xc]] W (Ret (.bool z) W)))
 have HSP := Lib.hid (fun (W : World) (m : Nat) (hC : kOp.C W XA xo.length xo) => (hz ▸ specNodeOk_c (n := ⟨xu, xt, xl, xe, xo⟩) (c := xc) hC HS.out : Calls Tryz.prog 21 #[.agg #[.bool xu, .int .i64 xt, .bool xl, .bool xe, .slice XA xo.length xc]] W (Ret (.bool z) W)))
 have HZ := Lib.hid hz
 clear hs hC hb hz
 go_wp2_with fail
 generalize (w1.alloc (.cells #[.bool xu, .int .i64 xt, .bool xl, .bool xe, .slice XA xo.length xc] 25)) = W2 at hN hb2 KB ⊢
 obtain ⟨nb, hnb⟩ : ∃ b, w1.heap.size = b := ⟨_, rfl⟩
 have hnl : w1.heap.size ≤ nb := by omega
 rw [hnb] at hN ⊢
 clear hnb hb2
 refine (HI.out _ 0 (kOp_keep HC.out KB.out)).mono ?_
 rintro e w3 ⟨rfl, hb⟩
 replace KB := Lib.hid (Bel.tr KB.out hb)
 have HN := Lib.hid (hN.bel hb)
 clear hN hb
 obtain ⟨q0, q1, q2, q3, q4, qy⟩ := k5c HN.out
 go_wp2_with fail
 clear q0 q1 q2 q3 q4 qy
 refine (HSP.out _ 0 (kOp_keep HC.out KB.out)).mono ?_
 rintro e w4 ⟨rfl, hb⟩
 replace KB := Lib.hid (Bel.tr KB.out hb)
 replace HN := Lib.hid (HN.out.bel hb)
 clear hb
 cases z with
 | false =>
  obtain ⟨q0, q1, q2, q3, q4, qy⟩ := k5c HN.out
  go_wp2_with fail
  clear q0 q1 q2 q3 q4 qy
  refine (HSP.out _ 0 (kOp_keep HC.out KB.out)).mono ?_
  rintro e w5 ⟨rfl, hb⟩
  replace KB := Lib.hid (Bel.tr KB.out hb)
  replace HN := Lib.hid (HN.out.bel hb)
  clear hb
  go_wp2
  go_ret
  exact ⟨rfl, HB1.out.tr KB.out⟩
 | true =>
  obtain ⟨q0, q1, q2, q3, q4, qy⟩ := k5c HN.out
  go_wp2
  clear q0 q1 q2 q3 q4 qy
  have hN7 : Blk (w4.alloc (.cells #[.bool xu, .int .i64 xt, .bool xl, .bool xe, .slice XA xo.length xc] 25)) w4.heap.size #[.bool xu, .int .i64 xt, .bool xl, .bool xe, .slice XA xo.length xc] 25 := Blk.new _ _ _
  have hb7 : Bel w4 (w4.alloc (.cells #[.bool xu, .int .i64 xt, .bool xl, .bool xe, .slice XA xo.length xc] 25)) := bel_alloc (Below.refl _ _) _
  have hlt4 : nb < w4.heap.size := HN.out.lt
  obtain ⟨b7, hb7n⟩ : ∃ b, w4.heap.size = b := ⟨_, rfl⟩
  rw [hb7n] at hN7 hlt4
  generalize (w4.alloc (.cells #[.bool xu, .int .i64 xt, .bool xl, .bool xe, .slice XA xo.length xc] 25)) = W7 at hN7 hb7 ⊢
  try rw [hb7n]
  have HK7 : Hid (w1.heap.size ≤ b7) := Lib.hid (by have h1 := Below.size KB.out; omega)
  replace KB := Lib.hid (Bel.tr KB.out hb7)
  replace HN := Lib.hid (HN.out.bel hb7)
  have HN7 := Lib.hid hN7
  clear hN7 hb7 hb7n
  obtain ⟨m, hm, hml⟩ := tmod_nat (a := n2) (n := xo.length + 1) (by omega)
  have hml2 : (m : Int) ≤ (xc : Int) := by omega
  have hml3 : m ≤ xc := by omega
  have hwl : wrap64 ((xo.length : Int) + 1) = ((xo.length + 1 : Nat) : Int) := by unfold wrap64; omega
  have hz0 : ¬ (xo.length : Int) + 1 = 0 := by omega
  have hm2 : (n2 : Int).tmod ((xo.length : Int) + 1) = (m : Int) := hm
  have s7 := HN7.out.free 4
  have s8 := HN7.out.lt
  have s9 := blkn (HN7.out.bel bel_drew) 4 _ rfl
  refine start_ (n := 12) (S := fun w' => w'.cell? ⟨nb, 4, none⟩ = some (.slice XA xo.length xc)) (ds := [11]) #[F, F, F, F, F, F, F, F, F, F, F, F] (by kernel_rfl) rfl rfl ((blkn (HN.out.bel bel_drew) 4 _ rfl)) (fun hHeld => ?_)
  refine py 0 (some 35) #[T, F, F, F, F, F, F, F, F, F, F, F] ?_
  refine py 2 (some 37) #[T, F, T, F, F, F, F, F, F, F, F, F] ?_
  refine py 3 (some 38) #[T, F, T, T, F, F, F, F, F, F, F, F] ?_
  refine py 4 (some 39) #[T, F, T, T, T, F, F, F, F, F, F, F] ?_
  refine ty 1 (some 36) #[T, T, T, T, T, F, F, F, F, F, F, F] (hS := hHeld) (hz := by intro w' s0; go_simp; with_reducible rfl) (h := ?_)
  refine ty 5 (some 40) #[T, T, T, T, T, T, F, F, F, F, F, F] (hS := hHeld) (hz := by intro w' s0; go_simp; with_reducible rfl) (h := ?_)
  refine py 6 (some 41) #[T, T, T, T, T, T, T, F, F, F, F, F] ?_
  refine py 7 (some 42) #[T, T, T, T, T, T, T, T, F, F, F, F] ?_
  refine py 8 (some 43) #[T, T, T, T, T, T, T, T, T, F, F, F] ?_
  refine py 9 (some 44) #[T, T, T, T, T, T, T, T, T, T, F, F] ?_
  refine py 10 (some 45) #[T, T, T, T, T, T, T, T, T, T, T, F] ?_
  refine lx 11 none #[T, T, T, T, T, T, T, T, T, T, T, T] fun K hK => ?_
  refine sx ?_
  refine hK.out _ _ ?_
  clear hK K
  refine done_ (by kernel_rfl) ?_
  clear s7 s8 s9 hwl hz0 hm hm2
  obtain ⟨W8, hW8⟩ : ∃ W, (W7.setCell ⟨b7, 4, none⟩ (.slice XA m xc)).drew = W := ⟨_, rfl⟩
  have HN8 : Hid (Blk W8 b7 #[.bool xu, .int .i64 xt, .bool xl, .bool xe, .slice XA m xc] 25) := Lib.hid (hW8 ▸ (HN7.out.set 4 (.slice XA m xc) (cs' := #[.bool xu, .int .i64 xt, .bool xl, .bool xe, .slice XA m xc]) rfl).bel bel_drew)
  replace HN : Hid (Blk W8 nb #[.bool xu, .int .i64 xt, .bool xl, .bool xe, .slice XA xo.length xc] 25) := Lib.hid (hW8 ▸ (HN.out.apart (show b7 ≠ nb by omega) 4 (.slice XA m xc)).bel bel_drew)
  replace KB : Hid (Bel w1 W8) := Lib.hid (hW8 ▸ (bel_set KB.out HK7.out 4 (.slice XA m xc)).tr bel_drew)
  rw [hW8]
  clear hW8 HN7
  have hne7 : ¬ b7 = nb := by omega
  have hne8 : ¬ nb = b7 := by omega
  obtain ⟨q0, q1, q2, q3, q4, qy⟩ := k5c HN.out
  obtain ⟨p0, p1, p2, p3, p4, pf0, pf1, pf2, pf3, pf4, py⟩ := k5f HN8.out
  go_wp2_with fail
  clear q0 q1 q2 q3 q4 qy
  clear p0 p1 p2 p3 p4 pf0 pf1 pf2 pf3 pf4 py
  have hba : Bel (W8.setCell ⟨b7, 0, none⟩ (.bool (!xu))) (((W8.setCell ⟨b7, 0, none⟩ (.bool (!xu))).alloc (.cells #[.bool xu, .int .i64 xt, .bool false, .bool true, .slice XA xo.length xc] 25)).alloc (.cells #[.bool xu, .int .i64 100, .bool xl, .bool xe, .slice XA xo.length xc] 25)) := bel_alloc (bel_alloc (Below.refl _ _) _) _
  have hz8 : (W8.setCell ⟨b7, 0, none⟩ (.bool (!xu))).heap.size = W8.heap.size := by simp
  have h8 : Blk (((W8.setCell ⟨b7, 0, none⟩ (.bool (!xu))).alloc (.cells #[.bool xu, .int .i64 xt, .bool false, .bool true, .slice XA xo.length xc] 25)).alloc (.cells #[.bool xu, .int .i64 100, .bool xl, .bool xe, .slice XA xo.length xc] 25)) (W8.setCell ⟨b7, 0, none⟩ (.bool (!xu))).heap.size #[.bool xu, .int .i64 xt, .bool false, .bool true, .slice XA xo.length xc] 25 := (Blk.new _ _ _).alloc _
  have h9 : Blk (((W8.setCell ⟨b7, 0, none⟩ (.bool (!xu))).alloc (.cells #[.bool xu, .int .i64 xt, .bool false, .bool true, .slice XA xo.length xc] 25)).alloc (.cells #[.bool xu, .int .i64 100, .bool xl, .bool xe, .slice XA xo.length xc] 25)) ((W8.setCell ⟨b7, 0, none⟩ (.bool (!xu))).heap.size + 1) #[.bool xu, .int .i64 100, .bool xl, .bool xe, .slice XA xo.length xc] 25 := Blk.nw2 _ _ _ _
  rw [hz8] at h8 h9
  replace KB : Hid (Bel w1 (((W8.setCell ⟨b7, 0, none⟩ (.bool (!xu))).alloc (.cells #[.bool xu, .int .i64 xt, .bool false, .bool true, .slice XA xo.length xc] 25)).alloc (.cells #[.bool xu, .int .i64 100, .bool xl, .bool xe, .slice XA xo.length xc] 25))) := Lib.hid ((bel_set KB.out HK7.out 0 (.bool (!xu))).tr hba)
  generalize (((W8.setCell ⟨b7, 0, none⟩ (.bool (!xu))).alloc (.cells #[.bool xu, .int .i64 xt, .bool false, .bool true, .slice XA xo.length xc] 25)).alloc (.cells #[.bool xu, .int .i64 100, .bool xl, .bool xe, .slice XA xo.length xc] 25)) = W9 at h8 h9 KB ⊢
  obtain ⟨b8, hb8⟩ : ∃ b, W8.heap.size = b := ⟨_, rfl⟩
  rw [hb8] at h8 h9 ⊢
  have H8 := Lib.hid h8
  have H9 := Lib.hid h9
  clear hba hz8 h8 h9 hb8 HN8 HN hne7 hne8
  have hx : Calls Tryz.prog 18 #[.agg #[.bool (!xu), .int .i64 xt, .bool xl, .bool xe, .slice XA m xc]] W9 (Ret (.bool true) W9) := by
   have hc : kOp.C W9 XA (xo.take m).length (xo.take m) := by
    rw [List.length_take, Nat.min_eq_left (by omega)]
    exact C_take (kOp_keep HC.out KB.out) m (by omega)
   have h2 := implNodeOk_c (n := ⟨!xu, xt, xl, xe, xo.take m⟩) (c := xc) hc (HS.out.take m)
   rw [nodeOk_less HZ.out] at h2
   dsimp only at h2
   rw [List.length_take, Nat.min_eq_left (by omega)] at h2
   exact h2
  refine hx.mono ?_
  rintro e w5 ⟨rfl, hb⟩
  replace KB := Lib.hid (Bel.tr KB.out hb)
  replace H8 := Lib.hid (H8.out.bel hb)
  replace H9 := Lib.hid (H9.out.bel hb)
  clear hb hx
  obtain ⟨q0, q1, q2, q3, q4, qy⟩ := k5c H8.out
  go_wp2_with fail
  clear q0 q1 q2 q3 q4 qy
  have hy : Calls Tryz.prog 18 #[.agg #[.bool xu, .int .i64 xt, .bool false, .bool true, .slice XA xo.length xc]] w5 (Ret (.bool false) w5) := by
   have h2 := implNodeOk_c (n := ⟨xu, xt, false, true, xo⟩) (c := xc) (kOp_keep HC.out KB.out) HS.out
   rw [nodeOk_lone] at h2
   exact h2
  refine hy.mono ?_
  rintro e w6 ⟨rfl, hb⟩
  replace KB := Lib.hid (Bel.tr KB.out hb)
  replace H9 := Lib.hid (H9.out.bel hb)
  clear hb hy
  obtain ⟨q0, q1, q2, q3, q4, qy⟩ := k5c H9.out
  go_wp2_with fail
  clear q0 q1 q2 q3 q4 qy
  have hy : Calls Tryz.prog 18 #[.agg #[.bool xu, .int .i64 100, .bool xl, .bool xe, .slice XA xo.length xc]] w6 (Ret (.bool false) w6) := by
   have h2 := implNodeOk_c (n := ⟨xu, 100, xl, xe, xo⟩) (c := xc) (kOp_keep HC.out KB.out) HS.out
   rw [nodeOk_late] at h2
   exact h2
  refine hy.mono ?_
  rintro e w7 ⟨rfl, hb⟩
  replace KB := Lib.hid (Bel.tr KB.out hb)
  go_wp2
  go_ret
  exact ⟨rfl, HB1.out.tr KB.out⟩
end Go.Proofs.YtljfoglilggkjaaGreat

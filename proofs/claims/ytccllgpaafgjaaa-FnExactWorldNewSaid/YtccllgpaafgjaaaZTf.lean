/- New worlds and their marks; FnExactWorldNew. -/
import Derived.Test.YtccllgpaafgjaaaZ1
namespace Go.Proofs.Ytccllgpaafgjaaa
open Go.RowKit Go.Proofs.YtccllgpaafgjaaaW.PrintWords
set_option linter.unusedVariables false
set_option linter.unusedSimpArgs false

set_option maxRecDepth 20000 in
set_option maxHeartbeats 1000000 in
theorem lawFnExactWorldNew_c {w : World} : Calls Try.prog 3 #[] w (Ret (.bool true) w) := by
  go_enter Try.func3, Try.ntmps3
  go_wp2_with fail
  refine (specWorldNew_c _).mono ?_
  rintro e w1 ⟨sb, An, cn, Ad, cd, Aa, ca, Ab, cb, rfl, hS, hl, hb1⟩
  go_wp2_with fail
  have hV : Blk (w1.alloc (.cells #[.slice (some ⟨sb, 0, none⟩) 2 2, .int .i64 1, .int .i64 1, .bool false, .slice An 0 cn, .slice Ad 0 cd] 26)) w1.heap.size #[.slice (some ⟨sb, 0, none⟩) 2 2, .int .i64 1, .int .i64 1, .bool false, .slice An 0 cn, .slice Ad 0 cd] 26 := Blk.new _ _ _
  have hb : Bel w1 (w1.alloc (.cells #[.slice (some ⟨sb, 0, none⟩) 2 2, .int .i64 1, .int .i64 1, .bool false, .slice An 0 cn, .slice Ad 0 cd] 26)) := bel_alloc (Below.refl _ _) _
  have hsv := hS.lt
  generalize w1.alloc (.cells #[.slice (some ⟨sb, 0, none⟩) 2 2, .int .i64 1, .int .i64 1, .bool false, .slice An 0 cn, .slice Ad 0 cd] 26) = W2 at hV hb ⊢
  obtain ⟨vb, hvb⟩ : ∃ b, w1.heap.size = b := ⟨_, rfl⟩
  rw [hvb] at hV hsv ⊢
  clear hvb
  have HS := Lib.hid (hS.bel hb)
  have HV := Lib.hid hV
  have HW := Lib.hid (hb1.tr hb)
  clear hS hV hb hb1
  refine (implWorldNew_c _).mono ?_
  rintro e w3 ⟨nb, rfl, hN, hln, hb3⟩
  have hvn : vb < nb := Nat.lt_of_lt_of_le HV.out.lt hln
  replace HS := Lib.hid (HS.out.bel hb3)
  replace HV := Lib.hid (HV.out.bel hb3)
  replace HW := Lib.hid (HW.out.tr hb3)
  have p0 := HV.out.cell 0
  have p1 := HV.out.cell 1
  have p2 := HV.out.cell 2
  have p3 := HV.out.cell 3
  have p4 := HV.out.cell 4
  have p5 := HV.out.cell 5
  simp at p0 p1 p2 p3 p4 p5
  have y2 := HV.out.lt
  go_wp2_with fail
  clear p0 p1 p2 p3 p4 p5 y2
  have hG : Blk (w3.alloc (.cells #[.slice (some ⟨nb, 0, none⟩) 2 2, .int .i64 1, .int .i64 1, .bool false, .slice none 0 0, .slice none 0 0] 26)) w3.heap.size #[.slice (some ⟨nb, 0, none⟩) 2 2, .int .i64 1, .int .i64 1, .bool false, .slice none 0 0, .slice none 0 0] 26 := Blk.new _ _ _
  have hb : Bel w3 (w3.alloc (.cells #[.slice (some ⟨nb, 0, none⟩) 2 2, .int .i64 1, .int .i64 1, .bool false, .slice none 0 0, .slice none 0 0] 26)) := bel_alloc (Below.refl _ _) _
  have hng := hN.lt
  generalize w3.alloc (.cells #[.slice (some ⟨nb, 0, none⟩) 2 2, .int .i64 1, .int .i64 1, .bool false, .slice none 0 0, .slice none 0 0] 26) = W4 at hG hb ⊢
  obtain ⟨gv, hgv⟩ : ∃ b, w3.heap.size = b := ⟨_, rfl⟩
  rw [hgv] at hG hng ⊢
  clear hgv
  have HN := Lib.hid (hN.bel hb)
  have HG := Lib.hid hG
  replace HS := Lib.hid (HS.out.bel hb)
  replace HV := Lib.hid (HV.out.bel hb)
  replace HW := Lib.hid (HW.out.tr hb)
  have hwn : w.heap.size ≤ nb := by omega
  clear hG hN hb hb3 hln
  refine (eqWorld_c (reads2 HN.out) (reads2 HS.out)).mono ?_
  rintro e w5 ⟨rfl, hb⟩
  replace HN := Lib.hid (HN.out.bel hb)
  replace HG := Lib.hid (HG.out.bel hb)
  replace HV := Lib.hid (HV.out.bel hb)
  replace HS := Lib.hid (HS.out.bel hb)
  replace HW := Lib.hid (HW.out.tr hb)
  clear hb
  have q0 := HG.out.cell 0
  have p0 := HV.out.cell 0
  have q1 := HG.out.cell 1
  have p1 := HV.out.cell 1
  have q2 := HG.out.cell 2
  have p2 := HV.out.cell 2
  have q3 := HG.out.cell 3
  have p3 := HV.out.cell 3
  have q4 := HG.out.cell 4
  have p4 := HV.out.cell 4
  have q5 := HG.out.cell 5
  have p5 := HV.out.cell 5
  simp at q0 p0 q1 p1 q2 p2 q3 p3 q4 p4 q5 p5
  have y1 := HG.out.lt
  have y2 := HV.out.lt
  go_wp2_with fail
  refine (markWorld_c HN.out).mono ?_
  rintro e w6 ⟨rfl, hn, hg⟩
  clear q0 p0 q1 p1 q2 p2 q3 p3 q4 p4 q5 p5 y1 y2
  replace HN := Lib.hid hn
  replace HG := Lib.hid (HG.out.grown hg (by intro e; injection e with e; omega))
  replace HV := Lib.hid (HV.out.grown hg (by intro e; injection e with e; omega))
  replace HS := Lib.hid (HS.out.grown hg (by intro e; injection e with e; omega))
  replace HW := Lib.hid (HW.out.grown hg (Below.size HW.out) (by intro k e; injection e with e; omega))
  clear hn hg
  have q0 := HG.out.cell 0
  have p0 := HV.out.cell 0
  have q1 := HG.out.cell 1
  have p1 := HV.out.cell 1
  have q2 := HG.out.cell 2
  have p2 := HV.out.cell 2
  have q3 := HG.out.cell 3
  have p3 := HV.out.cell 3
  have q4 := HG.out.cell 4
  have p4 := HV.out.cell 4
  have q5 := HG.out.cell 5
  have p5 := HV.out.cell 5
  simp at q0 p0 q1 p1 q2 p2 q3 p3 q4 p4 q5 p5
  have y1 := HG.out.lt
  have y2 := HV.out.lt
  go_wp2_with fail
  refine (heldWorld_c HN.out).mono ?_
  rintro e w7 ⟨rfl, hb⟩
  clear q0 p0 q1 p1 q2 p2 q3 p3 q4 p4 q5 p5 y1 y2
  replace HN := Lib.hid (HN.out.bel hb)
  replace HG := Lib.hid (HG.out.bel hb)
  replace HV := Lib.hid (HV.out.bel hb)
  replace HS := Lib.hid (HS.out.bel hb)
  replace HW := Lib.hid (HW.out.trans (Below.mono hb (Below.size HW.out)))
  clear hb
  go_wp2_with fail
  refine (implWorldNew_c _).mono ?_
  rintro e w8 ⟨hb8, rfl, hH, _, hb⟩
  replace HN := Lib.hid (HN.out.bel hb)
  replace HG := Lib.hid (HG.out.bel hb)
  replace HV := Lib.hid (HV.out.bel hb)
  replace HS := Lib.hid (HS.out.bel hb)
  replace HW := Lib.hid (HW.out.trans (Below.mono hb (Below.size HW.out)))
  clear hb
  have p0 := HV.out.cell 0
  have p1 := HV.out.cell 1
  have p2 := HV.out.cell 2
  have p3 := HV.out.cell 3
  have p4 := HV.out.cell 4
  have p5 := HV.out.cell 5
  simp at p0 p1 p2 p3 p4 p5
  have y2 := HV.out.lt
  go_wp2_with fail
  clear p0 p1 p2 p3 p4 p5 y2
  have hX : Blk (w8.alloc (.cells #[.slice (some ⟨hb8, 0, none⟩) 2 2, .int .i64 1, .int .i64 1, .bool false, .slice none 0 0, .slice none 0 0] 26)) w8.heap.size #[.slice (some ⟨hb8, 0, none⟩) 2 2, .int .i64 1, .int .i64 1, .bool false, .slice none 0 0, .slice none 0 0] 26 := Blk.new _ _ _
  have hb : Bel w8 (w8.alloc (.cells #[.slice (some ⟨hb8, 0, none⟩) 2 2, .int .i64 1, .int .i64 1, .bool false, .slice none 0 0, .slice none 0 0] 26)) := bel_alloc (Below.refl _ _) _
  generalize w8.alloc (.cells #[.slice (some ⟨hb8, 0, none⟩) 2 2, .int .i64 1, .int .i64 1, .bool false, .slice none 0 0, .slice none 0 0] 26) = W9 at hX hb ⊢
  obtain ⟨hv, hhv⟩ : ∃ b, w8.heap.size = b := ⟨_, rfl⟩
  rw [hhv] at hX ⊢
  clear hhv
  have HH := Lib.hid (hH.bel hb)
  have HX := Lib.hid hX
  replace HN := Lib.hid (HN.out.bel hb)
  clear hH hX
  replace HG := Lib.hid (HG.out.bel hb)
  replace HV := Lib.hid (HV.out.bel hb)
  replace HS := Lib.hid (HS.out.bel hb)
  replace HW := Lib.hid (HW.out.trans (Below.mono hb (Below.size HW.out)))
  clear hb
  refine (eqWorld_c (reads2 HH.out) (reads2 HS.out)).mono ?_
  rintro e w10 ⟨rfl, hb⟩
  replace HN := Lib.hid (HN.out.bel hb)
  replace HG := Lib.hid (HG.out.bel hb)
  replace HV := Lib.hid (HV.out.bel hb)
  replace HS := Lib.hid (HS.out.bel hb)
  replace HW := Lib.hid (HW.out.trans (Below.mono hb (Below.size HW.out)))
  clear hb
  have q0 := HG.out.cell 0
  have p0 := HV.out.cell 0
  have q1 := HG.out.cell 1
  have p1 := HV.out.cell 1
  have q2 := HG.out.cell 2
  have p2 := HV.out.cell 2
  have q3 := HG.out.cell 3
  have p3 := HV.out.cell 3
  have q4 := HG.out.cell 4
  have p4 := HV.out.cell 4
  have q5 := HG.out.cell 5
  have p5 := HV.out.cell 5
  simp at q0 p0 q1 p1 q2 p2 q3 p3 q4 p4 q5 p5
  have y1 := HG.out.lt
  have y2 := HV.out.lt
  go_wp2_with fail
  refine (heldWorld_c HN.out).mono ?_
  rintro e w11 ⟨rfl, hb⟩
  clear q0 p0 q1 p1 q2 p2 q3 p3 q4 p4 q5 p5 y1 y2
  replace HG := Lib.hid (HG.out.bel hb)
  replace HV := Lib.hid (HV.out.bel hb)
  replace HS := Lib.hid (HS.out.bel hb)
  replace HW := Lib.hid (HW.out.trans (Below.mono hb (Below.size HW.out)))
  clear hb
  go_wp2
  go_ret
  exact ⟨rfl, HW.out⟩

end Go.Proofs.Ytccllgpaafgjaaa

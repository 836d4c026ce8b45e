/- FnNodeNew: its body walked. -/
import Derived.Test.YtccllgpaafgjaaaY3
namespace Go.Proofs.Ytccllgpaafgjaaa
open Go.RowKit Go.Proofs.YtccllgpaafgjaaaW.PrintWords Go.Proofs.YtccllgpaafgjaaaW.PrintLast
set_option linter.unusedVariables false
set_option linter.unusedSimpArgs false

set_option maxHeartbeats 2000000 in
theorem drawNodeNew_c {w : World} {A : Option Addr} {n c : Nat} {bs : List Int} (h : CodeIn w A n c bs) (hn : n ≤ 9223372036854775807) :
    Calls Try.prog 15 #[.slice A n c] w (fun e w' => ∃ id : Int, e = .returned (.int .i64 id) ∧ (id = 0 ∨ id = 1 ∨ id = 2 ∨ id = 3) ∧ Bel w w') := by
  have H := Lib.hid h
  clear h
  go_enter Try.func15, Try.ntmps15
  go_wp2_with fail
  refine (open_c H.out hn).mono ?_
  rintro e w1 ⟨rb, rfl, hR1, hrb, hb1⟩
  go_wp2_with fail
  refine (pick_c hR1 (by omega) 4 (by omega)).mono ?_
  rintro e w2 ⟨v, rfl, hv, hR2, hg2⟩
  have hb2 : Bel w w2 := hb1.grown hg2 hb1.size (fun k e => by injection e with e; omega)
  obtain ⟨id, rfl, h0, h4⟩ := hv
  clear hR1 hg2 hb1
  go_wp2
  go_ret
  exact ⟨id, rfl, by omega, hb2⟩
set_option maxRecDepth 20000 in
set_option maxHeartbeats 8000000 in
theorem lawFnNodeNew_c {w : World} {A : Option Addr} {n c : Nat} {bs : List Int} (h : CodeIn w A n c bs) (hn : n ≤ 9223372036854775807) :
    Calls Try.prog 4 #[.slice A n c] w (Ret (.bool true) w) := by
  have H := Lib.hid h
  clear h
  go_enter Try.func4, Try.ntmps4
  by_cases hlen : (1048576 : Int) < (n : Int)
  · go_wp2
    go_ret
    exact ⟨rfl, Below.refl _ _⟩
  go_wp2_with fail
  refine (drawNodeNew_c H.out hn).mono ?_
  rintro e w1 ⟨id, rfl, hid, hb1⟩
  have KW := Lib.hid hb1
  clear hb1 hlen H
  rcases hid with rfl | rfl | rfl | rfl
  · skip
    go_wp2_with fail
    refine (specNodeNew0_c 0 rfl _).mono ?_
    rintro e w2 ⟨As, cs, rfl, hb⟩
    replace KW := Lib.hid (KW.out.trans (Below.mono hb (Below.size KW.out)))
    clear hb
    go_wp2_with fail
    have hv : Blk (w2.alloc (.cells #[.bool false, .int .i64 0, .bool false, .bool false, .slice As 0 cs] 34)) w2.heap.size #[.bool false, .int .i64 0, .bool false, .bool false, .slice As 0 cs] 34 := Blk.new _ _ _
    have hb : Bel w2 (w2.alloc (.cells #[.bool false, .int .i64 0, .bool false, .bool false, .slice As 0 cs] 34)) := bel_alloc (Below.refl _ _) _
    generalize w2.alloc (.cells #[.bool false, .int .i64 0, .bool false, .bool false, .slice As 0 cs] 34) = W3 at hv hb ⊢
    obtain ⟨vb, hbn⟩ : ∃ b, w2.heap.size = b := ⟨_, rfl⟩
    rw [hbn] at hv ⊢
    clear hbn
    replace KW := Lib.hid (KW.out.trans (Below.mono hb (Below.size KW.out)))
    clear hb
    have V := Lib.hid hv
    clear hv
    refine (implNodeNew0_c 0 (by decide) (by decide) _).mono ?_
    rintro e w4 ⟨rfl, hb⟩
    replace V := Lib.hid (V.out.bel hb)
    replace KW := Lib.hid (KW.out.trans (Below.mono hb (Below.size KW.out)))
    clear hb
    have v0 := V.out.cell 0
    have v1 := V.out.cell 1
    have v2 := V.out.cell 2
    have v3 := V.out.cell 3
    have v4 := V.out.cell 4
    have yv := V.out.lt
    simp at v0 v1 v2 v3 v4
    go_wp2_with fail
    clear v0 v1 v2 v3 v4 yv
    have hv : Blk (w4.alloc (.cells #[.bool false, .int .i64 0, .bool false, .bool false, .slice none 0 0] 34)) w4.heap.size #[.bool false, .int .i64 0, .bool false, .bool false, .slice none 0 0] 34 := Blk.new _ _ _
    have hb : Bel w4 (w4.alloc (.cells #[.bool false, .int .i64 0, .bool false, .bool false, .slice none 0 0] 34)) := bel_alloc (Below.refl _ _) _
    generalize w4.alloc (.cells #[.bool false, .int .i64 0, .bool false, .bool false, .slice none 0 0] 34) = W5 at hv hb ⊢
    obtain ⟨gb, hbn⟩ : ∃ b, w4.heap.size = b := ⟨_, rfl⟩
    rw [hbn] at hv ⊢
    clear hbn
    replace V := Lib.hid (V.out.bel hb)
    replace KW := Lib.hid (KW.out.trans (Below.mono hb (Below.size KW.out)))
    clear hb
    have G := Lib.hid hv
    clear hv
    refine (lgNode0_c _ _ _ _ _ _ _ _ _).mono ?_
    rintro e w6 ⟨rfl, hb⟩
    replace V := Lib.hid (V.out.bel hb)
    replace G := Lib.hid (G.out.bel hb)
    replace KW := Lib.hid (KW.out.trans (Below.mono hb (Below.size KW.out)))
    clear hb
    have v0 := V.out.cell 0
    have v1 := V.out.cell 1
    have v2 := V.out.cell 2
    have v3 := V.out.cell 3
    have v4 := V.out.cell 4
    have yv := V.out.lt
    have g0 := G.out.cell 0
    have g1 := G.out.cell 1
    have g2 := G.out.cell 2
    have g3 := G.out.cell 3
    have g4 := G.out.cell 4
    have yg := G.out.lt
    simp at v0 v1 v2 v3 v4 g0 g1 g2 g3 g4
    go_wp2_with fail
    clear v0 v1 v2 v3 v4 g0 g1 g2 g3 g4 yv yg
    refine (lgNode0_c _ _ _ _ _ _ _ _ _).mono ?_
    rintro e w7 ⟨rfl, hb⟩
    replace V := Lib.hid (V.out.bel hb)
    replace G := Lib.hid (G.out.bel hb)
    replace KW := Lib.hid (KW.out.trans (Below.mono hb (Below.size KW.out)))
    clear hb
    go_wp2
    go_ret
    exact ⟨rfl, KW.out⟩
  · skip
    go_wp2_with fail
    refine (specNodeNew1_c _).mono ?_
    rintro e w2 ⟨As, cs, rfl, hb⟩
    replace KW := Lib.hid (KW.out.trans (Below.mono hb (Below.size KW.out)))
    clear hb
    go_wp2_with fail
    have hv : Blk (w2.alloc (.cells #[.bool true, .int .i64 1, .bool true, .bool true, .slice As 0 cs] 34)) w2.heap.size #[.bool true, .int .i64 1, .bool true, .bool true, .slice As 0 cs] 34 := Blk.new _ _ _
    have hb : Bel w2 (w2.alloc (.cells #[.bool true, .int .i64 1, .bool true, .bool true, .slice As 0 cs] 34)) := bel_alloc (Below.refl _ _) _
    generalize w2.alloc (.cells #[.bool true, .int .i64 1, .bool true, .bool true, .slice As 0 cs] 34) = W3 at hv hb ⊢
    obtain ⟨vb, hbn⟩ : ∃ b, w2.heap.size = b := ⟨_, rfl⟩
    rw [hbn] at hv ⊢
    clear hbn
    replace KW := Lib.hid (KW.out.trans (Below.mono hb (Below.size KW.out)))
    clear hb
    have V := Lib.hid hv
    clear hv
    refine (implNodeNew1_c _).mono ?_
    rintro e w4 ⟨rfl, hb⟩
    replace V := Lib.hid (V.out.bel hb)
    replace KW := Lib.hid (KW.out.trans (Below.mono hb (Below.size KW.out)))
    clear hb
    have v0 := V.out.cell 0
    have v1 := V.out.cell 1
    have v2 := V.out.cell 2
    have v3 := V.out.cell 3
    have v4 := V.out.cell 4
    have yv := V.out.lt
    simp at v0 v1 v2 v3 v4
    go_wp2_with fail
    clear v0 v1 v2 v3 v4 yv
    have hv : Blk (w4.alloc (.cells #[.bool true, .int .i64 1, .bool true, .bool true, .slice none 0 0] 34)) w4.heap.size #[.bool true, .int .i64 1, .bool true, .bool true, .slice none 0 0] 34 := Blk.new _ _ _
    have hb : Bel w4 (w4.alloc (.cells #[.bool true, .int .i64 1, .bool true, .bool true, .slice none 0 0] 34)) := bel_alloc (Below.refl _ _) _
    generalize w4.alloc (.cells #[.bool true, .int .i64 1, .bool true, .bool true, .slice none 0 0] 34) = W5 at hv hb ⊢
    obtain ⟨gb, hbn⟩ : ∃ b, w4.heap.size = b := ⟨_, rfl⟩
    rw [hbn] at hv ⊢
    clear hbn
    replace V := Lib.hid (V.out.bel hb)
    replace KW := Lib.hid (KW.out.trans (Below.mono hb (Below.size KW.out)))
    clear hb
    have G := Lib.hid hv
    clear hv
    refine (lgNode0_c _ _ _ _ _ _ _ _ _).mono ?_
    rintro e w6 ⟨rfl, hb⟩
    replace V := Lib.hid (V.out.bel hb)
    replace G := Lib.hid (G.out.bel hb)
    replace KW := Lib.hid (KW.out.trans (Below.mono hb (Below.size KW.out)))
    clear hb
    have v0 := V.out.cell 0
    have v1 := V.out.cell 1
    have v2 := V.out.cell 2
    have v3 := V.out.cell 3
    have v4 := V.out.cell 4
    have yv := V.out.lt
    have g0 := G.out.cell 0
    have g1 := G.out.cell 1
    have g2 := G.out.cell 2
    have g3 := G.out.cell 3
    have g4 := G.out.cell 4
    have yg := G.out.lt
    simp at v0 v1 v2 v3 v4 g0 g1 g2 g3 g4
    go_wp2_with fail
    clear v0 v1 v2 v3 v4 g0 g1 g2 g3 g4 yv yg
    refine (implNodeNew1_c _).mono ?_
    rintro e w7 ⟨rfl, hb⟩
    replace V := Lib.hid (V.out.bel hb)
    replace G := Lib.hid (G.out.bel hb)
    replace KW := Lib.hid (KW.out.trans (Below.mono hb (Below.size KW.out)))
    clear hb
    have v0 := V.out.cell 0
    have v1 := V.out.cell 1
    have v2 := V.out.cell 2
    have v3 := V.out.cell 3
    have v4 := V.out.cell 4
    have yv := V.out.lt
    have g0 := G.out.cell 0
    have g1 := G.out.cell 1
    have g2 := G.out.cell 2
    have g3 := G.out.cell 3
    have g4 := G.out.cell 4
    have yg := G.out.lt
    simp at v0 v1 v2 v3 v4 g0 g1 g2 g3 g4
    go_wp2_with fail
    clear v0 v1 v2 v3 v4 g0 g1 g2 g3 g4 yv yg
    have hv : Blk (w7.alloc (.cells #[.bool true, .int .i64 1, .bool true, .bool true, .slice none 0 0] 34)) w7.heap.size #[.bool true, .int .i64 1, .bool true, .bool true, .slice none 0 0] 34 := Blk.new _ _ _
    have hb : Bel w7 (w7.alloc (.cells #[.bool true, .int .i64 1, .bool true, .bool true, .slice none 0 0] 34)) := bel_alloc (Below.refl _ _) _
    generalize w7.alloc (.cells #[.bool true, .int .i64 1, .bool true, .bool true, .slice none 0 0] 34) = W8 at hv hb ⊢
    obtain ⟨xb, hbn⟩ : ∃ b, w7.heap.size = b := ⟨_, rfl⟩
    rw [hbn] at hv ⊢
    clear hbn
    replace V := Lib.hid (V.out.bel hb)
    replace G := Lib.hid (G.out.bel hb)
    replace KW := Lib.hid (KW.out.trans (Below.mono hb (Below.size KW.out)))
    clear hb
    have X := Lib.hid hv
    clear hv
    refine (implNodeNew2_c _).mono ?_
    rintro e w9 ⟨rfl, hb⟩
    replace V := Lib.hid (V.out.bel hb)
    replace G := Lib.hid (G.out.bel hb)
    replace X := Lib.hid (X.out.bel hb)
    replace KW := Lib.hid (KW.out.trans (Below.mono hb (Below.size KW.out)))
    clear hb
    have v0 := V.out.cell 0
    have v1 := V.out.cell 1
    have v2 := V.out.cell 2
    have v3 := V.out.cell 3
    have v4 := V.out.cell 4
    have yv := V.out.lt
    have g0 := G.out.cell 0
    have g1 := G.out.cell 1
    have g2 := G.out.cell 2
    have g3 := G.out.cell 3
    have g4 := G.out.cell 4
    have yg := G.out.lt
    have x0 := X.out.cell 0
    have x1 := X.out.cell 1
    have x2 := X.out.cell 2
    have x3 := X.out.cell 3
    have x4 := X.out.cell 4
    have yx := X.out.lt
    simp at v0 v1 v2 v3 v4 g0 g1 g2 g3 g4 x0 x1 x2 x3 x4
    go_wp2_with fail
    clear v0 v1 v2 v3 v4 g0 g1 g2 g3 g4 x0 x1 x2 x3 x4 yv yg yx
    have hv : Blk (w9.alloc (.cells #[.bool true, .int .i64 0, .bool false, .bool false, .slice none 0 0] 34)) w9.heap.size #[.bool true, .int .i64 0, .bool false, .bool false, .slice none 0 0] 34 := Blk.new _ _ _
    have hb : Bel w9 (w9.alloc (.cells #[.bool true, .int .i64 0, .bool false, .bool false, .slice none 0 0] 34)) := bel_alloc (Below.refl _ _) _
    generalize w9.alloc (.cells #[.bool true, .int .i64 0, .bool false, .bool false, .slice none 0 0] 34) = W10 at hv hb ⊢
    obtain ⟨zb, hbn⟩ : ∃ b, w9.heap.size = b := ⟨_, rfl⟩
    rw [hbn] at hv ⊢
    clear hbn
    replace V := Lib.hid (V.out.bel hb)
    replace G := Lib.hid (G.out.bel hb)
    replace X := Lib.hid (X.out.bel hb)
    replace KW := Lib.hid (KW.out.trans (Below.mono hb (Below.size KW.out)))
    clear hb
    have Z := Lib.hid hv
    clear hv
    have hk : nodeOk ⟨true, 1, true, true, []⟩ = true := by kernel_rfl
    have hno := implNodeOk_c (w := W10) (A := none) (c := 0) (n := ⟨true, 1, true, true, []⟩) ⟨rfl, by simp, fun h => absurd h (Nat.lt_irrefl 0)⟩ ⟨by simp, fun x hx => by simp at hx⟩
    rw [hk] at hno
    refine hno.mono ?_
    clear hno hk
    rintro e w11 ⟨rfl, hb⟩
    replace V := Lib.hid (V.out.bel hb)
    replace G := Lib.hid (G.out.bel hb)
    replace X := Lib.hid (X.out.bel hb)
    replace Z := Lib.hid (Z.out.bel hb)
    replace KW := Lib.hid (KW.out.trans (Below.mono hb (Below.size KW.out)))
    clear hb
    have v0 := V.out.cell 0
    have v1 := V.out.cell 1
    have v2 := V.out.cell 2
    have v3 := V.out.cell 3
    have v4 := V.out.cell 4
    have yv := V.out.lt
    have g0 := G.out.cell 0
    have g1 := G.out.cell 1
    have g2 := G.out.cell 2
    have g3 := G.out.cell 3
    have g4 := G.out.cell 4
    have yg := G.out.lt
    have x0 := X.out.cell 0
    have x1 := X.out.cell 1
    have x2 := X.out.cell 2
    have x3 := X.out.cell 3
    have x4 := X.out.cell 4
    have yx := X.out.lt
    have z0 := Z.out.cell 0
    have z1 := Z.out.cell 1
    have z2 := Z.out.cell 2
    have z3 := Z.out.cell 3
    have z4 := Z.out.cell 4
    have yz := Z.out.lt
    simp at v0 v1 v2 v3 v4 g0 g1 g2 g3 g4 x0 x1 x2 x3 x4 z0 z1 z2 z3 z4
    go_wp2
    go_ret
    exact ⟨rfl, KW.out⟩
  · skip
    go_wp2_with fail
    refine (specNodeNew2_c _).mono ?_
    rintro e w2 ⟨As, cs, rfl, hb⟩
    replace KW := Lib.hid (KW.out.trans (Below.mono hb (Below.size KW.out)))
    clear hb
    go_wp2_with fail
    have hv : Blk (w2.alloc (.cells #[.bool true, .int .i64 0, .bool false, .bool false, .slice As 0 cs] 34)) w2.heap.size #[.bool true, .int .i64 0, .bool false, .bool false, .slice As 0 cs] 34 := Blk.new _ _ _
    have hb : Bel w2 (w2.alloc (.cells #[.bool true, .int .i64 0, .bool false, .bool false, .slice As 0 cs] 34)) := bel_alloc (Below.refl _ _) _
    generalize w2.alloc (.cells #[.bool true, .int .i64 0, .bool false, .bool false, .slice As 0 cs] 34) = W3 at hv hb ⊢
    obtain ⟨vb, hbn⟩ : ∃ b, w2.heap.size = b := ⟨_, rfl⟩
    rw [hbn] at hv ⊢
    clear hbn
    replace KW := Lib.hid (KW.out.trans (Below.mono hb (Below.size KW.out)))
    clear hb
    have V := Lib.hid hv
    clear hv
    refine (implNodeNew2_c _).mono ?_
    rintro e w4 ⟨rfl, hb⟩
    replace V := Lib.hid (V.out.bel hb)
    replace KW := Lib.hid (KW.out.trans (Below.mono hb (Below.size KW.out)))
    clear hb
    have v0 := V.out.cell 0
    have v1 := V.out.cell 1
    have v2 := V.out.cell 2
    have v3 := V.out.cell 3
    have v4 := V.out.cell 4
    have yv := V.out.lt
    simp at v0 v1 v2 v3 v4
    go_wp2_with fail
    clear v0 v1 v2 v3 v4 yv
    have hv : Blk (w4.alloc (.cells #[.bool true, .int .i64 0, .bool false, .bool false, .slice none 0 0] 34)) w4.heap.size #[.bool true, .int .i64 0, .bool false, .bool false, .slice none 0 0] 34 := Blk.new _ _ _
    have hb : Bel w4 (w4.alloc (.cells #[.bool true, .int .i64 0, .bool false, .bool false, .slice none 0 0] 34)) := bel_alloc (Below.refl _ _) _
    generalize w4.alloc (.cells #[.bool true, .int .i64 0, .bool false, .bool false, .slice none 0 0] 34) = W5 at hv hb ⊢
    obtain ⟨gb, hbn⟩ : ∃ b, w4.heap.size = b := ⟨_, rfl⟩
    rw [hbn] at hv ⊢
    clear hbn
    replace V := Lib.hid (V.out.bel hb)
    replace KW := Lib.hid (KW.out.trans (Below.mono hb (Below.size KW.out)))
    clear hb
    have G := Lib.hid hv
    clear hv
    refine (lgNode0_c _ _ _ _ _ _ _ _ _).mono ?_
    rintro e w6 ⟨rfl, hb⟩
    replace V := Lib.hid (V.out.bel hb)
    replace G := Lib.hid (G.out.bel hb)
    replace KW := Lib.hid (KW.out.trans (Below.mono hb (Below.size KW.out)))
    clear hb
    have v0 := V.out.cell 0
    have v1 := V.out.cell 1
    have v2 := V.out.cell 2
    have v3 := V.out.cell 3
    have v4 := V.out.cell 4
    have yv := V.out.lt
    have g0 := G.out.cell 0
    have g1 := G.out.cell 1
    have g2 := G.out.cell 2
    have g3 := G.out.cell 3
    have g4 := G.out.cell 4
    have yg := G.out.lt
    simp at v0 v1 v2 v3 v4 g0 g1 g2 g3 g4
    go_wp2_with fail
    clear v0 v1 v2 v3 v4 g0 g1 g2 g3 g4 yv yg
    refine (implNodeNew1_c _).mono ?_
    rintro e w7 ⟨rfl, hb⟩
    replace V := Lib.hid (V.out.bel hb)
    replace G := Lib.hid (G.out.bel hb)
    replace KW := Lib.hid (KW.out.trans (Below.mono hb (Below.size KW.out)))
    clear hb
    have v0 := V.out.cell 0
    have v1 := V.out.cell 1
    have v2 := V.out.cell 2
    have v3 := V.out.cell 3
    have v4 := V.out.cell 4
    have yv := V.out.lt
    have g0 := G.out.cell 0
    have g1 := G.out.cell 1
    have g2 := G.out.cell 2
    have g3 := G.out.cell 3
    have g4 := G.out.cell 4
    have yg := G.out.lt
    simp at v0 v1 v2 v3 v4 g0 g1 g2 g3 g4
    go_wp2_with fail
    clear v0 v1 v2 v3 v4 g0 g1 g2 g3 g4 yv yg
    have hv : Blk (w7.alloc (.cells #[.bool true, .int .i64 1, .bool true, .bool true, .slice none 0 0] 34)) w7.heap.size #[.bool true, .int .i64 1, .bool true, .bool true, .slice none 0 0] 34 := Blk.new _ _ _
    have hb : Bel w7 (w7.alloc (.cells #[.bool true, .int .i64 1, .bool true, .bool true, .slice none 0 0] 34)) := bel_alloc (Below.refl _ _) _
    generalize w7.alloc (.cells #[.bool true, .int .i64 1, .bool true, .bool true, .slice none 0 0] 34) = W8 at hv hb ⊢
    obtain ⟨xb, hbn⟩ : ∃ b, w7.heap.size = b := ⟨_, rfl⟩
    rw [hbn] at hv ⊢
    clear hbn
    replace V := Lib.hid (V.out.bel hb)
    replace G := Lib.hid (G.out.bel hb)
    replace KW := Lib.hid (KW.out.trans (Below.mono hb (Below.size KW.out)))
    clear hb
    have X := Lib.hid hv
    clear hv
    refine (implNodeNew2_c _).mono ?_
    rintro e w9 ⟨rfl, hb⟩
    replace V := Lib.hid (V.out.bel hb)
    replace G := Lib.hid (G.out.bel hb)
    replace X := Lib.hid (X.out.bel hb)
    replace KW := Lib.hid (KW.out.trans (Below.mono hb (Below.size KW.out)))
    clear hb
    have v0 := V.out.cell 0
    have v1 := V.out.cell 1
    have v2 := V.out.cell 2
    have v3 := V.out.cell 3
    have v4 := V.out.cell 4
    have yv := V.out.lt
    have g0 := G.out.cell 0
    have g1 := G.out.cell 1
    have g2 := G.out.cell 2
    have g3 := G.out.cell 3
    have g4 := G.out.cell 4
    have yg := G.out.lt
    have x0 := X.out.cell 0
    have x1 := X.out.cell 1
    have x2 := X.out.cell 2
    have x3 := X.out.cell 3
    have x4 := X.out.cell 4
    have yx := X.out.lt
    simp at v0 v1 v2 v3 v4 g0 g1 g2 g3 g4 x0 x1 x2 x3 x4
    go_wp2_with fail
    clear v0 v1 v2 v3 v4 g0 g1 g2 g3 g4 x0 x1 x2 x3 x4 yv yg yx
    have hv : Blk (w9.alloc (.cells #[.bool true, .int .i64 0, .bool false, .bool false, .slice none 0 0] 34)) w9.heap.size #[.bool true, .int .i64 0, .bool false, .bool false, .slice none 0 0] 34 := Blk.new _ _ _
    have hb : Bel w9 (w9.alloc (.cells #[.bool true, .int .i64 0, .bool false, .bool false, .slice none 0 0] 34)) := bel_alloc (Below.refl _ _) _
    generalize w9.alloc (.cells #[.bool true, .int .i64 0, .bool false, .bool false, .slice none 0 0] 34) = W10 at hv hb ⊢
    obtain ⟨zb, hbn⟩ : ∃ b, w9.heap.size = b := ⟨_, rfl⟩
    rw [hbn] at hv ⊢
    clear hbn
    replace V := Lib.hid (V.out.bel hb)
    replace G := Lib.hid (G.out.bel hb)
    replace X := Lib.hid (X.out.bel hb)
    replace KW := Lib.hid (KW.out.trans (Below.mono hb (Below.size KW.out)))
    clear hb
    have Z := Lib.hid hv
    clear hv
    have hk : nodeOk ⟨true, 0, false, false, []⟩ = true := by kernel_rfl
    have hno := implNodeOk_c (w := W10) (A := none) (c := 0) (n := ⟨true, 0, false, false, []⟩) ⟨rfl, by simp, fun h => absurd h (Nat.lt_irrefl 0)⟩ ⟨by simp, fun x hx => by simp at hx⟩
    rw [hk] at hno
    refine hno.mono ?_
    clear hno hk
    rintro e w11 ⟨rfl, hb⟩
    replace V := Lib.hid (V.out.bel hb)
    replace G := Lib.hid (G.out.bel hb)
    replace X := Lib.hid (X.out.bel hb)
    replace Z := Lib.hid (Z.out.bel hb)
    replace KW := Lib.hid (KW.out.trans (Below.mono hb (Below.size KW.out)))
    clear hb
    have v0 := V.out.cell 0
    have v1 := V.out.cell 1
    have v2 := V.out.cell 2
    have v3 := V.out.cell 3
    have v4 := V.out.cell 4
    have yv := V.out.lt
    have g0 := G.out.cell 0
    have g1 := G.out.cell 1
    have g2 := G.out.cell 2
    have g3 := G.out.cell 3
    have g4 := G.out.cell 4
    have yg := G.out.lt
    have x0 := X.out.cell 0
    have x1 := X.out.cell 1
    have x2 := X.out.cell 2
    have x3 := X.out.cell 3
    have x4 := X.out.cell 4
    have yx := X.out.lt
    have z0 := Z.out.cell 0
    have z1 := Z.out.cell 1
    have z2 := Z.out.cell 2
    have z3 := Z.out.cell 3
    have z4 := Z.out.cell 4
    have yz := Z.out.lt
    simp at v0 v1 v2 v3 v4 g0 g1 g2 g3 g4 x0 x1 x2 x3 x4 z0 z1 z2 z3 z4
    go_wp2
    go_ret
    exact ⟨rfl, KW.out⟩
  · skip
    go_wp2_with fail
    refine (specNodeNew0_c 3 rfl _).mono ?_
    rintro e w2 ⟨As, cs, rfl, hb⟩
    replace KW := Lib.hid (KW.out.trans (Below.mono hb (Below.size KW.out)))
    clear hb
    go_wp2_with fail
    have hv : Blk (w2.alloc (.cells #[.bool false, .int .i64 0, .bool false, .bool false, .slice As 0 cs] 34)) w2.heap.size #[.bool false, .int .i64 0, .bool false, .bool false, .slice As 0 cs] 34 := Blk.new _ _ _
    have hb : Bel w2 (w2.alloc (.cells #[.bool false, .int .i64 0, .bool false, .bool false, .slice As 0 cs] 34)) := bel_alloc (Below.refl _ _) _
    generalize w2.alloc (.cells #[.bool false, .int .i64 0, .bool false, .bool false, .slice As 0 cs] 34) = W3 at hv hb ⊢
    obtain ⟨vb, hbn⟩ : ∃ b, w2.heap.size = b := ⟨_, rfl⟩
    rw [hbn] at hv ⊢
    clear hbn
    replace KW := Lib.hid (KW.out.trans (Below.mono hb (Below.size KW.out)))
    clear hb
    have V := Lib.hid hv
    clear hv
    refine (implNodeNew0_c 3 (by decide) (by decide) _).mono ?_
    rintro e w4 ⟨rfl, hb⟩
    replace V := Lib.hid (V.out.bel hb)
    replace KW := Lib.hid (KW.out.trans (Below.mono hb (Below.size KW.out)))
    clear hb
    have v0 := V.out.cell 0
    have v1 := V.out.cell 1
    have v2 := V.out.cell 2
    have v3 := V.out.cell 3
    have v4 := V.out.cell 4
    have yv := V.out.lt
    simp at v0 v1 v2 v3 v4
    go_wp2_with fail
    clear v0 v1 v2 v3 v4 yv
    have hv : Blk (w4.alloc (.cells #[.bool false, .int .i64 0, .bool false, .bool false, .slice none 0 0] 34)) w4.heap.size #[.bool false, .int .i64 0, .bool false, .bool false, .slice none 0 0] 34 := Blk.new _ _ _
    have hb : Bel w4 (w4.alloc (.cells #[.bool false, .int .i64 0, .bool false, .bool false, .slice none 0 0] 34)) := bel_alloc (Below.refl _ _) _
    generalize w4.alloc (.cells #[.bool false, .int .i64 0, .bool false, .bool false, .slice none 0 0] 34) = W5 at hv hb ⊢
    obtain ⟨gb, hbn⟩ : ∃ b, w4.heap.size = b := ⟨_, rfl⟩
    rw [hbn] at hv ⊢
    clear hbn
    replace V := Lib.hid (V.out.bel hb)
    replace KW := Lib.hid (KW.out.trans (Below.mono hb (Below.size KW.out)))
    clear hb
    have G := Lib.hid hv
    clear hv
    refine (lgNode0_c _ _ _ _ _ _ _ _ _).mono ?_
    rintro e w6 ⟨rfl, hb⟩
    replace V := Lib.hid (V.out.bel hb)
    replace G := Lib.hid (G.out.bel hb)
    replace KW := Lib.hid (KW.out.trans (Below.mono hb (Below.size KW.out)))
    clear hb
    have v0 := V.out.cell 0
    have v1 := V.out.cell 1
    have v2 := V.out.cell 2
    have v3 := V.out.cell 3
    have v4 := V.out.cell 4
    have yv := V.out.lt
    have g0 := G.out.cell 0
    have g1 := G.out.cell 1
    have g2 := G.out.cell 2
    have g3 := G.out.cell 3
    have g4 := G.out.cell 4
    have yg := G.out.lt
    simp at v0 v1 v2 v3 v4 g0 g1 g2 g3 g4
    go_wp2_with fail
    clear v0 v1 v2 v3 v4 g0 g1 g2 g3 g4 yv yg
    refine (lgNode0_c _ _ _ _ _ _ _ _ _).mono ?_
    rintro e w7 ⟨rfl, hb⟩
    replace V := Lib.hid (V.out.bel hb)
    replace G := Lib.hid (G.out.bel hb)
    replace KW := Lib.hid (KW.out.trans (Below.mono hb (Below.size KW.out)))
    clear hb
    go_wp2
    go_ret
    exact ⟨rfl, KW.out⟩
end Go.Proofs.Ytccllgpaafgjaaa

/- The law FnLogAdd: its body walked. -/
import Derived.Test.YtccllgpaafgjaaaGreatZ1
import Derived.Test.YtccllgpaafgjaaaGreatZ2
import Derived.Test.YtccllgpaafgjaaaGreatZ3
import Derived.Test.YtccllgpaafgjaaaGreatZ4
import Derived.Test.YtccllgpaafgjaaaGreatZ5
import Derived.Test.YtccllgpaafgjaaaGreatZ6
import Derived.Test.YtccllgpaafgjaaaGreatZ7
import Derived.Test.YtccllgpaafgjaaaGreatZ8
import Derived.Test.YtccllgpaafgjaaaGreatZ9
import Derived.Test.YtccllgpaafgjaaaGreatZ10
import Derived.Test.YtccllgpaafgjaaaGreatZ11
import Derived.Test.YtccllgpaafgjaaaGreatZ12
namespace Go.Proofs.YtccllgpaafgjaaaGreat
open Go.RowKit Go.Proofs.YtccllgpaafgjaaaGreatW.PrintWords Go.Proofs.YtccllgpaafgjaaaGreatW.PrintLast
set_option linter.unusedVariables false
set_option linter.unusedSimpArgs false

set_option maxHeartbeats 64000000 in
set_option maxRecDepth 10000 in
theorem lawFnLogAdd_c {w : World} {A : Option Addr} {n c : Nat} {bs : List Int} (h : CodeIn w A n c bs) (hn : n ≤ 9223372036854775807) :
  Calls Tryz.prog 11 #[.slice A n c] w (Ret (.bool true) w) := by
 have H := Lib.hid h
 clear h
 go_enter Tryz.func11, Tryz.ntmps11
 by_cases hlen : (1048576 : Int) < (n : Int)
 ·go_wp2
  go_ret
  exact ⟨rfl, Below.refl _ _⟩
 go_wp2_with fail
 refine (drawLogAdd_c H.out hn).mono ?_
 rintro e w1 ⟨Al, Bl, Cl, al, bl, cl, l, o, rfl, hd, hso, hin, hb⟩
 have HSl := Lib.hid hd.small
 have hll := hd.len
 have HSO := Lib.hid hso
 have Jl := Lib.hid hin
 have KW := Lib.hid hb
 obtain ⟨x, hx⟩ : ∃ x, addF l o = x := ⟨_, rfl⟩
 have HSx := Lib.hid (hx ▸ addF_small hd (by omega) hso : SmallL x)
 clear hd hso hin hb
 cases hok : logOk l
 ·have HAD := Lib.hid (And.intro hx (addF_bad (.inl hok) (o := o)).2)
  have HOK := Lib.hid hok
  clear hx hok
  go_wp2_with fail
  have hnew := (LVar.new Jl.out).bel (bel_alloc (Below.refl _ _) (.cells #[.int .i64 o.kind, .string o.name, .string o.dest, .int .i64 o.n, .string o.text] 27))
  have hO : Blk ((w1.alloc (.cells #[.slice Al l.base.slots.length al, .slice Bl l.base.vols.length bl, .slice Cl l.ops.length cl, .int .i64 l.safe] 44)).alloc (.cells #[.int .i64 o.kind, .string o.name, .string o.dest, .int .i64 o.n, .string o.text] 27)) (w1.heap.size + 1) #[.int .i64 o.kind, .string o.name, .string o.dest, .int .i64 o.n, .string o.text] 27 := Blk.nw2 _ _ _ _
  have hb : Bel w1 ((w1.alloc (.cells #[.slice Al l.base.slots.length al, .slice Bl l.base.vols.length bl, .slice Cl l.ops.length cl, .int .i64 l.safe] 44)).alloc (.cells #[.int .i64 o.kind, .string o.name, .string o.dest, .int .i64 o.n, .string o.text] 27)) := bel_alloc (bel_alloc (Below.refl _ _) _) _
  generalize ((w1.alloc (.cells #[.slice Al l.base.slots.length al, .slice Bl l.base.vols.length bl, .slice Cl l.ops.length cl, .int .i64 l.safe] 44)).alloc (.cells #[.int .i64 o.kind, .string o.name, .string o.dest, .int .i64 o.n, .string o.text] 27)) = W2 at hnew hO hb ⊢
  replace Jl := Lib.hid (Jl.out.bel hb)
  replace KW := Lib.hid (KW.out.tr hb)
  obtain ⟨bkl, hbn⟩ : ∃ b, w1.heap.size = b := ⟨_, rfl⟩
  rw [hbn] at hnew hO ⊢
  obtain ⟨bko, hbo⟩ : ∃ b, bkl + 1 = b := ⟨_, rfl⟩
  rw [hbo] at hO ⊢
  have Vl := Lib.hid hnew
  have Ovo := Lib.hid hO
  clear hnew hO hb hbn hbo Jl
  refine (specLogAdd_n Vl.out.inn HSl.out HSO.out HAD.out).mono ?_
  rintro e w3 ⟨Awant, Bwant, Cwant, awant, bwant, cwant, rfl, hin, hb⟩
  replace Vl := Lib.hid (Vl.out.bel hb)
  replace Ovo := Lib.hid (Ovo.out.bel hb)
  replace KW := Lib.hid (KW.out.tr hb)
  have Jwant := Lib.hid hin
  clear hin hb
  have el0 := Vl.out.c0
  have el1 := Vl.out.c1
  have el2 := Vl.out.c2
  have el3 := Vl.out.c3
  have eyl := Vl.out.lt
  have om0 : w3.cell? ⟨bko, 0, none⟩ = some (.int .i64 o.kind) := blkc Ovo.out 0 _ rfl
  have om1 : w3.cell? ⟨bko, 1, none⟩ = some (.string o.name) := blkc Ovo.out 1 _ rfl
  have om2 : w3.cell? ⟨bko, 2, none⟩ = some (.string o.dest) := blkc Ovo.out 2 _ rfl
  have om3 : w3.cell? ⟨bko, 3, none⟩ = some (.int .i64 o.n) := blkc Ovo.out 3 _ rfl
  have om4 : w3.cell? ⟨bko, 4, none⟩ = some (.string o.text) := blkc Ovo.out 4 _ rfl
  have omy := Ovo.out.lt
  go_wp2_with fail
  clear el0 el1 el2 el3 eyl
  clear om0 om1 om2 om3 om4 omy
  have hnew := LVar.new Jwant.out
  have hb : Bel w3 (w3.alloc (.cells #[.slice Awant x.base.slots.length awant, .slice Bwant x.base.vols.length bwant, .slice Cwant x.ops.length cwant, .int .i64 x.safe] 44)) := bel_alloc (Below.refl _ _) _
  generalize w3.alloc (.cells #[.slice Awant x.base.slots.length awant, .slice Bwant x.base.vols.length bwant, .slice Cwant x.ops.length cwant, .int .i64 x.safe] 44) = W4 at hnew hb ⊢
  replace Vl := Lib.hid (Vl.out.bel hb)
  replace Ovo := Lib.hid (Ovo.out.bel hb)
  replace Jwant := Lib.hid (Jwant.out.bel hb)
  replace KW := Lib.hid (KW.out.tr hb)
  obtain ⟨bkwant, hbn⟩ : ∃ b, w3.heap.size = b := ⟨_, rfl⟩
  rw [hbn] at hnew ⊢
  have Vwant := Lib.hid hnew
  clear hnew hb hbn Jwant
  refine (implLogAdd_n Vl.out.inn HSl.out HSO.out HAD.out).mono ?_
  rintro e w5 ⟨Ax, Bx, Cx, ax, bx, cx, rfl, hin, hb⟩
  replace Vl := Lib.hid (Vl.out.bel hb)
  replace Ovo := Lib.hid (Ovo.out.bel hb)
  replace Vwant := Lib.hid (Vwant.out.bel hb)
  replace KW := Lib.hid (KW.out.tr hb)
  have Jx := Lib.hid hin
  clear hin hb
  have el0 := Vl.out.c0
  have el1 := Vl.out.c1
  have el2 := Vl.out.c2
  have el3 := Vl.out.c3
  have eyl := Vl.out.lt
  have ewant0 := Vwant.out.c0
  have ewant1 := Vwant.out.c1
  have ewant2 := Vwant.out.c2
  have ewant3 := Vwant.out.c3
  have eywant := Vwant.out.lt
  have om0 : w5.cell? ⟨bko, 0, none⟩ = some (.int .i64 o.kind) := blkc Ovo.out 0 _ rfl
  have om1 : w5.cell? ⟨bko, 1, none⟩ = some (.string o.name) := blkc Ovo.out 1 _ rfl
  have om2 : w5.cell? ⟨bko, 2, none⟩ = some (.string o.dest) := blkc Ovo.out 2 _ rfl
  have om3 : w5.cell? ⟨bko, 3, none⟩ = some (.int .i64 o.n) := blkc Ovo.out 3 _ rfl
  have om4 : w5.cell? ⟨bko, 4, none⟩ = some (.string o.text) := blkc Ovo.out 4 _ rfl
  have omy := Ovo.out.lt
  go_wp2_with fail
  clear el0 el1 el2 el3 eyl
  clear ewant0 ewant1 ewant2 ewant3 eywant
  clear om0 om1 om2 om3 om4 omy
  have hnew := LVar.new Jx.out
  have hb : Bel w5 (w5.alloc (.cells #[.slice Ax x.base.slots.length ax, .slice Bx x.base.vols.length bx, .slice Cx x.ops.length cx, .int .i64 x.safe] 44)) := bel_alloc (Below.refl _ _) _
  generalize w5.alloc (.cells #[.slice Ax x.base.slots.length ax, .slice Bx x.base.vols.length bx, .slice Cx x.ops.length cx, .int .i64 x.safe] 44) = W6 at hnew hb ⊢
  replace Vl := Lib.hid (Vl.out.bel hb)
  replace Ovo := Lib.hid (Ovo.out.bel hb)
  replace Vwant := Lib.hid (Vwant.out.bel hb)
  replace Jx := Lib.hid (Jx.out.bel hb)
  replace KW := Lib.hid (KW.out.tr hb)
  obtain ⟨bkx, hbn⟩ : ∃ b, w5.heap.size = b := ⟨_, rfl⟩
  rw [hbn] at hnew ⊢
  have Vx := Lib.hid hnew
  clear hnew hb hbn Jx
  refine (lgLog_c Vx.out.inn Vwant.out.inn HSx.out).mono ?_
  rintro e w7 ⟨rfl, hb⟩
  replace Vl := Lib.hid (Vl.out.bel hb)
  replace Ovo := Lib.hid (Ovo.out.bel hb)
  replace Vwant := Lib.hid (Vwant.out.bel hb)
  replace Vx := Lib.hid (Vx.out.bel hb)
  replace KW := Lib.hid (KW.out.tr hb)
  clear hb
  have el0 := Vl.out.c0
  have el1 := Vl.out.c1
  have el2 := Vl.out.c2
  have el3 := Vl.out.c3
  have eyl := Vl.out.lt
  have ewant0 := Vwant.out.c0
  have ewant1 := Vwant.out.c1
  have ewant2 := Vwant.out.c2
  have ewant3 := Vwant.out.c3
  have eywant := Vwant.out.lt
  have ex0 := Vx.out.c0
  have ex1 := Vx.out.c1
  have ex2 := Vx.out.c2
  have ex3 := Vx.out.c3
  have eyx := Vx.out.lt
  have om0 : w7.cell? ⟨bko, 0, none⟩ = some (.int .i64 o.kind) := blkc Ovo.out 0 _ rfl
  have om1 : w7.cell? ⟨bko, 1, none⟩ = some (.string o.name) := blkc Ovo.out 1 _ rfl
  have om2 : w7.cell? ⟨bko, 2, none⟩ = some (.string o.dest) := blkc Ovo.out 2 _ rfl
  have om3 : w7.cell? ⟨bko, 3, none⟩ = some (.int .i64 o.n) := blkc Ovo.out 3 _ rfl
  have om4 : w7.cell? ⟨bko, 4, none⟩ = some (.string o.text) := blkc Ovo.out 4 _ rfl
  have omy := Ovo.out.lt
  go_wp2_with fail
  clear el0 el1 el2 el3 eyl
  clear ewant0 ewant1 ewant2 ewant3 eywant
  clear ex0 ex1 ex2 ex3 eyx
  clear om0 om1 om2 om3 om4 omy
  refine (specLogOk_n Vl.out.inn HSl.out HOK.out).mono ?_
  rintro e w8 ⟨rfl, hb⟩
  replace Vl := Lib.hid (Vl.out.bel hb)
  replace Ovo := Lib.hid (Ovo.out.bel hb)
  replace Vwant := Lib.hid (Vwant.out.bel hb)
  replace Vx := Lib.hid (Vx.out.bel hb)
  replace KW := Lib.hid (KW.out.tr hb)
  clear hb
  have el0 := Vl.out.c0
  have el1 := Vl.out.c1
  have el2 := Vl.out.c2
  have el3 := Vl.out.c3
  have eyl := Vl.out.lt
  have ewant0 := Vwant.out.c0
  have ewant1 := Vwant.out.c1
  have ewant2 := Vwant.out.c2
  have ewant3 := Vwant.out.c3
  have eywant := Vwant.out.lt
  have ex0 := Vx.out.c0
  have ex1 := Vx.out.c1
  have ex2 := Vx.out.c2
  have ex3 := Vx.out.c3
  have eyx := Vx.out.lt
  have om0 : w8.cell? ⟨bko, 0, none⟩ = some (.int .i64 o.kind) := blkc Ovo.out 0 _ rfl
  have om1 : w8.cell? ⟨bko, 1, none⟩ = some (.string o.name) := blkc Ovo.out 1 _ rfl
  have om2 : w8.cell? ⟨bko, 2, none⟩ = some (.string o.dest) := blkc Ovo.out 2 _ rfl
  have om3 : w8.cell? ⟨bko, 3, none⟩ = some (.int .i64 o.n) := blkc Ovo.out 3 _ rfl
  have om4 : w8.cell? ⟨bko, 4, none⟩ = some (.string o.text) := blkc Ovo.out 4 _ rfl
  have omy := Ovo.out.lt
  go_wp2_with fail
  clear el0 el1 el2 el3 eyl
  clear ewant0 ewant1 ewant2 ewant3 eywant
  clear ex0 ex1 ex2 ex3 eyx
  clear om0 om1 om2 om3 om4 omy
  refine (lgLog_c Vx.out.inn Vwant.out.inn HSx.out).mono ?_
  rintro e w9 ⟨rfl, hb⟩
  replace Vl := Lib.hid (Vl.out.bel hb)
  replace Ovo := Lib.hid (Ovo.out.bel hb)
  replace Vwant := Lib.hid (Vwant.out.bel hb)
  replace Vx := Lib.hid (Vx.out.bel hb)
  replace KW := Lib.hid (KW.out.tr hb)
  clear hb
  have el0 := Vl.out.c0
  have el1 := Vl.out.c1
  have el2 := Vl.out.c2
  have el3 := Vl.out.c3
  have eyl := Vl.out.lt
  have ewant0 := Vwant.out.c0
  have ewant1 := Vwant.out.c1
  have ewant2 := Vwant.out.c2
  have ewant3 := Vwant.out.c3
  have eywant := Vwant.out.lt
  have ex0 := Vx.out.c0
  have ex1 := Vx.out.c1
  have ex2 := Vx.out.c2
  have ex3 := Vx.out.c3
  have eyx := Vx.out.lt
  have om0 : w9.cell? ⟨bko, 0, none⟩ = some (.int .i64 o.kind) := blkc Ovo.out 0 _ rfl
  have om1 : w9.cell? ⟨bko, 1, none⟩ = some (.string o.name) := blkc Ovo.out 1 _ rfl
  have om2 : w9.cell? ⟨bko, 2, none⟩ = some (.string o.dest) := blkc Ovo.out 2 _ rfl
  have om3 : w9.cell? ⟨bko, 3, none⟩ = some (.int .i64 o.n) := blkc Ovo.out 3 _ rfl
  have om4 : w9.cell? ⟨bko, 4, none⟩ = some (.string o.text) := blkc Ovo.out 4 _ rfl
  have omy := Ovo.out.lt
  go_wp2
  all_goals
   go_ret
   exact ⟨rfl, KW.out⟩
 cases hop : opOk o
 ·have HAD := Lib.hid (And.intro hx (addF_bad (.inr hop) (l := l)).2)
  have HOK := Lib.hid hok
  have HOP := Lib.hid hop
  clear hx hok hop
  go_wp2_with fail
  have hnew := (LVar.new Jl.out).bel (bel_alloc (Below.refl _ _) (.cells #[.int .i64 o.kind, .string o.name, .string o.dest, .int .i64 o.n, .string o.text] 27))
  have hO : Blk ((w1.alloc (.cells #[.slice Al l.base.slots.length al, .slice Bl l.base.vols.length bl, .slice Cl l.ops.length cl, .int .i64 l.safe] 44)).alloc (.cells #[.int .i64 o.kind, .string o.name, .string o.dest, .int .i64 o.n, .string o.text] 27)) (w1.heap.size + 1) #[.int .i64 o.kind, .string o.name, .string o.dest, .int .i64 o.n, .string o.text] 27 := Blk.nw2 _ _ _ _
  have hb : Bel w1 ((w1.alloc (.cells #[.slice Al l.base.slots.length al, .slice Bl l.base.vols.length bl, .slice Cl l.ops.length cl, .int .i64 l.safe] 44)).alloc (.cells #[.int .i64 o.kind, .string o.name, .string o.dest, .int .i64 o.n, .string o.text] 27)) := bel_alloc (bel_alloc (Below.refl _ _) _) _
  generalize ((w1.alloc (.cells #[.slice Al l.base.slots.length al, .slice Bl l.base.vols.length bl, .slice Cl l.ops.length cl, .int .i64 l.safe] 44)).alloc (.cells #[.int .i64 o.kind, .string o.name, .string o.dest, .int .i64 o.n, .string o.text] 27)) = W2 at hnew hO hb ⊢
  replace Jl := Lib.hid (Jl.out.bel hb)
  replace KW := Lib.hid (KW.out.tr hb)
  obtain ⟨bkl, hbn⟩ : ∃ b, w1.heap.size = b := ⟨_, rfl⟩
  rw [hbn] at hnew hO ⊢
  obtain ⟨bko, hbo⟩ : ∃ b, bkl + 1 = b := ⟨_, rfl⟩
  rw [hbo] at hO ⊢
  have Vl := Lib.hid hnew
  have Ovo := Lib.hid hO
  clear hnew hO hb hbn hbo Jl
  refine (specLogAdd_n Vl.out.inn HSl.out HSO.out HAD.out).mono ?_
  rintro e w3 ⟨Awant, Bwant, Cwant, awant, bwant, cwant, rfl, hin, hb⟩
  replace Vl := Lib.hid (Vl.out.bel hb)
  replace Ovo := Lib.hid (Ovo.out.bel hb)
  replace KW := Lib.hid (KW.out.tr hb)
  have Jwant := Lib.hid hin
  clear hin hb
  have el0 := Vl.out.c0
  have el1 := Vl.out.c1
  have el2 := Vl.out.c2
  have el3 := Vl.out.c3
  have eyl := Vl.out.lt
  have om0 : w3.cell? ⟨bko, 0, none⟩ = some (.int .i64 o.kind) := blkc Ovo.out 0 _ rfl
  have om1 : w3.cell? ⟨bko, 1, none⟩ = some (.string o.name) := blkc Ovo.out 1 _ rfl
  have om2 : w3.cell? ⟨bko, 2, none⟩ = some (.string o.dest) := blkc Ovo.out 2 _ rfl
  have om3 : w3.cell? ⟨bko, 3, none⟩ = some (.int .i64 o.n) := blkc Ovo.out 3 _ rfl
  have om4 : w3.cell? ⟨bko, 4, none⟩ = some (.string o.text) := blkc Ovo.out 4 _ rfl
  have omy := Ovo.out.lt
  go_wp2_with fail
  clear el0 el1 el2 el3 eyl
  clear om0 om1 om2 om3 om4 omy
  have hnew := LVar.new Jwant.out
  have hb : Bel w3 (w3.alloc (.cells #[.slice Awant x.base.slots.length awant, .slice Bwant x.base.vols.length bwant, .slice Cwant x.ops.length cwant, .int .i64 x.safe] 44)) := bel_alloc (Below.refl _ _) _
  generalize w3.alloc (.cells #[.slice Awant x.base.slots.length awant, .slice Bwant x.base.vols.length bwant, .slice Cwant x.ops.length cwant, .int .i64 x.safe] 44) = W4 at hnew hb ⊢
  replace Vl := Lib.hid (Vl.out.bel hb)
  replace Ovo := Lib.hid (Ovo.out.bel hb)
  replace Jwant := Lib.hid (Jwant.out.bel hb)
  replace KW := Lib.hid (KW.out.tr hb)
  obtain ⟨bkwant, hbn⟩ : ∃ b, w3.heap.size = b := ⟨_, rfl⟩
  rw [hbn] at hnew ⊢
  have Vwant := Lib.hid hnew
  clear hnew hb hbn Jwant
  refine (implLogAdd_n Vl.out.inn HSl.out HSO.out HAD.out).mono ?_
  rintro e w5 ⟨Ax, Bx, Cx, ax, bx, cx, rfl, hin, hb⟩
  replace Vl := Lib.hid (Vl.out.bel hb)
  replace Ovo := Lib.hid (Ovo.out.bel hb)
  replace Vwant := Lib.hid (Vwant.out.bel hb)
  replace KW := Lib.hid (KW.out.tr hb)
  have Jx := Lib.hid hin
  clear hin hb
  have el0 := Vl.out.c0
  have el1 := Vl.out.c1
  have el2 := Vl.out.c2
  have el3 := Vl.out.c3
  have eyl := Vl.out.lt
  have ewant0 := Vwant.out.c0
  have ewant1 := Vwant.out.c1
  have ewant2 := Vwant.out.c2
  have ewant3 := Vwant.out.c3
  have eywant := Vwant.out.lt
  have om0 : w5.cell? ⟨bko, 0, none⟩ = some (.int .i64 o.kind) := blkc Ovo.out 0 _ rfl
  have om1 : w5.cell? ⟨bko, 1, none⟩ = some (.string o.name) := blkc Ovo.out 1 _ rfl
  have om2 : w5.cell? ⟨bko, 2, none⟩ = some (.string o.dest) := blkc Ovo.out 2 _ rfl
  have om3 : w5.cell? ⟨bko, 3, none⟩ = some (.int .i64 o.n) := blkc Ovo.out 3 _ rfl
  have om4 : w5.cell? ⟨bko, 4, none⟩ = some (.string o.text) := blkc Ovo.out 4 _ rfl
  have omy := Ovo.out.lt
  go_wp2_with fail
  clear el0 el1 el2 el3 eyl
  clear ewant0 ewant1 ewant2 ewant3 eywant
  clear om0 om1 om2 om3 om4 omy
  have hnew := LVar.new Jx.out
  have hb : Bel w5 (w5.alloc (.cells #[.slice Ax x.base.slots.length ax, .slice Bx x.base.vols.length bx, .slice Cx x.ops.length cx, .int .i64 x.safe] 44)) := bel_alloc (Below.refl _ _) _
  generalize w5.alloc (.cells #[.slice Ax x.base.slots.length ax, .slice Bx x.base.vols.length bx, .slice Cx x.ops.length cx, .int .i64 x.safe] 44) = W6 at hnew hb ⊢
  replace Vl := Lib.hid (Vl.out.bel hb)
  replace Ovo := Lib.hid (Ovo.out.bel hb)
  replace Vwant := Lib.hid (Vwant.out.bel hb)
  replace Jx := Lib.hid (Jx.out.bel hb)
  replace KW := Lib.hid (KW.out.tr hb)
  obtain ⟨bkx, hbn⟩ : ∃ b, w5.heap.size = b := ⟨_, rfl⟩
  rw [hbn] at hnew ⊢
  have Vx := Lib.hid hnew
  clear hnew hb hbn Jx
  refine (lgLog_c Vx.out.inn Vwant.out.inn HSx.out).mono ?_
  rintro e w7 ⟨rfl, hb⟩
  replace Vl := Lib.hid (Vl.out.bel hb)
  replace Ovo := Lib.hid (Ovo.out.bel hb)
  replace Vwant := Lib.hid (Vwant.out.bel hb)
  replace Vx := Lib.hid (Vx.out.bel hb)
  replace KW := Lib.hid (KW.out.tr hb)
  clear hb
  have el0 := Vl.out.c0
  have el1 := Vl.out.c1
  have el2 := Vl.out.c2
  have el3 := Vl.out.c3
  have eyl := Vl.out.lt
  have ewant0 := Vwant.out.c0
  have ewant1 := Vwant.out.c1
  have ewant2 := Vwant.out.c2
  have ewant3 := Vwant.out.c3
  have eywant := Vwant.out.lt
  have ex0 := Vx.out.c0
  have ex1 := Vx.out.c1
  have ex2 := Vx.out.c2
  have ex3 := Vx.out.c3
  have eyx := Vx.out.lt
  have om0 : w7.cell? ⟨bko, 0, none⟩ = some (.int .i64 o.kind) := blkc Ovo.out 0 _ rfl
  have om1 : w7.cell? ⟨bko, 1, none⟩ = some (.string o.name) := blkc Ovo.out 1 _ rfl
  have om2 : w7.cell? ⟨bko, 2, none⟩ = some (.string o.dest) := blkc Ovo.out 2 _ rfl
  have om3 : w7.cell? ⟨bko, 3, none⟩ = some (.int .i64 o.n) := blkc Ovo.out 3 _ rfl
  have om4 : w7.cell? ⟨bko, 4, none⟩ = some (.string o.text) := blkc Ovo.out 4 _ rfl
  have omy := Ovo.out.lt
  go_wp2_with fail
  clear el0 el1 el2 el3 eyl
  clear ewant0 ewant1 ewant2 ewant3 eywant
  clear ex0 ex1 ex2 ex3 eyx
  clear om0 om1 om2 om3 om4 omy
  refine (specLogOk_n Vl.out.inn HSl.out HOK.out).mono ?_
  rintro e w8 ⟨rfl, hb⟩
  replace Vl := Lib.hid (Vl.out.bel hb)
  replace Ovo := Lib.hid (Ovo.out.bel hb)
  replace Vwant := Lib.hid (Vwant.out.bel hb)
  replace Vx := Lib.hid (Vx.out.bel hb)
  replace KW := Lib.hid (KW.out.tr hb)
  clear hb
  have el0 := Vl.out.c0
  have el1 := Vl.out.c1
  have el2 := Vl.out.c2
  have el3 := Vl.out.c3
  have eyl := Vl.out.lt
  have ewant0 := Vwant.out.c0
  have ewant1 := Vwant.out.c1
  have ewant2 := Vwant.out.c2
  have ewant3 := Vwant.out.c3
  have eywant := Vwant.out.lt
  have ex0 := Vx.out.c0
  have ex1 := Vx.out.c1
  have ex2 := Vx.out.c2
  have ex3 := Vx.out.c3
  have eyx := Vx.out.lt
  have om0 : w8.cell? ⟨bko, 0, none⟩ = some (.int .i64 o.kind) := blkc Ovo.out 0 _ rfl
  have om1 : w8.cell? ⟨bko, 1, none⟩ = some (.string o.name) := blkc Ovo.out 1 _ rfl
  have om2 : w8.cell? ⟨bko, 2, none⟩ = some (.string o.dest) := blkc Ovo.out 2 _ rfl
  have om3 : w8.cell? ⟨bko, 3, none⟩ = some (.int .i64 o.n) := blkc Ovo.out 3 _ rfl
  have om4 : w8.cell? ⟨bko, 4, none⟩ = some (.string o.text) := blkc Ovo.out 4 _ rfl
  have omy := Ovo.out.lt
  go_wp2_with fail
  clear el0 el1 el2 el3 eyl
  clear ewant0 ewant1 ewant2 ewant3 eywant
  clear ex0 ex1 ex2 ex3 eyx
  clear om0 om1 om2 om3 om4 omy
  refine ((HOP.out ▸ specOpOk_c o HSO.out _ : Calls Tryz.prog 64 #[.agg #[.int .i64 o.kind, .string o.name, .string o.dest, .int .i64 o.n, .string o.text]] _ (Ret (.bool false) _))).mono ?_
  rintro e w9 ⟨rfl, hb⟩
  replace Vl := Lib.hid (Vl.out.bel hb)
  replace Ovo := Lib.hid (Ovo.out.bel hb)
  replace Vwant := Lib.hid (Vwant.out.bel hb)
  replace Vx := Lib.hid (Vx.out.bel hb)
  replace KW := Lib.hid (KW.out.tr hb)
  clear hb
  have el0 := Vl.out.c0
  have el1 := Vl.out.c1
  have el2 := Vl.out.c2
  have el3 := Vl.out.c3
  have eyl := Vl.out.lt
  have ewant0 := Vwant.out.c0
  have ewant1 := Vwant.out.c1
  have ewant2 := Vwant.out.c2
  have ewant3 := Vwant.out.c3
  have eywant := Vwant.out.lt
  have ex0 := Vx.out.c0
  have ex1 := Vx.out.c1
  have ex2 := Vx.out.c2
  have ex3 := Vx.out.c3
  have eyx := Vx.out.lt
  have om0 : w9.cell? ⟨bko, 0, none⟩ = some (.int .i64 o.kind) := blkc Ovo.out 0 _ rfl
  have om1 : w9.cell? ⟨bko, 1, none⟩ = some (.string o.name) := blkc Ovo.out 1 _ rfl
  have om2 : w9.cell? ⟨bko, 2, none⟩ = some (.string o.dest) := blkc Ovo.out 2 _ rfl
  have om3 : w9.cell? ⟨bko, 3, none⟩ = some (.int .i64 o.n) := blkc Ovo.out 3 _ rfl
  have om4 : w9.cell? ⟨bko, 4, none⟩ = some (.string o.text) := blkc Ovo.out 4 _ rfl
  have omy := Ovo.out.lt
  go_wp2_with fail
  clear el0 el1 el2 el3 eyl
  clear ewant0 ewant1 ewant2 ewant3 eywant
  clear ex0 ex1 ex2 ex3 eyx
  clear om0 om1 om2 om3 om4 omy
  refine (lgLog_c Vx.out.inn Vwant.out.inn HSx.out).mono ?_
  rintro e w10 ⟨rfl, hb⟩
  replace Vl := Lib.hid (Vl.out.bel hb)
  replace Ovo := Lib.hid (Ovo.out.bel hb)
  replace Vwant := Lib.hid (Vwant.out.bel hb)
  replace Vx := Lib.hid (Vx.out.bel hb)
  replace KW := Lib.hid (KW.out.tr hb)
  clear hb
  have el0 := Vl.out.c0
  have el1 := Vl.out.c1
  have el2 := Vl.out.c2
  have el3 := Vl.out.c3
  have eyl := Vl.out.lt
  have ewant0 := Vwant.out.c0
  have ewant1 := Vwant.out.c1
  have ewant2 := Vwant.out.c2
  have ewant3 := Vwant.out.c3
  have eywant := Vwant.out.lt
  have ex0 := Vx.out.c0
  have ex1 := Vx.out.c1
  have ex2 := Vx.out.c2
  have ex3 := Vx.out.c3
  have eyx := Vx.out.lt
  have om0 : w10.cell? ⟨bko, 0, none⟩ = some (.int .i64 o.kind) := blkc Ovo.out 0 _ rfl
  have om1 : w10.cell? ⟨bko, 1, none⟩ = some (.string o.name) := blkc Ovo.out 1 _ rfl
  have om2 : w10.cell? ⟨bko, 2, none⟩ = some (.string o.dest) := blkc Ovo.out 2 _ rfl
  have om3 : w10.cell? ⟨bko, 3, none⟩ = some (.int .i64 o.n) := blkc Ovo.out 3 _ rfl
  have om4 : w10.cell? ⟨bko, 4, none⟩ = some (.string o.text) := blkc Ovo.out 4 _ rfl
  have omy := Ovo.out.lt
  go_wp2
  all_goals
   go_ret
   exact ⟨rfl, KW.out⟩
 obtain ⟨q, hlp⟩ := logOk_iff.1 hok
 have HLP := Lib.hid hlp
 have HOK := Lib.hid hok
 have HOP := Lib.hid hop
 have hl20 := hlp.len
 have HSq := Lib.hid hlp.out.small
 obtain ⟨qq, hqq⟩ : ∃ qq, chO q o = qq := ⟨_, rfl⟩
 obtain ⟨fine, hfine⟩ : ∃ ok, chOB q o = ok := ⟨_, rfl⟩
 have hch := chO_opR hlp.out o
 rw [hfine, hqq] at hch
 have HCH := Lib.hid hch
 have hdo := Lib.hid (fun (W : World) (A0 A1 : Option Addr) (c0 c1 : Nat) (h : PoolIn W A0 A1 c0 c1 q) => (hqq ▸ hfine ▸ implOpDo_c (o := o) h HLP.out.out.small HSO.out : Calls Tryz.prog 65 #[.agg #[.slice A0 q.slots.length c0, .slice A1 q.vols.length c1], .agg #[.int .i64 o.kind, .string o.name, .string o.dest, .int .i64 o.n, .string o.text]] W (MadePB W qq fine)))
 clear hok hop hlp hch hqq hfine
 cases hz : addB l o
 ·have hn : opR q o = none ∨ 20 ≤ l.ops.length := by
   cases hr : opR q o with
   | none => exact .inl rfl
   | some r => exact .inr (Nat.le_of_not_lt fun h2 => by have := (addF_yes HLP.out HOP.out hr h2).2.1; rw [hz] at this; cases this)
  obtain rfl : l = x := (addF_no HLP.out HOP.out hn).1.symm.trans hx
  have HAD := Lib.hid (And.intro hx hz)
  have hfn : fine = false ∨ l.ops.length = 20 := by
   rcases hn with hn | hn
   ·exact .inl (HCH.out.1.trans (by rw [hn]; rfl))
   ·exact .inr (by omega)
  clear hx hz hn
  go_wp2_with fail
  have hnew := (LVar.new Jl.out).bel (bel_alloc (Below.refl _ _) (.cells #[.int .i64 o.kind, .string o.name, .string o.dest, .int .i64 o.n, .string o.text] 27))
  have hO : Blk ((w1.alloc (.cells #[.slice Al l.base.slots.length al, .slice Bl l.base.vols.length bl, .slice Cl l.ops.length cl, .int .i64 l.safe] 44)).alloc (.cells #[.int .i64 o.kind, .string o.name, .string o.dest, .int .i64 o.n, .string o.text] 27)) (w1.heap.size + 1) #[.int .i64 o.kind, .string o.name, .string o.dest, .int .i64 o.n, .string o.text] 27 := Blk.nw2 _ _ _ _
  have hb : Bel w1 ((w1.alloc (.cells #[.slice Al l.base.slots.length al, .slice Bl l.base.vols.length bl, .slice Cl l.ops.length cl, .int .i64 l.safe] 44)).alloc (.cells #[.int .i64 o.kind, .string o.name, .string o.dest, .int .i64 o.n, .string o.text] 27)) := bel_alloc (bel_alloc (Below.refl _ _) _) _
  generalize ((w1.alloc (.cells #[.slice Al l.base.slots.length al, .slice Bl l.base.vols.length bl, .slice Cl l.ops.length cl, .int .i64 l.safe] 44)).alloc (.cells #[.int .i64 o.kind, .string o.name, .string o.dest, .int .i64 o.n, .string o.text] 27)) = W2 at hnew hO hb ⊢
  replace Jl := Lib.hid (Jl.out.bel hb)
  replace KW := Lib.hid (KW.out.tr hb)
  obtain ⟨bkl, hbn⟩ : ∃ b, w1.heap.size = b := ⟨_, rfl⟩
  rw [hbn] at hnew hO ⊢
  obtain ⟨bko, hbo⟩ : ∃ b, bkl + 1 = b := ⟨_, rfl⟩
  rw [hbo] at hO ⊢
  have Vl := Lib.hid hnew
  have Ovo := Lib.hid hO
  clear hnew hO hb hbn hbo Jl
  refine (specLogAdd_n Vl.out.inn HSl.out HSO.out HAD.out).mono ?_
  rintro e w3 ⟨Awant, Bwant, Cwant, awant, bwant, cwant, rfl, hin, hb⟩
  replace Vl := Lib.hid (Vl.out.bel hb)
  replace Ovo := Lib.hid (Ovo.out.bel hb)
  replace KW := Lib.hid (KW.out.tr hb)
  have Jwant := Lib.hid hin
  clear hin hb
  have el0 := Vl.out.c0
  have el1 := Vl.out.c1
  have el2 := Vl.out.c2
  have el3 := Vl.out.c3
  have eyl := Vl.out.lt
  have om0 : w3.cell? ⟨bko, 0, none⟩ = some (.int .i64 o.kind) := blkc Ovo.out 0 _ rfl
  have om1 : w3.cell? ⟨bko, 1, none⟩ = some (.string o.name) := blkc Ovo.out 1 _ rfl
  have om2 : w3.cell? ⟨bko, 2, none⟩ = some (.string o.dest) := blkc Ovo.out 2 _ rfl
  have om3 : w3.cell? ⟨bko, 3, none⟩ = some (.int .i64 o.n) := blkc Ovo.out 3 _ rfl
  have om4 : w3.cell? ⟨bko, 4, none⟩ = some (.string o.text) := blkc Ovo.out 4 _ rfl
  have omy := Ovo.out.lt
  go_wp2_with fail
  clear el0 el1 el2 el3 eyl
  clear om0 om1 om2 om3 om4 omy
  have hnew := LVar.new Jwant.out
  have hb : Bel w3 (w3.alloc (.cells #[.slice Awant l.base.slots.length awant, .slice Bwant l.base.vols.length bwant, .slice Cwant l.ops.length cwant, .int .i64 l.safe] 44)) := bel_alloc (Below.refl _ _) _
  generalize w3.alloc (.cells #[.slice Awant l.base.slots.length awant, .slice Bwant l.base.vols.length bwant, .slice Cwant l.ops.length cwant, .int .i64 l.safe] 44) = W4 at hnew hb ⊢
  replace Vl := Lib.hid (Vl.out.bel hb)
  replace Ovo := Lib.hid (Ovo.out.bel hb)
  replace Jwant := Lib.hid (Jwant.out.bel hb)
  replace KW := Lib.hid (KW.out.tr hb)
  obtain ⟨bkwant, hbn⟩ : ∃ b, w3.heap.size = b := ⟨_, rfl⟩
  rw [hbn] at hnew ⊢
  have Vwant := Lib.hid hnew
  clear hnew hb hbn Jwant
  refine (implLogAdd_n Vl.out.inn HSl.out HSO.out HAD.out).mono ?_
  rintro e w5 ⟨Ax, Bx, Cx, ax, bx, cx, rfl, hin, hb⟩
  replace Vl := Lib.hid (Vl.out.bel hb)
  replace Ovo := Lib.hid (Ovo.out.bel hb)
  replace Vwant := Lib.hid (Vwant.out.bel hb)
  replace KW := Lib.hid (KW.out.tr hb)
  have Jx := Lib.hid hin
  clear hin hb
  have el0 := Vl.out.c0
  have el1 := Vl.out.c1
  have el2 := Vl.out.c2
  have el3 := Vl.out.c3
  have eyl := Vl.out.lt
  have ewant0 := Vwant.out.c0
  have ewant1 := Vwant.out.c1
  have ewant2 := Vwant.out.c2
  have ewant3 := Vwant.out.c3
  have eywant := Vwant.out.lt
  have om0 : w5.cell? ⟨bko, 0, none⟩ = some (.int .i64 o.kind) := blkc Ovo.out 0 _ rfl
  have om1 : w5.cell? ⟨bko, 1, none⟩ = some (.string o.name) := blkc Ovo.out 1 _ rfl
  have om2 : w5.cell? ⟨bko, 2, none⟩ = some (.string o.dest) := blkc Ovo.out 2 _ rfl
  have om3 : w5.cell? ⟨bko, 3, none⟩ = some (.int .i64 o.n) := blkc Ovo.out 3 _ rfl
  have om4 : w5.cell? ⟨bko, 4, none⟩ = some (.string o.text) := blkc Ovo.out 4 _ rfl
  have omy := Ovo.out.lt
  go_wp2_with fail
  clear el0 el1 el2 el3 eyl
  clear ewant0 ewant1 ewant2 ewant3 eywant
  clear om0 om1 om2 om3 om4 omy
  have hnew := LVar.new Jx.out
  have hb : Bel w5 (w5.alloc (.cells #[.slice Ax l.base.slots.length ax, .slice Bx l.base.vols.length bx, .slice Cx l.ops.length cx, .int .i64 l.safe] 44)) := bel_alloc (Below.refl _ _) _
  generalize w5.alloc (.cells #[.slice Ax l.base.slots.length ax, .slice Bx l.base.vols.length bx, .slice Cx l.ops.length cx, .int .i64 l.safe] 44) = W6 at hnew hb ⊢
  replace Vl := Lib.hid (Vl.out.bel hb)
  replace Ovo := Lib.hid (Ovo.out.bel hb)
  replace Vwant := Lib.hid (Vwant.out.bel hb)
  replace Jx := Lib.hid (Jx.out.bel hb)
  replace KW := Lib.hid (KW.out.tr hb)
  obtain ⟨bkx, hbn⟩ : ∃ b, w5.heap.size = b := ⟨_, rfl⟩
  rw [hbn] at hnew ⊢
  have Vx := Lib.hid hnew
  clear hnew hb hbn Jx
  refine (lgLog_c Vx.out.inn Vwant.out.inn HSx.out).mono ?_
  rintro e w7 ⟨rfl, hb⟩
  replace Vl := Lib.hid (Vl.out.bel hb)
  replace Ovo := Lib.hid (Ovo.out.bel hb)
  replace Vwant := Lib.hid (Vwant.out.bel hb)
  replace Vx := Lib.hid (Vx.out.bel hb)
  replace KW := Lib.hid (KW.out.tr hb)
  clear hb
  have el0 := Vl.out.c0
  have el1 := Vl.out.c1
  have el2 := Vl.out.c2
  have el3 := Vl.out.c3
  have eyl := Vl.out.lt
  have ewant0 := Vwant.out.c0
  have ewant1 := Vwant.out.c1
  have ewant2 := Vwant.out.c2
  have ewant3 := Vwant.out.c3
  have eywant := Vwant.out.lt
  have ex0 := Vx.out.c0
  have ex1 := Vx.out.c1
  have ex2 := Vx.out.c2
  have ex3 := Vx.out.c3
  have eyx := Vx.out.lt
  have om0 : w7.cell? ⟨bko, 0, none⟩ = some (.int .i64 o.kind) := blkc Ovo.out 0 _ rfl
  have om1 : w7.cell? ⟨bko, 1, none⟩ = some (.string o.name) := blkc Ovo.out 1 _ rfl
  have om2 : w7.cell? ⟨bko, 2, none⟩ = some (.string o.dest) := blkc Ovo.out 2 _ rfl
  have om3 : w7.cell? ⟨bko, 3, none⟩ = some (.int .i64 o.n) := blkc Ovo.out 3 _ rfl
  have om4 : w7.cell? ⟨bko, 4, none⟩ = some (.string o.text) := blkc Ovo.out 4 _ rfl
  have omy := Ovo.out.lt
  go_wp2_with fail
  clear el0 el1 el2 el3 eyl
  clear ewant0 ewant1 ewant2 ewant3 eywant
  clear ex0 ex1 ex2 ex3 eyx
  clear om0 om1 om2 om3 om4 omy
  refine (specLogOk_n Vl.out.inn HSl.out HOK.out).mono ?_
  rintro e w8 ⟨rfl, hb⟩
  replace Vl := Lib.hid (Vl.out.bel hb)
  replace Ovo := Lib.hid (Ovo.out.bel hb)
  replace Vwant := Lib.hid (Vwant.out.bel hb)
  replace Vx := Lib.hid (Vx.out.bel hb)
  replace KW := Lib.hid (KW.out.tr hb)
  clear hb
  have el0 := Vl.out.c0
  have el1 := Vl.out.c1
  have el2 := Vl.out.c2
  have el3 := Vl.out.c3
  have eyl := Vl.out.lt
  have ewant0 := Vwant.out.c0
  have ewant1 := Vwant.out.c1
  have ewant2 := Vwant.out.c2
  have ewant3 := Vwant.out.c3
  have eywant := Vwant.out.lt
  have ex0 := Vx.out.c0
  have ex1 := Vx.out.c1
  have ex2 := Vx.out.c2
  have ex3 := Vx.out.c3
  have eyx := Vx.out.lt
  have om0 : w8.cell? ⟨bko, 0, none⟩ = some (.int .i64 o.kind) := blkc Ovo.out 0 _ rfl
  have om1 : w8.cell? ⟨bko, 1, none⟩ = some (.string o.name) := blkc Ovo.out 1 _ rfl
  have om2 : w8.cell? ⟨bko, 2, none⟩ = some (.string o.dest) := blkc Ovo.out 2 _ rfl
  have om3 : w8.cell? ⟨bko, 3, none⟩ = some (.int .i64 o.n) := blkc Ovo.out 3 _ rfl
  have om4 : w8.cell? ⟨bko, 4, none⟩ = some (.string o.text) := blkc Ovo.out 4 _ rfl
  have omy := Ovo.out.lt
  go_wp2_with fail
  clear el0 el1 el2 el3 eyl
  clear ewant0 ewant1 ewant2 ewant3 eywant
  clear ex0 ex1 ex2 ex3 eyx
  clear om0 om1 om2 om3 om4 omy
  refine ((HOP.out ▸ specOpOk_c o HSO.out _ : Calls Tryz.prog 64 #[.agg #[.int .i64 o.kind, .string o.name, .string o.dest, .int .i64 o.n, .string o.text]] _ (Ret (.bool true) _))).mono ?_
  rintro e w9 ⟨rfl, hb⟩
  replace Vl := Lib.hid (Vl.out.bel hb)
  replace Ovo := Lib.hid (Ovo.out.bel hb)
  replace Vwant := Lib.hid (Vwant.out.bel hb)
  replace Vx := Lib.hid (Vx.out.bel hb)
  replace KW := Lib.hid (KW.out.tr hb)
  clear hb
  have el0 := Vl.out.c0
  have el1 := Vl.out.c1
  have el2 := Vl.out.c2
  have el3 := Vl.out.c3
  have eyl := Vl.out.lt
  have ewant0 := Vwant.out.c0
  have ewant1 := Vwant.out.c1
  have ewant2 := Vwant.out.c2
  have ewant3 := Vwant.out.c3
  have eywant := Vwant.out.lt
  have ex0 := Vx.out.c0
  have ex1 := Vx.out.c1
  have ex2 := Vx.out.c2
  have ex3 := Vx.out.c3
  have eyx := Vx.out.lt
  have om0 : w9.cell? ⟨bko, 0, none⟩ = some (.int .i64 o.kind) := blkc Ovo.out 0 _ rfl
  have om1 : w9.cell? ⟨bko, 1, none⟩ = some (.string o.name) := blkc Ovo.out 1 _ rfl
  have om2 : w9.cell? ⟨bko, 2, none⟩ = some (.string o.dest) := blkc Ovo.out 2 _ rfl
  have om3 : w9.cell? ⟨bko, 3, none⟩ = some (.int .i64 o.n) := blkc Ovo.out 3 _ rfl
  have om4 : w9.cell? ⟨bko, 4, none⟩ = some (.string o.text) := blkc Ovo.out 4 _ rfl
  have omy := Ovo.out.lt
  go_wp2
  clear el0 el1 el2 el3 eyl
  clear ewant0 ewant1 ewant2 ewant3 eywant
  clear ex0 ex1 ex2 ex3 eyx
  clear om0 om1 om2 om3 om4 omy
  have hb : Bel w9 w9.drew := (Below.refl _ _).drew
  replace Vl := Lib.hid (Vl.out.bel hb)
  replace Ovo := Lib.hid (Ovo.out.bel hb)
  replace Vwant := Lib.hid (Vwant.out.bel hb)
  replace Vx := Lib.hid (Vx.out.bel hb)
  replace KW := Lib.hid (KW.out.tr hb)
  clear hb
  have D0 : Hid (Bel w9.drew w9.drew) := Lib.hid (Below.refl _ _)
  refine start_ (n := 10) (S := fun w' => w'.cell? ⟨bkl, 0, none⟩ = some (.slice Al l.base.slots.length al) ∧ w'.cell? ⟨bkl, 1, none⟩ = some (.slice Bl l.base.vols.length bl) ∧ w'.cell? ⟨bkl, 2, none⟩ = some (.slice Cl l.ops.length cl) ∧ w'.cell? ⟨bkl, 3, none⟩ = some (.int .i64 l.safe) ∧ w'.cell? ⟨bko, 0, none⟩ = some (.int .i64 o.kind) ∧ w'.cell? ⟨bko, 1, none⟩ = some (.string o.name) ∧ w'.cell? ⟨bko, 2, none⟩ = some (.string o.dest) ∧ w'.cell? ⟨bko, 3, none⟩ = some (.int .i64 o.n) ∧ w'.cell? ⟨bko, 4, none⟩ = some (.string o.text)) (ds := [8]) #[bF, bF, bF, bF, bF, bF, bF, bF, bF, bF] (by kernel_rfl) rfl rfl ⟨Vl.out.c0, Vl.out.c1, Vl.out.c2, Vl.out.c3, (blkc Ovo.out 0 _ rfl), (blkc Ovo.out 1 _ rfl), (blkc Ovo.out 2 _ rfl), (blkc Ovo.out 3 _ rfl), (blkc Ovo.out 4 _ rfl)⟩ (fun hHeld => ?_)
  refine take_ (i := 0) (N := some 60) (v := ?_) (a' := ?_) #[bT, bF, bF, bF, bF, bF, bF, bF, bF, bF] rfl rfl (by kernel_rfl) (fun _ _ _ h => h) (Or.inl ⟨by rfl, ?_⟩) hHeld ?_ ?_
  rotate_left
  ·rintro w' ⟨s0, s1, s2, s3, s4, s5, s6, s7, s8⟩
   go_simp
   with_reducible rfl
  rotate_left
  ·simp only [Act.put, lA, lB, lC, i64_w, i32_w]
   rfl
  refine take_ (i := 2) (N := some 62) (v := ?_) (a' := ?_) #[bT, bF, bT, bF, bF, bF, bF, bF, bF, bF] rfl rfl (by kernel_rfl) (fun _ _ _ h => h) (Or.inl ⟨by rfl, ?_⟩) hHeld ?_ ?_
  rotate_left
  ·rintro w' ⟨s0, s1, s2, s3, s4, s5, s6, s7, s8⟩
   go_simp
   with_reducible rfl
  rotate_left
  ·simp only [Act.put, lA, lB, lC, i64_w, i32_w]
   rfl
  refine join_ (σ := Option Addr × Nat × Option Addr × Nat × Option Addr × Nat × Option Addr × Nat × List Value × Nat) 2 #[bT, bT, bT, bT, bT, bT, bT, bT, bF, bF] (fun s => [(61, .agg #[.slice s.1 q.slots.length s.2.1, .slice s.2.2.1 q.vols.length s.2.2.2.1]), (63, .tuple #[.agg #[.slice s.2.2.2.2.1 qq.slots.length s.2.2.2.2.2.1, .slice s.2.2.2.2.2.2.1 qq.vols.length s.2.2.2.2.2.2.2.1], .bool fine]), (59, .tuple #[.agg #[.slice s.2.2.2.2.1 qq.slots.length s.2.2.2.2.2.1, .slice s.2.2.2.2.2.2.1 qq.vols.length s.2.2.2.2.2.2.2.1], .bool fine]), (64, .agg #[.slice s.2.2.2.2.1 qq.slots.length s.2.2.2.2.2.1, .slice s.2.2.2.2.2.2.1 qq.vols.length s.2.2.2.2.2.2.2.1]), (65, .bool fine), (9, .pointer (some ⟨s.2.2.2.2.2.2.2.2.2, 0, none⟩))]) (fun s w' => (w'.cell? ⟨bkl, 0, none⟩ = some (.slice Al l.base.slots.length al) ∧ w'.cell? ⟨bkl, 1, none⟩ = some (.slice Bl l.base.vols.length bl) ∧ w'.cell? ⟨bkl, 2, none⟩ = some (.slice Cl l.ops.length cl) ∧ w'.cell? ⟨bkl, 3, none⟩ = some (.int .i64 l.safe) ∧ w'.cell? ⟨bko, 0, none⟩ = some (.int .i64 o.kind) ∧ w'.cell? ⟨bko, 1, none⟩ = some (.string o.name) ∧ w'.cell? ⟨bko, 2, none⟩ = some (.string o.dest) ∧ w'.cell? ⟨bko, 3, none⟩ = some (.int .i64 o.n) ∧ w'.cell? ⟨bko, 4, none⟩ = some (.string o.text)) ∧ OwnP w' w9.drew.heap.size (.slice s.2.2.2.2.1 qq.slots.length s.2.2.2.2.2.1) (.slice s.2.2.2.2.2.2.1 qq.vols.length s.2.2.2.2.2.2.2.1) qq s.2.2.2.2.2.2.2.2.1 ∧ Blk w' s.2.2.2.2.2.2.2.2.2 #[.slice none 0 0, .slice none 0 0] 42 ∧ w9.drew.heap.size ≤ s.2.2.2.2.2.2.2.2.2 ∧ Bel w9.drew w') ?_ ?_
  rotate_left
  ·intro hCont
   refine two_ (i := 1) (j := 7) (Ni := some 61) (Nj := some 9) #[bT, bT, bT, bF, bF, bF, bF, bF, bF, bF] #[bT, bF, bT, bF, bF, bF, bF, bT, bF, bF] rfl rfl rfl rfl (by kernel_rfl) (by decide) (by decide) (fun K hK => ?_) (fun K hK => ?_)
   ·skip
    refine goes_ Tryz.func36 (by kernel_rfl) rfl #[.agg #[.slice Al l.base.slots.length al, .slice Bl l.base.vols.length bl, .slice Cl l.ops.length cl, .int .i64 l.safe]] (by rfl) rfl rfl (by simp only [List.map_toArray, List.map_cons, List.map_nil]; rfl) ?_
    with_reducible refine (implLogPool_n (Vl.out.bel D0.out).inn HSl.out HLP.out.poolE).mono ?_
    rintro e w1_ ⟨A6, B6, a6, b6, rfl, hpi, X1⟩
    have D1 := Lib.hid (Bel.tr D0.out X1)
    have P1 := Lib.hid hpi
    clear hpi
    refine ⟨_, rfl, ?_⟩
    refine hK.out _ _ ⟨(Vl.out.bel D1.out).c0, (Vl.out.bel D1.out).c1, (Vl.out.bel D1.out).c2, (Vl.out.bel D1.out).c3, (blkc (Ovo.out.bel D1.out) 0 _ rfl), (blkc (Ovo.out.bel D1.out) 1 _ rfl), (blkc (Ovo.out.bel D1.out) 2 _ rfl), (blkc (Ovo.out.bel D1.out) 3 _ rfl), (blkc (Ovo.out.bel D1.out) 4 _ rfl)⟩ (fun hHeld => ?_)
    clear hK K
    refine norm_ (a' := ?_) ?_ ?_
    rotate_left
    ·show Act.put _ (some 61) _ = _
     simp only [Act.put, lA, lB, lC, i64_w, i32_w]
     rfl
    refine two_ (i := 3) (j := 7) (Ni := some 63) (Nj := some 9) #[bT, bT, bT, bT, bF, bF, bF, bF, bF, bF] #[bT, bT, bT, bF, bF, bF, bF, bT, bF, bF] rfl rfl rfl rfl (by kernel_rfl) (by decide) (by decide) (fun K hK => ?_) (fun K hK => ?_)
    ·skip
     refine goes_ Tryz.func65 (by kernel_rfl) rfl #[.agg #[.slice A6 q.slots.length a6, .slice B6 q.vols.length b6], .agg #[.int .i64 o.kind, .string o.name, .string o.dest, .int .i64 o.n, .string o.text]] (by rfl) rfl rfl (by simp only [List.map_toArray, List.map_cons, List.map_nil]; rfl) ?_
     with_reducible refine (hdo.out _ _ _ _ _ P1.out).mono ?_
     rintro e w2_ ⟨vc, vd, bvc, rfl, hoo, X2⟩
     have D2 := Lib.hid (Bel.tr D1.out X2)
     obtain ⟨A7, B7, a7, b7, rfl, rfl, hpi⟩ := hoo.reads
     have Q2 : Hid (OwnP w2_ w9.drew.heap.size (.slice A7 qq.slots.length a7) (.slice B7 qq.vols.length b7) qq bvc) := Lib.hid (hoo.lower D1.out.size)
     clear hoo hpi
     refine ⟨_, rfl, ?_⟩
     refine hK.out _ _ ⟨(Vl.out.bel D2.out).c0, (Vl.out.bel D2.out).c1, (Vl.out.bel D2.out).c2, (Vl.out.bel D2.out).c3, (blkc (Ovo.out.bel D2.out) 0 _ rfl), (blkc (Ovo.out.bel D2.out) 1 _ rfl), (blkc (Ovo.out.bel D2.out) 2 _ rfl), (blkc (Ovo.out.bel D2.out) 3 _ rfl), (blkc (Ovo.out.bel D2.out) 4 _ rfl)⟩ (fun hHeld => ?_)
     clear hK K
     refine norm_ (a' := ?_) ?_ ?_
     rotate_left
     ·show Act.put _ (some 63) _ = _
      simp only [Act.put, lA, lB, lC, i64_w, i32_w]
      rfl
     refine pure_ (i := 4) (N := some 59) (v := ?_) (a' := ?_) #[bT, bT, bT, bT, bT, bF, bF, bF, bF, bF] rfl rfl (by kernel_rfl) (fun _ _ _ h => h) (Or.inl ⟨by rfl, ?_⟩) ?_ ?_
     rotate_left
     ·intro w'
      go_simp
      with_reducible rfl
     rotate_left
     ·simp only [Act.put, lA, lB, lC, i64_w, i32_w]
      rfl
     refine pure_ (i := 5) (N := some 64) (v := ?_) (a' := ?_) #[bT, bT, bT, bT, bT, bT, bF, bF, bF, bF] rfl rfl (by kernel_rfl) (fun _ _ _ h => h) (Or.inl ⟨by rfl, ?_⟩) ?_ ?_
     rotate_left
     ·intro w'
      go_simp
      with_reducible rfl
     rotate_left
     ·simp only [Act.put, lA, lB, lC, i64_w, i32_w]
      rfl
     refine pure_ (i := 6) (N := some 65) (v := ?_) (a' := ?_) #[bT, bT, bT, bT, bT, bT, bT, bF, bF, bF] rfl rfl (by kernel_rfl) (fun _ _ _ h => h) (Or.inl ⟨by rfl, ?_⟩) ?_ ?_
     rotate_left
     ·intro w'
      go_simp
      with_reducible rfl
     rotate_left
     ·simp only [Act.put, lA, lB, lC, i64_w, i32_w]
      rfl
     refine one_ (i := 7) (N := some 9) #[bT, bT, bT, bT, bT, bT, bT, bT, bF, bF] rfl rfl (by kernel_rfl) (by decide) (fun K hK => ?_)
     refine value_ (w1 := ?_) (v := ?_) (by rfl) rfl ?_ ?_
     rotate_left 2
     ·go_simp
      constructor
      ·rfl
      ·rfl
     have D3 : Hid (Bel w9.drew (w2_.alloc (.cells #[.slice none 0 0, .slice none 0 0] 42))) := Lib.hid (bel_alloc D2.out (.cells #[.slice none 0 0, .slice none 0 0] 42))
     have Q3 := Lib.hid (OwnP.bel Q2.out (bel_alloc (Below.refl _ _) (.cells #[.slice none 0 0, .slice none 0 0] 42)))
     have O3 : Hid (Blk (w2_.alloc (.cells #[.slice none 0 0, .slice none 0 0] 42)) w2_.heap.size #[.slice none 0 0, .slice none 0 0] 42) := Lib.hid (Blk.new w2_ _ _)
     have L3 := D2.out.size
     refine hK.out _ _ ⟨(Vl.out.bel D3.out).c0, (Vl.out.bel D3.out).c1, (Vl.out.bel D3.out).c2, (Vl.out.bel D3.out).c3, (blkc (Ovo.out.bel D3.out) 0 _ rfl), (blkc (Ovo.out.bel D3.out) 1 _ rfl), (blkc (Ovo.out.bel D3.out) 2 _ rfl), (blkc (Ovo.out.bel D3.out) 3 _ rfl), (blkc (Ovo.out.bel D3.out) 4 _ rfl)⟩ (fun hHeld => ?_)
     clear hK K
     refine norm_ (a' := ?_) ?_ ?_
     rotate_left
     ·show Act.put _ (some 9) _ = _
      simp only [Act.put, lA, lB, lC, i64_w, i32_w]
      rfl
     exact norm_ (by simp only [putAll, Act.put, lA, lB, lC]) (hCont (A6, a6, B6, b6, A7, a7, B7, b7, bvc, w2_.heap.size) _ ⟨hHeld, Q3.out, O3.out, L3, D3.out⟩)
    ·skip
     refine value_ (w1 := ?_) (v := ?_) (by rfl) rfl ?_ ?_
     rotate_left 2
     ·go_simp
      constructor
      ·rfl
      ·rfl
     have D2 : Hid (Bel w9.drew (w1_.alloc (.cells #[.slice none 0 0, .slice none 0 0] 42))) := Lib.hid (bel_alloc D1.out (.cells #[.slice none 0 0, .slice none 0 0] 42))
     have P2 := Lib.hid (PoolIn.bel P1.out (bel_alloc (Below.refl _ _) (.cells #[.slice none 0 0, .slice none 0 0] 42)))
     have O2 : Hid (Blk (w1_.alloc (.cells #[.slice none 0 0, .slice none 0 0] 42)) w1_.heap.size #[.slice none 0 0, .slice none 0 0] 42) := Lib.hid (Blk.new w1_ _ _)
     have L2 := D1.out.size
     refine hK.out _ _ ⟨(Vl.out.bel D2.out).c0, (Vl.out.bel D2.out).c1, (Vl.out.bel D2.out).c2, (Vl.out.bel D2.out).c3, (blkc (Ovo.out.bel D2.out) 0 _ rfl), (blkc (Ovo.out.bel D2.out) 1 _ rfl), (blkc (Ovo.out.bel D2.out) 2 _ rfl), (blkc (Ovo.out.bel D2.out) 3 _ rfl), (blkc (Ovo.out.bel D2.out) 4 _ rfl)⟩ (fun hHeld => ?_)
     clear hK K
     refine norm_ (a' := ?_) ?_ ?_
     rotate_left
     ·show Act.put _ (some 9) _ = _
      simp only [Act.put, lA, lB, lC, i64_w, i32_w]
      rfl
     refine one_ (i := 3) (N := some 63) #[bT, bT, bT, bT, bF, bF, bF, bT, bF, bF] rfl rfl (by kernel_rfl) (by decide) (fun K hK => ?_)
     refine goes_ Tryz.func65 (by kernel_rfl) rfl #[.agg #[.slice A6 q.slots.length a6, .slice B6 q.vols.length b6], .agg #[.int .i64 o.kind, .string o.name, .string o.dest, .int .i64 o.n, .string o.text]] (by rfl) rfl rfl (by simp only [List.map_toArray, List.map_cons, List.map_nil]; rfl) ?_
     with_reducible refine (hdo.out _ _ _ _ _ P2.out).mono ?_
     rintro e w3_ ⟨vc, vd, bvc, rfl, hoo, X3⟩
     have D3 := Lib.hid (Bel.tr D2.out X3)
     obtain ⟨A7, B7, a7, b7, rfl, rfl, hpi⟩ := hoo.reads
     have Q3 : Hid (OwnP w3_ w9.drew.heap.size (.slice A7 qq.slots.length a7) (.slice B7 qq.vols.length b7) qq bvc) := Lib.hid (hoo.lower D2.out.size)
     clear hoo hpi
     have O3 := Lib.hid (Blk.bel O2.out X3)
     refine ⟨_, rfl, ?_⟩
     refine hK.out _ _ ⟨(Vl.out.bel D3.out).c0, (Vl.out.bel D3.out).c1, (Vl.out.bel D3.out).c2, (Vl.out.bel D3.out).c3, (blkc (Ovo.out.bel D3.out) 0 _ rfl), (blkc (Ovo.out.bel D3.out) 1 _ rfl), (blkc (Ovo.out.bel D3.out) 2 _ rfl), (blkc (Ovo.out.bel D3.out) 3 _ rfl), (blkc (Ovo.out.bel D3.out) 4 _ rfl)⟩ (fun hHeld => ?_)
     clear hK K
     refine norm_ (a' := ?_) ?_ ?_
     rotate_left
     ·show Act.put _ (some 63) _ = _
      simp only [Act.put, lA, lB, lC, i64_w, i32_w]
      rfl
     refine pure_ (i := 4) (N := some 59) (v := ?_) (a' := ?_) #[bT, bT, bT, bT, bT, bF, bF, bT, bF, bF] rfl rfl (by kernel_rfl) (fun _ _ _ h => h) (Or.inl ⟨by rfl, ?_⟩) ?_ ?_
     rotate_left
     ·intro w'
      go_simp
      with_reducible rfl
     rotate_left
     ·simp only [Act.put, lA, lB, lC, i64_w, i32_w]
      rfl
     refine pure_ (i := 5) (N := some 64) (v := ?_) (a' := ?_) #[bT, bT, bT, bT, bT, bT, bF, bT, bF, bF] rfl rfl (by kernel_rfl) (fun _ _ _ h => h) (Or.inl ⟨by rfl, ?_⟩) ?_ ?_
     rotate_left
     ·intro w'
      go_simp
      with_reducible rfl
     rotate_left
     ·simp only [Act.put, lA, lB, lC, i64_w, i32_w]
      rfl
     refine pure_ (i := 6) (N := some 65) (v := ?_) (a' := ?_) #[bT, bT, bT, bT, bT, bT, bT, bT, bF, bF] rfl rfl (by kernel_rfl) (fun _ _ _ h => h) (Or.inl ⟨by rfl, ?_⟩) ?_ ?_
     rotate_left
     ·intro w'
      go_simp
      with_reducible rfl
     rotate_left
     ·simp only [Act.put, lA, lB, lC, i64_w, i32_w]
      rfl
     exact norm_ (by simp only [putAll, Act.put, lA, lB, lC]) (hCont (A6, a6, B6, b6, A7, a7, B7, b7, bvc, w1_.heap.size) _ ⟨hHeld, Q3.out, O3.out, L2, D3.out⟩)
   ·skip
    refine value_ (w1 := ?_) (v := ?_) (by rfl) rfl ?_ ?_
    rotate_left 2
    ·go_simp
     constructor
     ·rfl
     ·rfl
    have D1 : Hid (Bel w9.drew (w9.alloc (.cells #[.slice none 0 0, .slice none 0 0] 42)).drew) := Lib.hid (bel_alloc D0.out (.cells #[.slice none 0 0, .slice none 0 0] 42))
    have O1 : Hid (Blk (w9.alloc (.cells #[.slice none 0 0, .slice none 0 0] 42)).drew w9.drew.heap.size #[.slice none 0 0, .slice none 0 0] 42) := Lib.hid (Blk.new w9.drew _ _)
    have L1 := D0.out.size
    refine hK.out _ _ ⟨(Vl.out.bel D1.out).c0, (Vl.out.bel D1.out).c1, (Vl.out.bel D1.out).c2, (Vl.out.bel D1.out).c3, (blkc (Ovo.out.bel D1.out) 0 _ rfl), (blkc (Ovo.out.bel D1.out) 1 _ rfl), (blkc (Ovo.out.bel D1.out) 2 _ rfl), (blkc (Ovo.out.bel D1.out) 3 _ rfl), (blkc (Ovo.out.bel D1.out) 4 _ rfl)⟩ (fun hHeld => ?_)
    clear hK K
    refine norm_ (a' := ?_) ?_ ?_
    rotate_left
    ·show Act.put _ (some 9) _ = _
     simp only [Act.put, lA, lB, lC, i64_w, i32_w]
     rfl
    refine one_ (i := 1) (N := some 61) #[bT, bT, bT, bF, bF, bF, bF, bT, bF, bF] rfl rfl (by kernel_rfl) (by decide) (fun K hK => ?_)
    refine goes_ Tryz.func36 (by kernel_rfl) rfl #[.agg #[.slice Al l.base.slots.length al, .slice Bl l.base.vols.length bl, .slice Cl l.ops.length cl, .int .i64 l.safe]] (by rfl) rfl rfl (by simp only [List.map_toArray, List.map_cons, List.map_nil]; rfl) ?_
    with_reducible refine (implLogPool_n (Vl.out.bel D1.out).inn HSl.out HLP.out.poolE).mono ?_
    rintro e w2_ ⟨A6, B6, a6, b6, rfl, hpi, X2⟩
    have D2 := Lib.hid (Bel.tr D1.out X2)
    have P2 := Lib.hid hpi
    clear hpi
    have O2 := Lib.hid (Blk.bel O1.out X2)
    refine ⟨_, rfl, ?_⟩
    refine hK.out _ _ ⟨(Vl.out.bel D2.out).c0, (Vl.out.bel D2.out).c1, (Vl.out.bel D2.out).c2, (Vl.out.bel D2.out).c3, (blkc (Ovo.out.bel D2.out) 0 _ rfl), (blkc (Ovo.out.bel D2.out) 1 _ rfl), (blkc (Ovo.out.bel D2.out) 2 _ rfl), (blkc (Ovo.out.bel D2.out) 3 _ rfl), (blkc (Ovo.out.bel D2.out) 4 _ rfl)⟩ (fun hHeld => ?_)
    clear hK K
    refine norm_ (a' := ?_) ?_ ?_
    rotate_left
    ·show Act.put _ (some 61) _ = _
     simp only [Act.put, lA, lB, lC, i64_w, i32_w]
     rfl
    refine one_ (i := 3) (N := some 63) #[bT, bT, bT, bT, bF, bF, bF, bT, bF, bF] rfl rfl (by kernel_rfl) (by decide) (fun K hK => ?_)
    refine goes_ Tryz.func65 (by kernel_rfl) rfl #[.agg #[.slice A6 q.slots.length a6, .slice B6 q.vols.length b6], .agg #[.int .i64 o.kind, .string o.name, .string o.dest, .int .i64 o.n, .string o.text]] (by rfl) rfl rfl (by simp only [List.map_toArray, List.map_cons, List.map_nil]; rfl) ?_
    with_reducible refine (hdo.out _ _ _ _ _ P2.out).mono ?_
    rintro e w3_ ⟨vc, vd, bvc, rfl, hoo, X3⟩
    have D3 := Lib.hid (Bel.tr D2.out X3)
    obtain ⟨A7, B7, a7, b7, rfl, rfl, hpi⟩ := hoo.reads
    have Q3 : Hid (OwnP w3_ w9.drew.heap.size (.slice A7 qq.slots.length a7) (.slice B7 qq.vols.length b7) qq bvc) := Lib.hid (hoo.lower D2.out.size)
    clear hoo hpi
    have O3 := Lib.hid (Blk.bel O2.out X3)
    refine ⟨_, rfl, ?_⟩
    refine hK.out _ _ ⟨(Vl.out.bel D3.out).c0, (Vl.out.bel D3.out).c1, (Vl.out.bel D3.out).c2, (Vl.out.bel D3.out).c3, (blkc (Ovo.out.bel D3.out) 0 _ rfl), (blkc (Ovo.out.bel D3.out) 1 _ rfl), (blkc (Ovo.out.bel D3.out) 2 _ rfl), (blkc (Ovo.out.bel D3.out) 3 _ rfl), (blkc (Ovo.out.bel D3.out) 4 _ rfl)⟩ (fun hHeld => ?_)
    clear hK K
    refine norm_ (a' := ?_) ?_ ?_
    rotate_left
    ·show Act.put _ (some 63) _ = _
     simp only [Act.put, lA, lB, lC, i64_w, i32_w]
     rfl
    refine pure_ (i := 4) (N := some 59) (v := ?_) (a' := ?_) #[bT, bT, bT, bT, bT, bF, bF, bT, bF, bF] rfl rfl (by kernel_rfl) (fun _ _ _ h => h) (Or.inl ⟨by rfl, ?_⟩) ?_ ?_
    rotate_left
    ·intro w'
     go_simp
     with_reducible rfl
    rotate_left
    ·simp only [Act.put, lA, lB, lC, i64_w, i32_w]
     rfl
    refine pure_ (i := 5) (N := some 64) (v := ?_) (a' := ?_) #[bT, bT, bT, bT, bT, bT, bF, bT, bF, bF] rfl rfl (by kernel_rfl) (fun _ _ _ h => h) (Or.inl ⟨by rfl, ?_⟩) ?_ ?_
    rotate_left
    ·intro w'
     go_simp
     with_reducible rfl
    rotate_left
    ·simp only [Act.put, lA, lB, lC, i64_w, i32_w]
     rfl
    refine pure_ (i := 6) (N := some 65) (v := ?_) (a' := ?_) #[bT, bT, bT, bT, bT, bT, bT, bT, bF, bF] rfl rfl (by kernel_rfl) (fun _ _ _ h => h) (Or.inl ⟨by rfl, ?_⟩) ?_ ?_
    rotate_left
    ·intro w'
     go_simp
     with_reducible rfl
    rotate_left
    ·simp only [Act.put, lA, lB, lC, i64_w, i32_w]
     rfl
    exact norm_ (by simp only [putAll, Act.put, lA, lB, lC]) (hCont (A6, a6, B6, b6, A7, a7, B7, b7, bvc, w9.heap.size) _ ⟨hHeld, Q3.out, O3.out, L1, D3.out⟩)
  rintro ⟨A6, a6, B6, b6, A7, a7, B7, b7, bvc, nb⟩ w4_ ⟨hHeld, hQ, hO, hL, hD⟩
  dsimp only at hQ hO hL
  have r0 := hO.cell 0
  have r1 := hO.cell 1
  have f0 := hO.free 0
  have f1 := hO.free 1
  simp at r0 r1
  refine norm_ (a' := ?_) ?_ ?_
  rotate_left
  ·simp only [putAll, Act.put, lA, lB, lC]
   rfl
  refine last_ (i := 8) (N := none) #[bT, bT, bT, bT, bT, bT, bT, bT, bT, bF] rfl rfl (by kernel_rfl) (by decide) (fun K hK => ?_)
  refine skip_ (w1 := ?_) (by rfl) rfl ?_ ?_
  rotate_left
  ·go_simp
   rfl
  refine hK.out _ _ ?_
  clear hK K
  refine pure_ (i := 9) (N := some 10) (v := ?_) (a' := ?_) #[bT, bT, bT, bT, bT, bT, bT, bT, bT, bT] rfl rfl (by kernel_rfl) (fun _ _ _ h => h) (Or.inl ⟨by rfl, ?_⟩) ?_ ?_
  rotate_left
  ·intro w'
   go_simp
   with_reducible rfl
  rotate_left
  ·simp only [Act.put, lA, lB, lC, i64_w, i32_w]
   rfl
  refine done_ (by kernel_rfl) ?_
  have hO4 := hO.set 0 (.slice A7 qq.slots.length a7) (cs' := #[.slice A7 qq.slots.length a7, .slice none 0 0]) rfl
  have hO5 := hO4.set 1 (.slice B7 qq.vols.length b7) (cs' := #[.slice A7 qq.slots.length a7, .slice B7 qq.vols.length b7]) rfl
  have hQ5 := (hQ.far hO (by decide) (by decide) (by decide) 0 (.slice A7 qq.slots.length a7)).far hO4 (by decide) (by decide) (by decide) 1 (.slice B7 qq.vols.length b7)
  have hb : Bel w9.drew ((w4_.setCell ⟨nb, 0, none⟩ (.slice A7 qq.slots.length a7)).setCell ⟨nb, 1, none⟩ (.slice B7 qq.vols.length b7)) := bel_set (bel_set hD hL 0 (.slice A7 qq.slots.length a7)) hL 1 (.slice B7 qq.vols.length b7)
  clear hO hO4 hQ hL hD f0 f1 r0 r1 hHeld D0 hdo
  generalize ((w4_.setCell ⟨nb, 0, none⟩ (.slice A7 qq.slots.length a7)).setCell ⟨nb, 1, none⟩ (.slice B7 qq.vols.length b7)) = W10 at hO5 hQ5 hb ⊢
  have Pp : Hid (PVar W10 nb A7 B7 a7 b7 qq) := Lib.hid ⟨hO5, hQ5.inn⟩
  obtain ⟨bkp, hbn⟩ : ∃ b, nb = b := ⟨_, rfl⟩
  rw [hbn] at Pp ⊢
  replace Vl := Lib.hid (Vl.out.bel hb)
  replace Ovo := Lib.hid (Ovo.out.bel hb)
  replace Vwant := Lib.hid (Vwant.out.bel hb)
  replace Vx := Lib.hid (Vx.out.bel hb)
  replace KW := Lib.hid (KW.out.tr hb)
  clear hb hO5 hQ5 hbn
  have qp0 := Pp.out.c0
  have qp1 := Pp.out.c1
  have yp := Pp.out.lt
  have el0 := Vl.out.c0
  have el1 := Vl.out.c1
  have el2 := Vl.out.c2
  have el3 := Vl.out.c3
  have eyl := Vl.out.lt
  have ewant0 := Vwant.out.c0
  have ewant1 := Vwant.out.c1
  have ewant2 := Vwant.out.c2
  have ewant3 := Vwant.out.c3
  have eywant := Vwant.out.lt
  have ex0 := Vx.out.c0
  have ex1 := Vx.out.c1
  have ex2 := Vx.out.c2
  have ex3 := Vx.out.c3
  have eyx := Vx.out.lt
  have om0 : W10.cell? ⟨bko, 0, none⟩ = some (.int .i64 o.kind) := blkc Ovo.out 0 _ rfl
  have om1 : W10.cell? ⟨bko, 1, none⟩ = some (.string o.name) := blkc Ovo.out 1 _ rfl
  have om2 : W10.cell? ⟨bko, 2, none⟩ = some (.string o.dest) := blkc Ovo.out 2 _ rfl
  have om3 : W10.cell? ⟨bko, 3, none⟩ = some (.int .i64 o.n) := blkc Ovo.out 3 _ rfl
  have om4 : W10.cell? ⟨bko, 4, none⟩ = some (.string o.text) := blkc Ovo.out 4 _ rfl
  have omy := Ovo.out.lt
  go_wp2_with fail
  clear qp0 qp1 yp
  clear el0 el1 el2 el3 eyl
  clear ewant0 ewant1 ewant2 ewant3 eywant
  clear ex0 ex1 ex2 ex3 eyx
  clear om0 om1 om2 om3 om4 omy
  refine (lgLog_c Vx.out.inn Vl.out.inn HSl.out).mono ?_
  rintro e w11 ⟨rfl, hb⟩
  replace Vl := Lib.hid (Vl.out.bel hb)
  replace Ovo := Lib.hid (Ovo.out.bel hb)
  replace Vwant := Lib.hid (Vwant.out.bel hb)
  replace Vx := Lib.hid (Vx.out.bel hb)
  replace Pp := Lib.hid (Pp.out.bel hb)
  replace KW := Lib.hid (KW.out.tr hb)
  clear hb
  have hfe : ((l.ops.length : Int) == 20) = true ∨ fine = false := hfn.elim (fun h => .inr h) (fun h => .inl (by rw [beq_iff_eq]; omega))
  clear hfn
  rcases hfe with hfe | rfl
  ·cases fine
   ·skip
    have qp0 := Pp.out.c0
    have qp1 := Pp.out.c1
    have yp := Pp.out.lt
    have el0 := Vl.out.c0
    have el1 := Vl.out.c1
    have el2 := Vl.out.c2
    have el3 := Vl.out.c3
    have eyl := Vl.out.lt
    have ewant0 := Vwant.out.c0
    have ewant1 := Vwant.out.c1
    have ewant2 := Vwant.out.c2
    have ewant3 := Vwant.out.c3
    have eywant := Vwant.out.lt
    have ex0 := Vx.out.c0
    have ex1 := Vx.out.c1
    have ex2 := Vx.out.c2
    have ex3 := Vx.out.c3
    have eyx := Vx.out.lt
    have om0 : w11.cell? ⟨bko, 0, none⟩ = some (.int .i64 o.kind) := blkc Ovo.out 0 _ rfl
    have om1 : w11.cell? ⟨bko, 1, none⟩ = some (.string o.name) := blkc Ovo.out 1 _ rfl
    have om2 : w11.cell? ⟨bko, 2, none⟩ = some (.string o.dest) := blkc Ovo.out 2 _ rfl
    have om3 : w11.cell? ⟨bko, 3, none⟩ = some (.int .i64 o.n) := blkc Ovo.out 3 _ rfl
    have om4 : w11.cell? ⟨bko, 4, none⟩ = some (.string o.text) := blkc Ovo.out 4 _ rfl
    have omy := Ovo.out.lt
    go_wp2
    all_goals
     go_ret
     exact ⟨rfl, KW.out⟩
   ·skip
    have qp0 := Pp.out.c0
    have qp1 := Pp.out.c1
    have yp := Pp.out.lt
    have el0 := Vl.out.c0
    have el1 := Vl.out.c1
    have el2 := Vl.out.c2
    have el3 := Vl.out.c3
    have eyl := Vl.out.lt
    have ewant0 := Vwant.out.c0
    have ewant1 := Vwant.out.c1
    have ewant2 := Vwant.out.c2
    have ewant3 := Vwant.out.c3
    have eywant := Vwant.out.lt
    have ex0 := Vx.out.c0
    have ex1 := Vx.out.c1
    have ex2 := Vx.out.c2
    have ex3 := Vx.out.c3
    have eyx := Vx.out.lt
    have om0 : w11.cell? ⟨bko, 0, none⟩ = some (.int .i64 o.kind) := blkc Ovo.out 0 _ rfl
    have om1 : w11.cell? ⟨bko, 1, none⟩ = some (.string o.name) := blkc Ovo.out 1 _ rfl
    have om2 : w11.cell? ⟨bko, 2, none⟩ = some (.string o.dest) := blkc Ovo.out 2 _ rfl
    have om3 : w11.cell? ⟨bko, 3, none⟩ = some (.int .i64 o.n) := blkc Ovo.out 3 _ rfl
    have om4 : w11.cell? ⟨bko, 4, none⟩ = some (.string o.text) := blkc Ovo.out 4 _ rfl
    have omy := Ovo.out.lt
    go_wp2
    all_goals
     go_ret
     exact ⟨rfl, KW.out⟩
  ·skip
   have qp0 := Pp.out.c0
   have qp1 := Pp.out.c1
   have yp := Pp.out.lt
   have el0 := Vl.out.c0
   have el1 := Vl.out.c1
   have el2 := Vl.out.c2
   have el3 := Vl.out.c3
   have eyl := Vl.out.lt
   have ewant0 := Vwant.out.c0
   have ewant1 := Vwant.out.c1
   have ewant2 := Vwant.out.c2
   have ewant3 := Vwant.out.c3
   have eywant := Vwant.out.lt
   have ex0 := Vx.out.c0
   have ex1 := Vx.out.c1
   have ex2 := Vx.out.c2
   have ex3 := Vx.out.c3
   have eyx := Vx.out.lt
   have om0 : w11.cell? ⟨bko, 0, none⟩ = some (.int .i64 o.kind) := blkc Ovo.out 0 _ rfl
   have om1 : w11.cell? ⟨bko, 1, none⟩ = some (.string o.name) := blkc Ovo.out 1 _ rfl
   have om2 : w11.cell? ⟨bko, 2, none⟩ = some (.string o.dest) := blkc Ovo.out 2 _ rfl
   have om3 : w11.cell? ⟨bko, 3, none⟩ = some (.int .i64 o.n) := blkc Ovo.out 3 _ rfl
   have om4 : w11.cell? ⟨bko, 4, none⟩ = some (.string o.text) := blkc Ovo.out 4 _ rfl
   have omy := Ovo.out.lt
   go_wp2
   all_goals
    go_ret
    exact ⟨rfl, KW.out⟩
 obtain ⟨q', r, hlp', hop', hr, hlen, hxe, hlx⟩ := add_true hz
 obtain rfl : q = q' := by have h1 := HLP.out.run; rw [hlp'.run] at h1; exact (Option.some.inj h1).symm
 obtain rfl : ⟨l.base, l.ops ++ [o], l.safe⟩ = x := hxe.symm.trans hx
 obtain rfl : fine = true := HCH.out.1.trans (by rw [hr]; rfl)
 obtain rfl : qq = r := HCH.out.2 _ hr
 obtain ⟨no, hno⟩ : ∃ no, l.ops ++ [o] = no := ⟨_, rfl⟩
 have hnl : no.length = l.ops.length + 1 := by rw [← hno, List.length_append]; rfl
 have hno1 : no[l.ops.length]? = some o := by rw [← hno, List.getElem?_append_right (Nat.le_refl _), Nat.sub_self]; rfl
 have hno2 : no.take l.ops.length = l.ops := by rw [← hno, List.take_left]
 rw [hno] at hx hlx HSx
 have HAD := Lib.hid (And.intro hx hz)
 have HLX := Lib.hid hlx
 have HNL := Lib.hid hnl
 have HN1 := Lib.hid hno1
 have HN2 := Lib.hid hno2
 have HSr := Lib.hid hlx.out.small
 clear hx hz hlp' hop' hr hxe hlx hno hnl hno1 hno2
 go_wp2_with fail
 have hnew := (LVar.new Jl.out).bel (bel_alloc (Below.refl _ _) (.cells #[.int .i64 o.kind, .string o.name, .string o.dest, .int .i64 o.n, .string o.text] 27))
 have hO : Blk ((w1.alloc (.cells #[.slice Al l.base.slots.length al, .slice Bl l.base.vols.length bl, .slice Cl l.ops.length cl, .int .i64 l.safe] 44)).alloc (.cells #[.int .i64 o.kind, .string o.name, .string o.dest, .int .i64 o.n, .string o.text] 27)) (w1.heap.size + 1) #[.int .i64 o.kind, .string o.name, .string o.dest, .int .i64 o.n, .string o.text] 27 := Blk.nw2 _ _ _ _
 have hb : Bel w1 ((w1.alloc (.cells #[.slice Al l.base.slots.length al, .slice Bl l.base.vols.length bl, .slice Cl l.ops.length cl, .int .i64 l.safe] 44)).alloc (.cells #[.int .i64 o.kind, .string o.name, .string o.dest, .int .i64 o.n, .string o.text] 27)) := bel_alloc (bel_alloc (Below.refl _ _) _) _
 generalize ((w1.alloc (.cells #[.slice Al l.base.slots.length al, .slice Bl l.base.vols.length bl, .slice Cl l.ops.length cl, .int .i64 l.safe] 44)).alloc (.cells #[.int .i64 o.kind, .string o.name, .string o.dest, .int .i64 o.n, .string o.text] 27)) = W2 at hnew hO hb ⊢
 replace Jl := Lib.hid (Jl.out.bel hb)
 replace KW := Lib.hid (KW.out.tr hb)
 obtain ⟨bkl, hbn⟩ : ∃ b, w1.heap.size = b := ⟨_, rfl⟩
 rw [hbn] at hnew hO ⊢
 obtain ⟨bko, hbo⟩ : ∃ b, bkl + 1 = b := ⟨_, rfl⟩
 rw [hbo] at hO ⊢
 have Vl := Lib.hid hnew
 have Ovo := Lib.hid hO
 clear hnew hO hb hbn hbo Jl
 refine (specLogAdd_n Vl.out.inn HSl.out HSO.out HAD.out).mono ?_
 rintro e w3 ⟨Awant, Bwant, Cwant, awant, bwant, cwant, rfl, hin, hb⟩
 replace Vl := Lib.hid (Vl.out.bel hb)
 replace Ovo := Lib.hid (Ovo.out.bel hb)
 replace KW := Lib.hid (KW.out.tr hb)
 have Jwant := Lib.hid hin
 clear hin hb
 have el0 := Vl.out.c0
 have el1 := Vl.out.c1
 have el2 := Vl.out.c2
 have el3 := Vl.out.c3
 have eyl := Vl.out.lt
 have om0 : w3.cell? ⟨bko, 0, none⟩ = some (.int .i64 o.kind) := blkc Ovo.out 0 _ rfl
 have om1 : w3.cell? ⟨bko, 1, none⟩ = some (.string o.name) := blkc Ovo.out 1 _ rfl
 have om2 : w3.cell? ⟨bko, 2, none⟩ = some (.string o.dest) := blkc Ovo.out 2 _ rfl
 have om3 : w3.cell? ⟨bko, 3, none⟩ = some (.int .i64 o.n) := blkc Ovo.out 3 _ rfl
 have om4 : w3.cell? ⟨bko, 4, none⟩ = some (.string o.text) := blkc Ovo.out 4 _ rfl
 have omy := Ovo.out.lt
 go_wp2_with fail
 clear el0 el1 el2 el3 eyl
 clear om0 om1 om2 om3 om4 omy
 have hnew := LVar.new Jwant.out
 have hb : Bel w3 (w3.alloc (.cells #[.slice Awant l.base.slots.length awant, .slice Bwant l.base.vols.length bwant, .slice Cwant no.length cwant, .int .i64 l.safe] 44)) := bel_alloc (Below.refl _ _) _
 generalize w3.alloc (.cells #[.slice Awant l.base.slots.length awant, .slice Bwant l.base.vols.length bwant, .slice Cwant no.length cwant, .int .i64 l.safe] 44) = W4 at hnew hb ⊢
 replace Vl := Lib.hid (Vl.out.bel hb)
 replace Ovo := Lib.hid (Ovo.out.bel hb)
 replace Jwant := Lib.hid (Jwant.out.bel hb)
 replace KW := Lib.hid (KW.out.tr hb)
 obtain ⟨bkwant, hbn⟩ : ∃ b, w3.heap.size = b := ⟨_, rfl⟩
 rw [hbn] at hnew ⊢
 have Vwant := Lib.hid hnew
 clear hnew hb hbn Jwant
 refine (implLogAdd_n Vl.out.inn HSl.out HSO.out HAD.out).mono ?_
 rintro e w5 ⟨Ax, Bx, Cx, ax, bx, cx, rfl, hin, hb⟩
 replace Vl := Lib.hid (Vl.out.bel hb)
 replace Ovo := Lib.hid (Ovo.out.bel hb)
 replace Vwant := Lib.hid (Vwant.out.bel hb)
 replace KW := Lib.hid (KW.out.tr hb)
 have Jx := Lib.hid hin
 clear hin hb
 have el0 := Vl.out.c0
 have el1 := Vl.out.c1
 have el2 := Vl.out.c2
 have el3 := Vl.out.c3
 have eyl := Vl.out.lt
 have ewant0 : w5.cell? ⟨bkwant, 0, none⟩ = some (.slice Awant l.base.slots.length awant) := Vwant.out.c0
 have ewant1 : w5.cell? ⟨bkwant, 1, none⟩ = some (.slice Bwant l.base.vols.length bwant) := Vwant.out.c1
 have ewant2 : w5.cell? ⟨bkwant, 2, none⟩ = some (.slice Cwant no.length cwant) := Vwant.out.c2
 have ewant3 : w5.cell? ⟨bkwant, 3, none⟩ = some (.int .i64 l.safe) := Vwant.out.c3
 have eywant := Vwant.out.lt
 have om0 : w5.cell? ⟨bko, 0, none⟩ = some (.int .i64 o.kind) := blkc Ovo.out 0 _ rfl
 have om1 : w5.cell? ⟨bko, 1, none⟩ = some (.string o.name) := blkc Ovo.out 1 _ rfl
 have om2 : w5.cell? ⟨bko, 2, none⟩ = some (.string o.dest) := blkc Ovo.out 2 _ rfl
 have om3 : w5.cell? ⟨bko, 3, none⟩ = some (.int .i64 o.n) := blkc Ovo.out 3 _ rfl
 have om4 : w5.cell? ⟨bko, 4, none⟩ = some (.string o.text) := blkc Ovo.out 4 _ rfl
 have omy := Ovo.out.lt
 go_wp2_with fail
 clear el0 el1 el2 el3 eyl
 clear ewant0 ewant1 ewant2 ewant3 eywant
 clear om0 om1 om2 om3 om4 omy
 have hnew := LVar.new Jx.out
 have hb : Bel w5 (w5.alloc (.cells #[.slice Ax l.base.slots.length ax, .slice Bx l.base.vols.length bx, .slice Cx no.length cx, .int .i64 l.safe] 44)) := bel_alloc (Below.refl _ _) _
 generalize w5.alloc (.cells #[.slice Ax l.base.slots.length ax, .slice Bx l.base.vols.length bx, .slice Cx no.length cx, .int .i64 l.safe] 44) = W6 at hnew hb ⊢
 replace Vl := Lib.hid (Vl.out.bel hb)
 replace Ovo := Lib.hid (Ovo.out.bel hb)
 replace Vwant := Lib.hid (Vwant.out.bel hb)
 replace Jx := Lib.hid (Jx.out.bel hb)
 replace KW := Lib.hid (KW.out.tr hb)
 obtain ⟨bkx, hbn⟩ : ∃ b, w5.heap.size = b := ⟨_, rfl⟩
 rw [hbn] at hnew ⊢
 have Vx := Lib.hid hnew
 clear hnew hb hbn Jx
 refine (lgLog_c (l := ⟨l.base, no, l.safe⟩) Vx.out.inn Vwant.out.inn HSx.out).mono ?_
 rintro e w7 ⟨rfl, hb⟩
 replace Vl := Lib.hid (Vl.out.bel hb)
 replace Ovo := Lib.hid (Ovo.out.bel hb)
 replace Vwant := Lib.hid (Vwant.out.bel hb)
 replace Vx := Lib.hid (Vx.out.bel hb)
 replace KW := Lib.hid (KW.out.tr hb)
 clear hb
 have el0 := Vl.out.c0
 have el1 := Vl.out.c1
 have el2 := Vl.out.c2
 have el3 := Vl.out.c3
 have eyl := Vl.out.lt
 have ewant0 : w7.cell? ⟨bkwant, 0, none⟩ = some (.slice Awant l.base.slots.length awant) := Vwant.out.c0
 have ewant1 : w7.cell? ⟨bkwant, 1, none⟩ = some (.slice Bwant l.base.vols.length bwant) := Vwant.out.c1
 have ewant2 : w7.cell? ⟨bkwant, 2, none⟩ = some (.slice Cwant no.length cwant) := Vwant.out.c2
 have ewant3 : w7.cell? ⟨bkwant, 3, none⟩ = some (.int .i64 l.safe) := Vwant.out.c3
 have eywant := Vwant.out.lt
 have ex0 : w7.cell? ⟨bkx, 0, none⟩ = some (.slice Ax l.base.slots.length ax) := Vx.out.c0
 have ex1 : w7.cell? ⟨bkx, 1, none⟩ = some (.slice Bx l.base.vols.length bx) := Vx.out.c1
 have ex2 : w7.cell? ⟨bkx, 2, none⟩ = some (.slice Cx no.length cx) := Vx.out.c2
 have ex3 : w7.cell? ⟨bkx, 3, none⟩ = some (.int .i64 l.safe) := Vx.out.c3
 have eyx := Vx.out.lt
 have om0 : w7.cell? ⟨bko, 0, none⟩ = some (.int .i64 o.kind) := blkc Ovo.out 0 _ rfl
 have om1 : w7.cell? ⟨bko, 1, none⟩ = some (.string o.name) := blkc Ovo.out 1 _ rfl
 have om2 : w7.cell? ⟨bko, 2, none⟩ = some (.string o.dest) := blkc Ovo.out 2 _ rfl
 have om3 : w7.cell? ⟨bko, 3, none⟩ = some (.int .i64 o.n) := blkc Ovo.out 3 _ rfl
 have om4 : w7.cell? ⟨bko, 4, none⟩ = some (.string o.text) := blkc Ovo.out 4 _ rfl
 have omy := Ovo.out.lt
 go_wp2_with fail
 clear el0 el1 el2 el3 eyl
 clear ewant0 ewant1 ewant2 ewant3 eywant
 clear ex0 ex1 ex2 ex3 eyx
 clear om0 om1 om2 om3 om4 omy
 refine (specLogOk_n Vl.out.inn HSl.out HOK.out).mono ?_
 rintro e w8 ⟨rfl, hb⟩
 replace Vl := Lib.hid (Vl.out.bel hb)
 replace Ovo := Lib.hid (Ovo.out.bel hb)
 replace Vwant := Lib.hid (Vwant.out.bel hb)
 replace Vx := Lib.hid (Vx.out.bel hb)
 replace KW := Lib.hid (KW.out.tr hb)
 clear hb
 have el0 := Vl.out.c0
 have el1 := Vl.out.c1
 have el2 := Vl.out.c2
 have el3 := Vl.out.c3
 have eyl := Vl.out.lt
 have ewant0 : w8.cell? ⟨bkwant, 0, none⟩ = some (.slice Awant l.base.slots.length awant) := Vwant.out.c0
 have ewant1 : w8.cell? ⟨bkwant, 1, none⟩ = some (.slice Bwant l.base.vols.length bwant) := Vwant.out.c1
 have ewant2 : w8.cell? ⟨bkwant, 2, none⟩ = some (.slice Cwant no.length cwant) := Vwant.out.c2
 have ewant3 : w8.cell? ⟨bkwant, 3, none⟩ = some (.int .i64 l.safe) := Vwant.out.c3
 have eywant := Vwant.out.lt
 have ex0 : w8.cell? ⟨bkx, 0, none⟩ = some (.slice Ax l.base.slots.length ax) := Vx.out.c0
 have ex1 : w8.cell? ⟨bkx, 1, none⟩ = some (.slice Bx l.base.vols.length bx) := Vx.out.c1
 have ex2 : w8.cell? ⟨bkx, 2, none⟩ = some (.slice Cx no.length cx) := Vx.out.c2
 have ex3 : w8.cell? ⟨bkx, 3, none⟩ = some (.int .i64 l.safe) := Vx.out.c3
 have eyx := Vx.out.lt
 have om0 : w8.cell? ⟨bko, 0, none⟩ = some (.int .i64 o.kind) := blkc Ovo.out 0 _ rfl
 have om1 : w8.cell? ⟨bko, 1, none⟩ = some (.string o.name) := blkc Ovo.out 1 _ rfl
 have om2 : w8.cell? ⟨bko, 2, none⟩ = some (.string o.dest) := blkc Ovo.out 2 _ rfl
 have om3 : w8.cell? ⟨bko, 3, none⟩ = some (.int .i64 o.n) := blkc Ovo.out 3 _ rfl
 have om4 : w8.cell? ⟨bko, 4, none⟩ = some (.string o.text) := blkc Ovo.out 4 _ rfl
 have omy := Ovo.out.lt
 go_wp2_with fail
 clear el0 el1 el2 el3 eyl
 clear ewant0 ewant1 ewant2 ewant3 eywant
 clear ex0 ex1 ex2 ex3 eyx
 clear om0 om1 om2 om3 om4 omy
 refine ((HOP.out ▸ specOpOk_c o HSO.out _ : Calls Tryz.prog 64 #[.agg #[.int .i64 o.kind, .string o.name, .string o.dest, .int .i64 o.n, .string o.text]] _ (Ret (.bool true) _))).mono ?_
 rintro e w9 ⟨rfl, hb⟩
 replace Vl := Lib.hid (Vl.out.bel hb)
 replace Ovo := Lib.hid (Ovo.out.bel hb)
 replace Vwant := Lib.hid (Vwant.out.bel hb)
 replace Vx := Lib.hid (Vx.out.bel hb)
 replace KW := Lib.hid (KW.out.tr hb)
 clear hb
 have el0 := Vl.out.c0
 have el1 := Vl.out.c1
 have el2 := Vl.out.c2
 have el3 := Vl.out.c3
 have eyl := Vl.out.lt
 have ewant0 : w9.cell? ⟨bkwant, 0, none⟩ = some (.slice Awant l.base.slots.length awant) := Vwant.out.c0
 have ewant1 : w9.cell? ⟨bkwant, 1, none⟩ = some (.slice Bwant l.base.vols.length bwant) := Vwant.out.c1
 have ewant2 : w9.cell? ⟨bkwant, 2, none⟩ = some (.slice Cwant no.length cwant) := Vwant.out.c2
 have ewant3 : w9.cell? ⟨bkwant, 3, none⟩ = some (.int .i64 l.safe) := Vwant.out.c3
 have eywant := Vwant.out.lt
 have ex0 : w9.cell? ⟨bkx, 0, none⟩ = some (.slice Ax l.base.slots.length ax) := Vx.out.c0
 have ex1 : w9.cell? ⟨bkx, 1, none⟩ = some (.slice Bx l.base.vols.length bx) := Vx.out.c1
 have ex2 : w9.cell? ⟨bkx, 2, none⟩ = some (.slice Cx no.length cx) := Vx.out.c2
 have ex3 : w9.cell? ⟨bkx, 3, none⟩ = some (.int .i64 l.safe) := Vx.out.c3
 have eyx := Vx.out.lt
 have om0 : w9.cell? ⟨bko, 0, none⟩ = some (.int .i64 o.kind) := blkc Ovo.out 0 _ rfl
 have om1 : w9.cell? ⟨bko, 1, none⟩ = some (.string o.name) := blkc Ovo.out 1 _ rfl
 have om2 : w9.cell? ⟨bko, 2, none⟩ = some (.string o.dest) := blkc Ovo.out 2 _ rfl
 have om3 : w9.cell? ⟨bko, 3, none⟩ = some (.int .i64 o.n) := blkc Ovo.out 3 _ rfl
 have om4 : w9.cell? ⟨bko, 4, none⟩ = some (.string o.text) := blkc Ovo.out 4 _ rfl
 have omy := Ovo.out.lt
 go_wp2
 clear el0 el1 el2 el3 eyl
 clear ewant0 ewant1 ewant2 ewant3 eywant
 clear ex0 ex1 ex2 ex3 eyx
 clear om0 om1 om2 om3 om4 omy
 have hb : Bel w9 w9.drew := (Below.refl _ _).drew
 replace Vl := Lib.hid (Vl.out.bel hb)
 replace Ovo := Lib.hid (Ovo.out.bel hb)
 replace Vwant := Lib.hid (Vwant.out.bel hb)
 replace Vx := Lib.hid (Vx.out.bel hb)
 replace KW := Lib.hid (KW.out.tr hb)
 clear hb
 have D0 : Hid (Bel w9.drew w9.drew) := Lib.hid (Below.refl _ _)
 refine start_ (n := 10) (S := fun w' => w'.cell? ⟨bkl, 0, none⟩ = some (.slice Al l.base.slots.length al) ∧ w'.cell? ⟨bkl, 1, none⟩ = some (.slice Bl l.base.vols.length bl) ∧ w'.cell? ⟨bkl, 2, none⟩ = some (.slice Cl l.ops.length cl) ∧ w'.cell? ⟨bkl, 3, none⟩ = some (.int .i64 l.safe) ∧ w'.cell? ⟨bko, 0, none⟩ = some (.int .i64 o.kind) ∧ w'.cell? ⟨bko, 1, none⟩ = some (.string o.name) ∧ w'.cell? ⟨bko, 2, none⟩ = some (.string o.dest) ∧ w'.cell? ⟨bko, 3, none⟩ = some (.int .i64 o.n) ∧ w'.cell? ⟨bko, 4, none⟩ = some (.string o.text)) (ds := [8]) #[bF, bF, bF, bF, bF, bF, bF, bF, bF, bF] (by kernel_rfl) rfl rfl ⟨Vl.out.c0, Vl.out.c1, Vl.out.c2, Vl.out.c3, (blkc Ovo.out 0 _ rfl), (blkc Ovo.out 1 _ rfl), (blkc Ovo.out 2 _ rfl), (blkc Ovo.out 3 _ rfl), (blkc Ovo.out 4 _ rfl)⟩ (fun hHeld => ?_)
 refine take_ (i := 0) (N := some 60) (v := ?_) (a' := ?_) #[bT, bF, bF, bF, bF, bF, bF, bF, bF, bF] rfl rfl (by kernel_rfl) (fun _ _ _ h => h) (Or.inl ⟨by rfl, ?_⟩) hHeld ?_ ?_
 rotate_left
 ·rintro w' ⟨s0, s1, s2, s3, s4, s5, s6, s7, s8⟩
  go_simp
  with_reducible rfl
 rotate_left
 ·simp only [Act.put, lA, lB, lC, i64_w, i32_w]
  rfl
 refine take_ (i := 2) (N := some 62) (v := ?_) (a' := ?_) #[bT, bF, bT, bF, bF, bF, bF, bF, bF, bF] rfl rfl (by kernel_rfl) (fun _ _ _ h => h) (Or.inl ⟨by rfl, ?_⟩) hHeld ?_ ?_
 rotate_left
 ·rintro w' ⟨s0, s1, s2, s3, s4, s5, s6, s7, s8⟩
  go_simp
  with_reducible rfl
 rotate_left
 ·simp only [Act.put, lA, lB, lC, i64_w, i32_w]
  rfl
 refine join_ (σ := Option Addr × Nat × Option Addr × Nat × Option Addr × Nat × Option Addr × Nat × List Value × Nat) 2 #[bT, bT, bT, bT, bT, bT, bT, bT, bF, bF] (fun s => [(61, .agg #[.slice s.1 q.slots.length s.2.1, .slice s.2.2.1 q.vols.length s.2.2.2.1]), (63, .tuple #[.agg #[.slice s.2.2.2.2.1 qq.slots.length s.2.2.2.2.2.1, .slice s.2.2.2.2.2.2.1 qq.vols.length s.2.2.2.2.2.2.2.1], .bool true]), (59, .tuple #[.agg #[.slice s.2.2.2.2.1 qq.slots.length s.2.2.2.2.2.1, .slice s.2.2.2.2.2.2.1 qq.vols.length s.2.2.2.2.2.2.2.1], .bool true]), (64, .agg #[.slice s.2.2.2.2.1 qq.slots.length s.2.2.2.2.2.1, .slice s.2.2.2.2.2.2.1 qq.vols.length s.2.2.2.2.2.2.2.1]), (65, .bool true), (9, .pointer (some ⟨s.2.2.2.2.2.2.2.2.2, 0, none⟩))]) (fun s w' => (w'.cell? ⟨bkl, 0, none⟩ = some (.slice Al l.base.slots.length al) ∧ w'.cell? ⟨bkl, 1, none⟩ = some (.slice Bl l.base.vols.length bl) ∧ w'.cell? ⟨bkl, 2, none⟩ = some (.slice Cl l.ops.length cl) ∧ w'.cell? ⟨bkl, 3, none⟩ = some (.int .i64 l.safe) ∧ w'.cell? ⟨bko, 0, none⟩ = some (.int .i64 o.kind) ∧ w'.cell? ⟨bko, 1, none⟩ = some (.string o.name) ∧ w'.cell? ⟨bko, 2, none⟩ = some (.string o.dest) ∧ w'.cell? ⟨bko, 3, none⟩ = some (.int .i64 o.n) ∧ w'.cell? ⟨bko, 4, none⟩ = some (.string o.text)) ∧ OwnP w' w9.drew.heap.size (.slice s.2.2.2.2.1 qq.slots.length s.2.2.2.2.2.1) (.slice s.2.2.2.2.2.2.1 qq.vols.length s.2.2.2.2.2.2.2.1) qq s.2.2.2.2.2.2.2.2.1 ∧ Blk w' s.2.2.2.2.2.2.2.2.2 #[.slice none 0 0, .slice none 0 0] 42 ∧ w9.drew.heap.size ≤ s.2.2.2.2.2.2.2.2.2 ∧ Bel w9.drew w') ?_ ?_
 rotate_left
 ·intro hCont
  refine two_ (i := 1) (j := 7) (Ni := some 61) (Nj := some 9) #[bT, bT, bT, bF, bF, bF, bF, bF, bF, bF] #[bT, bF, bT, bF, bF, bF, bF, bT, bF, bF] rfl rfl rfl rfl (by kernel_rfl) (by decide) (by decide) (fun K hK => ?_) (fun K hK => ?_)
  ·skip
   refine goes_ Tryz.func36 (by kernel_rfl) rfl #[.agg #[.slice Al l.base.slots.length al, .slice Bl l.base.vols.length bl, .slice Cl l.ops.length cl, .int .i64 l.safe]] (by rfl) rfl rfl (by simp only [List.map_toArray, List.map_cons, List.map_nil]; rfl) ?_
   with_reducible refine (implLogPool_n (Vl.out.bel D0.out).inn HSl.out HLP.out.poolE).mono ?_
   rintro e w1_ ⟨A6, B6, a6, b6, rfl, hpi, X1⟩
   have D1 := Lib.hid (Bel.tr D0.out X1)
   have P1 := Lib.hid hpi
   clear hpi
   refine ⟨_, rfl, ?_⟩
   refine hK.out _ _ ⟨(Vl.out.bel D1.out).c0, (Vl.out.bel D1.out).c1, (Vl.out.bel D1.out).c2, (Vl.out.bel D1.out).c3, (blkc (Ovo.out.bel D1.out) 0 _ rfl), (blkc (Ovo.out.bel D1.out) 1 _ rfl), (blkc (Ovo.out.bel D1.out) 2 _ rfl), (blkc (Ovo.out.bel D1.out) 3 _ rfl), (blkc (Ovo.out.bel D1.out) 4 _ rfl)⟩ (fun hHeld => ?_)
   clear hK K
   refine norm_ (a' := ?_) ?_ ?_
   rotate_left
   ·show Act.put _ (some 61) _ = _
    simp only [Act.put, lA, lB, lC, i64_w, i32_w]
    rfl
   refine two_ (i := 3) (j := 7) (Ni := some 63) (Nj := some 9) #[bT, bT, bT, bT, bF, bF, bF, bF, bF, bF] #[bT, bT, bT, bF, bF, bF, bF, bT, bF, bF] rfl rfl rfl rfl (by kernel_rfl) (by decide) (by decide) (fun K hK => ?_) (fun K hK => ?_)
   ·skip
    refine goes_ Tryz.func65 (by kernel_rfl) rfl #[.agg #[.slice A6 q.slots.length a6, .slice B6 q.vols.length b6], .agg #[.int .i64 o.kind, .string o.name, .string o.dest, .int .i64 o.n, .string o.text]] (by rfl) rfl rfl (by simp only [List.map_toArray, List.map_cons, List.map_nil]; rfl) ?_
    with_reducible refine (hdo.out _ _ _ _ _ P1.out).mono ?_
    rintro e w2_ ⟨vc, vd, bvc, rfl, hoo, X2⟩
    have D2 := Lib.hid (Bel.tr D1.out X2)
    obtain ⟨A7, B7, a7, b7, rfl, rfl, hpi⟩ := hoo.reads
    have Q2 : Hid (OwnP w2_ w9.drew.heap.size (.slice A7 qq.slots.length a7) (.slice B7 qq.vols.length b7) qq bvc) := Lib.hid (hoo.lower D1.out.size)
    clear hoo hpi
    refine ⟨_, rfl, ?_⟩
    refine hK.out _ _ ⟨(Vl.out.bel D2.out).c0, (Vl.out.bel D2.out).c1, (Vl.out.bel D2.out).c2, (Vl.out.bel D2.out).c3, (blkc (Ovo.out.bel D2.out) 0 _ rfl), (blkc (Ovo.out.bel D2.out) 1 _ rfl), (blkc (Ovo.out.bel D2.out) 2 _ rfl), (blkc (Ovo.out.bel D2.out) 3 _ rfl), (blkc (Ovo.out.bel D2.out) 4 _ rfl)⟩ (fun hHeld => ?_)
    clear hK K
    refine norm_ (a' := ?_) ?_ ?_
    rotate_left
    ·show Act.put _ (some 63) _ = _
     simp only [Act.put, lA, lB, lC, i64_w, i32_w]
     rfl
    refine pure_ (i := 4) (N := some 59) (v := ?_) (a' := ?_) #[bT, bT, bT, bT, bT, bF, bF, bF, bF, bF] rfl rfl (by kernel_rfl) (fun _ _ _ h => h) (Or.inl ⟨by rfl, ?_⟩) ?_ ?_
    rotate_left
    ·intro w'
     go_simp
     with_reducible rfl
    rotate_left
    ·simp only [Act.put, lA, lB, lC, i64_w, i32_w]
     rfl
    refine pure_ (i := 5) (N := some 64) (v := ?_) (a' := ?_) #[bT, bT, bT, bT, bT, bT, bF, bF, bF, bF] rfl rfl (by kernel_rfl) (fun _ _ _ h => h) (Or.inl ⟨by rfl, ?_⟩) ?_ ?_
    rotate_left
    ·intro w'
     go_simp
     with_reducible rfl
    rotate_left
    ·simp only [Act.put, lA, lB, lC, i64_w, i32_w]
     rfl
    refine pure_ (i := 6) (N := some 65) (v := ?_) (a' := ?_) #[bT, bT, bT, bT, bT, bT, bT, bF, bF, bF] rfl rfl (by kernel_rfl) (fun _ _ _ h => h) (Or.inl ⟨by rfl, ?_⟩) ?_ ?_
    rotate_left
    ·intro w'
     go_simp
     with_reducible rfl
    rotate_left
    ·simp only [Act.put, lA, lB, lC, i64_w, i32_w]
     rfl
    refine one_ (i := 7) (N := some 9) #[bT, bT, bT, bT, bT, bT, bT, bT, bF, bF] rfl rfl (by kernel_rfl) (by decide) (fun K hK => ?_)
    refine value_ (w1 := ?_) (v := ?_) (by rfl) rfl ?_ ?_
    rotate_left 2
    ·go_simp
     constructor
     ·rfl
     ·rfl
    have D3 : Hid (Bel w9.drew (w2_.alloc (.cells #[.slice none 0 0, .slice none 0 0] 42))) := Lib.hid (bel_alloc D2.out (.cells #[.slice none 0 0, .slice none 0 0] 42))
    have Q3 := Lib.hid (OwnP.bel Q2.out (bel_alloc (Below.refl _ _) (.cells #[.slice none 0 0, .slice none 0 0] 42)))
    have O3 : Hid (Blk (w2_.alloc (.cells #[.slice none 0 0, .slice none 0 0] 42)) w2_.heap.size #[.slice none 0 0, .slice none 0 0] 42) := Lib.hid (Blk.new w2_ _ _)
    have L3 := D2.out.size
    refine hK.out _ _ ⟨(Vl.out.bel D3.out).c0, (Vl.out.bel D3.out).c1, (Vl.out.bel D3.out).c2, (Vl.out.bel D3.out).c3, (blkc (Ovo.out.bel D3.out) 0 _ rfl), (blkc (Ovo.out.bel D3.out) 1 _ rfl), (blkc (Ovo.out.bel D3.out) 2 _ rfl), (blkc (Ovo.out.bel D3.out) 3 _ rfl), (blkc (Ovo.out.bel D3.out) 4 _ rfl)⟩ (fun hHeld => ?_)
    clear hK K
    refine norm_ (a' := ?_) ?_ ?_
    rotate_left
    ·show Act.put _ (some 9) _ = _
     simp only [Act.put, lA, lB, lC, i64_w, i32_w]
     rfl
    exact norm_ (by simp only [putAll, Act.put, lA, lB, lC]) (hCont (A6, a6, B6, b6, A7, a7, B7, b7, bvc, w2_.heap.size) _ ⟨hHeld, Q3.out, O3.out, L3, D3.out⟩)
   ·skip
    refine value_ (w1 := ?_) (v := ?_) (by rfl) rfl ?_ ?_
    rotate_left 2
    ·go_simp
     constructor
     ·rfl
     ·rfl
    have D2 : Hid (Bel w9.drew (w1_.alloc (.cells #[.slice none 0 0, .slice none 0 0] 42))) := Lib.hid (bel_alloc D1.out (.cells #[.slice none 0 0, .slice none 0 0] 42))
    have P2 := Lib.hid (PoolIn.bel P1.out (bel_alloc (Below.refl _ _) (.cells #[.slice none 0 0, .slice none 0 0] 42)))
    have O2 : Hid (Blk (w1_.alloc (.cells #[.slice none 0 0, .slice none 0 0] 42)) w1_.heap.size #[.slice none 0 0, .slice none 0 0] 42) := Lib.hid (Blk.new w1_ _ _)
    have L2 := D1.out.size
    refine hK.out _ _ ⟨(Vl.out.bel D2.out).c0, (Vl.out.bel D2.out).c1, (Vl.out.bel D2.out).c2, (Vl.out.bel D2.out).c3, (blkc (Ovo.out.bel D2.out) 0 _ rfl), (blkc (Ovo.out.bel D2.out) 1 _ rfl), (blkc (Ovo.out.bel D2.out) 2 _ rfl), (blkc (Ovo.out.bel D2.out) 3 _ rfl), (blkc (Ovo.out.bel D2.out) 4 _ rfl)⟩ (fun hHeld => ?_)
    clear hK K
    refine norm_ (a' := ?_) ?_ ?_
    rotate_left
    ·show Act.put _ (some 9) _ = _
     simp only [Act.put, lA, lB, lC, i64_w, i32_w]
     rfl
    refine one_ (i := 3) (N := some 63) #[bT, bT, bT, bT, bF, bF, bF, bT, bF, bF] rfl rfl (by kernel_rfl) (by decide) (fun K hK => ?_)
    refine goes_ Tryz.func65 (by kernel_rfl) rfl #[.agg #[.slice A6 q.slots.length a6, .slice B6 q.vols.length b6], .agg #[.int .i64 o.kind, .string o.name, .string o.dest, .int .i64 o.n, .string o.text]] (by rfl) rfl rfl (by simp only [List.map_toArray, List.map_cons, List.map_nil]; rfl) ?_
    with_reducible refine (hdo.out _ _ _ _ _ P2.out).mono ?_
    rintro e w3_ ⟨vc, vd, bvc, rfl, hoo, X3⟩
    have D3 := Lib.hid (Bel.tr D2.out X3)
    obtain ⟨A7, B7, a7, b7, rfl, rfl, hpi⟩ := hoo.reads
    have Q3 : Hid (OwnP w3_ w9.drew.heap.size (.slice A7 qq.slots.length a7) (.slice B7 qq.vols.length b7) qq bvc) := Lib.hid (hoo.lower D2.out.size)
    clear hoo hpi
    have O3 := Lib.hid (Blk.bel O2.out X3)
    refine ⟨_, rfl, ?_⟩
    refine hK.out _ _ ⟨(Vl.out.bel D3.out).c0, (Vl.out.bel D3.out).c1, (Vl.out.bel D3.out).c2, (Vl.out.bel D3.out).c3, (blkc (Ovo.out.bel D3.out) 0 _ rfl), (blkc (Ovo.out.bel D3.out) 1 _ rfl), (blkc (Ovo.out.bel D3.out) 2 _ rfl), (blkc (Ovo.out.bel D3.out) 3 _ rfl), (blkc (Ovo.out.bel D3.out) 4 _ rfl)⟩ (fun hHeld => ?_)
    clear hK K
    refine norm_ (a' := ?_) ?_ ?_
    rotate_left
    ·show Act.put _ (some 63) _ = _
     simp only [Act.put, lA, lB, lC, i64_w, i32_w]
     rfl
    refine pure_ (i := 4) (N := some 59) (v := ?_) (a' := ?_) #[bT, bT, bT, bT, bT, bF, bF, bT, bF, bF] rfl rfl (by kernel_rfl) (fun _ _ _ h => h) (Or.inl ⟨by rfl, ?_⟩) ?_ ?_
    rotate_left
    ·intro w'
     go_simp
     with_reducible rfl
    rotate_left
    ·simp only [Act.put, lA, lB, lC, i64_w, i32_w]
     rfl
    refine pure_ (i := 5) (N := some 64) (v := ?_) (a' := ?_) #[bT, bT, bT, bT, bT, bT, bF, bT, bF, bF] rfl rfl (by kernel_rfl) (fun _ _ _ h => h) (Or.inl ⟨by rfl, ?_⟩) ?_ ?_
    rotate_left
    ·intro w'
     go_simp
     with_reducible rfl
    rotate_left
    ·simp only [Act.put, lA, lB, lC, i64_w, i32_w]
     rfl
    refine pure_ (i := 6) (N := some 65) (v := ?_) (a' := ?_) #[bT, bT, bT, bT, bT, bT, bT, bT, bF, bF] rfl rfl (by kernel_rfl) (fun _ _ _ h => h) (Or.inl ⟨by rfl, ?_⟩) ?_ ?_
    rotate_left
    ·intro w'
     go_simp
     with_reducible rfl
    rotate_left
    ·simp only [Act.put, lA, lB, lC, i64_w, i32_w]
     rfl
    exact norm_ (by simp only [putAll, Act.put, lA, lB, lC]) (hCont (A6, a6, B6, b6, A7, a7, B7, b7, bvc, w1_.heap.size) _ ⟨hHeld, Q3.out, O3.out, L2, D3.out⟩)
  ·skip
   refine value_ (w1 := ?_) (v := ?_) (by rfl) rfl ?_ ?_
   rotate_left 2
   ·go_simp
    constructor
    ·rfl
    ·rfl
   have D1 : Hid (Bel w9.drew (w9.alloc (.cells #[.slice none 0 0, .slice none 0 0] 42)).drew) := Lib.hid (bel_alloc D0.out (.cells #[.slice none 0 0, .slice none 0 0] 42))
   have O1 : Hid (Blk (w9.alloc (.cells #[.slice none 0 0, .slice none 0 0] 42)).drew w9.drew.heap.size #[.slice none 0 0, .slice none 0 0] 42) := Lib.hid (Blk.new w9.drew _ _)
   have L1 := D0.out.size
   refine hK.out _ _ ⟨(Vl.out.bel D1.out).c0, (Vl.out.bel D1.out).c1, (Vl.out.bel D1.out).c2, (Vl.out.bel D1.out).c3, (blkc (Ovo.out.bel D1.out) 0 _ rfl), (blkc (Ovo.out.bel D1.out) 1 _ rfl), (blkc (Ovo.out.bel D1.out) 2 _ rfl), (blkc (Ovo.out.bel D1.out) 3 _ rfl), (blkc (Ovo.out.bel D1.out) 4 _ rfl)⟩ (fun hHeld => ?_)
   clear hK K
   refine norm_ (a' := ?_) ?_ ?_
   rotate_left
   ·show Act.put _ (some 9) _ = _
    simp only [Act.put, lA, lB, lC, i64_w, i32_w]
    rfl
   refine one_ (i := 1) (N := some 61) #[bT, bT, bT, bF, bF, bF, bF, bT, bF, bF] rfl rfl (by kernel_rfl) (by decide) (fun K hK => ?_)
   refine goes_ Tryz.func36 (by kernel_rfl) rfl #[.agg #[.slice Al l.base.slots.length al, .slice Bl l.base.vols.length bl, .slice Cl l.ops.length cl, .int .i64 l.safe]] (by rfl) rfl rfl (by simp only [List.map_toArray, List.map_cons, List.map_nil]; rfl) ?_
   with_reducible refine (implLogPool_n (Vl.out.bel D1.out).inn HSl.out HLP.out.poolE).mono ?_
   rintro e w2_ ⟨A6, B6, a6, b6, rfl, hpi, X2⟩
   have D2 := Lib.hid (Bel.tr D1.out X2)
   have P2 := Lib.hid hpi
   clear hpi
   have O2 := Lib.hid (Blk.bel O1.out X2)
   refine ⟨_, rfl, ?_⟩
   refine hK.out _ _ ⟨(Vl.out.bel D2.out).c0, (Vl.out.bel D2.out).c1, (Vl.out.bel D2.out).c2, (Vl.out.bel D2.out).c3, (blkc (Ovo.out.bel D2.out) 0 _ rfl), (blkc (Ovo.out.bel D2.out) 1 _ rfl), (blkc (Ovo.out.bel D2.out) 2 _ rfl), (blkc (Ovo.out.bel D2.out) 3 _ rfl), (blkc (Ovo.out.bel D2.out) 4 _ rfl)⟩ (fun hHeld => ?_)
   clear hK K
   refine norm_ (a' := ?_) ?_ ?_
   rotate_left
   ·show Act.put _ (some 61) _ = _
    simp only [Act.put, lA, lB, lC, i64_w, i32_w]
    rfl
   refine one_ (i := 3) (N := some 63) #[bT, bT, bT, bT, bF, bF, bF, bT, bF, bF] rfl rfl (by kernel_rfl) (by decide) (fun K hK => ?_)
   refine goes_ Tryz.func65 (by kernel_rfl) rfl #[.agg #[.slice A6 q.slots.length a6, .slice B6 q.vols.length b6], .agg #[.int .i64 o.kind, .string o.name, .string o.dest, .int .i64 o.n, .string o.text]] (by rfl) rfl rfl (by simp only [List.map_toArray, List.map_cons, List.map_nil]; rfl) ?_
   with_reducible refine (hdo.out _ _ _ _ _ P2.out).mono ?_
   rintro e w3_ ⟨vc, vd, bvc, rfl, hoo, X3⟩
   have D3 := Lib.hid (Bel.tr D2.out X3)
   obtain ⟨A7, B7, a7, b7, rfl, rfl, hpi⟩ := hoo.reads
   have Q3 : Hid (OwnP w3_ w9.drew.heap.size (.slice A7 qq.slots.length a7) (.slice B7 qq.vols.length b7) qq bvc) := Lib.hid (hoo.lower D2.out.size)
   clear hoo hpi
   have O3 := Lib.hid (Blk.bel O2.out X3)
   refine ⟨_, rfl, ?_⟩
   refine hK.out _ _ ⟨(Vl.out.bel D3.out).c0, (Vl.out.bel D3.out).c1, (Vl.out.bel D3.out).c2, (Vl.out.bel D3.out).c3, (blkc (Ovo.out.bel D3.out) 0 _ rfl), (blkc (Ovo.out.bel D3.out) 1 _ rfl), (blkc (Ovo.out.bel D3.out) 2 _ rfl), (blkc (Ovo.out.bel D3.out) 3 _ rfl), (blkc (Ovo.out.bel D3.out) 4 _ rfl)⟩ (fun hHeld => ?_)
   clear hK K
   refine norm_ (a' := ?_) ?_ ?_
   rotate_left
   ·show Act.put _ (some 63) _ = _
    simp only [Act.put, lA, lB, lC, i64_w, i32_w]
    rfl
   refine pure_ (i := 4) (N := some 59) (v := ?_) (a' := ?_) #[bT, bT, bT, bT, bT, bF, bF, bT, bF, bF] rfl rfl (by kernel_rfl) (fun _ _ _ h => h) (Or.inl ⟨by rfl, ?_⟩) ?_ ?_
   rotate_left
   ·intro w'
    go_simp
    with_reducible rfl
   rotate_left
   ·simp only [Act.put, lA, lB, lC, i64_w, i32_w]
    rfl
   refine pure_ (i := 5) (N := some 64) (v := ?_) (a' := ?_) #[bT, bT, bT, bT, bT, bT, bF, bT, bF, bF] rfl rfl (by kernel_rfl) (fun _ _ _ h => h) (Or.inl ⟨by rfl, ?_⟩) ?_ ?_
   rotate_left
   ·intro w'
    go_simp
    with_reducible rfl
   rotate_left
   ·simp only [Act.put, lA, lB, lC, i64_w, i32_w]
    rfl
   refine pure_ (i := 6) (N := some 65) (v := ?_) (a' := ?_) #[bT, bT, bT, bT, bT, bT, bT, bT, bF, bF] rfl rfl (by kernel_rfl) (fun _ _ _ h => h) (Or.inl ⟨by rfl, ?_⟩) ?_ ?_
   rotate_left
   ·intro w'
    go_simp
    with_reducible rfl
   rotate_left
   ·simp only [Act.put, lA, lB, lC, i64_w, i32_w]
    rfl
   exact norm_ (by simp only [putAll, Act.put, lA, lB, lC]) (hCont (A6, a6, B6, b6, A7, a7, B7, b7, bvc, w9.heap.size) _ ⟨hHeld, Q3.out, O3.out, L1, D3.out⟩)
 rintro ⟨A6, a6, B6, b6, A7, a7, B7, b7, bvc, nb⟩ w4_ ⟨hHeld, hQ, hO, hL, hD⟩
 dsimp only at hQ hO hL
 have r0 := hO.cell 0
 have r1 := hO.cell 1
 have f0 := hO.free 0
 have f1 := hO.free 1
 simp at r0 r1
 refine norm_ (a' := ?_) ?_ ?_
 rotate_left
 ·simp only [putAll, Act.put, lA, lB, lC]
  rfl
 refine last_ (i := 8) (N := none) #[bT, bT, bT, bT, bT, bT, bT, bT, bT, bF] rfl rfl (by kernel_rfl) (by decide) (fun K hK => ?_)
 refine skip_ (w1 := ?_) (by rfl) rfl ?_ ?_
 rotate_left
 ·go_simp
  rfl
 refine hK.out _ _ ?_
 clear hK K
 refine pure_ (i := 9) (N := some 10) (v := ?_) (a' := ?_) #[bT, bT, bT, bT, bT, bT, bT, bT, bT, bT] rfl rfl (by kernel_rfl) (fun _ _ _ h => h) (Or.inl ⟨by rfl, ?_⟩) ?_ ?_
 rotate_left
 ·intro w'
  go_simp
  with_reducible rfl
 rotate_left
 ·simp only [Act.put, lA, lB, lC, i64_w, i32_w]
  rfl
 refine done_ (by kernel_rfl) ?_
 have hO4 := hO.set 0 (.slice A7 qq.slots.length a7) (cs' := #[.slice A7 qq.slots.length a7, .slice none 0 0]) rfl
 have hO5 := hO4.set 1 (.slice B7 qq.vols.length b7) (cs' := #[.slice A7 qq.slots.length a7, .slice B7 qq.vols.length b7]) rfl
 have hQ5 := (hQ.far hO (by decide) (by decide) (by decide) 0 (.slice A7 qq.slots.length a7)).far hO4 (by decide) (by decide) (by decide) 1 (.slice B7 qq.vols.length b7)
 have hb : Bel w9.drew ((w4_.setCell ⟨nb, 0, none⟩ (.slice A7 qq.slots.length a7)).setCell ⟨nb, 1, none⟩ (.slice B7 qq.vols.length b7)) := bel_set (bel_set hD hL 0 (.slice A7 qq.slots.length a7)) hL 1 (.slice B7 qq.vols.length b7)
 clear hO hO4 hQ hL hD f0 f1 r0 r1 hHeld D0 hdo
 generalize ((w4_.setCell ⟨nb, 0, none⟩ (.slice A7 qq.slots.length a7)).setCell ⟨nb, 1, none⟩ (.slice B7 qq.vols.length b7)) = W10 at hO5 hQ5 hb ⊢
 have Pp : Hid (PVar W10 nb A7 B7 a7 b7 qq) := Lib.hid ⟨hO5, hQ5.inn⟩
 obtain ⟨bkp, hbn⟩ : ∃ b, nb = b := ⟨_, rfl⟩
 rw [hbn] at Pp ⊢
 replace Vl := Lib.hid (Vl.out.bel hb)
 replace Ovo := Lib.hid (Ovo.out.bel hb)
 replace Vwant := Lib.hid (Vwant.out.bel hb)
 replace Vx := Lib.hid (Vx.out.bel hb)
 replace KW := Lib.hid (KW.out.tr hb)
 clear hb hO5 hQ5 hbn
 obtain ⟨ad, hCx, a0, a1, a2, a3, a4⟩ := at_op (xs := no) Vx.out.inn.o HN1.out
 subst hCx
 clear a0 a1 a2 a3 a4
 have qp0 := Pp.out.c0
 have qp1 := Pp.out.c1
 have yp := Pp.out.lt
 have el0 := Vl.out.c0
 have el1 := Vl.out.c1
 have el2 := Vl.out.c2
 have el3 := Vl.out.c3
 have eyl := Vl.out.lt
 have ewant0 : W10.cell? ⟨bkwant, 0, none⟩ = some (.slice Awant l.base.slots.length awant) := Vwant.out.c0
 have ewant1 : W10.cell? ⟨bkwant, 1, none⟩ = some (.slice Bwant l.base.vols.length bwant) := Vwant.out.c1
 have ewant2 : W10.cell? ⟨bkwant, 2, none⟩ = some (.slice Cwant no.length cwant) := Vwant.out.c2
 have ewant3 : W10.cell? ⟨bkwant, 3, none⟩ = some (.int .i64 l.safe) := Vwant.out.c3
 have eywant := Vwant.out.lt
 have ex0 : W10.cell? ⟨bkx, 0, none⟩ = some (.slice Ax l.base.slots.length ax) := Vx.out.c0
 have ex1 : W10.cell? ⟨bkx, 1, none⟩ = some (.slice Bx l.base.vols.length bx) := Vx.out.c1
 have ex2 : W10.cell? ⟨bkx, 2, none⟩ = some (.slice (some ad) no.length cx) := Vx.out.c2
 have ex3 : W10.cell? ⟨bkx, 3, none⟩ = some (.int .i64 l.safe) := Vx.out.c3
 have eyx := Vx.out.lt
 have om0 : W10.cell? ⟨bko, 0, none⟩ = some (.int .i64 o.kind) := blkc Ovo.out 0 _ rfl
 have om1 : W10.cell? ⟨bko, 1, none⟩ = some (.string o.name) := blkc Ovo.out 1 _ rfl
 have om2 : W10.cell? ⟨bko, 2, none⟩ = some (.string o.dest) := blkc Ovo.out 2 _ rfl
 have om3 : W10.cell? ⟨bko, 3, none⟩ = some (.int .i64 o.n) := blkc Ovo.out 3 _ rfl
 have om4 : W10.cell? ⟨bko, 4, none⟩ = some (.string o.text) := blkc Ovo.out 4 _ rfl
 have omy := Ovo.out.lt
 go_wp2
 clear qp0 qp1 yp
 clear el0 el1 el2 el3 eyl
 clear ewant0 ewant1 ewant2 ewant3 eywant
 clear ex0 ex1 ex2 ex3 eyx
 clear om0 om1 om2 om3 om4 omy
 have hgl : no.length ≤ cx := Vx.out.inn.oc
 have hgn : l.ops.length ≤ cx := by have := HNL.out; omega
 have hgm : l.ops.length < no.length := by have := HNL.out; omega
 have hge : ((no.length : Int) == wrap64 ((l.ops.length : Int) + 1)) = true := by rw [beq_iff_eq, HNL.out]; unfold wrap64; omega
 have hkn : l.ops.length ≤ no.length := by omega
 have HEL := Lib.hid (fun (W : World) (h : LVar W bkx Ax Bx (some ad) ax bx cx ⟨l.base, no, l.safe⟩) => (show W.cell? (ad.add (l.ops.length * 5)) = some (.int .i64 o.kind) ∧ W.cell? ⟨(ad.add (l.ops.length * 5)).block, (ad.add (l.ops.length * 5)).off + 1, none⟩ = some (.string o.name) ∧ W.cell? ⟨(ad.add (l.ops.length * 5)).block, (ad.add (l.ops.length * 5)).off + 2, none⟩ = some (.string o.dest) ∧ W.cell? ⟨(ad.add (l.ops.length * 5)).block, (ad.add (l.ops.length * 5)).off + 3, none⟩ = some (.int .i64 o.n) ∧ W.cell? ⟨(ad.add (l.ops.length * 5)).block, (ad.add (l.ops.length * 5)).off + 4, none⟩ = some (.string o.text) from by
  obtain ⟨ad', e, hh⟩ := at_op (xs := no) h.inn.o HN1.out
  cases e
  exact hh))
 have hb : Bel W10 W10.drew := (Below.refl _ _).drew
 replace Vl := Lib.hid (Vl.out.bel hb)
 replace Ovo := Lib.hid (Ovo.out.bel hb)
 replace Vwant := Lib.hid (Vwant.out.bel hb)
 replace Vx := Lib.hid (Vx.out.bel hb)
 replace Pp := Lib.hid (Pp.out.bel hb)
 replace KW := Lib.hid (KW.out.tr hb)
 clear hb
 refine start_ (n := 45) (S := fun w' => w'.cell? ⟨bkp, 0, none⟩ = some (.slice A7 qq.slots.length a7) ∧ w'.cell? ⟨bkp, 1, none⟩ = some (.slice B7 qq.vols.length b7) ∧ w'.cell? ⟨bkx, 0, none⟩ = some (.slice Ax l.base.slots.length ax) ∧ w'.cell? ⟨bkx, 1, none⟩ = some (.slice Bx l.base.vols.length bx) ∧ w'.cell? ⟨bkx, 2, none⟩ = some (.slice (some ad) no.length cx) ∧ w'.cell? ⟨bkx, 3, none⟩ = some (.int .i64 l.safe) ∧ w'.cell? ⟨bkl, 0, none⟩ = some (.slice Al l.base.slots.length al) ∧ w'.cell? ⟨bkl, 1, none⟩ = some (.slice Bl l.base.vols.length bl) ∧ w'.cell? ⟨bkl, 2, none⟩ = some (.slice Cl l.ops.length cl) ∧ w'.cell? ⟨bkl, 3, none⟩ = some (.int .i64 l.safe) ∧ w'.cell? ⟨bko, 0, none⟩ = some (.int .i64 o.kind) ∧ w'.cell? ⟨bko, 1, none⟩ = some (.string o.name) ∧ w'.cell? ⟨bko, 2, none⟩ = some (.string o.dest) ∧ w'.cell? ⟨bko, 3, none⟩ = some (.int .i64 o.n) ∧ w'.cell? ⟨bko, 4, none⟩ = some (.string o.text) ∧ w'.cell? (ad.add (l.ops.length * 5)) = some (.int .i64 o.kind) ∧ w'.cell? ⟨(ad.add (l.ops.length * 5)).block, (ad.add (l.ops.length * 5)).off + 1, none⟩ = some (.string o.name) ∧ w'.cell? ⟨(ad.add (l.ops.length * 5)).block, (ad.add (l.ops.length * 5)).off + 2, none⟩ = some (.string o.dest) ∧ w'.cell? ⟨(ad.add (l.ops.length * 5)).block, (ad.add (l.ops.length * 5)).off + 3, none⟩ = some (.int .i64 o.n) ∧ w'.cell? ⟨(ad.add (l.ops.length * 5)).block, (ad.add (l.ops.length * 5)).off + 4, none⟩ = some (.string o.text)) (ds := []) #[bF, bF, bF, bF, bF, bF, bF, bF, bF, bF, bF, bF, bF, bF, bF, bF, bF, bF, bF, bF, bF, bF, bF, bF, bF, bF, bF, bF, bF, bF, bF, bF, bF, bF, bF, bF, bF, bF, bF, bF, bF, bF, bF, bF, bF] (by kernel_rfl) rfl rfl ⟨Pp.out.c0, Pp.out.c1, Vx.out.c0, Vx.out.c1, Vx.out.c2, Vx.out.c3, Vl.out.c0, Vl.out.c1, Vl.out.c2, Vl.out.c3, (blkc Ovo.out 0 _ rfl), (blkc Ovo.out 1 _ rfl), (blkc Ovo.out 2 _ rfl), (blkc Ovo.out 3 _ rfl), (blkc Ovo.out 4 _ rfl), (HEL.out _ Vx.out).1, (HEL.out _ Vx.out).2.1, (HEL.out _ Vx.out).2.2.1, (HEL.out _ Vx.out).2.2.2.1, (HEL.out _ Vx.out).2.2.2.2⟩ (fun hHeld => ?_)
 refine pure_ (i := 0) (N := some 82) (v := ?_) (a' := ?_) #[bT, bF, bF, bF, bF, bF, bF, bF, bF, bF, bF, bF, bF, bF, bF, bF, bF, bF, bF, bF, bF, bF, bF, bF, bF, bF, bF, bF, bF, bF, bF, bF, bF, bF, bF, bF, bF, bF, bF, bF, bF, bF, bF, bF, bF] rfl rfl (by kernel_rfl) (fun _ _ _ h => h) (Or.inl ⟨by rfl, ?_⟩) ?_ ?_
 rotate_left
 ·intro w'
  go_simp
  with_reducible rfl
 rotate_left
 ·simp only [Act.put, lA, lB, lC, i64_w, i32_w]
  rfl
 refine pure_ (i := 1) (N := some 83) (v := ?_) (a' := ?_) #[bT, bT, bF, bF, bF, bF, bF, bF, bF, bF, bF, bF, bF, bF, bF, bF, bF, bF, bF, bF, bF, bF, bF, bF, bF, bF, bF, bF, bF, bF, bF, bF, bF, bF, bF, bF, bF, bF, bF, bF, bF, bF, bF, bF, bF] rfl rfl (by kernel_rfl) (fun _ _ _ h => h) (Or.inl ⟨by rfl, ?_⟩) ?_ ?_
 rotate_left
 ·intro w'
  go_simp
  with_reducible rfl
 rotate_left
 ·simp only [Act.put, lA, lB, lC, i64_w, i32_w]
  rfl
 refine pure_ (i := 2) (N := some 84) (v := ?_) (a' := ?_) #[bT, bT, bT, bF, bF, bF, bF, bF, bF, bF, bF, bF, bF, bF, bF, bF, bF, bF, bF, bF, bF, bF, bF, bF, bF, bF, bF, bF, bF, bF, bF, bF, bF, bF, bF, bF, bF, bF, bF, bF, bF, bF, bF, bF, bF] rfl rfl (by kernel_rfl) (fun _ _ _ h => h) (Or.inl ⟨by rfl, ?_⟩) ?_ ?_
 rotate_left
 ·intro w'
  go_simp
  with_reducible rfl
 rotate_left
 ·simp only [Act.put, lA, lB, lC, i64_w, i32_w]
  rfl
 refine pure_ (i := 5) (N := some 87) (v := ?_) (a' := ?_) #[bT, bT, bT, bF, bF, bT, bF, bF, bF, bF, bF, bF, bF, bF, bF, bF, bF, bF, bF, bF, bF, bF, bF, bF, bF, bF, bF, bF, bF, bF, bF, bF, bF, bF, bF, bF, bF, bF, bF, bF, bF, bF, bF, bF, bF] rfl rfl (by kernel_rfl) (fun _ _ _ h => h) (Or.inl ⟨by rfl, ?_⟩) ?_ ?_
 rotate_left
 ·intro w'
  go_simp
  with_reducible rfl
 rotate_left
 ·simp only [Act.put, lA, lB, lC, i64_w, i32_w]
  rfl
 refine pure_ (i := 6) (N := some 88) (v := ?_) (a' := ?_) #[bT, bT, bT, bF, bF, bT, bT, bF, bF, bF, bF, bF, bF, bF, bF, bF, bF, bF, bF, bF, bF, bF, bF, bF, bF, bF, bF, bF, bF, bF, bF, bF, bF, bF, bF, bF, bF, bF, bF, bF, bF, bF, bF, bF, bF] rfl rfl (by kernel_rfl) (fun _ _ _ h => h) (Or.inl ⟨by rfl, ?_⟩) ?_ ?_
 rotate_left
 ·intro w'
  go_simp
  with_reducible rfl
 rotate_left
 ·simp only [Act.put, lA, lB, lC, i64_w, i32_w]
  rfl
 refine take_ (i := 3) (N := some 85) (v := ?_) (a' := ?_) #[bT, bT, bT, bT, bF, bT, bT, bF, bF, bF, bF, bF, bF, bF, bF, bF, bF, bF, bF, bF, bF, bF, bF, bF, bF, bF, bF, bF, bF, bF, bF, bF, bF, bF, bF, bF, bF, bF, bF, bF, bF, bF, bF, bF, bF] rfl rfl (by kernel_rfl) (fun _ _ _ h => h) (Or.inl ⟨by rfl, ?_⟩) hHeld ?_ ?_
 rotate_left
 ·rintro w' ⟨s0, s1, s2, s3, s4, s5, s6, s7, s8, s9, s10, s11, s12, s13, s14, s15, s16, s17, s18, s19⟩
  go_simp
  with_reducible rfl
 rotate_left
 ·simp only [Act.put, lA, lB, lC, i64_w, i32_w]
  rfl
 refine pure_ (i := 4) (N := some 86) (v := ?_) (a' := ?_) #[bT, bT, bT, bT, bT, bT, bT, bF, bF, bF, bF, bF, bF, bF, bF, bF, bF, bF, bF, bF, bF, bF, bF, bF, bF, bF, bF, bF, bF, bF, bF, bF, bF, bF, bF, bF, bF, bF, bF, bF, bF, bF, bF, bF, bF] rfl rfl (by kernel_rfl) (fun _ _ _ h => h) (Or.inl ⟨by rfl, ?_⟩) ?_ ?_
 rotate_left
 ·intro w'
  go_simp
  with_reducible rfl
 rotate_left
 ·simp only [Act.put, lA, lB, lC, i64_w, i32_w]
  rfl
 refine pure_ (i := 7) (N := some 89) (v := ?_) (a' := ?_) #[bT, bT, bT, bT, bT, bT, bT, bT, bF, bF, bF, bF, bF, bF, bF, bF, bF, bF, bF, bF, bF, bF, bF, bF, bF, bF, bF, bF, bF, bF, bF, bF, bF, bF, bF, bF, bF, bF, bF, bF, bF, bF, bF, bF, bF] rfl rfl (by kernel_rfl) (fun _ _ _ h => h) (Or.inl ⟨by rfl, ?_⟩) ?_ ?_
 rotate_left
 ·intro w'
  go_simp
  with_reducible rfl
 rotate_left
 ·simp only [Act.put, lA, lB, lC, i64_w, i32_w]
  rfl
 refine pure_ (i := 8) (N := some 90) (v := ?_) (a' := ?_) #[bT, bT, bT, bT, bT, bT, bT, bT, bT, bF, bF, bF, bF, bF, bF, bF, bF, bF, bF, bF, bF, bF, bF, bF, bF, bF, bF, bF, bF, bF, bF, bF, bF, bF, bF, bF, bF, bF, bF, bF, bF, bF, bF, bF, bF] rfl rfl (by kernel_rfl) (fun _ _ _ h => h) (Or.inl ⟨by rfl, ?_⟩) ?_ ?_
 rotate_left
 ·intro w'
  go_simp
  with_reducible rfl
 rotate_left
 ·simp only [Act.put, lA, lB, lC, i64_w, i32_w]
  rfl
 refine pure_ (i := 9) (N := some 91) (v := ?_) (a' := ?_) #[bT, bT, bT, bT, bT, bT, bT, bT, bT, bT, bF, bF, bF, bF, bF, bF, bF, bF, bF, bF, bF, bF, bF, bF, bF, bF, bF, bF, bF, bF, bF, bF, bF, bF, bF, bF, bF, bF, bF, bF, bF, bF, bF, bF, bF] rfl rfl (by kernel_rfl) (fun _ _ _ h => h) (Or.inl ⟨by rfl, ?_⟩) ?_ ?_
 rotate_left
 ·intro w'
  go_simp
  with_reducible rfl
 rotate_left
 ·simp only [Act.put, lA, lB, lC, i64_w, i32_w]
  rfl
 refine pure_ (i := 10) (N := some 92) (v := ?_) (a' := ?_) #[bT, bT, bT, bT, bT, bT, bT, bT, bT, bT, bT, bF, bF, bF, bF, bF, bF, bF, bF, bF, bF, bF, bF, bF, bF, bF, bF, bF, bF, bF, bF, bF, bF, bF, bF, bF, bF, bF, bF, bF, bF, bF, bF, bF, bF] rfl rfl (by kernel_rfl) (fun _ _ _ h => h) (Or.inl ⟨by rfl, ?_⟩) ?_ ?_
 rotate_left
 ·intro w'
  go_simp
  with_reducible rfl
 rotate_left
 ·simp only [Act.put, lA, lB, lC, i64_w, i32_w]
  rfl
 refine pure_ (i := 12) (N := some 94) (v := ?_) (a' := ?_) #[bT, bT, bT, bT, bT, bT, bT, bT, bT, bT, bT, bF, bT, bF, bF, bF, bF, bF, bF, bF, bF, bF, bF, bF, bF, bF, bF, bF, bF, bF, bF, bF, bF, bF, bF, bF, bF, bF, bF, bF, bF, bF, bF, bF, bF] rfl rfl (by kernel_rfl) (fun _ _ _ h => h) (Or.inl ⟨by rfl, ?_⟩) ?_ ?_
 rotate_left
 ·intro w'
  go_simp
  with_reducible rfl
 rotate_left
 ·simp only [Act.put, lA, lB, lC, i64_w, i32_w]
  rfl
 refine take_ (i := 11) (N := some 93) (v := ?_) (a' := ?_) #[bT, bT, bT, bT, bT, bT, bT, bT, bT, bT, bT, bT, bT, bF, bF, bF, bF, bF, bF, bF, bF, bF, bF, bF, bF, bF, bF, bF, bF, bF, bF, bF, bF, bF, bF, bF, bF, bF, bF, bF, bF, bF, bF, bF, bF] rfl rfl (by kernel_rfl) (fun _ _ _ h => h) (Or.inl ⟨by rfl, ?_⟩) hHeld ?_ ?_
 rotate_left
 ·rintro w' ⟨s0, s1, s2, s3, s4, s5, s6, s7, s8, s9, s10, s11, s12, s13, s14, s15, s16, s17, s18, s19⟩
  go_simp
  with_reducible rfl
 rotate_left
 ·simp only [Act.put, lA, lB, lC, i64_w, i32_w]
  rfl
 refine pure_ (i := 13) (N := some 95) (v := ?_) (a' := ?_) #[bT, bT, bT, bT, bT, bT, bT, bT, bT, bT, bT, bT, bT, bT, bF, bF, bF, bF, bF, bF, bF, bF, bF, bF, bF, bF, bF, bF, bF, bF, bF, bF, bF, bF, bF, bF, bF, bF, bF, bF, bF, bF, bF, bF, bF] rfl rfl (by kernel_rfl) (fun _ _ _ h => h) (Or.inl ⟨by rfl, ?_⟩) ?_ ?_
 rotate_left
 ·intro w'
  go_simp
  with_reducible rfl
 rotate_left
 ·simp only [Act.put, lA, lB, lC, i64_w, i32_w]
  rfl
 refine take_ (i := 14) (N := some 96) (v := ?_) (a' := ?_) #[bT, bT, bT, bT, bT, bT, bT, bT, bT, bT, bT, bT, bT, bT, bT, bF, bF, bF, bF, bF, bF, bF, bF, bF, bF, bF, bF, bF, bF, bF, bF, bF, bF, bF, bF, bF, bF, bF, bF, bF, bF, bF, bF, bF, bF] rfl rfl (by kernel_rfl) (fun _ _ _ h => h) (Or.inl ⟨by rfl, ?_⟩) hHeld ?_ ?_
 rotate_left
 ·rintro w' ⟨s0, s1, s2, s3, s4, s5, s6, s7, s8, s9, s10, s11, s12, s13, s14, s15, s16, s17, s18, s19⟩
  go_simp
  with_reducible rfl
 rotate_left
 ·simp only [Act.put, lA, lB, lC, i64_w, i32_w]
  rfl
 refine take_ (i := 15) (N := some 97) (v := ?_) (a' := ?_) #[bT, bT, bT, bT, bT, bT, bT, bT, bT, bT, bT, bT, bT, bT, bT, bT, bF, bF, bF, bF, bF, bF, bF, bF, bF, bF, bF, bF, bF, bF, bF, bF, bF, bF, bF, bF, bF, bF, bF, bF, bF, bF, bF, bF, bF] rfl rfl (by kernel_rfl) (fun _ _ _ h => h) (Or.inl ⟨by rfl, ?_⟩) hHeld ?_ ?_
 rotate_left
 ·rintro w' ⟨s0, s1, s2, s3, s4, s5, s6, s7, s8, s9, s10, s11, s12, s13, s14, s15, s16, s17, s18, s19⟩
  go_simp
  with_reducible rfl
 rotate_left
 ·simp only [Act.put, lA, lB, lC, i64_w, i32_w]
  rfl
 refine pure_ (i := 16) (N := some 98) (v := ?_) (a' := ?_) #[bT, bT, bT, bT, bT, bT, bT, bT, bT, bT, bT, bT, bT, bT, bT, bT, bT, bF, bF, bF, bF, bF, bF, bF, bF, bF, bF, bF, bF, bF, bF, bF, bF, bF, bF, bF, bF, bF, bF, bF, bF, bF, bF, bF, bF] rfl rfl (by kernel_rfl) (fun _ _ _ h => h) (Or.inl ⟨by rfl, ?_⟩) ?_ ?_
 rotate_left
 ·intro w'
  go_simp
  with_reducible rfl
 rotate_left
 ·simp only [Act.put, lA, lB, lC, i64_w, i32_w]
  rfl
 refine pure_ (i := 17) (N := some 99) (v := ?_) (a' := ?_) #[bT, bT, bT, bT, bT, bT, bT, bT, bT, bT, bT, bT, bT, bT, bT, bT, bT, bT, bF, bF, bF, bF, bF, bF, bF, bF, bF, bF, bF, bF, bF, bF, bF, bF, bF, bF, bF, bF, bF, bF, bF, bF, bF, bF, bF] rfl rfl (by kernel_rfl) (fun _ _ _ h => h) (Or.inl ⟨by rfl, ?_⟩) ?_ ?_
 rotate_left
 ·intro w'
  go_simp
  with_reducible rfl
 rotate_left
 ·simp only [Act.put, lA, lB, lC, i64_w, i32_w]
  rfl
 refine pure_ (i := 18) (N := some 100) (v := ?_) (a' := ?_) #[bT, bT, bT, bT, bT, bT, bT, bT, bT, bT, bT, bT, bT, bT, bT, bT, bT, bT, bT, bF, bF, bF, bF, bF, bF, bF, bF, bF, bF, bF, bF, bF, bF, bF, bF, bF, bF, bF, bF, bF, bF, bF, bF, bF, bF] rfl rfl (by kernel_rfl) (fun _ _ _ h => h) (Or.inl ⟨by rfl, ?_⟩) ?_ ?_
 rotate_left
 ·intro w'
  go_simp
  with_reducible rfl
 rotate_left
 ·simp only [Act.put, lA, lB, lC, i64_w, i32_w]
  rfl
 refine pure_ (i := 19) (N := some 101) (v := ?_) (a' := ?_) #[bT, bT, bT, bT, bT, bT, bT, bT, bT, bT, bT, bT, bT, bT, bT, bT, bT, bT, bT, bT, bF, bF, bF, bF, bF, bF, bF, bF, bF, bF, bF, bF, bF, bF, bF, bF, bF, bF, bF, bF, bF, bF, bF, bF, bF] rfl rfl (by kernel_rfl) (fun _ _ _ h => h) (Or.inl ⟨by rfl, ?_⟩) ?_ ?_
 rotate_left
 ·intro w'
  go_simp
  with_reducible rfl
 rotate_left
 ·simp only [Act.put, lA, lB, lC, i64_w, i32_w]
  rfl
 refine pure_ (i := 21) (N := some 103) (v := ?_) (a' := ?_) #[bT, bT, bT, bT, bT, bT, bT, bT, bT, bT, bT, bT, bT, bT, bT, bT, bT, bT, bT, bT, bF, bT, bF, bF, bF, bF, bF, bF, bF, bF, bF, bF, bF, bF, bF, bF, bF, bF, bF, bF, bF, bF, bF, bF, bF] rfl rfl (by kernel_rfl) (fun _ _ _ h => h) (Or.inl ⟨by rfl, ?_⟩) ?_ ?_
 rotate_left
 ·intro w'
  go_simp
  with_reducible rfl
 rotate_left
 ·simp only [Act.put, lA, lB, lC, i64_w, i32_w]
  rfl
 refine pure_ (i := 23) (N := some 105) (v := ?_) (a' := ?_) #[bT, bT, bT, bT, bT, bT, bT, bT, bT, bT, bT, bT, bT, bT, bT, bT, bT, bT, bT, bT, bF, bT, bF, bT, bF, bF, bF, bF, bF, bF, bF, bF, bF, bF, bF, bF, bF, bF, bF, bF, bF, bF, bF, bF, bF] rfl rfl (by kernel_rfl) (fun _ _ _ h => h) (Or.inl ⟨by rfl, ?_⟩) ?_ ?_
 rotate_left
 ·intro w'
  go_simp
  with_reducible rfl
 rotate_left
 ·simp only [Act.put, lA, lB, lC, i64_w, i32_w]
  rfl
 refine take_ (i := 20) (N := some 102) (v := ?_) (a' := ?_) #[bT, bT, bT, bT, bT, bT, bT, bT, bT, bT, bT, bT, bT, bT, bT, bT, bT, bT, bT, bT, bT, bT, bF, bT, bF, bF, bF, bF, bF, bF, bF, bF, bF, bF, bF, bF, bF, bF, bF, bF, bF, bF, bF, bF, bF] rfl rfl (by kernel_rfl) (fun _ _ _ h => h) (Or.inl ⟨by rfl, ?_⟩) hHeld ?_ ?_
 rotate_left
 ·rintro w' ⟨s0, s1, s2, s3, s4, s5, s6, s7, s8, s9, s10, s11, s12, s13, s14, s15, s16, s17, s18, s19⟩
  go_simp
  with_reducible rfl
 rotate_left
 ·simp only [Act.put, lA, lB, lC, i64_w, i32_w]
  rfl
 refine pure_ (i := 22) (N := some 104) (v := ?_) (a' := ?_) #[bT, bT, bT, bT, bT, bT, bT, bT, bT, bT, bT, bT, bT, bT, bT, bT, bT, bT, bT, bT, bT, bT, bT, bT, bF, bF, bF, bF, bF, bF, bF, bF, bF, bF, bF, bF, bF, bF, bF, bF, bF, bF, bF, bF, bF] rfl rfl (by kernel_rfl) (fun _ _ _ h => h) (Or.inl ⟨by rfl, ?_⟩) ?_ ?_
 rotate_left
 ·intro w'
  go_simp
  with_reducible rfl
 rotate_left
 ·simp only [Act.put, lA, lB, lC, i64_w, i32_w]
  rfl
 refine take_ (i := 24) (N := some 106) (v := ?_) (a' := ?_) #[bT, bT, bT, bT, bT, bT, bT, bT, bT, bT, bT, bT, bT, bT, bT, bT, bT, bT, bT, bT, bT, bT, bT, bT, bT, bF, bF, bF, bF, bF, bF, bF, bF, bF, bF, bF, bF, bF, bF, bF, bF, bF, bF, bF, bF] rfl rfl (by kernel_rfl) (fun _ _ _ h => h) (Or.inl ⟨by rfl, ?_⟩) hHeld ?_ ?_
 rotate_left
 ·rintro w' ⟨s0, s1, s2, s3, s4, s5, s6, s7, s8, s9, s10, s11, s12, s13, s14, s15, s16, s17, s18, s19⟩
  go_simp
  with_reducible rfl
 rotate_left
 ·simp only [Act.put, lA, lB, lC, i64_w, i32_w]
  rfl
 refine one_ (i := 25) (N := some 107) #[bT, bT, bT, bT, bT, bT, bT, bT, bT, bT, bT, bT, bT, bT, bT, bT, bT, bT, bT, bT, bT, bT, bT, bT, bT, bT, bF, bF, bF, bF, bF, bF, bF, bF, bF, bF, bF, bF, bF, bF, bF, bF, bF, bF, bF] rfl rfl (by kernel_rfl) (by decide) (fun K hK => ?_)
 refine goes_ Tryz.func27 (by kernel_rfl) rfl #[.slice (some ad) l.ops.length cx, .slice Cl l.ops.length cl] (by rfl) rfl rfl (by simp only [List.map_toArray, List.map_cons, List.map_nil]; rfl) ?_
 with_reducible refine (lgOps_c (xs := l.ops) (Vx.out.inn.cutTo (k := l.ops.length) hkn HN2.out 0).o Vl.out.inn.o HSl.out.ops.len).mono ?_
 rintro e w11 ⟨rfl, hb⟩
 replace Vl := Lib.hid (Vl.out.bel hb)
 replace Ovo := Lib.hid (Ovo.out.bel hb)
 replace Vwant := Lib.hid (Vwant.out.bel hb)
 replace Vx := Lib.hid (Vx.out.bel hb)
 replace Pp := Lib.hid (Pp.out.bel hb)
 replace KW := Lib.hid (KW.out.tr hb)
 clear hb
 refine ⟨_, rfl, ?_⟩
 refine hK.out _ _ ⟨Pp.out.c0, Pp.out.c1, Vx.out.c0, Vx.out.c1, Vx.out.c2, Vx.out.c3, Vl.out.c0, Vl.out.c1, Vl.out.c2, Vl.out.c3, (blkc Ovo.out 0 _ rfl), (blkc Ovo.out 1 _ rfl), (blkc Ovo.out 2 _ rfl), (blkc Ovo.out 3 _ rfl), (blkc Ovo.out 4 _ rfl), (HEL.out _ Vx.out).1, (HEL.out _ Vx.out).2.1, (HEL.out _ Vx.out).2.2.1, (HEL.out _ Vx.out).2.2.2.1, (HEL.out _ Vx.out).2.2.2.2⟩ (fun hHeld => ?_)
 clear hK K
 refine norm_ (a' := ?_) ?_ ?_
 rotate_left
 ·show Act.put _ (some 107) _ = _
  simp only [Act.put, lA, lB, lC, i64_w, i32_w]
  rfl
 refine pure_ (i := 26) (N := some 108) (v := ?_) (a' := ?_) #[bT, bT, bT, bT, bT, bT, bT, bT, bT, bT, bT, bT, bT, bT, bT, bT, bT, bT, bT, bT, bT, bT, bT, bT, bT, bT, bT, bF, bF, bF, bF, bF, bF, bF, bF, bF, bF, bF, bF, bF, bF, bF, bF, bF, bF] rfl rfl (by kernel_rfl) (fun _ _ _ h => h) (Or.inl ⟨by rfl, ?_⟩) ?_ ?_
 rotate_left
 ·intro w'
  go_simp
  with_reducible rfl
 rotate_left
 ·simp only [Act.put, lA, lB, lC, i64_w, i32_w]
  rfl
 refine pure_ (i := 27) (N := some 109) (v := ?_) (a' := ?_) #[bT, bT, bT, bT, bT, bT, bT, bT, bT, bT, bT, bT, bT, bT, bT, bT, bT, bT, bT, bT, bT, bT, bT, bT, bT, bT, bT, bT, bF, bF, bF, bF, bF, bF, bF, bF, bF, bF, bF, bF, bF, bF, bF, bF, bF] rfl rfl (by kernel_rfl) (fun _ _ _ h => h) (Or.inl ⟨by rfl, ?_⟩) ?_ ?_
 rotate_left
 ·intro w'
  go_simp
  with_reducible rfl
 rotate_left
 ·simp only [Act.put, lA, lB, lC, i64_w, i32_w]
  rfl
 refine pure_ (i := 28) (N := some 110) (v := ?_) (a' := ?_) #[bT, bT, bT, bT, bT, bT, bT, bT, bT, bT, bT, bT, bT, bT, bT, bT, bT, bT, bT, bT, bT, bT, bT, bT, bT, bT, bT, bT, bT, bF, bF, bF, bF, bF, bF, bF, bF, bF, bF, bF, bF, bF, bF, bF, bF] rfl rfl (by kernel_rfl) (fun _ _ _ h => h) (Or.inl ⟨by rfl, ?_⟩) ?_ ?_
 rotate_left
 ·intro w'
  go_simp
  with_reducible rfl
 rotate_left
 ·simp only [Act.put, lA, lB, lC, i64_w, i32_w]
  rfl
 refine pure_ (i := 30) (N := some 112) (v := ?_) (a' := ?_) #[bT, bT, bT, bT, bT, bT, bT, bT, bT, bT, bT, bT, bT, bT, bT, bT, bT, bT, bT, bT, bT, bT, bT, bT, bT, bT, bT, bT, bT, bF, bT, bF, bF, bF, bF, bF, bF, bF, bF, bF, bF, bF, bF, bF, bF] rfl rfl (by kernel_rfl) (fun _ _ _ h => h) (Or.inl ⟨by rfl, ?_⟩) ?_ ?_
 rotate_left
 ·intro w'
  go_simp
  with_reducible rfl
 rotate_left
 ·simp only [Act.put, lA, lB, lC, i64_w, i32_w]
  rfl
 refine take_ (i := 29) (N := some 111) (v := ?_) (a' := ?_) #[bT, bT, bT, bT, bT, bT, bT, bT, bT, bT, bT, bT, bT, bT, bT, bT, bT, bT, bT, bT, bT, bT, bT, bT, bT, bT, bT, bT, bT, bT, bT, bF, bF, bF, bF, bF, bF, bF, bF, bF, bF, bF, bF, bF, bF] rfl rfl (by kernel_rfl) (fun _ _ _ h => h) (Or.inl ⟨by rfl, ?_⟩) hHeld ?_ ?_
 rotate_left
 ·rintro w' ⟨s0, s1, s2, s3, s4, s5, s6, s7, s8, s9, s10, s11, s12, s13, s14, s15, s16, s17, s18, s19⟩
  go_simp
  with_reducible rfl
 rotate_left
 ·simp only [Act.put, lA, lB, lC, i64_w, i32_w]
  rfl
 refine take_ (i := 31) (N := some 113) (v := ?_) (a' := ?_) #[bT, bT, bT, bT, bT, bT, bT, bT, bT, bT, bT, bT, bT, bT, bT, bT, bT, bT, bT, bT, bT, bT, bT, bT, bT, bT, bT, bT, bT, bT, bT, bT, bF, bF, bF, bF, bF, bF, bF, bF, bF, bF, bF, bF, bF] rfl rfl (by kernel_rfl) (fun _ _ _ h => h) (Or.inl ⟨by rfl, ?_⟩) hHeld ?_ ?_
 rotate_left
 ·rintro w' ⟨s0, s1, s2, s3, s4, s5, s6, s7, s8, s9, s10, s11, s12, s13, s14, s15, s16, s17, s18, s19⟩
  go_simp
  with_reducible rfl
 rotate_left
 ·simp only [Act.put, lA, lB, lC, i64_w, i32_w]
  rfl
 refine pure_ (i := 32) (N := some 114) (v := ?_) (a' := ?_) #[bT, bT, bT, bT, bT, bT, bT, bT, bT, bT, bT, bT, bT, bT, bT, bT, bT, bT, bT, bT, bT, bT, bT, bT, bT, bT, bT, bT, bT, bT, bT, bT, bT, bF, bF, bF, bF, bF, bF, bF, bF, bF, bF, bF, bF] rfl rfl (by kernel_rfl) (fun _ _ _ h => h) (Or.inl ⟨by rfl, ?_⟩) ?_ ?_
 rotate_left
 ·intro w'
  go_simp
  with_reducible rfl
 rotate_left
 ·simp only [Act.put, lA, lB, lC, i64_w, i32_w]
  rfl
 refine pure_ (i := 33) (N := some 115) (v := ?_) (a' := ?_) #[bT, bT, bT, bT, bT, bT, bT, bT, bT, bT, bT, bT, bT, bT, bT, bT, bT, bT, bT, bT, bT, bT, bT, bT, bT, bT, bT, bT, bT, bT, bT, bT, bT, bT, bF, bF, bF, bF, bF, bF, bF, bF, bF, bF, bF] rfl rfl (by kernel_rfl) (fun _ _ _ h => h) (Or.inl ⟨by rfl, ?_⟩) ?_ ?_
 rotate_left
 ·intro w'
  go_simp
  with_reducible rfl
 rotate_left
 ·simp only [Act.put, lA, lB, lC, i64_w, i32_w]
  rfl
 refine pure_ (i := 34) (N := some 116) (v := ?_) (a' := ?_) #[bT, bT, bT, bT, bT, bT, bT, bT, bT, bT, bT, bT, bT, bT, bT, bT, bT, bT, bT, bT, bT, bT, bT, bT, bT, bT, bT, bT, bT, bT, bT, bT, bT, bT, bT, bF, bF, bF, bF, bF, bF, bF, bF, bF, bF] rfl rfl (by kernel_rfl) (fun _ _ _ h => h) (Or.inl ⟨by rfl, ?_⟩) ?_ ?_
 rotate_left
 ·intro w'
  go_simp
  with_reducible rfl
 rotate_left
 ·simp only [Act.put, lA, lB, lC, i64_w, i32_w]
  rfl
 refine take_ (i := 35) (N := some 117) (v := ?_) (a' := ?_) #[bT, bT, bT, bT, bT, bT, bT, bT, bT, bT, bT, bT, bT, bT, bT, bT, bT, bT, bT, bT, bT, bT, bT, bT, bT, bT, bT, bT, bT, bT, bT, bT, bT, bT, bT, bT, bF, bF, bF, bF, bF, bF, bF, bF, bF] rfl rfl (by kernel_rfl) (fun _ _ _ h => h) (Or.inl ⟨by rfl, ?_⟩) hHeld ?_ ?_
 rotate_left
 ·rintro w' ⟨s0, s1, s2, s3, s4, s5, s6, s7, s8, s9, s10, s11, s12, s13, s14, s15, s16, s17, s18, s19⟩
  go_simp
  with_reducible rfl
 rotate_left
 ·simp only [Act.put, lA, lB, lC, i64_w, i32_w]
  rfl
 refine take_ (i := 37) (N := some 119) (v := ?_) (a' := ?_) #[bT, bT, bT, bT, bT, bT, bT, bT, bT, bT, bT, bT, bT, bT, bT, bT, bT, bT, bT, bT, bT, bT, bT, bT, bT, bT, bT, bT, bT, bT, bT, bT, bT, bT, bT, bT, bF, bT, bF, bF, bF, bF, bF, bF, bF] rfl rfl (by kernel_rfl) (fun _ _ _ h => h) (Or.inl ⟨by rfl, ?_⟩) hHeld ?_ ?_
 rotate_left
 ·rintro w' ⟨s0, s1, s2, s3, s4, s5, s6, s7, s8, s9, s10, s11, s12, s13, s14, s15, s16, s17, s18, s19⟩
  go_simp
  with_reducible rfl
 rotate_left
 ·simp only [Act.put, lA, lB, lC, i64_w, i32_w]
  rfl
 refine one_ (i := 36) (N := some 118) #[bT, bT, bT, bT, bT, bT, bT, bT, bT, bT, bT, bT, bT, bT, bT, bT, bT, bT, bT, bT, bT, bT, bT, bT, bT, bT, bT, bT, bT, bT, bT, bT, bT, bT, bT, bT, bT, bT, bF, bF, bF, bF, bF, bF, bF] rfl rfl (by kernel_rfl) (by decide) (fun K hK => ?_)
 refine goes_ Tryz.func36 (by kernel_rfl) rfl #[.agg #[.slice Ax l.base.slots.length ax, .slice Bx l.base.vols.length bx, .slice (some ad) no.length cx, .int .i64 l.safe]] (by rfl) rfl rfl (by simp only [List.map_toArray, List.map_cons, List.map_nil]; rfl) ?_
 with_reducible refine (implLogPool_n (l := ⟨l.base, no, l.safe⟩) Vx.out.inn HSx.out HLX.out.poolE).mono ?_
 rintro e w12 ⟨Au, Bu, cu, du, rfl, hin, hb⟩
 replace Vl := Lib.hid (Vl.out.bel hb)
 replace Ovo := Lib.hid (Ovo.out.bel hb)
 replace Vwant := Lib.hid (Vwant.out.bel hb)
 replace Vx := Lib.hid (Vx.out.bel hb)
 replace Pp := Lib.hid (Pp.out.bel hb)
 replace KW := Lib.hid (KW.out.tr hb)
 have Iu := Lib.hid hin
 clear hin hb
 refine ⟨_, rfl, ?_⟩
 refine hK.out _ _ ⟨Pp.out.c0, Pp.out.c1, Vx.out.c0, Vx.out.c1, Vx.out.c2, Vx.out.c3, Vl.out.c0, Vl.out.c1, Vl.out.c2, Vl.out.c3, (blkc Ovo.out 0 _ rfl), (blkc Ovo.out 1 _ rfl), (blkc Ovo.out 2 _ rfl), (blkc Ovo.out 3 _ rfl), (blkc Ovo.out 4 _ rfl), (HEL.out _ Vx.out).1, (HEL.out _ Vx.out).2.1, (HEL.out _ Vx.out).2.2.1, (HEL.out _ Vx.out).2.2.2.1, (HEL.out _ Vx.out).2.2.2.2⟩ (fun hHeld => ?_)
 clear hK K
 refine norm_ (a' := ?_) ?_ ?_
 rotate_left
 ·show Act.put _ (some 118) _ = _
  simp only [Act.put, lA, lB, lC, i64_w, i32_w]
  rfl
 refine one_ (i := 38) (N := some 120) #[bT, bT, bT, bT, bT, bT, bT, bT, bT, bT, bT, bT, bT, bT, bT, bT, bT, bT, bT, bT, bT, bT, bT, bT, bT, bT, bT, bT, bT, bT, bT, bT, bT, bT, bT, bT, bT, bT, bT, bF, bF, bF, bF, bF, bF] rfl rfl (by kernel_rfl) (by decide) (fun K hK => ?_)
 refine goes_ Tryz.func35 (by kernel_rfl) rfl #[.agg #[.slice Au qq.slots.length cu, .slice Bu qq.vols.length du], .agg #[.slice A7 qq.slots.length a7, .slice B7 qq.vols.length b7]] (by rfl) rfl rfl (by simp only [List.map_toArray, List.map_cons, List.map_nil]; rfl) ?_
 with_reducible refine (lgPool_c Iu.out Pp.out.inn HSr.out).mono ?_
 rintro e w13 ⟨rfl, hb⟩
 replace Vl := Lib.hid (Vl.out.bel hb)
 replace Ovo := Lib.hid (Ovo.out.bel hb)
 replace Vwant := Lib.hid (Vwant.out.bel hb)
 replace Vx := Lib.hid (Vx.out.bel hb)
 replace Pp := Lib.hid (Pp.out.bel hb)
 replace Iu := Lib.hid (Iu.out.bel hb)
 replace KW := Lib.hid (KW.out.tr hb)
 clear hb
 refine ⟨_, rfl, ?_⟩
 refine hK.out _ _ ⟨Pp.out.c0, Pp.out.c1, Vx.out.c0, Vx.out.c1, Vx.out.c2, Vx.out.c3, Vl.out.c0, Vl.out.c1, Vl.out.c2, Vl.out.c3, (blkc Ovo.out 0 _ rfl), (blkc Ovo.out 1 _ rfl), (blkc Ovo.out 2 _ rfl), (blkc Ovo.out 3 _ rfl), (blkc Ovo.out 4 _ rfl), (HEL.out _ Vx.out).1, (HEL.out _ Vx.out).2.1, (HEL.out _ Vx.out).2.2.1, (HEL.out _ Vx.out).2.2.2.1, (HEL.out _ Vx.out).2.2.2.2⟩ (fun hHeld => ?_)
 clear hK K
 refine norm_ (a' := ?_) ?_ ?_
 rotate_left
 ·show Act.put _ (some 120) _ = _
  simp only [Act.put, lA, lB, lC, i64_w, i32_w]
  rfl
 refine pure_ (i := 39) (N := some 121) (v := ?_) (a' := ?_) #[bT, bT, bT, bT, bT, bT, bT, bT, bT, bT, bT, bT, bT, bT, bT, bT, bT, bT, bT, bT, bT, bT, bT, bT, bT, bT, bT, bT, bT, bT, bT, bT, bT, bT, bT, bT, bT, bT, bT, bT, bF, bF, bF, bF, bF] rfl rfl (by kernel_rfl) (fun _ _ _ h => h) (Or.inl ⟨by rfl, ?_⟩) ?_ ?_
 rotate_left
 ·intro w'
  go_simp
  with_reducible rfl
 rotate_left
 ·simp only [Act.put, lA, lB, lC, i64_w, i32_w]
  rfl
 refine pure_ (i := 40) (N := some 122) (v := ?_) (a' := ?_) #[bT, bT, bT, bT, bT, bT, bT, bT, bT, bT, bT, bT, bT, bT, bT, bT, bT, bT, bT, bT, bT, bT, bT, bT, bT, bT, bT, bT, bT, bT, bT, bT, bT, bT, bT, bT, bT, bT, bT, bT, bT, bF, bF, bF, bF] rfl rfl (by kernel_rfl) (fun _ _ _ h => h) (Or.inl ⟨by rfl, ?_⟩) ?_ ?_
 rotate_left
 ·intro w'
  go_simp
  with_reducible rfl
 rotate_left
 ·simp only [Act.put, lA, lB, lC, i64_w, i32_w]
  rfl
 refine take_ (i := 41) (N := some 123) (v := ?_) (a' := ?_) #[bT, bT, bT, bT, bT, bT, bT, bT, bT, bT, bT, bT, bT, bT, bT, bT, bT, bT, bT, bT, bT, bT, bT, bT, bT, bT, bT, bT, bT, bT, bT, bT, bT, bT, bT, bT, bT, bT, bT, bT, bT, bT, bF, bF, bF] rfl rfl (by kernel_rfl) (fun _ _ _ h => h) (Or.inl ⟨by rfl, ?_⟩) hHeld ?_ ?_
 rotate_left
 ·rintro w' ⟨s0, s1, s2, s3, s4, s5, s6, s7, s8, s9, s10, s11, s12, s13, s14, s15, s16, s17, s18, s19⟩
  go_simp
  with_reducible rfl
 rotate_left
 ·simp only [Act.put, lA, lB, lC, i64_w, i32_w]
  rfl
 refine one_ (i := 42) (N := some 124) #[bT, bT, bT, bT, bT, bT, bT, bT, bT, bT, bT, bT, bT, bT, bT, bT, bT, bT, bT, bT, bT, bT, bT, bT, bT, bT, bT, bT, bT, bT, bT, bT, bT, bT, bT, bT, bT, bT, bT, bT, bT, bT, bT, bF, bF] rfl rfl (by kernel_rfl) (by decide) (fun K hK => ?_)
 refine goes_ Tryz.func37 (by kernel_rfl) rfl #[.agg #[.slice Ax l.base.slots.length ax, .slice Bx l.base.vols.length bx, .slice (some ad) no.length cx, .int .i64 l.safe]] (by rfl) rfl rfl (by simp only [List.map_toArray, List.map_cons, List.map_nil]; rfl) ?_
 with_reducible refine (implLogOk_n (l := ⟨l.base, no, l.safe⟩) Vx.out.inn HSx.out HLX.out.ok).mono ?_
 rintro e w14 ⟨rfl, hb⟩
 replace Vl := Lib.hid (Vl.out.bel hb)
 replace Ovo := Lib.hid (Ovo.out.bel hb)
 replace Vwant := Lib.hid (Vwant.out.bel hb)
 replace Vx := Lib.hid (Vx.out.bel hb)
 replace Pp := Lib.hid (Pp.out.bel hb)
 replace Iu := Lib.hid (Iu.out.bel hb)
 replace KW := Lib.hid (KW.out.tr hb)
 clear hb
 refine ⟨_, rfl, ?_⟩
 refine hK.out _ _ ⟨Pp.out.c0, Pp.out.c1, Vx.out.c0, Vx.out.c1, Vx.out.c2, Vx.out.c3, Vl.out.c0, Vl.out.c1, Vl.out.c2, Vl.out.c3, (blkc Ovo.out 0 _ rfl), (blkc Ovo.out 1 _ rfl), (blkc Ovo.out 2 _ rfl), (blkc Ovo.out 3 _ rfl), (blkc Ovo.out 4 _ rfl), (HEL.out _ Vx.out).1, (HEL.out _ Vx.out).2.1, (HEL.out _ Vx.out).2.2.1, (HEL.out _ Vx.out).2.2.2.1, (HEL.out _ Vx.out).2.2.2.2⟩ (fun hHeld => ?_)
 clear hK K
 refine norm_ (a' := ?_) ?_ ?_
 rotate_left
 ·show Act.put _ (some 124) _ = _
  simp only [Act.put, lA, lB, lC, i64_w, i32_w]
  rfl
 refine pure_ (i := 43) (N := some 125) (v := ?_) (a' := ?_) #[bT, bT, bT, bT, bT, bT, bT, bT, bT, bT, bT, bT, bT, bT, bT, bT, bT, bT, bT, bT, bT, bT, bT, bT, bT, bT, bT, bT, bT, bT, bT, bT, bT, bT, bT, bT, bT, bT, bT, bT, bT, bT, bT, bT, bF] rfl rfl (by kernel_rfl) (fun _ _ _ h => h) (Or.inl ⟨by rfl, ?_⟩) ?_ ?_
 rotate_left
 ·intro w'
  go_simp
  with_reducible rfl
 rotate_left
 ·simp only [Act.put, lA, lB, lC, i64_w, i32_w]
  rfl
 refine pure_ (i := 44) (N := some 2) (v := ?_) (a' := ?_) #[bT, bT, bT, bT, bT, bT, bT, bT, bT, bT, bT, bT, bT, bT, bT, bT, bT, bT, bT, bT, bT, bT, bT, bT, bT, bT, bT, bT, bT, bT, bT, bT, bT, bT, bT, bT, bT, bT, bT, bT, bT, bT, bT, bT, bT] rfl rfl (by kernel_rfl) (fun _ _ _ h => h) (Or.inl ⟨by rfl, ?_⟩) ?_ ?_
 rotate_left
 ·intro w'
  go_simp
  with_reducible rfl
 rotate_left
 ·simp only [Act.put, lA, lB, lC, i64_w, i32_w]
  rfl
 refine done_ (by kernel_rfl) ?_
 have qp0 := Pp.out.c0
 have qp1 := Pp.out.c1
 have yp := Pp.out.lt
 have el0 := Vl.out.c0
 have el1 := Vl.out.c1
 have el2 := Vl.out.c2
 have el3 := Vl.out.c3
 have eyl := Vl.out.lt
 have ewant0 : w14.cell? ⟨bkwant, 0, none⟩ = some (.slice Awant l.base.slots.length awant) := Vwant.out.c0
 have ewant1 : w14.cell? ⟨bkwant, 1, none⟩ = some (.slice Bwant l.base.vols.length bwant) := Vwant.out.c1
 have ewant2 : w14.cell? ⟨bkwant, 2, none⟩ = some (.slice Cwant no.length cwant) := Vwant.out.c2
 have ewant3 : w14.cell? ⟨bkwant, 3, none⟩ = some (.int .i64 l.safe) := Vwant.out.c3
 have eywant := Vwant.out.lt
 have ex0 : w14.cell? ⟨bkx, 0, none⟩ = some (.slice Ax l.base.slots.length ax) := Vx.out.c0
 have ex1 : w14.cell? ⟨bkx, 1, none⟩ = some (.slice Bx l.base.vols.length bx) := Vx.out.c1
 have ex2 : w14.cell? ⟨bkx, 2, none⟩ = some (.slice (some ad) no.length cx) := Vx.out.c2
 have ex3 : w14.cell? ⟨bkx, 3, none⟩ = some (.int .i64 l.safe) := Vx.out.c3
 have eyx := Vx.out.lt
 have om0 : w14.cell? ⟨bko, 0, none⟩ = some (.int .i64 o.kind) := blkc Ovo.out 0 _ rfl
 have om1 : w14.cell? ⟨bko, 1, none⟩ = some (.string o.name) := blkc Ovo.out 1 _ rfl
 have om2 : w14.cell? ⟨bko, 2, none⟩ = some (.string o.dest) := blkc Ovo.out 2 _ rfl
 have om3 : w14.cell? ⟨bko, 3, none⟩ = some (.int .i64 o.n) := blkc Ovo.out 3 _ rfl
 have om4 : w14.cell? ⟨bko, 4, none⟩ = some (.string o.text) := blkc Ovo.out 4 _ rfl
 have omy := Ovo.out.lt
 go_wp2
 all_goals
  go_ret
  exact ⟨rfl, KW.out⟩
end Go.Proofs.YtccllgpaafgjaaaGreat

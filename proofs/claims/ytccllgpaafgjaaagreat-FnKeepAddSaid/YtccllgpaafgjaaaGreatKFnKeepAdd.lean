/- The law FnKeepAdd: its body walked. -/
import Derived.Test.YtccllgpaafgjaaaGreatK1
import Derived.Test.YtccllgpaafgjaaaGreatK2
import Derived.Test.YtccllgpaafgjaaaGreatK3
import Derived.Test.YtccllgpaafgjaaaGreatK4
import Derived.Test.YtccllgpaafgjaaaGreatK5
import Derived.Test.YtccllgpaafgjaaaGreatK6
import Derived.Test.YtccllgpaafgjaaaGreatK7
import Derived.Test.YtccllgpaafgjaaaGreatK8
import Derived.Test.YtccllgpaafgjaaaGreatK9
import Derived.Test.YtccllgpaafgjaaaGreatK10
import Derived.Test.YtccllgpaafgjaaaGreatK11
import Derived.Test.YtccllgpaafgjaaaGreatK12
import Derived.Test.YtccllgpaafgjaaaGreatK13
namespace Go.Proofs.YtccllgpaafgjaaaGreat
open Go.RowKit Go.Proofs.YtccllgpaafgjaaaGreatW.PrintWords Go.Proofs.YtccllgpaafgjaaaGreatW.PrintLast
set_option linter.unusedVariables false
set_option linter.unusedSimpArgs false

set_option maxHeartbeats 32000000 in
set_option maxRecDepth 10000 in
theorem lawFnKeepAdd_c {w : World} {A : Option Addr} {n c : Nat} {bs : List Int} (h : CodeIn w A n c bs) (hn : n ≤ 9223372036854775807) :
    Calls Tryz.prog 12 #[.slice A n c] w (Ret (.bool true) w) := by
  have H := Lib.hid h
  clear h
  go_enter Tryz.func12, Tryz.ntmps12
  by_cases hlen : (1048576 : Int) < (n : Int)
  · go_wp2
    go_ret
    exact ⟨rfl, Below.refl _ _⟩
  go_wp2_with fail
  refine (drawLogAdd_c H.out hn).mono ?_
  rintro e w1 ⟨Al, Bl, Cl, al, bl, cl, l, o, rfl, hd, hso, hin, hb⟩
  have HSl := Lib.hid hd.small
  have hll := hd.len
  have HSO := Lib.hid hso
  have Jl := Lib.hid hin
  have KW := Lib.hid hb
  obtain ⟨x, hx⟩ : ∃ x, addF l o = x := ⟨_, rfl⟩
  have HSx := Lib.hid (hx ▸ addF_small hd (by omega) hso : SmallL x)
  clear hd hso hin hb
  cases hz : addB l o
  · have HAD := Lib.hid (And.intro hx hz)
    clear hx hz
    go_wp2_with fail
    have hnew := (LVar.new Jl.out).bel (bel_alloc (Below.refl _ _) (.cells #[.int .i64 o.kind, .string o.name, .string o.dest, .int .i64 o.n, .string o.text] 27))
    have hO : Blk ((w1.alloc (.cells #[.slice Al l.base.slots.length al, .slice Bl l.base.vols.length bl, .slice Cl l.ops.length cl, .int .i64 l.safe] 44)).alloc (.cells #[.int .i64 o.kind, .string o.name, .string o.dest, .int .i64 o.n, .string o.text] 27)) (w1.heap.size + 1) #[.int .i64 o.kind, .string o.name, .string o.dest, .int .i64 o.n, .string o.text] 27 := Blk.nw2 _ _ _ _
    have hb : Bel w1 ((w1.alloc (.cells #[.slice Al l.base.slots.length al, .slice Bl l.base.vols.length bl, .slice Cl l.ops.length cl, .int .i64 l.safe] 44)).alloc (.cells #[.int .i64 o.kind, .string o.name, .string o.dest, .int .i64 o.n, .string o.text] 27)) := bel_alloc (bel_alloc (Below.refl _ _) _) _
    generalize ((w1.alloc (.cells #[.slice Al l.base.slots.length al, .slice Bl l.base.vols.length bl, .slice Cl l.ops.length cl, .int .i64 l.safe] 44)).alloc (.cells #[.int .i64 o.kind, .string o.name, .string o.dest, .int .i64 o.n, .string o.text] 27)) = W2 at hnew hO hb ⊢
    replace Jl := Lib.hid (Jl.out.bel hb)
    replace KW := Lib.hid (KW.out.tr hb)
    obtain ⟨bkl, hbn⟩ : ∃ b, w1.heap.size = b := ⟨_, rfl⟩
    rw [hbn] at hnew hO ⊢
    obtain ⟨bko, hbo⟩ : ∃ b, bkl + 1 = b := ⟨_, rfl⟩
    rw [hbo] at hO ⊢
    have Vl := Lib.hid hnew
    have Ovo := Lib.hid hO
    clear hnew hO hb hbn hbo Jl
    refine (specLogAdd_n Vl.out.inn HSl.out HSO.out HAD.out).mono ?_
    rintro e w3 ⟨Awant, Bwant, Cwant, awant, bwant, cwant, rfl, hin, hb⟩
    replace Vl := Lib.hid (Vl.out.bel hb)
    replace Ovo := Lib.hid (Ovo.out.bel hb)
    replace KW := Lib.hid (KW.out.tr hb)
    have Jwant := Lib.hid hin
    clear hin hb
    have el0 := Vl.out.c0
    have el1 := Vl.out.c1
    have el2 := Vl.out.c2
    have el3 := Vl.out.c3
    have eyl := Vl.out.lt
    have om0 : w3.cell? ⟨bko, 0, none⟩ = some (.int .i64 o.kind) := blkc Ovo.out 0 _ rfl
    have om1 : w3.cell? ⟨bko, 1, none⟩ = some (.string o.name) := blkc Ovo.out 1 _ rfl
    have om2 : w3.cell? ⟨bko, 2, none⟩ = some (.string o.dest) := blkc Ovo.out 2 _ rfl
    have om3 : w3.cell? ⟨bko, 3, none⟩ = some (.int .i64 o.n) := blkc Ovo.out 3 _ rfl
    have om4 : w3.cell? ⟨bko, 4, none⟩ = some (.string o.text) := blkc Ovo.out 4 _ rfl
    have omy := Ovo.out.lt
    go_wp2_with fail
    clear el0 el1 el2 el3 eyl
    clear om0 om1 om2 om3 om4 omy
    have hnew := LVar.new Jwant.out
    have hb : Bel w3 (w3.alloc (.cells #[.slice Awant x.base.slots.length awant, .slice Bwant x.base.vols.length bwant, .slice Cwant x.ops.length cwant, .int .i64 x.safe] 44)) := bel_alloc (Below.refl _ _) _
    generalize w3.alloc (.cells #[.slice Awant x.base.slots.length awant, .slice Bwant x.base.vols.length bwant, .slice Cwant x.ops.length cwant, .int .i64 x.safe] 44) = W4 at hnew hb ⊢
    replace Vl := Lib.hid (Vl.out.bel hb)
    replace Ovo := Lib.hid (Ovo.out.bel hb)
    replace Jwant := Lib.hid (Jwant.out.bel hb)
    replace KW := Lib.hid (KW.out.tr hb)
    obtain ⟨bkwant, hbn⟩ : ∃ b, w3.heap.size = b := ⟨_, rfl⟩
    rw [hbn] at hnew ⊢
    have Vwant := Lib.hid hnew
    clear hnew hb hbn Jwant
    refine (implLogAdd_n Vl.out.inn HSl.out HSO.out HAD.out).mono ?_
    rintro e w5 ⟨Ax, Bx, Cx, ax, bx, cx, rfl, hin, hb⟩
    replace Vl := Lib.hid (Vl.out.bel hb)
    replace Ovo := Lib.hid (Ovo.out.bel hb)
    replace Vwant := Lib.hid (Vwant.out.bel hb)
    replace KW := Lib.hid (KW.out.tr hb)
    have Jx := Lib.hid hin
    clear hin hb
    have el0 := Vl.out.c0
    have el1 := Vl.out.c1
    have el2 := Vl.out.c2
    have el3 := Vl.out.c3
    have eyl := Vl.out.lt
    have ewant0 := Vwant.out.c0
    have ewant1 := Vwant.out.c1
    have ewant2 := Vwant.out.c2
    have ewant3 := Vwant.out.c3
    have eywant := Vwant.out.lt
    have om0 : w5.cell? ⟨bko, 0, none⟩ = some (.int .i64 o.kind) := blkc Ovo.out 0 _ rfl
    have om1 : w5.cell? ⟨bko, 1, none⟩ = some (.string o.name) := blkc Ovo.out 1 _ rfl
    have om2 : w5.cell? ⟨bko, 2, none⟩ = some (.string o.dest) := blkc Ovo.out 2 _ rfl
    have om3 : w5.cell? ⟨bko, 3, none⟩ = some (.int .i64 o.n) := blkc Ovo.out 3 _ rfl
    have om4 : w5.cell? ⟨bko, 4, none⟩ = some (.string o.text) := blkc Ovo.out 4 _ rfl
    have omy := Ovo.out.lt
    go_wp2_with fail
    clear el0 el1 el2 el3 eyl
    clear ewant0 ewant1 ewant2 ewant3 eywant
    clear om0 om1 om2 om3 om4 omy
    have hnew := LVar.new Jx.out
    have hb : Bel w5 (w5.alloc (.cells #[.slice Ax x.base.slots.length ax, .slice Bx x.base.vols.length bx, .slice Cx x.ops.length cx, .int .i64 x.safe] 44)) := bel_alloc (Below.refl _ _) _
    generalize w5.alloc (.cells #[.slice Ax x.base.slots.length ax, .slice Bx x.base.vols.length bx, .slice Cx x.ops.length cx, .int .i64 x.safe] 44) = W6 at hnew hb ⊢
    replace Vl := Lib.hid (Vl.out.bel hb)
    replace Ovo := Lib.hid (Ovo.out.bel hb)
    replace Vwant := Lib.hid (Vwant.out.bel hb)
    replace Jx := Lib.hid (Jx.out.bel hb)
    replace KW := Lib.hid (KW.out.tr hb)
    obtain ⟨bkx, hbn⟩ : ∃ b, w5.heap.size = b := ⟨_, rfl⟩
    rw [hbn] at hnew ⊢
    have Vx := Lib.hid hnew
    clear hnew hb hbn Jx
    refine (lgLog_c Vx.out.inn Vwant.out.inn HSx.out).mono ?_
    rintro e w7 ⟨rfl, hb⟩
    replace Vl := Lib.hid (Vl.out.bel hb)
    replace Ovo := Lib.hid (Ovo.out.bel hb)
    replace Vwant := Lib.hid (Vwant.out.bel hb)
    replace Vx := Lib.hid (Vx.out.bel hb)
    replace KW := Lib.hid (KW.out.tr hb)
    clear hb
    have el0 := Vl.out.c0
    have el1 := Vl.out.c1
    have el2 := Vl.out.c2
    have el3 := Vl.out.c3
    have eyl := Vl.out.lt
    have ewant0 := Vwant.out.c0
    have ewant1 := Vwant.out.c1
    have ewant2 := Vwant.out.c2
    have ewant3 := Vwant.out.c3
    have eywant := Vwant.out.lt
    have ex0 := Vx.out.c0
    have ex1 := Vx.out.c1
    have ex2 := Vx.out.c2
    have ex3 := Vx.out.c3
    have eyx := Vx.out.lt
    have om0 : w7.cell? ⟨bko, 0, none⟩ = some (.int .i64 o.kind) := blkc Ovo.out 0 _ rfl
    have om1 : w7.cell? ⟨bko, 1, none⟩ = some (.string o.name) := blkc Ovo.out 1 _ rfl
    have om2 : w7.cell? ⟨bko, 2, none⟩ = some (.string o.dest) := blkc Ovo.out 2 _ rfl
    have om3 : w7.cell? ⟨bko, 3, none⟩ = some (.int .i64 o.n) := blkc Ovo.out 3 _ rfl
    have om4 : w7.cell? ⟨bko, 4, none⟩ = some (.string o.text) := blkc Ovo.out 4 _ rfl
    have omy := Ovo.out.lt
    go_wp2_with fail
    clear el0 el1 el2 el3 eyl
    clear ewant0 ewant1 ewant2 ewant3 eywant
    clear ex0 ex1 ex2 ex3 eyx
    clear om0 om1 om2 om3 om4 omy
    refine (lgLog_c Vx.out.inn Vwant.out.inn HSx.out).mono ?_
    rintro e w8 ⟨rfl, hb⟩
    replace Vl := Lib.hid (Vl.out.bel hb)
    replace Ovo := Lib.hid (Ovo.out.bel hb)
    replace Vwant := Lib.hid (Vwant.out.bel hb)
    replace Vx := Lib.hid (Vx.out.bel hb)
    replace KW := Lib.hid (KW.out.tr hb)
    clear hb
    have el0 := Vl.out.c0
    have el1 := Vl.out.c1
    have el2 := Vl.out.c2
    have el3 := Vl.out.c3
    have eyl := Vl.out.lt
    have ewant0 := Vwant.out.c0
    have ewant1 := Vwant.out.c1
    have ewant2 := Vwant.out.c2
    have ewant3 := Vwant.out.c3
    have eywant := Vwant.out.lt
    have ex0 := Vx.out.c0
    have ex1 := Vx.out.c1
    have ex2 := Vx.out.c2
    have ex3 := Vx.out.c3
    have eyx := Vx.out.lt
    have om0 : w8.cell? ⟨bko, 0, none⟩ = some (.int .i64 o.kind) := blkc Ovo.out 0 _ rfl
    have om1 : w8.cell? ⟨bko, 1, none⟩ = some (.string o.name) := blkc Ovo.out 1 _ rfl
    have om2 : w8.cell? ⟨bko, 2, none⟩ = some (.string o.dest) := blkc Ovo.out 2 _ rfl
    have om3 : w8.cell? ⟨bko, 3, none⟩ = some (.int .i64 o.n) := blkc Ovo.out 3 _ rfl
    have om4 : w8.cell? ⟨bko, 4, none⟩ = some (.string o.text) := blkc Ovo.out 4 _ rfl
    have omy := Ovo.out.lt
    go_wp2
    all_goals
      go_ret
      exact ⟨rfl, KW.out⟩
  obtain ⟨q, r, hlp, hop, hr, hlen, hxe, hlx⟩ := add_true hz
  obtain ⟨hlk, hke, hkb, hly, hfy⟩ := add_kept hlp hop hr hlen
  obtain rfl : ⟨l.base, l.ops ++ [o], l.safe⟩ = x := hxe.symm.trans hx
  obtain ⟨no, hno⟩ : ∃ no, l.ops ++ [o] = no := ⟨_, rfl⟩
  rw [hno] at hx hke hly hfy hlx HSx
  have hky := hly.keep
  rw [hly.keepE] at hky
  have HAD := Lib.hid (And.intro hx hz)
  have HLP := Lib.hid hlp
  have HLK := Lib.hid hlk
  have HKE := Lib.hid (And.intro hke hkb)
  have HLY := Lib.hid hly
  have HFY := Lib.hid hfy
  have HYE := Lib.hid (hly.keepE)
  have HKY := Lib.hid hky
  have HSno := Lib.hid (show SmallOs no from HSx.out.ops)
  have HSk := Lib.hid (show SmallL ⟨l.base, l.ops, l.ops.length⟩ from ⟨HSl.out.base, HSl.out.ops⟩)
  have HSy := Lib.hid (show SmallL ⟨l.base, no, l.ops.length⟩ from ⟨HSl.out.base, HSno.out⟩)
  have HSky := Lib.hid (show SmallL ⟨l.base, no, no.length⟩ from ⟨HSl.out.base, HSno.out⟩)
  clear hx hz hlp hop hr hxe hlx hlk hke hkb hly hfy hno hky
  go_wp2_with fail
  have hnew := (LVar.new Jl.out).bel (bel_alloc (Below.refl _ _) (.cells #[.int .i64 o.kind, .string o.name, .string o.dest, .int .i64 o.n, .string o.text] 27))
  have hO : Blk ((w1.alloc (.cells #[.slice Al l.base.slots.length al, .slice Bl l.base.vols.length bl, .slice Cl l.ops.length cl, .int .i64 l.safe] 44)).alloc (.cells #[.int .i64 o.kind, .string o.name, .string o.dest, .int .i64 o.n, .string o.text] 27)) (w1.heap.size + 1) #[.int .i64 o.kind, .string o.name, .string o.dest, .int .i64 o.n, .string o.text] 27 := Blk.nw2 _ _ _ _
  have hb : Bel w1 ((w1.alloc (.cells #[.slice Al l.base.slots.length al, .slice Bl l.base.vols.length bl, .slice Cl l.ops.length cl, .int .i64 l.safe] 44)).alloc (.cells #[.int .i64 o.kind, .string o.name, .string o.dest, .int .i64 o.n, .string o.text] 27)) := bel_alloc (bel_alloc (Below.refl _ _) _) _
  generalize ((w1.alloc (.cells #[.slice Al l.base.slots.length al, .slice Bl l.base.vols.length bl, .slice Cl l.ops.length cl, .int .i64 l.safe] 44)).alloc (.cells #[.int .i64 o.kind, .string o.name, .string o.dest, .int .i64 o.n, .string o.text] 27)) = W2 at hnew hO hb ⊢
  replace Jl := Lib.hid (Jl.out.bel hb)
  replace KW := Lib.hid (KW.out.tr hb)
  obtain ⟨bkl, hbn⟩ : ∃ b, w1.heap.size = b := ⟨_, rfl⟩
  rw [hbn] at hnew hO ⊢
  obtain ⟨bko, hbo⟩ : ∃ b, bkl + 1 = b := ⟨_, rfl⟩
  rw [hbo] at hO ⊢
  have Vl := Lib.hid hnew
  have Ovo := Lib.hid hO
  clear hnew hO hb hbn hbo Jl
  refine (specLogAdd_n Vl.out.inn HSl.out HSO.out HAD.out).mono ?_
  rintro e w3 ⟨Awant, Bwant, Cwant, awant, bwant, cwant, rfl, hin, hb⟩
  replace Vl := Lib.hid (Vl.out.bel hb)
  replace Ovo := Lib.hid (Ovo.out.bel hb)
  replace KW := Lib.hid (KW.out.tr hb)
  have Jwant := Lib.hid hin
  clear hin hb
  have el0 := Vl.out.c0
  have el1 := Vl.out.c1
  have el2 := Vl.out.c2
  have el3 := Vl.out.c3
  have eyl := Vl.out.lt
  have om0 : w3.cell? ⟨bko, 0, none⟩ = some (.int .i64 o.kind) := blkc Ovo.out 0 _ rfl
  have om1 : w3.cell? ⟨bko, 1, none⟩ = some (.string o.name) := blkc Ovo.out 1 _ rfl
  have om2 : w3.cell? ⟨bko, 2, none⟩ = some (.string o.dest) := blkc Ovo.out 2 _ rfl
  have om3 : w3.cell? ⟨bko, 3, none⟩ = some (.int .i64 o.n) := blkc Ovo.out 3 _ rfl
  have om4 : w3.cell? ⟨bko, 4, none⟩ = some (.string o.text) := blkc Ovo.out 4 _ rfl
  have omy := Ovo.out.lt
  go_wp2_with fail
  clear el0 el1 el2 el3 eyl
  clear om0 om1 om2 om3 om4 omy
  have hnew := LVar.new Jwant.out
  have hb : Bel w3 (w3.alloc (.cells #[.slice Awant l.base.slots.length awant, .slice Bwant l.base.vols.length bwant, .slice Cwant no.length cwant, .int .i64 l.safe] 44)) := bel_alloc (Below.refl _ _) _
  generalize w3.alloc (.cells #[.slice Awant l.base.slots.length awant, .slice Bwant l.base.vols.length bwant, .slice Cwant no.length cwant, .int .i64 l.safe] 44) = W4 at hnew hb ⊢
  replace Vl := Lib.hid (Vl.out.bel hb)
  replace Ovo := Lib.hid (Ovo.out.bel hb)
  replace Jwant := Lib.hid (Jwant.out.bel hb)
  replace KW := Lib.hid (KW.out.tr hb)
  obtain ⟨bkwant, hbn⟩ : ∃ b, w3.heap.size = b := ⟨_, rfl⟩
  rw [hbn] at hnew ⊢
  have Vwant := Lib.hid hnew
  clear hnew hb hbn Jwant
  refine (implLogAdd_n Vl.out.inn HSl.out HSO.out HAD.out).mono ?_
  rintro e w5 ⟨Ax, Bx, Cx, ax, bx, cx, rfl, hin, hb⟩
  replace Vl := Lib.hid (Vl.out.bel hb)
  replace Ovo := Lib.hid (Ovo.out.bel hb)
  replace Vwant := Lib.hid (Vwant.out.bel hb)
  replace KW := Lib.hid (KW.out.tr hb)
  have Jx := Lib.hid hin
  clear hin hb
  have el0 := Vl.out.c0
  have el1 := Vl.out.c1
  have el2 := Vl.out.c2
  have el3 := Vl.out.c3
  have eyl := Vl.out.lt
  have ewant0 : w5.cell? ⟨bkwant, 0, none⟩ = some (.slice Awant l.base.slots.length awant) := Vwant.out.c0
  have ewant1 : w5.cell? ⟨bkwant, 1, none⟩ = some (.slice Bwant l.base.vols.length bwant) := Vwant.out.c1
  have ewant2 : w5.cell? ⟨bkwant, 2, none⟩ = some (.slice Cwant no.length cwant) := Vwant.out.c2
  have ewant3 : w5.cell? ⟨bkwant, 3, none⟩ = some (.int .i64 l.safe) := Vwant.out.c3
  have eywant := Vwant.out.lt
  have om0 : w5.cell? ⟨bko, 0, none⟩ = some (.int .i64 o.kind) := blkc Ovo.out 0 _ rfl
  have om1 : w5.cell? ⟨bko, 1, none⟩ = some (.string o.name) := blkc Ovo.out 1 _ rfl
  have om2 : w5.cell? ⟨bko, 2, none⟩ = some (.string o.dest) := blkc Ovo.out 2 _ rfl
  have om3 : w5.cell? ⟨bko, 3, none⟩ = some (.int .i64 o.n) := blkc Ovo.out 3 _ rfl
  have om4 : w5.cell? ⟨bko, 4, none⟩ = some (.string o.text) := blkc Ovo.out 4 _ rfl
  have omy := Ovo.out.lt
  go_wp2_with fail
  clear el0 el1 el2 el3 eyl
  clear ewant0 ewant1 ewant2 ewant3 eywant
  clear om0 om1 om2 om3 om4 omy
  have hnew := LVar.new Jx.out
  have hb : Bel w5 (w5.alloc (.cells #[.slice Ax l.base.slots.length ax, .slice Bx l.base.vols.length bx, .slice Cx no.length cx, .int .i64 l.safe] 44)) := bel_alloc (Below.refl _ _) _
  generalize w5.alloc (.cells #[.slice Ax l.base.slots.length ax, .slice Bx l.base.vols.length bx, .slice Cx no.length cx, .int .i64 l.safe] 44) = W6 at hnew hb ⊢
  replace Vl := Lib.hid (Vl.out.bel hb)
  replace Ovo := Lib.hid (Ovo.out.bel hb)
  replace Vwant := Lib.hid (Vwant.out.bel hb)
  replace Jx := Lib.hid (Jx.out.bel hb)
  replace KW := Lib.hid (KW.out.tr hb)
  obtain ⟨bkx, hbn⟩ : ∃ b, w5.heap.size = b := ⟨_, rfl⟩
  rw [hbn] at hnew ⊢
  have Vx := Lib.hid hnew
  clear hnew hb hbn Jx
  refine (lgLog_c (l := ⟨l.base, no, l.safe⟩) Vx.out.inn Vwant.out.inn HSx.out).mono ?_
  rintro e w7 ⟨rfl, hb⟩
  replace Vl := Lib.hid (Vl.out.bel hb)
  replace Ovo := Lib.hid (Ovo.out.bel hb)
  replace Vwant := Lib.hid (Vwant.out.bel hb)
  replace Vx := Lib.hid (Vx.out.bel hb)
  replace KW := Lib.hid (KW.out.tr hb)
  clear hb
  have el0 := Vl.out.c0
  have el1 := Vl.out.c1
  have el2 := Vl.out.c2
  have el3 := Vl.out.c3
  have eyl := Vl.out.lt
  have ewant0 : w7.cell? ⟨bkwant, 0, none⟩ = some (.slice Awant l.base.slots.length awant) := Vwant.out.c0
  have ewant1 : w7.cell? ⟨bkwant, 1, none⟩ = some (.slice Bwant l.base.vols.length bwant) := Vwant.out.c1
  have ewant2 : w7.cell? ⟨bkwant, 2, none⟩ = some (.slice Cwant no.length cwant) := Vwant.out.c2
  have ewant3 : w7.cell? ⟨bkwant, 3, none⟩ = some (.int .i64 l.safe) := Vwant.out.c3
  have eywant := Vwant.out.lt
  have ex0 : w7.cell? ⟨bkx, 0, none⟩ = some (.slice Ax l.base.slots.length ax) := Vx.out.c0
  have ex1 : w7.cell? ⟨bkx, 1, none⟩ = some (.slice Bx l.base.vols.length bx) := Vx.out.c1
  have ex2 : w7.cell? ⟨bkx, 2, none⟩ = some (.slice Cx no.length cx) := Vx.out.c2
  have ex3 : w7.cell? ⟨bkx, 3, none⟩ = some (.int .i64 l.safe) := Vx.out.c3
  have eyx := Vx.out.lt
  have om0 : w7.cell? ⟨bko, 0, none⟩ = some (.int .i64 o.kind) := blkc Ovo.out 0 _ rfl
  have om1 : w7.cell? ⟨bko, 1, none⟩ = some (.string o.name) := blkc Ovo.out 1 _ rfl
  have om2 : w7.cell? ⟨bko, 2, none⟩ = some (.string o.dest) := blkc Ovo.out 2 _ rfl
  have om3 : w7.cell? ⟨bko, 3, none⟩ = some (.int .i64 o.n) := blkc Ovo.out 3 _ rfl
  have om4 : w7.cell? ⟨bko, 4, none⟩ = some (.string o.text) := blkc Ovo.out 4 _ rfl
  have omy := Ovo.out.lt
  go_wp2_with fail
  clear el0 el1 el2 el3 eyl
  clear ewant0 ewant1 ewant2 ewant3 eywant
  clear ex0 ex1 ex2 ex3 eyx
  clear om0 om1 om2 om3 om4 omy
  refine (implLogKeep_n Vl.out.inn HSl.out HLP.out.keepE).mono ?_
  rintro e w8 ⟨Ak, Bk, Ck, ak, bk, ck, rfl, hin, hb⟩
  replace Vl := Lib.hid (Vl.out.bel hb)
  replace Ovo := Lib.hid (Ovo.out.bel hb)
  replace Vwant := Lib.hid (Vwant.out.bel hb)
  replace Vx := Lib.hid (Vx.out.bel hb)
  replace KW := Lib.hid (KW.out.tr hb)
  have Jk := Lib.hid hin
  clear hin hb
  have el0 := Vl.out.c0
  have el1 := Vl.out.c1
  have el2 := Vl.out.c2
  have el3 := Vl.out.c3
  have eyl := Vl.out.lt
  have ewant0 : w8.cell? ⟨bkwant, 0, none⟩ = some (.slice Awant l.base.slots.length awant) := Vwant.out.c0
  have ewant1 : w8.cell? ⟨bkwant, 1, none⟩ = some (.slice Bwant l.base.vols.length bwant) := Vwant.out.c1
  have ewant2 : w8.cell? ⟨bkwant, 2, none⟩ = some (.slice Cwant no.length cwant) := Vwant.out.c2
  have ewant3 : w8.cell? ⟨bkwant, 3, none⟩ = some (.int .i64 l.safe) := Vwant.out.c3
  have eywant := Vwant.out.lt
  have ex0 : w8.cell? ⟨bkx, 0, none⟩ = some (.slice Ax l.base.slots.length ax) := Vx.out.c0
  have ex1 : w8.cell? ⟨bkx, 1, none⟩ = some (.slice Bx l.base.vols.length bx) := Vx.out.c1
  have ex2 : w8.cell? ⟨bkx, 2, none⟩ = some (.slice Cx no.length cx) := Vx.out.c2
  have ex3 : w8.cell? ⟨bkx, 3, none⟩ = some (.int .i64 l.safe) := Vx.out.c3
  have eyx := Vx.out.lt
  have om0 : w8.cell? ⟨bko, 0, none⟩ = some (.int .i64 o.kind) := blkc Ovo.out 0 _ rfl
  have om1 : w8.cell? ⟨bko, 1, none⟩ = some (.string o.name) := blkc Ovo.out 1 _ rfl
  have om2 : w8.cell? ⟨bko, 2, none⟩ = some (.string o.dest) := blkc Ovo.out 2 _ rfl
  have om3 : w8.cell? ⟨bko, 3, none⟩ = some (.int .i64 o.n) := blkc Ovo.out 3 _ rfl
  have om4 : w8.cell? ⟨bko, 4, none⟩ = some (.string o.text) := blkc Ovo.out 4 _ rfl
  have omy := Ovo.out.lt
  go_wp2_with fail
  clear el0 el1 el2 el3 eyl
  clear ewant0 ewant1 ewant2 ewant3 eywant
  clear ex0 ex1 ex2 ex3 eyx
  clear om0 om1 om2 om3 om4 omy
  have hnew := LVar.new Jk.out
  have hb : Bel w8 (w8.alloc (.cells #[.slice Ak l.base.slots.length ak, .slice Bk l.base.vols.length bk, .slice Ck l.ops.length ck, .int .i64 (l.ops.length : Int)] 44)) := bel_alloc (Below.refl _ _) _
  generalize w8.alloc (.cells #[.slice Ak l.base.slots.length ak, .slice Bk l.base.vols.length bk, .slice Ck l.ops.length ck, .int .i64 (l.ops.length : Int)] 44) = W9 at hnew hb ⊢
  replace Vl := Lib.hid (Vl.out.bel hb)
  replace Ovo := Lib.hid (Ovo.out.bel hb)
  replace Vwant := Lib.hid (Vwant.out.bel hb)
  replace Vx := Lib.hid (Vx.out.bel hb)
  replace Jk := Lib.hid (Jk.out.bel hb)
  replace KW := Lib.hid (KW.out.tr hb)
  obtain ⟨bkk, hbn⟩ : ∃ b, w8.heap.size = b := ⟨_, rfl⟩
  rw [hbn] at hnew ⊢
  have Vk := Lib.hid hnew
  clear hnew hb hbn Jk
  refine (implLogAdd_n (l := ⟨l.base, l.ops, l.ops.length⟩) Vk.out.inn HSk.out HSO.out HKE.out).mono ?_
  rintro e w10 ⟨Ayy, Byy, Cyy, ayy, byy, cyy, rfl, hin, hb⟩
  replace Vl := Lib.hid (Vl.out.bel hb)
  replace Ovo := Lib.hid (Ovo.out.bel hb)
  replace Vwant := Lib.hid (Vwant.out.bel hb)
  replace Vx := Lib.hid (Vx.out.bel hb)
  replace Vk := Lib.hid (Vk.out.bel hb)
  replace KW := Lib.hid (KW.out.tr hb)
  have Jyy := Lib.hid hin
  clear hin hb
  have el0 := Vl.out.c0
  have el1 := Vl.out.c1
  have el2 := Vl.out.c2
  have el3 := Vl.out.c3
  have eyl := Vl.out.lt
  have ewant0 : w10.cell? ⟨bkwant, 0, none⟩ = some (.slice Awant l.base.slots.length awant) := Vwant.out.c0
  have ewant1 : w10.cell? ⟨bkwant, 1, none⟩ = some (.slice Bwant l.base.vols.length bwant) := Vwant.out.c1
  have ewant2 : w10.cell? ⟨bkwant, 2, none⟩ = some (.slice Cwant no.length cwant) := Vwant.out.c2
  have ewant3 : w10.cell? ⟨bkwant, 3, none⟩ = some (.int .i64 l.safe) := Vwant.out.c3
  have eywant := Vwant.out.lt
  have ex0 : w10.cell? ⟨bkx, 0, none⟩ = some (.slice Ax l.base.slots.length ax) := Vx.out.c0
  have ex1 : w10.cell? ⟨bkx, 1, none⟩ = some (.slice Bx l.base.vols.length bx) := Vx.out.c1
  have ex2 : w10.cell? ⟨bkx, 2, none⟩ = some (.slice Cx no.length cx) := Vx.out.c2
  have ex3 : w10.cell? ⟨bkx, 3, none⟩ = some (.int .i64 l.safe) := Vx.out.c3
  have eyx := Vx.out.lt
  have ek0 : w10.cell? ⟨bkk, 0, none⟩ = some (.slice Ak l.base.slots.length ak) := Vk.out.c0
  have ek1 : w10.cell? ⟨bkk, 1, none⟩ = some (.slice Bk l.base.vols.length bk) := Vk.out.c1
  have ek2 : w10.cell? ⟨bkk, 2, none⟩ = some (.slice Ck l.ops.length ck) := Vk.out.c2
  have ek3 : w10.cell? ⟨bkk, 3, none⟩ = some (.int .i64 (l.ops.length : Int)) := Vk.out.c3
  have eyk := Vk.out.lt
  have om0 : w10.cell? ⟨bko, 0, none⟩ = some (.int .i64 o.kind) := blkc Ovo.out 0 _ rfl
  have om1 : w10.cell? ⟨bko, 1, none⟩ = some (.string o.name) := blkc Ovo.out 1 _ rfl
  have om2 : w10.cell? ⟨bko, 2, none⟩ = some (.string o.dest) := blkc Ovo.out 2 _ rfl
  have om3 : w10.cell? ⟨bko, 3, none⟩ = some (.int .i64 o.n) := blkc Ovo.out 3 _ rfl
  have om4 : w10.cell? ⟨bko, 4, none⟩ = some (.string o.text) := blkc Ovo.out 4 _ rfl
  have omy := Ovo.out.lt
  go_wp2
  clear el0 el1 el2 el3 eyl
  clear ewant0 ewant1 ewant2 ewant3 eywant
  clear ex0 ex1 ex2 ex3 eyx
  clear ek0 ek1 ek2 ek3 eyk
  clear om0 om1 om2 om3 om4 omy
  have hnew := LVar.new Jyy.out
  have hb : Bel w10 (w10.alloc (.cells #[.slice Ayy l.base.slots.length ayy, .slice Byy l.base.vols.length byy, .slice Cyy no.length cyy, .int .i64 (l.ops.length : Int)] 44)) := bel_alloc (Below.refl _ _) _
  generalize w10.alloc (.cells #[.slice Ayy l.base.slots.length ayy, .slice Byy l.base.vols.length byy, .slice Cyy no.length cyy, .int .i64 (l.ops.length : Int)] 44) = W11 at hnew hb ⊢
  replace Vl := Lib.hid (Vl.out.bel hb)
  replace Ovo := Lib.hid (Ovo.out.bel hb)
  replace Vwant := Lib.hid (Vwant.out.bel hb)
  replace Vx := Lib.hid (Vx.out.bel hb)
  replace Vk := Lib.hid (Vk.out.bel hb)
  replace Jyy := Lib.hid (Jyy.out.bel hb)
  replace KW := Lib.hid (KW.out.tr hb)
  obtain ⟨bkyy, hbn⟩ : ∃ b, w10.heap.size = b := ⟨_, rfl⟩
  rw [hbn] at hnew ⊢
  have Vyy := Lib.hid hnew
  clear hnew hb hbn Jyy
  have hb : Bel W11 W11.drew := (Below.refl _ _).drew
  replace Vl := Lib.hid (Vl.out.bel hb)
  replace Ovo := Lib.hid (Ovo.out.bel hb)
  replace Vwant := Lib.hid (Vwant.out.bel hb)
  replace Vx := Lib.hid (Vx.out.bel hb)
  replace Vk := Lib.hid (Vk.out.bel hb)
  replace Vyy := Lib.hid (Vyy.out.bel hb)
  replace KW := Lib.hid (KW.out.tr hb)
  clear hb
  refine start_ (n := 16) (S := fun w' => w'.cell? ⟨bkyy, 0, none⟩ = some (.slice Ayy l.base.slots.length ayy) ∧ w'.cell? ⟨bkyy, 1, none⟩ = some (.slice Byy l.base.vols.length byy) ∧ w'.cell? ⟨bkyy, 2, none⟩ = some (.slice Cyy no.length cyy) ∧ w'.cell? ⟨bkyy, 3, none⟩ = some (.int .i64 (l.ops.length : Int)) ∧ w'.cell? ⟨bkk, 0, none⟩ = some (.slice Ak l.base.slots.length ak) ∧ w'.cell? ⟨bkk, 1, none⟩ = some (.slice Bk l.base.vols.length bk) ∧ w'.cell? ⟨bkk, 2, none⟩ = some (.slice Ck l.ops.length ck) ∧ w'.cell? ⟨bkk, 3, none⟩ = some (.int .i64 (l.ops.length : Int))) (ds := []) #[bF, bF, bF, bF, bF, bF, bF, bF, bF, bF, bF, bF, bF, bF, bF, bF] (by kernel_rfl) rfl rfl ⟨Vyy.out.c0, Vyy.out.c1, Vyy.out.c2, Vyy.out.c3, Vk.out.c0, Vk.out.c1, Vk.out.c2, Vk.out.c3⟩ (fun hHeld => ?_)
  refine pure_ (i := 0) (N := some 61) (v := ?_) (a' := ?_) #[bT, bF, bF, bF, bF, bF, bF, bF, bF, bF, bF, bF, bF, bF, bF, bF] rfl rfl (by kernel_rfl) (fun _ _ _ h => h) (Or.inl ⟨by rfl, ?_⟩) ?_ ?_
  rotate_left
  · intro w'
    go_simp
    with_reducible rfl
  rotate_left
  · simp only [Act.put, lA, lB, lC, i64_w, i32_w]
    rfl
  refine pure_ (i := 1) (N := some 62) (v := ?_) (a' := ?_) #[bT, bT, bF, bF, bF, bF, bF, bF, bF, bF, bF, bF, bF, bF, bF, bF] rfl rfl (by kernel_rfl) (fun _ _ _ h => h) (Or.inl ⟨by rfl, ?_⟩) ?_ ?_
  rotate_left
  · intro w'
    go_simp
    with_reducible rfl
  rotate_left
  · simp only [Act.put, lA, lB, lC, i64_w, i32_w]
    rfl
  refine take_ (i := 2) (N := some 63) (v := ?_) (a' := ?_) #[bT, bT, bT, bF, bF, bF, bF, bF, bF, bF, bF, bF, bF, bF, bF, bF] rfl rfl (by kernel_rfl) (fun _ _ _ h => h) (Or.inl ⟨by rfl, ?_⟩) hHeld ?_ ?_
  rotate_left
  · rintro w' ⟨s0, s1, s2, s3, s4, s5, s6, s7⟩
    go_simp
    with_reducible rfl
  rotate_left
  · simp only [Act.put, lA, lB, lC, i64_w, i32_w]
    rfl
  refine take_ (i := 4) (N := some 65) (v := ?_) (a' := ?_) #[bT, bT, bT, bF, bT, bF, bF, bF, bF, bF, bF, bF, bF, bF, bF, bF] rfl rfl (by kernel_rfl) (fun _ _ _ h => h) (Or.inl ⟨by rfl, ?_⟩) hHeld ?_ ?_
  rotate_left
  · rintro w' ⟨s0, s1, s2, s3, s4, s5, s6, s7⟩
    go_simp
    with_reducible rfl
  rotate_left
  · simp only [Act.put, lA, lB, lC, i64_w, i32_w]
    rfl
  refine one_ (i := 3) (N := some 64) #[bT, bT, bT, bT, bT, bF, bF, bF, bF, bF, bF, bF, bF, bF, bF, bF] rfl rfl (by kernel_rfl) (by decide) (fun K hK => ?_)
  refine goes_ Tryz.func53 (by kernel_rfl) rfl #[.agg #[.slice Ayy l.base.slots.length ayy, .slice Byy l.base.vols.length byy, .slice Cyy no.length cyy, .int .i64 (l.ops.length : Int)], .int .i64 0] (by rfl) rfl rfl (by simp only [List.map_toArray, List.map_cons, List.map_nil]; rfl) ?_
  with_reducible refine (implLogFall_n (left := 0) (l := ⟨l.base, no, l.ops.length⟩) Vyy.out.inn HSy.out HFY.out).mono ?_
  rintro e w12 ⟨Af1, Bf1, Cf1, af1, bf1, cf1, rfl, hin, hb⟩
  replace Vl := Lib.hid (Vl.out.bel hb)
  replace Ovo := Lib.hid (Ovo.out.bel hb)
  replace Vwant := Lib.hid (Vwant.out.bel hb)
  replace Vx := Lib.hid (Vx.out.bel hb)
  replace Vk := Lib.hid (Vk.out.bel hb)
  replace Vyy := Lib.hid (Vyy.out.bel hb)
  replace KW := Lib.hid (KW.out.tr hb)
  have Jf1 := Lib.hid hin
  clear hin hb
  refine ⟨_, rfl, ?_⟩
  refine hK.out _ _ ⟨Vyy.out.c0, Vyy.out.c1, Vyy.out.c2, Vyy.out.c3, Vk.out.c0, Vk.out.c1, Vk.out.c2, Vk.out.c3⟩ (fun hHeld => ?_)
  clear hK K
  refine norm_ (a' := ?_) ?_ ?_
  rotate_left
  · show Act.put _ (some 64) _ = _
    simp only [Act.put, lA, lB, lC, i64_w, i32_w]
    rfl
  refine one_ (i := 5) (N := some 66) #[bT, bT, bT, bT, bT, bT, bF, bF, bF, bF, bF, bF, bF, bF, bF, bF] rfl rfl (by kernel_rfl) (by decide) (fun K hK => ?_)
  refine goes_ Tryz.func32 (by kernel_rfl) rfl #[.agg #[.slice Af1 l.base.slots.length af1, .slice Bf1 l.base.vols.length bf1, .slice Cf1 l.ops.length cf1, .int .i64 (l.ops.length : Int)], .agg #[.slice Ak l.base.slots.length ak, .slice Bk l.base.vols.length bk, .slice Ck l.ops.length ck, .int .i64 (l.ops.length : Int)]] (by rfl) rfl rfl (by simp only [List.map_toArray, List.map_cons, List.map_nil]; rfl) ?_
  with_reducible refine (lgLog_c (l := ⟨l.base, l.ops, l.ops.length⟩) Jf1.out Vk.out.inn HSk.out).mono ?_
  rintro e w13 ⟨rfl, hb⟩
  replace Vl := Lib.hid (Vl.out.bel hb)
  replace Ovo := Lib.hid (Ovo.out.bel hb)
  replace Vwant := Lib.hid (Vwant.out.bel hb)
  replace Vx := Lib.hid (Vx.out.bel hb)
  replace Vk := Lib.hid (Vk.out.bel hb)
  replace Vyy := Lib.hid (Vyy.out.bel hb)
  replace Jf1 := Lib.hid (Jf1.out.bel hb)
  replace KW := Lib.hid (KW.out.tr hb)
  clear hb
  refine ⟨_, rfl, ?_⟩
  refine hK.out _ _ ⟨Vyy.out.c0, Vyy.out.c1, Vyy.out.c2, Vyy.out.c3, Vk.out.c0, Vk.out.c1, Vk.out.c2, Vk.out.c3⟩ (fun hHeld => ?_)
  clear hK K
  refine norm_ (a' := ?_) ?_ ?_
  rotate_left
  · show Act.put _ (some 66) _ = _
    simp only [Act.put, lA, lB, lC, i64_w, i32_w]
    rfl
  refine pure_ (i := 6) (N := some 67) (v := ?_) (a' := ?_) #[bT, bT, bT, bT, bT, bT, bT, bF, bF, bF, bF, bF, bF, bF, bF, bF] rfl rfl (by kernel_rfl) (fun _ _ _ h => h) (Or.inl ⟨by rfl, ?_⟩) ?_ ?_
  rotate_left
  · intro w'
    go_simp
    with_reducible rfl
  rotate_left
  · simp only [Act.put, lA, lB, lC, i64_w, i32_w]
    rfl
  refine pure_ (i := 7) (N := some 68) (v := ?_) (a' := ?_) #[bT, bT, bT, bT, bT, bT, bT, bT, bF, bF, bF, bF, bF, bF, bF, bF] rfl rfl (by kernel_rfl) (fun _ _ _ h => h) (Or.inl ⟨by rfl, ?_⟩) ?_ ?_
  rotate_left
  · intro w'
    go_simp
    with_reducible rfl
  rotate_left
  · simp only [Act.put, lA, lB, lC, i64_w, i32_w]
    rfl
  refine take_ (i := 8) (N := some 69) (v := ?_) (a' := ?_) #[bT, bT, bT, bT, bT, bT, bT, bT, bT, bF, bF, bF, bF, bF, bF, bF] rfl rfl (by kernel_rfl) (fun _ _ _ h => h) (Or.inl ⟨by rfl, ?_⟩) hHeld ?_ ?_
  rotate_left
  · rintro w' ⟨s0, s1, s2, s3, s4, s5, s6, s7⟩
    go_simp
    with_reducible rfl
  rotate_left
  · simp only [Act.put, lA, lB, lC, i64_w, i32_w]
    rfl
  refine take_ (i := 11) (N := some 72) (v := ?_) (a' := ?_) #[bT, bT, bT, bT, bT, bT, bT, bT, bT, bF, bF, bT, bF, bF, bF, bF] rfl rfl (by kernel_rfl) (fun _ _ _ h => h) (Or.inl ⟨by rfl, ?_⟩) hHeld ?_ ?_
  rotate_left
  · rintro w' ⟨s0, s1, s2, s3, s4, s5, s6, s7⟩
    go_simp
    with_reducible rfl
  rotate_left
  · simp only [Act.put, lA, lB, lC, i64_w, i32_w]
    rfl
  refine one_ (i := 9) (N := some 70) #[bT, bT, bT, bT, bT, bT, bT, bT, bT, bT, bF, bT, bF, bF, bF, bF] rfl rfl (by kernel_rfl) (by decide) (fun K hK => ?_)
  refine goes_ Tryz.func51 (by kernel_rfl) rfl #[.agg #[.slice Ayy l.base.slots.length ayy, .slice Byy l.base.vols.length byy, .slice Cyy no.length cyy, .int .i64 (l.ops.length : Int)]] (by rfl) rfl rfl (by simp only [List.map_toArray, List.map_cons, List.map_nil]; rfl) ?_
  with_reducible refine (implLogKeep_n (l := ⟨l.base, no, l.ops.length⟩) Vyy.out.inn HSy.out HYE.out).mono ?_
  rintro e w14 ⟨Ag1, Bg1, Cg1, ag1, bg1, cg1, rfl, hin, hb⟩
  replace Vl := Lib.hid (Vl.out.bel hb)
  replace Ovo := Lib.hid (Ovo.out.bel hb)
  replace Vwant := Lib.hid (Vwant.out.bel hb)
  replace Vx := Lib.hid (Vx.out.bel hb)
  replace Vk := Lib.hid (Vk.out.bel hb)
  replace Vyy := Lib.hid (Vyy.out.bel hb)
  replace Jf1 := Lib.hid (Jf1.out.bel hb)
  replace KW := Lib.hid (KW.out.tr hb)
  have Jg1 := Lib.hid hin
  clear hin hb
  refine ⟨_, rfl, ?_⟩
  refine hK.out _ _ ⟨Vyy.out.c0, Vyy.out.c1, Vyy.out.c2, Vyy.out.c3, Vk.out.c0, Vk.out.c1, Vk.out.c2, Vk.out.c3⟩ (fun hHeld => ?_)
  clear hK K
  refine norm_ (a' := ?_) ?_ ?_
  rotate_left
  · show Act.put _ (some 70) _ = _
    simp only [Act.put, lA, lB, lC, i64_w, i32_w]
    rfl
  refine one_ (i := 10) (N := some 71) #[bT, bT, bT, bT, bT, bT, bT, bT, bT, bT, bT, bT, bF, bF, bF, bF] rfl rfl (by kernel_rfl) (by decide) (fun K hK => ?_)
  refine goes_ Tryz.func53 (by kernel_rfl) rfl #[.agg #[.slice Ag1 l.base.slots.length ag1, .slice Bg1 l.base.vols.length bg1, .slice Cg1 no.length cg1, .int .i64 (no.length : Int)], .int .i64 0] (by rfl) rfl rfl (by simp only [List.map_toArray, List.map_cons, List.map_nil]; rfl) ?_
  with_reducible refine (implLogFall_n (left := 0) (l := ⟨l.base, no, no.length⟩) Jg1.out HSky.out (keep_fall HKY.out rfl)).mono ?_
  rintro e w15 ⟨Ag2, Bg2, Cg2, ag2, bg2, cg2, rfl, hin, hb⟩
  replace Vl := Lib.hid (Vl.out.bel hb)
  replace Ovo := Lib.hid (Ovo.out.bel hb)
  replace Vwant := Lib.hid (Vwant.out.bel hb)
  replace Vx := Lib.hid (Vx.out.bel hb)
  replace Vk := Lib.hid (Vk.out.bel hb)
  replace Vyy := Lib.hid (Vyy.out.bel hb)
  replace Jf1 := Lib.hid (Jf1.out.bel hb)
  replace Jg1 := Lib.hid (Jg1.out.bel hb)
  replace KW := Lib.hid (KW.out.tr hb)
  have Jg2 := Lib.hid hin
  clear hin hb
  refine ⟨_, rfl, ?_⟩
  refine hK.out _ _ ⟨Vyy.out.c0, Vyy.out.c1, Vyy.out.c2, Vyy.out.c3, Vk.out.c0, Vk.out.c1, Vk.out.c2, Vk.out.c3⟩ (fun hHeld => ?_)
  clear hK K
  refine norm_ (a' := ?_) ?_ ?_
  rotate_left
  · show Act.put _ (some 71) _ = _
    simp only [Act.put, lA, lB, lC, i64_w, i32_w]
    rfl
  refine one_ (i := 12) (N := some 73) #[bT, bT, bT, bT, bT, bT, bT, bT, bT, bT, bT, bT, bT, bF, bF, bF] rfl rfl (by kernel_rfl) (by decide) (fun K hK => ?_)
  refine goes_ Tryz.func51 (by kernel_rfl) rfl #[.agg #[.slice Ayy l.base.slots.length ayy, .slice Byy l.base.vols.length byy, .slice Cyy no.length cyy, .int .i64 (l.ops.length : Int)]] (by rfl) rfl rfl (by simp only [List.map_toArray, List.map_cons, List.map_nil]; rfl) ?_
  with_reducible refine (implLogKeep_n (l := ⟨l.base, no, l.ops.length⟩) Vyy.out.inn HSy.out HYE.out).mono ?_
  rintro e w16 ⟨Ag3, Bg3, Cg3, ag3, bg3, cg3, rfl, hin, hb⟩
  replace Vl := Lib.hid (Vl.out.bel hb)
  replace Ovo := Lib.hid (Ovo.out.bel hb)
  replace Vwant := Lib.hid (Vwant.out.bel hb)
  replace Vx := Lib.hid (Vx.out.bel hb)
  replace Vk := Lib.hid (Vk.out.bel hb)
  replace Vyy := Lib.hid (Vyy.out.bel hb)
  replace Jf1 := Lib.hid (Jf1.out.bel hb)
  replace Jg1 := Lib.hid (Jg1.out.bel hb)
  replace Jg2 := Lib.hid (Jg2.out.bel hb)
  replace KW := Lib.hid (KW.out.tr hb)
  have Jg3 := Lib.hid hin
  clear hin hb
  refine ⟨_, rfl, ?_⟩
  refine hK.out _ _ ⟨Vyy.out.c0, Vyy.out.c1, Vyy.out.c2, Vyy.out.c3, Vk.out.c0, Vk.out.c1, Vk.out.c2, Vk.out.c3⟩ (fun hHeld => ?_)
  clear hK K
  refine norm_ (a' := ?_) ?_ ?_
  rotate_left
  · show Act.put _ (some 73) _ = _
    simp only [Act.put, lA, lB, lC, i64_w, i32_w]
    rfl
  refine one_ (i := 13) (N := some 74) #[bT, bT, bT, bT, bT, bT, bT, bT, bT, bT, bT, bT, bT, bT, bF, bF] rfl rfl (by kernel_rfl) (by decide) (fun K hK => ?_)
  refine goes_ Tryz.func32 (by kernel_rfl) rfl #[.agg #[.slice Ag2 l.base.slots.length ag2, .slice Bg2 l.base.vols.length bg2, .slice Cg2 no.length cg2, .int .i64 (no.length : Int)], .agg #[.slice Ag3 l.base.slots.length ag3, .slice Bg3 l.base.vols.length bg3, .slice Cg3 no.length cg3, .int .i64 (no.length : Int)]] (by rfl) rfl rfl (by simp only [List.map_toArray, List.map_cons, List.map_nil]; rfl) ?_
  with_reducible refine (lgLog_c (l := ⟨l.base, no, no.length⟩) Jg2.out Jg3.out HSky.out).mono ?_
  rintro e w17 ⟨rfl, hb⟩
  replace Vl := Lib.hid (Vl.out.bel hb)
  replace Ovo := Lib.hid (Ovo.out.bel hb)
  replace Vwant := Lib.hid (Vwant.out.bel hb)
  replace Vx := Lib.hid (Vx.out.bel hb)
  replace Vk := Lib.hid (Vk.out.bel hb)
  replace Vyy := Lib.hid (Vyy.out.bel hb)
  replace Jf1 := Lib.hid (Jf1.out.bel hb)
  replace Jg1 := Lib.hid (Jg1.out.bel hb)
  replace Jg2 := Lib.hid (Jg2.out.bel hb)
  replace Jg3 := Lib.hid (Jg3.out.bel hb)
  replace KW := Lib.hid (KW.out.tr hb)
  clear hb
  refine ⟨_, rfl, ?_⟩
  refine hK.out _ _ ⟨Vyy.out.c0, Vyy.out.c1, Vyy.out.c2, Vyy.out.c3, Vk.out.c0, Vk.out.c1, Vk.out.c2, Vk.out.c3⟩ (fun hHeld => ?_)
  clear hK K
  refine norm_ (a' := ?_) ?_ ?_
  rotate_left
  · show Act.put _ (some 74) _ = _
    simp only [Act.put, lA, lB, lC, i64_w, i32_w]
    rfl
  refine pure_ (i := 14) (N := some 75) (v := ?_) (a' := ?_) #[bT, bT, bT, bT, bT, bT, bT, bT, bT, bT, bT, bT, bT, bT, bT, bF] rfl rfl (by kernel_rfl) (fun _ _ _ h => h) (Or.inl ⟨by rfl, ?_⟩) ?_ ?_
  rotate_left
  · intro w'
    go_simp
    with_reducible rfl
  rotate_left
  · simp only [Act.put, lA, lB, lC, i64_w, i32_w]
    rfl
  refine pure_ (i := 15) (N := some 2) (v := ?_) (a' := ?_) #[bT, bT, bT, bT, bT, bT, bT, bT, bT, bT, bT, bT, bT, bT, bT, bT] rfl rfl (by kernel_rfl) (fun _ _ _ h => h) (Or.inl ⟨by rfl, ?_⟩) ?_ ?_
  rotate_left
  · intro w'
    go_simp
    with_reducible rfl
  rotate_left
  · simp only [Act.put, lA, lB, lC, i64_w, i32_w]
    rfl
  refine done_ (by kernel_rfl) ?_
  have el0 := Vl.out.c0
  have el1 := Vl.out.c1
  have el2 := Vl.out.c2
  have el3 := Vl.out.c3
  have eyl := Vl.out.lt
  have ewant0 : w17.cell? ⟨bkwant, 0, none⟩ = some (.slice Awant l.base.slots.length awant) := Vwant.out.c0
  have ewant1 : w17.cell? ⟨bkwant, 1, none⟩ = some (.slice Bwant l.base.vols.length bwant) := Vwant.out.c1
  have ewant2 : w17.cell? ⟨bkwant, 2, none⟩ = some (.slice Cwant no.length cwant) := Vwant.out.c2
  have ewant3 : w17.cell? ⟨bkwant, 3, none⟩ = some (.int .i64 l.safe) := Vwant.out.c3
  have eywant := Vwant.out.lt
  have ex0 : w17.cell? ⟨bkx, 0, none⟩ = some (.slice Ax l.base.slots.length ax) := Vx.out.c0
  have ex1 : w17.cell? ⟨bkx, 1, none⟩ = some (.slice Bx l.base.vols.length bx) := Vx.out.c1
  have ex2 : w17.cell? ⟨bkx, 2, none⟩ = some (.slice Cx no.length cx) := Vx.out.c2
  have ex3 : w17.cell? ⟨bkx, 3, none⟩ = some (.int .i64 l.safe) := Vx.out.c3
  have eyx := Vx.out.lt
  have ek0 : w17.cell? ⟨bkk, 0, none⟩ = some (.slice Ak l.base.slots.length ak) := Vk.out.c0
  have ek1 : w17.cell? ⟨bkk, 1, none⟩ = some (.slice Bk l.base.vols.length bk) := Vk.out.c1
  have ek2 : w17.cell? ⟨bkk, 2, none⟩ = some (.slice Ck l.ops.length ck) := Vk.out.c2
  have ek3 : w17.cell? ⟨bkk, 3, none⟩ = some (.int .i64 (l.ops.length : Int)) := Vk.out.c3
  have eyk := Vk.out.lt
  have eyy0 : w17.cell? ⟨bkyy, 0, none⟩ = some (.slice Ayy l.base.slots.length ayy) := Vyy.out.c0
  have eyy1 : w17.cell? ⟨bkyy, 1, none⟩ = some (.slice Byy l.base.vols.length byy) := Vyy.out.c1
  have eyy2 : w17.cell? ⟨bkyy, 2, none⟩ = some (.slice Cyy no.length cyy) := Vyy.out.c2
  have eyy3 : w17.cell? ⟨bkyy, 3, none⟩ = some (.int .i64 (l.ops.length : Int)) := Vyy.out.c3
  have eyyy := Vyy.out.lt
  have om0 : w17.cell? ⟨bko, 0, none⟩ = some (.int .i64 o.kind) := blkc Ovo.out 0 _ rfl
  have om1 : w17.cell? ⟨bko, 1, none⟩ = some (.string o.name) := blkc Ovo.out 1 _ rfl
  have om2 : w17.cell? ⟨bko, 2, none⟩ = some (.string o.dest) := blkc Ovo.out 2 _ rfl
  have om3 : w17.cell? ⟨bko, 3, none⟩ = some (.int .i64 o.n) := blkc Ovo.out 3 _ rfl
  have om4 : w17.cell? ⟨bko, 4, none⟩ = some (.string o.text) := blkc Ovo.out 4 _ rfl
  have omy := Ovo.out.lt
  go_wp2
  all_goals
    go_ret
    exact ⟨rfl, KW.out⟩
end Go.Proofs.YtccllgpaafgjaaaGreat

/- Contracts of the program's and the reference's functions, and the plain laws behind them: part 4 of 4. -/
import Derived.Test.YtccllgpaafgjaaaX3
/- A change as an argument: opened, measured, made anew. -/



namespace Go.Proofs.Ytccllgpaafgjaaa
open Go.RowKit Go.Proofs.YtccllgpaafgjaaaW.PrintWords Go.Joins Go.ChangeShapes Go.WideShapes Go.Deep
set_option linter.unusedVariables false
set_option linter.unusedSimpArgs false

theorem array5 {α : Type} {cs : Array α} (h : cs.size = 5) : ∃ c0 c1 c2 c3 c4, cs = #[c0, c1, c2, c3, c4] := by
  obtain ⟨l⟩ := cs
  match l, h with
  | [c0, c1, c2, c3, c4], _ => exact ⟨c0, c1, c2, c3, c4, rfl⟩
section
variable {H : Type} {enc : TypeId × Value → H} {P : Program} {w : World} {base : Nat} {spare : Nat → Bool} {held : Bool}
theorem trod_struct5 {t : TypeId} {f0 f1 f2 f3 f4 : Field} {fuel : Nat} {cs : List Value} {x : DataW H × List MemPlace} (ht : P.underlying t = some (.struct #[f0, f1, f2, f3, f4])) (h : DataW.trod enc P w base spare held fuel t cs = some x) :
    ∃ y0 y1 y2 y3 y4 n, cs.length = P.cellsOf t ∧ DataW.trod enc P w base spare held n f0.type ((cs.drop f0.offset).take (P.cellsOf f0.type)) = some y0 ∧
      DataW.trod enc P w base spare held n f1.type ((cs.drop f1.offset).take (P.cellsOf f1.type)) = some y1 ∧ DataW.trod enc P w base spare held n f2.type ((cs.drop f2.offset).take (P.cellsOf f2.type)) = some y2 ∧
      DataW.trod enc P w base spare held n f3.type ((cs.drop f3.offset).take (P.cellsOf f3.type)) = some y3 ∧ DataW.trod enc P w base spare held n f4.type ((cs.drop f4.offset).take (P.cellsOf f4.type)) = some y4 := by
  obtain ⟨xs, n, _, rfl, hl, hlen, hf⟩ := DataW.trod_struct ht h
  match xs, hlen with
  | [y0, y1, y2, y3, y4], _ => exact ⟨y0, y1, y2, y3, y4, n, hl, by simpa using hf 0 f0 rfl, by simpa using hf 1 f1 rfl, by simpa using hf 2 f2 rfl, by simpa using hf 3 f3 rfl, by simpa using hf 4 f4 rfl⟩
end
section
variable {H : Type} {enc : TypeId × Value → H} {w : World} {base : Nat} {spare : Nat → Bool} {held : Bool}
theorem five_cells {c : List Value} (h : c.length = 5) : ∃ a b d e f, c = [a, b, d, e, f] := by
  match c, h with
  | [a, b, d, e, f], _ => exact ⟨a, b, d, e, f, rfl⟩
/-- Lengths that a memory can bear. -/
structure RawO (o : Op) : Prop where
  name : o.name.size ≤ 9223372036854775807
  dest : o.dest.size ≤ 9223372036854775807
  text : o.text.size ≤ 9223372036854775807
  k0 : -9223372036854775808 ≤ o.kind
  k1 : o.kind ≤ 9223372036854775807
  n0 : -9223372036854775808 ≤ o.n
  n1 : o.n ≤ 9223372036854775807
theorem open_opE {n : Nat} {c : List Value} {y : DataW H × List MemPlace} (hl : c.length = 5) (h : DataW.trod enc Try.prog w base spare held n 110 c = some y) : ∃ o : Op, c = [.int .i64 o.kind, .string o.name, .string o.dest, .int .i64 o.n, .string o.text] ∧ RawO o := by
  obtain ⟨a, b, d, e, f, rfl⟩ := five_cells hl
  obtain ⟨y0, y1, y2, y3, y4, m, _, h0, h1, h2, h3, h4⟩ := trod_struct5 Try.underlying110 h
  simp only [cells_str, cells_int, List.drop_zero, List.drop_succ_cons, List.take_succ_cons, List.take_zero] at h0 h1 h2 h3 h4
  obtain ⟨k, e0, _, hk⟩ := DataW.trod_int Try.underlying3 h0
  obtain ⟨s1, e1, _, hs1⟩ := DataW.trod_string Try.underlying9 h1
  obtain ⟨s2, e2, _, hs2⟩ := DataW.trod_string Try.underlying9 h2
  obtain ⟨z, e3, _, hz⟩ := DataW.trod_int Try.underlying3 h3
  obtain ⟨s4, e4, _, hs4⟩ := DataW.trod_string Try.underlying9 h4
  simp only [List.cons.injEq, and_true] at e0 e1 e2 e3 e4
  have := big_max
  have hk' := bounds_i64 hk
  have hz' := bounds_i64 hz
  exact ⟨⟨k, s1, s2, z, s4⟩, by rw [e0, e1, e2, e3, e4], ⟨by show s1.size ≤ _; omega, by show s2.size ≤ _; omega, by show s4.size ≤ _; omega, hk'.1, hk'.2, hz'.1, hz'.2⟩⟩
end
set_option maxHeartbeats 2000000 in
theorem szOp_c (o : Op) (left : Int) (w : World) (h0 : 0 ≤ left) (h1 : left ≤ 1048576) (hr : RawO o) :
    Calls Try.prog 81 #[.agg #[.int .i64 o.kind, .string o.name, .string o.dest, .int .i64 o.n, .string o.text], .int .i64 left] w (Left (SmallO o) left w) := by
  have a1 := hr.name
  have a2 := hr.dest
  have a3 := hr.text
  clear hr
  go_enter Try.func81, Try.ntmps81
  by_cases c1 : left - (o.name.size : Int) < 0
  · go_wp2
    go_ret
    exact ⟨-1, rfl, bel_alloc (Below.refl _ _) _, by omega, by omega⟩
  by_cases c2 : left - (o.name.size : Int) - (o.dest.size : Int) < 0
  · have b1 : 0 ≤ left - (o.name.size : Int) := by omega
    go_wp2
    go_ret
    exact ⟨-1, rfl, bel_alloc (Below.refl _ _) _, by omega, by omega⟩
  by_cases c3 : left - (o.name.size : Int) - (o.dest.size : Int) - (o.text.size : Int) < 0
  · have b1 : 0 ≤ left - (o.name.size : Int) := by omega
    have b2 : 0 ≤ left - (o.name.size : Int) - (o.dest.size : Int) := by omega
    go_wp2
    go_ret
    exact ⟨-1, rfl, bel_alloc (Below.refl _ _) _, by omega, by omega⟩
  have b1 : 0 ≤ left - (o.name.size : Int) := by omega
  have b2 : 0 ≤ left - (o.name.size : Int) - (o.dest.size : Int) := by omega
  go_wp2
  go_ret
  exact ⟨_, rfl, bel_alloc (Below.refl _ _) _, fun _ => ⟨⟨by omega, by omega, by omega⟩, by omega⟩, by omega⟩
set_option maxHeartbeats 2000000 in
theorem toOp_c (o : Op) (w : World) : Calls Try.prog 85 #[.agg #[.int .i64 o.kind, .string o.name, .string o.dest, .int .i64 o.n, .string o.text]] w (Ret (.agg #[.int .i64 o.kind, .string o.name, .string o.dest, .int .i64 o.n, .string o.text]) w) := by
  go_enter Try.func85, Try.ntmps85
  go_wp2
  have hR : Blk (((w.alloc (.cells #[.int .i64 o.kind, .string o.name, .string o.dest, .int .i64 o.n, .string o.text] 110)).alloc (.cells #[.int .i64 o.kind, .string o.name, .string o.dest, .int .i64 o.n, .string o.text] 61)).alloc (.cells #[.int .i64 o.kind, .string o.name, .string o.dest, .int .i64 o.n, .string o.text] 61)) (w.heap.size + 1) #[.int .i64 o.kind, .string o.name, .string o.dest, .int .i64 o.n, .string o.text] 61 := (Blk.nw2 _ _ _ _).alloc _
  refine bodyPost_ret (results_cell_row rfl _ _ (w.heap.size + 1) 61 #[.int .i64 o.kind, .string o.name, .string o.dest, .int .i64 o.n, .string o.text] (0, 0) _ rfl hR Try.underlying61 rfl (by kernel_rfl)) rfl ?_
  exact ⟨rfl, bel_alloc (bel_alloc (bel_alloc (Below.refl _ _) _) _) _⟩
end Go.Proofs.Ytccllgpaafgjaaa
/- Rows of changes: eqOpS, heldOpS, markOpS, szOpS, toOpS, slices.Clone. -/




namespace Go.Proofs.Ytccllgpaafgjaaa
open Go.RowKit Go.Proofs.YtccllgpaafgjaaaW.PrintWords
set_option linter.unusedVariables false
set_option linter.unusedSimpArgs false

set_option maxHeartbeats 2000000 in
theorem eqOp_c (x : Op) (w : World) : Calls Try.prog 79 #[.agg #[.int .i64 x.kind, .string x.name, .string x.dest, .int .i64 x.n, .string x.text], .agg #[.int .i64 x.kind, .string x.name, .string x.dest, .int .i64 x.n, .string x.text]] w (Ret (.bool true) w) := by
  have h1 : (x.name.toList == x.name.toList) = true := by simp
  have h2 : (x.dest.toList == x.dest.toList) = true := by simp
  have h3 : (x.text.toList == x.text.toList) = true := by simp
  go_enter Try.func79, Try.ntmps79
  go_wp2
  go_ret
  exact ⟨rfl, bel_alloc (bel_alloc (Below.refl _ _) _) _⟩
set_option maxHeartbeats 4000000 in
theorem eqOpS_c {w : World} {A A' : Option Addr} {c c' : Nat} {xs : List Op} (hC : kOp.C w A xs.length xs) (hC' : kOp.C w A' xs.length xs) (hl : xs.length ≤ 1048576) :
    Calls Try.prog 41 #[.slice A xs.length c, .slice A' xs.length c'] w (Ret (.bool true) w) := by
  have H := Lib.hid hC
  have H' := Lib.hid hC'
  clear hC hC'
  go_enter Try.func41, Try.ntmps41
  go_wp2
  go_loopg [5] xs.length (fun g v W => ∃ k : Nat, g + k = xs.length ∧ v = .int .i64 k ∧ Bel w W)
  case atStart => exact ⟨0, rfl, rfl, Below.refl _ _⟩
  case round =>
    obtain ⟨k, hk, rfl, hW⟩ := hrel
    by_cases hlt : k < xs.length
    · obtain ⟨x, hx⟩ := getQ hlt
      obtain ⟨ad, rfl, a0, a1, a2, a3, a4⟩ := at_op (Kd.C_below H.out hW) hx
      obtain ⟨ad2, rfl, b0, b1, b2, b3, b4⟩ := at_op (Kd.C_below H'.out hW) hx
      have g0 := gb_cell a0
      have g1 := gb_cell a1
      have g2 := gb_cell a2
      have g3 := gb_cell a3
      have g4 := gb_cell a4
      have g5 := gb_cell b0
      have g6 := gb_cell b1
      have g7 := gb_cell b2
      have g8 := gb_cell b3
      have g9 := gb_cell b4
      clear hx a0 a1 a2 a3 a4 b0 b1 b2 b3 b4
      go_wp2
      refine wp_region_gb (by kernel_rfl) (by kernel_rfl) ?_
      repeat (first | go_big_quiet_skip | (go_big_quiet_want; go_big_quiet_op; first | go_big_quiet_on | (apply Exists.intro; refine ⟨fun _ => ?_, ?_⟩; (go_at_call 79; exact gb_call (eqOp_c _ _)); go_big_quiet_on)))
      refine wpQuiet_nil ?_
      rintro _ ⟨⟨w4, hb4⟩, rfl⟩
      go_wp2
      go_roundg (xs.length - (k + 1))
      case measure => omega
      case rel => exact ⟨k + 1, by omega, by go_num, hW.tr hb4⟩
    · go_wp2
      go_ret
      exact ⟨rfl, hW⟩

/-! ### marks -/
def mkO (k : Int) : Op := ⟨k, mkT (k + 1), mkT (k + 1 + 1), k + 1 + 1 + 1, mkT (k + 1 + 1 + 1 + 1)⟩
def MkO (k : Int) (s : List Op) : Prop := ∀ (i : Nat) (x : Op), s[i]? = some x → x = mkO (k + 5 * i)
theorem OwnO.put {w : World} {base g cap n : Nat} {s : List Op} (h : OwnO w base (.slice (some ⟨g, 0, none⟩) n cap) s) (hn : s.length = n) {m : Nat} (j : Nat) {x y : Op} {u : Value} (hx : s[m]? = some x) (hj : j < 5) (he : encO y = (encO x).set j u) :
    OwnO (w.setCell ⟨g, m * 5 + j, none⟩ u) base (.slice (some ⟨g, 0, none⟩) n cap) (s.set m y) ∧ w.grownBy (w.setCell ⟨g, m * 5 + j, none⟩ u) (some g) := by
  subst hn
  exact OwnO.set h hx hj he
theorem OwnO.cells {w : World} {base g cap n : Nat} {s : List Op} (h : OwnO w base (.slice (some ⟨g, 0, none⟩) n cap) s) {m : Nat} {x : Op} (hx : s[m]? = some x) :
    (w.cell? ⟨g, m * 5, none⟩ = some (.int .i64 x.kind) ∧ w.cell? ⟨g, m * 5 + 1, none⟩ = some (.string x.name) ∧ w.cell? ⟨g, m * 5 + 2, none⟩ = some (.string x.dest) ∧ w.cell? ⟨g, m * 5 + 3, none⟩ = some (.int .i64 x.n) ∧ w.cell? ⟨g, m * 5 + 4, none⟩ = some (.string x.text)) ∧ ∀ j, w.frozen? ⟨g, j, none⟩ = false := by
  obtain ⟨g', cap', e, _, _, _, hc, hf⟩ := h.at hx
  obtain ⟨rfl, -, rfl⟩ := by simpa using e
  exact ⟨⟨hc 0 (by omega), hc 1 (by omega), hc 2 (by omega), hc 3 (by omega), hc 4 (by omega)⟩, hf⟩
theorem getSet {α} {s : List α} {m : Nat} {x y : α} (hx : s[m]? = some x) : (s.set m y)[m]? = some y := List.getElem?_set_self (ltQ hx)
/-- What a marker of changes leaves. -/
def MarkedO (k : Int) (w : World) (base : Nat) (v : Value) (n : Nat) (e : Ending) (w' : World) : Prop := e = .returned (.int .i64 (k + 5 * n)) ∧ (∃ s, s.length = n ∧ OwnO w' base v s ∧ MkO k s) ∧ w.grownBy w' v.ownBlock
structure RawOs (s : List Op) : Prop where
  len : s.length ≤ 9223372036854775807
  op : ∀ x ∈ s, RawO x
set_option maxHeartbeats 4000000 in
theorem szOpS_c {w : World} {A : Option Addr} {c : Nat} {xs : List Op} {left : Int} (hC : kOp.C w A xs.length xs) (hr : RawOs xs) (h0 : 0 ≤ left) (h1 : left ≤ 1048576) :
    Calls Try.prog 53 #[.slice A xs.length c, .int .i64 left] w (Left (SmallOs xs) left w) := by
  have H := Lib.hid hC
  have HR := Lib.hid hr
  have hl := hr.len
  clear hC hr
  go_enter Try.func53, Try.ntmps53
  by_cases hn : left - (xs.length : Int) < 0
  · go_wp2
    go_ret
    exact ⟨-1, rfl, Below.refl _ _, by omega, by omega⟩
  · have hl2 : xs.length ≤ 1048576 := by omega
    go_wp2
    go_loopg [1, 5] xs.length (fun g v1 v W => ∃ (j : Nat) (q : Int), g + j = xs.length ∧ v = .int .i64 j ∧ v1 = .int .i64 q ∧ 0 ≤ q ∧ q ≤ left ∧ Hid (∀ x ∈ xs.take j, SmallO x) ∧ Bel w W)
    case atStart => exact ⟨0, left - xs.length, rfl, rfl, rfl, by omega, by omega, fun x hx => by simp at hx, Below.refl _ _⟩
    case round =>
      obtain ⟨j, q, hj, rfl, rfl, hq0, hq1, hd, hW⟩ := hrel
      by_cases hlt : j < xs.length
      · obtain ⟨x, hx⟩ := getQ hlt
        obtain ⟨ad, rfl, a0, a1, a2, a3, a4⟩ := at_op (Kd.C_below H.out hW) hx
        have HX := Lib.hid hx
        have hxt := Lib.hid (HR.out.op x (List.mem_of_getElem? hx))
        clear hx
        go_wp2_with fail
        refine (szOp_c x q _ hq0 (by omega) hxt.out).mono ?_
        rintro e w1 ⟨r, rfl, hb1, hr, hr1⟩
        have hr2 : r ≤ 1048576 := by by_cases h : 0 ≤ r; have := (hr h).2; omega; omega
        have HRR := Lib.hid hr
        clear hr
        by_cases hrn : r < 0
        · go_wp2
          go_ret
          exact ⟨-1, rfl, hW.tr hb1, by omega, by omega⟩
        · go_wp2
          go_roundg (xs.length - (j + 1))
          case measure => omega
          case rel =>
            have h5 := HRR.out (by omega)
            refine ⟨j + 1, r, by omega, by go_num, rfl, by omega, by omega, fun y hy => ?_, hW.tr hb1⟩
            rw [take_snoc HX.out, List.mem_append] at hy
            rcases hy with hy | hy
            · exact hd.out y hy
            · rw [List.mem_singleton.1 hy]; exact h5.1
      · have HT := Lib.hid (show xs.take j = xs by rw [List.take_of_length_le (by omega)])
        go_wp2
        go_ret
        exact ⟨q, rfl, hW, fun _ => ⟨⟨hl2, fun x hx => hd.out x (by rw [HT.out]; exact hx)⟩, hq1⟩, by omega⟩

theorem kOp_mkM (w : World) (base : Nat) (ok : Nat → Prop) (x : Op) : kOp.M w base ok x (encO x) := ⟨[.int .i64 x.kind], _, rfl, rfl, ⟨[.string x.name], _, rfl, rfl, ⟨[.string x.dest], _, rfl, rfl, ⟨[.int .i64 x.n], [.string x.text], rfl, rfl, rfl⟩⟩⟩⟩
theorem OwnO.putAll {w : World} {base g cap n : Nat} {s : List Op} (h : OwnO w base (.slice (some ⟨g, 0, none⟩) n cap) s) (hn : s.length = n) {m : Nat} {x : Op} (hx : s[m]? = some x) (y : Op) :
    OwnO (((((w.setCell ⟨g, m * 5, none⟩ (.int .i64 y.kind)).setCell ⟨g, m * 5 + 1, none⟩ (.string y.name)).setCell ⟨g, m * 5 + 2, none⟩ (.string y.dest)).setCell ⟨g, m * 5 + 3, none⟩ (.int .i64 y.n)).setCell ⟨g, m * 5 + 4, none⟩ (.string y.text)) base (.slice (some ⟨g, 0, none⟩) n cap) (s.set m y) := by
  have h1 := (OwnO.put h hn 0 (y := ⟨y.kind, x.name, x.dest, x.n, x.text⟩) (u := .int .i64 y.kind) hx (by omega) rfl).1
  have h2 := (OwnO.put h1 (by rw [List.length_set]; exact hn) 1 (y := ⟨y.kind, y.name, x.dest, x.n, x.text⟩) (u := .string y.name) (getSet hx) (by omega) rfl).1
  rw [List.set_set] at h2
  have h3 := (OwnO.put h2 (by rw [List.length_set]; exact hn) 2 (y := ⟨y.kind, y.name, y.dest, x.n, x.text⟩) (u := .string y.dest) (getSet hx) (by omega) rfl).1
  rw [List.set_set] at h3
  have h4 := (OwnO.put h3 (by rw [List.length_set]; exact hn) 3 (y := ⟨y.kind, y.name, y.dest, y.n, x.text⟩) (u := .int .i64 y.n) (getSet hx) (by omega) rfl).1
  rw [List.set_set] at h4
  have h5 := (OwnO.put h4 (by rw [List.length_set]; exact hn) 4 (y := y) (u := .string y.text) (getSet hx) (by omega) rfl).1
  rw [List.set_set] at h5
  exact h5
set_option maxHeartbeats 8000000 in
theorem toOpS_c {w : World} {A : Option Addr} {c : Nat} {xs : List Op} (hC : kOp.C w A xs.length xs) (hl : xs.length ≤ 1048576) :
    Calls Try.prog 56 #[.slice A xs.length c] w (MadeO w xs) := by
  have H := Lib.hid hC
  clear hC
  go_enter Try.func56, Try.ntmps56
  go_wp2_with ((with_reducible refine gate_dst (N := 7) rfl ?_); refine Kd.R_make (w0 := w) kOp _ 61 rfl (N := 7) rfl 24 _ _ rfl xs.length rfl rfl Try.underlying24 (.agg #[.int .i64 0, .string ⟨#[]⟩, .string ⟨#[]⟩, .int .i64 0, .string ⟨#[]⟩]) 64 info_opR rfl (by decide) (by omega) Op.z (ok := fun _ => True) (okp := fun _ => True) (kOp_mkM _ _ _ Op.z) (fun _ hk => hk) trivial (by omega) (by omega) (Below.refl _ _) (Nat.le_refl _) ?_; intro v1 w2 ho hb hg_ hnew_; clear hg_ hnew_)
  have ho1 : OwnO w2 w.heap.size v1 (List.replicate xs.length Op.z) := by have := ownO_of_R ho; rwa [Int.toNat_natCast] at this
  obtain ⟨A1, c1, rfl, hc1, hC1⟩ := ho1.reads
  rw [List.length_replicate] at hc1 ho1 ⊢
  have HO := Lib.hid ho1
  clear ho ho1 hC1
  go_loopg [4] xs.length (fun g v4 W => ∃ (j : Nat) (s' : List Op), g + j = xs.length ∧ v4 = .int .i64 j ∧ Hid (s'.length = xs.length) ∧ Hid (s'.take j = xs.take j) ∧ Hid (OwnO W w.heap.size (.slice A1 xs.length c1) s') ∧ Bel w W)
  case atStart => exact ⟨0, List.replicate xs.length Op.z, rfl, rfl, List.length_replicate, rfl, HO.out, hb⟩
  case round =>
    obtain ⟨j, s', hj, rfl, hl', ht, ho, hW⟩ := hrel
    by_cases hlt : j < xs.length
    · obtain ⟨x, hx⟩ := getQ hlt
      obtain ⟨ad, rfl, a0, a1, a2, a3, a4⟩ := at_op (Kd.C_below H.out hW) hx
      obtain ⟨y, hy⟩ := getQ (show j < s'.length by rw [hl'.out]; exact hlt)
      have HX := Lib.hid (And.intro hx hy)
      have HW := Lib.hid hW
      clear hx hy hW
      go_wp2_with fail
      refine (toOp_c x _).mono ?_
      rintro e w4 ⟨rfl, hb4⟩
      clear a0 a1 a2 a3 a4
      have ho4 := ho.out.bel hb4
      obtain ⟨g, cap, ev, hbg, hgw, hcap, hcc, hf⟩ := ho4.at HX.out.2
      obtain ⟨rfl, -, rfl⟩ := by simpa using ev
      have hst := OwnO.putAll ho4 hl'.out HX.out.2 x
      obtain ⟨⟨b0, b1, b2, b3, b4⟩, f⟩ := ho4.cells HX.out.2
      have H3 := Lib.hid (And.intro hst (And.intro (bel_set (bel_set (bel_set (bel_set (bel_set (HW.out.tr hb4) hbg (j * 5) (.int .i64 x.kind)) hbg (j * 5 + 1) (.string x.name)) hbg (j * 5 + 2) (.string x.dest)) hbg (j * 5 + 3) (.int .i64 x.n)) hbg (j * 5 + 4) (.string x.text)) (take_set_snoc HX.out.1 (ltQ HX.out.2) ht.out)))
      have f0 := f (j * 5)
      have f1 := f (j * 5 + 1)
      have f2 := f (j * 5 + 2)
      have f3 := f (j * 5 + 3)
      have f4 := f (j * 5 + 4)
      clear hst ev ho4 hb4 hcc hf f
      go_wp2
      go_roundg (xs.length - (j + 1))
      case measure => omega
      case rel => exact ⟨j + 1, s'.set j x, by omega, by go_num, by rw [Hid, List.length_set]; exact hl'.out, H3.out.2.2, H3.out.1, H3.out.2.1⟩
    · have HE := Lib.hid (show s' = xs by
        have h1 := ht.out
        rwa [List.take_of_length_le (by rw [hl'.out]; omega), List.take_of_length_le (by omega)] at h1)
      go_wp2
      go_ret
      exact ⟨_, rfl, HE.out ▸ ho.out, hW⟩
end Go.Proofs.Ytccllgpaafgjaaa
/- New nodes and new worlds. -/


namespace Go.Proofs.Ytccllgpaafgjaaa
open Go.RowKit Go.Proofs.YtccllgpaafgjaaaW.PrintWords
set_option linter.unusedVariables false
set_option linter.unusedSimpArgs false

/-- What the reference's NodeNew leaves: an empty list of its own. -/
def SpecN (up : Bool) (term : Int) (leads alone ok : Bool) (w : World) (e : Ending) (w' : World) : Prop := ∃ A c, e = .returned (.tuple #[.agg #[.bool up, .int .i64 term, .bool leads, .bool alone, .slice A 0 c], .bool ok]) ∧ Bel w w'
end Go.Proofs.Ytccllgpaafgjaaa
/- The reader of a code: what l6Open, pick, of leave. -/

namespace Go.Proofs.Ytccllgpaafgjaaa
open Go.RowKit Go.Proofs.YtccllgpaafgjaaaW.PrintWords Go.Proofs.YtccllgpaafgjaaaW.PrintLast
set_option linter.unusedVariables false
set_option linter.unusedSimpArgs false

abbrev kByte : Kd Int := Kd.int .u8
/-- Block rb is a reader that has picked at most k times; its code lies in front of it. -/
structure Rd (w : World) (rb k : Nat) : Prop where
  h : ∃ (A : Option Addr) (c : Nat) (bs : List Int) (p : Nat), Blk w rb #[.slice A bs.length c, .int .i64 p] 108 ∧ kByte.C w A bs.length bs ∧ (∀ x ∈ bs, 0 ≤ x ∧ x ≤ 255) ∧ bs.length ≤ 2000 ∧ p ≤ k ∧ ∀ ad, A = some ad → ad.block < rb
theorem Rd.lt {w : World} {rb k : Nat} (h : Rd w rb k) : rb < w.heap.size := by
  obtain ⟨_, _, _, _, hb, _⟩ := h.h
  exact hb.lt
theorem Rd.more {w : World} {rb k k' : Nat} (h : Rd w rb k) (hk : k ≤ k') : Rd w rb k' := by
  obtain ⟨A, c, bs, p, h1, h2, h3, h4, h5, h6⟩ := h.h
  exact ⟨⟨A, c, bs, p, h1, h2, h3, h4, Nat.le_trans h5 hk, h6⟩⟩
theorem Rd.bel {w w' : World} {rb k : Nat} (h : Rd w rb k) (hb : Bel w w') : Rd w' rb k := by
  obtain ⟨A, c, bs, p, h1, h2, h3, h4, h5, h6⟩ := h.h
  exact ⟨⟨A, c, bs, p, h1.bel hb, Kd.C_below h2 hb, h3, h4, h5, h6⟩⟩
/-- A drawing function: v is told by V; at most d picks; of what was there only the reader has turned. -/
def Drawn (rb k d : Nat) (V : Value → Prop) (w : World) (e : Ending) (w' : World) : Prop := ∃ v, e = .returned v ∧ V v ∧ Rd w' rb (k + d) ∧ w.grownBy w' (some rb)
theorem add_block (ad : Addr) (n : Nat) : (ad.add n).block = ad.block := by unfold Addr.add; split <;> rfl
def PickV (n : Int) (v : Value) : Prop := ∃ r : Int, v = .int .i64 r ∧ 0 ≤ r ∧ (1 ≤ n → r < n) ∧ (n < 1 → r = 0)
end Go.Proofs.Ytccllgpaafgjaaa
/- l6Open, of; l71Text. -/


namespace Go.Proofs.Ytccllgpaafgjaaa
open Go.RowKit Go.Proofs.YtccllgpaafgjaaaW.PrintWords Go.Proofs.YtccllgpaafgjaaaW.PrintLast
set_option linter.unusedVariables false
set_option linter.unusedSimpArgs false

/-- What l6Open leaves: a new reader. -/
def Opened (w : World) (e : Ending) (w' : World) : Prop := ∃ rb, e = .returned (.pointer (some ⟨rb, 0, none⟩)) ∧ Rd w' rb 0 ∧ w.heap.size ≤ rb ∧ Bel w w'
/-- A code that came in. -/
structure CodeIn (w : World) (A : Option Addr) (n c : Nat) (bs : List Int) : Prop where
  len : bs.length = n
  cap : n ≤ c
  C : kByte.C w A n bs
  bd : ∀ x ∈ bs, 0 ≤ x ∧ x ≤ 255
  lt : ∀ ad, A = some ad → ad.block < w.heap.size
theorem CodeIn.bel {w w' : World} {A : Option Addr} {n c : Nat} {bs : List Int} (h : CodeIn w A n c bs) (hb : Bel w w') : CodeIn w' A n c bs := ⟨h.len, h.cap, Kd.C_below h.C hb, h.bd, fun ad e => Nat.lt_of_lt_of_le (h.lt ad e) hb.size⟩
def OfV (xs : List ByteArray) (v : Value) : Prop := ∃ s, v = .string s ∧ s ∈ xs
def TextV (v : Value) : Prop := ∃ s : ByteArray, v = .string s ∧ s.size ≤ 7
def sOf (l : List UInt8) : ByteArray := ⟨l.toArray⟩
def abc : List ByteArray := [sOf [97], sOf [98], sOf [99], sOf [100], sOf [97]]
def eee : List ByteArray := [sOf [101], sOf [97, 97, 97, 97], sOf [32], sOf [65]]
end Go.Proofs.Ytccllgpaafgjaaa
/- areOps, NodeOk of the program; lgNode at empty lists; FnNodeNew. -/



namespace Go.Proofs.Ytccllgpaafgjaaa
open Go.RowKit Go.Proofs.YtccllgpaafgjaaaW.PrintWords Go.Proofs.YtccllgpaafgjaaaW.PrintLast
set_option linter.unusedVariables false
set_option linter.unusedSimpArgs false

theorem newP_ok : PoolP newP := poolOk_iff.1 (by kernel_rfl)
theorem isTerm_c (t : Int) (w : World) : Calls Try.prog 51 #[.int .i64 t] w (Same (.bool (inR t 0 99)) w) := by
  go_enter Try.func51, Try.ntmps51
  go_wp2_with (go_at_call 60; refine (within_c t 0 99 _).mono ?_; rintro e w' ⟨rfl, rfl⟩)
  go_ret
  exact ⟨rfl, rfl⟩
set_option maxHeartbeats 2000000 in
theorem areOps_c {w : World} {A : Option Addr} {c : Nat} {os : List Op} (hC : kOp.C w A os.length os) (ho : SmallOs os) :
    Calls Try.prog 52 #[.slice A os.length c] w (Ret (.bool (runB newP os && decide (os.length ≤ 20))) w) := by
  have HC := Lib.hid hC
  have HO := Lib.hid ho
  have hl := ho.len
  obtain ⟨b, hb⟩ : ∃ b, runB newP os = b := ⟨_, rfl⟩
  obtain ⟨d, hd⟩ : ∃ d, decide (os.length ≤ 20) = d := ⟨_, rfl⟩
  have hdi : decide ((os.length : Int) ≤ 20) = d := by rw [← hd]; congr 1; exact propext ⟨fun h => by omega, fun h => by omega⟩
  rw [hb, hd]
  have HRB := Lib.hid hb
  clear hC ho hd hb
  go_enter Try.func52, Try.ntmps52
  go_wp2_with fail
  refine (implPoolNew_c _).mono ?_
  rintro e w1 ⟨v0, v1, bvs, rfl, hp, hb1⟩
  obtain ⟨A0, A1, c0, c1, rfl, rfl, hpi⟩ := hp.reads
  clear hpi
  go_wp2_with fail
  refine (doAll_c hp.inn newP_ok.small (Kd.C_below HC.out hb1) HO.out).mono ?_
  rw [HRB.out]
  generalize runV newP os = q
  rintro e w2 ⟨u0, u1, bu, rfl, hu, hb2⟩
  obtain ⟨E0, E1, k0, k1, rfl, rfl, hpi⟩ := hu.reads
  have HB := Lib.hid (hb1.tr hb2)
  clear hpi hu hp hb1 hb2
  cases b <;>
    (go_wp2
     go_ret
     exact ⟨rfl, bel_alloc HB.out _⟩)
def NV (n : Node) (A : Option Addr) (c : Nat) : Value := .agg #[.bool n.up, .int .i64 n.term, .bool n.leads, .bool n.alone, .slice A n.ops.length c]
set_option maxHeartbeats 4000000 in
theorem implNodeOk_c {w : World} {A : Option Addr} {c : Nat} {n : Node} (hC : kOp.C w A n.ops.length n.ops) (ho : SmallOs n.ops) :
    Calls Try.prog 19 #[.agg #[.bool n.up, .int .i64 n.term, .bool n.leads, .bool n.alone, .slice A n.ops.length c]] w (Ret (.bool (nodeOk n)) w) := by
  obtain ⟨up, term, leads, alone, os⟩ := n
  unfold nodeOk
  simp only at hC ho ⊢
  have HC := Lib.hid hC
  have HO := Lib.hid ho
  clear hC ho
  obtain ⟨t, ht⟩ : ∃ t, inR term 0 99 = t := ⟨_, rfl⟩
  obtain ⟨b, hb⟩ : ∃ b, (runB newP os && decide (os.length ≤ 20)) = b := ⟨_, rfl⟩
  rw [ht, hb]
  have HT := Lib.hid ht
  have HB := Lib.hid hb
  clear ht hb
  have hA : ∀ W : World, Bel w W → Calls Try.prog 52 #[.slice A os.length c] W (Ret (.bool b) W) := fun W h => HB.out ▸ areOps_c (Kd.C_below HC.out h) HO.out
  have hI : ∀ W : World, Calls Try.prog 51 #[.int .i64 term] W (Same (.bool t) W) := fun W => HT.out ▸ isTerm_c term W
  have HA := Lib.hid hA
  have HI := Lib.hid hI
  clear hA hI
  go_enter Try.func19, Try.ntmps19
  cases t <;> cases leads <;> cases alone <;> cases b <;>
    (go_wp2_with (first | (go_at_call 51; refine (HI.out _).mono ?_; rintro e w' ⟨rfl, rfl⟩) | (go_at_call 52; refine (HA.out _ (bel_alloc (Below.refl _ _) _)).mono ?_; rintro e w3 ⟨rfl, hb3⟩))
     go_ret
     first | exact ⟨rfl, bel_alloc (Below.refl _ _) _⟩ | exact ⟨rfl, (bel_alloc (Below.refl _ _) _ : Bel w _).tr hb3⟩)
end Go.Proofs.Ytccllgpaafgjaaa
/- NodeOk of the reference. -/


namespace Go.Proofs.Ytccllgpaafgjaaa
open Go.RowKit Go.Proofs.YtccllgpaafgjaaaW.PrintWords Go.Proofs.YtccllgpaafgjaaaW.PrintLast
set_option linter.unusedVariables false
set_option linter.unusedSimpArgs false

set_option maxHeartbeats 16000000 in
set_option maxRecDepth 10000 in
theorem specNodeOk_c {w : World} {A : Option Addr} {c : Nat} {n : Node} (hC : kOp.C w A n.ops.length n.ops) (ho : SmallOs n.ops) :
    Calls Try.prog 21 #[.agg #[.bool n.up, .int .i64 n.term, .bool n.leads, .bool n.alone, .slice A n.ops.length c]] w (Ret (.bool (nodeOk n)) w) := by
  obtain ⟨up, term, leads, alone, os⟩ := n
  unfold nodeOk
  simp only at hC ho ⊢
  have hl := ho.len
  have HC := Lib.hid hC
  have HO := Lib.hid ho
  clear hC ho
  obtain ⟨t, ht⟩ : ∃ t, inR term 0 99 = t := ⟨_, rfl⟩
  obtain ⟨d, hd⟩ : ∃ d, decide (os.length ≤ 20) = d := ⟨_, rfl⟩
  have hdi : decide (20 < (os.length : Int)) = !d := by rw [← hd]; by_cases h : os.length ≤ 20 <;> simp [h] <;> omega
  have hrb : runB newP os = (runP newP os).isSome := by unfold runB; rw [poolOk_iff.2 newP_ok]; rfl
  obtain ⟨b, hb⟩ : ∃ b, (runP newP os).isSome = b := ⟨_, rfl⟩
  rw [ht, hrb, hb, hd]
  have HT := Lib.hid ht
  have HB := Lib.hid hb
  clear ht hb hrb hd
  have HI := Lib.hid (fun W : World => (HT.out ▸ l6In_c term 0 99 W : Calls Try.prog 50 #[.int .i64 term, .int .i64 0, .int .i64 99] W (Same (.bool t) W)))
  go_enter Try.func21, Try.ntmps21
  by_cases hgo : t = true ∧ (alone = true → leads = true) ∧ d = true
  · obtain ⟨rfl, hal, rfl⟩ := hgo
    have hal2 : leads = true ∨ leads = false ∧ alone = false := by cases leads <;> cases alone <;> simp_all
    have hfin : (leads || !alone) = true := by cases leads <;> cases alone <;> simp_all
    rw [hfin]
    simp only [Bool.true_and, Bool.and_true]
    clear hal hfin
    rcases hal2 with rfl | ⟨rfl, rfl⟩
    · cases alone
      · skip
        have hN : Blk (w.alloc (.cells #[.bool up, .int .i64 term, .bool true, .bool false, .slice A os.length c] 34)) w.heap.size #[.bool up, .int .i64 term, .bool true, .bool false, .slice A os.length c] 34 := Blk.new _ _ _
        have hW : Bel w (w.alloc (.cells #[.bool up, .int .i64 term, .bool true, .bool false, .slice A os.length c] 34)) := bel_alloc (Below.refl _ _) _
        go_wp2_with (go_at_call 50; refine (HI.out _).mono ?_; rintro e w' ⟨rfl, rfl⟩)
        generalize w.alloc (.cells #[.bool up, .int .i64 term, .bool true, .bool false, .slice A os.length c] 34) = W1 at hN hW ⊢
        have hfx := Lib.hid (fun (W : World) (hb : Bel W1.drew W) => (show W.cell? ⟨w.heap.size, 4, none⟩ = some (.slice A os.length c) by rw [((hN.bel (Below.refl _ _).drew).bel hb).cell]; rfl))
        have HW := Lib.hid hW
        have hC1 : kOp.C W1.drew A os.length os := Kd.C_below HC.out (hW.tr (Below.refl _ _).drew)
        have hrun := Lib.hid (fun (W : World) (v0 v1 : Value) (bvs : List Value) (h : OwnP W W1.drew.heap.size v0 v1 newP bvs) (hb : Bel W1.drew W) => l13Run_c (c2 := c) h newP_ok (Below.size hb) hC1 (Nat.le_refl _) hb HO.out)
        unfold RunsP at hrun
        rw [HB.out] at hrun
        have D0 := Lib.hid (show Bel W1.drew W1.drew from Below.refl _ _)
        clear hN hW hC1
        have s0 := hfx.out _ D0.out
        refine start_ (n := 10) (S := fun w' => w'.cell? ⟨w.heap.size, 4, none⟩ = some (.slice A os.length c)) (ds := [8]) #[false, false, false, false, false, false, false, false, false, false] (by kernel_rfl) rfl rfl (s0) (fun hHeld => ?_)
        refine pure_ (i := 1) (N := some 26) (v := ?_) (a' := ?_) #[false, true, false, false, false, false, false, false, false, false] rfl rfl (by kernel_rfl) (fun _ _ _ h => h) (Or.inl ⟨by rfl, ?_⟩) ?_ ?_
        rotate_left
        · intro w'
          go_simp
          with_reducible rfl
        rotate_left
        · simp only [Act.put, List.setIfInBounds_toArray, List.set_cons_zero, List.set_cons_succ, i64_w, i32_w]
          rfl
        refine take_ (i := 2) (N := some 27) (v := ?_) (a' := ?_) #[false, true, true, false, false, false, false, false, false, false] rfl rfl (by kernel_rfl) (fun _ _ _ h => h) (Or.inl ⟨by rfl, ?_⟩) hHeld ?_ ?_
        rotate_left
        · intro w' s0
          go_simp
          with_reducible rfl
        rotate_left
        · simp only [Act.put, List.setIfInBounds_toArray, List.set_cons_zero, List.set_cons_succ, i64_w, i32_w]
          rfl
        refine join_ (σ := Value × Value × Option Addr × Nat × Nat × Option Addr × Nat × Nat × Nat) 2 #[true, true, true, true, true, true, true, true, false, false] (fun s => [(25, .agg #[s.1, s.2.1]), (28, .tuple #[.agg #[.slice s.2.2.1 s.2.2.2.1 s.2.2.2.2.1, .slice s.2.2.2.2.2.1 s.2.2.2.2.2.2.1 s.2.2.2.2.2.2.2.1], .bool b]), (24, .tuple #[.agg #[.slice s.2.2.1 s.2.2.2.1 s.2.2.2.2.1, .slice s.2.2.2.2.2.1 s.2.2.2.2.2.2.1 s.2.2.2.2.2.2.2.1], .bool b]), (29, .agg #[.slice s.2.2.1 s.2.2.2.1 s.2.2.2.2.1, .slice s.2.2.2.2.2.1 s.2.2.2.2.2.2.1 s.2.2.2.2.2.2.2.1]), (30, .bool b), (3, .pointer (some ⟨s.2.2.2.2.2.2.2.2, 0, none⟩))]) (fun s w' => (w'.cell? ⟨w.heap.size, 4, none⟩ = some (.slice A os.length c)) ∧ Blk w' s.2.2.2.2.2.2.2.2 #[.slice none 0 0, .slice none 0 0] 49 ∧ W1.drew.heap.size ≤ s.2.2.2.2.2.2.2.2 ∧ Bel W1.drew w') ?_ ?_
        rotate_left
        · intro hCont
          refine two_ (i := 0) (j := 7) (Ni := some 25) (Nj := some 3) #[true, true, true, false, false, false, false, false, false, false] #[false, true, true, false, false, false, false, true, false, false] rfl rfl rfl rfl (by kernel_rfl) (by decide) (by decide) (fun K hK => ?_) (fun K hK => ?_)
          · skip
            refine goes_ Try.func55 (by kernel_rfl) rfl #[] (by rfl) rfl rfl (by simp only [List.map_toArray, List.map_cons, List.map_nil]) ?_
            with_reducible refine (specPoolNew_c _).mono ?_
            rintro e w1_ ⟨va, vb, bva, rfl, ho, X1⟩
            have D1 := Lib.hid (Bel.tr D0.out X1)
            have P1 : Hid (OwnP w1_ W1.drew.heap.size va vb newP bva) := Lib.hid (ho.lower D0.out.size)
            clear ho
            refine ⟨_, rfl, ?_⟩
            refine hK.out _ _ (hfx.out _ D1.out) (fun hHeld => ?_)
            clear hK K
            refine norm_ (a' := ?_) ?_ ?_
            rotate_left
            · show Act.put _ (some 25) _ = _
              simp only [Act.put, List.setIfInBounds_toArray, List.set_cons_zero, List.set_cons_succ, i64_w, i32_w]
              rfl
            refine two_ (i := 3) (j := 7) (Ni := some 28) (Nj := some 3) #[true, true, true, true, false, false, false, false, false, false] #[true, true, true, false, false, false, false, true, false, false] rfl rfl rfl rfl (by kernel_rfl) (by decide) (by decide) (fun K hK => ?_) (fun K hK => ?_)
            · skip
              refine goes_ Try.func54 (by kernel_rfl) rfl #[.agg #[va, vb], .slice A os.length c] (by rfl) rfl rfl (by simp only [List.map_toArray, List.map_cons, List.map_nil]; rfl) ?_
              with_reducible refine (hrun.out _ va vb bva P1.out D1.out).mono ?_
              rintro e w2_ ⟨A2, A3, n2, n3, k2, k3, rfl, hq, X2⟩
              have D2 : Hid (Bel W1.drew w2_) := Lib.hid (D1.out.trans X2.b)
              clear hq
              refine ⟨_, rfl, ?_⟩
              refine hK.out _ _ (hfx.out _ D2.out) (fun hHeld => ?_)
              clear hK K
              refine norm_ (a' := ?_) ?_ ?_
              rotate_left
              · show Act.put _ (some 28) _ = _
                simp only [Act.put, List.setIfInBounds_toArray, List.set_cons_zero, List.set_cons_succ, i64_w, i32_w]
                rfl
              refine pure_ (i := 4) (N := some 24) (v := ?_) (a' := ?_) #[true, true, true, true, true, false, false, false, false, false] rfl rfl (by kernel_rfl) (fun _ _ _ h => h) (Or.inl ⟨by rfl, ?_⟩) ?_ ?_
              rotate_left
              · intro w'
                go_simp
                with_reducible rfl
              rotate_left
              · simp only [Act.put, List.setIfInBounds_toArray, List.set_cons_zero, List.set_cons_succ, i64_w, i32_w]
                rfl
              refine pure_ (i := 5) (N := some 29) (v := ?_) (a' := ?_) #[true, true, true, true, true, true, false, false, false, false] rfl rfl (by kernel_rfl) (fun _ _ _ h => h) (Or.inl ⟨by rfl, ?_⟩) ?_ ?_
              rotate_left
              · intro w'
                go_simp
                with_reducible rfl
              rotate_left
              · simp only [Act.put, List.setIfInBounds_toArray, List.set_cons_zero, List.set_cons_succ, i64_w, i32_w]
                rfl
              refine pure_ (i := 6) (N := some 30) (v := ?_) (a' := ?_) #[true, true, true, true, true, true, true, false, false, false] rfl rfl (by kernel_rfl) (fun _ _ _ h => h) (Or.inl ⟨by rfl, ?_⟩) ?_ ?_
              rotate_left
              · intro w'
                go_simp
                with_reducible rfl
              rotate_left
              · simp only [Act.put, List.setIfInBounds_toArray, List.set_cons_zero, List.set_cons_succ, i64_w, i32_w]
                rfl
              refine one_ (i := 7) (N := some 3) #[true, true, true, true, true, true, true, true, false, false] rfl rfl (by kernel_rfl) (by decide) (fun K hK => ?_)
              refine value_ (w1 := ?_) (v := ?_) (by rfl) rfl ?_ ?_
              rotate_left 2
              · go_simp
                constructor
                · rfl
                · rfl
              have D3 : Hid (Bel W1.drew (w2_.alloc (.cells #[.slice none 0 0, .slice none 0 0] 49))) := Lib.hid (bel_alloc D2.out (.cells #[.slice none 0 0, .slice none 0 0] 49))
              have O3 : Hid (Blk (w2_.alloc (.cells #[.slice none 0 0, .slice none 0 0] 49)) w2_.heap.size #[.slice none 0 0, .slice none 0 0] 49) := Lib.hid (Blk.new w2_ #[.slice none 0 0, .slice none 0 0] 49)
              have L3 := D2.out.size
              refine hK.out _ _ (hfx.out _ D3.out) (fun hHeld => ?_)
              clear hK K
              refine norm_ (a' := ?_) ?_ ?_
              rotate_left
              · show Act.put _ (some 3) _ = _
                simp only [Act.put, List.setIfInBounds_toArray, List.set_cons_zero, List.set_cons_succ, i64_w, i32_w]
                rfl
              exact norm_ (by simp only [putAll, Act.put, List.setIfInBounds_toArray, List.set_cons_zero, List.set_cons_succ]) (hCont (va, vb, A2, n2, k2, A3, n3, k3, w2_.heap.size) _ ⟨hHeld, O3.out, L3, D3.out⟩)
            · skip
              refine value_ (w1 := ?_) (v := ?_) (by rfl) rfl ?_ ?_
              rotate_left 2
              · go_simp
                constructor
                · rfl
                · rfl
              have D2 : Hid (Bel W1.drew (w1_.alloc (.cells #[.slice none 0 0, .slice none 0 0] 49))) := Lib.hid (bel_alloc D1.out (.cells #[.slice none 0 0, .slice none 0 0] 49))
              have P2 := Lib.hid (OwnP.bel P1.out (bel_alloc (Below.refl _ _) (.cells #[.slice none 0 0, .slice none 0 0] 49)))
              have O2 : Hid (Blk (w1_.alloc (.cells #[.slice none 0 0, .slice none 0 0] 49)) w1_.heap.size #[.slice none 0 0, .slice none 0 0] 49) := Lib.hid (Blk.new w1_ #[.slice none 0 0, .slice none 0 0] 49)
              have L2 := D1.out.size
              refine hK.out _ _ (hfx.out _ D2.out) (fun hHeld => ?_)
              clear hK K
              refine norm_ (a' := ?_) ?_ ?_
              rotate_left
              · show Act.put _ (some 3) _ = _
                simp only [Act.put, List.setIfInBounds_toArray, List.set_cons_zero, List.set_cons_succ, i64_w, i32_w]
                rfl
              refine one_ (i := 3) (N := some 28) #[true, true, true, true, false, false, false, true, false, false] rfl rfl (by kernel_rfl) (by decide) (fun K hK => ?_)
              refine goes_ Try.func54 (by kernel_rfl) rfl #[.agg #[va, vb], .slice A os.length c] (by rfl) rfl rfl (by simp only [List.map_toArray, List.map_cons, List.map_nil]; rfl) ?_
              with_reducible refine (hrun.out _ va vb bva P2.out D2.out).mono ?_
              rintro e w3_ ⟨A2, A3, n2, n3, k2, k3, rfl, hq, X3⟩
              have D3 : Hid (Bel W1.drew w3_) := Lib.hid (D2.out.trans X3.b)
              clear hq
              have O3 := Lib.hid (X3.k _ _ _ (by decide) (by decide) (by decide) O2.out)
              refine ⟨_, rfl, ?_⟩
              refine hK.out _ _ (hfx.out _ D3.out) (fun hHeld => ?_)
              clear hK K
              refine norm_ (a' := ?_) ?_ ?_
              rotate_left
              · show Act.put _ (some 28) _ = _
                simp only [Act.put, List.setIfInBounds_toArray, List.set_cons_zero, List.set_cons_succ, i64_w, i32_w]
                rfl
              refine pure_ (i := 4) (N := some 24) (v := ?_) (a' := ?_) #[true, true, true, true, true, false, false, true, false, false] rfl rfl (by kernel_rfl) (fun _ _ _ h => h) (Or.inl ⟨by rfl, ?_⟩) ?_ ?_
              rotate_left
              · intro w'
                go_simp
                with_reducible rfl
              rotate_left
              · simp only [Act.put, List.setIfInBounds_toArray, List.set_cons_zero, List.set_cons_succ, i64_w, i32_w]
                rfl
              refine pure_ (i := 5) (N := some 29) (v := ?_) (a' := ?_) #[true, true, true, true, true, true, false, true, false, false] rfl rfl (by kernel_rfl) (fun _ _ _ h => h) (Or.inl ⟨by rfl, ?_⟩) ?_ ?_
              rotate_left
              · intro w'
                go_simp
                with_reducible rfl
              rotate_left
              · simp only [Act.put, List.setIfInBounds_toArray, List.set_cons_zero, List.set_cons_succ, i64_w, i32_w]
                rfl
              refine pure_ (i := 6) (N := some 30) (v := ?_) (a' := ?_) #[true, true, true, true, true, true, true, true, false, false] rfl rfl (by kernel_rfl) (fun _ _ _ h => h) (Or.inl ⟨by rfl, ?_⟩) ?_ ?_
              rotate_left
              · intro w'
                go_simp
                with_reducible rfl
              rotate_left
              · simp only [Act.put, List.setIfInBounds_toArray, List.set_cons_zero, List.set_cons_succ, i64_w, i32_w]
                rfl
              exact norm_ (by simp only [putAll, Act.put, List.setIfInBounds_toArray, List.set_cons_zero, List.set_cons_succ]) (hCont (va, vb, A2, n2, k2, A3, n3, k3, w1_.heap.size) _ ⟨hHeld, O3.out, L2, D3.out⟩)
          · skip
            refine value_ (w1 := ?_) (v := ?_) (by rfl) rfl ?_ ?_
            rotate_left 2
            · go_simp
              constructor
              · rfl
              · rfl
            have D1 : Hid (Bel W1.drew (W1.alloc (.cells #[.slice none 0 0, .slice none 0 0] 49)).drew) := Lib.hid (bel_alloc D0.out (.cells #[.slice none 0 0, .slice none 0 0] 49))
            have O1 : Hid (Blk (W1.alloc (.cells #[.slice none 0 0, .slice none 0 0] 49)).drew W1.drew.heap.size #[.slice none 0 0, .slice none 0 0] 49) := Lib.hid (Blk.new W1.drew #[.slice none 0 0, .slice none 0 0] 49)
            have L1 := D0.out.size
            refine hK.out _ _ (hfx.out _ D1.out) (fun hHeld => ?_)
            clear hK K
            refine norm_ (a' := ?_) ?_ ?_
            rotate_left
            · show Act.put _ (some 3) _ = _
              simp only [Act.put, List.setIfInBounds_toArray, List.set_cons_zero, List.set_cons_succ, i64_w, i32_w]
              rfl
            refine one_ (i := 0) (N := some 25) #[true, true, true, false, false, false, false, true, false, false] rfl rfl (by kernel_rfl) (by decide) (fun K hK => ?_)
            refine goes_ Try.func55 (by kernel_rfl) rfl #[] (by rfl) rfl rfl (by simp only [List.map_toArray, List.map_cons, List.map_nil]) ?_
            with_reducible refine (specPoolNew_c _).mono ?_
            rintro e w2_ ⟨va, vb, bva, rfl, ho, X2⟩
            have D2 := Lib.hid (Bel.tr D1.out X2)
            have O2 := Lib.hid (Blk.bel O1.out X2)
            have P2 : Hid (OwnP w2_ W1.drew.heap.size va vb newP bva) := Lib.hid (ho.lower D1.out.size)
            clear ho
            refine ⟨_, rfl, ?_⟩
            refine hK.out _ _ (hfx.out _ D2.out) (fun hHeld => ?_)
            clear hK K
            refine norm_ (a' := ?_) ?_ ?_
            rotate_left
            · show Act.put _ (some 25) _ = _
              simp only [Act.put, List.setIfInBounds_toArray, List.set_cons_zero, List.set_cons_succ, i64_w, i32_w]
              rfl
            refine one_ (i := 3) (N := some 28) #[true, true, true, true, false, false, false, true, false, false] rfl rfl (by kernel_rfl) (by decide) (fun K hK => ?_)
            refine goes_ Try.func54 (by kernel_rfl) rfl #[.agg #[va, vb], .slice A os.length c] (by rfl) rfl rfl (by simp only [List.map_toArray, List.map_cons, List.map_nil]; rfl) ?_
            with_reducible refine (hrun.out _ va vb bva P2.out D2.out).mono ?_
            rintro e w3_ ⟨A2, A3, n2, n3, k2, k3, rfl, hq, X3⟩
            have D3 : Hid (Bel W1.drew w3_) := Lib.hid (D2.out.trans X3.b)
            clear hq
            have O3 := Lib.hid (X3.k _ _ _ (by decide) (by decide) (by decide) O2.out)
            refine ⟨_, rfl, ?_⟩
            refine hK.out _ _ (hfx.out _ D3.out) (fun hHeld => ?_)
            clear hK K
            refine norm_ (a' := ?_) ?_ ?_
            rotate_left
            · show Act.put _ (some 28) _ = _
              simp only [Act.put, List.setIfInBounds_toArray, List.set_cons_zero, List.set_cons_succ, i64_w, i32_w]
              rfl
            refine pure_ (i := 4) (N := some 24) (v := ?_) (a' := ?_) #[true, true, true, true, true, false, false, true, false, false] rfl rfl (by kernel_rfl) (fun _ _ _ h => h) (Or.inl ⟨by rfl, ?_⟩) ?_ ?_
            rotate_left
            · intro w'
              go_simp
              with_reducible rfl
            rotate_left
            · simp only [Act.put, List.setIfInBounds_toArray, List.set_cons_zero, List.set_cons_succ, i64_w, i32_w]
              rfl
            refine pure_ (i := 5) (N := some 29) (v := ?_) (a' := ?_) #[true, true, true, true, true, true, false, true, false, false] rfl rfl (by kernel_rfl) (fun _ _ _ h => h) (Or.inl ⟨by rfl, ?_⟩) ?_ ?_
            rotate_left
            · intro w'
              go_simp
              with_reducible rfl
            rotate_left
            · simp only [Act.put, List.setIfInBounds_toArray, List.set_cons_zero, List.set_cons_succ, i64_w, i32_w]
              rfl
            refine pure_ (i := 6) (N := some 30) (v := ?_) (a' := ?_) #[true, true, true, true, true, true, true, true, false, false] rfl rfl (by kernel_rfl) (fun _ _ _ h => h) (Or.inl ⟨by rfl, ?_⟩) ?_ ?_
            rotate_left
            · intro w'
              go_simp
              with_reducible rfl
            rotate_left
            · simp only [Act.put, List.setIfInBounds_toArray, List.set_cons_zero, List.set_cons_succ, i64_w, i32_w]
              rfl
            exact norm_ (by simp only [putAll, Act.put, List.setIfInBounds_toArray, List.set_cons_zero, List.set_cons_succ]) (hCont (va, vb, A2, n2, k2, A3, n3, k3, W1.heap.size) _ ⟨hHeld, O3.out, L1, D3.out⟩)
        rintro ⟨va, vb, A2, n2, k2, A3, n3, k3, nb⟩ w3 ⟨hHeld, hO, hL, hD⟩
        dsimp only at hO hL
        have r0 := hO.cell 0
        have r1 := hO.cell 1
        have f0 := hO.free 0
        have f1 := hO.free 1
        simp at r0 r1
        refine norm_ (a' := ?_) ?_ ?_
        rotate_left
        · simp only [putAll, Act.put, List.setIfInBounds_toArray, List.set_cons_zero, List.set_cons_succ]
          rfl
        refine last_ (i := 8) (N := none) #[true, true, true, true, true, true, true, true, true, false] rfl rfl (by kernel_rfl) (by decide) (fun K hK => ?_)
        refine skip_ (w1 := ?_) (by rfl) rfl ?_ ?_
        rotate_left
        · go_simp
          rfl
        refine hK.out _ _ ?_
        clear hK K
        refine pure_ (i := 9) (N := some 4) (v := ?_) (a' := ?_) #[true, true, true, true, true, true, true, true, true, true] rfl rfl (by kernel_rfl) (fun _ _ _ h => h) (Or.inl ⟨by rfl, ?_⟩) ?_ ?_
        rotate_left
        · intro w'
          go_simp
          with_reducible rfl
        rotate_left
        · simp only [Act.put, List.setIfInBounds_toArray, List.set_cons_zero, List.set_cons_succ, i64_w, i32_w]
          rfl
        refine done_ (by kernel_rfl) ?_
        have hb5 : Bel W1.drew ((w3.setCell ⟨nb, 0, none⟩ (.slice A2 n2 k2)).setCell ⟨nb, 1, none⟩ (.slice A3 n3 k3)) := bel_set (bel_set hD hL 0 (.slice A2 n2 k2)) hL 1 (.slice A3 n3 k3)
        clear hO hD hL f0 f1 r0 r1 hHeld D0 s0 hfx hrun
        go_wp2
        go_ret
        exact ⟨rfl, (HW.out.tr (Below.refl _ _).drew).tr hb5⟩
      · skip
        have hN : Blk (w.alloc (.cells #[.bool up, .int .i64 term, .bool true, .bool true, .slice A os.length c] 34)) w.heap.size #[.bool up, .int .i64 term, .bool true, .bool true, .slice A os.length c] 34 := Blk.new _ _ _
        have hW : Bel w (w.alloc (.cells #[.bool up, .int .i64 term, .bool true, .bool true, .slice A os.length c] 34)) := bel_alloc (Below.refl _ _) _
        go_wp2_with (go_at_call 50; refine (HI.out _).mono ?_; rintro e w' ⟨rfl, rfl⟩)
        generalize w.alloc (.cells #[.bool up, .int .i64 term, .bool true, .bool true, .slice A os.length c] 34) = W1 at hN hW ⊢
        have hfx := Lib.hid (fun (W : World) (hb : Bel W1.drew W) => (show W.cell? ⟨w.heap.size, 4, none⟩ = some (.slice A os.length c) by rw [((hN.bel (Below.refl _ _).drew).bel hb).cell]; rfl))
        have HW := Lib.hid hW
        have hC1 : kOp.C W1.drew A os.length os := Kd.C_below HC.out (hW.tr (Below.refl _ _).drew)
        have hrun := Lib.hid (fun (W : World) (v0 v1 : Value) (bvs : List Value) (h : OwnP W W1.drew.heap.size v0 v1 newP bvs) (hb : Bel W1.drew W) => l13Run_c (c2 := c) h newP_ok (Below.size hb) hC1 (Nat.le_refl _) hb HO.out)
        unfold RunsP at hrun
        rw [HB.out] at hrun
        have D0 := Lib.hid (show Bel W1.drew W1.drew from Below.refl _ _)
        clear hN hW hC1
        have s0 := hfx.out _ D0.out
        refine start_ (n := 10) (S := fun w' => w'.cell? ⟨w.heap.size, 4, none⟩ = some (.slice A os.length c)) (ds := [8]) #[false, false, false, false, false, false, false, false, false, false] (by kernel_rfl) rfl rfl (s0) (fun hHeld => ?_)
        refine pure_ (i := 1) (N := some 26) (v := ?_) (a' := ?_) #[false, true, false, false, false, false, false, false, false, false] rfl rfl (by kernel_rfl) (fun _ _ _ h => h) (Or.inl ⟨by rfl, ?_⟩) ?_ ?_
        rotate_left
        · intro w'
          go_simp
          with_reducible rfl
        rotate_left
        · simp only [Act.put, List.setIfInBounds_toArray, List.set_cons_zero, List.set_cons_succ, i64_w, i32_w]
          rfl
        refine take_ (i := 2) (N := some 27) (v := ?_) (a' := ?_) #[false, true, true, false, false, false, false, false, false, false] rfl rfl (by kernel_rfl) (fun _ _ _ h => h) (Or.inl ⟨by rfl, ?_⟩) hHeld ?_ ?_
        rotate_left
        · intro w' s0
          go_simp
          with_reducible rfl
        rotate_left
        · simp only [Act.put, List.setIfInBounds_toArray, List.set_cons_zero, List.set_cons_succ, i64_w, i32_w]
          rfl
        refine join_ (σ := Value × Value × Option Addr × Nat × Nat × Option Addr × Nat × Nat × Nat) 2 #[true, true, true, true, true, true, true, true, false, false] (fun s => [(25, .agg #[s.1, s.2.1]), (28, .tuple #[.agg #[.slice s.2.2.1 s.2.2.2.1 s.2.2.2.2.1, .slice s.2.2.2.2.2.1 s.2.2.2.2.2.2.1 s.2.2.2.2.2.2.2.1], .bool b]), (24, .tuple #[.agg #[.slice s.2.2.1 s.2.2.2.1 s.2.2.2.2.1, .slice s.2.2.2.2.2.1 s.2.2.2.2.2.2.1 s.2.2.2.2.2.2.2.1], .bool b]), (29, .agg #[.slice s.2.2.1 s.2.2.2.1 s.2.2.2.2.1, .slice s.2.2.2.2.2.1 s.2.2.2.2.2.2.1 s.2.2.2.2.2.2.2.1]), (30, .bool b), (3, .pointer (some ⟨s.2.2.2.2.2.2.2.2, 0, none⟩))]) (fun s w' => (w'.cell? ⟨w.heap.size, 4, none⟩ = some (.slice A os.length c)) ∧ Blk w' s.2.2.2.2.2.2.2.2 #[.slice none 0 0, .slice none 0 0] 49 ∧ W1.drew.heap.size ≤ s.2.2.2.2.2.2.2.2 ∧ Bel W1.drew w') ?_ ?_
        rotate_left
        · intro hCont
          refine two_ (i := 0) (j := 7) (Ni := some 25) (Nj := some 3) #[true, true, true, false, false, false, false, false, false, false] #[false, true, true, false, false, false, false, true, false, false] rfl rfl rfl rfl (by kernel_rfl) (by decide) (by decide) (fun K hK => ?_) (fun K hK => ?_)
          · skip
            refine goes_ Try.func55 (by kernel_rfl) rfl #[] (by rfl) rfl rfl (by simp only [List.map_toArray, List.map_cons, List.map_nil]) ?_
            with_reducible refine (specPoolNew_c _).mono ?_
            rintro e w1_ ⟨va, vb, bva, rfl, ho, X1⟩
            have D1 := Lib.hid (Bel.tr D0.out X1)
            have P1 : Hid (OwnP w1_ W1.drew.heap.size va vb newP bva) := Lib.hid (ho.lower D0.out.size)
            clear ho
            refine ⟨_, rfl, ?_⟩
            refine hK.out _ _ (hfx.out _ D1.out) (fun hHeld => ?_)
            clear hK K
            refine norm_ (a' := ?_) ?_ ?_
            rotate_left
            · show Act.put _ (some 25) _ = _
              simp only [Act.put, List.setIfInBounds_toArray, List.set_cons_zero, List.set_cons_succ, i64_w, i32_w]
              rfl
            refine two_ (i := 3) (j := 7) (Ni := some 28) (Nj := some 3) #[true, true, true, true, false, false, false, false, false, false] #[true, true, true, false, false, false, false, true, false, false] rfl rfl rfl rfl (by kernel_rfl) (by decide) (by decide) (fun K hK => ?_) (fun K hK => ?_)
            · skip
              refine goes_ Try.func54 (by kernel_rfl) rfl #[.agg #[va, vb], .slice A os.length c] (by rfl) rfl rfl (by simp only [List.map_toArray, List.map_cons, List.map_nil]; rfl) ?_
              with_reducible refine (hrun.out _ va vb bva P1.out D1.out).mono ?_
              rintro e w2_ ⟨A2, A3, n2, n3, k2, k3, rfl, hq, X2⟩
              have D2 : Hid (Bel W1.drew w2_) := Lib.hid (D1.out.trans X2.b)
              clear hq
              refine ⟨_, rfl, ?_⟩
              refine hK.out _ _ (hfx.out _ D2.out) (fun hHeld => ?_)
              clear hK K
              refine norm_ (a' := ?_) ?_ ?_
              rotate_left
              · show Act.put _ (some 28) _ = _
                simp only [Act.put, List.setIfInBounds_toArray, List.set_cons_zero, List.set_cons_succ, i64_w, i32_w]
                rfl
              refine pure_ (i := 4) (N := some 24) (v := ?_) (a' := ?_) #[true, true, true, true, true, false, false, false, false, false] rfl rfl (by kernel_rfl) (fun _ _ _ h => h) (Or.inl ⟨by rfl, ?_⟩) ?_ ?_
              rotate_left
              · intro w'
                go_simp
                with_reducible rfl
              rotate_left
              · simp only [Act.put, List.setIfInBounds_toArray, List.set_cons_zero, List.set_cons_succ, i64_w, i32_w]
                rfl
              refine pure_ (i := 5) (N := some 29) (v := ?_) (a' := ?_) #[true, true, true, true, true, true, false, false, false, false] rfl rfl (by kernel_rfl) (fun _ _ _ h => h) (Or.inl ⟨by rfl, ?_⟩) ?_ ?_
              rotate_left
              · intro w'
                go_simp
                with_reducible rfl
              rotate_left
              · simp only [Act.put, List.setIfInBounds_toArray, List.set_cons_zero, List.set_cons_succ, i64_w, i32_w]
                rfl
              refine pure_ (i := 6) (N := some 30) (v := ?_) (a' := ?_) #[true, true, true, true, true, true, true, false, false, false] rfl rfl (by kernel_rfl) (fun _ _ _ h => h) (Or.inl ⟨by rfl, ?_⟩) ?_ ?_
              rotate_left
              · intro w'
                go_simp
                with_reducible rfl
              rotate_left
              · simp only [Act.put, List.setIfInBounds_toArray, List.set_cons_zero, List.set_cons_succ, i64_w, i32_w]
                rfl
              refine one_ (i := 7) (N := some 3) #[true, true, true, true, true, true, true, true, false, false] rfl rfl (by kernel_rfl) (by decide) (fun K hK => ?_)
              refine value_ (w1 := ?_) (v := ?_) (by rfl) rfl ?_ ?_
              rotate_left 2
              · go_simp
                constructor
                · rfl
                · rfl
              have D3 : Hid (Bel W1.drew (w2_.alloc (.cells #[.slice none 0 0, .slice none 0 0] 49))) := Lib.hid (bel_alloc D2.out (.cells #[.slice none 0 0, .slice none 0 0] 49))
              have O3 : Hid (Blk (w2_.alloc (.cells #[.slice none 0 0, .slice none 0 0] 49)) w2_.heap.size #[.slice none 0 0, .slice none 0 0] 49) := Lib.hid (Blk.new w2_ #[.slice none 0 0, .slice none 0 0] 49)
              have L3 := D2.out.size
              refine hK.out _ _ (hfx.out _ D3.out) (fun hHeld => ?_)
              clear hK K
              refine norm_ (a' := ?_) ?_ ?_
              rotate_left
              · show Act.put _ (some 3) _ = _
                simp only [Act.put, List.setIfInBounds_toArray, List.set_cons_zero, List.set_cons_succ, i64_w, i32_w]
                rfl
              exact norm_ (by simp only [putAll, Act.put, List.setIfInBounds_toArray, List.set_cons_zero, List.set_cons_succ]) (hCont (va, vb, A2, n2, k2, A3, n3, k3, w2_.heap.size) _ ⟨hHeld, O3.out, L3, D3.out⟩)
            · skip
              refine value_ (w1 := ?_) (v := ?_) (by rfl) rfl ?_ ?_
              rotate_left 2
              · go_simp
                constructor
                · rfl
                · rfl
              have D2 : Hid (Bel W1.drew (w1_.alloc (.cells #[.slice none 0 0, .slice none 0 0] 49))) := Lib.hid (bel_alloc D1.out (.cells #[.slice none 0 0, .slice none 0 0] 49))
              have P2 := Lib.hid (OwnP.bel P1.out (bel_alloc (Below.refl _ _) (.cells #[.slice none 0 0, .slice none 0 0] 49)))
              have O2 : Hid (Blk (w1_.alloc (.cells #[.slice none 0 0, .slice none 0 0] 49)) w1_.heap.size #[.slice none 0 0, .slice none 0 0] 49) := Lib.hid (Blk.new w1_ #[.slice none 0 0, .slice none 0 0] 49)
              have L2 := D1.out.size
              refine hK.out _ _ (hfx.out _ D2.out) (fun hHeld => ?_)
              clear hK K
              refine norm_ (a' := ?_) ?_ ?_
              rotate_left
              · show Act.put _ (some 3) _ = _
                simp only [Act.put, List.setIfInBounds_toArray, List.set_cons_zero, List.set_cons_succ, i64_w, i32_w]
                rfl
              refine one_ (i := 3) (N := some 28) #[true, true, true, true, false, false, false, true, false, false] rfl rfl (by kernel_rfl) (by decide) (fun K hK => ?_)
              refine goes_ Try.func54 (by kernel_rfl) rfl #[.agg #[va, vb], .slice A os.length c] (by rfl) rfl rfl (by simp only [List.map_toArray, List.map_cons, List.map_nil]; rfl) ?_
              with_reducible refine (hrun.out _ va vb bva P2.out D2.out).mono ?_
              rintro e w3_ ⟨A2, A3, n2, n3, k2, k3, rfl, hq, X3⟩
              have D3 : Hid (Bel W1.drew w3_) := Lib.hid (D2.out.trans X3.b)
              clear hq
              have O3 := Lib.hid (X3.k _ _ _ (by decide) (by decide) (by decide) O2.out)
              refine ⟨_, rfl, ?_⟩
              refine hK.out _ _ (hfx.out _ D3.out) (fun hHeld => ?_)
              clear hK K
              refine norm_ (a' := ?_) ?_ ?_
              rotate_left
              · show Act.put _ (some 28) _ = _
                simp only [Act.put, List.setIfInBounds_toArray, List.set_cons_zero, List.set_cons_succ, i64_w, i32_w]
                rfl
              refine pure_ (i := 4) (N := some 24) (v := ?_) (a' := ?_) #[true, true, true, true, true, false, false, true, false, false] rfl rfl (by kernel_rfl) (fun _ _ _ h => h) (Or.inl ⟨by rfl, ?_⟩) ?_ ?_
              rotate_left
              · intro w'
                go_simp
                with_reducible rfl
              rotate_left
              · simp only [Act.put, List.setIfInBounds_toArray, List.set_cons_zero, List.set_cons_succ, i64_w, i32_w]
                rfl
              refine pure_ (i := 5) (N := some 29) (v := ?_) (a' := ?_) #[true, true, true, true, true, true, false, true, false, false] rfl rfl (by kernel_rfl) (fun _ _ _ h => h) (Or.inl ⟨by rfl, ?_⟩) ?_ ?_
              rotate_left
              · intro w'
                go_simp
                with_reducible rfl
              rotate_left
              · simp only [Act.put, List.setIfInBounds_toArray, List.set_cons_zero, List.set_cons_succ, i64_w, i32_w]
                rfl
              refine pure_ (i := 6) (N := some 30) (v := ?_) (a' := ?_) #[true, true, true, true, true, true, true, true, false, false] rfl rfl (by kernel_rfl) (fun _ _ _ h => h) (Or.inl ⟨by rfl, ?_⟩) ?_ ?_
              rotate_left
              · intro w'
                go_simp
                with_reducible rfl
              rotate_left
              · simp only [Act.put, List.setIfInBounds_toArray, List.set_cons_zero, List.set_cons_succ, i64_w, i32_w]
                rfl
              exact norm_ (by simp only [putAll, Act.put, List.setIfInBounds_toArray, List.set_cons_zero, List.set_cons_succ]) (hCont (va, vb, A2, n2, k2, A3, n3, k3, w1_.heap.size) _ ⟨hHeld, O3.out, L2, D3.out⟩)
          · skip
            refine value_ (w1 := ?_) (v := ?_) (by rfl) rfl ?_ ?_
            rotate_left 2
            · go_simp
              constructor
              · rfl
              · rfl
            have D1 : Hid (Bel W1.drew (W1.alloc (.cells #[.slice none 0 0, .slice none 0 0] 49)).drew) := Lib.hid (bel_alloc D0.out (.cells #[.slice none 0 0, .slice none 0 0] 49))
            have O1 : Hid (Blk (W1.alloc (.cells #[.slice none 0 0, .slice none 0 0] 49)).drew W1.drew.heap.size #[.slice none 0 0, .slice none 0 0] 49) := Lib.hid (Blk.new W1.drew #[.slice none 0 0, .slice none 0 0] 49)
            have L1 := D0.out.size
            refine hK.out _ _ (hfx.out _ D1.out) (fun hHeld => ?_)
            clear hK K
            refine norm_ (a' := ?_) ?_ ?_
            rotate_left
            · show Act.put _ (some 3) _ = _
              simp only [Act.put, List.setIfInBounds_toArray, List.set_cons_zero, List.set_cons_succ, i64_w, i32_w]
              rfl
            refine one_ (i := 0) (N := some 25) #[true, true, true, false, false, false, false, true, false, false] rfl rfl (by kernel_rfl) (by decide) (fun K hK => ?_)
            refine goes_ Try.func55 (by kernel_rfl) rfl #[] (by rfl) rfl rfl (by simp only [List.map_toArray, List.map_cons, List.map_nil]) ?_
            with_reducible refine (specPoolNew_c _).mono ?_
            rintro e w2_ ⟨va, vb, bva, rfl, ho, X2⟩
            have D2 := Lib.hid (Bel.tr D1.out X2)
            have O2 := Lib.hid (Blk.bel O1.out X2)
            have P2 : Hid (OwnP w2_ W1.drew.heap.size va vb newP bva) := Lib.hid (ho.lower D1.out.size)
            clear ho
            refine ⟨_, rfl, ?_⟩
            refine hK.out _ _ (hfx.out _ D2.out) (fun hHeld => ?_)
            clear hK K
            refine norm_ (a' := ?_) ?_ ?_
            rotate_left
            · show Act.put _ (some 25) _ = _
              simp only [Act.put, List.setIfInBounds_toArray, List.set_cons_zero, List.set_cons_succ, i64_w, i32_w]
              rfl
            refine one_ (i := 3) (N := some 28) #[true, true, true, true, false, false, false, true, false, false] rfl rfl (by kernel_rfl) (by decide) (fun K hK => ?_)
            refine goes_ Try.func54 (by kernel_rfl) rfl #[.agg #[va, vb], .slice A os.length c] (by rfl) rfl rfl (by simp only [List.map_toArray, List.map_cons, List.map_nil]; rfl) ?_
            with_reducible refine (hrun.out _ va vb bva P2.out D2.out).mono ?_
            rintro e w3_ ⟨A2, A3, n2, n3, k2, k3, rfl, hq, X3⟩
            have D3 : Hid (Bel W1.drew w3_) := Lib.hid (D2.out.trans X3.b)
            clear hq
            have O3 := Lib.hid (X3.k _ _ _ (by decide) (by decide) (by decide) O2.out)
            refine ⟨_, rfl, ?_⟩
            refine hK.out _ _ (hfx.out _ D3.out) (fun hHeld => ?_)
            clear hK K
            refine norm_ (a' := ?_) ?_ ?_
            rotate_left
            · show Act.put _ (some 28) _ = _
              simp only [Act.put, List.setIfInBounds_toArray, List.set_cons_zero, List.set_cons_succ, i64_w, i32_w]
              rfl
            refine pure_ (i := 4) (N := some 24) (v := ?_) (a' := ?_) #[true, true, true, true, true, false, false, true, false, false] rfl rfl (by kernel_rfl) (fun _ _ _ h => h) (Or.inl ⟨by rfl, ?_⟩) ?_ ?_
            rotate_left
            · intro w'
              go_simp
              with_reducible rfl
            rotate_left
            · simp only [Act.put, List.setIfInBounds_toArray, List.set_cons_zero, List.set_cons_succ, i64_w, i32_w]
              rfl
            refine pure_ (i := 5) (N := some 29) (v := ?_) (a' := ?_) #[true, true, true, true, true, true, false, true, false, false] rfl rfl (by kernel_rfl) (fun _ _ _ h => h) (Or.inl ⟨by rfl, ?_⟩) ?_ ?_
            rotate_left
            · intro w'
              go_simp
              with_reducible rfl
            rotate_left
            · simp only [Act.put, List.setIfInBounds_toArray, List.set_cons_zero, List.set_cons_succ, i64_w, i32_w]
              rfl
            refine pure_ (i := 6) (N := some 30) (v := ?_) (a' := ?_) #[true, true, true, true, true, true, true, true, false, false] rfl rfl (by kernel_rfl) (fun _ _ _ h => h) (Or.inl ⟨by rfl, ?_⟩) ?_ ?_
            rotate_left
            · intro w'
              go_simp
              with_reducible rfl
            rotate_left
            · simp only [Act.put, List.setIfInBounds_toArray, List.set_cons_zero, List.set_cons_succ, i64_w, i32_w]
              rfl
            exact norm_ (by simp only [putAll, Act.put, List.setIfInBounds_toArray, List.set_cons_zero, List.set_cons_succ]) (hCont (va, vb, A2, n2, k2, A3, n3, k3, W1.heap.size) _ ⟨hHeld, O3.out, L1, D3.out⟩)
        rintro ⟨va, vb, A2, n2, k2, A3, n3, k3, nb⟩ w3 ⟨hHeld, hO, hL, hD⟩
        dsimp only at hO hL
        have r0 := hO.cell 0
        have r1 := hO.cell 1
        have f0 := hO.free 0
        have f1 := hO.free 1
        simp at r0 r1
        refine norm_ (a' := ?_) ?_ ?_
        rotate_left
        · simp only [putAll, Act.put, List.setIfInBounds_toArray, List.set_cons_zero, List.set_cons_succ]
          rfl
        refine last_ (i := 8) (N := none) #[true, true, true, true, true, true, true, true, true, false] rfl rfl (by kernel_rfl) (by decide) (fun K hK => ?_)
        refine skip_ (w1 := ?_) (by rfl) rfl ?_ ?_
        rotate_left
        · go_simp
          rfl
        refine hK.out _ _ ?_
        clear hK K
        refine pure_ (i := 9) (N := some 4) (v := ?_) (a' := ?_) #[true, true, true, true, true, true, true, true, true, true] rfl rfl (by kernel_rfl) (fun _ _ _ h => h) (Or.inl ⟨by rfl, ?_⟩) ?_ ?_
        rotate_left
        · intro w'
          go_simp
          with_reducible rfl
        rotate_left
        · simp only [Act.put, List.setIfInBounds_toArray, List.set_cons_zero, List.set_cons_succ, i64_w, i32_w]
          rfl
        refine done_ (by kernel_rfl) ?_
        have hb5 : Bel W1.drew ((w3.setCell ⟨nb, 0, none⟩ (.slice A2 n2 k2)).setCell ⟨nb, 1, none⟩ (.slice A3 n3 k3)) := bel_set (bel_set hD hL 0 (.slice A2 n2 k2)) hL 1 (.slice A3 n3 k3)
        clear hO hD hL f0 f1 r0 r1 hHeld D0 s0 hfx hrun
        go_wp2
        go_ret
        exact ⟨rfl, (HW.out.tr (Below.refl _ _).drew).tr hb5⟩
    · skip
      have hN : Blk (w.alloc (.cells #[.bool up, .int .i64 term, .bool false, .bool false, .slice A os.length c] 34)) w.heap.size #[.bool up, .int .i64 term, .bool false, .bool false, .slice A os.length c] 34 := Blk.new _ _ _
      have hW : Bel w (w.alloc (.cells #[.bool up, .int .i64 term, .bool false, .bool false, .slice A os.length c] 34)) := bel_alloc (Below.refl _ _) _
      go_wp2_with (go_at_call 50; refine (HI.out _).mono ?_; rintro e w' ⟨rfl, rfl⟩)
      generalize w.alloc (.cells #[.bool up, .int .i64 term, .bool false, .bool false, .slice A os.length c] 34) = W1 at hN hW ⊢
      have hfx := Lib.hid (fun (W : World) (hb : Bel W1.drew W) => (show W.cell? ⟨w.heap.size, 4, none⟩ = some (.slice A os.length c) by rw [((hN.bel (Below.refl _ _).drew).bel hb).cell]; rfl))
      have HW := Lib.hid hW
      have hC1 : kOp.C W1.drew A os.length os := Kd.C_below HC.out (hW.tr (Below.refl _ _).drew)
      have hrun := Lib.hid (fun (W : World) (v0 v1 : Value) (bvs : List Value) (h : OwnP W W1.drew.heap.size v0 v1 newP bvs) (hb : Bel W1.drew W) => l13Run_c (c2 := c) h newP_ok (Below.size hb) hC1 (Nat.le_refl _) hb HO.out)
      unfold RunsP at hrun
      rw [HB.out] at hrun
      have D0 := Lib.hid (show Bel W1.drew W1.drew from Below.refl _ _)
      clear hN hW hC1
      have s0 := hfx.out _ D0.out
      refine start_ (n := 10) (S := fun w' => w'.cell? ⟨w.heap.size, 4, none⟩ = some (.slice A os.length c)) (ds := [8]) #[false, false, false, false, false, false, false, false, false, false] (by kernel_rfl) rfl rfl (s0) (fun hHeld => ?_)
      refine pure_ (i := 1) (N := some 26) (v := ?_) (a' := ?_) #[false, true, false, false, false, false, false, false, false, false] rfl rfl (by kernel_rfl) (fun _ _ _ h => h) (Or.inl ⟨by rfl, ?_⟩) ?_ ?_
      rotate_left
      · intro w'
        go_simp
        with_reducible rfl
      rotate_left
      · simp only [Act.put, List.setIfInBounds_toArray, List.set_cons_zero, List.set_cons_succ, i64_w, i32_w]
        rfl
      refine take_ (i := 2) (N := some 27) (v := ?_) (a' := ?_) #[false, true, true, false, false, false, false, false, false, false] rfl rfl (by kernel_rfl) (fun _ _ _ h => h) (Or.inl ⟨by rfl, ?_⟩) hHeld ?_ ?_
      rotate_left
      · intro w' s0
        go_simp
        with_reducible rfl
      rotate_left
      · simp only [Act.put, List.setIfInBounds_toArray, List.set_cons_zero, List.set_cons_succ, i64_w, i32_w]
        rfl
      refine join_ (σ := Value × Value × Option Addr × Nat × Nat × Option Addr × Nat × Nat × Nat) 2 #[true, true, true, true, true, true, true, true, false, false] (fun s => [(25, .agg #[s.1, s.2.1]), (28, .tuple #[.agg #[.slice s.2.2.1 s.2.2.2.1 s.2.2.2.2.1, .slice s.2.2.2.2.2.1 s.2.2.2.2.2.2.1 s.2.2.2.2.2.2.2.1], .bool b]), (24, .tuple #[.agg #[.slice s.2.2.1 s.2.2.2.1 s.2.2.2.2.1, .slice s.2.2.2.2.2.1 s.2.2.2.2.2.2.1 s.2.2.2.2.2.2.2.1], .bool b]), (29, .agg #[.slice s.2.2.1 s.2.2.2.1 s.2.2.2.2.1, .slice s.2.2.2.2.2.1 s.2.2.2.2.2.2.1 s.2.2.2.2.2.2.2.1]), (30, .bool b), (3, .pointer (some ⟨s.2.2.2.2.2.2.2.2, 0, none⟩))]) (fun s w' => (w'.cell? ⟨w.heap.size, 4, none⟩ = some (.slice A os.length c)) ∧ Blk w' s.2.2.2.2.2.2.2.2 #[.slice none 0 0, .slice none 0 0] 49 ∧ W1.drew.heap.size ≤ s.2.2.2.2.2.2.2.2 ∧ Bel W1.drew w') ?_ ?_
      rotate_left
      · intro hCont
        refine two_ (i := 0) (j := 7) (Ni := some 25) (Nj := some 3) #[true, true, true, false, false, false, false, false, false, false] #[false, true, true, false, false, false, false, true, false, false] rfl rfl rfl rfl (by kernel_rfl) (by decide) (by decide) (fun K hK => ?_) (fun K hK => ?_)
        · skip
          refine goes_ Try.func55 (by kernel_rfl) rfl #[] (by rfl) rfl rfl (by simp only [List.map_toArray, List.map_cons, List.map_nil]) ?_
          with_reducible refine (specPoolNew_c _).mono ?_
          rintro e w1_ ⟨va, vb, bva, rfl, ho, X1⟩
          have D1 := Lib.hid (Bel.tr D0.out X1)
          have P1 : Hid (OwnP w1_ W1.drew.heap.size va vb newP bva) := Lib.hid (ho.lower D0.out.size)
          clear ho
          refine ⟨_, rfl, ?_⟩
          refine hK.out _ _ (hfx.out _ D1.out) (fun hHeld => ?_)
          clear hK K
          refine norm_ (a' := ?_) ?_ ?_
          rotate_left
          · show Act.put _ (some 25) _ = _
            simp only [Act.put, List.setIfInBounds_toArray, List.set_cons_zero, List.set_cons_succ, i64_w, i32_w]
            rfl
          refine two_ (i := 3) (j := 7) (Ni := some 28) (Nj := some 3) #[true, true, true, true, false, false, false, false, false, false] #[true, true, true, false, false, false, false, true, false, false] rfl rfl rfl rfl (by kernel_rfl) (by decide) (by decide) (fun K hK => ?_) (fun K hK => ?_)
          · skip
            refine goes_ Try.func54 (by kernel_rfl) rfl #[.agg #[va, vb], .slice A os.length c] (by rfl) rfl rfl (by simp only [List.map_toArray, List.map_cons, List.map_nil]; rfl) ?_
            with_reducible refine (hrun.out _ va vb bva P1.out D1.out).mono ?_
            rintro e w2_ ⟨A2, A3, n2, n3, k2, k3, rfl, hq, X2⟩
            have D2 : Hid (Bel W1.drew w2_) := Lib.hid (D1.out.trans X2.b)
            clear hq
            refine ⟨_, rfl, ?_⟩
            refine hK.out _ _ (hfx.out _ D2.out) (fun hHeld => ?_)
            clear hK K
            refine norm_ (a' := ?_) ?_ ?_
            rotate_left
            · show Act.put _ (some 28) _ = _
              simp only [Act.put, List.setIfInBounds_toArray, List.set_cons_zero, List.set_cons_succ, i64_w, i32_w]
              rfl
            refine pure_ (i := 4) (N := some 24) (v := ?_) (a' := ?_) #[true, true, true, true, true, false, false, false, false, false] rfl rfl (by kernel_rfl) (fun _ _ _ h => h) (Or.inl ⟨by rfl, ?_⟩) ?_ ?_
            rotate_left
            · intro w'
              go_simp
              with_reducible rfl
            rotate_left
            · simp only [Act.put, List.setIfInBounds_toArray, List.set_cons_zero, List.set_cons_succ, i64_w, i32_w]
              rfl
            refine pure_ (i := 5) (N := some 29) (v := ?_) (a' := ?_) #[true, true, true, true, true, true, false, false, false, false] rfl rfl (by kernel_rfl) (fun _ _ _ h => h) (Or.inl ⟨by rfl, ?_⟩) ?_ ?_
            rotate_left
            · intro w'
              go_simp
              with_reducible rfl
            rotate_left
            · simp only [Act.put, List.setIfInBounds_toArray, List.set_cons_zero, List.set_cons_succ, i64_w, i32_w]
              rfl
            refine pure_ (i := 6) (N := some 30) (v := ?_) (a' := ?_) #[true, true, true, true, true, true, true, false, false, false] rfl rfl (by kernel_rfl) (fun _ _ _ h => h) (Or.inl ⟨by rfl, ?_⟩) ?_ ?_
            rotate_left
            · intro w'
              go_simp
              with_reducible rfl
            rotate_left
            · simp only [Act.put, List.setIfInBounds_toArray, List.set_cons_zero, List.set_cons_succ, i64_w, i32_w]
              rfl
            refine one_ (i := 7) (N := some 3) #[true, true, true, true, true, true, true, true, false, false] rfl rfl (by kernel_rfl) (by decide) (fun K hK => ?_)
            refine value_ (w1 := ?_) (v := ?_) (by rfl) rfl ?_ ?_
            rotate_left 2
            · go_simp
              constructor
              · rfl
              · rfl
            have D3 : Hid (Bel W1.drew (w2_.alloc (.cells #[.slice none 0 0, .slice none 0 0] 49))) := Lib.hid (bel_alloc D2.out (.cells #[.slice none 0 0, .slice none 0 0] 49))
            have O3 : Hid (Blk (w2_.alloc (.cells #[.slice none 0 0, .slice none 0 0] 49)) w2_.heap.size #[.slice none 0 0, .slice none 0 0] 49) := Lib.hid (Blk.new w2_ #[.slice none 0 0, .slice none 0 0] 49)
            have L3 := D2.out.size
            refine hK.out _ _ (hfx.out _ D3.out) (fun hHeld => ?_)
            clear hK K
            refine norm_ (a' := ?_) ?_ ?_
            rotate_left
            · show Act.put _ (some 3) _ = _
              simp only [Act.put, List.setIfInBounds_toArray, List.set_cons_zero, List.set_cons_succ, i64_w, i32_w]
              rfl
            exact norm_ (by simp only [putAll, Act.put, List.setIfInBounds_toArray, List.set_cons_zero, List.set_cons_succ]) (hCont (va, vb, A2, n2, k2, A3, n3, k3, w2_.heap.size) _ ⟨hHeld, O3.out, L3, D3.out⟩)
          · skip
            refine value_ (w1 := ?_) (v := ?_) (by rfl) rfl ?_ ?_
            rotate_left 2
            · go_simp
              constructor
              · rfl
              · rfl
            have D2 : Hid (Bel W1.drew (w1_.alloc (.cells #[.slice none 0 0, .slice none 0 0] 49))) := Lib.hid (bel_alloc D1.out (.cells #[.slice none 0 0, .slice none 0 0] 49))
            have P2 := Lib.hid (OwnP.bel P1.out (bel_alloc (Below.refl _ _) (.cells #[.slice none 0 0, .slice none 0 0] 49)))
            have O2 : Hid (Blk (w1_.alloc (.cells #[.slice none 0 0, .slice none 0 0] 49)) w1_.heap.size #[.slice none 0 0, .slice none 0 0] 49) := Lib.hid (Blk.new w1_ #[.slice none 0 0, .slice none 0 0] 49)
            have L2 := D1.out.size
            refine hK.out _ _ (hfx.out _ D2.out) (fun hHeld => ?_)
            clear hK K
            refine norm_ (a' := ?_) ?_ ?_
            rotate_left
            · show Act.put _ (some 3) _ = _
              simp only [Act.put, List.setIfInBounds_toArray, List.set_cons_zero, List.set_cons_succ, i64_w, i32_w]
              rfl
            refine one_ (i := 3) (N := some 28) #[true, true, true, true, false, false, false, true, false, false] rfl rfl (by kernel_rfl) (by decide) (fun K hK => ?_)
            refine goes_ Try.func54 (by kernel_rfl) rfl #[.agg #[va, vb], .slice A os.length c] (by rfl) rfl rfl (by simp only [List.map_toArray, List.map_cons, List.map_nil]; rfl) ?_
            with_reducible refine (hrun.out _ va vb bva P2.out D2.out).mono ?_
            rintro e w3_ ⟨A2, A3, n2, n3, k2, k3, rfl, hq, X3⟩
            have D3 : Hid (Bel W1.drew w3_) := Lib.hid (D2.out.trans X3.b)
            clear hq
            have O3 := Lib.hid (X3.k _ _ _ (by decide) (by decide) (by decide) O2.out)
            refine ⟨_, rfl, ?_⟩
            refine hK.out _ _ (hfx.out _ D3.out) (fun hHeld => ?_)
            clear hK K
            refine norm_ (a' := ?_) ?_ ?_
            rotate_left
            · show Act.put _ (some 28) _ = _
              simp only [Act.put, List.setIfInBounds_toArray, List.set_cons_zero, List.set_cons_succ, i64_w, i32_w]
              rfl
            refine pure_ (i := 4) (N := some 24) (v := ?_) (a' := ?_) #[true, true, true, true, true, false, false, true, false, false] rfl rfl (by kernel_rfl) (fun _ _ _ h => h) (Or.inl ⟨by rfl, ?_⟩) ?_ ?_
            rotate_left
            · intro w'
              go_simp
              with_reducible rfl
            rotate_left
            · simp only [Act.put, List.setIfInBounds_toArray, List.set_cons_zero, List.set_cons_succ, i64_w, i32_w]
              rfl
            refine pure_ (i := 5) (N := some 29) (v := ?_) (a' := ?_) #[true, true, true, true, true, true, false, true, false, false] rfl rfl (by kernel_rfl) (fun _ _ _ h => h) (Or.inl ⟨by rfl, ?_⟩) ?_ ?_
            rotate_left
            · intro w'
              go_simp
              with_reducible rfl
            rotate_left
            · simp only [Act.put, List.setIfInBounds_toArray, List.set_cons_zero, List.set_cons_succ, i64_w, i32_w]
              rfl
            refine pure_ (i := 6) (N := some 30) (v := ?_) (a' := ?_) #[true, true, true, true, true, true, true, true, false, false] rfl rfl (by kernel_rfl) (fun _ _ _ h => h) (Or.inl ⟨by rfl, ?_⟩) ?_ ?_
            rotate_left
            · intro w'
              go_simp
              with_reducible rfl
            rotate_left
            · simp only [Act.put, List.setIfInBounds_toArray, List.set_cons_zero, List.set_cons_succ, i64_w, i32_w]
              rfl
            exact norm_ (by simp only [putAll, Act.put, List.setIfInBounds_toArray, List.set_cons_zero, List.set_cons_succ]) (hCont (va, vb, A2, n2, k2, A3, n3, k3, w1_.heap.size) _ ⟨hHeld, O3.out, L2, D3.out⟩)
        · skip
          refine value_ (w1 := ?_) (v := ?_) (by rfl) rfl ?_ ?_
          rotate_left 2
          · go_simp
            constructor
            · rfl
            · rfl
          have D1 : Hid (Bel W1.drew (W1.alloc (.cells #[.slice none 0 0, .slice none 0 0] 49)).drew) := Lib.hid (bel_alloc D0.out (.cells #[.slice none 0 0, .slice none 0 0] 49))
          have O1 : Hid (Blk (W1.alloc (.cells #[.slice none 0 0, .slice none 0 0] 49)).drew W1.drew.heap.size #[.slice none 0 0, .slice none 0 0] 49) := Lib.hid (Blk.new W1.drew #[.slice none 0 0, .slice none 0 0] 49)
          have L1 := D0.out.size
          refine hK.out _ _ (hfx.out _ D1.out) (fun hHeld => ?_)
          clear hK K
          refine norm_ (a' := ?_) ?_ ?_
          rotate_left
          · show Act.put _ (some 3) _ = _
            simp only [Act.put, List.setIfInBounds_toArray, List.set_cons_zero, List.set_cons_succ, i64_w, i32_w]
            rfl
          refine one_ (i := 0) (N := some 25) #[true, true, true, false, false, false, false, true, false, false] rfl rfl (by kernel_rfl) (by decide) (fun K hK => ?_)
          refine goes_ Try.func55 (by kernel_rfl) rfl #[] (by rfl) rfl rfl (by simp only [List.map_toArray, List.map_cons, List.map_nil]) ?_
          with_reducible refine (specPoolNew_c _).mono ?_
          rintro e w2_ ⟨va, vb, bva, rfl, ho, X2⟩
          have D2 := Lib.hid (Bel.tr D1.out X2)
          have O2 := Lib.hid (Blk.bel O1.out X2)
          have P2 : Hid (OwnP w2_ W1.drew.heap.size va vb newP bva) := Lib.hid (ho.lower D1.out.size)
          clear ho
          refine ⟨_, rfl, ?_⟩
          refine hK.out _ _ (hfx.out _ D2.out) (fun hHeld => ?_)
          clear hK K
          refine norm_ (a' := ?_) ?_ ?_
          rotate_left
          · show Act.put _ (some 25) _ = _
            simp only [Act.put, List.setIfInBounds_toArray, List.set_cons_zero, List.set_cons_succ, i64_w, i32_w]
            rfl
          refine one_ (i := 3) (N := some 28) #[true, true, true, true, false, false, false, true, false, false] rfl rfl (by kernel_rfl) (by decide) (fun K hK => ?_)
          refine goes_ Try.func54 (by kernel_rfl) rfl #[.agg #[va, vb], .slice A os.length c] (by rfl) rfl rfl (by simp only [List.map_toArray, List.map_cons, List.map_nil]; rfl) ?_
          with_reducible refine (hrun.out _ va vb bva P2.out D2.out).mono ?_
          rintro e w3_ ⟨A2, A3, n2, n3, k2, k3, rfl, hq, X3⟩
          have D3 : Hid (Bel W1.drew w3_) := Lib.hid (D2.out.trans X3.b)
          clear hq
          have O3 := Lib.hid (X3.k _ _ _ (by decide) (by decide) (by decide) O2.out)
          refine ⟨_, rfl, ?_⟩
          refine hK.out _ _ (hfx.out _ D3.out) (fun hHeld => ?_)
          clear hK K
          refine norm_ (a' := ?_) ?_ ?_
          rotate_left
          · show Act.put _ (some 28) _ = _
            simp only [Act.put, List.setIfInBounds_toArray, List.set_cons_zero, List.set_cons_succ, i64_w, i32_w]
            rfl
          refine pure_ (i := 4) (N := some 24) (v := ?_) (a' := ?_) #[true, true, true, true, true, false, false, true, false, false] rfl rfl (by kernel_rfl) (fun _ _ _ h => h) (Or.inl ⟨by rfl, ?_⟩) ?_ ?_
          rotate_left
          · intro w'
            go_simp
            with_reducible rfl
          rotate_left
          · simp only [Act.put, List.setIfInBounds_toArray, List.set_cons_zero, List.set_cons_succ, i64_w, i32_w]
            rfl
          refine pure_ (i := 5) (N := some 29) (v := ?_) (a' := ?_) #[true, true, true, true, true, true, false, true, false, false] rfl rfl (by kernel_rfl) (fun _ _ _ h => h) (Or.inl ⟨by rfl, ?_⟩) ?_ ?_
          rotate_left
          · intro w'
            go_simp
            with_reducible rfl
          rotate_left
          · simp only [Act.put, List.setIfInBounds_toArray, List.set_cons_zero, List.set_cons_succ, i64_w, i32_w]
            rfl
          refine pure_ (i := 6) (N := some 30) (v := ?_) (a' := ?_) #[true, true, true, true, true, true, true, true, false, false] rfl rfl (by kernel_rfl) (fun _ _ _ h => h) (Or.inl ⟨by rfl, ?_⟩) ?_ ?_
          rotate_left
          · intro w'
            go_simp
            with_reducible rfl
          rotate_left
          · simp only [Act.put, List.setIfInBounds_toArray, List.set_cons_zero, List.set_cons_succ, i64_w, i32_w]
            rfl
          exact norm_ (by simp only [putAll, Act.put, List.setIfInBounds_toArray, List.set_cons_zero, List.set_cons_succ]) (hCont (va, vb, A2, n2, k2, A3, n3, k3, W1.heap.size) _ ⟨hHeld, O3.out, L1, D3.out⟩)
      rintro ⟨va, vb, A2, n2, k2, A3, n3, k3, nb⟩ w3 ⟨hHeld, hO, hL, hD⟩
      dsimp only at hO hL
      have r0 := hO.cell 0
      have r1 := hO.cell 1
      have f0 := hO.free 0
      have f1 := hO.free 1
      simp at r0 r1
      refine norm_ (a' := ?_) ?_ ?_
      rotate_left
      · simp only [putAll, Act.put, List.setIfInBounds_toArray, List.set_cons_zero, List.set_cons_succ]
        rfl
      refine last_ (i := 8) (N := none) #[true, true, true, true, true, true, true, true, true, false] rfl rfl (by kernel_rfl) (by decide) (fun K hK => ?_)
      refine skip_ (w1 := ?_) (by rfl) rfl ?_ ?_
      rotate_left
      · go_simp
        rfl
      refine hK.out _ _ ?_
      clear hK K
      refine pure_ (i := 9) (N := some 4) (v := ?_) (a' := ?_) #[true, true, true, true, true, true, true, true, true, true] rfl rfl (by kernel_rfl) (fun _ _ _ h => h) (Or.inl ⟨by rfl, ?_⟩) ?_ ?_
      rotate_left
      · intro w'
        go_simp
        with_reducible rfl
      rotate_left
      · simp only [Act.put, List.setIfInBounds_toArray, List.set_cons_zero, List.set_cons_succ, i64_w, i32_w]
        rfl
      refine done_ (by kernel_rfl) ?_
      have hb5 : Bel W1.drew ((w3.setCell ⟨nb, 0, none⟩ (.slice A2 n2 k2)).setCell ⟨nb, 1, none⟩ (.slice A3 n3 k3)) := bel_set (bel_set hD hL 0 (.slice A2 n2 k2)) hL 1 (.slice A3 n3 k3)
      clear hO hD hL f0 f1 r0 r1 hHeld D0 s0 hfx hrun
      go_wp2
      go_ret
      exact ⟨rfl, (HW.out.tr (Below.refl _ _).drew).tr hb5⟩
  · have hno : (t && ((leads || !alone) && (b && d))) = false := by cases t <;> cases leads <;> cases alone <;> cases d <;> simp_all
    rw [hno]
    clear hno
    cases t <;> cases leads <;> cases alone <;> cases d <;> first
      | exact absurd ⟨rfl, by decide, rfl⟩ hgo
      | (clear hgo
         go_wp2_with (go_at_call 50; refine (HI.out _).mono ?_; rintro e w' ⟨rfl, rfl⟩)
         go_ret
         exact ⟨rfl, bel_alloc (Below.refl _ _) _⟩)
end Go.Proofs.Ytccllgpaafgjaaa
/- szNode, toNode. -/

namespace Go.Proofs.Ytccllgpaafgjaaa
open Go.RowKit Go.Proofs.YtccllgpaafgjaaaW.PrintWords
set_option linter.unusedVariables false
set_option linter.unusedSimpArgs false

set_option maxHeartbeats 2000000 in
theorem szNode_c {w : World} {A : Option Addr} {c : Nat} {n : Node} {left : Int} (hC : kOp.C w A n.ops.length n.ops) (hr : RawOs n.ops) (h0 : 0 ≤ left) (h1 : left ≤ 1048576) :
    Calls Try.prog 20 #[.agg #[.bool n.up, .int .i64 n.term, .bool n.leads, .bool n.alone, .slice A n.ops.length c], .int .i64 left] w (Left (SmallOs n.ops) left w) := by
  have H := Lib.hid hC
  have HR := Lib.hid hr
  clear hC hr
  go_enter Try.func20, Try.ntmps20
  go_wp2_with fail
  refine (szOpS_c (Kd.C_alloc H.out _) HR.out h0 h1).mono ?_
  rintro e w1 ⟨r, rfl, hb1, hr, hr1⟩
  have hb : Bel w w1 := (bel_alloc (Below.refl _ _) _ : Bel w _).tr hb1
  have HRR := Lib.hid hr
  clear hr hb1
  by_cases hrn : r < 0
  · go_wp2
    go_ret
    exact ⟨-1, rfl, hb, by omega, by omega⟩
  · go_wp2
    go_ret
    exact ⟨r, rfl, hb, HRR.out, hr1⟩
/-- What a maker of nodes leaves. -/
def MadeNd (w : World) (n : Node) (e : Ending) (w' : World) : Prop := ∃ v, e = .returned (.agg #[.bool n.up, .int .i64 n.term, .bool n.leads, .bool n.alone, v]) ∧ OwnO w' w.heap.size v n.ops ∧ Bel w w'
theorem OwnO.far {w : World} {base : Nat} {v : Value} {s : List Op} (h : OwnO w base v s) {b : Nat} {cs : Array Value} {t : TypeId} (hB : Blk w b cs t) (ht : 61 ≠ t) (i : Nat) (u : Value) : OwnO (w.setCell ⟨b, i, none⟩ u) base v s :=
  own_setCell (p := ⟨b, i, none⟩) h (own_ne h hB ht) u
set_option maxHeartbeats 4000000 in
theorem toNode_c {w : World} {A : Option Addr} {c : Nat} {n : Node} (hC : kOp.C w A n.ops.length n.ops) (hl : n.ops.length ≤ 1048576) :
    Calls Try.prog 22 #[.agg #[.bool n.up, .int .i64 n.term, .bool n.leads, .bool n.alone, .slice A n.ops.length c]] w (MadeNd w n) := by
  have H := Lib.hid hC
  clear hC
  go_enter Try.func22, Try.ntmps22
  go_wp2_with fail
  have hR : Blk (((w.alloc (.cells #[.bool n.up, .int .i64 n.term, .bool n.leads, .bool n.alone, .slice A n.ops.length c] 42)).alloc (.cells #[.bool false, .int .i64 0, .bool false, .bool false, .slice none 0 0] 34)).alloc (.cells #[.bool n.up, .int .i64 n.term, .bool n.leads, .bool n.alone, .slice none 0 0] 34)) (w.heap.size + 1) #[.bool false, .int .i64 0, .bool false, .bool false, .slice none 0 0] 34 := (Blk.nw2 _ _ _ _).alloc _
  have hL : Blk (((w.alloc (.cells #[.bool n.up, .int .i64 n.term, .bool n.leads, .bool n.alone, .slice A n.ops.length c] 42)).alloc (.cells #[.bool false, .int .i64 0, .bool false, .bool false, .slice none 0 0] 34)).alloc (.cells #[.bool n.up, .int .i64 n.term, .bool n.leads, .bool n.alone, .slice none 0 0] 34)) (w.heap.size + 1 + 1) #[.bool n.up, .int .i64 n.term, .bool n.leads, .bool n.alone, .slice none 0 0] 34 := Blk.nw3 _ _ _ _ _
  have hW : Bel w (((w.alloc (.cells #[.bool n.up, .int .i64 n.term, .bool n.leads, .bool n.alone, .slice A n.ops.length c] 42)).alloc (.cells #[.bool false, .int .i64 0, .bool false, .bool false, .slice none 0 0] 34)).alloc (.cells #[.bool n.up, .int .i64 n.term, .bool n.leads, .bool n.alone, .slice none 0 0] 34)) := bel_alloc (bel_alloc (bel_alloc (Below.refl _ _) _) _) _
  generalize (((w.alloc (.cells #[.bool n.up, .int .i64 n.term, .bool n.leads, .bool n.alone, .slice A n.ops.length c] 42)).alloc (.cells #[.bool false, .int .i64 0, .bool false, .bool false, .slice none 0 0] 34)).alloc (.cells #[.bool n.up, .int .i64 n.term, .bool n.leads, .bool n.alone, .slice none 0 0] 34)) = W at hR hL hW ⊢
  refine (toOpS_c (Kd.C_below H.out hW) hl).mono ?_
  rintro e w1 ⟨b, rfl, ho, hb1⟩
  obtain ⟨B, d, rfl, hd, hCd⟩ := ho.reads
  clear hCd
  have HR := Lib.hid (hR.bel hb1)
  have HL := Lib.hid (hL.bel hb1)
  have HW := Lib.hid (hW.tr hb1)
  have HO := Lib.hid (show OwnO w1 w.heap.size (.slice B n.ops.length d) n.ops from own_lower ho hW.size)
  clear hR hL hW ho hb1
  have l0 := HL.out.cell 0
  have r0 := HR.out.cell 0
  have f0 := HR.out.free 0
  have l1 := HL.out.cell 1
  have r1 := HR.out.cell 1
  have f1 := HR.out.free 1
  have l2 := HL.out.cell 2
  have r2 := HR.out.cell 2
  have f2 := HR.out.free 2
  have l3 := HL.out.cell 3
  have r3 := HR.out.cell 3
  have f3 := HR.out.free 3
  have l4 := HL.out.cell 4
  have r4 := HR.out.cell 4
  have f4 := HR.out.free 4
  have g4 := HL.out.free 4
  have y1 := HL.out.lt
  have y2 := HR.out.lt
  simp at l0 r0 l1 r1 l2 r2 l3 r3 l4 r4
  go_wp2
  have hL1 := HL.out.set 4 (.slice B n.ops.length d) (cs' := #[.bool n.up, .int .i64 n.term, .bool n.leads, .bool n.alone, .slice B n.ops.length d]) rfl
  have hR0 := HR.out.apart (show w.heap.size + 1 + 1 ≠ w.heap.size + 1 by omega) 4 (.slice B n.ops.length d)
  have ho0 := HO.out.far HL.out (by decide) 4 (.slice B n.ops.length d)
  have hb0 := bel_set HW.out (show w.heap.size ≤ w.heap.size + 1 + 1 by omega) 4 (.slice B n.ops.length d)
  have hR1 := hR0.set 0 (.bool n.up) (cs' := #[.bool n.up, .int .i64 0, .bool false, .bool false, .slice none 0 0]) rfl
  have ho1 := ho0.far hR0 (by decide) 0 (.bool n.up)
  have hb1 := bel_set hb0 (show w.heap.size ≤ w.heap.size + 1 by omega) 0 (.bool n.up)
  have hR2 := hR1.set 1 (.int .i64 n.term) (cs' := #[.bool n.up, .int .i64 n.term, .bool false, .bool false, .slice none 0 0]) rfl
  have ho2 := ho1.far hR1 (by decide) 1 (.int .i64 n.term)
  have hb2 := bel_set hb1 (show w.heap.size ≤ w.heap.size + 1 by omega) 1 (.int .i64 n.term)
  have hR3 := hR2.set 2 (.bool n.leads) (cs' := #[.bool n.up, .int .i64 n.term, .bool n.leads, .bool false, .slice none 0 0]) rfl
  have ho3 := ho2.far hR2 (by decide) 2 (.bool n.leads)
  have hb3 := bel_set hb2 (show w.heap.size ≤ w.heap.size + 1 by omega) 2 (.bool n.leads)
  have hR4 := hR3.set 3 (.bool n.alone) (cs' := #[.bool n.up, .int .i64 n.term, .bool n.leads, .bool n.alone, .slice none 0 0]) rfl
  have ho4 := ho3.far hR3 (by decide) 3 (.bool n.alone)
  have hb4 := bel_set hb3 (show w.heap.size ≤ w.heap.size + 1 by omega) 3 (.bool n.alone)
  have hR5 := hR4.set 4 (.slice B n.ops.length d) (cs' := #[.bool n.up, .int .i64 n.term, .bool n.leads, .bool n.alone, .slice B n.ops.length d]) rfl
  have ho5 := ho4.far hR4 (by decide) 4 (.slice B n.ops.length d)
  have hb5 := bel_set hb4 (show w.heap.size ≤ w.heap.size + 1 by omega) 4 (.slice B n.ops.length d)
  refine bodyPost_ret (results_cell_row rfl _ _ (w.heap.size + 1) 34 #[.bool n.up, .int .i64 n.term, .bool n.leads, .bool n.alone, .slice B n.ops.length d] (0, 0) _ rfl hR5 Try.underlying34 rfl (by kernel_rfl)) rfl ?_
  exact ⟨_, rfl, ho5, hb5⟩
end Go.Proofs.Ytccllgpaafgjaaa
/- Rows of nodes: eqNode, eqNodeS; the helpers of worlds without letters. -/

namespace Go.Proofs.Ytccllgpaafgjaaa
open Go.RowKit Go.Proofs.YtccllgpaafgjaaaW.PrintWords
set_option linter.unusedVariables false
set_option linter.unusedSimpArgs false

structure SmallN (n : Node) : Prop where
  ops : SmallOs n.ops
set_option maxHeartbeats 2000000 in
theorem eqNode_c {w : World} {A A' : Option Addr} {c c' : Nat} {n : Node} (hC : kOp.C w A n.ops.length n.ops) (hC' : kOp.C w A' n.ops.length n.ops) (hl : n.ops.length ≤ 1048576) :
    Calls Try.prog 23 #[.agg #[.bool n.up, .int .i64 n.term, .bool n.leads, .bool n.alone, .slice A n.ops.length c], .agg #[.bool n.up, .int .i64 n.term, .bool n.leads, .bool n.alone, .slice A' n.ops.length c']] w (Ret (.bool true) w) := by
  have H := Lib.hid hC
  have H' := Lib.hid hC'
  clear hC hC'
  go_enter Try.func23, Try.ntmps23
  go_wp2_with fail
  refine (eqOpS_c (Kd.C_alloc (Kd.C_alloc H.out _) _) (Kd.C_alloc (Kd.C_alloc H'.out _) _) hl).mono ?_
  rintro e w1 ⟨rfl, hb⟩
  go_wp2
  go_ret
  exact ⟨rfl, (bel_alloc (bel_alloc (Below.refl _ _) _) _ : Bel w _).tr hb⟩
end Go.Proofs.Ytccllgpaafgjaaa
/- FnExactNodeOk. -/



namespace Go.Proofs.Ytccllgpaafgjaaa
open Go.RowKit Go.Proofs.YtccllgpaafgjaaaW.PrintWords Go.Proofs.YtccllgpaafgjaaaW.PrintLast
set_option linter.unusedVariables false
set_option linter.unusedSimpArgs false

set_option maxHeartbeats 8000000 in
set_option maxRecDepth 10000 in
theorem lawFnExactNodeOk_c {w : World} {A : Option Addr} {c : Nat} {n : Node} (hC : kOp.C w A n.ops.length n.ops) (hr : RawOs n.ops) :
    Calls Try.prog 5 #[.agg #[.bool n.up, .int .i64 n.term, .bool n.leads, .bool n.alone, .slice A n.ops.length c]] w (Ret (.bool true) w) := by
  have HC := Lib.hid hC
  have HRW := Lib.hid hr
  obtain ⟨b, hbk⟩ : ∃ b, nodeOk n = b := ⟨_, rfl⟩
  have HBK := Lib.hid hbk
  clear hC hr hbk
  go_enter Try.func5, Try.ntmps5
  go_wp2_with fail
  have hB : Blk (w.alloc (.cells #[.bool n.up, .int .i64 n.term, .bool n.leads, .bool n.alone, .slice A n.ops.length c] 42)) w.heap.size #[.bool n.up, .int .i64 n.term, .bool n.leads, .bool n.alone, .slice A n.ops.length c] 42 := Blk.new _ _ _
  have hb : Bel w (w.alloc (.cells #[.bool n.up, .int .i64 n.term, .bool n.leads, .bool n.alone, .slice A n.ops.length c] 42)) := bel_alloc (Below.refl _ _) _
  generalize w.alloc (.cells #[.bool n.up, .int .i64 n.term, .bool n.leads, .bool n.alone, .slice A n.ops.length c] 42) = W0 at hB hb ⊢
  refine (szNode_c (Kd.C_below HC.out hb) HRW.out (by omega) (by omega)).mono ?_
  rintro e w1 ⟨r, rfl, hb1, hr, hr1⟩
  have KB := Lib.hid (hB.bel hb1)
  have KW := Lib.hid (hb.tr hb1)
  have HRR := Lib.hid hr
  clear hB hb hb1 hr
  by_cases hrn : r < 0
  · go_wp2
    go_ret
    exact ⟨rfl, KW.out⟩
  have HS := Lib.hid (HRR.out (by omega)).1
  clear HRR hr1
  have kb0 := KB.out.cell 0
  have kb1 := KB.out.cell 1
  have kb2 := KB.out.cell 2
  have kb3 := KB.out.cell 3
  have kb4 := KB.out.cell 4
  have ykb := KB.out.lt
  simp at kb0 kb1 kb2 kb3 kb4
  go_wp2_with fail
  clear kb0 kb1 kb2 kb3 kb4 ykb
  refine (toNode_c (Kd.C_below HC.out KW.out) HS.out.len).mono ?_
  rintro e w2 ⟨v, rfl, ho, hb⟩
  obtain ⟨B, d, rfl, _, hCv⟩ := ho.reads
  clear ho
  replace KB := Lib.hid (KB.out.bel hb)
  replace KW := Lib.hid (KW.out.trans (Below.mono hb (Below.size KW.out)))
  clear hb
  go_wp2_with fail
  have hs := specNodeOk_c (c := d) hCv HS.out
  rw [HBK.out] at hs
  refine hs.mono ?_
  rintro e w3 ⟨rfl, hb⟩
  clear hs hCv
  replace KB := Lib.hid (KB.out.bel hb)
  replace KW := Lib.hid (KW.out.trans (Below.mono hb (Below.size KW.out)))
  clear hb
  have kb0 := KB.out.cell 0
  have kb1 := KB.out.cell 1
  have kb2 := KB.out.cell 2
  have kb3 := KB.out.cell 3
  have kb4 := KB.out.cell 4
  have ykb := KB.out.lt
  simp at kb0 kb1 kb2 kb3 kb4
  go_wp2_with fail
  clear kb0 kb1 kb2 kb3 kb4 ykb
  refine (toNode_c (Kd.C_below HC.out KW.out) HS.out.len).mono ?_
  rintro e w4 ⟨v, rfl, ho, hb⟩
  obtain ⟨E, f, rfl, _, hCx⟩ := ho.reads
  clear ho
  replace KB := Lib.hid (KB.out.bel hb)
  replace KW := Lib.hid (KW.out.trans (Below.mono hb (Below.size KW.out)))
  clear hb
  go_wp2_with fail
  have hx : Blk (w4.alloc (.cells #[.bool n.up, .int .i64 n.term, .bool n.leads, .bool n.alone, .slice E n.ops.length f] 34)) w4.heap.size #[.bool n.up, .int .i64 n.term, .bool n.leads, .bool n.alone, .slice E n.ops.length f] 34 := Blk.new _ _ _
  have hb : Bel w4 (w4.alloc (.cells #[.bool n.up, .int .i64 n.term, .bool n.leads, .bool n.alone, .slice E n.ops.length f] 34)) := bel_alloc (Below.refl _ _) _
  generalize w4.alloc (.cells #[.bool n.up, .int .i64 n.term, .bool n.leads, .bool n.alone, .slice E n.ops.length f] 34) = W5 at hx hb ⊢
  obtain ⟨xb, hxb⟩ : ∃ b, w4.heap.size = b := ⟨_, rfl⟩
  rw [hxb] at hx ⊢
  clear hxb
  have HX := Lib.hid (Kd.C_below hCx hb)
  clear hCx
  replace KB := Lib.hid (KB.out.bel hb)
  replace KW := Lib.hid (KW.out.trans (Below.mono hb (Below.size KW.out)))
  clear hb
  have KX := Lib.hid hx
  clear hx
  have hs := implNodeOk_c (c := f) HX.out HS.out
  rw [HBK.out] at hs
  refine hs.mono ?_
  rintro e w6 ⟨rfl, hb⟩
  clear hs
  replace HX := Lib.hid (Kd.C_below HX.out hb)
  replace KB := Lib.hid (KB.out.bel hb)
  replace KX := Lib.hid (KX.out.bel hb)
  replace KW := Lib.hid (KW.out.trans (Below.mono hb (Below.size KW.out)))
  clear hb
  have hbb : (b != b) = false := by simp
  have kb0 := KB.out.cell 0
  have kb1 := KB.out.cell 1
  have kb2 := KB.out.cell 2
  have kb3 := KB.out.cell 3
  have kb4 := KB.out.cell 4
  have ykb := KB.out.lt
  have kx0 := KX.out.cell 0
  have kx1 := KX.out.cell 1
  have kx2 := KX.out.cell 2
  have kx3 := KX.out.cell 3
  have kx4 := KX.out.cell 4
  have ykx := KX.out.lt
  simp at kb0 kb1 kb2 kb3 kb4 kx0 kx1 kx2 kx3 kx4
  go_wp2
  have HT := Lib.hid (toNode_c (n := n) (c := c) (Kd.C_below HC.out (Bel.tr KW.out (Below.refl _ _).drew)) HS.out.len)
  refine start_ (n := 5) (S := fun w' => w'.cell? ⟨xb, 0, none⟩ = some (.bool n.up) ∧ w'.cell? ⟨xb, 1, none⟩ = some (.int .i64 n.term) ∧ w'.cell? ⟨xb, 2, none⟩ = some (.bool n.leads) ∧ w'.cell? ⟨xb, 3, none⟩ = some (.bool n.alone) ∧ w'.cell? ⟨xb, 4, none⟩ = some (.slice E n.ops.length f) ∧ w'.cell? ⟨w.heap.size, 0, none⟩ = some (.bool n.up) ∧ w'.cell? ⟨w.heap.size, 1, none⟩ = some (.int .i64 n.term) ∧ w'.cell? ⟨w.heap.size, 2, none⟩ = some (.bool n.leads) ∧ w'.cell? ⟨w.heap.size, 3, none⟩ = some (.bool n.alone) ∧ w'.cell? ⟨w.heap.size, 4, none⟩ = some (.slice A n.ops.length c)) (ds := []) #[false, false, false, false, false] (by kernel_rfl) rfl rfl ⟨kx0, kx1, kx2, kx3, kx4, kb0, kb1, kb2, kb3, kb4⟩ (fun hHeld => ?_)
  refine take_ (i := 0) (N := some 22) (v := ?_) (a' := ?_) #[true, false, false, false, false] rfl rfl (by kernel_rfl) (fun _ _ _ h => h) (Or.inl ⟨by rfl, ?_⟩) hHeld ?_ ?_
  rotate_left
  · rintro w' ⟨s0, s1, s2, s3, s4, s5, s6, s7, s8, s9⟩
    go_simp
    with_reducible rfl
  rotate_left
  · simp only [Act.put, List.setIfInBounds_toArray, List.set_cons_zero, List.set_cons_succ, i64_w, i32_w]
    rfl
  refine take_ (i := 1) (N := some 23) (v := ?_) (a' := ?_) #[true, true, false, false, false] rfl rfl (by kernel_rfl) (fun _ _ _ h => h) (Or.inl ⟨by rfl, ?_⟩) hHeld ?_ ?_
  rotate_left
  · rintro w' ⟨s0, s1, s2, s3, s4, s5, s6, s7, s8, s9⟩
    go_simp
    with_reducible rfl
  rotate_left
  · simp only [Act.put, List.setIfInBounds_toArray, List.set_cons_zero, List.set_cons_succ, i64_w, i32_w]
    rfl
  refine one_ (i := 2) (N := some 24) #[true, true, true, false, false] rfl rfl (by kernel_rfl) (by decide) (fun K hK => ?_)
  refine goes_ Try.func22 (by kernel_rfl) rfl #[.agg #[.bool n.up, .int .i64 n.term, .bool n.leads, .bool n.alone, .slice A n.ops.length c]] (by rfl) rfl rfl (by simp only [List.map_toArray, List.map_cons, List.map_nil]; rfl) ?_
  with_reducible refine (HT.out).mono ?_
  rintro e w7 ⟨vT, rfl, hoT, hbT⟩
  obtain ⟨AT, cT, rfl, _, hCT⟩ := hoT.reads
  clear hoT
  have hbT' : Bel w6 w7 := Bel.tr (b := w6.drew) (Below.refl _ _).drew hbT
  have u0 := (KX.out.bel hbT').cell 0
  have u1 := (KX.out.bel hbT').cell 1
  have u2 := (KX.out.bel hbT').cell 2
  have u3 := (KX.out.bel hbT').cell 3
  have u4 := (KX.out.bel hbT').cell 4
  have u5 := (KB.out.bel hbT').cell 0
  have u6 := (KB.out.bel hbT').cell 1
  have u7 := (KB.out.bel hbT').cell 2
  have u8 := (KB.out.bel hbT').cell 3
  have u9 := (KB.out.bel hbT').cell 4
  simp at u0 u1 u2 u3 u4 u5 u6 u7 u8 u9
  clear hbT
  refine ⟨_, rfl, ?_⟩
  refine hK.out _ _ ⟨u0, u1, u2, u3, u4, u5, u6, u7, u8, u9⟩ (fun hHeld => ?_)
  clear hK K
  refine norm_ (a' := ?_) ?_ ?_
  rotate_left
  · show Act.put _ (some 24) _ = _
    simp only [Act.put, List.setIfInBounds_toArray, List.set_cons_zero, List.set_cons_succ, i64_w, i32_w]
    rfl
  refine one_ (i := 3) (N := some 25) #[true, true, true, true, false] rfl rfl (by kernel_rfl) (by decide) (fun K hK => ?_)
  refine goes_ Try.func23 (by kernel_rfl) rfl #[.agg #[.bool n.up, .int .i64 n.term, .bool n.leads, .bool n.alone, .slice E n.ops.length f], .agg #[.bool n.up, .int .i64 n.term, .bool n.leads, .bool n.alone, .slice AT n.ops.length cT]] (by rfl) rfl rfl (by simp only [List.map_toArray, List.map_cons, List.map_nil]; rfl) ?_
  with_reducible refine (eqNode_c (Kd.C_below HX.out hbT') hCT HS.out.len).mono ?_
  rintro e w8 ⟨rfl, hbE⟩
  have v0 := (KX.out.bel (hbT'.tr hbE)).cell 0
  have v1 := (KX.out.bel (hbT'.tr hbE)).cell 1
  have v2 := (KX.out.bel (hbT'.tr hbE)).cell 2
  have v3 := (KX.out.bel (hbT'.tr hbE)).cell 3
  have v4 := (KX.out.bel (hbT'.tr hbE)).cell 4
  have v5 := (KB.out.bel (hbT'.tr hbE)).cell 0
  have v6 := (KB.out.bel (hbT'.tr hbE)).cell 1
  have v7 := (KB.out.bel (hbT'.tr hbE)).cell 2
  have v8 := (KB.out.bel (hbT'.tr hbE)).cell 3
  have v9 := (KB.out.bel (hbT'.tr hbE)).cell 4
  simp at v0 v1 v2 v3 v4 v5 v6 v7 v8 v9
  refine ⟨_, rfl, ?_⟩
  refine hK.out _ _ ⟨v0, v1, v2, v3, v4, v5, v6, v7, v8, v9⟩ (fun hHeld => ?_)
  clear hK K
  refine norm_ (a' := ?_) ?_ ?_
  rotate_left
  · show Act.put _ (some 25) _ = _
    simp only [Act.put, List.setIfInBounds_toArray, List.set_cons_zero, List.set_cons_succ, i64_w, i32_w]
    rfl
  refine pure_ (i := 4) (N := some 26) (v := ?_) (a' := ?_) #[true, true, true, true, true] rfl rfl (by kernel_rfl) (fun _ _ _ h => h) (Or.inl ⟨by rfl, ?_⟩) ?_ ?_
  rotate_left
  · intro w'
    go_simp
    with_reducible rfl
  rotate_left
  · simp only [Act.put, List.setIfInBounds_toArray, List.set_cons_zero, List.set_cons_succ, i64_w, i32_w]
    rfl
  refine done_ (by kernel_rfl) ?_
  have hb : Bel w6 w8 := hbT'.tr hbE
  go_wp2
  go_ret
  exact ⟨rfl, Bel.tr KW.out hb⟩
end Go.Proofs.Ytccllgpaafgjaaa
/- A node that came in, opened. -/



namespace Go.Proofs.Ytccllgpaafgjaaa
open Go.RowKit Go.Proofs.YtccllgpaafgjaaaW.PrintWords Go.Joins Go.ChangeShapes Go.WideShapes Go.Deep
set_option linter.unusedVariables false
set_option linter.unusedSimpArgs false
section
variable {H : Type} {enc : TypeId × Value → H} {w : World} {base : Nat} {spare : Nat → Bool} {held : Bool}
theorem cells_opL : Try.prog.cellsOf 110 = 5 := by kernel_rfl
theorem cells_opsL : Try.prog.cellsOf 40 = 1 := by kernel_rfl
theorem cells_boolL : Try.prog.cellsOf 4 = 1 := by kernel_rfl
set_option maxRecDepth 100000 in
theorem open_node {r : Reach} {b0 : Nat} {v : Value} {d : DataW H} {p : List MemPlace} (hv : Value.okWide Try.prog w r b0 42 v) (h : DataW.Trod enc Try.prog w base spare held 42 v d p) :
    ∃ (n : Node) (A : Option Addr) (c : Nat), v = .agg #[.bool n.up, .int .i64 n.term, .bool n.leads, .bool n.alone, .slice A n.ops.length c] ∧ kOp.C w A n.ops.length n.ops ∧ RawOs n.ops := by
  obtain ⟨cs, rfl, hsz⟩ := okWide_struct Try.underlying42 hv
  obtain ⟨c0, c1, c2, c3, c4, rfl⟩ := array5 (hsz.trans (show Try.prog.cellsOf 42 = 5 by kernel_rfl))
  obtain ⟨fuel, hf⟩ := h
  obtain ⟨y0, y1, y2, y3, y4, m, _, h0, h1, h2, h3, h4⟩ := trod_struct5 Try.underlying42 hf
  simp only [cells_boolL, cells_int, cells_opsL, List.drop_zero, List.drop_succ_cons, List.take_succ_cons, List.take_zero, Value.cells] at h0 h1 h2 h3 h4
  obtain ⟨u, e0, _⟩ := DataW.trod_bool Try.underlying4 h0
  obtain ⟨k, e1, _, hk⟩ := DataW.trod_int Try.underlying3 h1
  obtain ⟨l, e2, _⟩ := DataW.trod_bool Try.underlying4 h2
  obtain ⟨a, e3, _⟩ := DataW.trod_bool Try.underlying4 h3
  obtain ⟨A, c, xs, e4, hc, hC, hq, hm⟩ := open_row kOp (Q := RawO) Try.underlying40 cells_opL (fun n c y hl hy => by
    obtain ⟨o, rfl, hr⟩ := open_opE hl hy
    exact ⟨o, kOp_mk _ o, hr⟩) h4
  have := big_max
  simp only [List.cons.injEq, and_true] at e0 e1 e2 e3 e4
  subst e0 e1 e2 e3 e4
  exact ⟨⟨u, k, l, a, xs⟩, A, c, rfl, hC, ⟨by show xs.length ≤ _; omega, hq⟩⟩
end
end Go.Proofs.Ytccllgpaafgjaaa

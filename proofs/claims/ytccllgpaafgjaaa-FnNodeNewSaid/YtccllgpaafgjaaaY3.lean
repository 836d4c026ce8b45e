/- Contracts of the program's and the reference's functions, and the plain laws behind them: part 3 of 3. -/
import Derived.Test.YtccllgpaafgjaaaY2
import Derived.ArgAppend
import Derived.Deep.Slices
import Derived.Deep.Fields
import Derived.ChangeSame
import Derived.ChangeArms
import Derived.Lib.SmallJoins
import Derived.WideShapes
import Derived.OpenShut
import Derived.Test.YtccllgpaafgjaaaRows
import Derived.JoinedOf
import Derived.KernelRfl
/- The pool behind changes, logs and nodes: plain laws. -/


namespace Go.Proofs.Ytccllgpaafgjaaa
open Go.RowKit Go.Proofs.YtccllgpaafgjaaaW.PrintWords
set_option linter.unusedVariables false
set_option linter.unusedSimpArgs false

/-- The pool behind changes, if each can be done. -/
def opR (p : Pool) (o : Op) : Option Pool := if opOk o then opF p o else none
def runP : Pool → List Op → Option Pool
  | p, [] => some p
  | p, o :: os => (opR p o).bind fun q => runP q os
theorem opR_ok {p q : Pool} {o : Op} (hp : PoolP p) (h : opR p o = some q) : PoolP q := by
  unfold opR at h
  split at h
  · exact opF_ok hp h
  · cases h
theorem runP_ok : ∀ (os : List Op) {p q : Pool}, PoolP p → runP p os = some q → PoolP q
  | [], p, q, hp, h => by cases h; exact hp
  | o :: os, p, q, hp, h => by
    obtain ⟨x, hx, hq⟩ := Option.bind_eq_some_iff.1 h
    exact runP_ok os (opR_ok hp hx) hq
theorem runP_append : ∀ (xs bs : List Op) (p : Pool), runP p (xs ++ bs) = (runP p xs).bind fun q => runP q bs
  | [], bs, p => rfl
  | a :: xs, bs, p => by
    show (opR p a).bind _ = ((opR p a).bind _).bind _
    cases opR p a with
    | none => rfl
    | some x => exact runP_append xs bs x
theorem runP_snoc (p : Pool) (os : List Op) (o : Op) : runP p (os ++ [o]) = (runP p os).bind fun q => opR q o := by
  rw [runP_append]
  congr
  funext q
  show (opR q o).bind _ = _
  cases opR q o <;> rfl
theorem runP_step {p q : Pool} {os : List Op} {k : Nat} {o : Op} (hk : os[k]? = some o) (h : runP p (os.take k) = some q) : runP p (os.take (k + 1)) = opR q o := by
  rw [take_snoc hk, runP_snoc, h]; rfl
theorem runP_stop {p : Pool} {os : List Op} {k : Nat} (h : runP p (os.take k) = none) : runP p os = none := by
  rw [← List.take_append_drop k os, runP_append, h]; rfl
theorem chO_opR {p : Pool} (hp : PoolP p) (o : Op) : chOB p o = (opR p o).isSome ∧ ∀ q, opR p o = some q → chO p o = q := by
  unfold chOB chO opR chB chP
  rw [poolOk_iff.2 hp]
  cases opOk o with
  | false => exact ⟨rfl, fun q h => by cases h⟩
  | true =>
    refine ⟨by simp, fun q h => ?_⟩
    have h : opF p o = some q := by simpa using h
    rw [h]
    rfl
/-- What doAll returns. -/
def runB (p : Pool) (os : List Op) : Bool := poolOk p && (runP p os).isSome
def runV (p : Pool) (os : List Op) : Pool := if poolOk p then (runP p os).getD noP else noP
theorem runV_ok {p q : Pool} {os : List Op} (hp : PoolP p) (h : runP p os = some q) : runV p os = q ∧ runB p os = true := by
  unfold runV runB
  rw [poolOk_iff.2 hp, h]
  exact ⟨rfl, rfl⟩
theorem runV_no {p : Pool} {os : List Op} (hp : PoolP p) (h : runP p os = none) : runV p os = noP ∧ runB p os = false := by
  unfold runV runB
  rw [poolOk_iff.2 hp, h]
  exact ⟨rfl, rfl⟩
theorem runV_bad {p : Pool} (os : List Op) (h : poolOk p = false) : runV p os = noP ∧ runB p os = false := by
  unfold runV runB
  rw [h]
  exact ⟨rfl, rfl⟩
/-! ### logs -/
structure Log where
  base : Pool
  ops : List Op
  safe : Int
def noL : Log := ⟨noP, [], 0⟩
def logOk (l : Log) : Bool := runB l.base l.ops && (decide (l.ops.length ≤ 20) && inR l.safe 0 l.ops.length)
structure SmallL (l : Log) : Prop where
  base : SmallP l.base
  ops : SmallOs l.ops
structure LogP (l : Log) (q : Pool) : Prop where
  base : PoolP l.base
  run : runP l.base l.ops = some q
  len : l.ops.length ≤ 20
  s0 : 0 ≤ l.safe
  s1 : l.safe ≤ l.ops.length
/-! ### nodes -/
def nodeOk (n : Node) : Bool := inR n.term 0 99 && ((n.leads || !n.alone) && (runB newP n.ops && decide (n.ops.length ≤ 20)))
structure NodeP (n : Node) (q : Pool) : Prop where
  t0 : 0 ≤ n.term
  t1 : n.term ≤ 99
  al : n.alone = true → n.leads = true
  run : runP newP n.ops = some q
  len : n.ops.length ≤ 20
end Go.Proofs.Ytccllgpaafgjaaa
/- The tail of a row of changes of one's own: cut, append. -/



namespace Go.Proofs.Ytccllgpaafgjaaa
open Go.RowKit Go.Proofs.YtccllgpaafgjaaaW.PrintWords
set_option linter.unusedVariables false
set_option linter.unusedSimpArgs false

/-- The tail of a row of changes of one's own; an empty one without room may lie anywhere of one's own. -/
def OwnT (w : World) (base : Nat) (v : Value) (os : List Op) : Prop :=
  (os = [] ∧ ∃ A : Option Addr, v = .slice A 0 0 ∧ ∀ a, A = some a → base ≤ a.block ∧ a.block < w.heap.size ∧ ∃ cs, w.heap[a.block]? = some (.cells cs 61 (0, 0))) ∨
  ∃ (g cap : Nat) (pre : List Op), v = .slice (some ⟨g, pre.length * 5, none⟩) os.length (cap - pre.length) ∧ pre.length ≤ 1048576 ∧ OwnO w base (.slice (some ⟨g, 0, none⟩) (pre.length + os.length) cap) (pre ++ os)
theorem OwnO.tail {w : World} {base : Nat} {v : Value} {os : List Op} (h : OwnO w base v os) : OwnT w base v os := by
  rcases h.2 with ⟨rfl, h0⟩ | ⟨g, cap, cur, rfl, _⟩
  · exact .inl ⟨List.length_eq_zero_iff.1 h0, none, rfl, fun a e => by cases e⟩
  · refine .inr ⟨g, cap, [], rfl, by simp, ?_⟩
    simpa using h
theorem OwnO.len {w : World} {base : Nat} {A : Option Addr} {n c : Nat} {os : List Op} (h : OwnO w base (.slice A n c) os) : n = os.length := by
  obtain ⟨A', c', e, _⟩ := own_cap h
  injection e
theorem OwnO.full {w : World} {base g n cap : Nat} {os : List Op} (h : OwnO w base (.slice (some ⟨g, 0, none⟩) n cap) os) :
    base ≤ g ∧ g < w.heap.size ∧ n ≤ cap ∧ (∀ j, j < cap * 5 → (w.cell? ⟨g, j, none⟩).isSome = true) ∧ ∀ j, w.frozen? ⟨g, j, none⟩ = false := by
  rcases h.2 with ⟨e, _⟩ | ⟨g', cap', cur, e, hb, hg, hc, _, hs, _⟩
  · cases e
  · have hn := h.len
    obtain ⟨rfl, rfl, rfl⟩ : g = g' ∧ n = os.length ∧ cap = cap' := by simpa using e
    refine ⟨hb, (Array.getElem?_eq_some_iff.1 hg).1, hc, fun j hj => ?_, fun j => World.ownsRow.frozenAt h j⟩
    have : w.cell? ⟨g, j, none⟩ = cur[j]? := by simp [World.cell?, hg]
    rw [this, Array.getElem?_eq_getElem (by rw [hs]; exact hj)]
    rfl
theorem OwnT.reads {w : World} {base : Nat} {v : Value} {os : List Op} (h : OwnT w base v os) : ∃ A c, v = .slice A os.length c ∧ os.length ≤ c ∧ kOp.C w A os.length os := by
  rcases h with ⟨rfl, A, rfl, _⟩ | ⟨g, cap, pre, rfl, hpl, ho⟩
  · exact ⟨A, 0, rfl, Nat.le_refl _, ⟨rfl, by simp, fun h => absurd h (Nat.lt_irrefl 0)⟩⟩
  · have hf := ho.full
    refine ⟨_, _, rfl, by omega, ?_⟩
    have hc : kOp.C w (some ⟨g, 0, none⟩) (pre ++ os).length (pre ++ os) := by
      obtain ⟨A', c', e, _, hr⟩ := OwnO.reads ho
      obtain ⟨rfl, -, -⟩ := by simpa using e
      exact hr
    cases os with
    | nil => exact ⟨rfl, by simp, fun h => absurd h (Nat.lt_irrefl 0)⟩
    | cons o os =>
      have hd := Kd.C_drop (c := cap) hc (m := pre.length) (by simp) (by rw [List.length_append]; exact hf.2.2.1)
      rw [if_neg (by have := hf.2.2.1; simp only [List.length_cons] at this; omega), List.drop_left] at hd
      have e : (some (⟨g, 0, none⟩ : Addr)).map (·.add (pre.length * kOp.sz)) = some ⟨g, pre.length * 5, none⟩ := by
        show some ((⟨g, 0, none⟩ : Addr).add (pre.length * 5)) = _
        rw [Addr.add_lit, Nat.zero_add]
      rw [e] at hd
      exact hd
theorem OwnT.bel {w w' : World} {base : Nat} {v : Value} {os : List Op} (h : OwnT w base v os) (hb : Bel w w') : OwnT w' base v os := by
  rcases h with ⟨rfl, A, rfl, ha⟩ | ⟨g, cap, pre, rfl, hpl, ho⟩
  · refine .inl ⟨rfl, A, rfl, fun a e => ?_⟩
    obtain ⟨h1, h2, cs, h3⟩ := ha a e
    exact ⟨h1, Nat.lt_of_lt_of_le h2 hb.size, cs, (hb.block _ h2).trans h3⟩
  · exact .inr ⟨g, cap, pre, rfl, hpl, ho.bel hb⟩
theorem OwnT.base {w : World} {base : Nat} {v : Value} {os : List Op} (h : OwnT w base v os) : ∀ k, v.ownBlock = some k → base ≤ k ∧ k < w.heap.size ∧ ∃ cs, w.heap[k]? = some (.cells cs 61 (0, 0)) := by
  rcases h with ⟨rfl, A, rfl, ha⟩ | ⟨g, cap, pre, rfl, hpl, ho⟩
  · intro k hk
    cases A with
    | none => cases hk
    | some a => cases hk; exact ha a rfl
  · intro k hk
    cases hk
    rcases ho.2 with ⟨e, _⟩ | ⟨g', cap', cur, e, hb, hg, hc, _, hs, _⟩
    · cases e
    · obtain ⟨rfl, -, -⟩ := by simpa using e
      exact ⟨hb, (Array.getElem?_eq_some_iff.1 hg).1, cur, hg⟩
theorem OwnT.kept {w w' : World} {base : Nat} {v : Value} {os : List Op} {r : Option Nat} (h : OwnT w base v os) (hg : w.grownBy w' r) (hne : ∀ k, v.ownBlock = some k → r ≠ some k) : OwnT w' base v os := by
  rcases h with ⟨rfl, A, rfl, ha⟩ | ⟨g, cap, pre, rfl, hpl, ho⟩
  · refine .inl ⟨rfl, A, rfl, fun a e => ?_⟩
    obtain ⟨h1, h2, cs, h3⟩ := ha a e
    refine ⟨h1, Nat.lt_of_lt_of_le h2 hg.size, cs, (hg.block _ h2 ?_).trans h3⟩
    subst e
    exact fun e => hne _ rfl e.symm
  · exact .inr ⟨g, cap, pre, rfl, hpl, ho.kept hg (.inr fun e => hne g rfl e.symm)⟩
theorem OwnT.cut {w : World} {base : Nat} {A : Option Addr} {c : Nat} {os : List Op} (h : OwnO w base (.slice A os.length c) os) (hl : os.length ≤ 1048576) {m : Nat} (hm : m ≤ os.length) :
    OwnT w base (.slice (if c = m then A else A.map (·.add (m * 5))) (os.length - m) (c - m)) (os.drop m) := by
  rcases h.2 with ⟨e, h0⟩ | ⟨g, cap, cur, e, hb, hg, hc, _⟩
  · obtain ⟨rfl, h1, rfl⟩ := by simpa using e
    have : m = 0 := by omega
    subst this
    rw [if_pos rfl]
    have : os = [] := List.length_eq_zero_iff.1 h0
    subst this
    exact .inl ⟨rfl, none, rfl, fun a e => by cases e⟩
  · obtain ⟨rfl, rfl⟩ : A = some ⟨g, 0, none⟩ ∧ c = cap := by simpa using e
    by_cases hcm : c = m
    · have ht : m = os.length := by omega
      rw [if_pos hcm]
      subst ht
      rw [List.drop_length, Nat.sub_self, hcm, Nat.sub_self]
      exact .inl ⟨rfl, _, rfl, fun a e => by cases e; exact ⟨hb, (Array.getElem?_eq_some_iff.1 hg).1, cur, hg⟩⟩
    · rw [if_neg hcm]
      have ht : (os.take m).length = m := by rw [List.length_take]; omega
      refine .inr ⟨g, c, os.take m, ?_, by omega, ?_⟩
      · rw [ht, List.length_drop]
        show Value.slice (some ((⟨g, 0, none⟩ : Addr).add (m * 5))) _ _ = _
        rw [Addr.add_lit, Nat.zero_add]
      · rw [List.take_append_drop, ht, List.length_drop, show m + (os.length - m) = os.length by omega]
        exact h
end Go.Proofs.Ytccllgpaafgjaaa
/- doAll: the pool behind changes (the program's). -/



namespace Go.Proofs.Ytccllgpaafgjaaa
open Go.RowKit Go.Proofs.YtccllgpaafgjaaaW.PrintWords Go.Proofs.YtccllgpaafgjaaaW.PrintLast
set_option linter.unusedVariables false
set_option linter.unusedSimpArgs false

theorem OwnP.inn {w : World} {base : Nat} {A B : Option Addr} {c d : Nat} {p : Pool} {bvs : List Value} (h : OwnP w base (.slice A p.slots.length c) (.slice B p.vols.length d) p bvs) : PoolIn w A B c d p := by
  obtain ⟨a0, a1, k0, k1, e0, e1, hh⟩ := h.reads
  have e0 := slice_eq e0
  have e1 := slice_eq e1
  obtain ⟨rfl, -, rfl⟩ := e0
  obtain ⟨rfl, -, rfl⟩ := e1
  exact hh
theorem implOk_in {b : Bool} {p : Pool} {A0 A1 : Option Addr} {c0 c1 : Nat} {w : World} (h : PoolIn w A0 A1 c0 c1 p) (hs : SmallP p) (he : poolOk p = b) :
    Calls Try.prog 33 #[.agg #[.slice A0 p.slots.length c0, .slice A1 p.vols.length c1]] w (Ret (.bool b) w) := he ▸ implPoolOk_in h hs
structure DoSt (w W : World) (p : Pool) (v0 v1 : Value) (bvs : List Value) : Prop where
  pool : Blk W w.heap.size #[v0, v1] 49
  res : Blk W (w.heap.size + 1) #[.slice none 0 0, .slice none 0 0] 49
  own : OwnP W w.heap.size v0 v1 p bvs
  b : Bel w W
theorem DoSt.bel {w W W' : World} {p : Pool} {v0 v1 : Value} {bvs : List Value} (h : DoSt w W p v0 v1 bvs) (hb : Bel W W') : DoSt w W' p v0 v1 bvs := ⟨h.pool.bel hb, h.res.bel hb, h.own.bel hb, h.b.tr hb⟩
theorem DoSt.of {w W : World} {p : Pool} {v0 v1 x0 x1 : Value} {bvs : List Value} (hB : Blk W w.heap.size #[x0, x1] 49) (hR : Blk W (w.heap.size + 1) #[.slice none 0 0, .slice none 0 0] 49) (ho : OwnP W w.heap.size v0 v1 p bvs) (hb : Bel w W) :
    DoSt w ((W.setCell ⟨w.heap.size, 0, none⟩ v0).setCell ⟨w.heap.size, 1, none⟩ v1) p v0 v1 bvs := by
  have h1 := hB.set 0 v0 (cs' := #[v0, x1]) rfl
  exact ⟨h1.set 1 v1 rfl, (hR.apart (by omega) 0 v0).apart (by omega) 1 v1, (ho.far hB (by decide) (by decide) (by decide) 0 v0).far h1 (by decide) (by decide) (by decide) 1 v1, bel_set (bel_set hb (Nat.le_refl _) 0 v0) (Nat.le_refl _) 1 v1⟩
set_option maxHeartbeats 8000000 in
theorem doAll_c {w : World} {A0 A1 A2 : Option Addr} {c0 c1 c2 : Nat} {p : Pool} {os : List Op} (h : PoolIn w A0 A1 c0 c1 p) (hs : SmallP p) (hC : kOp.C w A2 os.length os) (ho : SmallOs os) :
    Calls Try.prog 59 #[.agg #[.slice A0 p.slots.length c0, .slice A1 p.vols.length c1], .slice A2 os.length c2] w (MadePB w (runV p os) (runB p os)) := by
  have HP := Lib.hid h
  have HS := Lib.hid hs
  have HC := Lib.hid hC
  have HO := Lib.hid ho
  have hl := ho.len
  clear h hs hC ho
  go_enter Try.func59, Try.ntmps59
  go_wp2_with fail
  have hB : Blk ((w.alloc (.cells #[.slice A0 p.slots.length c0, .slice A1 p.vols.length c1] 49)).alloc (.cells #[.slice none 0 0, .slice none 0 0] 49)) w.heap.size #[.slice A0 p.slots.length c0, .slice A1 p.vols.length c1] 49 := (Blk.new _ _ _).alloc _
  have hR : Blk ((w.alloc (.cells #[.slice A0 p.slots.length c0, .slice A1 p.vols.length c1] 49)).alloc (.cells #[.slice none 0 0, .slice none 0 0] 49)) (w.heap.size + 1) #[.slice none 0 0, .slice none 0 0] 49 := Blk.nw2 _ _ _ _
  have hW : Bel w ((w.alloc (.cells #[.slice A0 p.slots.length c0, .slice A1 p.vols.length c1] 49)).alloc (.cells #[.slice none 0 0, .slice none 0 0] 49)) := bel_alloc (bel_alloc (Below.refl _ _) _) _
  generalize ((w.alloc (.cells #[.slice A0 p.slots.length c0, .slice A1 p.vols.length c1] 49)).alloc (.cells #[.slice none 0 0, .slice none 0 0] 49)) = W0 at hB hR hW ⊢
  cases hok : poolOk p with
  | false =>
    refine (implOk_in (HP.out.bel hW) HS.out hok).mono ?_
    rintro e w1 ⟨rfl, hb1⟩
    have hR1 := hR.bel hb1
    have q0 := hR1.cell 0
    have q1 := hR1.cell 1
    have f0 := hR1.free 0
    have f1 := hR1.free 1
    have y := hR1.lt
    simp at q0 q1
    have HK := Lib.hid hok
    clear hok
    go_wp2
    have hR2 := (hR1.set 0 (.slice none 0 0) (cs' := #[.slice none 0 0, .slice none 0 0]) rfl).set 1 (.slice none 0 0) (cs' := #[.slice none 0 0, .slice none 0 0]) rfl
    refine bodyPost_ret (results_ct rfl _ _ (w.heap.size + 1) 49 #[.slice none 0 0, .slice none 0 0] (0, 0) _ rfl hR2 Try.underlying49 rfl (by kernel_rfl)) rfl ?_
    rw [(runV_bad os HK.out).1, (runV_bad os HK.out).2]
    exact ⟨_, _, [], rfl, OwnP.none _ _, bel_set (bel_set (hW.tr hb1) (Nat.le_succ _) 0 (.slice none 0 0)) (Nat.le_succ _) 1 (.slice none 0 0)⟩
  | true =>
    have HV := Lib.hid (poolOk_iff.1 hok)
    refine (implOk_in (HP.out.bel hW) HS.out hok).mono ?_
    rintro e w1 ⟨rfl, hb1⟩
    clear hok
    have HB := Lib.hid (hB.bel hb1)
    have HR := Lib.hid (hR.bel hb1)
    have HW := Lib.hid (hW.tr hb1)
    clear hB hR hW hb1
    have q0 := HB.out.cell 0
    have q1 := HB.out.cell 1
    simp at q0 q1
    go_wp2_with fail
    refine (poolClone_c (HP.out.bel HW.out) HS.out).mono ?_
    rintro e w2 ⟨v0, v1, bvs, rfl, hoP, hb2⟩
    clear q0 q1
    obtain ⟨B0, B1, d0, d1, rfl, rfl, hpi⟩ := hoP.reads
    clear hpi
    have hsz := Below.size HW.out
    have HD := Lib.hid (DoSt.of (HB.out.bel hb2) (HR.out.bel hb2) (hoP.lower hsz) (HW.out.tr hb2))
    have q0 := (HB.out.bel hb2).cell 0
    have q1 := (HB.out.bel hb2).cell 1
    have f0 := (HB.out.bel hb2).free 0
    have f1 := (HB.out.bel hb2).free 1
    have y := (HB.out.bel hb2).lt
    simp at q0 q1
    clear hoP hb2 HB HR HW hsz
    go_wp2
    clear q0 q1 f0 f1 y
    generalize ((w2.setCell ⟨w.heap.size, 0, none⟩ (.slice B0 p.slots.length d0)).setCell ⟨w.heap.size, 1, none⟩ (.slice B1 p.vols.length d1)) = W3 at HD ⊢
    go_loopg [18] os.length (fun g v18 W => ∃ (j : Nat) (q : Pool) (B0 B1 : Option Addr) (d0 d1 : Nat) (bvs : List Value), g + j = os.length ∧ v18 = .int .i64 j ∧ Hid (runP p (os.take j) = some q) ∧ Hid (DoSt w W q (.slice B0 q.slots.length d0) (.slice B1 q.vols.length d1) bvs))
    case atStart => exact ⟨0, p, B0, B1, d0, d1, bvs, rfl, rfl, rfl, HD.out⟩
    case round =>
      clear HD bvs
      obtain ⟨j, q, B0, B1, d0, d1, bvs, hj, rfl, HR, HD⟩ := hrel
      have HQ := Lib.hid (runP_ok _ HV.out HR.out)
      by_cases hlt : j < os.length
      · obtain ⟨o, hx⟩ := getQ hlt
        obtain ⟨ad, rfl, a0, a1, a2, a3, a4⟩ := at_op (Kd.C_below HC.out HD.out.b) hx
        have HX := Lib.hid hx
        have hso := Lib.hid (HO.out.op o (List.mem_of_getElem? hx))
        have q0 := HD.out.pool.cell 0
        have q1 := HD.out.pool.cell 1
        have y := HD.out.pool.lt
        simp at q0 q1
        clear hx
        go_wp2_with fail
        have hb : Bel wr (wr.alloc (.cells #[.int .i64 o.kind, .string o.name, .string o.dest, .int .i64 o.n, .string o.text] 61)) := bel_alloc (Below.refl _ _) _
        generalize wr.alloc (.cells #[.int .i64 o.kind, .string o.name, .string o.dest, .int .i64 o.n, .string o.text] 61) = W5 at hb ⊢
        clear q0 q1 y a0 a1 a2 a3 a4
        replace HD := Lib.hid (HD.out.bel hb)
        clear hb
        cases hr : opR q o with
        | none =>
          have hf : chOB q o = false := by rw [(chO_opR HQ.out o).1, hr]; rfl
          have HN := Lib.hid (show runP p os = none from runP_stop (k := j + 1) (by rw [runP_step HX.out HR.out, hr]))
          refine (implOpDo_c (o := o) HD.out.own.inn HQ.out.small hso.out).mono ?_
          rw [hf]
          generalize chO q o = qq
          rintro e w6 ⟨u0, u1, bu, rfl, hu, hb⟩
          obtain ⟨E0, E1, k0, k1, rfl, rfl, hpi⟩ := hu.reads
          clear hf hr hu hpi
          replace HD := Lib.hid (HD.out.bel hb)
          clear hb
          have q0 := HD.out.res.cell 0
          have q1 := HD.out.res.cell 1
          have f0 := HD.out.res.free 0
          have f1 := HD.out.res.free 1
          have y := HD.out.res.lt
          simp at q0 q1
          go_wp2
          have hR2 := ((HD.out.res.set 0 (.slice none 0 0) (cs' := #[.slice none 0 0, .slice none 0 0]) rfl).set 1 (.slice none 0 0) (cs' := #[.slice none 0 0, .slice none 0 0]) rfl).alloc (.cells #[.slice E0 qq.slots.length k0, .slice E1 qq.vols.length k1] 49)
          refine bodyPost_ret (results_ct rfl _ _ (w.heap.size + 1) 49 #[.slice none 0 0, .slice none 0 0] (0, 0) _ rfl hR2 Try.underlying49 rfl (by kernel_rfl)) rfl ?_
          rw [(runV_no HV.out HN.out).1, (runV_no HV.out HN.out).2]
          exact ⟨_, _, [], rfl, OwnP.none _ _, bel_alloc (bel_set (bel_set HD.out.b (Nat.le_succ _) 0 (.slice none 0 0)) (Nat.le_succ _) 1 (.slice none 0 0)) _⟩
        | some q2 =>
          have hf : chOB q o = true := by rw [(chO_opR HQ.out o).1, hr]; rfl
          have hv := (chO_opR HQ.out o).2 _ hr
          have HN := Lib.hid (show runP p (os.take (j + 1)) = some q2 by rw [runP_step HX.out HR.out, hr])
          refine (implOpDo_c (o := o) HD.out.own.inn HQ.out.small hso.out).mono ?_
          rw [hf, hv]
          rintro e w6 ⟨u0, u1, bu, rfl, hu, hb⟩
          clear hf hr hv
          obtain ⟨E0, E1, k0, k1, rfl, rfl, hpi⟩ := hu.reads
          clear hpi
          have hsz := Below.size HD.out.b
          have hD2 := (DoSt.of (HD.out.pool.bel hb) (HD.out.res.bel hb) (hu.lower hsz) (HD.out.b.tr hb)).bel (bel_alloc (Below.refl _ _) (.cells #[.slice E0 q2.slots.length k0, .slice E1 q2.vols.length k1] 49))
          replace HD := Lib.hid (HD.out.bel hb)
          have HD2 := Lib.hid hD2
          clear hb hu hsz hD2
          have q0 := HD.out.pool.cell 0
          have q1 := HD.out.pool.cell 1
          have f0 := HD.out.pool.free 0
          have f1 := HD.out.pool.free 1
          have y := HD.out.pool.lt
          simp at q0 q1
          go_wp2
          go_roundg (os.length - (j + 1))
          case measure => omega
          case rel => exact ⟨j + 1, q2, E0, E1, k0, k1, bu, by omega, by go_num, HN.out, HD2.out⟩
      · have HE := Lib.hid (show runP p os = some q by have := HR.out; rwa [List.take_of_length_le (by omega)] at this)
        have q0 := HD.out.pool.cell 0
        have q1 := HD.out.pool.cell 1
        have r0 := HD.out.res.cell 0
        have r1 := HD.out.res.cell 1
        have f0 := HD.out.res.free 0
        have f1 := HD.out.res.free 1
        have y := HD.out.res.lt
        simp at q0 q1 r0 r1
        go_wp2
        have hR1 := HD.out.res.set 0 (.slice B0 q.slots.length d0) (cs' := #[.slice B0 q.slots.length d0, .slice none 0 0]) rfl
        have hR2 := hR1.set 1 (.slice B1 q.vols.length d1) (cs' := #[.slice B0 q.slots.length d0, .slice B1 q.vols.length d1]) rfl
        refine bodyPost_ret (results_ct rfl _ _ (w.heap.size + 1) 49 #[.slice B0 q.slots.length d0, .slice B1 q.vols.length d1] (0, 0) _ rfl hR2 Try.underlying49 rfl (by kernel_rfl)) rfl ?_
        rw [(runV_ok HV.out HE.out).1, (runV_ok HV.out HE.out).2]
        exact ⟨_, _, bvs, rfl, (HD.out.own.far HD.out.res (by decide) (by decide) (by decide) 0 (.slice B0 q.slots.length d0)).far hR1 (by decide) (by decide) (by decide) 1 (.slice B1 q.vols.length d1), bel_set (bel_set HD.out.b (Nat.le_succ _) 0 (.slice B0 q.slots.length d0)) (Nat.le_succ _) 1 (.slice B1 q.vols.length d1)⟩
end Go.Proofs.Ytccllgpaafgjaaa
/- Arguments opened: a pool that came in, as lists. -/








namespace Go.Proofs.Ytccllgpaafgjaaa
open Go.RowKit Go.Proofs.YtccllgpaafgjaaaW.PrintWords Go.Joins Go.ChangeShapes Go.WideShapes Go.Deep
set_option linter.unusedVariables false
set_option linter.unusedSimpArgs false

theorem list_of {α : Type} {Q : Nat → α → Prop} : ∀ n : Nat, (∀ i, i < n → ∃ x, Q i x) → ∃ xs : List α, xs.length = n ∧ ∀ i x, xs[i]? = some x → Q i x
  | 0, _ => ⟨[], rfl, fun i x h => by simp at h⟩
  | n + 1, h => by
    obtain ⟨xs, hl, hx⟩ := list_of n fun i hi => h i (by omega)
    obtain ⟨x, hq⟩ := h n (by omega)
    refine ⟨xs ++ [x], by simp [hl], fun i y hy => ?_⟩
    by_cases hi : i < n
    · rw [List.getElem?_append_left (by omega)] at hy; exact hx i y hy
    · rw [List.getElem?_append_right (by omega), hl] at hy
      obtain rfl : i = n := by have := ltQ hy; simp at this; omega
      rw [Nat.sub_self] at hy
      obtain rfl := Option.some.inj hy
      exact hq
section
variable {H : Type} {enc : TypeId × Value → H} {P : Program} {w : World} {base : Nat} {spare : Nat → Bool} {held : Bool}
/-- A slice that came in, as a row of elements that can be read. -/
theorem open_row {α : Type} (d : Kd α) {Q : α → Prop} {t e : TypeId} {fuel : Nat} {cs : List Value} {x : DataW H × List MemPlace} (ht : P.underlying t = some (.slice e)) (hC : P.cellsOf e = d.sz)
    (hel : ∀ (n : Nat) (c : List Value) (y : DataW H × List MemPlace), c.length = d.sz → DataW.trod enc P w base spare held n e c = some y → ∃ z : α, d.K w z c ∧ Q z) (h : DataW.trod enc P w base spare held fuel t cs = some x) :
    ∃ A c, ∃ xs : List α, cs = [.slice A xs.length c] ∧ xs.length ≤ c ∧ d.C w A xs.length xs ∧ (∀ z ∈ xs, Q z) ∧ xs.length ≤ maxLen := by
  rcases open_slice ht h with ⟨rfl, _⟩ | ⟨a, len, cap, m, n, D, Pl, rfl, hb, hl, hm, hmm, _, hi⟩
  · exact ⟨none, 0, [], rfl, Nat.le_refl _, ⟨rfl, by simp, fun h => by simp at h⟩, fun z hz => by simp at hz, by simp⟩
  · have hlm : len ≤ m := by rw [hmm]; split <;> omega
    obtain ⟨xs, hxl, hx⟩ := list_of (Q := fun i z => (∃ c, c.length = d.sz ∧ d.K w z c ∧ ∀ j u, c[j]? = some u → w.cell? (a.add (i * d.sz + j)) = some u) ∧ Q z) len fun i hi' => by
      obtain ⟨c, hc, hy⟩ := hi i (by omega)
      rw [hC] at hc
      obtain ⟨_, hcl, hat⟩ := World.cells?_some hc
      obtain ⟨z, hz, hq⟩ := hel n c _ hcl hy
      refine ⟨z, ⟨c, hcl, hz, fun j u hu => ?_⟩, hq⟩
      rw [← Go.Deep.add_add, hat j (by rw [← hcl]; exact ltQ hu), hu]
    have hmx : (maxLen : Nat) ≤ 9223372036854775807 := by simp [maxLen]
    refine ⟨some a, cap, xs, by rw [hxl], by omega, ⟨rfl, by omega, fun _ => ⟨a, rfl, fun j p hp => ?_⟩⟩, fun z hz => ?_, by omega⟩
    · obtain ⟨c, h1, h2, h3⟩ := (hx j p hp).1
      exact ⟨c, h1, h2, h3⟩
    · obtain ⟨j, hj⟩ := List.getElem?_of_mem hz
      exact (hx j z hj).2
end
section
variable {H : Type} {enc : TypeId × Value → H} {w : World} {base : Nat} {spare : Nat → Bool} {held : Bool}
theorem big_max : (maxLen : Nat) ≤ 9223372036854775807 := by simp [maxLen]
end
end Go.Proofs.Ytccllgpaafgjaaa
/- A change as an argument: opened, measured, made anew. -/



namespace Go.Proofs.Ytccllgpaafgjaaa
open Go.RowKit Go.Proofs.YtccllgpaafgjaaaW.PrintWords Go.Joins Go.ChangeShapes Go.WideShapes Go.Deep
set_option linter.unusedVariables false
set_option linter.unusedSimpArgs false

section
variable {H : Type} {enc : TypeId × Value → H} {P : Program} {w : World} {base : Nat} {spare : Nat → Bool} {held : Bool}
end
section
variable {H : Type} {enc : TypeId × Value → H} {w : World} {base : Nat} {spare : Nat → Bool} {held : Bool}
/-- Lengths that a memory can bear. -/
structure RawO (o : Op) : Prop where
  name : o.name.size ≤ 9223372036854775807
  dest : o.dest.size ≤ 9223372036854775807
  text : o.text.size ≤ 9223372036854775807
  k0 : -9223372036854775808 ≤ o.kind
  k1 : o.kind ≤ 9223372036854775807
  n0 : -9223372036854775808 ≤ o.n
  n1 : o.n ≤ 9223372036854775807
end
end Go.Proofs.Ytccllgpaafgjaaa
/- Rows of changes: eqOpS, heldOpS, markOpS, szOpS, toOpS, slices.Clone. -/




namespace Go.Proofs.Ytccllgpaafgjaaa
open Go.RowKit Go.Proofs.YtccllgpaafgjaaaW.PrintWords
set_option linter.unusedVariables false
set_option linter.unusedSimpArgs false

/-! ### marks -/
def mkO (k : Int) : Op := ⟨k, mkT (k + 1), mkT (k + 1 + 1), k + 1 + 1 + 1, mkT (k + 1 + 1 + 1 + 1)⟩
def MkO (k : Int) (s : List Op) : Prop := ∀ (i : Nat) (x : Op), s[i]? = some x → x = mkO (k + 5 * i)
theorem OwnO.put {w : World} {base g cap n : Nat} {s : List Op} (h : OwnO w base (.slice (some ⟨g, 0, none⟩) n cap) s) (hn : s.length = n) {m : Nat} (j : Nat) {x y : Op} {u : Value} (hx : s[m]? = some x) (hj : j < 5) (he : encO y = (encO x).set j u) :
    OwnO (w.setCell ⟨g, m * 5 + j, none⟩ u) base (.slice (some ⟨g, 0, none⟩) n cap) (s.set m y) ∧ w.grownBy (w.setCell ⟨g, m * 5 + j, none⟩ u) (some g) := by
  subst hn
  exact OwnO.set h hx hj he
theorem OwnO.cells {w : World} {base g cap n : Nat} {s : List Op} (h : OwnO w base (.slice (some ⟨g, 0, none⟩) n cap) s) {m : Nat} {x : Op} (hx : s[m]? = some x) :
    (w.cell? ⟨g, m * 5, none⟩ = some (.int .i64 x.kind) ∧ w.cell? ⟨g, m * 5 + 1, none⟩ = some (.string x.name) ∧ w.cell? ⟨g, m * 5 + 2, none⟩ = some (.string x.dest) ∧ w.cell? ⟨g, m * 5 + 3, none⟩ = some (.int .i64 x.n) ∧ w.cell? ⟨g, m * 5 + 4, none⟩ = some (.string x.text)) ∧ ∀ j, w.frozen? ⟨g, j, none⟩ = false := by
  obtain ⟨g', cap', e, _, _, _, hc, hf⟩ := h.at hx
  obtain ⟨rfl, -, rfl⟩ := by simpa using e
  exact ⟨⟨hc 0 (by omega), hc 1 (by omega), hc 2 (by omega), hc 3 (by omega), hc 4 (by omega)⟩, hf⟩
theorem getSet {α} {s : List α} {m : Nat} {x y : α} (hx : s[m]? = some x) : (s.set m y)[m]? = some y := List.getElem?_set_self (ltQ hx)
/-- What a marker of changes leaves. -/
def MarkedO (k : Int) (w : World) (base : Nat) (v : Value) (n : Nat) (e : Ending) (w' : World) : Prop := e = .returned (.int .i64 (k + 5 * n)) ∧ (∃ s, s.length = n ∧ OwnO w' base v s ∧ MkO k s) ∧ w.grownBy w' v.ownBlock
structure RawOs (s : List Op) : Prop where
  len : s.length ≤ 9223372036854775807
  op : ∀ x ∈ s, RawO x
theorem OwnO.putAll {w : World} {base g cap n : Nat} {s : List Op} (h : OwnO w base (.slice (some ⟨g, 0, none⟩) n cap) s) (hn : s.length = n) {m : Nat} {x : Op} (hx : s[m]? = some x) (y : Op) :
    OwnO (((((w.setCell ⟨g, m * 5, none⟩ (.int .i64 y.kind)).setCell ⟨g, m * 5 + 1, none⟩ (.string y.name)).setCell ⟨g, m * 5 + 2, none⟩ (.string y.dest)).setCell ⟨g, m * 5 + 3, none⟩ (.int .i64 y.n)).setCell ⟨g, m * 5 + 4, none⟩ (.string y.text)) base (.slice (some ⟨g, 0, none⟩) n cap) (s.set m y) := by
  have h1 := (OwnO.put h hn 0 (y := ⟨y.kind, x.name, x.dest, x.n, x.text⟩) (u := .int .i64 y.kind) hx (by omega) rfl).1
  have h2 := (OwnO.put h1 (by rw [List.length_set]; exact hn) 1 (y := ⟨y.kind, y.name, x.dest, x.n, x.text⟩) (u := .string y.name) (getSet hx) (by omega) rfl).1
  rw [List.set_set] at h2
  have h3 := (OwnO.put h2 (by rw [List.length_set]; exact hn) 2 (y := ⟨y.kind, y.name, y.dest, x.n, x.text⟩) (u := .string y.dest) (getSet hx) (by omega) rfl).1
  rw [List.set_set] at h3
  have h4 := (OwnO.put h3 (by rw [List.length_set]; exact hn) 3 (y := ⟨y.kind, y.name, y.dest, y.n, x.text⟩) (u := .int .i64 y.n) (getSet hx) (by omega) rfl).1
  rw [List.set_set] at h4
  have h5 := (OwnO.put h4 (by rw [List.length_set]; exact hn) 4 (y := y) (u := .string y.text) (getSet hx) (by omega) rfl).1
  rw [List.set_set] at h5
  exact h5
end Go.Proofs.Ytccllgpaafgjaaa
/- New nodes and new worlds. -/


namespace Go.Proofs.Ytccllgpaafgjaaa
open Go.RowKit Go.Proofs.YtccllgpaafgjaaaW.PrintWords
set_option linter.unusedVariables false
set_option linter.unusedSimpArgs false

set_option maxHeartbeats 1000000 in
theorem implNodeNew1_c (w : World) : Calls Try.prog 17 #[.int .i64 1] w (Ret (.tuple #[.agg #[.bool true, .int .i64 1, .bool true, .bool true, .slice none 0 0], .bool true]) w) := by
  go_enter Try.func17, Try.ntmps17
  go_wp2
  refine bodyPost_ret (results_ct rfl _ _ w.heap.size 34 #[.bool true, .int .i64 1, .bool true, .bool true, .slice none 0 0] (0, 0) _ rfl (Blk.new _ _ _) Try.underlying34 rfl (by kernel_rfl)) rfl ?_
  exact ⟨rfl, bel_alloc (Below.refl _ _) _⟩
set_option maxHeartbeats 1000000 in
theorem implNodeNew2_c (w : World) : Calls Try.prog 17 #[.int .i64 2] w (Ret (.tuple #[.agg #[.bool true, .int .i64 0, .bool false, .bool false, .slice none 0 0], .bool true]) w) := by
  go_enter Try.func17, Try.ntmps17
  go_wp2
  refine bodyPost_ret (results_ct rfl _ _ w.heap.size 34 #[.bool true, .int .i64 0, .bool false, .bool false, .slice none 0 0] (0, 0) _ rfl (Blk.new _ _ _) Try.underlying34 rfl (by kernel_rfl)) rfl ?_
  exact ⟨rfl, bel_alloc (Below.refl _ _) _⟩
theorem implNodeNew0_c (id : Int) (h1 : id ≠ 1) (h2 : id ≠ 2) (w : World) : Calls Try.prog 17 #[.int .i64 id] w (Ret (.tuple #[.agg #[.bool false, .int .i64 0, .bool false, .bool false, .slice none 0 0], .bool false]) w) := by
  have e1 : (id == 1) = false := by simpa using h1
  have e2 : (id == 2) = false := by simpa using h2
  go_enter Try.func17, Try.ntmps17
  go_wp2
  refine bodyPost_ret (results_ct rfl _ _ w.heap.size 34 #[.bool false, .int .i64 0, .bool false, .bool false, .slice none 0 0] (0, 0) _ rfl (Blk.new _ _ _) Try.underlying34 rfl (by kernel_rfl)) rfl ?_
  exact ⟨rfl, bel_alloc (Below.refl _ _) _⟩
/-- What the reference's NodeNew leaves: an empty list of its own. -/
def SpecN (up : Bool) (term : Int) (leads alone ok : Bool) (w : World) (e : Ending) (w' : World) : Prop := ∃ A c, e = .returned (.tuple #[.agg #[.bool up, .int .i64 term, .bool leads, .bool alone, .slice A 0 c], .bool ok]) ∧ Bel w w'
set_option maxHeartbeats 1000000 in
theorem specNodeNew1_c (w : World) : Calls Try.prog 16 #[.int .i64 1] w (SpecN true 1 true true true w) := by
  have hin : inR 1 1 2 = true := rfl
  go_enter Try.func16, Try.ntmps16
  go_wp2_with (go_at_call 50; refine (l6In_c 1 1 2 _).mono ?_; rintro e w' ⟨rfl, rfl⟩)
  refine bodyPost_ret (results_ct rfl _ _ w.heap.size 34 #[.bool true, .int .i64 1, .bool true, .bool true, .slice (some ⟨w.heap.size + 1, 0, none⟩) 0 0] (0, 0) _ rfl ((Blk.new w _ _).alloc _) Try.underlying34 rfl (by kernel_rfl)) rfl ?_
  exact ⟨_, _, rfl, bel_alloc (bel_alloc (Below.refl _ _) _) _⟩
set_option maxHeartbeats 1000000 in
theorem specNodeNew2_c (w : World) : Calls Try.prog 16 #[.int .i64 2] w (SpecN true 0 false false true w) := by
  have hin : inR 2 1 2 = true := rfl
  go_enter Try.func16, Try.ntmps16
  go_wp2_with (go_at_call 50; refine (l6In_c 2 1 2 _).mono ?_; rintro e w' ⟨rfl, rfl⟩)
  refine bodyPost_ret (results_ct rfl _ _ w.heap.size 34 #[.bool true, .int .i64 0, .bool false, .bool false, .slice (some ⟨w.heap.size + 1, 0, none⟩) 0 0] (0, 0) _ rfl ((Blk.new w _ _).alloc _) Try.underlying34 rfl (by kernel_rfl)) rfl ?_
  exact ⟨_, _, rfl, bel_alloc (bel_alloc (Below.refl _ _) _) _⟩
set_option maxHeartbeats 1000000 in
theorem specNodeNew0_c (id : Int) (hin : inR id 1 2 = false) (w : World) : Calls Try.prog 16 #[.int .i64 id] w (SpecN false 0 false false false w) := by
  go_enter Try.func16, Try.ntmps16
  go_wp2_with (go_at_call 50; refine (l6In_c id 1 2 _).mono ?_; rintro e w' ⟨rfl, rfl⟩)
  refine bodyPost_ret (results_ct rfl _ _ w.heap.size 34 #[.bool false, .int .i64 0, .bool false, .bool false, .slice none 0 0] (0, 0) _ rfl (Blk.new w _ _) Try.underlying34 rfl (by kernel_rfl)) rfl ?_
  exact ⟨_, _, rfl, bel_alloc (Below.refl _ _) _⟩
end Go.Proofs.Ytccllgpaafgjaaa
/- The reader of a code: what l6Open, pick, of leave. -/

namespace Go.Proofs.Ytccllgpaafgjaaa
open Go.RowKit Go.Proofs.YtccllgpaafgjaaaW.PrintWords Go.Proofs.YtccllgpaafgjaaaW.PrintLast
set_option linter.unusedVariables false
set_option linter.unusedSimpArgs false

abbrev kByte : Kd Int := Kd.int .u8
theorem at_byte {w : World} {A : Option Addr} {n : Nat} {xs : List Int} (h : kByte.C w A n xs) {i : Nat} {x : Int} (hx : xs[i]? = some x) : ∃ ad, A = some ad ∧ w.cell? (ad.add i) = some (.int .u8 x) := by
  have hl := h.1 ▸ ltQ hx
  obtain ⟨ad, e, hc⟩ := Kd.at_int h i (by omega) (by omega)
  have he : rd xs (i : Int) = x := by unfold rd; rw [List.getD_eq_getElem?_getD, Int.toNat_natCast, hx]; rfl
  rw [he] at hc
  exact ⟨ad, e, hc⟩
/-- Block rb is a reader that has picked at most k times; its code lies in front of it. -/
structure Rd (w : World) (rb k : Nat) : Prop where
  h : ∃ (A : Option Addr) (c : Nat) (bs : List Int) (p : Nat), Blk w rb #[.slice A bs.length c, .int .i64 p] 108 ∧ kByte.C w A bs.length bs ∧ (∀ x ∈ bs, 0 ≤ x ∧ x ≤ 255) ∧ bs.length ≤ 2000 ∧ p ≤ k ∧ ∀ ad, A = some ad → ad.block < rb
theorem Rd.lt {w : World} {rb k : Nat} (h : Rd w rb k) : rb < w.heap.size := by
  obtain ⟨_, _, _, _, hb, _⟩ := h.h
  exact hb.lt
theorem Rd.more {w : World} {rb k k' : Nat} (h : Rd w rb k) (hk : k ≤ k') : Rd w rb k' := by
  obtain ⟨A, c, bs, p, h1, h2, h3, h4, h5, h6⟩ := h.h
  exact ⟨⟨A, c, bs, p, h1, h2, h3, h4, Nat.le_trans h5 hk, h6⟩⟩
theorem Rd.bel {w w' : World} {rb k : Nat} (h : Rd w rb k) (hb : Bel w w') : Rd w' rb k := by
  obtain ⟨A, c, bs, p, h1, h2, h3, h4, h5, h6⟩ := h.h
  exact ⟨⟨A, c, bs, p, h1.bel hb, Kd.C_below h2 hb, h3, h4, h5, h6⟩⟩
/-- A drawing function: v is told by V; at most d picks; of what was there only the reader has turned. -/
def Drawn (rb k d : Nat) (V : Value → Prop) (w : World) (e : Ending) (w' : World) : Prop := ∃ v, e = .returned v ∧ V v ∧ Rd w' rb (k + d) ∧ w.grownBy w' (some rb)
theorem add_block (ad : Addr) (n : Nat) : (ad.add n).block = ad.block := by unfold Addr.add; split <;> rfl
theorem byte_kept {w w' : World} {rb : Nat} {A : Option Addr} {n : Nat} {xs : List Int} (h : kByte.C w A n xs) (hg : w.grownBy w' (some rb)) (hA : ∀ ad, A = some ad → ad.block < rb) : kByte.C w' A n xs :=
  ⟨h.1, h.2.1, fun h0 => by
    obtain ⟨ad, e, hh⟩ := h.2.2 h0
    refine ⟨ad, e, fun j p hj => ?_⟩
    obtain ⟨c, h1, h2, h3⟩ := hh j p hj
    refine ⟨c, h1, h2, fun i u hu => ?_⟩
    refine World.grownBy.cell hg (h3 i u hu) ?_
    rw [add_block]
    intro he
    have := hA ad e
    injection he with he
    omega⟩
def PickV (n : Int) (v : Value) : Prop := ∃ r : Int, v = .int .i64 r ∧ 0 ≤ r ∧ (1 ≤ n → r < n) ∧ (n < 1 → r = 0)
theorem pick_val (x n : Int) (h : 1 ≤ n) : PickV n (.int .i64 (x % n)) := ⟨_, rfl, Int.emod_nonneg _ (by omega), fun _ => Int.emod_lt_of_pos _ (by omega), fun h => by omega⟩
theorem wrap_nat {x : Int} (h0 : 0 ≤ x) (h1 : x ≤ 4611686018427387904) : ∃ m : Nat, wrap64 x = m ∧ (m : Int) = x := ⟨x.toNat, by unfold wrap64; omega, by omega⟩
theorem tmod_nat {a : Nat} {n : Nat} (hn : 0 < n) : ∃ m : Nat, (a : Int).tmod (n : Int) = m ∧ m < n := ⟨a % n, by rw [Int.tmod_eq_emod_of_nonneg (by omega)]; simp, Nat.mod_lt _ hn⟩
theorem tdiv_nat {a : Nat} {n : Nat} : ∃ m : Nat, (a : Int).tdiv (n : Int) = m ∧ m ≤ a := ⟨a / n, by rw [Int.tdiv_eq_ediv_of_nonneg (by omega)]; simp, Nat.div_le_self _ _⟩
theorem bits_xor_i64_nat (a b : Nat) (ha : a < 4611686018427387904) (hb : b < 4611686018427387904) :
    bits .xor .i64 (a : Int) (b : Int) = ((a ^^^ b : Nat) : Int) := by
  have hx : a ^^^ b < 2 ^ 62 := Nat.xor_lt_two_pow (by omega) (by omega)
  have h1 : (BitVec.ofInt 64 (a : Int)).toNat = a := by
    rw [BitVec.ofInt_natCast, BitVec.toNat_ofNat]; exact Nat.mod_eq_of_lt (by omega)
  have h2 : (BitVec.ofInt 64 (b : Int)).toNat = b := by
    rw [BitVec.ofInt_natCast, BitVec.toNat_ofNat]; exact Nat.mod_eq_of_lt (by omega)
  show IntKind.i64.wrap ((BitVec.ofInt 64 (a : Int) ^^^ BitVec.ofInt 64 (b : Int)).toNat : Int) = _
  rw [BitVec.toNat_xor, h1, h2]
  rw [IntKind.wrap_i64]
  omega
theorem pick_last (m : Nat) (n : Int) (h : 1 ≤ n) (hm : m < 4611686018427387904) : PickV n (.int .i64 ((bits BinOp.xor IntKind.i64 (m : Int) ((m : Int) / 64)).tmod n)) := by
  rw [show ((m : Int) / 64) = ((m / 64 : Nat) : Int) by simp, bits_xor_i64_nat _ _ hm (by omega), Int.tmod_eq_emod_of_nonneg (by omega)]
  exact pick_val _ n h
theorem wrap_id {x : Int} (h0 : 0 ≤ x) (h1 : x ≤ 4611686018427387904) : wrap64 x = x := by unfold wrap64; omega
set_option maxHeartbeats 4000000 in
set_option maxRecDepth 10000 in
theorem pick_c {w : World} {rb k : Nat} (h : Rd w rb k) (hk : k ≤ 1099511627776) (n : Int) (hn : n ≤ 1099511627776) :
    Calls Try.prog 49 #[.pointer (some ⟨rb, 0, none⟩), .int .i64 n] w (Drawn rb k 1 (PickV n) w) := by
  obtain ⟨A, c, bs, p, hB, hC, hb, hl, hp, hA⟩ := h.h
  have q0 := hB.cell 0
  have q1 := hB.cell 1
  have f0 := hB.free 0
  have f1 := hB.free 1
  have z := hB.lt
  simp at q0 q1
  have hB2 : Blk (w.setCell ⟨rb, 1, none⟩ (.int .i64 ((p : Int) + 1))) rb #[.slice A bs.length c, .int .i64 ((p : Int) + 1)] 108 := hB.set 1 (.int .i64 ((p : Int) + 1)) rfl
  have hg : w.grownBy (w.setCell ⟨rb, 1, none⟩ (.int .i64 ((p : Int) + 1))) (some rb) := grown_setCell w rb 1 _
  have hR : Rd (w.setCell ⟨rb, 1, none⟩ (.int .i64 ((p : Int) + 1))) rb (k + 1) := ⟨⟨A, c, bs, p + 1, hB2, byte_kept hC hg hA, hb, hl, by omega, hA⟩⟩
  have HR := Lib.hid (And.intro hR hg)
  have HQ := Lib.hid (And.intro (hB2.cell 0) (hB2.cell 1))
  have HC := Lib.hid (byte_kept hC hg hA)
  have HBB := Lib.hid hb
  have hp2 : (p : Int) ≤ 1099511627776 := by omega
  clear h hB hC hb hA hB2 hg hR
  by_cases h1 : n < 1
  · go_enter Try.func49, Try.ntmps49
    go_wp2
    go_ret
    exact ⟨_, rfl, ⟨0, rfl, by omega, by omega, fun _ => rfl⟩, HR.out.1, HR.out.2⟩
  · by_cases h2 : bs.length = 0
    · have h2' : ((bs.length : Int) == 0) = true := beq_iff_eq.2 (by omega)
      go_enter Try.func49, Try.ntmps49
      go_wp2
      go_ret
      exact ⟨_, rfl, ⟨0, rfl, by omega, by omega, fun _ => rfl⟩, HR.out.1, HR.out.2⟩
    · by_cases h3 : p < bs.length
      · obtain ⟨x, hx⟩ := getQ h3
        have hxb := HBB.out x (List.mem_of_getElem? hx)
        have h2' : ((bs.length : Int) == 0) = false := beq_eq_false_iff_ne.2 (by omega)
        obtain ⟨ad, rfl, hc⟩ := at_byte HC.out hx
        clear hx
        go_enter Try.func49, Try.ntmps49
        go_wp2
        go_ret
        exact ⟨_, rfl, pick_val x n (by omega), HR.out.1, HR.out.2⟩
      · have hl1 : 0 < bs.length := by omega
        have hl1' : (0 : Int) < (bs.length : Int) := by omega
        obtain ⟨i1, e1, hi1⟩ := tmod_nat (a := p) hl1
        obtain ⟨a1, e2, ha1⟩ := wrap_nat (x := (p : Int) * 7) (by omega) (by omega)
        obtain ⟨a2, e3, ha2⟩ := wrap_nat (x := (a1 : Int) + 3) (by omega) (by omega)
        obtain ⟨i2, e4, hi2⟩ := tmod_nat (a := a2) hl1
        obtain ⟨x, hx⟩ := getQ hi1
        obtain ⟨y, hy⟩ := getQ hi2
        have hxb := HBB.out x (List.mem_of_getElem? hx)
        have hyb := HBB.out y (List.mem_of_getElem? hy)
        obtain ⟨ad, rfl, hc⟩ := at_byte HC.out hx
        obtain ⟨ad', e', hd⟩ := at_byte HC.out hy
        obtain rfl := Option.some.inj e'
        have h2' : ((bs.length : Int) == 0) = false := beq_eq_false_iff_ne.2 (by omega)
        obtain ⟨b1, e5, hb1⟩ := wrap_nat (x := x * 131) (by omega) (by omega)
        obtain ⟨b2, e6, hb2⟩ := wrap_nat (x := y * 1117) (by omega) (by omega)
        obtain ⟨b3, e7, hb3⟩ := wrap_nat (x := (b1 : Int) + b2) (by omega) (by omega)
        obtain ⟨b4, e8, hb4⟩ := wrap_nat (x := (p : Int) * 29) (by omega) (by omega)
        obtain ⟨b5, e9, hb5⟩ := wrap_nat (x := (b3 : Int) + b4) (by omega) (by omega)
        obtain ⟨d1, e10, hd1⟩ := tdiv_nat (a := p) (n := bs.length)
        obtain ⟨d2, e11, hd2⟩ := wrap_nat (x := (d1 : Int) * 53) (by omega) (by omega)
        obtain ⟨b6, e12, hb6⟩ := wrap_nat (x := (b5 : Int) + d2) (by omega) (by omega)
        have hb6u : (b6 : Int) ≤ 1152921504606846976 := by omega
        have ed := wrap_id (x := (d1 : Int)) (by omega) (by omega)
        have HED := Lib.hid ed
        have ex := wrap_id (x := x) (by omega) (by omega)
        have ey := wrap_id (x := y) (by omega) (by omega)
        have HE1 := Lib.hid e1
        have HE2 := Lib.hid (And.intro e2 e3)
        have HE3 := Lib.hid (And.intro e4 (And.intro e5 e6))
        have HE4 := Lib.hid (And.intro e7 (And.intro e8 e9))
        have HE5 := Lib.hid (And.intro e10 (And.intro e11 e12))
        have HEX := Lib.hid (And.intro ex ey)
        have hi1' : (i1 : Int) < (bs.length : Int) := by omega
        have hi2' : (i2 : Int) < (bs.length : Int) := by omega
        clear hx hy e' e1 e2 e3 e4 e5 e6 e7 e8 e9 e10 e11 e12 ha1 ha2 hb1 hb2 hb3 hb4 hb5 hb6 hd1 hd2 ex ey ed
        go_enter Try.func49, Try.ntmps49
        go_wp2
        clear q0 q1
        obtain ⟨q0, q1⟩ := HQ.out
        simp at q0 q1
        have e1 := HE1.out
        obtain ⟨e2, e3⟩ := HE2.out
        obtain ⟨e4, e5, e6⟩ := HE3.out
        obtain ⟨e7, e8, e9⟩ := HE4.out
        obtain ⟨e10, e11, e12⟩ := HE5.out
        obtain ⟨ex, ey⟩ := HEX.out
        have ed := HED.out
        refine start_ (n := 46) (S := fun w' => w'.cell? ⟨rb, 0, none⟩ = some (.slice (some ad) bs.length c) ∧ w'.cell? (ad.add i1) = some (.int .u8 x) ∧ w'.cell? (ad.add i2) = some (.int .u8 y)) (ds := []) #[false, false, false, false, false, false, false, false, false, false, false, false, false, false, false, false, false, false, false, false, false, false, false, false, false, false, false, false, false, false, false, false, false, false, false, false, false, false, false, false, false, false, false, false, false, false] (by kernel_rfl) rfl rfl ⟨q0, hc, hd⟩ (fun hHeld => ?_)
        refine pure_ (i := 0) (N := some 47) (v := ?_) (a' := ?_) #[true, false, false, false, false, false, false, false, false, false, false, false, false, false, false, false, false, false, false, false, false, false, false, false, false, false, false, false, false, false, false, false, false, false, false, false, false, false, false, false, false, false, false, false, false, false] rfl rfl (by kernel_rfl) (fun _ _ _ h => h) (Or.inl ⟨by rfl, ?_⟩) ?_ ?_
        rotate_left
        · intro w'
          go_simp
          with_reducible rfl
        rotate_left
        · simp only [Act.put, List.setIfInBounds_toArray, List.set_cons_zero, List.set_cons_succ, i64_w, i32_w]
          rfl
        refine pure_ (i := 1) (N := some 48) (v := ?_) (a' := ?_) #[true, true, false, false, false, false, false, false, false, false, false, false, false, false, false, false, false, false, false, false, false, false, false, false, false, false, false, false, false, false, false, false, false, false, false, false, false, false, false, false, false, false, false, false, false, false] rfl rfl (by kernel_rfl) (fun _ _ _ h => h) (Or.inl ⟨by rfl, ?_⟩) ?_ ?_
        rotate_left
        · intro w'
          go_simp
          with_reducible rfl
        rotate_left
        · simp only [Act.put, List.setIfInBounds_toArray, List.set_cons_zero, List.set_cons_succ, i64_w, i32_w]
          rfl
        refine pure_ (i := 2) (N := some 49) (v := ?_) (a' := ?_) #[true, true, true, false, false, false, false, false, false, false, false, false, false, false, false, false, false, false, false, false, false, false, false, false, false, false, false, false, false, false, false, false, false, false, false, false, false, false, false, false, false, false, false, false, false, false] rfl rfl (by kernel_rfl) (fun _ _ _ h => h) (Or.inl ⟨by rfl, ?_⟩) ?_ ?_
        rotate_left
        · intro w'
          go_simp
          with_reducible rfl
        rotate_left
        · simp only [Act.put, List.setIfInBounds_toArray, List.set_cons_zero, List.set_cons_succ, i64_w, i32_w]
          rfl
        refine pure_ (i := 4) (N := some 51) (v := ?_) (a' := ?_) #[true, true, true, false, true, false, false, false, false, false, false, false, false, false, false, false, false, false, false, false, false, false, false, false, false, false, false, false, false, false, false, false, false, false, false, false, false, false, false, false, false, false, false, false, false, false] rfl rfl (by kernel_rfl) (fun _ _ _ h => h) (Or.inl ⟨by rfl, ?_⟩) ?_ ?_
        rotate_left
        · intro w'
          go_simp
          with_reducible rfl
        rotate_left
        · simp only [Act.put, List.setIfInBounds_toArray, List.set_cons_zero, List.set_cons_succ, i64_w, i32_w]
          rfl
        refine pure_ (i := 5) (N := some 52) (v := ?_) (a' := ?_) #[true, true, true, false, true, true, false, false, false, false, false, false, false, false, false, false, false, false, false, false, false, false, false, false, false, false, false, false, false, false, false, false, false, false, false, false, false, false, false, false, false, false, false, false, false, false] rfl rfl (by kernel_rfl) (fun _ _ _ h => h) (Or.inl ⟨by rfl, ?_⟩) ?_ ?_
        rotate_left
        · intro w'
          go_simp
          with_reducible rfl
        rotate_left
        · simp only [Act.put, List.setIfInBounds_toArray, List.set_cons_zero, List.set_cons_succ, i64_w, i32_w]
          rfl
        refine pure_ (i := 6) (N := some 53) (v := ?_) (a' := ?_) #[true, true, true, false, true, true, true, false, false, false, false, false, false, false, false, false, false, false, false, false, false, false, false, false, false, false, false, false, false, false, false, false, false, false, false, false, false, false, false, false, false, false, false, false, false, false] rfl rfl (by kernel_rfl) (fun _ _ _ h => h) (Or.inl ⟨by rfl, ?_⟩) ?_ ?_
        rotate_left
        · intro w'
          go_simp
          with_reducible rfl
        rotate_left
        · simp only [Act.put, List.setIfInBounds_toArray, List.set_cons_zero, List.set_cons_succ, i64_w, i32_w]
          rfl
        refine pure_ (i := 7) (N := some 54) (v := ?_) (a' := ?_) #[true, true, true, false, true, true, true, true, false, false, false, false, false, false, false, false, false, false, false, false, false, false, false, false, false, false, false, false, false, false, false, false, false, false, false, false, false, false, false, false, false, false, false, false, false, false] rfl rfl (by kernel_rfl) (fun _ _ _ h => h) (Or.inl ⟨by rfl, ?_⟩) ?_ ?_
        rotate_left
        · intro w'
          go_simp
          with_reducible rfl
        rotate_left
        · simp only [Act.put, List.setIfInBounds_toArray, List.set_cons_zero, List.set_cons_succ, i64_w, i32_w]
          rfl
        refine pure_ (i := 15) (N := some 62) (v := ?_) (a' := ?_) #[true, true, true, false, true, true, true, true, false, false, false, false, false, false, false, true, false, false, false, false, false, false, false, false, false, false, false, false, false, false, false, false, false, false, false, false, false, false, false, false, false, false, false, false, false, false] rfl rfl (by kernel_rfl) (fun _ _ _ h => h) (Or.inl ⟨by rfl, ?_⟩) ?_ ?_
        rotate_left
        · intro w'
          go_simp
          with_reducible rfl
        rotate_left
        · simp only [Act.put, List.setIfInBounds_toArray, List.set_cons_zero, List.set_cons_succ, i64_w, i32_w]
          rfl
        refine pure_ (i := 16) (N := some 63) (v := ?_) (a' := ?_) #[true, true, true, false, true, true, true, true, false, false, false, false, false, false, false, true, true, false, false, false, false, false, false, false, false, false, false, false, false, false, false, false, false, false, false, false, false, false, false, false, false, false, false, false, false, false] rfl rfl (by kernel_rfl) (fun _ _ _ h => h) (Or.inl ⟨by rfl, ?_⟩) ?_ ?_
        rotate_left
        · intro w'
          go_simp
          with_reducible rfl
        rotate_left
        · simp only [Act.put, List.setIfInBounds_toArray, List.set_cons_zero, List.set_cons_succ, i64_w, i32_w]
          rfl
        refine pure_ (i := 17) (N := some 64) (v := ?_) (a' := ?_) #[true, true, true, false, true, true, true, true, false, false, false, false, false, false, false, true, true, true, false, false, false, false, false, false, false, false, false, false, false, false, false, false, false, false, false, false, false, false, false, false, false, false, false, false, false, false] rfl rfl (by kernel_rfl) (fun _ _ _ h => h) (Or.inl ⟨by rfl, ?_⟩) ?_ ?_
        rotate_left
        · intro w'
          go_simp
          with_reducible rfl
        rotate_left
        · simp only [Act.put, List.setIfInBounds_toArray, List.set_cons_zero, List.set_cons_succ, i64_w, i32_w]
          rfl
        refine pure_ (i := 19) (N := some 66) (v := ?_) (a' := ?_) #[true, true, true, false, true, true, true, true, false, false, false, false, false, false, false, true, true, true, false, true, false, false, false, false, false, false, false, false, false, false, false, false, false, false, false, false, false, false, false, false, false, false, false, false, false, false] rfl rfl (by kernel_rfl) (fun _ _ _ h => h) (Or.inl ⟨by rfl, ?_⟩) ?_ ?_
        rotate_left
        · intro w'
          go_simp
          with_reducible rfl
        rotate_left
        · simp only [Act.put, List.setIfInBounds_toArray, List.set_cons_zero, List.set_cons_succ, i64_w, i32_w]
          rfl
        refine pure_ (i := 20) (N := some 67) (v := ?_) (a' := ?_) #[true, true, true, false, true, true, true, true, false, false, false, false, false, false, false, true, true, true, false, true, true, false, false, false, false, false, false, false, false, false, false, false, false, false, false, false, false, false, false, false, false, false, false, false, false, false] rfl rfl (by kernel_rfl) (fun _ _ _ h => h) (Or.inl ⟨by rfl, ?_⟩) ?_ ?_
        rotate_left
        · intro w'
          go_simp
          with_reducible rfl
        rotate_left
        · simp only [Act.put, List.setIfInBounds_toArray, List.set_cons_zero, List.set_cons_succ, i64_w, i32_w]
          rfl
        refine pure_ (i := 21) (N := some 68) (v := ?_) (a' := ?_) #[true, true, true, false, true, true, true, true, false, false, false, false, false, false, false, true, true, true, false, true, true, true, false, false, false, false, false, false, false, false, false, false, false, false, false, false, false, false, false, false, false, false, false, false, false, false] rfl rfl (by kernel_rfl) (fun _ _ _ h => h) (Or.inl ⟨by rfl, ?_⟩) ?_ ?_
        rotate_left
        · intro w'
          go_simp
          with_reducible rfl
        rotate_left
        · simp only [Act.put, List.setIfInBounds_toArray, List.set_cons_zero, List.set_cons_succ, i64_w, i32_w]
          rfl
        refine pure_ (i := 22) (N := some 69) (v := ?_) (a' := ?_) #[true, true, true, false, true, true, true, true, false, false, false, false, false, false, false, true, true, true, false, true, true, true, true, false, false, false, false, false, false, false, false, false, false, false, false, false, false, false, false, false, false, false, false, false, false, false] rfl rfl (by kernel_rfl) (fun _ _ _ h => h) (Or.inl ⟨by rfl, ?_⟩) ?_ ?_
        rotate_left
        · intro w'
          go_simp
          with_reducible rfl
        rotate_left
        · simp only [Act.put, List.setIfInBounds_toArray, List.set_cons_zero, List.set_cons_succ, i64_w, i32_w]
          rfl
        refine pure_ (i := 23) (N := some 70) (v := ?_) (a' := ?_) #[true, true, true, false, true, true, true, true, false, false, false, false, false, false, false, true, true, true, false, true, true, true, true, true, false, false, false, false, false, false, false, false, false, false, false, false, false, false, false, false, false, false, false, false, false, false] rfl rfl (by kernel_rfl) (fun _ _ _ h => h) (Or.inl ⟨by rfl, ?_⟩) ?_ ?_
        rotate_left
        · intro w'
          go_simp
          with_reducible rfl
        rotate_left
        · simp only [Act.put, List.setIfInBounds_toArray, List.set_cons_zero, List.set_cons_succ, i64_w, i32_w]
          rfl
        refine pure_ (i := 24) (N := some 71) (v := ?_) (a' := ?_) #[true, true, true, false, true, true, true, true, false, false, false, false, false, false, false, true, true, true, false, true, true, true, true, true, true, false, false, false, false, false, false, false, false, false, false, false, false, false, false, false, false, false, false, false, false, false] rfl rfl (by kernel_rfl) (fun _ _ _ h => h) (Or.inl ⟨by rfl, ?_⟩) ?_ ?_
        rotate_left
        · intro w'
          go_simp
          with_reducible rfl
        rotate_left
        · simp only [Act.put, List.setIfInBounds_toArray, List.set_cons_zero, List.set_cons_succ, i64_w, i32_w]
          rfl
        refine pure_ (i := 33) (N := some 80) (v := ?_) (a' := ?_) #[true, true, true, false, true, true, true, true, false, false, false, false, false, false, false, true, true, true, false, true, true, true, true, true, true, false, false, false, false, false, false, false, false, true, false, false, false, false, false, false, false, false, false, false, false, false] rfl rfl (by kernel_rfl) (fun _ _ _ h => h) (Or.inl ⟨by rfl, ?_⟩) ?_ ?_
        rotate_left
        · intro w'
          go_simp
          with_reducible rfl
        rotate_left
        · simp only [Act.put, List.setIfInBounds_toArray, List.set_cons_zero, List.set_cons_succ, i64_w, i32_w]
          rfl
        refine pure_ (i := 34) (N := some 81) (v := ?_) (a' := ?_) #[true, true, true, false, true, true, true, true, false, false, false, false, false, false, false, true, true, true, false, true, true, true, true, true, true, false, false, false, false, false, false, false, false, true, true, false, false, false, false, false, false, false, false, false, false, false] rfl rfl (by kernel_rfl) (fun _ _ _ h => h) (Or.inl ⟨by rfl, ?_⟩) ?_ ?_
        rotate_left
        · intro w'
          go_simp
          with_reducible rfl
        rotate_left
        · simp only [Act.put, List.setIfInBounds_toArray, List.set_cons_zero, List.set_cons_succ, i64_w, i32_w]
          rfl
        refine pure_ (i := 36) (N := some 83) (v := ?_) (a' := ?_) #[true, true, true, false, true, true, true, true, false, false, false, false, false, false, false, true, true, true, false, true, true, true, true, true, true, false, false, false, false, false, false, false, false, true, true, false, true, false, false, false, false, false, false, false, false, false] rfl rfl (by kernel_rfl) (fun _ _ _ h => h) (Or.inl ⟨by rfl, ?_⟩) ?_ ?_
        rotate_left
        · intro w'
          go_simp
          with_reducible rfl
        rotate_left
        · simp only [Act.put, List.setIfInBounds_toArray, List.set_cons_zero, List.set_cons_succ, i64_w, i32_w]
          rfl
        refine pure_ (i := 37) (N := some 84) (v := ?_) (a' := ?_) #[true, true, true, false, true, true, true, true, false, false, false, false, false, false, false, true, true, true, false, true, true, true, true, true, true, false, false, false, false, false, false, false, false, true, true, false, true, true, false, false, false, false, false, false, false, false] rfl rfl (by kernel_rfl) (fun _ _ _ h => h) (Or.inl ⟨by rfl, ?_⟩) ?_ ?_
        rotate_left
        · intro w'
          go_simp
          with_reducible rfl
        rotate_left
        · simp only [Act.put, List.setIfInBounds_toArray, List.set_cons_zero, List.set_cons_succ, i64_w, i32_w]
          rfl
        refine pure_ (i := 38) (N := some 85) (v := ?_) (a' := ?_) #[true, true, true, false, true, true, true, true, false, false, false, false, false, false, false, true, true, true, false, true, true, true, true, true, true, false, false, false, false, false, false, false, false, true, true, false, true, true, true, false, false, false, false, false, false, false] rfl rfl (by kernel_rfl) (fun _ _ _ h => h) (Or.inl ⟨by rfl, ?_⟩) ?_ ?_
        rotate_left
        · intro w'
          go_simp
          with_reducible rfl
        rotate_left
        · simp only [Act.put, List.setIfInBounds_toArray, List.set_cons_zero, List.set_cons_succ, i64_w, i32_w]
          rfl
        refine pure_ (i := 39) (N := some 86) (v := ?_) (a' := ?_) #[true, true, true, false, true, true, true, true, false, false, false, false, false, false, false, true, true, true, false, true, true, true, true, true, true, false, false, false, false, false, false, false, false, true, true, false, true, true, true, true, false, false, false, false, false, false] rfl rfl (by kernel_rfl) (fun _ _ _ h => h) (Or.inl ⟨by rfl, ?_⟩) ?_ ?_
        rotate_left
        · intro w'
          go_simp
          with_reducible rfl
        rotate_left
        · simp only [Act.put, List.setIfInBounds_toArray, List.set_cons_zero, List.set_cons_succ, i64_w, i32_w]
          rfl
        refine take_ (i := 3) (N := some 50) (v := ?_) (a' := ?_) #[true, true, true, true, true, true, true, true, false, false, false, false, false, false, false, true, true, true, false, true, true, true, true, true, true, false, false, false, false, false, false, false, false, true, true, false, true, true, true, true, false, false, false, false, false, false] rfl rfl (by kernel_rfl) (fun _ _ _ h => h) (Or.inl ⟨by rfl, ?_⟩) hHeld ?_ ?_
        rotate_left
        · rintro w' ⟨s0, s1, s2⟩
          go_simp
          with_reducible rfl
        rotate_left
        · simp only [Act.put, List.setIfInBounds_toArray, List.set_cons_zero, List.set_cons_succ, i64_w, i32_w]
          rfl
        refine take_ (i := 8) (N := some 55) (v := ?_) (a' := ?_) #[true, true, true, true, true, true, true, true, true, false, false, false, false, false, false, true, true, true, false, true, true, true, true, true, true, false, false, false, false, false, false, false, false, true, true, false, true, true, true, true, false, false, false, false, false, false] rfl rfl (by kernel_rfl) (fun _ _ _ h => h) (Or.inl ⟨by rfl, ?_⟩) hHeld ?_ ?_
        rotate_left
        · rintro w' ⟨s0, s1, s2⟩
          go_simp
          with_reducible rfl
        rotate_left
        · simp only [Act.put, List.setIfInBounds_toArray, List.set_cons_zero, List.set_cons_succ, i64_w, i32_w]
          rfl
        refine pure_ (i := 9) (N := some 56) (v := ?_) (a' := ?_) #[true, true, true, true, true, true, true, true, true, true, false, false, false, false, false, true, true, true, false, true, true, true, true, true, true, false, false, false, false, false, false, false, false, true, true, false, true, true, true, true, false, false, false, false, false, false] rfl rfl (by kernel_rfl) (fun _ _ _ h => h) (Or.inl ⟨by rfl, ?_⟩) ?_ ?_
        rotate_left
        · intro w'
          go_simp
          with_reducible rfl
        rotate_left
        · simp only [Act.put, List.setIfInBounds_toArray, List.set_cons_zero, List.set_cons_succ, i64_w, i32_w]
          rfl
        refine pure_ (i := 10) (N := some 57) (v := ?_) (a' := ?_) #[true, true, true, true, true, true, true, true, true, true, true, false, false, false, false, true, true, true, false, true, true, true, true, true, true, false, false, false, false, false, false, false, false, true, true, false, true, true, true, true, false, false, false, false, false, false] rfl rfl (by kernel_rfl) (fun _ _ _ h => h) (Or.inl ⟨by rfl, ?_⟩) ?_ ?_
        rotate_left
        · intro w'
          go_simp
          with_reducible rfl
        rotate_left
        · simp only [Act.put, List.setIfInBounds_toArray, List.set_cons_zero, List.set_cons_succ, i64_w, i32_w]
          rfl
        refine pure_ (i := 11) (N := some 58) (v := ?_) (a' := ?_) #[true, true, true, true, true, true, true, true, true, true, true, true, false, false, false, true, true, true, false, true, true, true, true, true, true, false, false, false, false, false, false, false, false, true, true, false, true, true, true, true, false, false, false, false, false, false] rfl rfl (by kernel_rfl) (fun _ _ _ h => h) (Or.inl ⟨by rfl, ?_⟩) ?_ ?_
        rotate_left
        · intro w'
          go_simp
          with_reducible rfl
        rotate_left
        · simp only [Act.put, List.setIfInBounds_toArray, List.set_cons_zero, List.set_cons_succ, i64_w, i32_w]
          rfl
        refine take_ (i := 12) (N := some 59) (v := ?_) (a' := ?_) #[true, true, true, true, true, true, true, true, true, true, true, true, true, false, false, true, true, true, false, true, true, true, true, true, true, false, false, false, false, false, false, false, false, true, true, false, true, true, true, true, false, false, false, false, false, false] rfl rfl (by kernel_rfl) (fun _ _ _ h => h) (Or.inl ⟨by rfl, ?_⟩) hHeld ?_ ?_
        rotate_left
        · rintro w' ⟨s0, s1, s2⟩
          go_simp
          with_reducible rfl
        rotate_left
        · simp only [Act.put, List.setIfInBounds_toArray, List.set_cons_zero, List.set_cons_succ, i64_w, i32_w]
          rfl
        refine pure_ (i := 13) (N := some 60) (v := ?_) (a' := ?_) #[true, true, true, true, true, true, true, true, true, true, true, true, true, true, false, true, true, true, false, true, true, true, true, true, true, false, false, false, false, false, false, false, false, true, true, false, true, true, true, true, false, false, false, false, false, false] rfl rfl (by kernel_rfl) (fun _ _ _ h => h) (Or.inl ⟨by rfl, ?_⟩) ?_ ?_
        rotate_left
        · intro w'
          go_simp
          with_reducible rfl
        rotate_left
        · simp only [Act.put, List.setIfInBounds_toArray, List.set_cons_zero, List.set_cons_succ, i64_w, i32_w]
          rfl
        refine pure_ (i := 14) (N := some 61) (v := ?_) (a' := ?_) #[true, true, true, true, true, true, true, true, true, true, true, true, true, true, true, true, true, true, false, true, true, true, true, true, true, false, false, false, false, false, false, false, false, true, true, false, true, true, true, true, false, false, false, false, false, false] rfl rfl (by kernel_rfl) (fun _ _ _ h => h) (Or.inl ⟨by rfl, ?_⟩) ?_ ?_
        rotate_left
        · intro w'
          go_simp
          with_reducible rfl
        rotate_left
        · simp only [Act.put, List.setIfInBounds_toArray, List.set_cons_zero, List.set_cons_succ, i64_w, i32_w]
          rfl
        refine take_ (i := 18) (N := some 65) (v := ?_) (a' := ?_) #[true, true, true, true, true, true, true, true, true, true, true, true, true, true, true, true, true, true, true, true, true, true, true, true, true, false, false, false, false, false, false, false, false, true, true, false, true, true, true, true, false, false, false, false, false, false] rfl rfl (by kernel_rfl) (fun _ _ _ h => h) (Or.inl ⟨by rfl, ?_⟩) hHeld ?_ ?_
        rotate_left
        · rintro w' ⟨s0, s1, s2⟩
          go_simp
          with_reducible rfl
        rotate_left
        · simp only [Act.put, List.setIfInBounds_toArray, List.set_cons_zero, List.set_cons_succ, i64_w, i32_w]
          rfl
        refine take_ (i := 25) (N := some 72) (v := ?_) (a' := ?_) #[true, true, true, true, true, true, true, true, true, true, true, true, true, true, true, true, true, true, true, true, true, true, true, true, true, true, false, false, false, false, false, false, false, true, true, false, true, true, true, true, false, false, false, false, false, false] rfl rfl (by kernel_rfl) (fun _ _ _ h => h) (Or.inl ⟨by rfl, ?_⟩) hHeld ?_ ?_
        rotate_left
        · rintro w' ⟨s0, s1, s2⟩
          go_simp
          with_reducible rfl
        rotate_left
        · simp only [Act.put, List.setIfInBounds_toArray, List.set_cons_zero, List.set_cons_succ, i64_w, i32_w]
          rfl
        refine pure_ (i := 26) (N := some 73) (v := ?_) (a' := ?_) #[true, true, true, true, true, true, true, true, true, true, true, true, true, true, true, true, true, true, true, true, true, true, true, true, true, true, true, false, false, false, false, false, false, true, true, false, true, true, true, true, false, false, false, false, false, false] rfl rfl (by kernel_rfl) (fun _ _ _ h => h) (Or.inl ⟨by rfl, ?_⟩) ?_ ?_
        rotate_left
        · intro w'
          go_simp
          with_reducible rfl
        rotate_left
        · simp only [Act.put, List.setIfInBounds_toArray, List.set_cons_zero, List.set_cons_succ, i64_w, i32_w]
          rfl
        refine pure_ (i := 27) (N := some 74) (v := ?_) (a' := ?_) #[true, true, true, true, true, true, true, true, true, true, true, true, true, true, true, true, true, true, true, true, true, true, true, true, true, true, true, true, false, false, false, false, false, true, true, false, true, true, true, true, false, false, false, false, false, false] rfl rfl (by kernel_rfl) (fun _ _ _ h => h) (Or.inl ⟨by rfl, ?_⟩) ?_ ?_
        rotate_left
        · intro w'
          go_simp
          with_reducible rfl
        rotate_left
        · simp only [Act.put, List.setIfInBounds_toArray, List.set_cons_zero, List.set_cons_succ, i64_w, i32_w]
          rfl
        refine pure_ (i := 28) (N := some 75) (v := ?_) (a' := ?_) #[true, true, true, true, true, true, true, true, true, true, true, true, true, true, true, true, true, true, true, true, true, true, true, true, true, true, true, true, true, false, false, false, false, true, true, false, true, true, true, true, false, false, false, false, false, false] rfl rfl (by kernel_rfl) (fun _ _ _ h => h) (Or.inl ⟨by rfl, ?_⟩) ?_ ?_
        rotate_left
        · intro w'
          go_simp
          with_reducible rfl
        rotate_left
        · simp only [Act.put, List.setIfInBounds_toArray, List.set_cons_zero, List.set_cons_succ, i64_w, i32_w]
          rfl
        refine take_ (i := 29) (N := some 76) (v := ?_) (a' := ?_) #[true, true, true, true, true, true, true, true, true, true, true, true, true, true, true, true, true, true, true, true, true, true, true, true, true, true, true, true, true, true, false, false, false, true, true, false, true, true, true, true, false, false, false, false, false, false] rfl rfl (by kernel_rfl) (fun _ _ _ h => h) (Or.inl ⟨by rfl, ?_⟩) hHeld ?_ ?_
        rotate_left
        · rintro w' ⟨s0, s1, s2⟩
          go_simp
          with_reducible rfl
        rotate_left
        · simp only [Act.put, List.setIfInBounds_toArray, List.set_cons_zero, List.set_cons_succ, i64_w, i32_w]
          rfl
        refine pure_ (i := 30) (N := some 77) (v := ?_) (a' := ?_) #[true, true, true, true, true, true, true, true, true, true, true, true, true, true, true, true, true, true, true, true, true, true, true, true, true, true, true, true, true, true, true, false, false, true, true, false, true, true, true, true, false, false, false, false, false, false] rfl rfl (by kernel_rfl) (fun _ _ _ h => h) (Or.inl ⟨by rfl, ?_⟩) ?_ ?_
        rotate_left
        · intro w'
          go_simp
          with_reducible rfl
        rotate_left
        · simp only [Act.put, List.setIfInBounds_toArray, List.set_cons_zero, List.set_cons_succ, i64_w, i32_w]
          rfl
        refine pure_ (i := 31) (N := some 78) (v := ?_) (a' := ?_) #[true, true, true, true, true, true, true, true, true, true, true, true, true, true, true, true, true, true, true, true, true, true, true, true, true, true, true, true, true, true, true, true, false, true, true, false, true, true, true, true, false, false, false, false, false, false] rfl rfl (by kernel_rfl) (fun _ _ _ h => h) (Or.inl ⟨by rfl, ?_⟩) ?_ ?_
        rotate_left
        · intro w'
          go_simp
          with_reducible rfl
        rotate_left
        · simp only [Act.put, List.setIfInBounds_toArray, List.set_cons_zero, List.set_cons_succ, i64_w, i32_w]
          rfl
        refine pure_ (i := 32) (N := some 79) (v := ?_) (a' := ?_) #[true, true, true, true, true, true, true, true, true, true, true, true, true, true, true, true, true, true, true, true, true, true, true, true, true, true, true, true, true, true, true, true, true, true, true, false, true, true, true, true, false, false, false, false, false, false] rfl rfl (by kernel_rfl) (fun _ _ _ h => h) (Or.inl ⟨by rfl, ?_⟩) ?_ ?_
        rotate_left
        · intro w'
          go_simp
          with_reducible rfl
        rotate_left
        · simp only [Act.put, List.setIfInBounds_toArray, List.set_cons_zero, List.set_cons_succ, i64_w, i32_w]
          rfl
        refine pure_ (i := 35) (N := some 82) (v := ?_) (a' := ?_) #[true, true, true, true, true, true, true, true, true, true, true, true, true, true, true, true, true, true, true, true, true, true, true, true, true, true, true, true, true, true, true, true, true, true, true, true, true, true, true, true, false, false, false, false, false, false] rfl rfl (by kernel_rfl) (fun _ _ _ h => h) (Or.inl ⟨by rfl, ?_⟩) ?_ ?_
        rotate_left
        · intro w'
          go_simp
          with_reducible rfl
        rotate_left
        · simp only [Act.put, List.setIfInBounds_toArray, List.set_cons_zero, List.set_cons_succ, i64_w, i32_w]
          rfl
        refine take_ (i := 40) (N := some 87) (v := ?_) (a' := ?_) #[true, true, true, true, true, true, true, true, true, true, true, true, true, true, true, true, true, true, true, true, true, true, true, true, true, true, true, true, true, true, true, true, true, true, true, true, true, true, true, true, true, false, false, false, false, false] rfl rfl (by kernel_rfl) (fun _ _ _ h => h) (Or.inl ⟨by rfl, ?_⟩) hHeld ?_ ?_
        rotate_left
        · rintro w' ⟨s0, s1, s2⟩
          go_simp
          with_reducible rfl
        rotate_left
        · simp only [Act.put, List.setIfInBounds_toArray, List.set_cons_zero, List.set_cons_succ, i64_w, i32_w]
          rfl
        refine pure_ (i := 41) (N := some 88) (v := ?_) (a' := ?_) #[true, true, true, true, true, true, true, true, true, true, true, true, true, true, true, true, true, true, true, true, true, true, true, true, true, true, true, true, true, true, true, true, true, true, true, true, true, true, true, true, true, true, false, false, false, false] rfl rfl (by kernel_rfl) (fun _ _ _ h => h) (Or.inl ⟨by rfl, ?_⟩) ?_ ?_
        rotate_left
        · intro w'
          go_simp
          with_reducible rfl
        rotate_left
        · simp only [Act.put, List.setIfInBounds_toArray, List.set_cons_zero, List.set_cons_succ, i64_w, i32_w]
          rfl
        refine pure_ (i := 42) (N := some 89) (v := ?_) (a' := ?_) #[true, true, true, true, true, true, true, true, true, true, true, true, true, true, true, true, true, true, true, true, true, true, true, true, true, true, true, true, true, true, true, true, true, true, true, true, true, true, true, true, true, true, true, false, false, false] rfl rfl (by kernel_rfl) (fun _ _ _ h => h) (Or.inl ⟨by rfl, ?_⟩) ?_ ?_
        rotate_left
        · intro w'
          go_simp
          with_reducible rfl
        rotate_left
        · simp only [Act.put, List.setIfInBounds_toArray, List.set_cons_zero, List.set_cons_succ, i64_w, i32_w]
          rfl
        refine pure_ (i := 43) (N := some 90) (v := ?_) (a' := ?_) #[true, true, true, true, true, true, true, true, true, true, true, true, true, true, true, true, true, true, true, true, true, true, true, true, true, true, true, true, true, true, true, true, true, true, true, true, true, true, true, true, true, true, true, true, false, false] rfl rfl (by kernel_rfl) (fun _ _ _ h => h) (Or.inl ⟨by rfl, ?_⟩) ?_ ?_
        rotate_left
        · intro w'
          go_simp
          with_reducible rfl
        rotate_left
        · simp only [Act.put, List.setIfInBounds_toArray, List.set_cons_zero, List.set_cons_succ, i64_w, i32_w]
          rfl
        refine pure_ (i := 44) (N := some 91) (v := ?_) (a' := ?_) #[true, true, true, true, true, true, true, true, true, true, true, true, true, true, true, true, true, true, true, true, true, true, true, true, true, true, true, true, true, true, true, true, true, true, true, true, true, true, true, true, true, true, true, true, true, false] rfl rfl (by kernel_rfl) (fun _ _ _ h => h) (Or.inl ⟨by rfl, ?_⟩) ?_ ?_
        rotate_left
        · intro w'
          go_simp
          with_reducible rfl
        rotate_left
        · simp only [Act.put, List.setIfInBounds_toArray, List.set_cons_zero, List.set_cons_succ, i64_w, i32_w]
          rfl
        refine pure_ (i := 45) (N := some 6) (v := ?_) (a' := ?_) #[true, true, true, true, true, true, true, true, true, true, true, true, true, true, true, true, true, true, true, true, true, true, true, true, true, true, true, true, true, true, true, true, true, true, true, true, true, true, true, true, true, true, true, true, true, true] rfl rfl (by kernel_rfl) (fun _ _ _ h => h) (Or.inl ⟨by rfl, ?_⟩) ?_ ?_
        rotate_left
        · intro w'
          go_simp
          with_reducible rfl
        rotate_left
        · simp only [Act.put, List.setIfInBounds_toArray, List.set_cons_zero, List.set_cons_succ, i64_w, i32_w]
          rfl
        refine done_ (by kernel_rfl) ?_
        clear hHeld e1 e2 e3 e4 e5 e6 e7 e8 e9 e10 e11 e12 ex ey ed q0 q1 hc hd f0 f1
        go_wp2
        go_ret
        exact ⟨_, rfl, pick_last b6 n (by omega) (by omega), (HR.out.1).bel (Below.refl _ _).drew, grown_tr HR.out.2 (grown_drew _ _)⟩
end Go.Proofs.Ytccllgpaafgjaaa
/- l6Open, of; l71Text. -/


namespace Go.Proofs.Ytccllgpaafgjaaa
open Go.RowKit Go.Proofs.YtccllgpaafgjaaaW.PrintWords Go.Proofs.YtccllgpaafgjaaaW.PrintLast
set_option linter.unusedVariables false
set_option linter.unusedSimpArgs false

/-- What l6Open leaves: a new reader. -/
def Opened (w : World) (e : Ending) (w' : World) : Prop := ∃ rb, e = .returned (.pointer (some ⟨rb, 0, none⟩)) ∧ Rd w' rb 0 ∧ w.heap.size ≤ rb ∧ Bel w w'
/-- A code that came in. -/
structure CodeIn (w : World) (A : Option Addr) (n c : Nat) (bs : List Int) : Prop where
  len : bs.length = n
  cap : n ≤ c
  C : kByte.C w A n bs
  bd : ∀ x ∈ bs, 0 ≤ x ∧ x ≤ 255
  lt : ∀ ad, A = some ad → ad.block < w.heap.size
theorem CodeIn.bel {w w' : World} {A : Option Addr} {n c : Nat} {bs : List Int} (h : CodeIn w A n c bs) (hb : Bel w w') : CodeIn w' A n c bs := ⟨h.len, h.cap, Kd.C_below h.C hb, h.bd, fun ad e => Nat.lt_of_lt_of_le (h.lt ad e) hb.size⟩
set_option maxHeartbeats 2000000 in
theorem open_c {w : World} {A : Option Addr} {n c : Nat} {bs : List Int} (h : CodeIn w A n c bs) (hn : n ≤ 9223372036854775807) :
    Calls Try.prog 48 #[.slice A n c] w (Opened w) := by
  have hcap := h.cap
  have H := Lib.hid h
  clear h
  by_cases hl : (2000 : Int) < (n : Int)
  · go_enter Try.func48, Try.ntmps48
    go_wp2
    go_ret
    have hlen : (bs.take 2000).length = 2000 := by rw [List.length_take, H.out.len]; omega
    refine ⟨w.heap.size, rfl, ⟨⟨A, c, bs.take 2000, 0, ?_, ?_, fun x hx => H.out.bd x (List.mem_of_mem_take hx), by omega, Nat.le_refl _, H.out.lt⟩⟩, Nat.le_refl _, bel_alloc (Below.refl _ _) _⟩
    · rw [hlen]; exact Blk.new _ _ _
    · rw [hlen]; exact Kd.C_alloc (C_take H.out.C 2000 (by omega)) _
  · go_enter Try.func48, Try.ntmps48
    go_wp2
    go_ret
    refine ⟨w.heap.size, rfl, ⟨⟨A, c, bs, 0, ?_, ?_, H.out.bd, by rw [H.out.len]; omega, Nat.le_refl _, H.out.lt⟩⟩, Nat.le_refl _, bel_alloc (Below.refl _ _) _⟩
    · rw [H.out.len]; exact Blk.new _ _ _
    · rw [H.out.len]; exact Kd.C_alloc H.out.C _
def OfV (xs : List ByteArray) (v : Value) : Prop := ∃ s, v = .string s ∧ s ∈ xs
def TextV (v : Value) : Prop := ∃ s : ByteArray, v = .string s ∧ s.size ≤ 7
def sOf (l : List UInt8) : ByteArray := ⟨l.toArray⟩
def abc : List ByteArray := [sOf [97], sOf [98], sOf [99], sOf [100], sOf [97]]
def eee : List ByteArray := [sOf [101], sOf [97, 97, 97, 97], sOf [32], sOf [65]]
end Go.Proofs.Ytccllgpaafgjaaa
/- areOps, NodeOk of the program; lgNode at empty lists; FnNodeNew. -/



namespace Go.Proofs.Ytccllgpaafgjaaa
open Go.RowKit Go.Proofs.YtccllgpaafgjaaaW.PrintWords Go.Proofs.YtccllgpaafgjaaaW.PrintLast
set_option linter.unusedVariables false
set_option linter.unusedSimpArgs false

theorem newP_ok : PoolP newP := poolOk_iff.1 (by kernel_rfl)
theorem isTerm_c (t : Int) (w : World) : Calls Try.prog 51 #[.int .i64 t] w (Same (.bool (inR t 0 99)) w) := by
  go_enter Try.func51, Try.ntmps51
  go_wp2_with (go_at_call 60; refine (within_c t 0 99 _).mono ?_; rintro e w' ⟨rfl, rfl⟩)
  go_ret
  exact ⟨rfl, rfl⟩
set_option maxHeartbeats 2000000 in
theorem areOps_c {w : World} {A : Option Addr} {c : Nat} {os : List Op} (hC : kOp.C w A os.length os) (ho : SmallOs os) :
    Calls Try.prog 52 #[.slice A os.length c] w (Ret (.bool (runB newP os && decide (os.length ≤ 20))) w) := by
  have HC := Lib.hid hC
  have HO := Lib.hid ho
  have hl := ho.len
  obtain ⟨b, hb⟩ : ∃ b, runB newP os = b := ⟨_, rfl⟩
  obtain ⟨d, hd⟩ : ∃ d, decide (os.length ≤ 20) = d := ⟨_, rfl⟩
  have hdi : decide ((os.length : Int) ≤ 20) = d := by rw [← hd]; congr 1; exact propext ⟨fun h => by omega, fun h => by omega⟩
  rw [hb, hd]
  have HRB := Lib.hid hb
  clear hC ho hd hb
  go_enter Try.func52, Try.ntmps52
  go_wp2_with fail
  refine (implPoolNew_c _).mono ?_
  rintro e w1 ⟨v0, v1, bvs, rfl, hp, hb1⟩
  obtain ⟨A0, A1, c0, c1, rfl, rfl, hpi⟩ := hp.reads
  clear hpi
  go_wp2_with fail
  refine (doAll_c hp.inn newP_ok.small (Kd.C_below HC.out hb1) HO.out).mono ?_
  rw [HRB.out]
  generalize runV newP os = q
  rintro e w2 ⟨u0, u1, bu, rfl, hu, hb2⟩
  obtain ⟨E0, E1, k0, k1, rfl, rfl, hpi⟩ := hu.reads
  have HB := Lib.hid (hb1.tr hb2)
  clear hpi hu hp hb1 hb2
  cases b <;>
    (go_wp2
     go_ret
     exact ⟨rfl, bel_alloc HB.out _⟩)
def NV (n : Node) (A : Option Addr) (c : Nat) : Value := .agg #[.bool n.up, .int .i64 n.term, .bool n.leads, .bool n.alone, .slice A n.ops.length c]
set_option maxHeartbeats 4000000 in
theorem implNodeOk_c {w : World} {A : Option Addr} {c : Nat} {n : Node} (hC : kOp.C w A n.ops.length n.ops) (ho : SmallOs n.ops) :
    Calls Try.prog 19 #[.agg #[.bool n.up, .int .i64 n.term, .bool n.leads, .bool n.alone, .slice A n.ops.length c]] w (Ret (.bool (nodeOk n)) w) := by
  obtain ⟨up, term, leads, alone, os⟩ := n
  unfold nodeOk
  simp only at hC ho ⊢
  have HC := Lib.hid hC
  have HO := Lib.hid ho
  clear hC ho
  obtain ⟨t, ht⟩ : ∃ t, inR term 0 99 = t := ⟨_, rfl⟩
  obtain ⟨b, hb⟩ : ∃ b, (runB newP os && decide (os.length ≤ 20)) = b := ⟨_, rfl⟩
  rw [ht, hb]
  have HT := Lib.hid ht
  have HB := Lib.hid hb
  clear ht hb
  have hA : ∀ W : World, Bel w W → Calls Try.prog 52 #[.slice A os.length c] W (Ret (.bool b) W) := fun W h => HB.out ▸ areOps_c (Kd.C_below HC.out h) HO.out
  have hI : ∀ W : World, Calls Try.prog 51 #[.int .i64 term] W (Same (.bool t) W) := fun W => HT.out ▸ isTerm_c term W
  have HA := Lib.hid hA
  have HI := Lib.hid hI
  clear hA hI
  go_enter Try.func19, Try.ntmps19
  cases t <;> cases leads <;> cases alone <;> cases b <;>
    (go_wp2_with (first | (go_at_call 51; refine (HI.out _).mono ?_; rintro e w' ⟨rfl, rfl⟩) | (go_at_call 52; refine (HA.out _ (bel_alloc (Below.refl _ _) _)).mono ?_; rintro e w3 ⟨rfl, hb3⟩))
     go_ret
     first | exact ⟨rfl, bel_alloc (Below.refl _ _) _⟩ | exact ⟨rfl, (bel_alloc (Below.refl _ _) _ : Bel w _).tr hb3⟩)
theorem lgOps0_c (A A' : Option Addr) (c c' : Nat) (w : World) : Calls Try.prog 38 #[.slice A 0 c, .slice A' 0 c'] w (Ret (.bool true) w) := by
  go_enter Try.func38, Try.ntmps38
  go_wp2
  go_loopg [5] 0 (fun g v W => v = .int .i64 0 ∧ Bel w W)
  case atStart => exact ⟨rfl, Below.refl _ _⟩
  case round =>
    obtain ⟨rfl, hW⟩ := hrel
    go_wp2
    go_ret
    exact ⟨rfl, hW⟩
set_option maxHeartbeats 2000000 in
theorem lgNode0_c (up leads alone : Bool) (term : Int) (A A' : Option Addr) (c c' : Nat) (w : World) : Calls Try.prog 18 #[.agg #[.bool up, .int .i64 term, .bool leads, .bool alone, .slice A 0 c], .agg #[.bool up, .int .i64 term, .bool leads, .bool alone, .slice A' 0 c']] w (Ret (.bool true) w) := by
  go_enter Try.func18, Try.ntmps18
  go_wp2_with (go_at_call 38; refine (lgOps0_c _ _ _ _ _).mono ?_; rintro e w3 ⟨rfl, hb3⟩)
  go_ret
  exact ⟨rfl, (bel_alloc (bel_alloc (Below.refl _ _) _) _ : Bel w _).tr hb3⟩
end Go.Proofs.Ytccllgpaafgjaaa
/- The closed facts of the rows that do not depend on the law, and how a row's facts are put together one by one. -/



namespace Go.Proofs.Ytccllgpaafgjaaa
open Go.ChangeShapes Go.WideShapes
set_option linter.unusedVariables false
theorem joined_of {P : Program} {f : FuncId} {fn : Func} {s : ChangeSpec} {c : OpenClaim}
    (h0 : (c.wf (OpenSpec.ofChange s)) = true)
    (h1 : (laidOutB P) = true)
    (h2 : (mapsRowed P) = true)
    (h3 : (fn.params.all (P.readableRec ·)) = true)
    (h4 : (namedTie P c.named s.vars) = true)
    (h5 : (c.stops == []) = true)
    (h6 : (P.stops == []) = true)
    (h7 : (c.knobs == []) = true)
    (h8 : (P.stopKnobs == []) = true)
    (h9 : (c.inPlace == P.inPlace f) = true)
    (h10 : (c.unfollowed == P.unfollowed f) = true)
    (h11 : (c.recurses == P.recurses f) = true)
    (h12 : (c.named == P.varsNamed f) = true)
    (h13 : (c.maps == (fn.params.toList ++ s.plain.varTypes P).any (P.mapsRec ·)) = true)
    (h14 : (c.ifaces == (fn.params.toList ++ s.plain.varTypes P).any (P.ifacesRec ·)) = true)
    (h15 : (c.mapsOut == P.mapsAmong fn.resultTypes.toList) = true)
    (h16 : (c.loops == (fn.params.toList ++ s.plain.varTypes P).any (P.loopsFrom ·)) = true)
    (h17 : (c.wideKeys == (fn.params.toList ++ s.plain.varTypes P ++ fn.resultTypes.toList).any (P.wideKeysFrom ·)) = true)
    (h18 : (s.vars.all (P.varReadable ·)) = true)
    (h19 : (fn.resultTypes.all (fun t => P.readableRec t && decide (t < P.types.size))) = true)
    (h20 : (c.ifacesOut == fn.resultTypes.toList.any (P.ifacesRec ·)) = true)
    (h21 : (c.loopsOut == fn.resultTypes.toList.any (P.loopsFrom ·)) = true)
    (h22 : (c.plainKeys == P.plainKeys) = true)
    (h23 : (c.shortTexts.isNone) = true)
    (h24 : (P.stopsHeard) = true)
    (h25 : (P.mayEnter) = true)
    (h26 : (c.lifted == P.liftsFinal) = true)
    (h27 : (P.make == some c.make) = true)
    (h28 : (c.kinds == (if c.domain.isEmpty then [] else fn.params.toList.map fun t => match P.underlying t with | some (.int k) => some k | _ => none)) = true)
    (h29 : (c.pinned == c.pinnedBy) = true)
    (h30 : (c.veiled == (fn.params.toList ++ s.plain.varTypes P ++ fn.resultTypes.toList).any (P.veiledRec ·)) = true)
    (h31 : (c.veiledFits P fn.params.toList (fn.params.toList ++ s.plain.varTypes P ++ fn.resultTypes.toList)) = true) : joinedFacts P f fn s c = true := by
  unfold joinedFacts
  simp only [Bool.and_eq_true]
  exact ⟨⟨⟨⟨⟨⟨⟨⟨⟨⟨⟨⟨⟨⟨⟨⟨⟨⟨⟨⟨⟨⟨⟨⟨⟨⟨⟨⟨⟨⟨⟨h0, h1⟩, h2⟩, h3⟩, h4⟩, h5⟩, h6⟩, h7⟩, h8⟩, h9⟩, h10⟩, h11⟩, h12⟩, h13⟩, h14⟩, h15⟩, h16⟩, h17⟩, h18⟩, h19⟩, h20⟩, h21⟩, h22⟩, h23⟩, h24⟩, h25⟩, h26⟩, h27⟩, h28⟩, h29⟩, h30⟩, h31⟩
def ordN : List Nat := [104, 97, 114, 110, 101, 115, 115, 32, 99, 52, 51, 53, 49, 50, 57, 57, 50, 53, 55, 97, 53, 50, 57, 101, 53, 99, 100, 101, 55, 52, 56, 100, 51, 57, 57, 52, 54, 49, 54, 98,
  98, 97, 55, 48, 100, 50, 54, 52, 55, 97, 52, 49, 52, 48, 99, 99, 49, 55, 54, 98, 48, 51, 52, 97, 100, 56, 56, 50, 55, 99, 57, 53, 32, 99, 117, 116, 32, 97, 116, 32,
  108, 111, 111, 112, 46, 101, 120, 97, 109, 112, 108, 101, 47, 103, 97, 114, 110, 101, 114, 47, 108, 97, 119, 115, 46, 70, 110, 69, 120, 97, 99, 116, 87, 111, 114, 108, 100, 78, 101, 119,
  32, 108, 111, 111, 112, 46, 101, 120, 97, 109, 112, 108, 101, 47, 103, 97, 114, 110, 101, 114, 47, 108, 97, 119, 115, 46, 70, 110, 78, 111, 100, 101, 78, 101, 119, 32, 108, 111, 111, 112,
  46, 101, 120, 97, 109, 112, 108, 101, 47, 103, 97, 114, 110, 101, 114, 47, 108, 97, 119, 115, 46, 70, 110, 69, 120, 97, 99, 116, 78, 111, 100, 101, 79, 107, 32, 108, 111, 111, 112, 46,
  101, 120, 97, 109, 112, 108, 101, 47, 103, 97, 114, 110, 101, 114, 47, 108, 97, 119, 115, 46, 70, 110, 76, 111, 103, 76, 101, 115, 115, 32, 108, 111, 111, 112, 46, 101, 120, 97, 109, 112,
  108, 101, 47, 103, 97, 114, 110, 101, 114, 47, 108, 97, 119, 115, 46, 70, 110, 76, 111, 103, 80, 111, 111, 108, 32, 108, 111, 111, 112, 46, 101, 120, 97, 109, 112, 108, 101, 47, 103, 97,
  114, 110, 101, 114, 47, 108, 97, 119, 115, 46, 70, 110, 76, 111, 103, 84, 119, 111, 32, 108, 111, 111, 112, 46, 101, 120, 97, 109, 112, 108, 101, 47, 103, 97, 114, 110, 101, 114, 47, 108,
  97, 119, 115, 46, 70, 110, 76, 111, 103, 70, 97, 108, 108]
theorem ord_eq : Try.prog.initOrder = String.ofList (ordN.map Char.ofNat) := by kernel_rfl
theorem ord_list : Try.prog.initOrder.toList = ordN.map Char.ofNat := by rw [ord_eq, String.toList_ofList]
theorem jo_laid : laidOutB Try.prog = true := by kernel_rfl
theorem jo_maps : mapsRowed Try.prog = true := by kernel_rfl
theorem jo_stops : (Try.prog.stops == []) = true := by kernel_rfl
theorem jo_knobs : (Try.prog.stopKnobs == []) = true := by kernel_rfl
theorem jo_keys : (true == Try.prog.plainKeys) = true := by kernel_rfl
theorem jo_heard : Try.prog.stopsHeard = true := by kernel_rfl
theorem ord_words : behindMainWord (wordsSigns (ordN.map Char.ofNat)) = "cut".toList :: (behindMainWord (wordsSigns (ordN.map Char.ofNat))).tail := by kernel_rfl
theorem strip_cut (W : List (List Char)) : stripLifts liftWords ("cut".toList :: W) = ([], "cut".toList :: W) := by kernel_rfl
theorem jo_later : Try.prog.laysLater = false := by kernel_rfl
theorem jo_reflect : Try.prog.bearsReflect = false := by kernel_rfl
theorem jo_door : Try.prog.doorFits [] = true := by kernel_rfl
theorem cut_gc : ("cut".toList == "gc".toList) = false := by kernel_rfl
theorem cut_spec : ("cut".toList == "spec".toList) = false := by kernel_rfl
theorem cut_carried : ("cut".toList == "carried".toList) = false := by kernel_rfl
theorem cut_cut : ("cut".toList == "cut".toList) = true := by kernel_rfl
theorem some_cut : (some "cut".toList == some "cut".toList) = true := by kernel_rfl
theorem jo_enter : Try.prog.mayEnter = true := by
  rw [Program.mayEnter, ord_list, ord_words]
  generalize (behindMainWord (wordsSigns (ordN.map Char.ofNat))).tail = W
  simp only [strip_cut, cut_gc, cut_spec, cut_carried, List.head?_cons, some_cut, jo_later, jo_reflect, jo_door, Bool.or_self, Bool.false_and, Bool.not_false, Bool.or_true, Bool.and_self, List.contains_nil]
theorem jo_lifts : Try.prog.headLifts = [] := by
  unfold Program.headLifts
  rw [ord_list, ord_words]
  generalize (behindMainWord (wordsSigns (ordN.map Char.ofNat))).tail = W
  simp only [strip_cut, List.head?_cons, some_cut, if_true]
theorem jo_final : (false == Try.prog.liftsFinal) = true := by
  unfold Program.liftsFinal
  rw [jo_lifts, ord_list, ord_words]
  generalize (behindMainWord (wordsSigns (ordN.map Char.ofNat))).tail = W
  kernel_rfl
theorem jo_make : (Try.prog.make == some .cut) = true := by
  rw [Program.make, ord_list, ord_words]
  generalize (behindMainWord (wordsSigns (ordN.map Char.ofNat))).tail = W
  simp only [cut_gc, cut_spec, cut_cut, Bool.or_self, Bool.true_or, if_true, Bool.false_eq_true, if_false]
  kernel_rfl
end Go.Proofs.Ytccllgpaafgjaaa
/- Arguments opened: a code of bytes that came in. -/


namespace Go.Proofs.Ytccllgpaafgjaaa
open Go.RowKit Go.Proofs.YtccllgpaafgjaaaW.PrintWords Go.Joins Go.ChangeShapes Go.WideShapes Go.Deep
set_option linter.unusedVariables false
set_option linter.unusedSimpArgs false

section
variable {H : Type} {enc : TypeId × Value → H} {w : World} {base : Nat} {spare : Nat → Bool} {held : Bool}
theorem open_byteE {n : Nat} {c : List Value} {y : DataW H × List MemPlace} (h : DataW.trod enc Try.prog w base spare held n 5 c = some y) : ∃ z : Int, kByte.K w z c ∧ 0 ≤ z ∧ z ≤ 255 := by
  obtain ⟨z, rfl, _, hw⟩ := DataW.trod_int Try.underlying5 h
  have hb := bounds_u8 hw
  exact ⟨z, rfl, hb.1, hb.2⟩
theorem cells_byte : Try.prog.cellsOf 5 = 1 := by kernel_rfl
set_option maxRecDepth 100000 in
theorem bytes_lt {r : Reach} {b0 : Nat} {ad : Addr} {n c : Nat} (h : Value.okWide Try.prog w r b0 31 (.slice (some ad) n c)) : ad.block < w.heap.size := by
  simp only [Value.okWide, Try.underlying31, Cell.okWide, Cell.ok, World.has] at h
  obtain ⟨_, _, _, _, row, cells, hs, _⟩ := h
  unfold World.shape? at hs
  by_cases hl : ad.block < w.heap.size
  · exact hl
  · rw [Array.getElem?_eq_none (by omega)] at hs
    cases hs
set_option maxRecDepth 100000 in
theorem open_bytes {r : Reach} {b0 : Nat} {v : Value} {d : DataW H} {p : List MemPlace} (hv : Value.okWide Try.prog w r b0 31 v) (h : DataW.Trod enc Try.prog w base spare held 31 v d p) :
    ∃ A n c, ∃ bs : List Int, v = .slice A n c ∧ CodeIn w A n c bs ∧ n ≤ 9223372036854775807 := by
  obtain ⟨a, len, cap, rfl⟩ := okWide_slice Try.underlying31 hv
  obtain ⟨fuel, hf⟩ := h
  obtain ⟨A, c, xs, e, hc, hC, hQ, hm⟩ := open_row kByte (Q := fun z => 0 ≤ z ∧ z ≤ 255) Try.underlying31 cells_byte (fun n c y hl h => by
    obtain ⟨z, hz, h0, h1⟩ := open_byteE h
    exact ⟨z, hz, h0, h1⟩) hf
  simp [Value.cells] at e
  obtain ⟨rfl, rfl, rfl⟩ := e
  have := big_max
  exact ⟨_, _, _, xs, rfl, ⟨rfl, hc, hC, hQ, fun ad e => by subst e; exact bytes_lt hv⟩, by omega⟩
end
end Go.Proofs.Ytccllgpaafgjaaa

/- Contracts of the program's and the reference's functions, and the plain laws behind them: part 11 of 11. -/
import Derived.Test.YtccllgpaafgjaaaGreatR1
import Derived.Test.YtccllgpaafgjaaaGreatR2
import Derived.Test.YtccllgpaafgjaaaGreatR3
import Derived.Test.YtccllgpaafgjaaaGreatR4
import Derived.Test.YtccllgpaafgjaaaGreatR5
import Derived.Test.YtccllgpaafgjaaaGreatR6
import Derived.Test.YtccllgpaafgjaaaGreatR7
import Derived.Test.YtccllgpaafgjaaaGreatR8
import Derived.Test.YtccllgpaafgjaaaGreatR9
import Derived.Test.YtccllgpaafgjaaaGreatR10
import Derived.Test.YtccllgpaafgjaaaGreatRows
import Derived.JoinedOf
import Derived.KernelRfl
set_option linter.unusedVariables false
set_option linter.unusedSimpArgs false

namespace Go.Proofs.YtccllgpaafgjaaaGreat
open Go.RowKit Go.Proofs.YtccllgpaafgjaaaGreatW.PrintWords Go.Proofs.YtccllgpaafgjaaaGreatW.PrintLast
structure OpsSt (w W : World) (rb k : Nat) (v0 v1 : Value) (p : Pool) (bvs : List Value) (pb n : Nat) (v7 : Value) (xs : List Value) : Prop where
  res : Blk W w.heap.size #[.slice none 0 0, .slice none 0 0] 42
  pool : Blk W pb #[v0, v1] 42
  rd : Rd W rb k
  own : OwnP W w.heap.size v0 v1 p bvs
  row : W.ownsRow w.heap.size 27 5 v7 n xs
  g : w.grownBy W (some rb)
  l2 : w.heap.size < pb
  l3 : rb < w.heap.size
theorem row_rd {w w' : World} {base : Nat} {e : TypeId} {sz n : Nat} {v : Value} {xs : List Value} (h : w.ownsRow base e sz v n xs) (he : e ≠ 164) {rb k : Nat} (hR : Rd w rb k) (hg : w.grownBy w' (some rb)) : w'.ownsRow base e sz v n xs := by
 obtain ⟨A, c, bs, q, hB, _⟩ := hR.h
 exact World.ownsRow.kept h hg (.inr fun e => own_ne h hB he e.symm)
theorem OpsSt.step {w W W' : World} {rb k k' : Nat} {v0 v1 : Value} {p : Pool} {bvs : List Value} {pb n : Nat} {v7 : Value} {xs : List Value} (h : OpsSt w W rb k v0 v1 p bvs pb n v7 xs) (hR : Rd W' rb k') (hg : W.grownBy W' (some rb)) : OpsSt w W' rb k' v0 v1 p bvs pb n v7 xs :=
 ⟨h.res.grown hg (fun e => by injection e with e; have := h.l3; omega), h.pool.grown hg (fun e => by injection e with e; have := h.l3; have := h.l2; omega), hR, h.own.rd h.rd hg, row_rd h.row (by decide) h.rd hg, grown_tr h.g hg, h.l2, h.l3⟩
theorem OpsSt.bel {w W W' : World} {rb k : Nat} {v0 v1 : Value} {p : Pool} {bvs : List Value} {pb n : Nat} {v7 : Value} {xs : List Value} (h : OpsSt w W rb k v0 v1 p bvs pb n v7 xs) (hb : Bel W W') : OpsSt w W' rb k v0 v1 p bvs pb n v7 xs :=
 ⟨h.res.bel hb, h.pool.bel hb, h.rd.bel hb, h.own.bel hb, pw_own_below h.row hb, grown_tr h.g (grown_of_bel hb _), h.l2, h.l3⟩
theorem OpsSt.turn {w W : World} {rb k : Nat} {v0 v1 u0 u1 : Value} {p q : Pool} {bvs bvq : List Value} {pb n : Nat} {v7 : Value} {xs : List Value} (h : OpsSt w W rb k v0 v1 p bvs pb n v7 xs) (hq : OwnP W w.heap.size u0 u1 q bvq) : OpsSt w ((W.setCell ⟨pb, 0, none⟩ u0).setCell ⟨pb, 1, none⟩ u1) rb k u0 u1 q bvq pb n v7 xs := by
 have hp1 := h.pool.set 0 u0 (cs' := #[u0, v1]) rfl
 have hlt : rb < pb := Nat.lt_trans h.l3 h.l2
 exact ⟨(h.res.apart (by have := h.l2; omega) 0 u0).apart (by have := h.l2; omega) 1 u1, hp1.set 1 u1 rfl, (h.rd.set hlt 0 u0).set hlt 1 u1, (hq.far h.pool (by decide) (by decide) (by decide) 0 u0).far hp1 (by decide) (by decide) (by decide) 1 u1,
  own_setCell (p := ⟨pb, 1, none⟩) (own_setCell (p := ⟨pb, 0, none⟩) h.row (own_ne h.row h.pool (by decide)) u0) (own_ne (own_setCell (p := ⟨pb, 0, none⟩) h.row (own_ne h.row h.pool (by decide)) u0) hp1 (by decide)) u1, grown_new (grown_new h.g (Nat.le_of_lt h.l2) 0 u0) (Nat.le_of_lt h.l2) 1 u1, h.l2, h.l3⟩
structure OpsO (w W : World) (rb k : Nat) (v0 v1 : Value) (p : Pool) (bvs : List Value) (pb n : Nat) (v7 : Value) (xs : List Value) (ob : Nat) (o : Op) : Prop where
  st : OpsSt w W rb k v0 v1 p bvs pb n v7 xs
  op : Blk W ob (opCs o) 27
theorem OpsO.bel {w W W' : World} {rb k : Nat} {v0 v1 : Value} {p : Pool} {bvs : List Value} {pb n : Nat} {v7 : Value} {xs : List Value} {ob : Nat} {o : Op} (h : OpsO w W rb k v0 v1 p bvs pb n v7 xs ob o) (hb : Bel W W') : OpsO w W' rb k v0 v1 p bvs pb n v7 xs ob o := ⟨h.st.bel hb, h.op.bel hb⟩
def OpsOut (rb k d : Nat) (w : World) (e : Ending) (w' : World) : Prop := ∃ (v7 v0 v1 : Value) (p : Pool) (bvs : List Value), e = .returned (.tuple #[v7, .agg #[v0, v1]]) ∧ PoolP p ∧ OwnP w' w.heap.size v0 v1 p bvs ∧ Rd w' rb (k + d) ∧ w.grownBy w' (some rb)
def OpsOut2 (rb k d n : Nat) (w : World) (e : Ending) (w' : World) : Prop := ∃ (v7 v0 v1 : Value) (p : Pool) (bvs : List Value) (os : List Op), e = .returned (.tuple #[v7, .agg #[v0, v1]]) ∧ (PoolP p ∧ runP newP os = some p ∧ os.length ≤ n ∧ ∀ x ∈ os, SmallO x) ∧ OwnO w' w.heap.size v7 os ∧ OwnP w' w.heap.size v0 v1 p bvs ∧ Rd w' rb (k + d) ∧ w.grownBy w' (some rb)
structure OpsX (os : List Op) (m : Nat) (xs : List Value) (p : Pool) : Prop where
  len : os.length = m
  xs : xs = os.flatMap encO
  op : ∀ x ∈ os, SmallO x
  run : runP newP os = some p
theorem OpsX.snoc {os : List Op} {m : Nat} {xs : List Value} {p q : Pool} {o : Op} (h : OpsX os m xs p) (ho : SmallO o) (hok : opOk o = true) (hq : (opF p o).getD p = q) (hs : (opF p o).isSome = true) : OpsX (os ++ [o]) (m + 1) (xs ++ [.int .i64 o.kind, .string o.name, .string o.dest, .int .i64 o.n, .string o.text]) q := by
 obtain ⟨q', hq'⟩ := Option.isSome_iff_exists.1 hs
 rw [hq'] at hq
 obtain rfl : q' = q := hq
 refine ⟨by rw [List.length_append, h.len]; rfl, by rw [h.xs, List.flatMap_append]; rfl, fun x hx => ?_, ?_⟩
 ·rcases List.mem_append.1 hx with hx | hx
  ·exact h.op x hx
  ·rw [List.mem_singleton.1 hx]; exact ho
 ·rw [runP_snoc, h.run]
  show opR p o = _
  unfold opR
  rw [if_pos hok, hq']
end Go.Proofs.YtccllgpaafgjaaaGreat

namespace Go.Proofs.YtccllgpaafgjaaaGreat
end Go.Proofs.YtccllgpaafgjaaaGreat

namespace Go.Proofs.YtccllgpaafgjaaaGreat
open Go.RowKit Go.Proofs.YtccllgpaafgjaaaGreatW.PrintWords Go.Proofs.YtccllgpaafgjaaaGreatW.PrintLast
structure DrawnP (p : Pool) : Prop where
  small : SmallP p
  sl : p.slots.length = 8
  vl : p.vols.length ≤ 5
theorem PoolP.drawn {p : Pool} (h : PoolP p) : DrawnP p := ⟨h.small, h.s.len, by have := h.v.len; omega⟩
theorem DrawnP.setU {p : Pool} (h : DrawnP p) {m : Nat} {x : Slot} (hx : p.slots[m]? = some x) (u : Int) : DrawnP ⟨p.slots.set m ⟨x.text, u⟩, p.vols⟩ :=
 ⟨⟨⟨by rw [List.length_set]; exact h.small.slots.len, fun y hy => by
  rcases List.mem_or_eq_of_mem_set hy with hy | rfl
  ·exact h.small.slots.text y hy
  ·exact h.small.slots.text x (List.mem_of_getElem? hx)⟩, h.small.vols⟩, by show (p.slots.set m _).length = 8; rw [List.length_set]; exact h.sl, h.vl⟩
theorem DrawnP.setB {p : Pool} (h : DrawnP p) {m : Nat} {x : Vol} (hx : p.vols[m]? = some x) (b : Int) : DrawnP ⟨p.slots, p.vols.set m ⟨x.name, x.blocks.set 0 b⟩⟩ := by
 have hs := h.small.vols
 refine ⟨⟨h.small.slots, ⟨by rw [List.length_set]; exact hs.len, fun y hy => ?_, fun y hy => ?_⟩⟩, h.sl, by show (p.vols.set m _).length ≤ 5; rw [List.length_set]; exact h.vl⟩
 ·rcases List.mem_or_eq_of_mem_set hy with hy | rfl
  ·exact hs.blocks y hy
  ·show (x.blocks.set 0 b).length ≤ _
   rw [List.length_set]; exact hs.blocks x (List.mem_of_getElem? hx)
 ·rcases List.mem_or_eq_of_mem_set hy with hy | rfl
  ·exact hs.name y hy
  ·exact hs.name x (List.mem_of_getElem? hx)
def PoolOut (rb k d : Nat) (w : World) (e : Ending) (w' : World) : Prop := ∃ (v0 v1 : Value) (p : Pool) (bvs : List Value), e = .returned (.agg #[v0, v1]) ∧ DrawnP p ∧ OwnP w' w.heap.size v0 v1 p bvs ∧ Rd w' rb (k + d) ∧ w.grownBy w' (some rb)
end Go.Proofs.YtccllgpaafgjaaaGreat

namespace Go.Proofs.YtccllgpaafgjaaaGreat
open Go.RowKit Go.Proofs.YtccllgpaafgjaaaGreatW.PrintWords Go.Proofs.YtccllgpaafgjaaaGreatW.PrintLast
theorem OwnT.rd {w w' : World} {base : Nat} {v : Value} {os : List Op} (h : OwnT w base v os) {rb k : Nat} (hR : Rd w rb k) (hg : w.grownBy w' (some rb)) : OwnT w' base v os := by
 obtain ⟨A, c, bs, q, hB, _⟩ := hR.h
 refine h.kept hg fun k hk e => ?_
 injection e with e
 subst e
 obtain ⟨_, _, cs', hc⟩ := h.base _ hk
 have h2 := hB.symm.trans hc
 injection h2 with h2
 injection h2 with _ h2
 exact absurd h2 (by decide)
theorem OwnT.lower {w : World} {b b' : Nat} {v : Value} {os : List Op} (h : OwnT w b v os) (hb : b' ≤ b) : OwnT w b' v os := by
 rcases h with ⟨rfl, A, rfl, ha⟩ | ⟨g, cap, pre, rfl, hpl, ho⟩
 ·exact .inl ⟨rfl, A, rfl, fun a e => ⟨Nat.le_trans hb (ha a e).1, (ha a e).2⟩⟩
 ·exact .inr ⟨g, cap, pre, rfl, hpl, own_lower ho hb⟩
theorem blk_otherT {w : World} {b2 : Nat} {v2 : Value} {os : List Op} (h2 : OwnT w b2 v2 os) {b : Nat} {cs : Array Value} {t : TypeId} (hB : Blk w b cs t) (hne : 27 ≠ t) : some b ≠ v2.ownBlock := fun e => by
 obtain ⟨_, _, c2, hc2⟩ := h2.base b e.symm
 have h3 := hB.symm.trans hc2
 injection h3 with h3
 injection h3 with _ h3
 exact hne h3.symm
structure DrawnL (l : Log) (n : Nat) : Prop where
  small : SmallL l
  len : l.ops.length ≤ n
theorem DrawnL.safe {l : Log} {n : Nat} (h : DrawnL l n) (s : Int) : DrawnL ⟨l.base, l.ops, s⟩ n := ⟨⟨h.small.base, h.small.ops⟩, h.len⟩
theorem DrawnL.snoc {l : Log} {n : Nat} (h : DrawnL l n) (hn : n ≤ 1000) {o : Op} (ho : SmallO o) : DrawnL ⟨l.base, l.ops ++ [o], l.safe⟩ (n + 1) := by
 have hl := h.len
 have e : (l.ops ++ [o]).length = l.ops.length + 1 := by rw [List.length_append]; rfl
 refine ⟨⟨h.small.base, ⟨by show (l.ops ++ [o]).length ≤ _; omega, fun x hx => ?_⟩⟩, by show (l.ops ++ [o]).length ≤ _; omega⟩
 rcases List.mem_append.1 hx with hx | hx
 ·exact h.small.ops.op x hx
 ·rw [List.mem_singleton.1 hx]; exact ho
structure LgSt (w W : World) (rb k : Nat) (v0 v1 v2 : Value) (l : Log) (bvs : List Value) (lb : Nat) : Prop where
  res : Blk W w.heap.size #[.slice none 0 0, .slice none 0 0, .slice none 0 0, .int .i64 0] 44
  var : Blk W lb #[v0, v1, v2, .int .i64 l.safe] 44
  rd : Rd W rb k
  own : OwnP W w.heap.size v0 v1 l.base bvs
  ops : OwnT W w.heap.size v2 l.ops
  g : w.grownBy W (some rb)
  l2 : w.heap.size < lb
  l3 : rb < w.heap.size
section
variable {w W W' : World} {rb k k' lb : Nat} {v0 v1 v2 : Value} {l : Log} {bvs : List Value}
theorem LgSt.step (h : LgSt w W rb k v0 v1 v2 l bvs lb) (hR : Rd W' rb k') (hg : W.grownBy W' (some rb)) : LgSt w W' rb k' v0 v1 v2 l bvs lb :=
 ⟨h.res.grown hg (fun e => by injection e with e; have := h.l3; omega), h.var.grown hg (fun e => by injection e with e; have := h.l3; have := h.l2; omega), hR, h.own.rd h.rd hg, h.ops.rd h.rd hg, grown_tr h.g hg, h.l2, h.l3⟩
theorem LgSt.bel (h : LgSt w W rb k v0 v1 v2 l bvs lb) (hb : Bel W W') : LgSt w W' rb k v0 v1 v2 l bvs lb :=
 ⟨h.res.bel hb, h.var.bel hb, h.rd.bel hb, h.own.bel hb, h.ops.bel hb, grown_tr h.g (grown_of_bel hb _), h.l2, h.l3⟩
end
def LogOut (rb k d n : Nat) (w : World) (e : Ending) (w' : World) : Prop := ∃ (v0 v1 v2 : Value) (l : Log) (bvs : List Value), e = .returned (.agg #[v0, v1, v2, .int .i64 l.safe]) ∧ DrawnL l n ∧ OwnP w' w.heap.size v0 v1 l.base bvs ∧ OwnT w' w.heap.size v2 l.ops ∧ Rd w' rb (k + d) ∧ w.grownBy w' (some rb)
theorem LgSt.out {w W : World} {rb k k' lb n d : Nat} {v0 v1 v2 : Value} {l : Log} {bvs : List Value} (h : LgSt w W rb k v0 v1 v2 l bvs lb) (hl : DrawnL l n) (hd : k ≤ k' + d) : LogOut rb k' d n w (.returned (.agg #[v0, v1, v2, .int .i64 l.safe])) (wset4 W w.heap.size v0 v1 v2 (.int .i64 l.safe)) := by
 have hlt := h.l3
 refine ⟨v0, v1, v2, l, bvs, rfl, hl, h.own.far4 h.res _ _ _ _, h.ops.far4 h.res _ _ _ _, ((((h.rd.set hlt 0 _).set hlt 1 _).set hlt 2 _).set hlt 3 _).more hd, ?_⟩
 exact grown_new (grown_new (grown_new (grown_new h.g (Nat.le_refl _) 0 _) (Nat.le_refl _) 1 _) (Nat.le_refl _) 2 _) (Nat.le_refl _) 3 _
end Go.Proofs.YtccllgpaafgjaaaGreat

namespace Go.Proofs.YtccllgpaafgjaaaGreat
open Go.RowKit Go.Proofs.YtccllgpaafgjaaaGreatW.PrintWords
end Go.Proofs.YtccllgpaafgjaaaGreat

namespace Go.Proofs.YtccllgpaafgjaaaGreat
open Go.RowKit Go.Proofs.YtccllgpaafgjaaaGreatW.PrintWords
end Go.Proofs.YtccllgpaafgjaaaGreat

namespace Go.Proofs.YtccllgpaafgjaaaGreat
open Go.RowKit Go.Proofs.YtccllgpaafgjaaaGreatW.PrintWords
def blksOf (vs : List Vol) (t : ByteArray) : List Int := if volIdx vs t < 0 then [] else (volAt vs (volIdx vs t)).blocks
theorem lgBlks_len (vs : List Vol) (t : ByteArray) : lgBlks vs t = (blksOf vs t).length := by unfold lgBlks blksOf; split <;> rfl
/-! ### pieces -/
def pc (s : List Slot) (pl : Int) : ByteArray := if 0 < pl then slotText s pl else e0
def pieces (p : Pool) (t : ByteArray) : List ByteArray := (blksOf p.vols t).map (pc p.slots)
def Keeps (s t : List Slot) : Prop := ∀ (m : Nat) (y : Slot), t[m]? = some y → ∃ x, s[m]? = some x ∧ (y.text = x.text ∨ y.uses = 0)
theorem Keeps.refl (s : List Slot) : Keeps s s := fun m y hy => ⟨y, hy, .inl rfl⟩
/-! ### the four changes -/
def freeP (p : Pool) (name : ByteArray) (b : Int) (i : Nat) (v : Vol) : Pool := ⟨backS p name b, p.vols.set i ⟨name, v.blocks.set b.toNat 0⟩⟩
/-! ### reading -/
def RdEq (a : Pool) (x : ByteArray) (b : Pool) (y : ByteArray) : Prop := lgBlks a.vols x = lgBlks b.vols y ∧ ∀ i : Nat, (i : Int) < lgBlks a.vols x → readOk a x i = true ∧ readOk b y i = true ∧ readV a x i = readV b y i
def OthEq (a b : Pool) (n : ByteArray) : Prop := ∀ x ∈ a.vols, x.name ≠ n → RdEq a x.name b x.name
end Go.Proofs.YtccllgpaafgjaaaGreat

namespace Go.Proofs.YtccllgpaafgjaaaGreat
open Go.RowKit Go.Proofs.YtccllgpaafgjaaaGreatW.PrintWords
/-! ### free places -/
theorem PoolP.free {p : Pool} (h : PoolP p) : storeFree p.slots = freeN p.slots := storeFree_yes (storeOk_iff.2 h.s)
/-! ### a clone that is gone -/
/-! ### rows by name -/
theorem sorted_ext {α : Type} {f : α → Nat} : ∀ (vs ws : List α), vs.Pairwise (fun a b => f a < f b) → ws.Pairwise (fun a b => f a < f b) → (∀ x, x ∈ vs ↔ x ∈ ws) → vs = ws
 | [], [], _, _, _ => rfl
 | [], b :: ws, _, _, h => by have := (h b).2 List.mem_cons_self; cases this
 | a :: vs, [], _, _, h => by have := (h a).1 List.mem_cons_self; cases this
 | a :: vs, b :: ws, h1, h2, h => by
  have h3 := List.pairwise_cons.1 h1
  have h4 := List.pairwise_cons.1 h2
  have e : a = b := by
   rcases List.mem_cons.1 ((h a).1 List.mem_cons_self) with e | e
   ·exact e
   ·rcases List.mem_cons.1 ((h b).2 List.mem_cons_self) with e2 | e2
    ·exact e2.symm
    ·have := h3.1 b e2; have := h4.1 a e; omega
  subst e
  rw [sorted_ext vs ws h3.2 h4.2 fun x => ⟨fun hx => by
   rcases List.mem_cons.1 ((h x).1 (List.mem_cons_of_mem _ hx)) with e | e
   ·subst e; have := h3.1 x hx; omega
   ·exact e, fun hx => by
   rcases List.mem_cons.1 ((h x).2 (List.mem_cons_of_mem _ hx)) with e | e
   ·subst e; have := h4.1 x hx; omega
   ·exact e⟩]
theorem VolsP.pw {vs : List Vol} (h : VolsP vs) : vs.Pairwise (fun a b => nmN a.name < nmN b.name) := by
 rw [List.pairwise_iff_getElem]
 intro i j hi hj hij
 exact h.sort i j _ _ hij (List.getElem?_eq_getElem hi) (List.getElem?_eq_getElem hj)
theorem VolsP.ext {vs ws : List Vol} (h1 : VolsP vs) (h2 : VolsP ws) (h : ∀ x, x ∈ vs ↔ x ∈ ws) : vs = ws := sorted_ext vs ws h1.pw h2.pw h
/-! ### two volumes made -/
/-! ### all gone -/
/-! ### room for a piece -/
theorem hasBlk_iff {vs : List Vol} (h : VolsP vs) {t : ByteArray} {b : Int} : 0 ≤ hasBlk vs t b ↔ 0 ≤ b ∧ b < (blksOf vs t).length := by
 unfold hasBlk blksOf
 by_cases hv : volIdx vs t < 0
 ·rw [if_pos hv, if_pos hv]; simp
 ·rw [if_neg hv, if_neg hv]
  cases hr : inR b 0 ((volAt vs (volIdx vs t)).blocks.length - 1)
  ·rw [inR_no] at hr
   simp only [Bool.false_eq_true, if_false]
   omega
  ·rw [inR_iff] at hr
   rw [if_pos rfl]
   omega
theorem PoolP.wr {p : Pool} (h : PoolP p) {t : ByteArray} {b : Int} (h0 : 0 ≤ b) (h1 : b < lgBlks p.vols t) : ∃ i v x, Wr p t b i v x :=
 hasBlk_wr ((hasBlk_iff h.v).2 ⟨h0, by rw [lgBlks_len] at h1; exact h1⟩)
def there (s : List Slot) (t : ByteArray) : Bool := decide (0 ≤ idx (fun o : Slot => o.text.toList == t.toList) s)
/-! the places behind a block's piece given back -/
end Go.Proofs.YtccllgpaafgjaaaGreat

namespace Go.Proofs.YtccllgpaafgjaaaGreat
open Go.RowKit Go.Proofs.YtccllgpaafgjaaaGreatW.PrintWords
end Go.Proofs.YtccllgpaafgjaaaGreat

namespace Go.Proofs.YtccllgpaafgjaaaGreat
open Go.RowKit Go.Proofs.YtccllgpaafgjaaaGreatW.PrintWords
/-! ### texts -/
def spB : ByteArray := ⟨#[32]⟩
def dashB : ByteArray := ⟨#[45]⟩
def nlB : ByteArray := ⟨#[10]⟩
def blkT (s : List Slot) (pl : Int) : ByteArray := if 0 < pl ∧ 0 < (s.getD (pl - 1).toNat Slot.z).uses then slotText s pl else dashB
def volRun (s : List Slot) (a : ByteArray) (bs : List Int) : ByteArray := bs.foldl (fun a pl => a ++ (spB ++ blkT s pl)) a
def volT (v : Vol) (s : List Slot) : ByteArray := if volOk v && storeOk s then volRun s v.name v.blocks else e0
def poolRun (s : List Slot) (a : ByteArray) (vs : List Vol) : ByteArray := vs.foldl (fun a v => a ++ (volT v s ++ nlB)) a
def poolT (p : Pool) : ByteArray := if poolOk p then poolRun p.slots e0 p.vols else e0
def tagT (t : ByteArray) (ps : List ByteArray) : ByteArray := ps.foldl (fun a x => a ++ (spB ++ if x = e0 then dashB else x)) t
def tags (p : Pool) : List (ByteArray × List ByteArray) := p.vols.map fun v => (v.name, v.blocks.map (pc p.slots))
/-! ### changes -/
def opPieces (o : Op) (f : ByteArray → List ByteArray) (t : ByteArray) : List ByteArray :=
 if o.kind = 1 then (if t = o.name then List.replicate o.n.toNat e0 else f t)
 else if o.kind = 2 then (if t = o.name then (f o.name).set o.n.toNat o.text else f t)
 else if o.kind = 3 then (if t = o.dest then f o.name else f t)
 else (if t = o.name then [] else f t)
/-! ### how many pieces -/
def kstep (seen : List ByteArray) (t : ByteArray) : List ByteArray := if (t.toList == []) || seen.any (fun o => o.toList == t.toList) then seen else seen ++ [t]
def usedT : List Slot → List ByteArray
 | [] => []
 | x :: s => if x.uses = 0 then usedT s else x.text :: usedT s
def allT (p : Pool) (vs : List Vol) : List ByteArray := vs.flatMap fun v => pieces p v.name
end Go.Proofs.YtccllgpaafgjaaaGreat

namespace Go.Proofs.YtccllgpaafgjaaaGreat
open Go.RowKit Go.Proofs.YtccllgpaafgjaaaGreatW.PrintWords
end Go.Proofs.YtccllgpaafgjaaaGreat

namespace Go.Proofs.YtccllgpaafgjaaaGreat
open Go.RowKit Go.Proofs.YtccllgpaafgjaaaGreatW.PrintWords
end Go.Proofs.YtccllgpaafgjaaaGreat

namespace Go.Proofs.YtccllgpaafgjaaaGreat
open Go.RowKit Go.Proofs.YtccllgpaafgjaaaGreatW.PrintWords Go.Proofs.YtccllgpaafgjaaaGreatW.PrintLast
def NameV (v : Value) : Prop := ∃ s : ByteArray, v = .string s ∧ s.size ≤ 1048576
structure NmSt (w W : World) (rb k base : Nat) (v0 v1 : Value) (p : Pool) (bvs : List Value) : Prop where
  box : Blk W w.heap.size #[v0, v1] 42
  rd : Rd W rb k
  own : OwnP W base v0 v1 p bvs
  g : w.grownBy W (some rb)
  l3 : rb < w.heap.size
theorem NmSt.step {w W W' : World} {rb k k' base : Nat} {v0 v1 : Value} {p : Pool} {bvs : List Value} (h : NmSt w W rb k base v0 v1 p bvs) (hR : Rd W' rb k') (hg : W.grownBy W' (some rb)) : NmSt w W' rb k' base v0 v1 p bvs :=
 ⟨h.box.grown hg (fun e => by injection e with e; have := h.l3; omega), hR, h.own.rd h.rd hg, grown_tr h.g hg, h.l3⟩
theorem NmSt.bel {w W W' : World} {rb k base : Nat} {v0 v1 : Value} {p : Pool} {bvs : List Value} (h : NmSt w W rb k base v0 v1 p bvs) (hb : Bel W W') : NmSt w W' rb k base v0 v1 p bvs :=
 ⟨h.box.bel hb, h.rd.bel hb, h.own.bel hb, grown_tr h.g (grown_of_bel hb _), h.l3⟩
def five : List ByteArray := [sOf [65], sOf [66], sOf [67], sOf [68], sOf [69]]
end Go.Proofs.YtccllgpaafgjaaaGreat

namespace Go.Proofs.YtccllgpaafgjaaaGreat
open Go.RowKit Go.Proofs.YtccllgpaafgjaaaGreatW.PrintWords Go.Proofs.YtccllgpaafgjaaaGreatW.PrintLast
theorem bel_of_grown {w w1 w2 : World} (h : Bel w w1) {rb : Nat} (hg : w1.grownBy w2 (some rb)) (hr : w.heap.size ≤ rb) : Bel w w2 := h.grown hg h.size (fun k e => by injection e with e; omega)
def DrewT (w : World) (e : Ending) (w' : World) : Prop := ∃ (v0 v1 : Value) (p : Pool) (bvs : List Value), e = .returned (.agg #[v0, v1]) ∧ DrawnP p ∧ OwnP w' w.heap.size v0 v1 p bvs ∧ Bel w w'
structure DrSt (w W : World) (rb k : Nat) (v0 v1 : Value) (p : Pool) (bvs : List Value) (pb : Nat) : Prop where
  res : Blk W w.heap.size #[.slice none 0 0, .slice none 0 0] 42
  pool : Blk W pb #[v0, v1] 42
  rd : Rd W rb k
  own : OwnP W w.heap.size v0 v1 p bvs
  bel : Bel w W
  l1 : w.heap.size < rb
  l2 : rb < pb
theorem DrSt.step {w W W' : World} {rb k k' : Nat} {v0 v1 : Value} {p : Pool} {bvs : List Value} {pb : Nat} (h : DrSt w W rb k v0 v1 p bvs pb) (hR : Rd W' rb k') (hg : W.grownBy W' (some rb)) : DrSt w W' rb k' v0 v1 p bvs pb :=
 ⟨h.res.grown hg (fun e => by injection e with e; have := h.l1; omega), h.pool.grown hg (fun e => by injection e with e; have := h.l2; omega), hR, h.own.rd h.rd hg, bel_of_grown h.bel hg (Nat.le_of_lt h.l1), h.l1, h.l2⟩
theorem DrSt.below {w W W' : World} {rb k : Nat} {v0 v1 : Value} {p : Pool} {bvs : List Value} {pb : Nat} (h : DrSt w W rb k v0 v1 p bvs pb) (hb : Bel W W') : DrSt w W' rb k v0 v1 p bvs pb :=
 ⟨h.res.bel hb, h.pool.bel hb, h.rd.bel hb, h.own.bel hb, h.bel.tr hb, h.l1, h.l2⟩
def DrewG (w : World) (e : Ending) (w' : World) : Prop := ∃ (v0 v1 : Value) (p : Pool) (bvs : List Value) (s : ByteArray), e = .returned (.tuple #[.agg #[v0, v1], .string s]) ∧ s.size ≤ 1048576 ∧ DrawnP p ∧ OwnP w' w.heap.size v0 v1 p bvs ∧ Bel w w'
end Go.Proofs.YtccllgpaafgjaaaGreat

namespace Go.Proofs.YtccllgpaafgjaaaGreat
open Go.RowKit Go.Proofs.YtccllgpaafgjaaaGreatW.PrintWords Go.Proofs.YtccllgpaafgjaaaGreatW.PrintLast
def eight : List ByteArray := [sOf [65], sOf [66], sOf [67], sOf [68], sOf [68], sOf [67], sOf [69], sOf []]
def DrewM (w : World) (e : Ending) (w' : World) : Prop := ∃ (v0 v1 : Value) (p : Pool) (bvs : List Value) (s : ByteArray) (n : Int), e = .returned (.tuple #[.agg #[v0, v1], .string s, .int .i64 n]) ∧ s ∈ eight ∧ 1 ≤ n ∧ n ≤ 100 ∧ DrawnP p ∧ OwnP w' w.heap.size v0 v1 p bvs ∧ Bel w w'
end Go.Proofs.YtccllgpaafgjaaaGreat

namespace Go.Proofs.YtccllgpaafgjaaaGreat
open Go.RowKit Go.Proofs.YtccllgpaafgjaaaGreatW.PrintWords Go.Proofs.YtccllgpaafgjaaaGreatW.PrintLast
def DrewC (w : World) (e : Ending) (w' : World) : Prop := ∃ (v0 v1 : Value) (p : Pool) (bvs : List Value) (s d : ByteArray), e = .returned (.tuple #[.agg #[v0, v1], .string s, .string d]) ∧ s.size ≤ 1048576 ∧ d ∈ five ∧ DrawnP p ∧ OwnP w' w.heap.size v0 v1 p bvs ∧ Bel w w'
end Go.Proofs.YtccllgpaafgjaaaGreat

namespace Go.Proofs.YtccllgpaafgjaaaGreat
open Go.RowKit Go.Proofs.YtccllgpaafgjaaaGreatW.PrintWords
def four : List ByteArray := [sOf [97], sOf [98, 99, 100], sOf [], sOf [100, 100]]
def fourB : List ByteArray := [sOf [97], sOf [98, 98], sOf [], sOf [99, 100]]
/-! ### gone -/
/-! ### make -/
/-! ### clone -/
/-! ### write -/
end Go.Proofs.YtccllgpaafgjaaaGreat

namespace Go.Proofs.YtccllgpaafgjaaaGreat
open Go.RowKit Go.Proofs.YtccllgpaafgjaaaGreatW.PrintWords Go.Proofs.YtccllgpaafgjaaaGreatW.PrintLast
def DrewW (w : World) (e : Ending) (w' : World) : Prop := ∃ (v0 v1 : Value) (p : Pool) (bvs : List Value) (s : ByteArray) (n : Int) (tx : ByteArray), e = .returned (.tuple #[.agg #[v0, v1], .string s, .int .i64 n, .string tx]) ∧ s.size ≤ 1048576 ∧ -100 ≤ n ∧ n ≤ 100 ∧ tx.size ≤ 1048576 ∧ DrawnP p ∧ OwnP w' w.heap.size v0 v1 p bvs ∧ Bel w w'
end Go.Proofs.YtccllgpaafgjaaaGreat

namespace Go.Proofs.YtccllgpaafgjaaaGreat
open Go.RowKit Go.Proofs.YtccllgpaafgjaaaGreatW.PrintWords
def NewP (w : World) (q : Pool) (ok : Bool) (e : Ending) (w' : World) : Prop := ∃ A0 A1 c0 c1, e = .returned (.tuple #[.agg #[.slice A0 q.slots.length c0, .slice A1 q.vols.length c1], .bool ok]) ∧ PoolIn w' A0 A1 c0 c1 q ∧ Bel w w'
theorem MadePB.new {w : World} {q : Pool} {ok : Bool} {e : Ending} {w' : World} (h : MadePB w q ok e w') : NewP w q ok e w' := by
 obtain ⟨v0, v1, bvs, rfl, ho, hb⟩ := h
 obtain ⟨A0, A1, c0, c1, rfl, rfl, hi⟩ := ho.reads
 exact ⟨A0, A1, c0, c1, rfl, hi, hb⟩
structure PVar (w : World) (b : Nat) (A0 A1 : Option Addr) (c0 c1 : Nat) (q : Pool) : Prop where
  blk : Blk w b #[.slice A0 q.slots.length c0, .slice A1 q.vols.length c1] 42
  inn : PoolIn w A0 A1 c0 c1 q
theorem PVar.bel {w w' : World} {b : Nat} {A0 A1 : Option Addr} {c0 c1 : Nat} {q : Pool} (h : PVar w b A0 A1 c0 c1 q) (hb : Bel w w') : PVar w' b A0 A1 c0 c1 q := ⟨h.blk.bel hb, h.inn.bel hb⟩
theorem PVar.new {w : World} {A0 A1 : Option Addr} {c0 c1 : Nat} {q : Pool} (h : PoolIn w A0 A1 c0 c1 q) : PVar (w.alloc (.cells #[.slice A0 q.slots.length c0, .slice A1 q.vols.length c1] 42)) w.heap.size A0 A1 c0 c1 q := ⟨Blk.new _ _ _, h.alloc _⟩
theorem PVar.c0 {w : World} {b : Nat} {A0 A1 : Option Addr} {c0 c1 : Nat} {q : Pool} (h : PVar w b A0 A1 c0 c1 q) : w.cell? ⟨b, 0, none⟩ = some (.slice A0 q.slots.length c0) := by have := h.blk.cell 0; simpa using this
theorem PVar.c1 {w : World} {b : Nat} {A0 A1 : Option Addr} {c0 c1 : Nat} {q : Pool} (h : PVar w b A0 A1 c0 c1 q) : w.cell? ⟨b, 1, none⟩ = some (.slice A1 q.vols.length c1) := by have := h.blk.cell 1; simpa using this
theorem PVar.lt {w : World} {b : Nat} {A0 A1 : Option Addr} {c0 c1 : Nat} {q : Pool} (h : PVar w b A0 A1 c0 c1 q) : b < w.heap.size := h.blk.lt
/-! ### cases of a change -/
section
variable {w : World} {A0 A1 : Option Addr} {c0 c1 : Nat} {p q : Pool} {ok : Bool}
abbrev poolV (A0 A1 : Option Addr) (c0 c1 : Nat) (p : Pool) : Value := .agg #[.slice A0 p.slots.length c0, .slice A1 p.vols.length c1]
end
/-! ### drawn pools -/
def DrewG' (w : World) (e : Ending) (w' : World) : Prop := ∃ A0 A1 c0 c1, ∃ (p : Pool) (s : ByteArray), e = .returned (.tuple #[.agg #[.slice A0 p.slots.length c0, .slice A1 p.vols.length c1], .string s]) ∧ s.size ≤ 1048576 ∧ DrawnP p ∧ PoolIn w' A0 A1 c0 c1 p ∧ Bel w w'
theorem DrewG.new {w : World} {e : Ending} {w' : World} (h : DrewG w e w') : DrewG' w e w' := by
 obtain ⟨v0, v1, p, bvs, s, rfl, hs, hp, ho, hb⟩ := h
 obtain ⟨A0, A1, c0, c1, rfl, rfl, hi⟩ := ho.reads
 exact ⟨A0, A1, c0, c1, p, s, rfl, hs, hp, hi, hb⟩
def DrewT' (w : World) (e : Ending) (w' : World) : Prop := ∃ A0 A1 c0 c1, ∃ (p : Pool), e = .returned (.agg #[.slice A0 p.slots.length c0, .slice A1 p.vols.length c1]) ∧ DrawnP p ∧ PoolIn w' A0 A1 c0 c1 p ∧ Bel w w'
theorem DrewT.new {w : World} {e : Ending} {w' : World} (h : DrewT w e w') : DrewT' w e w' := by
 obtain ⟨v0, v1, p, bvs, rfl, hp, ho, hb⟩ := h
 obtain ⟨A0, A1, c0, c1, rfl, rfl, hi⟩ := ho.reads
 exact ⟨A0, A1, c0, c1, p, rfl, hp, hi, hb⟩
def DrewM' (w : World) (e : Ending) (w' : World) : Prop := ∃ A0 A1 c0 c1, ∃ (p : Pool) (s : ByteArray) (n : Int), e = .returned (.tuple #[.agg #[.slice A0 p.slots.length c0, .slice A1 p.vols.length c1], .string s, .int .i64 n]) ∧ s ∈ eight ∧ 1 ≤ n ∧ n ≤ 100 ∧ DrawnP p ∧ PoolIn w' A0 A1 c0 c1 p ∧ Bel w w'
theorem DrewM.new {w : World} {e : Ending} {w' : World} (h : DrewM w e w') : DrewM' w e w' := by
 obtain ⟨v0, v1, p, bvs, s, n, rfl, hs, h1, h2, hp, ho, hb⟩ := h
 obtain ⟨A0, A1, c0, c1, rfl, rfl, hi⟩ := ho.reads
 exact ⟨A0, A1, c0, c1, p, s, n, rfl, hs, h1, h2, hp, hi, hb⟩
def DrewC' (w : World) (e : Ending) (w' : World) : Prop := ∃ A0 A1 c0 c1, ∃ (p : Pool) (s d : ByteArray), e = .returned (.tuple #[.agg #[.slice A0 p.slots.length c0, .slice A1 p.vols.length c1], .string s, .string d]) ∧ s.size ≤ 1048576 ∧ d ∈ five ∧ DrawnP p ∧ PoolIn w' A0 A1 c0 c1 p ∧ Bel w w'
theorem DrewC.new {w : World} {e : Ending} {w' : World} (h : DrewC w e w') : DrewC' w e w' := by
 obtain ⟨v0, v1, p, bvs, s, d, rfl, hs, hd, hp, ho, hb⟩ := h
 obtain ⟨A0, A1, c0, c1, rfl, rfl, hi⟩ := ho.reads
 exact ⟨A0, A1, c0, c1, p, s, d, rfl, hs, hd, hp, hi, hb⟩
def DrewW' (w : World) (e : Ending) (w' : World) : Prop := ∃ A0 A1 c0 c1, ∃ (p : Pool) (s : ByteArray) (n : Int) (tx : ByteArray), e = .returned (.tuple #[.agg #[.slice A0 p.slots.length c0, .slice A1 p.vols.length c1], .string s, .int .i64 n, .string tx]) ∧ s.size ≤ 1048576 ∧ -100 ≤ n ∧ n ≤ 100 ∧ tx.size ≤ 1048576 ∧ DrawnP p ∧ PoolIn w' A0 A1 c0 c1 p ∧ Bel w w'
theorem DrewW.new {w : World} {e : Ending} {w' : World} (h : DrewW w e w') : DrewW' w e w' := by
 obtain ⟨v0, v1, p, bvs, s, n, tx, rfl, hs, h1, h2, ht, hp, ho, hb⟩ := h
 obtain ⟨A0, A1, c0, c1, rfl, rfl, hi⟩ := ho.reads
 exact ⟨A0, A1, c0, c1, p, s, n, tx, rfl, hs, h1, h2, ht, hp, hi, hb⟩
/-! ### StoreFind -/
def findB (s : List Slot) (t : ByteArray) : Bool := storeOk s && (tOk t && !t.toList.isEmpty)
def FoundB (s : List Slot) (t : ByteArray) (w : World) (e : Ending) (w' : World) : Prop := ∃ n : Int, e = .returned (.tuple #[.int .i64 n, .bool (findB s t && there s t)]) ∧ Bel w w'
end Go.Proofs.YtccllgpaafgjaaaGreat

namespace Go.Proofs.YtccllgpaafgjaaaGreat
open Go.RowKit Go.Proofs.YtccllgpaafgjaaaGreatW.PrintWords
def SeenS (W : World) (base : Nat) (v : Value) (seen : List ByteArray) : Prop := W.ownsRow base 9 1 v seen.length (seen.map Value.string)
theorem SeenS.bel {w w' : World} {base : Nat} {v : Value} {s : List ByteArray} (h : SeenS w base v s) (hb : Bel w w') : SeenS w' base v s := pw_own_below h hb
theorem SeenS.reads {w : World} {base : Nat} {v : Value} {s : List ByteArray} (h : SeenS w base v s) : ∃ A c, v = .slice A s.length c ∧ s.length ≤ c ∧ Kd.string.C w A s.length s := by
 have hr : Reps (Kd.string.K w) 1 s (s.map Value.string) := by
  refine ⟨by simp, fun j p hp => ?_⟩
  show _ = [Value.string p]
  rw [Nat.mul_one]
  apply List.ext_getElem?
  intro k
  rw [List.getElem?_take]
  cases k with
  | zero => simp [hp]
  | succ k => simp
 obtain ⟨A, c, e, hr⟩ := own_reads_row h hr rfl
 obtain ⟨A', c', e', hc⟩ := own_cap h
 rw [e] at e'
 injection e' with _ _ e3
 exact ⟨A, c, e, e3 ▸ hc, hr⟩
def seenB (t : ByteArray) (seen : List ByteArray) (m : Nat) : Bool := (t.toList == []) || (seen.take m).any fun o => o.toList == t.toList
end Go.Proofs.YtccllgpaafgjaaaGreat

namespace Go.Proofs.YtccllgpaafgjaaaGreat
open Go.RowKit Go.Proofs.YtccllgpaafgjaaaGreatW.PrintWords Go.Proofs.YtccllgpaafgjaaaGreatW.PrintLast
theorem blk_op5 {w : World} {b : Nat} {o : Op} (hB : Blk w b #[.int .i64 o.kind, .string o.name, .string o.dest, .int .i64 o.n, .string o.text] 27) : ∀ j u, (encO o)[j]? = some u → w.cell? ((⟨b, 0, none⟩ : Addr).add j) = some u := by
 intro j u hj
 rw [Addr.add_lit, Nat.zero_add, hB.cell]
 simpa [encO] using hj
section
variable {w : World} {A B C : Option Addr} {a b c : Nat} {l : Log} {o : Op}
end
end Go.Proofs.YtccllgpaafgjaaaGreat

namespace Go.Proofs.YtccllgpaafgjaaaGreat
open Go.RowKit Go.Proofs.YtccllgpaafgjaaaGreatW.PrintWords Go.Proofs.YtccllgpaafgjaaaGreatW.PrintLast
theorem OwnT.far5 {W : World} {base b : Nat} {v : Value} {s : List Op} (h : OwnT W base v s) {x0 x1 x2 x3 x4 : Value} (hB : Blk W b #[x0, x1, x2, x3, x4] 25) (u0 u1 u2 u3 u4 : Value) : OwnT (wset5 W b u0 u1 u2 u3 u4) base v s := by
 have h1 := hB.set 0 u0 (cs' := #[u0, x1, x2, x3, x4]) rfl
 have h2 := h1.set 1 u1 (cs' := #[u0, u1, x2, x3, x4]) rfl
 have h3 := h2.set 2 u2 (cs' := #[u0, u1, u2, x3, x4]) rfl
 have h4 := h3.set 3 u3 (cs' := #[u0, u1, u2, u3, x4]) rfl
 exact ((((h.far hB (by decide) 0 u0).far h1 (by decide) 1 u1).far h2 (by decide) 2 u2).far h3 (by decide) 3 u3).far h4 (by decide) 4 u4
theorem grown_set5 {w W : World} {r : Option Nat} (h : w.grownBy W r) {b : Nat} (hb : w.heap.size ≤ b) (u0 u1 u2 u3 u4 : Value) : w.grownBy (wset5 W b u0 u1 u2 u3 u4) r := grown_new (grown_new (grown_new (grown_new (grown_new h hb 0 u0) hb 1 u1) hb 2 u2) hb 3 u3) hb 4 u4
theorem tail_append2 {ops rest : List Oper} {P : Array Oper} {o : Oper} {a : Act} {Q : Exit → Act → World → Prop} {W : World} {base : Nat} {v : Value} {os : List Op} (hgd : o.guard = none) (s x : Operand)
  (ho : o.op = .call { callee := .builtin .append, args := #[s, x], argTypes := #[23, 23] }) (hs : a.eval s = v) (y : Op) (ad : Addr) (c : Nat) (hx : a.eval x = .slice (some ad) 1 c)
  (hc : ∀ j u, (encO y)[j]? = some u → W.cell? (ad.add j) = some u) (h : OwnT W base v os) (hl : os.length ≤ 1048576) (hbase : base ≤ W.heap.size)
  (K : ∀ v1 w1, OwnT w1 base v1 (os ++ [y]) → W.grownBy w1 v.ownBlock → (v1.ownBlock = v.ownBlock ∨ ∃ b, v1.ownBlock = some b ∧ W.heap.size ≤ b) → wpList Tryz.prog P Q rest (a.put o.dst v1) w1) :
  wpList Tryz.prog P Q (o :: rest) a W := by
 obtain ⟨v1, w1, hr1, h1, hg, hat⟩ := run_append_tail h o.type y ad c hc hl hbase
 refine wpList_plain hgd fun K' hK => ?_
 unfold Oper.wp execOp
 simp only [ho, resolve, invoke, builtin, Sem.run_bind, Sem.run_pure, Result.andThen_ok, List.map_toArray, List.map_cons, List.map_nil, hs, hx, hr1]
 exact hK _ _ (K v1 w1 h1 hg hat)
def addNB (n : Node) (o : Op) : Bool := match runP newP n.ops with | some q => (opR q o).isSome && decide (n.ops.length < 20) | none => false
def addN (n : Node) (o : Op) : Node := if addNB n o then ⟨n.up, n.term, n.leads, n.alone, n.ops ++ [o]⟩ else n
def AddedN (base : Nat) (w : World) (n : Node) (v0 : Value) (ok : Bool) (e : Ending) (w' : World) : Prop := ∃ v, e = .returned (.tuple #[.agg #[.bool n.up, .int .i64 n.term, .bool n.leads, .bool n.alone, v], .bool ok]) ∧ OwnT w' base v n.ops ∧ w.grownBy w' v0.ownBlock ∧ (v.ownBlock = v0.ownBlock ∨ ∃ b, v.ownBlock = some b ∧ w.heap.size ≤ b) ∧ (ok = false → v = v0)
section
variable {w : World} {A : Option Addr} {c base : Nat} {n : Node} {o : Op}
set_option maxHeartbeats 32000000 in
set_option maxRecDepth 10000 in
theorem l21Add_c {q : Pool} (h : OwnT w base (.slice A n.ops.length c) n.ops) (hbase : base ≤ w.heap.size) (ho : SmallOs n.ops) (hso : SmallO o) (hr : runP newP n.ops = some q) :
  Calls Tryz.prog 170 #[.agg #[.bool n.up, .int .i64 n.term, .bool n.leads, .bool n.alone, .slice A n.ops.length c], .agg #[.int .i64 o.kind, .string o.name, .string o.dest, .int .i64 o.n, .string o.text]] w (AddedN base w (addN n o) (.slice A n.ops.length c) (addNB n o)) := by
 have HT := Lib.hid h
 have HBS := Lib.hid hbase
 have HO := Lib.hid ho
 have HSO := Lib.hid hso
 have HRX := Lib.hid hr
 have HC : Hid (kOp.C w A n.ops.length n.ops) := Lib.hid (by obtain ⟨A', c', e, _, hC⟩ := h.reads; have e := slice_eq e; obtain ⟨rfl, -, rfl⟩ := e; exact hC)
 have hlO := ho.len
 have HQ := Lib.hid (runP_ok _ newP_ok hr)
 obtain ⟨z, hz⟩ : ∃ z, addNB n o = z := ⟨_, rfl⟩
 obtain ⟨xn, hxn⟩ : ∃ x, addN n o = x := ⟨_, rfl⟩
 rw [hz, hxn]
 have HZ := Lib.hid (show ((opR q o).isSome && decide (n.ops.length < 20)) = z by rw [← hz]; unfold addNB; rw [hr])
 have HXN := Lib.hid (show (if z then (⟨n.up, n.term, n.leads, n.alone, n.ops ++ [o]⟩ : Node) else n) = xn by rw [← hxn, ← hz]; rfl)
 have HNP := Lib.hid specPoolNew_c
 obtain ⟨np, hnp⟩ : ∃ np, newP = np := ⟨_, rfl⟩
 obtain ⟨x, hx⟩ : ∃ x, q = x := ⟨_, rfl⟩
 subst hx
 have HRX0 := Lib.hid hr
 rw [hnp] at HNP HRX
 clear h hbase ho hso hr hz hxn
 go_enter Tryz.func170, Tryz.ntmps170
 go_wp2
 have hN : Blk (((w.alloc (.cells #[.bool n.up, .int .i64 n.term, .bool n.leads, .bool n.alone, .slice A n.ops.length c] 25)).alloc (.cells #[.int .i64 o.kind, .string o.name, .string o.dest, .int .i64 o.n, .string o.text] 27)).alloc (.cells #[.bool false, .int .i64 0, .bool false, .bool false, .slice none 0 0] 25)) w.heap.size #[.bool n.up, .int .i64 n.term, .bool n.leads, .bool n.alone, .slice A n.ops.length c] 25 := ((Blk.new _ _ _).alloc _).alloc _
 have hP : Blk (((w.alloc (.cells #[.bool n.up, .int .i64 n.term, .bool n.leads, .bool n.alone, .slice A n.ops.length c] 25)).alloc (.cells #[.int .i64 o.kind, .string o.name, .string o.dest, .int .i64 o.n, .string o.text] 27)).alloc (.cells #[.bool false, .int .i64 0, .bool false, .bool false, .slice none 0 0] 25)) (w.heap.size + 1) #[.int .i64 o.kind, .string o.name, .string o.dest, .int .i64 o.n, .string o.text] 27 := (Blk.nw2 w _ _ _).alloc _
 have hR : Blk (((w.alloc (.cells #[.bool n.up, .int .i64 n.term, .bool n.leads, .bool n.alone, .slice A n.ops.length c] 25)).alloc (.cells #[.int .i64 o.kind, .string o.name, .string o.dest, .int .i64 o.n, .string o.text] 27)).alloc (.cells #[.bool false, .int .i64 0, .bool false, .bool false, .slice none 0 0] 25)) (w.heap.size + 1 + 1) #[.bool false, .int .i64 0, .bool false, .bool false, .slice none 0 0] 25 := by have := Blk.new ((w.alloc (.cells #[.bool n.up, .int .i64 n.term, .bool n.leads, .bool n.alone, .slice A n.ops.length c] 25)).alloc (.cells #[.int .i64 o.kind, .string o.name, .string o.dest, .int .i64 o.n, .string o.text] 27)) #[.bool false, .int .i64 0, .bool false, .bool false, .slice none 0 0] 25; simpa using this
 have hW : Bel w (((w.alloc (.cells #[.bool n.up, .int .i64 n.term, .bool n.leads, .bool n.alone, .slice A n.ops.length c] 25)).alloc (.cells #[.int .i64 o.kind, .string o.name, .string o.dest, .int .i64 o.n, .string o.text] 27)).alloc (.cells #[.bool false, .int .i64 0, .bool false, .bool false, .slice none 0 0] 25)) := bel_alloc (bel_alloc (bel_alloc (Below.refl _ _) _) _) _
 generalize (((w.alloc (.cells #[.bool n.up, .int .i64 n.term, .bool n.leads, .bool n.alone, .slice A n.ops.length c] 25)).alloc (.cells #[.int .i64 o.kind, .string o.name, .string o.dest, .int .i64 o.n, .string o.text] 27)).alloc (.cells #[.bool false, .int .i64 0, .bool false, .bool false, .slice none 0 0] 25)) = W0 at hN hP hR hW ⊢
 have hd : Bel W0 W0.drew := (Below.refl _ _).drew
 have HN : Hid (Blk W0.drew w.heap.size #[.bool n.up, .int .i64 n.term, .bool n.leads, .bool n.alone, .slice A n.ops.length c] 25) := Lib.hid (hN.bel hd)
 have HP : Hid (Blk W0.drew (w.heap.size + 1) #[.int .i64 o.kind, .string o.name, .string o.dest, .int .i64 o.n, .string o.text] 27) := Lib.hid (hP.bel hd)
 have HRS : Hid (Blk W0.drew (w.heap.size + 1 + 1) #[.bool false, .int .i64 0, .bool false, .bool false, .slice none 0 0] 25) := Lib.hid (hR.bel hd)
 have HW : Hid (Bel w W0.drew) := Lib.hid (hW.tr hd)
 have HT0 : Hid (OwnT W0.drew base (.slice A n.ops.length c) n.ops) := Lib.hid (HT.out.bel HW.out)
 have hfx := Lib.hid (fun (W : World) (hb : Bel W0.drew W) => (show W.cell? ⟨w.heap.size, 4, none⟩ = some (.slice A n.ops.length c) from blkn (HN.out.bel hb) 4 _ rfl))
 have hC1 : kOp.C W0.drew A n.ops.length n.ops := kOp_keep HC.out HW.out
 have D0 : Hid (Bel W0.drew W0.drew) := Lib.hid (Below.refl _ _)
 have hrs : (runP newP n.ops).isSome = true := by rw [HRX0.out]; rfl
 have hrun := Lib.hid (fun (W' : World) (v0 v1 : Value) (bvs : List Value) (h : OwnP W' W0.drew.heap.size v0 v1 newP bvs) (hb : Bel W0.drew W') => l13Run_c (c2 := c) h newP_ok (Below.size hb) hC1 (Nat.le_refl _) hb HO.out)
 unfold RunsP at hrun
 rw [hrs, hnp] at hrun
 clear hN hP hR hW hd hC1 hrs hnp
 refine start_ (n := 10) (S := fun w' => w'.cell? ⟨w.heap.size, 4, none⟩ = some (.slice A n.ops.length c)) (ds := [8]) #[bF, bF, bF, bF, bF, bF, bF, bF, bF, bF] (by kernel_rfl) rfl rfl ((hfx.out _ D0.out)) (fun hHeld => ?_)
 refine pure_ (i := 1) (N := some 12) (v := ?_) (a' := ?_) #[bF, bT, bF, bF, bF, bF, bF, bF, bF, bF] rfl rfl (by kernel_rfl) (fun _ _ _ h => h) (Or.inl ⟨by rfl, ?_⟩) ?_ ?_
 rotate_left
 ·intro w'
  go_simp
  with_reducible rfl
 rotate_left
 ·simp only [Act.put, lA, lB, lC, i64_w, i32_w]
  rfl
 refine take_ (i := 2) (N := some 13) (v := ?_) (a' := ?_) #[bF, bT, bT, bF, bF, bF, bF, bF, bF, bF] rfl rfl (by kernel_rfl) (fun _ _ _ h => h) (Or.inl ⟨by rfl, ?_⟩) hHeld ?_ ?_
 rotate_left
 ·intro w' s0
  go_simp
  with_reducible rfl
 rotate_left
 ·simp only [Act.put, lA, lB, lC, i64_w, i32_w]
  rfl
 refine join_ (σ := Option Addr × Nat × Option Addr × Nat × Option Addr × Nat × Option Addr × Nat × List Value × Nat) 2 #[bT, bT, bT, bT, bT, bT, bT, bT, bF, bF] (fun s => [(11, .agg #[.slice s.1 np.slots.length s.2.1, .slice s.2.2.1 np.vols.length s.2.2.2.1]), (14, .tuple #[.agg #[.slice s.2.2.2.2.1 q.slots.length s.2.2.2.2.2.1, .slice s.2.2.2.2.2.2.1 q.vols.length s.2.2.2.2.2.2.2.1], .bool true]), (10, .tuple #[.agg #[.slice s.2.2.2.2.1 q.slots.length s.2.2.2.2.2.1, .slice s.2.2.2.2.2.2.1 q.vols.length s.2.2.2.2.2.2.2.1], .bool true]), (15, .agg #[.slice s.2.2.2.2.1 q.slots.length s.2.2.2.2.2.1, .slice s.2.2.2.2.2.2.1 q.vols.length s.2.2.2.2.2.2.2.1]), (16, .bool true), (6, .pointer (some ⟨s.2.2.2.2.2.2.2.2.2, 0, none⟩))]) (fun s w' => (w'.cell? ⟨w.heap.size, 4, none⟩ = some (.slice A n.ops.length c)) ∧ OwnP w' W0.drew.heap.size (.slice s.2.2.2.2.1 q.slots.length s.2.2.2.2.2.1) (.slice s.2.2.2.2.2.2.1 q.vols.length s.2.2.2.2.2.2.2.1) q s.2.2.2.2.2.2.2.2.1 ∧ Blk w' s.2.2.2.2.2.2.2.2.2 #[.slice none 0 0, .slice none 0 0] 42 ∧ W0.drew.heap.size ≤ s.2.2.2.2.2.2.2.2.2 ∧ Bel W0.drew w') ?_ ?_
 rotate_left
 ·intro hCont
  refine two_ (i := 0) (j := 7) (Ni := some 11) (Nj := some 6) #[bT, bT, bT, bF, bF, bF, bF, bF, bF, bF] #[bF, bT, bT, bF, bF, bF, bF, bT, bF, bF] rfl rfl rfl rfl (by kernel_rfl) (by decide) (by decide) (fun K hK => ?_) (fun K hK => ?_)
  ·skip
   refine goes_ Tryz.func133 (by kernel_rfl) rfl #[] (by rfl) rfl rfl (by simp only [List.map_toArray, List.map_cons, List.map_nil]) ?_
   with_reducible refine (HNP.out _).mono ?_
   rintro e w1_ ⟨va, vb, bva, rfl, ho, X1⟩
   have D1 := Lib.hid (Bel.tr D0.out X1)
   obtain ⟨A5, B5, k5, m5, rfl, rfl, hpi⟩ := ho.reads
   have P1 : Hid (OwnP w1_ W0.drew.heap.size (.slice A5 np.slots.length k5) (.slice B5 np.vols.length m5) np bva) := Lib.hid (ho.lower D0.out.size)
   clear ho hpi
   refine ⟨_, rfl, ?_⟩
   refine hK.out _ _ ((hfx.out _ D1.out)) (fun hHeld => ?_)
   clear hK K
   refine norm_ (a' := ?_) ?_ ?_
   rotate_left
   ·show Act.put _ (some 11) _ = _
    simp only [Act.put, lA, lB, lC, i64_w, i32_w]
    rfl
   refine two_ (i := 3) (j := 7) (Ni := some 14) (Nj := some 6) #[bT, bT, bT, bT, bF, bF, bF, bF, bF, bF] #[bT, bT, bT, bF, bF, bF, bF, bT, bF, bF] rfl rfl rfl rfl (by kernel_rfl) (by decide) (by decide) (fun K hK => ?_) (fun K hK => ?_)
   ·skip
    refine goes_ Tryz.func104 (by kernel_rfl) rfl #[.agg #[.slice A5 np.slots.length k5, .slice B5 np.vols.length m5], .slice A n.ops.length c] (by rfl) rfl rfl (by simp only [List.map_toArray, List.map_cons, List.map_nil]; rfl) ?_
    with_reducible refine (hrun.out _ _ _ _ P1.out D1.out).mono ?_
    rintro e w2_ ⟨A2, A3, n2, n3, k2, k3, rfl, hq, X2⟩
    have D2 : Hid (Bel W0.drew w2_) := Lib.hid (D1.out.trans X2.b)
    obtain ⟨bvc, hq2⟩ := hq q HRX.out
    obtain ⟨E0, E1, d0, d1, e0, e1, hpi⟩ := hq2.reads
    have e0 := slice_eq e0
    have e1 := slice_eq e1
    obtain ⟨rfl, rfl, rfl⟩ := e0
    obtain ⟨rfl, rfl, rfl⟩ := e1
    have Q2 := Lib.hid hq2
    clear hq hq2 hpi
    refine ⟨_, rfl, ?_⟩
    refine hK.out _ _ ((hfx.out _ D2.out)) (fun hHeld => ?_)
    clear hK K
    refine norm_ (a' := ?_) ?_ ?_
    rotate_left
    ·show Act.put _ (some 14) _ = _
     simp only [Act.put, lA, lB, lC, i64_w, i32_w]
     rfl
    refine pure_ (i := 4) (N := some 10) (v := ?_) (a' := ?_) #[bT, bT, bT, bT, bT, bF, bF, bF, bF, bF] rfl rfl (by kernel_rfl) (fun _ _ _ h => h) (Or.inl ⟨by rfl, ?_⟩) ?_ ?_
    rotate_left
    ·intro w'
     go_simp
     with_reducible rfl
    rotate_left
    ·simp only [Act.put, lA, lB, lC, i64_w, i32_w]
     rfl
    refine pure_ (i := 5) (N := some 15) (v := ?_) (a' := ?_) #[bT, bT, bT, bT, bT, bT, bF, bF, bF, bF] rfl rfl (by kernel_rfl) (fun _ _ _ h => h) (Or.inl ⟨by rfl, ?_⟩) ?_ ?_
    rotate_left
    ·intro w'
     go_simp
     with_reducible rfl
    rotate_left
    ·simp only [Act.put, lA, lB, lC, i64_w, i32_w]
     rfl
    refine pure_ (i := 6) (N := some 16) (v := ?_) (a' := ?_) #[bT, bT, bT, bT, bT, bT, bT, bF, bF, bF] rfl rfl (by kernel_rfl) (fun _ _ _ h => h) (Or.inl ⟨by rfl, ?_⟩) ?_ ?_
    rotate_left
    ·intro w'
     go_simp
     with_reducible rfl
    rotate_left
    ·simp only [Act.put, lA, lB, lC, i64_w, i32_w]
     rfl
    refine one_ (i := 7) (N := some 6) #[bT, bT, bT, bT, bT, bT, bT, bT, bF, bF] rfl rfl (by kernel_rfl) (by decide) (fun K hK => ?_)
    refine value_ (w1 := ?_) (v := ?_) (by rfl) rfl ?_ ?_
    rotate_left 2
    ·go_simp
     constructor
     ·rfl
     ·rfl
    have D3 : Hid (Bel W0.drew (w2_.alloc (.cells #[.slice none 0 0, .slice none 0 0] 42))) := Lib.hid (bel_alloc D2.out (.cells #[.slice none 0 0, .slice none 0 0] 42))
    have Q3 := Lib.hid (OwnP.bel Q2.out (bel_alloc (Below.refl _ _) (.cells #[.slice none 0 0, .slice none 0 0] 42)))
    have O3 : Hid (Blk (w2_.alloc (.cells #[.slice none 0 0, .slice none 0 0] 42)) w2_.heap.size #[.slice none 0 0, .slice none 0 0] 42) := Lib.hid (Blk.new w2_ _ _)
    have L3 := D2.out.size
    refine hK.out _ _ ((hfx.out _ D3.out)) (fun hHeld => ?_)
    clear hK K
    refine norm_ (a' := ?_) ?_ ?_
    rotate_left
    ·show Act.put _ (some 6) _ = _
     simp only [Act.put, lA, lB, lC, i64_w, i32_w]
     rfl
    exact norm_ (by simp only [putAll, Act.put, lA, lB, lC]) (hCont (A5, k5, B5, m5, A2, k2, A3, k3, bvc, w2_.heap.size) _ ⟨hHeld, Q3.out, O3.out, L3, D3.out⟩)
   ·skip
    refine value_ (w1 := ?_) (v := ?_) (by rfl) rfl ?_ ?_
    rotate_left 2
    ·go_simp
     constructor
     ·rfl
     ·rfl
    have D2 : Hid (Bel W0.drew (w1_.alloc (.cells #[.slice none 0 0, .slice none 0 0] 42))) := Lib.hid (bel_alloc D1.out (.cells #[.slice none 0 0, .slice none 0 0] 42))
    have P2 := Lib.hid (OwnP.bel P1.out (bel_alloc (Below.refl _ _) (.cells #[.slice none 0 0, .slice none 0 0] 42)))
    have O2 : Hid (Blk (w1_.alloc (.cells #[.slice none 0 0, .slice none 0 0] 42)) w1_.heap.size #[.slice none 0 0, .slice none 0 0] 42) := Lib.hid (Blk.new w1_ _ _)
    have L2 := D1.out.size
    refine hK.out _ _ ((hfx.out _ D2.out)) (fun hHeld => ?_)
    clear hK K
    refine norm_ (a' := ?_) ?_ ?_
    rotate_left
    ·show Act.put _ (some 6) _ = _
     simp only [Act.put, lA, lB, lC, i64_w, i32_w]
     rfl
    refine one_ (i := 3) (N := some 14) #[bT, bT, bT, bT, bF, bF, bF, bT, bF, bF] rfl rfl (by kernel_rfl) (by decide) (fun K hK => ?_)
    refine goes_ Tryz.func104 (by kernel_rfl) rfl #[.agg #[.slice A5 np.slots.length k5, .slice B5 np.vols.length m5], .slice A n.ops.length c] (by rfl) rfl rfl (by simp only [List.map_toArray, List.map_cons, List.map_nil]; rfl) ?_
    with_reducible refine (hrun.out _ _ _ _ P2.out D2.out).mono ?_
    rintro e w3_ ⟨A2, A3, n2, n3, k2, k3, rfl, hq, X3⟩
    have D3 : Hid (Bel W0.drew w3_) := Lib.hid (D2.out.trans X3.b)
    obtain ⟨bvc, hq2⟩ := hq q HRX.out
    obtain ⟨E0, E1, d0, d1, e0, e1, hpi⟩ := hq2.reads
    have e0 := slice_eq e0
    have e1 := slice_eq e1
    obtain ⟨rfl, rfl, rfl⟩ := e0
    obtain ⟨rfl, rfl, rfl⟩ := e1
    have Q3 := Lib.hid hq2
    clear hq hq2 hpi
    have O3 := Lib.hid (X3.k _ _ _ (by decide) (by decide) (by decide) O2.out)
    refine ⟨_, rfl, ?_⟩
    refine hK.out _ _ ((hfx.out _ D3.out)) (fun hHeld => ?_)
    clear hK K
    refine norm_ (a' := ?_) ?_ ?_
    rotate_left
    ·show Act.put _ (some 14) _ = _
     simp only [Act.put, lA, lB, lC, i64_w, i32_w]
     rfl
    refine pure_ (i := 4) (N := some 10) (v := ?_) (a' := ?_) #[bT, bT, bT, bT, bT, bF, bF, bT, bF, bF] rfl rfl (by kernel_rfl) (fun _ _ _ h => h) (Or.inl ⟨by rfl, ?_⟩) ?_ ?_
    rotate_left
    ·intro w'
     go_simp
     with_reducible rfl
    rotate_left
    ·simp only [Act.put, lA, lB, lC, i64_w, i32_w]
     rfl
    refine pure_ (i := 5) (N := some 15) (v := ?_) (a' := ?_) #[bT, bT, bT, bT, bT, bT, bF, bT, bF, bF] rfl rfl (by kernel_rfl) (fun _ _ _ h => h) (Or.inl ⟨by rfl, ?_⟩) ?_ ?_
    rotate_left
    ·intro w'
     go_simp
     with_reducible rfl
    rotate_left
    ·simp only [Act.put, lA, lB, lC, i64_w, i32_w]
     rfl
    refine pure_ (i := 6) (N := some 16) (v := ?_) (a' := ?_) #[bT, bT, bT, bT, bT, bT, bT, bT, bF, bF] rfl rfl (by kernel_rfl) (fun _ _ _ h => h) (Or.inl ⟨by rfl, ?_⟩) ?_ ?_
    rotate_left
    ·intro w'
     go_simp
     with_reducible rfl
    rotate_left
    ·simp only [Act.put, lA, lB, lC, i64_w, i32_w]
     rfl
    exact norm_ (by simp only [putAll, Act.put, lA, lB, lC]) (hCont (A5, k5, B5, m5, A2, k2, A3, k3, bvc, w1_.heap.size) _ ⟨hHeld, Q3.out, O3.out, L2, D3.out⟩)
  ·skip
   refine value_ (w1 := ?_) (v := ?_) (by rfl) rfl ?_ ?_
   rotate_left 2
   ·go_simp
    constructor
    ·rfl
    ·rfl
   have D1 : Hid (Bel W0.drew (W0.alloc (.cells #[.slice none 0 0, .slice none 0 0] 42)).drew) := Lib.hid (bel_alloc D0.out (.cells #[.slice none 0 0, .slice none 0 0] 42))
   have O1 : Hid (Blk (W0.alloc (.cells #[.slice none 0 0, .slice none 0 0] 42)).drew W0.drew.heap.size #[.slice none 0 0, .slice none 0 0] 42) := Lib.hid (Blk.new W0.drew _ _)
   have L1 := D0.out.size
   refine hK.out _ _ ((hfx.out _ D1.out)) (fun hHeld => ?_)
   clear hK K
   refine norm_ (a' := ?_) ?_ ?_
   rotate_left
   ·show Act.put _ (some 6) _ = _
    simp only [Act.put, lA, lB, lC, i64_w, i32_w]
    rfl
   refine one_ (i := 0) (N := some 11) #[bT, bT, bT, bF, bF, bF, bF, bT, bF, bF] rfl rfl (by kernel_rfl) (by decide) (fun K hK => ?_)
   refine goes_ Tryz.func133 (by kernel_rfl) rfl #[] (by rfl) rfl rfl (by simp only [List.map_toArray, List.map_cons, List.map_nil]) ?_
   with_reducible refine (HNP.out _).mono ?_
   rintro e w2_ ⟨va, vb, bva, rfl, ho, X2⟩
   have D2 := Lib.hid (Bel.tr D1.out X2)
   obtain ⟨A5, B5, k5, m5, rfl, rfl, hpi⟩ := ho.reads
   have O2 := Lib.hid (Blk.bel O1.out X2)
   have P2 : Hid (OwnP w2_ W0.drew.heap.size (.slice A5 np.slots.length k5) (.slice B5 np.vols.length m5) np bva) := Lib.hid (ho.lower D1.out.size)
   clear ho hpi
   refine ⟨_, rfl, ?_⟩
   refine hK.out _ _ ((hfx.out _ D2.out)) (fun hHeld => ?_)
   clear hK K
   refine norm_ (a' := ?_) ?_ ?_
   rotate_left
   ·show Act.put _ (some 11) _ = _
    simp only [Act.put, lA, lB, lC, i64_w, i32_w]
    rfl
   refine one_ (i := 3) (N := some 14) #[bT, bT, bT, bT, bF, bF, bF, bT, bF, bF] rfl rfl (by kernel_rfl) (by decide) (fun K hK => ?_)
   refine goes_ Tryz.func104 (by kernel_rfl) rfl #[.agg #[.slice A5 np.slots.length k5, .slice B5 np.vols.length m5], .slice A n.ops.length c] (by rfl) rfl rfl (by simp only [List.map_toArray, List.map_cons, List.map_nil]; rfl) ?_
   with_reducible refine (hrun.out _ _ _ _ P2.out D2.out).mono ?_
   rintro e w3_ ⟨A2, A3, n2, n3, k2, k3, rfl, hq, X3⟩
   have D3 : Hid (Bel W0.drew w3_) := Lib.hid (D2.out.trans X3.b)
   obtain ⟨bvc, hq2⟩ := hq q HRX.out
   obtain ⟨E0, E1, d0, d1, e0, e1, hpi⟩ := hq2.reads
   have e0 := slice_eq e0
   have e1 := slice_eq e1
   obtain ⟨rfl, rfl, rfl⟩ := e0
   obtain ⟨rfl, rfl, rfl⟩ := e1
   have Q3 := Lib.hid hq2
   clear hq hq2 hpi
   have O3 := Lib.hid (X3.k _ _ _ (by decide) (by decide) (by decide) O2.out)
   refine ⟨_, rfl, ?_⟩
   refine hK.out _ _ ((hfx.out _ D3.out)) (fun hHeld => ?_)
   clear hK K
   refine norm_ (a' := ?_) ?_ ?_
   rotate_left
   ·show Act.put _ (some 14) _ = _
    simp only [Act.put, lA, lB, lC, i64_w, i32_w]
    rfl
   refine pure_ (i := 4) (N := some 10) (v := ?_) (a' := ?_) #[bT, bT, bT, bT, bT, bF, bF, bT, bF, bF] rfl rfl (by kernel_rfl) (fun _ _ _ h => h) (Or.inl ⟨by rfl, ?_⟩) ?_ ?_
   rotate_left
   ·intro w'
    go_simp
    with_reducible rfl
   rotate_left
   ·simp only [Act.put, lA, lB, lC, i64_w, i32_w]
    rfl
   refine pure_ (i := 5) (N := some 15) (v := ?_) (a' := ?_) #[bT, bT, bT, bT, bT, bT, bF, bT, bF, bF] rfl rfl (by kernel_rfl) (fun _ _ _ h => h) (Or.inl ⟨by rfl, ?_⟩) ?_ ?_
   rotate_left
   ·intro w'
    go_simp
    with_reducible rfl
   rotate_left
   ·simp only [Act.put, lA, lB, lC, i64_w, i32_w]
    rfl
   refine pure_ (i := 6) (N := some 16) (v := ?_) (a' := ?_) #[bT, bT, bT, bT, bT, bT, bT, bT, bF, bF] rfl rfl (by kernel_rfl) (fun _ _ _ h => h) (Or.inl ⟨by rfl, ?_⟩) ?_ ?_
   rotate_left
   ·intro w'
    go_simp
    with_reducible rfl
   rotate_left
   ·simp only [Act.put, lA, lB, lC, i64_w, i32_w]
    rfl
   exact norm_ (by simp only [putAll, Act.put, lA, lB, lC]) (hCont (A5, k5, B5, m5, A2, k2, A3, k3, bvc, W0.heap.size) _ ⟨hHeld, Q3.out, O3.out, L1, D3.out⟩)
 rintro ⟨A5, k5, B5, m5, A2, k2, A3, k3, bvc, nb⟩ w3 ⟨hHeld, hQ, hO, hL, hD⟩
 dsimp only at hQ hO hL
 have r0 := hO.cell 0
 have r1 := hO.cell 1
 have f0 := hO.free 0
 have f1 := hO.free 1
 simp at r0 r1
 refine norm_ (a' := ?_) ?_ ?_
 rotate_left
 ·simp only [putAll, Act.put, lA, lB, lC]
  rfl
 refine last_ (i := 8) (N := none) #[bT, bT, bT, bT, bT, bT, bT, bT, bT, bF] rfl rfl (by kernel_rfl) (by decide) (fun K hK => ?_)
 refine skip_ (w1 := ?_) (by rfl) rfl ?_ ?_
 rotate_left
 ·go_simp
  rfl
 refine hK.out _ _ ?_
 clear hK K
 refine pure_ (i := 9) (N := some 7) (v := ?_) (a' := ?_) #[bT, bT, bT, bT, bT, bT, bT, bT, bT, bT] rfl rfl (by kernel_rfl) (fun _ _ _ h => h) (Or.inl ⟨by rfl, ?_⟩) ?_ ?_
 rotate_left
 ·intro w'
  go_simp
  with_reducible rfl
 rotate_left
 ·simp only [Act.put, lA, lB, lC, i64_w, i32_w]
  rfl
 refine done_ (by kernel_rfl) ?_
 have hO1 := hO.set 0 (.slice A2 q.slots.length k2) (cs' := #[.slice A2 q.slots.length k2, .slice none 0 0]) rfl
 have hO2 := hO1.set 1 (.slice A3 q.vols.length k3) (cs' := #[.slice A2 q.slots.length k2, .slice A3 q.vols.length k3]) rfl
 have hq2 := (hQ.far hO (by decide) (by decide) (by decide) 0 (.slice A2 q.slots.length k2)).far hO1 (by decide) (by decide) (by decide) 1 (.slice A3 q.vols.length k3)
 have hb5 : Bel W0.drew ((w3.setCell ⟨nb, 0, none⟩ (.slice A2 q.slots.length k2)).setCell ⟨nb, 1, none⟩ (.slice A3 q.vols.length k3)) := bel_set (bel_set hD hL 0 (.slice A2 q.slots.length k2)) hL 1 (.slice A3 q.vols.length k3)
 clear hO hO1 hD hL hQ f0 f1 r0 r1 hHeld D0 hrun hfx
 generalize ((w3.setCell ⟨nb, 0, none⟩ (.slice A2 q.slots.length k2)).setCell ⟨nb, 1, none⟩ (.slice A3 q.vols.length k3)) = W5 at hO2 hq2 hb5 ⊢
 have HO2 := Lib.hid hO2
 have HQ2 := Lib.hid hq2
 have HB5 := Lib.hid hb5
 have p0 := blkn (HP.out.bel hb5) 0 _ rfl
 have p1 := blkn (HP.out.bel hb5) 1 _ rfl
 have p2 := blkn (HP.out.bel hb5) 2 _ rfl
 have p3 := blkn (HP.out.bel hb5) 3 _ rfl
 have p4 := blkn (HP.out.bel hb5) 4 _ rfl
 have py := (HP.out.bel hb5).lt
 clear hO2 hq2 hb5
 go_wp2_with fail
 obtain ⟨op, hop⟩ : ∃ b, opOk o = b := ⟨_, rfl⟩
 have hk := specOpOk_c o HSO.out W5
 rw [hop] at hk
 refine hk.mono ?_
 rintro e w6 ⟨rfl, hb6⟩
 have HB6 := Lib.hid (HB5.out.tr hb6)
 have HQ6 := Lib.hid (HQ2.out.bel hb6)
 have HO6 := Lib.hid (HO2.out.bel hb6)
 clear hb6 hk p0 p1 p2 p3 p4 py
 have HQP := HQ
 obtain rfl | rfl : op = false ∨ op = true := by cases op <;> simp
 ·have hzf : false = z := by rw [← HZ.out]; unfold opR; rw [hop]; rfl
  subst hzf
  obtain rfl : n = xn := HXN.out
  have hn_ := HN.out.bel HB6.out
  have hr_ := HRS.out.bel HB6.out
  have ho_ := HP.out.bel HB6.out
  have n0 := blkn hn_ 0 _ rfl
  have n1 := blkn hn_ 1 _ rfl
  have n2 := blkn hn_ 2 _ rfl
  have n3 := blkn hn_ 3 _ rfl
  have n4 := blkn hn_ 4 _ rfl
  have r0 := blkn hr_ 0 _ rfl
  have r1 := blkn hr_ 1 _ rfl
  have r2 := blkn hr_ 2 _ rfl
  have r3 := blkn hr_ 3 _ rfl
  have r4 := blkn hr_ 4 _ rfl
  have o0 := blkn ho_ 0 _ rfl
  have o1 := blkn ho_ 1 _ rfl
  have o2 := blkn ho_ 2 _ rfl
  have o3 := blkn ho_ 3 _ rfl
  have o4 := blkn ho_ 4 _ rfl
  have nf0 := hn_.free 0
  have nf1 := hn_.free 1
  have nf2 := hn_.free 2
  have nf3 := hn_.free 3
  have nf4 := hn_.free 4
  have rf0 := hr_.free 0
  have rf1 := hr_.free 1
  have rf2 := hr_.free 2
  have rf3 := hr_.free 3
  have rf4 := hr_.free 4
  have ny := hn_.lt
  have ry := hr_.lt
  have oy := ho_.lt
  go_wp2
  have hR9 := hr_.set5 (.bool n.up) (.int .i64 n.term) (.bool n.leads) (.bool n.alone) (.slice A n.ops.length c)
  have hT9 := (HT0.out.bel HB6.out).far5 hr_ (.bool n.up) (.int .i64 n.term) (.bool n.leads) (.bool n.alone) (.slice A n.ops.length c)
  have hg9 := grown_set5 (grown_of_bel (HW.out.tr HB6.out) (Value.slice A n.ops.length c).ownBlock) (show w.heap.size ≤ w.heap.size + 1 + 1 by omega) (.bool n.up) (.int .i64 n.term) (.bool n.leads) (.bool n.alone) (.slice A n.ops.length c)
  refine bodyPost_ret (results_ct rfl _ _ (w.heap.size + 1 + 1) 25 #[.bool n.up, .int .i64 n.term, .bool n.leads, .bool n.alone, .slice A n.ops.length c] (0, 0) _ rfl hR9 Tryz.underlying25 rfl (by kernel_rfl)) rfl ?_
  exact ⟨_, rfl, hT9, hg9, .inl rfl, fun _ => rfl⟩
 ·by_cases hl : n.ops.length < 20
  ·have hl20 : ¬ (20 : Int) ≤ (n.ops.length : Int) := by omega
   have hn_ := HN.out.bel HB6.out
   have hr_ := HRS.out.bel HB6.out
   have ho_ := HP.out.bel HB6.out
   have n0 := blkn hn_ 0 _ rfl
   have n1 := blkn hn_ 1 _ rfl
   have n2 := blkn hn_ 2 _ rfl
   have n3 := blkn hn_ 3 _ rfl
   have n4 := blkn hn_ 4 _ rfl
   have r0 := blkn hr_ 0 _ rfl
   have r1 := blkn hr_ 1 _ rfl
   have r2 := blkn hr_ 2 _ rfl
   have r3 := blkn hr_ 3 _ rfl
   have r4 := blkn hr_ 4 _ rfl
   have o0 := blkn ho_ 0 _ rfl
   have o1 := blkn ho_ 1 _ rfl
   have o2 := blkn ho_ 2 _ rfl
   have o3 := blkn ho_ 3 _ rfl
   have o4 := blkn ho_ 4 _ rfl
   have nf0 := hn_.free 0
   have nf1 := hn_.free 1
   have nf2 := hn_.free 2
   have nf3 := hn_.free 3
   have nf4 := hn_.free 4
   have rf0 := hr_.free 0
   have rf1 := hr_.free 1
   have rf2 := hr_.free 2
   have rf3 := hr_.free 3
   have rf4 := hr_.free 4
   have ny := hn_.lt
   have ry := hr_.lt
   have oy := ho_.lt
   have t0 := blkn HO6.out 0 _ rfl
   have t1 := blkn HO6.out 1 _ rfl
   have ty := HO6.out.lt
   go_wp2_with fail
   clear t0 t1 ty
   have hdo := l12Do_c (o := o) HQ6.out HQP.out HB6.out.size HSO.out
   obtain ⟨qq, hqq⟩ : ∃ qq, (opF q o).getD q = qq := ⟨_, rfl⟩
   obtain ⟨ok, hok⟩ : ∃ ok, (opF q o).isSome = ok := ⟨_, rfl⟩
   have hor : opR q o = opF q o := by unfold opR; rw [if_pos hop]
   have hzk : ok = z := by rw [← HZ.out, hor, hok, decide_eq_true hl, Bool.and_true]
   subst hzk
   unfold TurnsP at hdo
   rw [hqq, hok] at hdo
   refine hdo.mono ?_
   rintro e w7 ⟨u0, u1, bu, rfl, hu, hfr⟩
   obtain ⟨A8, B8, a8, b8, rfl, rfl, hpi⟩ := hu.reads
   have hb7 : Bel W0.drew w7 := HB6.out.trans hfr.b
   have HB7 := Lib.hid hb7
   have HB8 : Hid (Bel W0.drew (w7.alloc (.cells #[.slice A8 qq.slots.length a8, .slice B8 qq.vols.length b8] 42))) := Lib.hid (bel_alloc hb7 _)
   clear hdo hqq hok hor hu hfr hpi hb7 n0 n1 n2 n3 n4 r0 r1 r2 r3 r4 o0 o1 o2 o3 o4 nf0 nf1 nf2 nf3 nf4 rf0 rf1 rf2 rf3 rf4 ny ry oy hn_ hr_ ho_
   cases ok with
   | false =>
    obtain rfl : n = xn := HXN.out
    have hn_ := HN.out.bel HB7.out
    have hr_ := HRS.out.bel HB7.out
    have ho_ := HP.out.bel HB7.out
    have n0 := blkn hn_ 0 _ rfl
    have n1 := blkn hn_ 1 _ rfl
    have n2 := blkn hn_ 2 _ rfl
    have n3 := blkn hn_ 3 _ rfl
    have n4 := blkn hn_ 4 _ rfl
    have r0 := blkn hr_ 0 _ rfl
    have r1 := blkn hr_ 1 _ rfl
    have r2 := blkn hr_ 2 _ rfl
    have r3 := blkn hr_ 3 _ rfl
    have r4 := blkn hr_ 4 _ rfl
    have o0 := blkn ho_ 0 _ rfl
    have o1 := blkn ho_ 1 _ rfl
    have o2 := blkn ho_ 2 _ rfl
    have o3 := blkn ho_ 3 _ rfl
    have o4 := blkn ho_ 4 _ rfl
    have nf0 := hn_.free 0
    have nf1 := hn_.free 1
    have nf2 := hn_.free 2
    have nf3 := hn_.free 3
    have nf4 := hn_.free 4
    have rf0 := hr_.free 0
    have rf1 := hr_.free 1
    have rf2 := hr_.free 2
    have rf3 := hr_.free 3
    have rf4 := hr_.free 4
    have ny := hn_.lt
    have ry := hr_.lt
    have oy := ho_.lt
    go_wp2
    have hR9 := hr_.set5 (.bool n.up) (.int .i64 n.term) (.bool n.leads) (.bool n.alone) (.slice A n.ops.length c)
    have hT9 := (HT0.out.bel HB7.out).far5 hr_ (.bool n.up) (.int .i64 n.term) (.bool n.leads) (.bool n.alone) (.slice A n.ops.length c)
    have hg9 := grown_set5 (grown_of_bel (HW.out.tr HB7.out) (Value.slice A n.ops.length c).ownBlock) (show w.heap.size ≤ w.heap.size + 1 + 1 by omega) (.bool n.up) (.int .i64 n.term) (.bool n.leads) (.bool n.alone) (.slice A n.ops.length c)
    refine bodyPost_ret (results_ct rfl _ _ (w.heap.size + 1 + 1) 25 #[.bool n.up, .int .i64 n.term, .bool n.leads, .bool n.alone, .slice A n.ops.length c] (0, 0) _ rfl (hR9.alloc _) Tryz.underlying25 rfl (by kernel_rfl)) rfl ?_
    exact ⟨_, rfl, hT9.bel (bel_alloc (Below.refl _ _) _), grown_tr hg9 (grown_of_bel (bel_alloc (Below.refl _ _) _) _), .inl rfl, fun _ => rfl⟩
   | true =>
    obtain rfl : (⟨n.up, n.term, n.leads, n.alone, n.ops ++ [o]⟩ : Node) = xn := HXN.out
    have hn_ := HN.out.bel HB7.out
    have hr_ := HRS.out.bel HB7.out
    have ho_ := HP.out.bel HB7.out
    have n0 := blkn hn_ 0 _ rfl
    have n1 := blkn hn_ 1 _ rfl
    have n2 := blkn hn_ 2 _ rfl
    have n3 := blkn hn_ 3 _ rfl
    have n4 := blkn hn_ 4 _ rfl
    have r0 := blkn hr_ 0 _ rfl
    have r1 := blkn hr_ 1 _ rfl
    have r2 := blkn hr_ 2 _ rfl
    have r3 := blkn hr_ 3 _ rfl
    have r4 := blkn hr_ 4 _ rfl
    have o0 := blkn ho_ 0 _ rfl
    have o1 := blkn ho_ 1 _ rfl
    have o2 := blkn ho_ 2 _ rfl
    have o3 := blkn ho_ 3 _ rfl
    have o4 := blkn ho_ 4 _ rfl
    have nf0 := hn_.free 0
    have nf1 := hn_.free 1
    have nf2 := hn_.free 2
    have nf3 := hn_.free 3
    have nf4 := hn_.free 4
    have rf0 := hr_.free 0
    have rf1 := hr_.free 1
    have rf2 := hr_.free 2
    have rf3 := hr_.free 3
    have rf4 := hr_.free 4
    have ny := hn_.lt
    have ry := hr_.lt
    have oy := ho_.lt
    go_wp2_with (
     at_builtin
     refine tail_append2 (ops := []) rfl (.tmp 37) (.tmp 39) rfl rfl o ⟨w7.heap.size + 1, 0, none⟩ 1 rfl (blk_op5 (show Blk ((w7.alloc (.cells #[.slice A8 qq.slots.length a8, .slice B8 qq.vols.length b8] 42)).alloc (.cells #[.int .i64 o.kind, .string o.name, .string o.dest, .int .i64 o.n, .string o.text] 27)) (w7.heap.size + 1) #[.int .i64 o.kind, .string o.name, .string o.dest, .int .i64 o.n, .string o.text] 27 from Blk.nw2 _ _ _ _)) ((HT0.out.bel HB8.out).bel (bel_alloc (Below.refl _ _) _)) (by omega) (Nat.le_trans HBS.out (Nat.le_trans HW.out.size (Nat.le_trans HB8.out.size (bel_alloc (Below.refl _ _) _ : Bel (w7.alloc (.cells #[.slice A8 qq.slots.length a8, .slice B8 qq.vols.length b8] 42)) _).size))) ?_
     intro v1 w9 hv1 hgr hat
     obtain ⟨no, hno⟩ : ∃ no, n.ops ++ [o] = no := ⟨_, rfl⟩
     rw [hno] at hv1
     obtain ⟨C4, c4, rfl, hc4, hC4⟩ := hv1.reads
     have ha : Bel (w7.alloc (.cells #[.slice A8 qq.slots.length a8, .slice B8 qq.vols.length b8] 42)) ((w7.alloc (.cells #[.slice A8 qq.slots.length a8, .slice B8 qq.vols.length b8] 42)).alloc (.cells #[.int .i64 o.kind, .string o.name, .string o.dest, .int .i64 o.n, .string o.text] 27)) := bel_alloc (Below.refl _ _) _
     have hT1 : OwnT ((w7.alloc (.cells #[.slice A8 qq.slots.length a8, .slice B8 qq.vols.length b8] 42)).alloc (.cells #[.int .i64 o.kind, .string o.name, .string o.dest, .int .i64 o.n, .string o.text] 27)) base (.slice A n.ops.length c) n.ops := (HT0.out.bel HB8.out).bel ha
     have hn8 := (HN.out.bel HB8.out).bel ha
     have hr8 := (HRS.out.bel HB8.out).bel ha
     have HN9 := Lib.hid (hn8.grown hgr (blk_otherT hT1 hn8 (by decide)))
     have HR9 := Lib.hid (hr8.grown hgr (blk_otherT hT1 hr8 (by decide)))
     have HG9 := Lib.hid (grown_tr (grown_of_bel ((HW.out.tr HB8.out).tr ha) (Value.slice A n.ops.length c).ownBlock) hgr)
     have HV9 := Lib.hid hv1
     have HAT := Lib.hid (show (Value.slice C4 no.length c4).ownBlock = (Value.slice A n.ops.length c).ownBlock ∨ ∃ b, (Value.slice C4 no.length c4).ownBlock = some b ∧ w.heap.size ≤ b from hat.imp id (fun ⟨b, h1, h2⟩ => ⟨b, h1, Nat.le_trans ((HW.out.tr HB8.out).tr ha).size h2⟩))
     clear hv1 hgr hat hc4 hC4 ha hT1 hn8 hr8 n0 n1 n2 n3 n4 r0 r1 r2 r3 r4 o0 o1 o2 o3 o4 nf0 nf1 nf2 nf3 nf4 rf0 rf1 rf2 rf3 rf4 ny ry oy hn_ hr_ ho_
     have hn_ := HN9.out
     have hr_ := HR9.out
     have n0 := blkn hn_ 0 _ rfl
     have n1 := blkn hn_ 1 _ rfl
     have n2 := blkn hn_ 2 _ rfl
     have n3 := blkn hn_ 3 _ rfl
     have n4 := blkn hn_ 4 _ rfl
     have r0 := blkn hr_ 0 _ rfl
     have r1 := blkn hr_ 1 _ rfl
     have r2 := blkn hr_ 2 _ rfl
     have r3 := blkn hr_ 3 _ rfl
     have r4 := blkn hr_ 4 _ rfl
     have nf0 := hn_.free 0
     have nf1 := hn_.free 1
     have nf2 := hn_.free 2
     have nf3 := hn_.free 3
     have nf4 := hn_.free 4
     have rf0 := hr_.free 0
     have rf1 := hr_.free 1
     have rf2 := hr_.free 2
     have rf3 := hr_.free 3
     have rf4 := hr_.free 4
     have ny := hn_.lt
     have ry := hr_.lt)
    have hR10 := hr_.apart (show ¬ w.heap.size = w.heap.size + 1 + 1 by omega) 4 (.slice C4 no.length c4)
    have hR11 := hR10.set5 (.bool n.up) (.int .i64 n.term) (.bool n.leads) (.bool n.alone) (.slice C4 no.length c4)
    have hT11 := (HV9.out.far hn_ (by decide) 4 (.slice C4 no.length c4)).far5 hR10 (.bool n.up) (.int .i64 n.term) (.bool n.leads) (.bool n.alone) (.slice C4 no.length c4)
    have hg11 := grown_set5 (grown_new HG9.out (Nat.le_refl _) 4 (.slice C4 no.length c4)) (show w.heap.size ≤ w.heap.size + 1 + 1 by omega) (.bool n.up) (.int .i64 n.term) (.bool n.leads) (.bool n.alone) (.slice C4 no.length c4)
    refine bodyPost_ret (results_ct rfl _ _ (w.heap.size + 1 + 1) 25 #[.bool n.up, .int .i64 n.term, .bool n.leads, .bool n.alone, .slice C4 no.length c4] (0, 0) _ rfl hR11 Tryz.underlying25 rfl (by kernel_rfl)) rfl ?_
    subst hno
    exact ⟨_, rfl, hT11, hg11, HAT.out, fun h => by cases h⟩
  ·have hl20 : (20 : Int) ≤ (n.ops.length : Int) := by omega
   have hzf : false = z := by rw [← HZ.out, decide_eq_false hl, Bool.and_false]
   subst hzf
   obtain rfl : n = xn := HXN.out
   have hn_ := HN.out.bel HB6.out
   have hr_ := HRS.out.bel HB6.out
   have ho_ := HP.out.bel HB6.out
   have n0 := blkn hn_ 0 _ rfl
   have n1 := blkn hn_ 1 _ rfl
   have n2 := blkn hn_ 2 _ rfl
   have n3 := blkn hn_ 3 _ rfl
   have n4 := blkn hn_ 4 _ rfl
   have r0 := blkn hr_ 0 _ rfl
   have r1 := blkn hr_ 1 _ rfl
   have r2 := blkn hr_ 2 _ rfl
   have r3 := blkn hr_ 3 _ rfl
   have r4 := blkn hr_ 4 _ rfl
   have o0 := blkn ho_ 0 _ rfl
   have o1 := blkn ho_ 1 _ rfl
   have o2 := blkn ho_ 2 _ rfl
   have o3 := blkn ho_ 3 _ rfl
   have o4 := blkn ho_ 4 _ rfl
   have nf0 := hn_.free 0
   have nf1 := hn_.free 1
   have nf2 := hn_.free 2
   have nf3 := hn_.free 3
   have nf4 := hn_.free 4
   have rf0 := hr_.free 0
   have rf1 := hr_.free 1
   have rf2 := hr_.free 2
   have rf3 := hr_.free 3
   have rf4 := hr_.free 4
   have ny := hn_.lt
   have ry := hr_.lt
   have oy := ho_.lt
   go_wp2
   have hR9 := hr_.set5 (.bool n.up) (.int .i64 n.term) (.bool n.leads) (.bool n.alone) (.slice A n.ops.length c)
   have hT9 := (HT0.out.bel HB6.out).far5 hr_ (.bool n.up) (.int .i64 n.term) (.bool n.leads) (.bool n.alone) (.slice A n.ops.length c)
   have hg9 := grown_set5 (grown_of_bel (HW.out.tr HB6.out) (Value.slice A n.ops.length c).ownBlock) (show w.heap.size ≤ w.heap.size + 1 + 1 by omega) (.bool n.up) (.int .i64 n.term) (.bool n.leads) (.bool n.alone) (.slice A n.ops.length c)
   refine bodyPost_ret (results_ct rfl _ _ (w.heap.size + 1 + 1) 25 #[.bool n.up, .int .i64 n.term, .bool n.leads, .bool n.alone, .slice A n.ops.length c] (0, 0) _ rfl hR9 Tryz.underlying25 rfl (by kernel_rfl)) rfl ?_
   exact ⟨_, rfl, hT9, hg9, .inl rfl, fun _ => rfl⟩
end
end Go.Proofs.YtccllgpaafgjaaaGreat

namespace Go.Proofs.YtccllgpaafgjaaaGreat
open Go.RowKit Go.Proofs.YtccllgpaafgjaaaGreatW.PrintWords Go.Proofs.YtccllgpaafgjaaaGreatW.PrintLast
def wsets (W : World) (b : Nat) : Nat → List Value → World
 | _, [] => W
 | j, v :: vs => wsets (W.setCell ⟨b, j, none⟩ v) b (j + 1) vs
theorem Blk.setsAt {b : Nat} {t : TypeId} (vs : List Value) : ∀ {W : World} {pre cs : List Value}, Blk W b (pre ++ cs).toArray t → cs.length = vs.length → Blk (wsets W b pre.length vs) b (pre ++ vs).toArray t := by
 induction vs with
 | nil => intro W pre cs h hl; obtain rfl := List.length_eq_zero_iff.1 hl; exact h
 | cons v vs ih =>
  intro W pre cs h hl
  cases cs with
  | nil => cases hl
  | cons c cs =>
   have h1 := h.set pre.length v (cs' := ((pre ++ [v]) ++ cs).toArray) (by simp)
   have h2 := ih h1 (by simpa using hl)
   have e : (pre ++ [v]).length = pre.length + 1 := by simp
   rw [e, List.append_assoc] at h2
   exact h2
theorem Blk.sets {b : Nat} {t : TypeId} {W : World} {cs : Array Value} (h : Blk W b cs t) (vs : List Value) (hl : cs.size = vs.length) : Blk (wsets W b 0 vs) b vs.toArray t :=
 Blk.setsAt vs (pre := []) (cs := cs.toList) (by simpa using h) (by simpa using hl)
theorem Blk.apartS {b d : Nat} {t : TypeId} {cs : Array Value} (hne : d ≠ b) (vs : List Value) : ∀ {W : World} (j : Nat), Blk W b cs t → Blk (wsets W d j vs) b cs t := by
 induction vs with
 | nil => intro W j h; exact h
 | cons v vs ih => intro W j h; exact ih _ (h.apart hne j v)
theorem bel_sets {w : World} {b : Nat} (hb : w.heap.size ≤ b) (vs : List Value) : ∀ {W : World} (j : Nat), Bel w W → Bel w (wsets W b j vs) := by
 induction vs with
 | nil => intro W j h; exact h
 | cons v vs ih => intro W j h; exact ih _ (bel_set h hb j v)
theorem grown_sets {w : World} {b : Nat} {r : Option Nat} (hb : w.heap.size ≤ b) (vs : List Value) : ∀ {W : World} (j : Nat), w.grownBy W r → w.grownBy (wsets W b j vs) r := by
 induction vs with
 | nil => intro W j h; exact h
 | cons v vs ih => intro W j h; exact ih _ (grown_new h hb j v)
theorem own_set_far {W : World} {base b : Nat} {v : Value} {os : List Op} (h : OwnT W base v os) (hne : ∀ k, v.ownBlock = some k → b ≠ k) (i : Nat) (u : Value) : OwnT (W.setCell ⟨b, i, none⟩ u) base v os := by
 have hg : W.grownBy (W.setCell ⟨b, i, none⟩ u) (some b) := ⟨rfl, rfl, rfl, by simp, fun k hk hne => by
  have : b ≠ k := fun e => hne (by rw [e])
  simp [World.setCell, Array.getElem?_modify, this]⟩
 exact h.kept hg fun k hk e => hne k hk (by injection e)
theorem OwnT.setsN {base b : Nat} {v : Value} {os : List Op} (hne : ∀ k, v.ownBlock = some k → b ≠ k) (vs : List Value) : ∀ {W : World} (j : Nat), OwnT W base v os → OwnT (wsets W b j vs) base v os := by
 induction vs with
 | nil => intro W j h; exact h
 | cons u vs ih => intro W j h; exact ih _ (own_set_far h hne j u)
theorem OwnT.sets {W : World} {base b : Nat} {v : Value} {os : List Op} {cs : Array Value} {t : TypeId} (h : OwnT W base v os) (hB : Blk W b cs t) (ht : 27 ≠ t) (vs : List Value) : OwnT (wsets W b 0 vs) base v os :=
 OwnT.setsN (fun k hk e => blk_otherT h hB ht (by rw [hk, e])) vs 0 h
structure Msg where
  kind : Int
  whom : Int
  term : Int
  n : Int
  op : Op
  ops : List Op
abbrev noO : Op := ⟨0, ⟨#[]⟩, ⟨#[]⟩, 0, ⟨#[]⟩⟩
abbrev noM : Msg := ⟨0, 0, 0, 0, noO, []⟩
def askB (n : Node) (o : Op) : Bool := n.up && (n.leads && addNB n o)
def askN (n : Node) (o : Op) : Node := if askB n o then ⟨n.up, n.term, n.leads, n.alone, n.ops ++ [o]⟩ else n
def askM (n : Node) (id : Int) (o : Op) : Msg := if askB n o then ⟨1, 3 - id, n.term, n.ops.length + 1, o, []⟩ else noM
def AskedN (base : Nat) (w : World) (n : Node) (m : Msg) (v0 : Value) (ok : Bool) (e : Ending) (w' : World) : Prop :=
 ∃ v, e = .returned (.tuple #[.agg #[.bool n.up, .int .i64 n.term, .bool n.leads, .bool n.alone, v], .agg #[.int .i64 m.kind, .int .i64 m.whom, .int .i64 m.term, .int .i64 m.n, .int .i64 m.op.kind, .string m.op.name, .string m.op.dest, .int .i64 m.op.n, .string m.op.text, .slice none 0 0], .bool ok]) ∧ OwnT w' base v n.ops ∧ w.grownBy w' v0.ownBlock ∧ (v.ownBlock = v0.ownBlock ∨ ∃ b, v.ownBlock = some b ∧ w.heap.size ≤ b) ∧ (ok = false → v = v0)
section
variable {w : World} {A : Option Addr} {c base : Nat} {up leads alone : Bool} {term id : Int} {ops : List Op} {o : Op}
set_option maxHeartbeats 32000000 in
set_option maxRecDepth 10000 in
theorem l21Ask_c {q : Pool} (h : OwnT w base (.slice A ops.length c) ops) (hbase : base ≤ w.heap.size) (ho : SmallOs ops) (hso : SmallO o) (hid : id = 1 ∨ id = 2) (hr : runP newP ops = some q) :
  Calls Tryz.prog 112 #[.agg #[.bool up, .int .i64 term, .bool leads, .bool alone, .slice A ops.length c], .int .i64 id, .agg #[.int .i64 o.kind, .string o.name, .string o.dest, .int .i64 o.n, .string o.text]] w (AskedN base w (askN ⟨up, term, leads, alone, ops⟩ o) (askM ⟨up, term, leads, alone, ops⟩ id o) (.slice A ops.length c) (askB ⟨up, term, leads, alone, ops⟩ o)) := by
 have HT := Lib.hid h
 have HBS := Lib.hid hbase
 have HO := Lib.hid ho
 have HSO := Lib.hid hso
 have HRX := Lib.hid hr
 have HID := Lib.hid hid
 have hl9 := ho.len
 obtain ⟨z, hz⟩ : ∃ z, askB ⟨up, term, leads, alone, ops⟩ o = z := ⟨_, rfl⟩
 obtain ⟨xn, hxn⟩ : ∃ x, askN ⟨up, term, leads, alone, ops⟩ o = x := ⟨_, rfl⟩
 obtain ⟨xm, hxm⟩ : ∃ x, askM ⟨up, term, leads, alone, ops⟩ id o = x := ⟨_, rfl⟩
 rw [hz, hxn, hxm]
 have HZ := Lib.hid (show (up && (leads && addNB ⟨up, term, leads, alone, ops⟩ o)) = z from hz)
 have HXN := Lib.hid (show (if z then (⟨up, term, leads, alone, ops ++ [o]⟩ : Node) else ⟨up, term, leads, alone, ops⟩) = xn by rw [← hxn, ← hz]; rfl)
 have HXM := Lib.hid (show (if z then (⟨1, 3 - id, term, ops.length + 1, o, []⟩ : Msg) else noM) = xm by rw [← hxm, ← hz]; rfl)
 clear h hbase ho hso hid hr hz hxn hxm
 cases up with
 | false =>
  have hzf : false = z := HZ.out
  subst hzf
  have hxn := HXN.out
  have hxm := HXM.out
  subst hxn hxm
  clear HXN HXM HZ
  go_enter Tryz.func112, Tryz.ntmps112
  go_wp2
  have hR : Blk ((((w.alloc (.cells #[.bool false, .int .i64 term, .bool leads, .bool alone, .slice A ops.length c] 25)).alloc (.cells #[.int .i64 o.kind, .string o.name, .string o.dest, .int .i64 o.n, .string o.text] 27)).alloc (.cells #[.bool false, .int .i64 term, .bool leads, .bool alone, .slice A ops.length c] 25)).alloc (.cells #[.int .i64 0, .int .i64 0, .int .i64 0, .int .i64 0, .int .i64 0, .string ⟨#[]⟩, .string ⟨#[]⟩, .int .i64 0, .string ⟨#[]⟩, .slice none 0 0] 29)) (w.heap.size + 1 + 1) #[.bool false, .int .i64 term, .bool leads, .bool alone, .slice A ops.length c] 25 := by have := Blk.new ((w.alloc (.cells #[.bool false, .int .i64 term, .bool leads, .bool alone, .slice A ops.length c] 25)).alloc (.cells #[.int .i64 o.kind, .string o.name, .string o.dest, .int .i64 o.n, .string o.text] 27)) #[.bool false, .int .i64 term, .bool leads, .bool alone, .slice A ops.length c] 25; simpa using this.alloc _
  have hM : Blk ((((w.alloc (.cells #[.bool false, .int .i64 term, .bool leads, .bool alone, .slice A ops.length c] 25)).alloc (.cells #[.int .i64 o.kind, .string o.name, .string o.dest, .int .i64 o.n, .string o.text] 27)).alloc (.cells #[.bool false, .int .i64 term, .bool leads, .bool alone, .slice A ops.length c] 25)).alloc (.cells #[.int .i64 0, .int .i64 0, .int .i64 0, .int .i64 0, .int .i64 0, .string ⟨#[]⟩, .string ⟨#[]⟩, .int .i64 0, .string ⟨#[]⟩, .slice none 0 0] 29)) (w.heap.size + 1 + 1 + 1) #[.int .i64 0, .int .i64 0, .int .i64 0, .int .i64 0, .int .i64 0, .string ⟨#[]⟩, .string ⟨#[]⟩, .int .i64 0, .string ⟨#[]⟩, .slice none 0 0] 29 := by have := Blk.new (((w.alloc (.cells #[.bool false, .int .i64 term, .bool leads, .bool alone, .slice A ops.length c] 25)).alloc (.cells #[.int .i64 o.kind, .string o.name, .string o.dest, .int .i64 o.n, .string o.text] 27)).alloc (.cells #[.bool false, .int .i64 term, .bool leads, .bool alone, .slice A ops.length c] 25)) #[.int .i64 0, .int .i64 0, .int .i64 0, .int .i64 0, .int .i64 0, .string ⟨#[]⟩, .string ⟨#[]⟩, .int .i64 0, .string ⟨#[]⟩, .slice none 0 0] 29; simpa using this
  have hW : Bel w ((((w.alloc (.cells #[.bool false, .int .i64 term, .bool leads, .bool alone, .slice A ops.length c] 25)).alloc (.cells #[.int .i64 o.kind, .string o.name, .string o.dest, .int .i64 o.n, .string o.text] 27)).alloc (.cells #[.bool false, .int .i64 term, .bool leads, .bool alone, .slice A ops.length c] 25)).alloc (.cells #[.int .i64 0, .int .i64 0, .int .i64 0, .int .i64 0, .int .i64 0, .string ⟨#[]⟩, .string ⟨#[]⟩, .int .i64 0, .string ⟨#[]⟩, .slice none 0 0] 29)) := bel_alloc (bel_alloc (bel_alloc (bel_alloc (Below.refl _ _) _) _) _) _
  refine bodyPost_ret (results_list (rs := [.cell 6 25, .cell 7 29, .tmp 8]) rfl (by simp) (.cell (w.heap.size + 1 + 1) 25 #[.bool false, .int .i64 term, .bool leads, .bool alone, .slice A ops.length c] (0, 0) _ rfl hR Tryz.underlying25 rfl (by kernel_rfl) (.cell (w.heap.size + 1 + 1 + 1) 29 #[.int .i64 0, .int .i64 0, .int .i64 0, .int .i64 0, .int .i64 0, .string ⟨#[]⟩, .string ⟨#[]⟩, .int .i64 0, .string ⟨#[]⟩, .slice none 0 0] (0, 0) _ rfl hM Tryz.underlying29 rfl (by kernel_rfl) (.tmp .nil)))) rfl ?_
  exact ⟨_, rfl, HT.out.bel hW, grown_of_bel hW _, .inl rfl, fun _ => rfl⟩
 | true =>
  cases leads with
  | false =>
   have hzf : false = z := HZ.out
   subst hzf
   have hxn := HXN.out
   have hxm := HXM.out
   subst hxn hxm
   clear HXN HXM HZ
   go_enter Tryz.func112, Tryz.ntmps112
   go_wp2
   have hR : Blk ((((w.alloc (.cells #[.bool true, .int .i64 term, .bool false, .bool alone, .slice A ops.length c] 25)).alloc (.cells #[.int .i64 o.kind, .string o.name, .string o.dest, .int .i64 o.n, .string o.text] 27)).alloc (.cells #[.bool true, .int .i64 term, .bool false, .bool alone, .slice A ops.length c] 25)).alloc (.cells #[.int .i64 0, .int .i64 0, .int .i64 0, .int .i64 0, .int .i64 0, .string ⟨#[]⟩, .string ⟨#[]⟩, .int .i64 0, .string ⟨#[]⟩, .slice none 0 0] 29)) (w.heap.size + 1 + 1) #[.bool true, .int .i64 term, .bool false, .bool alone, .slice A ops.length c] 25 := by have := Blk.new ((w.alloc (.cells #[.bool true, .int .i64 term, .bool false, .bool alone, .slice A ops.length c] 25)).alloc (.cells #[.int .i64 o.kind, .string o.name, .string o.dest, .int .i64 o.n, .string o.text] 27)) #[.bool true, .int .i64 term, .bool false, .bool alone, .slice A ops.length c] 25; simpa using this.alloc _
   have hM : Blk ((((w.alloc (.cells #[.bool true, .int .i64 term, .bool false, .bool alone, .slice A ops.length c] 25)).alloc (.cells #[.int .i64 o.kind, .string o.name, .string o.dest, .int .i64 o.n, .string o.text] 27)).alloc (.cells #[.bool true, .int .i64 term, .bool false, .bool alone, .slice A ops.length c] 25)).alloc (.cells #[.int .i64 0, .int .i64 0, .int .i64 0, .int .i64 0, .int .i64 0, .string ⟨#[]⟩, .string ⟨#[]⟩, .int .i64 0, .string ⟨#[]⟩, .slice none 0 0] 29)) (w.heap.size + 1 + 1 + 1) #[.int .i64 0, .int .i64 0, .int .i64 0, .int .i64 0, .int .i64 0, .string ⟨#[]⟩, .string ⟨#[]⟩, .int .i64 0, .string ⟨#[]⟩, .slice none 0 0] 29 := by have := Blk.new (((w.alloc (.cells #[.bool true, .int .i64 term, .bool false, .bool alone, .slice A ops.length c] 25)).alloc (.cells #[.int .i64 o.kind, .string o.name, .string o.dest, .int .i64 o.n, .string o.text] 27)).alloc (.cells #[.bool true, .int .i64 term, .bool false, .bool alone, .slice A ops.length c] 25)) #[.int .i64 0, .int .i64 0, .int .i64 0, .int .i64 0, .int .i64 0, .string ⟨#[]⟩, .string ⟨#[]⟩, .int .i64 0, .string ⟨#[]⟩, .slice none 0 0] 29; simpa using this
   have hW : Bel w ((((w.alloc (.cells #[.bool true, .int .i64 term, .bool false, .bool alone, .slice A ops.length c] 25)).alloc (.cells #[.int .i64 o.kind, .string o.name, .string o.dest, .int .i64 o.n, .string o.text] 27)).alloc (.cells #[.bool true, .int .i64 term, .bool false, .bool alone, .slice A ops.length c] 25)).alloc (.cells #[.int .i64 0, .int .i64 0, .int .i64 0, .int .i64 0, .int .i64 0, .string ⟨#[]⟩, .string ⟨#[]⟩, .int .i64 0, .string ⟨#[]⟩, .slice none 0 0] 29)) := bel_alloc (bel_alloc (bel_alloc (bel_alloc (Below.refl _ _) _) _) _) _
   refine bodyPost_ret (results_list (rs := [.cell 6 25, .cell 7 29, .tmp 8]) rfl (by simp) (.cell (w.heap.size + 1 + 1) 25 #[.bool true, .int .i64 term, .bool false, .bool alone, .slice A ops.length c] (0, 0) _ rfl hR Tryz.underlying25 rfl (by kernel_rfl) (.cell (w.heap.size + 1 + 1 + 1) 29 #[.int .i64 0, .int .i64 0, .int .i64 0, .int .i64 0, .int .i64 0, .string ⟨#[]⟩, .string ⟨#[]⟩, .int .i64 0, .string ⟨#[]⟩, .slice none 0 0] (0, 0) _ rfl hM Tryz.underlying29 rfl (by kernel_rfl) (.tmp .nil)))) rfl ?_
   exact ⟨_, rfl, HT.out.bel hW, grown_of_bel hW _, .inl rfl, fun _ => rfl⟩
  | true =>
   go_enter Tryz.func112, Tryz.ntmps112
   go_wp2_with fail
   have hN : Blk ((((w.alloc (.cells #[.bool true, .int .i64 term, .bool true, .bool alone, .slice A ops.length c] 25)).alloc (.cells #[.int .i64 o.kind, .string o.name, .string o.dest, .int .i64 o.n, .string o.text] 27)).alloc (.cells #[.bool false, .int .i64 0, .bool false, .bool false, .slice none 0 0] 25)).alloc (.cells #[.int .i64 0, .int .i64 0, .int .i64 0, .int .i64 0, .int .i64 0, .string ⟨#[]⟩, .string ⟨#[]⟩, .int .i64 0, .string ⟨#[]⟩, .slice none 0 0] 29)) w.heap.size #[.bool true, .int .i64 term, .bool true, .bool alone, .slice A ops.length c] 25 := (((Blk.new _ _ _).alloc _).alloc _).alloc _
   have hP : Blk ((((w.alloc (.cells #[.bool true, .int .i64 term, .bool true, .bool alone, .slice A ops.length c] 25)).alloc (.cells #[.int .i64 o.kind, .string o.name, .string o.dest, .int .i64 o.n, .string o.text] 27)).alloc (.cells #[.bool false, .int .i64 0, .bool false, .bool false, .slice none 0 0] 25)).alloc (.cells #[.int .i64 0, .int .i64 0, .int .i64 0, .int .i64 0, .int .i64 0, .string ⟨#[]⟩, .string ⟨#[]⟩, .int .i64 0, .string ⟨#[]⟩, .slice none 0 0] 29)) (w.heap.size + 1) #[.int .i64 o.kind, .string o.name, .string o.dest, .int .i64 o.n, .string o.text] 27 := ((Blk.nw2 w _ _ _).alloc _).alloc _
   have hR : Blk ((((w.alloc (.cells #[.bool true, .int .i64 term, .bool true, .bool alone, .slice A ops.length c] 25)).alloc (.cells #[.int .i64 o.kind, .string o.name, .string o.dest, .int .i64 o.n, .string o.text] 27)).alloc (.cells #[.bool false, .int .i64 0, .bool false, .bool false, .slice none 0 0] 25)).alloc (.cells #[.int .i64 0, .int .i64 0, .int .i64 0, .int .i64 0, .int .i64 0, .string ⟨#[]⟩, .string ⟨#[]⟩, .int .i64 0, .string ⟨#[]⟩, .slice none 0 0] 29)) (w.heap.size + 1 + 1) #[.bool false, .int .i64 0, .bool false, .bool false, .slice none 0 0] 25 := by have := Blk.new ((w.alloc (.cells #[.bool true, .int .i64 term, .bool true, .bool alone, .slice A ops.length c] 25)).alloc (.cells #[.int .i64 o.kind, .string o.name, .string o.dest, .int .i64 o.n, .string o.text] 27)) #[.bool false, .int .i64 0, .bool false, .bool false, .slice none 0 0] 25; simpa using this.alloc _
   have hM : Blk ((((w.alloc (.cells #[.bool true, .int .i64 term, .bool true, .bool alone, .slice A ops.length c] 25)).alloc (.cells #[.int .i64 o.kind, .string o.name, .string o.dest, .int .i64 o.n, .string o.text] 27)).alloc (.cells #[.bool false, .int .i64 0, .bool false, .bool false, .slice none 0 0] 25)).alloc (.cells #[.int .i64 0, .int .i64 0, .int .i64 0, .int .i64 0, .int .i64 0, .string ⟨#[]⟩, .string ⟨#[]⟩, .int .i64 0, .string ⟨#[]⟩, .slice none 0 0] 29)) (w.heap.size + 1 + 1 + 1) #[.int .i64 0, .int .i64 0, .int .i64 0, .int .i64 0, .int .i64 0, .string ⟨#[]⟩, .string ⟨#[]⟩, .int .i64 0, .string ⟨#[]⟩, .slice none 0 0] 29 := by have := Blk.new (((w.alloc (.cells #[.bool true, .int .i64 term, .bool true, .bool alone, .slice A ops.length c] 25)).alloc (.cells #[.int .i64 o.kind, .string o.name, .string o.dest, .int .i64 o.n, .string o.text] 27)).alloc (.cells #[.bool false, .int .i64 0, .bool false, .bool false, .slice none 0 0] 25)) #[.int .i64 0, .int .i64 0, .int .i64 0, .int .i64 0, .int .i64 0, .string ⟨#[]⟩, .string ⟨#[]⟩, .int .i64 0, .string ⟨#[]⟩, .slice none 0 0] 29; simpa using this
   have hW : Bel w ((((w.alloc (.cells #[.bool true, .int .i64 term, .bool true, .bool alone, .slice A ops.length c] 25)).alloc (.cells #[.int .i64 o.kind, .string o.name, .string o.dest, .int .i64 o.n, .string o.text] 27)).alloc (.cells #[.bool false, .int .i64 0, .bool false, .bool false, .slice none 0 0] 25)).alloc (.cells #[.int .i64 0, .int .i64 0, .int .i64 0, .int .i64 0, .int .i64 0, .string ⟨#[]⟩, .string ⟨#[]⟩, .int .i64 0, .string ⟨#[]⟩, .slice none 0 0] 29)) := bel_alloc (bel_alloc (bel_alloc (bel_alloc (Below.refl _ _) _) _) _) _
   generalize ((((w.alloc (.cells #[.bool true, .int .i64 term, .bool true, .bool alone, .slice A ops.length c] 25)).alloc (.cells #[.int .i64 o.kind, .string o.name, .string o.dest, .int .i64 o.n, .string o.text] 27)).alloc (.cells #[.bool false, .int .i64 0, .bool false, .bool false, .slice none 0 0] 25)).alloc (.cells #[.int .i64 0, .int .i64 0, .int .i64 0, .int .i64 0, .int .i64 0, .string ⟨#[]⟩, .string ⟨#[]⟩, .int .i64 0, .string ⟨#[]⟩, .slice none 0 0] 29)) = W0 at hN hP hR hM hW ⊢
   have hT0 := HT.out.bel hW
   have HN := Lib.hid hN
   have HP := Lib.hid hP
   have HRS := Lib.hid hR
   have HM := Lib.hid hM
   have HW := Lib.hid hW
   have HT0 := Lib.hid hT0
   have hadd := l21Add_c (n := ⟨true, term, true, alone, ops⟩) (o := o) hT0 (Nat.le_trans HBS.out hW.size) HO.out HSO.out HRX.out
   have hzz : addNB ⟨true, term, true, alone, ops⟩ o = z := HZ.out
   obtain ⟨xa, hxa⟩ : ∃ x, addN ⟨true, term, true, alone, ops⟩ o = x := ⟨_, rfl⟩
   have hxa2 : xa = xn := by rw [← HXN.out, ← hzz, ← hxa]; rfl
   subst hxa2
   rw [hzz, hxa] at hadd
   clear hN hP hR hM hW hT0 hzz hxa HZ
   refine hadd.mono ?_
   rintro e w1 ⟨v, rfl, hv, hg, hat, hvf⟩
   have HN1 := Lib.hid (HN.out.grown hg (blk_otherT HT0.out HN.out (by decide)))
   have HP1 := Lib.hid (HP.out.grown hg (fun e => by have := (HT.out.base _ e.symm).2.1; omega))
   have HR1 := Lib.hid (HRS.out.grown hg (blk_otherT HT0.out HRS.out (by decide)))
   have HM1 := Lib.hid (HM.out.grown hg (blk_otherT HT0.out HM.out (by decide)))
   have HG1 := Lib.hid (grown_tr (grown_of_bel HW.out (Value.slice A ops.length c).ownBlock) hg)
   have HAT := Lib.hid (show v.ownBlock = (Value.slice A ops.length c).ownBlock ∨ ∃ b, v.ownBlock = some b ∧ w.heap.size ≤ b from hat.imp (fun h => h) (fun ⟨b, h1, h2⟩ => ⟨b, h1, Nat.le_trans HW.out.size h2⟩))
   have HV1 := Lib.hid hv
   clear hg hat hadd hv
   cases z with
   | false =>
    have hxn := HXN.out
    have hxm := HXM.out
    have hv := hvf rfl
    subst hv
    subst hxm
    clear hvf HXM HXN
    obtain rfl : (⟨true, term, true, alone, ops⟩ : Node) = xa := hxn
    have hn_ := HN1.out
    have hr_ := HR1.out
    have hm_ := HM1.out
    have hp_ := HP1.out
    have n0 := blkn hn_ 0 _ rfl
    have n1 := blkn hn_ 1 _ rfl
    have n2 := blkn hn_ 2 _ rfl
    have n3 := blkn hn_ 3 _ rfl
    have n4 := blkn hn_ 4 _ rfl
    have p0 := blkn hp_ 0 _ rfl
    have p1 := blkn hp_ 1 _ rfl
    have p2 := blkn hp_ 2 _ rfl
    have p3 := blkn hp_ 3 _ rfl
    have p4 := blkn hp_ 4 _ rfl
    have r0 := blkn hr_ 0 _ rfl
    have r1 := blkn hr_ 1 _ rfl
    have r2 := blkn hr_ 2 _ rfl
    have r3 := blkn hr_ 3 _ rfl
    have r4 := blkn hr_ 4 _ rfl
    have m0 := blkn hm_ 0 _ rfl
    have m1 := blkn hm_ 1 _ rfl
    have m2 := blkn hm_ 2 _ rfl
    have m3 := blkn hm_ 3 _ rfl
    have m4 := blkn hm_ 4 _ rfl
    have m5 := blkn hm_ 5 _ rfl
    have m6 := blkn hm_ 6 _ rfl
    have m7 := blkn hm_ 7 _ rfl
    have m8 := blkn hm_ 8 _ rfl
    have m9 := blkn hm_ 9 _ rfl
    have rf0 := hr_.free 0
    have rf1 := hr_.free 1
    have rf2 := hr_.free 2
    have rf3 := hr_.free 3
    have rf4 := hr_.free 4
    have mf0 := hm_.free 0
    have mf1 := hm_.free 1
    have mf2 := hm_.free 2
    have mf3 := hm_.free 3
    have mf4 := hm_.free 4
    have mf5 := hm_.free 5
    have mf6 := hm_.free 6
    have mf7 := hm_.free 7
    have mf8 := hm_.free 8
    have mf9 := hm_.free 9
    have ny := hn_.lt
    have ry := hr_.lt
    have my := hm_.lt
    have py := hp_.lt
    go_wp2
    have hr2 := hr_.sets [.bool true, .int .i64 term, .bool true, .bool alone, .slice A ops.length c] rfl
    have hm2 := Blk.apartS (show w.heap.size + 1 + 1 ≠ w.heap.size + 1 + 1 + 1 by omega) [.bool true, .int .i64 term, .bool true, .bool alone, .slice A ops.length c] 0 hm_
    have hm3 := hm2.sets [.int .i64 0, .int .i64 0, .int .i64 0, .int .i64 0, .int .i64 0, .string ⟨#[]⟩, .string ⟨#[]⟩, .int .i64 0, .string ⟨#[]⟩, .slice none 0 0] rfl
    have hr3 := Blk.apartS (show w.heap.size + 1 + 1 + 1 ≠ w.heap.size + 1 + 1 by omega) [.int .i64 0, .int .i64 0, .int .i64 0, .int .i64 0, .int .i64 0, .string ⟨#[]⟩, .string ⟨#[]⟩, .int .i64 0, .string ⟨#[]⟩, .slice none 0 0] 0 hr2
    have hT3 := (HV1.out.sets hr_ (by decide) [.bool true, .int .i64 term, .bool true, .bool alone, .slice A ops.length c]).sets hm2 (by decide) [.int .i64 0, .int .i64 0, .int .i64 0, .int .i64 0, .int .i64 0, .string ⟨#[]⟩, .string ⟨#[]⟩, .int .i64 0, .string ⟨#[]⟩, .slice none 0 0]
    have hg3 := grown_sets (show w.heap.size ≤ w.heap.size + 1 + 1 + 1 by omega) [.int .i64 0, .int .i64 0, .int .i64 0, .int .i64 0, .int .i64 0, .string ⟨#[]⟩, .string ⟨#[]⟩, .int .i64 0, .string ⟨#[]⟩, .slice none 0 0] 0 (grown_sets (show w.heap.size ≤ w.heap.size + 1 + 1 by omega) [.bool true, .int .i64 term, .bool true, .bool alone, .slice A ops.length c] 0 HG1.out)
    refine bodyPost_ret (results_list (rs := [.cell 6 25, .cell 7 29, .tmp 8]) rfl (by simp) (.cell (w.heap.size + 1 + 1) 25 #[.bool true, .int .i64 term, .bool true, .bool alone, .slice A ops.length c] (0, 0) _ rfl (hr3.alloc _) Tryz.underlying25 rfl (by kernel_rfl) (.cell (w.heap.size + 1 + 1 + 1) 29 #[.int .i64 0, .int .i64 0, .int .i64 0, .int .i64 0, .int .i64 0, .string ⟨#[]⟩, .string ⟨#[]⟩, .int .i64 0, .string ⟨#[]⟩, .slice none 0 0] (0, 0) _ rfl (hm3.alloc _) Tryz.underlying29 rfl (by kernel_rfl) (.tmp .nil)))) rfl ?_
    exact ⟨_, rfl, hT3.bel (bel_alloc (Below.refl _ _) _), grown_tr hg3 (grown_of_bel (bel_alloc (Below.refl _ _) _) _), .inl rfl, fun _ => rfl⟩
   | true =>
    have hxn := HXN.out
    have hxm := HXM.out
    obtain ⟨C4, c4, rfl, hc4, hC4⟩ := HV1.out.reads
    subst hxm
    clear hvf HXM HXN hc4 hC4
    obtain rfl : (⟨true, term, true, alone, ops ++ [o]⟩ : Node) = xa := hxn
    obtain ⟨no, hno⟩ : ∃ no, ops ++ [o] = no := ⟨_, rfl⟩
    rw [hno] at HV1 HAT ⊢
    have HNO := Lib.hid hno
    clear hno
    have hn_ := HN1.out
    have hr_ := HR1.out
    have hm_ := HM1.out
    have hp_ := HP1.out
    have n0 := blkn hn_ 0 _ rfl
    have n1 := blkn hn_ 1 _ rfl
    have n2 := blkn hn_ 2 _ rfl
    have n3 := blkn hn_ 3 _ rfl
    have n4 := blkn hn_ 4 _ rfl
    have p0 := blkn hp_ 0 _ rfl
    have p1 := blkn hp_ 1 _ rfl
    have p2 := blkn hp_ 2 _ rfl
    have p3 := blkn hp_ 3 _ rfl
    have p4 := blkn hp_ 4 _ rfl
    have r0 := blkn hr_ 0 _ rfl
    have r1 := blkn hr_ 1 _ rfl
    have r2 := blkn hr_ 2 _ rfl
    have r3 := blkn hr_ 3 _ rfl
    have r4 := blkn hr_ 4 _ rfl
    have m0 := blkn hm_ 0 _ rfl
    have m1 := blkn hm_ 1 _ rfl
    have m2 := blkn hm_ 2 _ rfl
    have m3 := blkn hm_ 3 _ rfl
    have m4 := blkn hm_ 4 _ rfl
    have m5 := blkn hm_ 5 _ rfl
    have m6 := blkn hm_ 6 _ rfl
    have m7 := blkn hm_ 7 _ rfl
    have m8 := blkn hm_ 8 _ rfl
    have m9 := blkn hm_ 9 _ rfl
    have rf0 := hr_.free 0
    have rf1 := hr_.free 1
    have rf2 := hr_.free 2
    have rf3 := hr_.free 3
    have rf4 := hr_.free 4
    have mf0 := hm_.free 0
    have mf1 := hm_.free 1
    have mf2 := hm_.free 2
    have mf3 := hm_.free 3
    have mf4 := hm_.free 4
    have mf5 := hm_.free 5
    have mf6 := hm_.free 6
    have mf7 := hm_.free 7
    have mf8 := hm_.free 8
    have mf9 := hm_.free 9
    have ny := hn_.lt
    have ry := hr_.lt
    have my := hm_.lt
    have py := hp_.lt
    go_wp2
    have hB2 : Blk (w1.alloc (.cells #[.bool true, .int .i64 term, .bool true, .bool alone, .slice C4 no.length c4] 25)) w1.heap.size #[.bool true, .int .i64 term, .bool true, .bool alone, .slice C4 no.length c4] 25 := Blk.new _ _ _
    have hbx : Bel w1 (w1.alloc (.cells #[.bool true, .int .i64 term, .bool true, .bool alone, .slice C4 no.length c4] 25)) := bel_alloc (Below.refl _ _) _
    have hP2 := hp_.bel hbx
    have hR2 := hr_.bel hbx
    have hM2 := hm_.bel hbx
    have HV2 := Lib.hid (HV1.out.bel hbx)
    have HG2 := Lib.hid (grown_tr HG1.out (grown_of_bel hbx _))
    have hnb1 : w.heap.size + 1 + 1 < w1.heap.size := ry
    have hnb2 : w.heap.size + 1 + 1 + 1 < w1.heap.size := my
    clear n0 n1 n2 n3 n4 p0 p1 p2 p3 p4 r0 r1 r2 r3 r4 m0 m1 m2 m3 m4 m5 m6 m7 m8 m9 rf0 rf1 rf2 rf3 rf4 mf0 mf1 mf2 mf3 mf4 mf5 mf6 mf7 mf8 mf9 ny ry my py hn_ hr_ hm_ hp_
    generalize (w1.alloc (.cells #[.bool true, .int .i64 term, .bool true, .bool alone, .slice C4 no.length c4] 25)) = W2 at hB2 hbx hP2 hR2 hM2 HV2 HG2 ⊢
    obtain ⟨nb, hnb⟩ : ∃ nb, w1.heap.size = nb := ⟨_, rfl⟩
    rw [hnb] at hB2 hnb1 hnb2 ⊢
    clear hnb
    have HB3 := Lib.hid hB2
    have HP3 := Lib.hid hP2
    have HR3 := Lib.hid hR2
    have HM3 := Lib.hid hM2
    have HV3 := HV2
    have HG3 := HG2
    clear hB2 hbx hP2 hR2 hM2 HV2 HG2 HN1 HP1 HR1 HM1 HV1 HG1
    have HLE_ := Lib.hid (show (no.length : Int) = ops.length + 1 by rw [← HNO.out, List.length_append]; rfl)
    have hlen : (no.length : Int) ≤ 1048577 := by have := HLE_.out; omega
    have hr_ := HR3.out
    have hm_ := HM3.out
    have r0 := blkn hr_ 0 _ rfl
    have r1 := blkn hr_ 1 _ rfl
    have r2 := blkn hr_ 2 _ rfl
    have r3 := blkn hr_ 3 _ rfl
    have r4 := blkn hr_ 4 _ rfl
    have m0 := blkn hm_ 0 _ rfl
    have m1 := blkn hm_ 1 _ rfl
    have m2 := blkn hm_ 2 _ rfl
    have m3 := blkn hm_ 3 _ rfl
    have m4 := blkn hm_ 4 _ rfl
    have m5 := blkn hm_ 5 _ rfl
    have m6 := blkn hm_ 6 _ rfl
    have m7 := blkn hm_ 7 _ rfl
    have m8 := blkn hm_ 8 _ rfl
    have m9 := blkn hm_ 9 _ rfl
    have rf0 := hr_.free 0
    have rf1 := hr_.free 1
    have rf2 := hr_.free 2
    have rf3 := hr_.free 3
    have rf4 := hr_.free 4
    have mf0 := hm_.free 0
    have mf1 := hm_.free 1
    have mf2 := hm_.free 2
    have mf3 := hm_.free 3
    have mf4 := hm_.free 4
    have mf5 := hm_.free 5
    have mf6 := hm_.free 6
    have mf7 := hm_.free 7
    have mf8 := hm_.free 8
    have mf9 := hm_.free 9
    have ry := hr_.lt
    have my := hm_.lt
    have hne1 : w.heap.size + 1 + 1 ≠ nb := Nat.ne_of_lt hnb1
    have hne2 : w.heap.size + 1 + 1 ≠ w.heap.size + 1 := Nat.succ_ne_self _
    have hid3 : wrap64 (3 - id) = 3 - id := by have h3 := HID.out; unfold wrap64; omega
    refine start_ (n := 13) (S := fun w' => w'.cell? ⟨nb, 0, none⟩ = some (.bool true) ∧ w'.cell? ⟨nb, 1, none⟩ = some (.int .i64 term) ∧ w'.cell? ⟨nb, 2, none⟩ = some (.bool true) ∧ w'.cell? ⟨nb, 3, none⟩ = some (.bool alone) ∧ w'.cell? ⟨nb, 4, none⟩ = some (.slice C4 no.length c4) ∧ w'.cell? ⟨w.heap.size + 1, 0, none⟩ = some (.int .i64 o.kind) ∧ w'.cell? ⟨w.heap.size + 1, 1, none⟩ = some (.string o.name) ∧ w'.cell? ⟨w.heap.size + 1, 2, none⟩ = some (.string o.dest) ∧ w'.cell? ⟨w.heap.size + 1, 3, none⟩ = some (.int .i64 o.n) ∧ w'.cell? ⟨w.heap.size + 1, 4, none⟩ = some (.string o.text)) (ds := [11]) #[bF, bF, bF, bF, bF, bF, bF, bF, bF, bF, bF, bF, bF] (by kernel_rfl) rfl rfl ⟨(blkn (HB3.out.bel (Below.refl _ _).drew) 0 _ rfl), (blkn (HB3.out.bel (Below.refl _ _).drew) 1 _ rfl), (blkn (HB3.out.bel (Below.refl _ _).drew) 2 _ rfl), (blkn (HB3.out.bel (Below.refl _ _).drew) 3 _ rfl), (blkn (HB3.out.bel (Below.refl _ _).drew) 4 _ rfl), (blkn (HP3.out.bel (Below.refl _ _).drew) 0 _ rfl), (blkn (HP3.out.bel (Below.refl _ _).drew) 1 _ rfl), (blkn (HP3.out.bel (Below.refl _ _).drew) 2 _ rfl), (blkn (HP3.out.bel (Below.refl _ _).drew) 3 _ rfl), (blkn (HP3.out.bel (Below.refl _ _).drew) 4 _ rfl)⟩ (fun hHeld => ?_)
    refine pure_ (i := 1) (N := some 32) (v := ?_) (a' := ?_) #[bF, bT, bF, bF, bF, bF, bF, bF, bF, bF, bF, bF, bF] rfl rfl (by kernel_rfl) (fun _ _ _ h => h) (Or.inl ⟨by rfl, ?_⟩) ?_ ?_
    rotate_left
    ·intro w'
     go_simp
     with_reducible rfl
    rotate_left
    ·simp only [Act.put, lA, lB, lC, i64_w, i32_w]
     rfl
    refine pure_ (i := 2) (N := some 33) (v := ?_) (a' := ?_) #[bF, bT, bT, bF, bF, bF, bF, bF, bF, bF, bF, bF, bF] rfl rfl (by kernel_rfl) (fun _ _ _ h => h) (Or.inl ⟨by rfl, ?_⟩) ?_ ?_
    rotate_left
    ·intro w'
     go_simp
     with_reducible rfl
    rotate_left
    ·simp only [Act.put, lA, lB, lC, i64_w, i32_w]
     rfl
    refine pure_ (i := 3) (N := some 34) (v := ?_) (a' := ?_) #[bF, bT, bT, bT, bF, bF, bF, bF, bF, bF, bF, bF, bF] rfl rfl (by kernel_rfl) (fun _ _ _ h => h) (Or.inl ⟨by rfl, ?_⟩) ?_ ?_
    rotate_left
    ·intro w'
     go_simp
     with_reducible rfl
    rotate_left
    ·simp only [Act.put, lA, lB, lC, i64_w, i32_w]
     rfl
    refine pure_ (i := 5) (N := some 36) (v := ?_) (a' := ?_) #[bF, bT, bT, bT, bF, bT, bF, bF, bF, bF, bF, bF, bF] rfl rfl (by kernel_rfl) (fun _ _ _ h => h) (Or.inl ⟨by rfl, ?_⟩) ?_ ?_
    rotate_left
    ·intro w'
     go_simp
     with_reducible rfl
    rotate_left
    ·simp only [Act.put, lA, lB, lC, i64_w, i32_w]
     rfl
    refine take_ (i := 0) (N := some 31) (v := ?_) (a' := ?_) #[bT, bT, bT, bT, bF, bT, bF, bF, bF, bF, bF, bF, bF] rfl rfl (by kernel_rfl) (fun _ _ _ h => h) (Or.inl ⟨by rfl, ?_⟩) hHeld ?_ ?_
    rotate_left
    ·rintro w' ⟨s0, s1, s2, s3, s4, s5, s6, s7, s8, s9⟩
     go_simp
     with_reducible rfl
    rotate_left
    ·simp only [Act.put, lA, lB, lC, i64_w, i32_w]
     rfl
    refine take_ (i := 4) (N := some 35) (v := ?_) (a' := ?_) #[bT, bT, bT, bT, bT, bT, bF, bF, bF, bF, bF, bF, bF] rfl rfl (by kernel_rfl) (fun _ _ _ h => h) (Or.inl ⟨by rfl, ?_⟩) hHeld ?_ ?_
    rotate_left
    ·rintro w' ⟨s0, s1, s2, s3, s4, s5, s6, s7, s8, s9⟩
     go_simp
     with_reducible rfl
    rotate_left
    ·simp only [Act.put, lA, lB, lC, i64_w, i32_w]
     rfl
    refine take_ (i := 6) (N := some 37) (v := ?_) (a' := ?_) #[bT, bT, bT, bT, bT, bT, bT, bF, bF, bF, bF, bF, bF] rfl rfl (by kernel_rfl) (fun _ _ _ h => h) (Or.inl ⟨by rfl, ?_⟩) hHeld ?_ ?_
    rotate_left
    ·rintro w' ⟨s0, s1, s2, s3, s4, s5, s6, s7, s8, s9⟩
     go_simp
     with_reducible rfl
    rotate_left
    ·simp only [Act.put, lA, lB, lC, i64_w, i32_w]
     rfl
    refine pure_ (i := 7) (N := some 38) (v := ?_) (a' := ?_) #[bT, bT, bT, bT, bT, bT, bT, bT, bF, bF, bF, bF, bF] rfl rfl (by kernel_rfl) (fun _ _ _ h => h) (Or.inl ⟨by rfl, ?_⟩) ?_ ?_
    rotate_left
    ·intro w'
     go_simp
     with_reducible rfl
    rotate_left
    ·simp only [Act.put, lA, lB, lC, i64_w, i32_w]
     rfl
    refine take_ (i := 8) (N := some 39) (v := ?_) (a' := ?_) #[bT, bT, bT, bT, bT, bT, bT, bT, bT, bF, bF, bF, bF] rfl rfl (by kernel_rfl) (fun _ _ _ h => h) (Or.inl ⟨by rfl, ?_⟩) hHeld ?_ ?_
    rotate_left
    ·rintro w' ⟨s0, s1, s2, s3, s4, s5, s6, s7, s8, s9⟩
     go_simp
     with_reducible rfl
    rotate_left
    ·simp only [Act.put, lA, lB, lC, i64_w, i32_w]
     rfl
    refine pure_ (i := 9) (N := some 40) (v := ?_) (a' := ?_) #[bT, bT, bT, bT, bT, bT, bT, bT, bT, bT, bF, bF, bF] rfl rfl (by kernel_rfl) (fun _ _ _ h => h) (Or.inl ⟨by rfl, ?_⟩) ?_ ?_
    rotate_left
    ·intro w'
     go_simp
     with_reducible rfl
    rotate_left
    ·simp only [Act.put, lA, lB, lC, i64_w, i32_w]
     rfl
    refine one_ (i := 10) (N := none) #[bT, bT, bT, bT, bT, bT, bT, bT, bT, bT, bT, bF, bF] rfl rfl (by kernel_rfl) (by decide) (fun K hK => ?_)
    refine skip_ (w1 := ?_) (by rfl) rfl ?_ ?_
    rotate_left
    ·go_simp
     rfl
    refine hK.out _ _ ⟨(blkn ((HB3.out.apart5 hne1 (.bool true) (.int .i64 term) (.bool true) (.bool alone) (.slice C4 no.length c4)).bel (Below.refl _ _).drew) 0 _ rfl), (blkn ((HB3.out.apart5 hne1 (.bool true) (.int .i64 term) (.bool true) (.bool alone) (.slice C4 no.length c4)).bel (Below.refl _ _).drew) 1 _ rfl), (blkn ((HB3.out.apart5 hne1 (.bool true) (.int .i64 term) (.bool true) (.bool alone) (.slice C4 no.length c4)).bel (Below.refl _ _).drew) 2 _ rfl), (blkn ((HB3.out.apart5 hne1 (.bool true) (.int .i64 term) (.bool true) (.bool alone) (.slice C4 no.length c4)).bel (Below.refl _ _).drew) 3 _ rfl), (blkn ((HB3.out.apart5 hne1 (.bool true) (.int .i64 term) (.bool true) (.bool alone) (.slice C4 no.length c4)).bel (Below.refl _ _).drew) 4 _ rfl), (blkn ((HP3.out.apart5 hne2 (.bool true) (.int .i64 term) (.bool true) (.bool alone) (.slice C4 no.length c4)).bel (Below.refl _ _).drew) 0 _ rfl), (blkn ((HP3.out.apart5 hne2 (.bool true) (.int .i64 term) (.bool true) (.bool alone) (.slice C4 no.length c4)).bel (Below.refl _ _).drew) 1 _ rfl), (blkn ((HP3.out.apart5 hne2 (.bool true) (.int .i64 term) (.bool true) (.bool alone) (.slice C4 no.length c4)).bel (Below.refl _ _).drew) 2 _ rfl), (blkn ((HP3.out.apart5 hne2 (.bool true) (.int .i64 term) (.bool true) (.bool alone) (.slice C4 no.length c4)).bel (Below.refl _ _).drew) 3 _ rfl), (blkn ((HP3.out.apart5 hne2 (.bool true) (.int .i64 term) (.bool true) (.bool alone) (.slice C4 no.length c4)).bel (Below.refl _ _).drew) 4 _ rfl)⟩ (fun hHeld => ?_)
    clear hK K
    refine last_ (i := 11) (N := none) #[bT, bT, bT, bT, bT, bT, bT, bT, bT, bT, bT, bT, bF] rfl rfl (by kernel_rfl) (by decide) (fun K hK => ?_)
    refine skip_ (w1 := ?_) (by rfl) rfl ?_ ?_
    rotate_left
    ·go_simp
     rfl
    refine hK.out _ _ ?_
    clear hK K
    refine pure_ (i := 12) (N := some 8) (v := ?_) (a' := ?_) #[bT, bT, bT, bT, bT, bT, bT, bT, bT, bT, bT, bT, bT] rfl rfl (by kernel_rfl) (fun _ _ _ h => h) (Or.inl ⟨by rfl, ?_⟩) ?_ ?_
    rotate_left
    ·intro w'
     go_simp
     with_reducible rfl
    rotate_left
    ·simp only [Act.put, lA, lB, lC, i64_w, i32_w]
     rfl
    refine done_ (by kernel_rfl) ?_
    go_wp2
    have hr2 := hr_.sets [.bool true, .int .i64 term, .bool true, .bool alone, .slice C4 no.length c4] rfl
    have hm2 := Blk.apartS (show w.heap.size + 1 + 1 ≠ w.heap.size + 1 + 1 + 1 by omega) [.bool true, .int .i64 term, .bool true, .bool alone, .slice C4 no.length c4] 0 hm_
    have hm3 := hm2.sets [.int .i64 1, .int .i64 (3 - id), .int .i64 term, .int .i64 no.length, .int .i64 o.kind, .string o.name, .string o.dest, .int .i64 o.n, .string o.text, .slice none 0 0] rfl
    have hr3 := Blk.apartS (show w.heap.size + 1 + 1 + 1 ≠ w.heap.size + 1 + 1 by omega) [.int .i64 1, .int .i64 (3 - id), .int .i64 term, .int .i64 no.length, .int .i64 o.kind, .string o.name, .string o.dest, .int .i64 o.n, .string o.text, .slice none 0 0] 0 hr2
    have hT3 := (HV3.out.sets hr_ (by decide) [.bool true, .int .i64 term, .bool true, .bool alone, .slice C4 no.length c4]).sets hm2 (by decide) [.int .i64 1, .int .i64 (3 - id), .int .i64 term, .int .i64 no.length, .int .i64 o.kind, .string o.name, .string o.dest, .int .i64 o.n, .string o.text, .slice none 0 0]
    have hg3 := grown_sets (show w.heap.size ≤ w.heap.size + 1 + 1 + 1 by omega) [.int .i64 1, .int .i64 (3 - id), .int .i64 term, .int .i64 no.length, .int .i64 o.kind, .string o.name, .string o.dest, .int .i64 o.n, .string o.text, .slice none 0 0] 0 (grown_sets (show w.heap.size ≤ w.heap.size + 1 + 1 by omega) [.bool true, .int .i64 term, .bool true, .bool alone, .slice C4 no.length c4] 0 HG3.out)
    have hdd : Bel (wsets (wsets W2 (w.heap.size + 1 + 1) 0 [.bool true, .int .i64 term, .bool true, .bool alone, .slice C4 no.length c4]) (w.heap.size + 1 + 1 + 1) 0 [.int .i64 1, .int .i64 (3 - id), .int .i64 term, .int .i64 no.length, .int .i64 o.kind, .string o.name, .string o.dest, .int .i64 o.n, .string o.text, .slice none 0 0]) (wsets (wsets W2 (w.heap.size + 1 + 1) 0 [.bool true, .int .i64 term, .bool true, .bool alone, .slice C4 no.length c4]) (w.heap.size + 1 + 1 + 1) 0 [.int .i64 1, .int .i64 (3 - id), .int .i64 term, .int .i64 no.length, .int .i64 o.kind, .string o.name, .string o.dest, .int .i64 o.n, .string o.text, .slice none 0 0]).drew := (Below.refl _ _).drew
    refine bodyPost_ret (results_list (rs := [.cell 6 25, .cell 7 29, .tmp 8]) rfl (by simp) (.cell (w.heap.size + 1 + 1) 25 #[.bool true, .int .i64 term, .bool true, .bool alone, .slice C4 no.length c4] (0, 0) _ rfl (hr3.bel hdd) Tryz.underlying25 rfl (by kernel_rfl) (.cell (w.heap.size + 1 + 1 + 1) 29 #[.int .i64 1, .int .i64 (3 - id), .int .i64 term, .int .i64 no.length, .int .i64 o.kind, .string o.name, .string o.dest, .int .i64 o.n, .string o.text, .slice none 0 0] (0, 0) _ rfl (hm3.bel hdd) Tryz.underlying29 rfl (by kernel_rfl) (.tmp .nil)))) rfl ?_
    have hnoo := HNO.out
    have hlnn := HLE_.out
    clear HNO HLE_
    subst hnoo
    exact ⟨_, (by rw [hlnn]; rfl), hT3.bel hdd, grown_tr hg3 (grown_of_bel hdd _), HAT.out, fun h => by cases h⟩
end
end Go.Proofs.YtccllgpaafgjaaaGreat

namespace Go.Proofs.YtccllgpaafgjaaaGreat
open Go.RowKit Go.Proofs.YtccllgpaafgjaaaGreatW.PrintWords Go.Proofs.YtccllgpaafgjaaaGreatW.PrintLast
def askRB (n : Node) (id : Int) (o : Op) : Bool := (nodeOk n && inR id 1 2) && askB n o
def askRN (n : Node) (id : Int) (o : Op) : Node := if nodeOk n && inR id 1 2 then askN n o else noN
def askRM (n : Node) (id : Int) (o : Op) : Msg := if nodeOk n && inR id 1 2 then askM n id o else noM
theorem askR_no {n : Node} {id : Int} {o : Op} (h : (nodeOk n && inR id 1 2) = false) : askRB n id o = false ∧ askRN n id o = noN ∧ askRM n id o = noM := by
 unfold askRB askRN askRM; rw [h]; exact ⟨rfl, rfl, rfl⟩
theorem askR_yes {n : Node} {id : Int} {o : Op} (h : (nodeOk n && inR id 1 2) = true) : askRB n id o = askB n o ∧ askRN n id o = askN n o ∧ askRM n id o = askM n id o := by
 unfold askRB askRN askRM; rw [h]; exact ⟨rfl, rfl, rfl⟩
theorem inR12 {id : Int} (h : inR id 1 2 = true) : id = 1 ∨ id = 2 := by
 unfold inR at h; simp at h; omega
def AnsT (w : World) (n : Node) (m : Msg) (ok : Bool) (e : Ending) (w' : World) : Prop :=
 ∃ v, e = .returned (.tuple #[.agg #[.bool n.up, .int .i64 n.term, .bool n.leads, .bool n.alone, v], .agg #[.int .i64 m.kind, .int .i64 m.whom, .int .i64 m.term, .int .i64 m.n, .int .i64 m.op.kind, .string m.op.name, .string m.op.dest, .int .i64 m.op.n, .string m.op.text, .slice none 0 0], .bool ok]) ∧ OwnT w' w.heap.size v n.ops ∧ Bel w w'
def AnsO (w : World) (n : Node) (m : Msg) (ok : Bool) (e : Ending) (w' : World) : Prop :=
 ∃ v, e = .returned (.tuple #[.agg #[.bool n.up, .int .i64 n.term, .bool n.leads, .bool n.alone, v], .agg #[.int .i64 m.kind, .int .i64 m.whom, .int .i64 m.term, .int .i64 m.n, .int .i64 m.op.kind, .string m.op.name, .string m.op.dest, .int .i64 m.op.n, .string m.op.text, .slice none 0 0], .bool ok]) ∧ OwnO w' w.heap.size v n.ops ∧ Bel w w'
theorem ownO_nil (w : World) (base : Nat) : OwnO w base (.slice none 0 0) [] := World.ownsRow_nil _ _ _ _
theorem ownO_noN (w : World) (base : Nat) : OwnO w base (.slice none 0 0) noN.ops := ownO_nil w base
theorem ownT_nil (w : World) (base : Nat) : OwnT w base (.slice none 0 0) [] := OwnO.tail (ownO_nil w base)
theorem ownT_noN (w : World) (base : Nat) : OwnT w base (.slice none 0 0) noN.ops := ownT_nil w base
section
variable {w : World} {A : Option Addr} {c : Nat} {n : Node} {id : Int} {o : Op}
set_option maxHeartbeats 32000000 in
set_option maxRecDepth 10000 in
theorem specNodeAsk_c (hC : kOp.C w A n.ops.length n.ops) (ho : SmallOs n.ops) (hso : SmallO o) :
  Calls Tryz.prog 40 #[.agg #[.bool n.up, .int .i64 n.term, .bool n.leads, .bool n.alone, .slice A n.ops.length c], .int .i64 id, .agg #[.int .i64 o.kind, .string o.name, .string o.dest, .int .i64 o.n, .string o.text]] w (AnsT w (askRN n id o) (askRM n id o) (askRB n id o)) := by
 have HC := Lib.hid hC
 have HO := Lib.hid ho
 have HSO := Lib.hid hso
 obtain ⟨z, hz⟩ : ∃ z, askRB n id o = z := ⟨_, rfl⟩
 obtain ⟨xn, hxn⟩ : ∃ x, askRN n id o = x := ⟨_, rfl⟩
 obtain ⟨xm, hxm⟩ : ∃ x, askRM n id o = x := ⟨_, rfl⟩
 rw [hz, hxn, hxm]
 have HZ := Lib.hid (And.intro hz (And.intro hxn hxm))
 clear hC ho hso hz hxn hxm
 go_enter Tryz.func40, Tryz.ntmps40
 go_wp2_with fail
 have hN : Blk ((((w.alloc (.cells #[.bool n.up, .int .i64 n.term, .bool n.leads, .bool n.alone, .slice A n.ops.length c] 25)).alloc (.cells #[.int .i64 o.kind, .string o.name, .string o.dest, .int .i64 o.n, .string o.text] 27)).alloc (.cells #[.bool false, .int .i64 0, .bool false, .bool false, .slice none 0 0] 25)).alloc (.cells #[.int .i64 0, .int .i64 0, .int .i64 0, .int .i64 0, .int .i64 0, .string ⟨#[]⟩, .string ⟨#[]⟩, .int .i64 0, .string ⟨#[]⟩, .slice none 0 0] 29)) w.heap.size #[.bool n.up, .int .i64 n.term, .bool n.leads, .bool n.alone, .slice A n.ops.length c] 25 := (((Blk.new _ _ _).alloc _).alloc _).alloc _
 have hP : Blk ((((w.alloc (.cells #[.bool n.up, .int .i64 n.term, .bool n.leads, .bool n.alone, .slice A n.ops.length c] 25)).alloc (.cells #[.int .i64 o.kind, .string o.name, .string o.dest, .int .i64 o.n, .string o.text] 27)).alloc (.cells #[.bool false, .int .i64 0, .bool false, .bool false, .slice none 0 0] 25)).alloc (.cells #[.int .i64 0, .int .i64 0, .int .i64 0, .int .i64 0, .int .i64 0, .string ⟨#[]⟩, .string ⟨#[]⟩, .int .i64 0, .string ⟨#[]⟩, .slice none 0 0] 29)) (w.heap.size + 1) #[.int .i64 o.kind, .string o.name, .string o.dest, .int .i64 o.n, .string o.text] 27 := ((Blk.nw2 w _ _ _).alloc _).alloc _
 have hR : Blk ((((w.alloc (.cells #[.bool n.up, .int .i64 n.term, .bool n.leads, .bool n.alone, .slice A n.ops.length c] 25)).alloc (.cells #[.int .i64 o.kind, .string o.name, .string o.dest, .int .i64 o.n, .string o.text] 27)).alloc (.cells #[.bool false, .int .i64 0, .bool false, .bool false, .slice none 0 0] 25)).alloc (.cells #[.int .i64 0, .int .i64 0, .int .i64 0, .int .i64 0, .int .i64 0, .string ⟨#[]⟩, .string ⟨#[]⟩, .int .i64 0, .string ⟨#[]⟩, .slice none 0 0] 29)) (w.heap.size + 1 + 1) #[.bool false, .int .i64 0, .bool false, .bool false, .slice none 0 0] 25 := by have := Blk.new ((w.alloc (.cells #[.bool n.up, .int .i64 n.term, .bool n.leads, .bool n.alone, .slice A n.ops.length c] 25)).alloc (.cells #[.int .i64 o.kind, .string o.name, .string o.dest, .int .i64 o.n, .string o.text] 27)) #[.bool false, .int .i64 0, .bool false, .bool false, .slice none 0 0] 25; simpa using this.alloc _
 have hM : Blk ((((w.alloc (.cells #[.bool n.up, .int .i64 n.term, .bool n.leads, .bool n.alone, .slice A n.ops.length c] 25)).alloc (.cells #[.int .i64 o.kind, .string o.name, .string o.dest, .int .i64 o.n, .string o.text] 27)).alloc (.cells #[.bool false, .int .i64 0, .bool false, .bool false, .slice none 0 0] 25)).alloc (.cells #[.int .i64 0, .int .i64 0, .int .i64 0, .int .i64 0, .int .i64 0, .string ⟨#[]⟩, .string ⟨#[]⟩, .int .i64 0, .string ⟨#[]⟩, .slice none 0 0] 29)) (w.heap.size + 1 + 1 + 1) #[.int .i64 0, .int .i64 0, .int .i64 0, .int .i64 0, .int .i64 0, .string ⟨#[]⟩, .string ⟨#[]⟩, .int .i64 0, .string ⟨#[]⟩, .slice none 0 0] 29 := by have := Blk.new (((w.alloc (.cells #[.bool n.up, .int .i64 n.term, .bool n.leads, .bool n.alone, .slice A n.ops.length c] 25)).alloc (.cells #[.int .i64 o.kind, .string o.name, .string o.dest, .int .i64 o.n, .string o.text] 27)).alloc (.cells #[.bool false, .int .i64 0, .bool false, .bool false, .slice none 0 0] 25)) #[.int .i64 0, .int .i64 0, .int .i64 0, .int .i64 0, .int .i64 0, .string ⟨#[]⟩, .string ⟨#[]⟩, .int .i64 0, .string ⟨#[]⟩, .slice none 0 0] 29; simpa using this
 have hW : Bel w ((((w.alloc (.cells #[.bool n.up, .int .i64 n.term, .bool n.leads, .bool n.alone, .slice A n.ops.length c] 25)).alloc (.cells #[.int .i64 o.kind, .string o.name, .string o.dest, .int .i64 o.n, .string o.text] 27)).alloc (.cells #[.bool false, .int .i64 0, .bool false, .bool false, .slice none 0 0] 25)).alloc (.cells #[.int .i64 0, .int .i64 0, .int .i64 0, .int .i64 0, .int .i64 0, .string ⟨#[]⟩, .string ⟨#[]⟩, .int .i64 0, .string ⟨#[]⟩, .slice none 0 0] 29)) := bel_alloc (bel_alloc (bel_alloc (bel_alloc (Below.refl _ _) _) _) _) _
 generalize ((((w.alloc (.cells #[.bool n.up, .int .i64 n.term, .bool n.leads, .bool n.alone, .slice A n.ops.length c] 25)).alloc (.cells #[.int .i64 o.kind, .string o.name, .string o.dest, .int .i64 o.n, .string o.text] 27)).alloc (.cells #[.bool false, .int .i64 0, .bool false, .bool false, .slice none 0 0] 25)).alloc (.cells #[.int .i64 0, .int .i64 0, .int .i64 0, .int .i64 0, .int .i64 0, .string ⟨#[]⟩, .string ⟨#[]⟩, .int .i64 0, .string ⟨#[]⟩, .slice none 0 0] 29)) = W0 at hN hP hR hM hW ⊢
 cases hk : nodeOk n with
 | false =>
  have hb := specNodeOk_c (c := c) (kOp_keep HC.out hW) HO.out
  rw [hk] at hb
  obtain ⟨rfl, rfl, rfl⟩ : false = z ∧ noN = xn ∧ noM = xm := by
   have h := askR_no (n := n) (id := id) (o := o) (by rw [hk]; rfl)
   have h2 := HZ.out
   exact ⟨h.1.symm.trans h2.1, h.2.1.symm.trans h2.2.1, h.2.2.symm.trans h2.2.2⟩
  clear hk HZ
  refine hb.mono ?_
  rintro e w1 ⟨rfl, hb1⟩
  have HRS := Lib.hid (hR.bel hb1)
  have HM := Lib.hid (hM.bel hb1)
  have HW := Lib.hid (hW.tr hb1)
  clear hb hb1 hN hP hR hM hW
  have hr_ := HRS.out
  have hm_ := HM.out
  have r0 := blkn hr_ 0 _ rfl
  have r1 := blkn hr_ 1 _ rfl
  have r2 := blkn hr_ 2 _ rfl
  have r3 := blkn hr_ 3 _ rfl
  have r4 := blkn hr_ 4 _ rfl
  have m0 := blkn hm_ 0 _ rfl
  have m1 := blkn hm_ 1 _ rfl
  have m2 := blkn hm_ 2 _ rfl
  have m3 := blkn hm_ 3 _ rfl
  have m4 := blkn hm_ 4 _ rfl
  have m5 := blkn hm_ 5 _ rfl
  have m6 := blkn hm_ 6 _ rfl
  have m7 := blkn hm_ 7 _ rfl
  have m8 := blkn hm_ 8 _ rfl
  have m9 := blkn hm_ 9 _ rfl
  have rf0 := hr_.free 0
  have rf1 := hr_.free 1
  have rf2 := hr_.free 2
  have rf3 := hr_.free 3
  have rf4 := hr_.free 4
  have mf0 := hm_.free 0
  have mf1 := hm_.free 1
  have mf2 := hm_.free 2
  have mf3 := hm_.free 3
  have mf4 := hm_.free 4
  have mf5 := hm_.free 5
  have mf6 := hm_.free 6
  have mf7 := hm_.free 7
  have mf8 := hm_.free 8
  have mf9 := hm_.free 9
  have ry := hr_.lt
  have my := hm_.lt
  go_wp2
  have hr2 := hr_.sets [.bool false, .int .i64 0, .bool false, .bool false, .slice none 0 0] rfl
  have hm2 := Blk.apartS (show w.heap.size + 1 + 1 ≠ w.heap.size + 1 + 1 + 1 by omega) [.bool false, .int .i64 0, .bool false, .bool false, .slice none 0 0] 0 hm_
  have hm3 := hm2.sets [.int .i64 0, .int .i64 0, .int .i64 0, .int .i64 0, .int .i64 0, .string ⟨#[]⟩, .string ⟨#[]⟩, .int .i64 0, .string ⟨#[]⟩, .slice none 0 0] rfl
  have hr3 := Blk.apartS (show w.heap.size + 1 + 1 + 1 ≠ w.heap.size + 1 + 1 by omega) [.int .i64 0, .int .i64 0, .int .i64 0, .int .i64 0, .int .i64 0, .string ⟨#[]⟩, .string ⟨#[]⟩, .int .i64 0, .string ⟨#[]⟩, .slice none 0 0] 0 hr2
  have hw3 := bel_sets (show w.heap.size ≤ w.heap.size + 1 + 1 + 1 by omega) [.int .i64 0, .int .i64 0, .int .i64 0, .int .i64 0, .int .i64 0, .string ⟨#[]⟩, .string ⟨#[]⟩, .int .i64 0, .string ⟨#[]⟩, .slice none 0 0] 0 (bel_sets (show w.heap.size ≤ w.heap.size + 1 + 1 by omega) [.bool false, .int .i64 0, .bool false, .bool false, .slice none 0 0] 0 HW.out)
  refine bodyPost_ret (results_list (rs := [.cell 6 25, .cell 7 29, .tmp 8]) rfl (by simp) (.cell (w.heap.size + 1 + 1) 25 #[.bool false, .int .i64 0, .bool false, .bool false, .slice none 0 0] (0, 0) _ rfl hr3 Tryz.underlying25 rfl (by kernel_rfl) (.cell (w.heap.size + 1 + 1 + 1) 29 #[.int .i64 0, .int .i64 0, .int .i64 0, .int .i64 0, .int .i64 0, .string ⟨#[]⟩, .string ⟨#[]⟩, .int .i64 0, .string ⟨#[]⟩, .slice none 0 0] (0, 0) _ rfl hm3 Tryz.underlying29 rfl (by kernel_rfl) (.tmp .nil)))) rfl ?_
  exact ⟨.slice none 0 0, rfl, ownT_noN _ _, hw3⟩
 | true =>
  have hb := specNodeOk_c (c := c) (kOp_keep HC.out hW) HO.out
  rw [hk] at hb
  refine hb.mono ?_
  rintro e w1 ⟨rfl, hb1⟩
  have HN1 := Lib.hid (hN.bel hb1)
  have HP1 := Lib.hid (hP.bel hb1)
  have HRS := Lib.hid (hR.bel hb1)
  have HM := Lib.hid (hM.bel hb1)
  have HW := Lib.hid (hW.tr hb1)
  clear hb hb1 hN hP hR hM hW
  cases hi : inR id 1 2 with
  | false =>
   obtain ⟨rfl, rfl, rfl⟩ : false = z ∧ noN = xn ∧ noM = xm := by
    have h := askR_no (n := n) (id := id) (o := o) (by rw [hk, hi]; rfl)
    have h2 := HZ.out
    exact ⟨h.1.symm.trans h2.1, h.2.1.symm.trans h2.2.1, h.2.2.symm.trans h2.2.2⟩
   have hl := l6In_c id 1 2 w1
   rw [hi] at hl
   clear hk HZ hi
   go_wp2_with fail
   refine hl.mono ?_
   rintro e w2 ⟨rfl, rfl⟩
   clear hl HN1 HP1
   have hr_ := HRS.out
   have hm_ := HM.out
   have r0 := blkn hr_ 0 _ rfl
   have r1 := blkn hr_ 1 _ rfl
   have r2 := blkn hr_ 2 _ rfl
   have r3 := blkn hr_ 3 _ rfl
   have r4 := blkn hr_ 4 _ rfl
   have m0 := blkn hm_ 0 _ rfl
   have m1 := blkn hm_ 1 _ rfl
   have m2 := blkn hm_ 2 _ rfl
   have m3 := blkn hm_ 3 _ rfl
   have m4 := blkn hm_ 4 _ rfl
   have m5 := blkn hm_ 5 _ rfl
   have m6 := blkn hm_ 6 _ rfl
   have m7 := blkn hm_ 7 _ rfl
   have m8 := blkn hm_ 8 _ rfl
   have m9 := blkn hm_ 9 _ rfl
   have rf0 := hr_.free 0
   have rf1 := hr_.free 1
   have rf2 := hr_.free 2
   have rf3 := hr_.free 3
   have rf4 := hr_.free 4
   have mf0 := hm_.free 0
   have mf1 := hm_.free 1
   have mf2 := hm_.free 2
   have mf3 := hm_.free 3
   have mf4 := hm_.free 4
   have mf5 := hm_.free 5
   have mf6 := hm_.free 6
   have mf7 := hm_.free 7
   have mf8 := hm_.free 8
   have mf9 := hm_.free 9
   have ry := hr_.lt
   have my := hm_.lt
   go_wp2
   have hr2 := hr_.sets [.bool false, .int .i64 0, .bool false, .bool false, .slice none 0 0] rfl
   have hm2 := Blk.apartS (show w.heap.size + 1 + 1 ≠ w.heap.size + 1 + 1 + 1 by omega) [.bool false, .int .i64 0, .bool false, .bool false, .slice none 0 0] 0 hm_
   have hm3 := hm2.sets [.int .i64 0, .int .i64 0, .int .i64 0, .int .i64 0, .int .i64 0, .string ⟨#[]⟩, .string ⟨#[]⟩, .int .i64 0, .string ⟨#[]⟩, .slice none 0 0] rfl
   have hr3 := Blk.apartS (show w.heap.size + 1 + 1 + 1 ≠ w.heap.size + 1 + 1 by omega) [.int .i64 0, .int .i64 0, .int .i64 0, .int .i64 0, .int .i64 0, .string ⟨#[]⟩, .string ⟨#[]⟩, .int .i64 0, .string ⟨#[]⟩, .slice none 0 0] 0 hr2
   have hw3 := bel_sets (show w.heap.size ≤ w.heap.size + 1 + 1 + 1 by omega) [.int .i64 0, .int .i64 0, .int .i64 0, .int .i64 0, .int .i64 0, .string ⟨#[]⟩, .string ⟨#[]⟩, .int .i64 0, .string ⟨#[]⟩, .slice none 0 0] 0 (bel_sets (show w.heap.size ≤ w.heap.size + 1 + 1 by omega) [.bool false, .int .i64 0, .bool false, .bool false, .slice none 0 0] 0 HW.out)
   refine bodyPost_ret (results_list (rs := [.cell 6 25, .cell 7 29, .tmp 8]) rfl (by simp) (.cell (w.heap.size + 1 + 1) 25 #[.bool false, .int .i64 0, .bool false, .bool false, .slice none 0 0] (0, 0) _ rfl hr3 Tryz.underlying25 rfl (by kernel_rfl) (.cell (w.heap.size + 1 + 1 + 1) 29 #[.int .i64 0, .int .i64 0, .int .i64 0, .int .i64 0, .int .i64 0, .string ⟨#[]⟩, .string ⟨#[]⟩, .int .i64 0, .string ⟨#[]⟩, .slice none 0 0] (0, 0) _ rfl hm3 Tryz.underlying29 rfl (by kernel_rfl) (.tmp .nil)))) rfl ?_
   exact ⟨.slice none 0 0, rfl, ownT_noN _ _, hw3⟩
  | true =>
   obtain ⟨hz1, hz2, hz3⟩ : askB n o = z ∧ askN n o = xn ∧ askM n id o = xm := by
    have h := askR_yes (n := n) (id := id) (o := o) (by rw [hk, hi]; rfl)
    have h2 := HZ.out
    exact ⟨h.1.symm.trans h2.1, h.2.1.symm.trans h2.2.1, h.2.2.symm.trans h2.2.2⟩
   obtain ⟨q, -, hq, -⟩ := nodePF_yes hk
   have HQ := Lib.hid hq
   have HZ1 := Lib.hid (And.intro hz1 (And.intro hz2 hz3))
   have HI := Lib.hid (inR12 hi)
   have hl := l6In_c id 1 2 w1
   rw [hi] at hl
   clear hk HZ hi hz1 hz2 hz3 hq
   go_wp2_with fail
   refine hl.mono ?_
   rintro e w2 ⟨rfl, rfl⟩
   clear hl
   go_wp2
   have hd : Bel w1 w1.drew := (Below.refl _ _).drew
   have HN := Lib.hid (HN1.out.bel hd)
   have HP := Lib.hid (HP1.out.bel hd)
   have HR := Lib.hid (HRS.out.bel hd)
   have HMM := Lib.hid (HM.out.bel hd)
   have HWW := Lib.hid (HW.out.tr hd)
   clear hd HN1 HP1 HRS HM HW
   have hne1 : w.heap.size + 1 + 1 ≠ w.heap.size := by omega
   have hne2 : w.heap.size + 1 + 1 ≠ w.heap.size + 1 := by omega
   have hask := Lib.hid (fun (W : World) {B : Option Addr} {d : Nat} (h : OwnT W w.heap.size (.slice B n.ops.length d) n.ops) (hs : w.heap.size ≤ W.heap.size) => (by
    have h2 := l21Ask_c (up := n.up) (leads := n.leads) (alone := n.alone) (term := n.term) (id := id) (o := o) h hs HO.out HSO.out HI.out HQ.out
    have e1 : (⟨n.up, n.term, n.leads, n.alone, n.ops⟩ : Node) = n := rfl
    rw [e1, HZ1.out.1, HZ1.out.2.1, HZ1.out.2.2] at h2
    exact h2 : Calls Tryz.prog 112 #[.agg #[.bool n.up, .int .i64 n.term, .bool n.leads, .bool n.alone, .slice B n.ops.length d], .int .i64 id, .agg #[.int .i64 o.kind, .string o.name, .string o.dest, .int .i64 o.n, .string o.text]] W (AskedN w.heap.size W xn xm (.slice B n.ops.length d) z)))
   refine start_ (n := 11) (S := fun w' => w'.cell? ⟨w.heap.size, 0, none⟩ = some (.bool n.up) ∧ w'.cell? ⟨w.heap.size, 1, none⟩ = some (.int .i64 n.term) ∧ w'.cell? ⟨w.heap.size, 2, none⟩ = some (.bool n.leads) ∧ w'.cell? ⟨w.heap.size, 3, none⟩ = some (.bool n.alone) ∧ w'.cell? ⟨w.heap.size, 4, none⟩ = some (.slice A n.ops.length c) ∧ w'.cell? ⟨w.heap.size + 1, 0, none⟩ = some (.int .i64 o.kind) ∧ w'.cell? ⟨w.heap.size + 1, 1, none⟩ = some (.string o.name) ∧ w'.cell? ⟨w.heap.size + 1, 2, none⟩ = some (.string o.dest) ∧ w'.cell? ⟨w.heap.size + 1, 3, none⟩ = some (.int .i64 o.n) ∧ w'.cell? ⟨w.heap.size + 1, 4, none⟩ = some (.string o.text)) (ds := [9]) #[bF, bF, bF, bF, bF, bF, bF, bF, bF, bF, bF] (by kernel_rfl) rfl rfl ⟨(blkn HN.out 0 _ rfl), (blkn HN.out 1 _ rfl), (blkn HN.out 2 _ rfl), (blkn HN.out 3 _ rfl), (blkn HN.out 4 _ rfl), (blkn HP.out 0 _ rfl), (blkn HP.out 1 _ rfl), (blkn HP.out 2 _ rfl), (blkn HP.out 3 _ rfl), (blkn HP.out 4 _ rfl)⟩ (fun hHeld => ?_)
   refine pure_ (i := 2) (N := some 21) (v := ?_) (a' := ?_) #[bF, bF, bT, bF, bF, bF, bF, bF, bF, bF, bF] rfl rfl (by kernel_rfl) (fun _ _ _ h => h) (Or.inl ⟨by rfl, ?_⟩) ?_ ?_
   rotate_left
   ·intro w'
    go_simp
    with_reducible rfl
   rotate_left
   ·simp only [Act.put, lA, lB, lC, i64_w, i32_w]
    rfl
   refine take_ (i := 0) (N := some 19) (v := ?_) (a' := ?_) #[bT, bF, bT, bF, bF, bF, bF, bF, bF, bF, bF] rfl rfl (by kernel_rfl) (fun _ _ _ h => h) (Or.inl ⟨by rfl, ?_⟩) hHeld ?_ ?_
   rotate_left
   ·rintro w' ⟨s0, s1, s2, s3, s4, s5, s6, s7, s8, s9⟩
    go_simp
    with_reducible rfl
   rotate_left
   ·simp only [Act.put, lA, lB, lC, i64_w, i32_w]
    rfl
   refine take_ (i := 3) (N := some 22) (v := ?_) (a' := ?_) #[bT, bF, bT, bT, bF, bF, bF, bF, bF, bF, bF] rfl rfl (by kernel_rfl) (fun _ _ _ h => h) (Or.inl ⟨by rfl, ?_⟩) hHeld ?_ ?_
   rotate_left
   ·rintro w' ⟨s0, s1, s2, s3, s4, s5, s6, s7, s8, s9⟩
    go_simp
    with_reducible rfl
   rotate_left
   ·simp only [Act.put, lA, lB, lC, i64_w, i32_w]
    rfl
   refine one_ (i := 1) (N := some 20) #[bT, bT, bT, bT, bF, bF, bF, bF, bF, bF, bF] rfl rfl (by kernel_rfl) (by decide) (fun K hK => ?_)
   refine goes_ Tryz.func92 (by kernel_rfl) rfl #[.agg #[.bool n.up, .int .i64 n.term, .bool n.leads, .bool n.alone, .slice A n.ops.length c]] (by rfl) rfl rfl (by simp only [List.map_toArray, List.map_cons, List.map_nil]; rfl) ?_
   with_reducible refine ((l21Copy_c (n := n) (kOp_keep HC.out HWW.out) HO.out.len)).mono ?_
   rintro e w3 ⟨v, rfl, hoo, hb3⟩
   obtain ⟨B, d, rfl, hd, hCd⟩ := hoo.reads
   have HV3 : Hid (OwnT w3 w.heap.size (.slice B n.ops.length d) n.ops) := Lib.hid (OwnO.tail (show OwnO w3 w.heap.size _ _ from own_lower hoo HWW.out.size))
   have HN2 := Lib.hid (HN.out.bel hb3)
   have HP2 := Lib.hid (HP.out.bel hb3)
   have HR2 := Lib.hid (HR.out.bel hb3)
   have HM2 := Lib.hid (HMM.out.bel hb3)
   have HW2 := Lib.hid (HWW.out.tr hb3)
   have LT2 := Lib.hid (show w.heap.size + 1 + 1 + 1 < w1.heap.size from HMM.out.lt)
   have NB2 := Lib.hid (show ∀ k, (Value.slice B n.ops.length d).ownBlock = some k → w1.heap.size ≤ k from fun k hk => (own_base hoo k hk))
   clear hoo hb3 hd hCd
   refine ⟨_, rfl, ?_⟩
   refine hK.out _ _ ⟨(blkn HN2.out 0 _ rfl), (blkn HN2.out 1 _ rfl), (blkn HN2.out 2 _ rfl), (blkn HN2.out 3 _ rfl), (blkn HN2.out 4 _ rfl), (blkn HP2.out 0 _ rfl), (blkn HP2.out 1 _ rfl), (blkn HP2.out 2 _ rfl), (blkn HP2.out 3 _ rfl), (blkn HP2.out 4 _ rfl)⟩ (fun hHeld => ?_)
   clear hK K
   refine norm_ (a' := ?_) ?_ ?_
   rotate_left
   ·show Act.put _ (some 20) _ = _
    simp only [Act.put, lA, lB, lC, i64_w, i32_w]
    rfl
   refine one_ (i := 4) (N := some 23) #[bT, bT, bT, bT, bT, bF, bF, bF, bF, bF, bF] rfl rfl (by kernel_rfl) (by decide) (fun K hK => ?_)
   refine goes_ Tryz.func112 (by kernel_rfl) rfl #[.agg #[.bool n.up, .int .i64 n.term, .bool n.leads, .bool n.alone, .slice B n.ops.length d], .int .i64 id, .agg #[.int .i64 o.kind, .string o.name, .string o.dest, .int .i64 o.n, .string o.text]] (by rfl) rfl rfl (by simp only [List.map_toArray, List.map_cons, List.map_nil]; rfl) ?_
   with_reducible refine ((hask.out _ HV3.out HW2.out.size)).mono ?_
   rintro e w4 ⟨v, rfl, hv, hg, hat, hvf⟩
   have HN3 := Lib.hid (HN2.out.grown hg (fun e => by have := NB2.out _ e.symm; have := LT2.out; omega))
   have HP3 := Lib.hid (HP2.out.grown hg (fun e => by have := NB2.out _ e.symm; have := LT2.out; omega))
   have HR3 := Lib.hid (HR2.out.grown hg (fun e => by have := NB2.out _ e.symm; have := LT2.out; omega))
   have HM3 := Lib.hid (HM2.out.grown hg (fun e => by have := NB2.out _ e.symm; have := LT2.out; omega))
   have HW3 := Lib.hid (HW2.out.grown hg HW2.out.size (fun k e => by have := NB2.out _ e; have := LT2.out; omega))
   have HV4 := Lib.hid hv
   obtain ⟨E, f, rfl, hd, hCd⟩ := hv.reads
   clear hat hvf hg hv hd hCd
   have hr_ := HR3.out
   have hm_ := HM3.out
   have r0 := blkn hr_ 0 _ rfl
   have r1 := blkn hr_ 1 _ rfl
   have r2 := blkn hr_ 2 _ rfl
   have r3 := blkn hr_ 3 _ rfl
   have r4 := blkn hr_ 4 _ rfl
   have m0 := blkn hm_ 0 _ rfl
   have m1 := blkn hm_ 1 _ rfl
   have m2 := blkn hm_ 2 _ rfl
   have m3 := blkn hm_ 3 _ rfl
   have m4 := blkn hm_ 4 _ rfl
   have m5 := blkn hm_ 5 _ rfl
   have m6 := blkn hm_ 6 _ rfl
   have m7 := blkn hm_ 7 _ rfl
   have m8 := blkn hm_ 8 _ rfl
   have m9 := blkn hm_ 9 _ rfl
   have rf0 := hr_.free 0
   have rf1 := hr_.free 1
   have rf2 := hr_.free 2
   have rf3 := hr_.free 3
   have rf4 := hr_.free 4
   have mf0 := hm_.free 0
   have mf1 := hm_.free 1
   have mf2 := hm_.free 2
   have mf3 := hm_.free 3
   have mf4 := hm_.free 4
   have mf5 := hm_.free 5
   have mf6 := hm_.free 6
   have mf7 := hm_.free 7
   have mf8 := hm_.free 8
   have mf9 := hm_.free 9
   have ry := hr_.lt
   have my := hm_.lt
   refine ⟨_, rfl, ?_⟩
   refine hK.out _ _ ⟨(blkn HN3.out 0 _ rfl), (blkn HN3.out 1 _ rfl), (blkn HN3.out 2 _ rfl), (blkn HN3.out 3 _ rfl), (blkn HN3.out 4 _ rfl), (blkn HP3.out 0 _ rfl), (blkn HP3.out 1 _ rfl), (blkn HP3.out 2 _ rfl), (blkn HP3.out 3 _ rfl), (blkn HP3.out 4 _ rfl)⟩ (fun hHeld => ?_)
   clear hK K
   refine norm_ (a' := ?_) ?_ ?_
   rotate_left
   ·show Act.put _ (some 23) _ = _
    simp only [Act.put, lA, lB, lC, i64_w, i32_w]
    rfl
   refine pure_ (i := 5) (N := some 24) (v := ?_) (a' := ?_) #[bT, bT, bT, bT, bT, bT, bF, bF, bF, bF, bF] rfl rfl (by kernel_rfl) (fun _ _ _ h => h) (Or.inl ⟨by rfl, ?_⟩) ?_ ?_
   rotate_left
   ·intro w'
    go_simp
    with_reducible rfl
   rotate_left
   ·simp only [Act.put, lA, lB, lC, i64_w, i32_w]
    rfl
   refine pure_ (i := 6) (N := some 25) (v := ?_) (a' := ?_) #[bT, bT, bT, bT, bT, bT, bT, bF, bF, bF, bF] rfl rfl (by kernel_rfl) (fun _ _ _ h => h) (Or.inl ⟨by rfl, ?_⟩) ?_ ?_
   rotate_left
   ·intro w'
    go_simp
    with_reducible rfl
   rotate_left
   ·simp only [Act.put, lA, lB, lC, i64_w, i32_w]
    rfl
   refine pure_ (i := 7) (N := some 26) (v := ?_) (a' := ?_) #[bT, bT, bT, bT, bT, bT, bT, bT, bF, bF, bF] rfl rfl (by kernel_rfl) (fun _ _ _ h => h) (Or.inl ⟨by rfl, ?_⟩) ?_ ?_
   rotate_left
   ·intro w'
    go_simp
    with_reducible rfl
   rotate_left
   ·simp only [Act.put, lA, lB, lC, i64_w, i32_w]
    rfl
   refine one_ (i := 8) (N := none) #[bT, bT, bT, bT, bT, bT, bT, bT, bT, bF, bF] rfl rfl (by kernel_rfl) (by decide) (fun K hK => ?_)
   refine skip_ (w1 := ?_) (by rfl) rfl ?_ ?_
   rotate_left
   ·go_simp
    rfl
   refine hK.out _ _ ⟨(blkn (HN3.out.apart5 hne1 (.bool xn.up) (.int .i64 xn.term) (.bool xn.leads) (.bool xn.alone) (.slice E xn.ops.length f)) 0 _ rfl), (blkn (HN3.out.apart5 hne1 (.bool xn.up) (.int .i64 xn.term) (.bool xn.leads) (.bool xn.alone) (.slice E xn.ops.length f)) 1 _ rfl), (blkn (HN3.out.apart5 hne1 (.bool xn.up) (.int .i64 xn.term) (.bool xn.leads) (.bool xn.alone) (.slice E xn.ops.length f)) 2 _ rfl), (blkn (HN3.out.apart5 hne1 (.bool xn.up) (.int .i64 xn.term) (.bool xn.leads) (.bool xn.alone) (.slice E xn.ops.length f)) 3 _ rfl), (blkn (HN3.out.apart5 hne1 (.bool xn.up) (.int .i64 xn.term) (.bool xn.leads) (.bool xn.alone) (.slice E xn.ops.length f)) 4 _ rfl), (blkn (HP3.out.apart5 hne2 (.bool xn.up) (.int .i64 xn.term) (.bool xn.leads) (.bool xn.alone) (.slice E xn.ops.length f)) 0 _ rfl), (blkn (HP3.out.apart5 hne2 (.bool xn.up) (.int .i64 xn.term) (.bool xn.leads) (.bool xn.alone) (.slice E xn.ops.length f)) 1 _ rfl), (blkn (HP3.out.apart5 hne2 (.bool xn.up) (.int .i64 xn.term) (.bool xn.leads) (.bool xn.alone) (.slice E xn.ops.length f)) 2 _ rfl), (blkn (HP3.out.apart5 hne2 (.bool xn.up) (.int .i64 xn.term) (.bool xn.leads) (.bool xn.alone) (.slice E xn.ops.length f)) 3 _ rfl), (blkn (HP3.out.apart5 hne2 (.bool xn.up) (.int .i64 xn.term) (.bool xn.leads) (.bool xn.alone) (.slice E xn.ops.length f)) 4 _ rfl)⟩ (fun hHeld => ?_)
   clear hK K
   refine last_ (i := 9) (N := none) #[bT, bT, bT, bT, bT, bT, bT, bT, bT, bT, bF] rfl rfl (by kernel_rfl) (by decide) (fun K hK => ?_)
   refine skip_ (w1 := ?_) (by rfl) rfl ?_ ?_
   rotate_left
   ·go_simp
    rfl
   refine hK.out _ _ ?_
   clear hK K
   refine pure_ (i := 10) (N := some 8) (v := ?_) (a' := ?_) #[bT, bT, bT, bT, bT, bT, bT, bT, bT, bT, bT] rfl rfl (by kernel_rfl) (fun _ _ _ h => h) (Or.inl ⟨by rfl, ?_⟩) ?_ ?_
   rotate_left
   ·intro w'
    go_simp
    with_reducible rfl
   rotate_left
   ·simp only [Act.put, lA, lB, lC, i64_w, i32_w]
    rfl
   refine done_ (by kernel_rfl) ?_
   go_wp2
   have hr2 := hr_.sets [.bool xn.up, .int .i64 xn.term, .bool xn.leads, .bool xn.alone, .slice E xn.ops.length f] rfl
   have hm2 := Blk.apartS (show w.heap.size + 1 + 1 ≠ w.heap.size + 1 + 1 + 1 by omega) [.bool xn.up, .int .i64 xn.term, .bool xn.leads, .bool xn.alone, .slice E xn.ops.length f] 0 hm_
   have hm3 := hm2.sets [.int .i64 xm.kind, .int .i64 xm.whom, .int .i64 xm.term, .int .i64 xm.n, .int .i64 xm.op.kind, .string xm.op.name, .string xm.op.dest, .int .i64 xm.op.n, .string xm.op.text, .slice none 0 0] rfl
   have hr3 := Blk.apartS (show w.heap.size + 1 + 1 + 1 ≠ w.heap.size + 1 + 1 by omega) [.int .i64 xm.kind, .int .i64 xm.whom, .int .i64 xm.term, .int .i64 xm.n, .int .i64 xm.op.kind, .string xm.op.name, .string xm.op.dest, .int .i64 xm.op.n, .string xm.op.text, .slice none 0 0] 0 hr2
   have hT3 := (HV4.out.sets hr_ (by decide) [.bool xn.up, .int .i64 xn.term, .bool xn.leads, .bool xn.alone, .slice E xn.ops.length f]).sets hm2 (by decide) [.int .i64 xm.kind, .int .i64 xm.whom, .int .i64 xm.term, .int .i64 xm.n, .int .i64 xm.op.kind, .string xm.op.name, .string xm.op.dest, .int .i64 xm.op.n, .string xm.op.text, .slice none 0 0]
   have hw3 := bel_sets (show w.heap.size ≤ w.heap.size + 1 + 1 + 1 by omega) [.int .i64 xm.kind, .int .i64 xm.whom, .int .i64 xm.term, .int .i64 xm.n, .int .i64 xm.op.kind, .string xm.op.name, .string xm.op.dest, .int .i64 xm.op.n, .string xm.op.text, .slice none 0 0] 0 (bel_sets (show w.heap.size ≤ w.heap.size + 1 + 1 by omega) [.bool xn.up, .int .i64 xn.term, .bool xn.leads, .bool xn.alone, .slice E xn.ops.length f] 0 HW3.out)
   refine bodyPost_ret (results_list (rs := [.cell 6 25, .cell 7 29, .tmp 8]) rfl (by simp) (.cell (w.heap.size + 1 + 1) 25 #[.bool xn.up, .int .i64 xn.term, .bool xn.leads, .bool xn.alone, .slice E xn.ops.length f] (0, 0) _ rfl hr3 Tryz.underlying25 rfl (by kernel_rfl) (.cell (w.heap.size + 1 + 1 + 1) 29 #[.int .i64 xm.kind, .int .i64 xm.whom, .int .i64 xm.term, .int .i64 xm.n, .int .i64 xm.op.kind, .string xm.op.name, .string xm.op.dest, .int .i64 xm.op.n, .string xm.op.text, .slice none 0 0] (0, 0) _ rfl hm3 Tryz.underlying29 rfl (by kernel_rfl) (.tmp .nil)))) rfl ?_
   exact ⟨_, rfl, hT3, hw3⟩
end
end Go.Proofs.YtccllgpaafgjaaaGreat

namespace Go.Proofs.YtccllgpaafgjaaaGreat
open Go.RowKit Go.Proofs.YtccllgpaafgjaaaGreatW.PrintWords Go.Proofs.YtccllgpaafgjaaaGreatW.PrintLast
theorem OwnO.setsN {base b : Nat} {v : Value} {os : List Op} (hne : v.ownBlock = none ∨ v.ownBlock ≠ some b) (vs : List Value) : ∀ {W : World} (j : Nat), OwnO W base v os → OwnO (wsets W b j vs) base v os := by
 induction vs with
 | nil => intro W j h; exact h
 | cons u vs ih =>
  intro W j h
  have hg : W.grownBy (W.setCell ⟨b, j, none⟩ u) (some b) := ⟨rfl, rfl, rfl, by simp, fun k hk hne => by
   have : b ≠ k := fun e => hne (by rw [e])
   simp [World.setCell, Array.getElem?_modify, this]⟩
  exact ih _ (h.kept hg hne)
theorem OwnO.sets {W : World} {base b : Nat} {v : Value} {os : List Op} {cs : Array Value} {t : TypeId} (h : OwnO W base v os) (hB : Blk W b cs t) (ht : 27 ≠ t) (vs : List Value) : OwnO (wsets W b 0 vs) base v os :=
 OwnO.setsN (.inr fun e => own_ne h hB ht e.symm) vs 0 h
set_option maxHeartbeats 1000000 in
theorem run_append_ownO {w : World} {base : Nat} {v : Value} {os : List Op} (h : OwnO w base v os) (ty : TypeId) (x : Op) (a : Addr) (c : Nat) (hx : ∀ j u, (encO x)[j]? = some u → w.cell? (a.add j) = some u) (hl : os.length ≤ 1048576) (hbase : base ≤ w.heap.size) :
  ∃ v' w', (Builtin.append_ #[23, 23] ty #[v, .slice (some a) 1 c]).run Tryz.prog w = .ok v' w' ∧ OwnO w' base v' (os ++ [x]) ∧ w.grownBy w' v.ownBlock ∧ (v'.ownBlock = v.ownBlock ∨ ∃ b, v'.ownBlock = some b ∧ w.heap.size ≤ b) := by
 obtain ⟨i, hi, hzz⟩ := Option.map_eq_some_iff.1 info_opR
 simp only [Prod.mk.injEq] at hzz
 obtain ⟨hz0, hz1, hz2⟩ := hzz
 have h1 : ∀ u ∈ encO x, u.oneCell' = true := by intro u hu; simp [encO] at hu; rcases hu with rfl | rfl | rfl | rfl | rfl <;> rfl
 obtain ⟨v1, w1, hr, h2, hg, _, hat⟩ := run_append_own_at (P := Tryz.prog) w base 23 ty 27 i _ 5 64 Tryz.underlying23 hi hz0 hz1 hz2 rfl (by decide) _ _ _ h a 1 c (encO x) rfl hx h1 (by simp only [maxLen]; omega) (by omega) hbase
 refine ⟨v1, w1, hr, ?_, hg, ?_⟩
 ·unfold OwnO
  rw [List.length_append, List.flatMap_append]
  simpa using h2
 ·rcases hat with hat | hat
  ·exact .inl hat
  ·exact .inr ⟨_, hat, Nat.le_refl _⟩
theorem own_append2 {ops rest : List Oper} {P : Array Oper} {o : Oper} {a : Act} {Q : Exit → Act → World → Prop} {W : World} {base : Nat} {v : Value} {os : List Op} (hgd : o.guard = none) (s x : Operand)
  (ho : o.op = .call { callee := .builtin .append, args := #[s, x], argTypes := #[23, 23] }) (hs : a.eval s = v) (y : Op) (ad : Addr) (c : Nat) (hx : a.eval x = .slice (some ad) 1 c)
  (hc : ∀ j u, (encO y)[j]? = some u → W.cell? (ad.add j) = some u) (h : OwnO W base v os) (hl : os.length ≤ 1048576) (hbase : base ≤ W.heap.size)
  (K : ∀ v1 w1, OwnO w1 base v1 (os ++ [y]) → W.grownBy w1 v.ownBlock → (v1.ownBlock = v.ownBlock ∨ ∃ b, v1.ownBlock = some b ∧ W.heap.size ≤ b) → wpList Tryz.prog P Q rest (a.put o.dst v1) w1) :
  wpList Tryz.prog P Q (o :: rest) a W := by
 obtain ⟨v1, w1, hr1, h1, hg, hat⟩ := run_append_ownO h o.type y ad c hc hl hbase
 refine wpList_plain hgd fun K' hK => ?_
 unfold Oper.wp execOp
 simp only [ho, resolve, invoke, builtin, Sem.run_bind, Sem.run_pure, Result.andThen_ok, List.map_toArray, List.map_cons, List.map_nil, hs, hx, hr1]
 exact hK _ _ (K v1 w1 h1 hg hat)
theorem blk_other {w : World} {b2 : Nat} {v2 : Value} {os : List Op} (h2 : OwnO w b2 v2 os) {b : Nat} {cs : Array Value} {t : TypeId} (hB : Blk w b cs t) (hne : 27 ≠ t) : some b ≠ v2.ownBlock := blk_otherT (OwnO.tail h2) hB hne
theorem isNode_c (id : Int) (w : World) : Calls Tryz.prog 94 #[.int .i64 id] w (Same (.bool (inR id 1 2)) w) := by
 go_enter Tryz.func94, Tryz.ntmps94
 go_wp2_with (go_at_call 110; refine (within_c id 1 2 _).mono ?_; rintro e w' ⟨rfl, rfl⟩)
 go_ret
 exact ⟨rfl, rfl⟩
section
variable {w : World} {A : Option Addr} {c : Nat} {up leads alone : Bool} {term id : Int} {ops : List Op} {o : Op}
set_option maxHeartbeats 32000000 in
set_option maxRecDepth 10000 in
theorem implNodeAsk_f (hC : kOp.C w A ops.length ops) (ho : SmallOs ops) (hso : SmallO o) :
  Calls Tryz.prog 43 #[.agg #[.bool up, .int .i64 term, .bool leads, .bool alone, .slice A ops.length c], .int .i64 id, .agg #[.int .i64 o.kind, .string o.name, .string o.dest, .int .i64 o.n, .string o.text]] w (AnsO w (askRN ⟨up, term, leads, alone, ops⟩ id o) (askRM ⟨up, term, leads, alone, ops⟩ id o) (askRB ⟨up, term, leads, alone, ops⟩ id o)) := by
 have HC := Lib.hid hC
 have HO := Lib.hid ho
 have HSO := Lib.hid hso
 have hl9 := ho.len
 obtain ⟨z, hz⟩ : ∃ z, askRB ⟨up, term, leads, alone, ops⟩ id o = z := ⟨_, rfl⟩
 obtain ⟨xn, hxn⟩ : ∃ x, askRN ⟨up, term, leads, alone, ops⟩ id o = x := ⟨_, rfl⟩
 obtain ⟨xm, hxm⟩ : ∃ x, askRM ⟨up, term, leads, alone, ops⟩ id o = x := ⟨_, rfl⟩
 rw [hz, hxn, hxm]
 have HZ := Lib.hid (And.intro hz (And.intro hxn hxm))
 clear hC ho hso hz hxn hxm
 go_enter Tryz.func43, Tryz.ntmps43
 go_wp2_with fail
 have hN : Blk ((((w.alloc (.cells #[.bool up, .int .i64 term, .bool leads, .bool alone, .slice A ops.length c] 25)).alloc (.cells #[.int .i64 o.kind, .string o.name, .string o.dest, .int .i64 o.n, .string o.text] 27)).alloc (.cells #[.bool false, .int .i64 0, .bool false, .bool false, .slice none 0 0] 25)).alloc (.cells #[.int .i64 0, .int .i64 0, .int .i64 0, .int .i64 0, .int .i64 0, .string ⟨#[]⟩, .string ⟨#[]⟩, .int .i64 0, .string ⟨#[]⟩, .slice none 0 0] 29)) w.heap.size #[.bool up, .int .i64 term, .bool leads, .bool alone, .slice A ops.length c] 25 := (((Blk.new _ _ _).alloc _).alloc _).alloc _
 have hP : Blk ((((w.alloc (.cells #[.bool up, .int .i64 term, .bool leads, .bool alone, .slice A ops.length c] 25)).alloc (.cells #[.int .i64 o.kind, .string o.name, .string o.dest, .int .i64 o.n, .string o.text] 27)).alloc (.cells #[.bool false, .int .i64 0, .bool false, .bool false, .slice none 0 0] 25)).alloc (.cells #[.int .i64 0, .int .i64 0, .int .i64 0, .int .i64 0, .int .i64 0, .string ⟨#[]⟩, .string ⟨#[]⟩, .int .i64 0, .string ⟨#[]⟩, .slice none 0 0] 29)) (w.heap.size + 1) #[.int .i64 o.kind, .string o.name, .string o.dest, .int .i64 o.n, .string o.text] 27 := ((Blk.nw2 w _ _ _).alloc _).alloc _
 have hR : Blk ((((w.alloc (.cells #[.bool up, .int .i64 term, .bool leads, .bool alone, .slice A ops.length c] 25)).alloc (.cells #[.int .i64 o.kind, .string o.name, .string o.dest, .int .i64 o.n, .string o.text] 27)).alloc (.cells #[.bool false, .int .i64 0, .bool false, .bool false, .slice none 0 0] 25)).alloc (.cells #[.int .i64 0, .int .i64 0, .int .i64 0, .int .i64 0, .int .i64 0, .string ⟨#[]⟩, .string ⟨#[]⟩, .int .i64 0, .string ⟨#[]⟩, .slice none 0 0] 29)) (w.heap.size + 1 + 1) #[.bool false, .int .i64 0, .bool false, .bool false, .slice none 0 0] 25 := by have := Blk.new ((w.alloc (.cells #[.bool up, .int .i64 term, .bool leads, .bool alone, .slice A ops.length c] 25)).alloc (.cells #[.int .i64 o.kind, .string o.name, .string o.dest, .int .i64 o.n, .string o.text] 27)) #[.bool false, .int .i64 0, .bool false, .bool false, .slice none 0 0] 25; simpa using this.alloc _
 have hM : Blk ((((w.alloc (.cells #[.bool up, .int .i64 term, .bool leads, .bool alone, .slice A ops.length c] 25)).alloc (.cells #[.int .i64 o.kind, .string o.name, .string o.dest, .int .i64 o.n, .string o.text] 27)).alloc (.cells #[.bool false, .int .i64 0, .bool false, .bool false, .slice none 0 0] 25)).alloc (.cells #[.int .i64 0, .int .i64 0, .int .i64 0, .int .i64 0, .int .i64 0, .string ⟨#[]⟩, .string ⟨#[]⟩, .int .i64 0, .string ⟨#[]⟩, .slice none 0 0] 29)) (w.heap.size + 1 + 1 + 1) #[.int .i64 0, .int .i64 0, .int .i64 0, .int .i64 0, .int .i64 0, .string ⟨#[]⟩, .string ⟨#[]⟩, .int .i64 0, .string ⟨#[]⟩, .slice none 0 0] 29 := by have := Blk.new (((w.alloc (.cells #[.bool up, .int .i64 term, .bool leads, .bool alone, .slice A ops.length c] 25)).alloc (.cells #[.int .i64 o.kind, .string o.name, .string o.dest, .int .i64 o.n, .string o.text] 27)).alloc (.cells #[.bool false, .int .i64 0, .bool false, .bool false, .slice none 0 0] 25)) #[.int .i64 0, .int .i64 0, .int .i64 0, .int .i64 0, .int .i64 0, .string ⟨#[]⟩, .string ⟨#[]⟩, .int .i64 0, .string ⟨#[]⟩, .slice none 0 0] 29; simpa using this
 have hW : Bel w ((((w.alloc (.cells #[.bool up, .int .i64 term, .bool leads, .bool alone, .slice A ops.length c] 25)).alloc (.cells #[.int .i64 o.kind, .string o.name, .string o.dest, .int .i64 o.n, .string o.text] 27)).alloc (.cells #[.bool false, .int .i64 0, .bool false, .bool false, .slice none 0 0] 25)).alloc (.cells #[.int .i64 0, .int .i64 0, .int .i64 0, .int .i64 0, .int .i64 0, .string ⟨#[]⟩, .string ⟨#[]⟩, .int .i64 0, .string ⟨#[]⟩, .slice none 0 0] 29)) := bel_alloc (bel_alloc (bel_alloc (bel_alloc (Below.refl _ _) _) _) _) _
 generalize ((((w.alloc (.cells #[.bool up, .int .i64 term, .bool leads, .bool alone, .slice A ops.length c] 25)).alloc (.cells #[.int .i64 o.kind, .string o.name, .string o.dest, .int .i64 o.n, .string o.text] 27)).alloc (.cells #[.bool false, .int .i64 0, .bool false, .bool false, .slice none 0 0] 25)).alloc (.cells #[.int .i64 0, .int .i64 0, .int .i64 0, .int .i64 0, .int .i64 0, .string ⟨#[]⟩, .string ⟨#[]⟩, .int .i64 0, .string ⟨#[]⟩, .slice none 0 0] 29)) = W0 at hN hP hR hM hW ⊢
 have hb := implNodeOk_c (n := ⟨up, term, leads, alone, ops⟩) (c := c) (kOp_keep HC.out hW) HO.out
 cases hk : nodeOk ⟨up, term, leads, alone, ops⟩ with
 | false =>
  rw [hk] at hb
  obtain ⟨rfl, rfl, rfl⟩ : false = z ∧ noN = xn ∧ noM = xm := by
   have h := askR_no (n := ⟨up, term, leads, alone, ops⟩) (id := id) (o := o) (by rw [hk]; rfl)
   have h2 := HZ.out
   exact ⟨h.1.symm.trans h2.1, h.2.1.symm.trans h2.2.1, h.2.2.symm.trans h2.2.2⟩
  clear hk HZ
  refine hb.mono ?_
  rintro e w1 ⟨rfl, hb1⟩
  have HRS := Lib.hid (hR.bel hb1)
  have HM := Lib.hid (hM.bel hb1)
  have HW := Lib.hid (hW.tr hb1)
  clear hb hb1 hN hP hR hM hW
  have hr_ := HRS.out
  have hm_ := HM.out
  have r0 := blkn hr_ 0 _ rfl
  have r1 := blkn hr_ 1 _ rfl
  have r2 := blkn hr_ 2 _ rfl
  have r3 := blkn hr_ 3 _ rfl
  have r4 := blkn hr_ 4 _ rfl
  have m0 := blkn hm_ 0 _ rfl
  have m1 := blkn hm_ 1 _ rfl
  have m2 := blkn hm_ 2 _ rfl
  have m3 := blkn hm_ 3 _ rfl
  have m4 := blkn hm_ 4 _ rfl
  have m5 := blkn hm_ 5 _ rfl
  have m6 := blkn hm_ 6 _ rfl
  have m7 := blkn hm_ 7 _ rfl
  have m8 := blkn hm_ 8 _ rfl
  have m9 := blkn hm_ 9 _ rfl
  have rf0 := hr_.free 0
  have rf1 := hr_.free 1
  have rf2 := hr_.free 2
  have rf3 := hr_.free 3
  have rf4 := hr_.free 4
  have mf0 := hm_.free 0
  have mf1 := hm_.free 1
  have mf2 := hm_.free 2
  have mf3 := hm_.free 3
  have mf4 := hm_.free 4
  have mf5 := hm_.free 5
  have mf6 := hm_.free 6
  have mf7 := hm_.free 7
  have mf8 := hm_.free 8
  have mf9 := hm_.free 9
  have ry := hr_.lt
  have my := hm_.lt
  go_wp2
  have hr2 := hr_.sets [.bool false, .int .i64 0, .bool false, .bool false, .slice none 0 0] rfl
  have hm2 := Blk.apartS (show w.heap.size + 1 + 1 ≠ w.heap.size + 1 + 1 + 1 by omega) [.bool false, .int .i64 0, .bool false, .bool false, .slice none 0 0] 0 hm_
  have hm3 := hm2.sets [.int .i64 0, .int .i64 0, .int .i64 0, .int .i64 0, .int .i64 0, .string ⟨#[]⟩, .string ⟨#[]⟩, .int .i64 0, .string ⟨#[]⟩, .slice none 0 0] rfl
  have hr3 := Blk.apartS (show w.heap.size + 1 + 1 + 1 ≠ w.heap.size + 1 + 1 by omega) [.int .i64 0, .int .i64 0, .int .i64 0, .int .i64 0, .int .i64 0, .string ⟨#[]⟩, .string ⟨#[]⟩, .int .i64 0, .string ⟨#[]⟩, .slice none 0 0] 0 hr2
  have hw3 := bel_sets (show w.heap.size ≤ w.heap.size + 1 + 1 + 1 by omega) [.int .i64 0, .int .i64 0, .int .i64 0, .int .i64 0, .int .i64 0, .string ⟨#[]⟩, .string ⟨#[]⟩, .int .i64 0, .string ⟨#[]⟩, .slice none 0 0] 0 (bel_sets (show w.heap.size ≤ w.heap.size + 1 + 1 by omega) [.bool false, .int .i64 0, .bool false, .bool false, .slice none 0 0] 0 HW.out)
  refine bodyPost_ret (results_list (rs := [.cell 6 25, .cell 7 29, .tmp 8]) rfl (by simp) (.cell (w.heap.size + 1 + 1) 25 #[.bool false, .int .i64 0, .bool false, .bool false, .slice none 0 0] (0, 0) _ rfl hr3 Tryz.underlying25 rfl (by kernel_rfl) (.cell (w.heap.size + 1 + 1 + 1) 29 #[.int .i64 0, .int .i64 0, .int .i64 0, .int .i64 0, .int .i64 0, .string ⟨#[]⟩, .string ⟨#[]⟩, .int .i64 0, .string ⟨#[]⟩, .slice none 0 0] (0, 0) _ rfl hm3 Tryz.underlying29 rfl (by kernel_rfl) (.tmp .nil)))) rfl ?_
  exact ⟨.slice none 0 0, rfl, ownO_noN _ _, hw3⟩
 | true =>
  rw [hk] at hb
  refine hb.mono ?_
  rintro e w1 ⟨rfl, hb1⟩
  have HN1 := Lib.hid (hN.bel hb1)
  have HP1 := Lib.hid (hP.bel hb1)
  have HRS := Lib.hid (hR.bel hb1)
  have HM := Lib.hid (hM.bel hb1)
  have HW := Lib.hid (hW.tr hb1)
  clear hb hb1 hN hP hR hM hW
  have hl := isNode_c id w1
  cases hi : inR id 1 2 with
  | false =>
   obtain ⟨rfl, rfl, rfl⟩ : false = z ∧ noN = xn ∧ noM = xm := by
    have h := askR_no (n := ⟨up, term, leads, alone, ops⟩) (id := id) (o := o) (by rw [hk, hi]; rfl)
    have h2 := HZ.out
    exact ⟨h.1.symm.trans h2.1, h.2.1.symm.trans h2.2.1, h.2.2.symm.trans h2.2.2⟩
   rw [hi] at hl
   clear hk HZ hi
   go_wp2_with fail
   refine hl.mono ?_
   rintro e w2 ⟨rfl, rfl⟩
   clear hl HN1 HP1
   have hr_ := HRS.out
   have hm_ := HM.out
   have r0 := blkn hr_ 0 _ rfl
   have r1 := blkn hr_ 1 _ rfl
   have r2 := blkn hr_ 2 _ rfl
   have r3 := blkn hr_ 3 _ rfl
   have r4 := blkn hr_ 4 _ rfl
   have m0 := blkn hm_ 0 _ rfl
   have m1 := blkn hm_ 1 _ rfl
   have m2 := blkn hm_ 2 _ rfl
   have m3 := blkn hm_ 3 _ rfl
   have m4 := blkn hm_ 4 _ rfl
   have m5 := blkn hm_ 5 _ rfl
   have m6 := blkn hm_ 6 _ rfl
   have m7 := blkn hm_ 7 _ rfl
   have m8 := blkn hm_ 8 _ rfl
   have m9 := blkn hm_ 9 _ rfl
   have rf0 := hr_.free 0
   have rf1 := hr_.free 1
   have rf2 := hr_.free 2
   have rf3 := hr_.free 3
   have rf4 := hr_.free 4
   have mf0 := hm_.free 0
   have mf1 := hm_.free 1
   have mf2 := hm_.free 2
   have mf3 := hm_.free 3
   have mf4 := hm_.free 4
   have mf5 := hm_.free 5
   have mf6 := hm_.free 6
   have mf7 := hm_.free 7
   have mf8 := hm_.free 8
   have mf9 := hm_.free 9
   have ry := hr_.lt
   have my := hm_.lt
   go_wp2
   have hr2 := hr_.sets [.bool false, .int .i64 0, .bool false, .bool false, .slice none 0 0] rfl
   have hm2 := Blk.apartS (show w.heap.size + 1 + 1 ≠ w.heap.size + 1 + 1 + 1 by omega) [.bool false, .int .i64 0, .bool false, .bool false, .slice none 0 0] 0 hm_
   have hm3 := hm2.sets [.int .i64 0, .int .i64 0, .int .i64 0, .int .i64 0, .int .i64 0, .string ⟨#[]⟩, .string ⟨#[]⟩, .int .i64 0, .string ⟨#[]⟩, .slice none 0 0] rfl
   have hr3 := Blk.apartS (show w.heap.size + 1 + 1 + 1 ≠ w.heap.size + 1 + 1 by omega) [.int .i64 0, .int .i64 0, .int .i64 0, .int .i64 0, .int .i64 0, .string ⟨#[]⟩, .string ⟨#[]⟩, .int .i64 0, .string ⟨#[]⟩, .slice none 0 0] 0 hr2
   have hw3 := bel_sets (show w.heap.size ≤ w.heap.size + 1 + 1 + 1 by omega) [.int .i64 0, .int .i64 0, .int .i64 0, .int .i64 0, .int .i64 0, .string ⟨#[]⟩, .string ⟨#[]⟩, .int .i64 0, .string ⟨#[]⟩, .slice none 0 0] 0 (bel_sets (show w.heap.size ≤ w.heap.size + 1 + 1 by omega) [.bool false, .int .i64 0, .bool false, .bool false, .slice none 0 0] 0 HW.out)
   refine bodyPost_ret (results_list (rs := [.cell 6 25, .cell 7 29, .tmp 8]) rfl (by simp) (.cell (w.heap.size + 1 + 1) 25 #[.bool false, .int .i64 0, .bool false, .bool false, .slice none 0 0] (0, 0) _ rfl hr3 Tryz.underlying25 rfl (by kernel_rfl) (.cell (w.heap.size + 1 + 1 + 1) 29 #[.int .i64 0, .int .i64 0, .int .i64 0, .int .i64 0, .int .i64 0, .string ⟨#[]⟩, .string ⟨#[]⟩, .int .i64 0, .string ⟨#[]⟩, .slice none 0 0] (0, 0) _ rfl hm3 Tryz.underlying29 rfl (by kernel_rfl) (.tmp .nil)))) rfl ?_
   exact ⟨.slice none 0 0, rfl, ownO_noN _ _, hw3⟩
  | true =>
   obtain ⟨hz1, hz2, hz3⟩ : askB ⟨up, term, leads, alone, ops⟩ o = z ∧ askN ⟨up, term, leads, alone, ops⟩ o = xn ∧ askM ⟨up, term, leads, alone, ops⟩ id o = xm := by
    have h := askR_yes (n := ⟨up, term, leads, alone, ops⟩) (id := id) (o := o) (by rw [hk, hi]; rfl)
    have h2 := HZ.out
    exact ⟨h.1.symm.trans h2.1, h.2.1.symm.trans h2.2.1, h.2.2.symm.trans h2.2.2⟩
   obtain ⟨q, -, hq, -⟩ := nodePF_yes hk
   have hq : runP newP ops = some q := hq
   have HQ := Lib.hid hq
   have HZ1 := Lib.hid (show (up && (leads && addNB ⟨up, term, leads, alone, ops⟩ o)) = z from hz1)
   have HXN := Lib.hid (show (if z then (⟨up, term, leads, alone, ops ++ [o]⟩ : Node) else ⟨up, term, leads, alone, ops⟩) = xn by rw [← hz2, ← hz1]; rfl)
   have HXM := Lib.hid (show (if z then (⟨1, 3 - id, term, ops.length + 1, o, []⟩ : Msg) else noM) = xm by rw [← hz3, ← hz1]; rfl)
   have HI := Lib.hid (inR12 hi)
   rw [hi] at hl
   clear hk HZ hi hz1 hz2 hz3 hq
   go_wp2_with fail
   refine hl.mono ?_
   rintro e w2 ⟨rfl, rfl⟩
   clear hl
   have n0 := blkn HN1.out 0 _ rfl
   have n1 := blkn HN1.out 1 _ rfl
   have n2 := blkn HN1.out 2 _ rfl
   have n3 := blkn HN1.out 3 _ rfl
   have n4 := blkn HN1.out 4 _ rfl
   have ny := HN1.out.lt
   go_wp2_with fail
   refine (implNodeClone_c (n := ⟨up, term, leads, alone, ops⟩) (c := c) (kOp_keep HC.out HW.out) hl9).mono ?_
   rintro e w3 ⟨v, rfl, hoo, hb3⟩
   obtain ⟨B, d, rfl, -, -⟩ := hoo.reads
   have HV := Lib.hid (show OwnO w3 w.heap.size (.slice B ops.length d) ops from own_lower hoo HW.out.size)
   have NB := Lib.hid (show ∀ k, (Value.slice B ops.length d).ownBlock = some k → w1.heap.size ≤ k from fun k hk => own_base hoo k hk)
   replace HN1 := Lib.hid (HN1.out.bel hb3)
   replace HP1 := Lib.hid (HP1.out.bel hb3)
   replace HRS := Lib.hid (HRS.out.bel hb3)
   have LT := Lib.hid (show w.heap.size + 1 + 1 + 1 < w1.heap.size from HM.out.lt)
   replace HM := Lib.hid (HM.out.bel hb3)
   replace HW := Lib.hid (HW.out.tr hb3)
   clear hoo hb3 n0 n1 n2 n3 n4 ny
   cases up with
   | false =>
    obtain rfl : false = z := HZ1.out
    obtain rfl := HXN.out
    obtain rfl := HXM.out
    clear HXN HXM HZ1
    have hr_ := HRS.out
    have hm_ := HM.out
    have r0 := blkn hr_ 0 _ rfl
    have r1 := blkn hr_ 1 _ rfl
    have r2 := blkn hr_ 2 _ rfl
    have r3 := blkn hr_ 3 _ rfl
    have r4 := blkn hr_ 4 _ rfl
    have m0 := blkn hm_ 0 _ rfl
    have m1 := blkn hm_ 1 _ rfl
    have m2 := blkn hm_ 2 _ rfl
    have m3 := blkn hm_ 3 _ rfl
    have m4 := blkn hm_ 4 _ rfl
    have m5 := blkn hm_ 5 _ rfl
    have m6 := blkn hm_ 6 _ rfl
    have m7 := blkn hm_ 7 _ rfl
    have m8 := blkn hm_ 8 _ rfl
    have m9 := blkn hm_ 9 _ rfl
    have rf0 := hr_.free 0
    have rf1 := hr_.free 1
    have rf2 := hr_.free 2
    have rf3 := hr_.free 3
    have rf4 := hr_.free 4
    have mf0 := hm_.free 0
    have mf1 := hm_.free 1
    have mf2 := hm_.free 2
    have mf3 := hm_.free 3
    have mf4 := hm_.free 4
    have mf5 := hm_.free 5
    have mf6 := hm_.free 6
    have mf7 := hm_.free 7
    have mf8 := hm_.free 8
    have mf9 := hm_.free 9
    have ry := hr_.lt
    have my := hm_.lt
    have n0 := blkn HN1.out 0 _ rfl
    have n1 := blkn HN1.out 1 _ rfl
    have n2 := blkn HN1.out 2 _ rfl
    have n3 := blkn HN1.out 3 _ rfl
    have n4 := blkn HN1.out 4 _ rfl
    have ny := HN1.out.lt
    go_wp2
    have hr2 := hr_.sets [.bool false, .int .i64 term, .bool leads, .bool alone, .slice B ops.length d] rfl
    have hm2 := Blk.apartS (show w.heap.size + 1 + 1 ≠ w.heap.size + 1 + 1 + 1 by omega) [.bool false, .int .i64 term, .bool leads, .bool alone, .slice B ops.length d] 0 hm_
    have hm3 := hm2.sets [.int .i64 0, .int .i64 0, .int .i64 0, .int .i64 0, .int .i64 0, .string ⟨#[]⟩, .string ⟨#[]⟩, .int .i64 0, .string ⟨#[]⟩, .slice none 0 0] rfl
    have hr3 := Blk.apartS (show w.heap.size + 1 + 1 + 1 ≠ w.heap.size + 1 + 1 by omega) [.int .i64 0, .int .i64 0, .int .i64 0, .int .i64 0, .int .i64 0, .string ⟨#[]⟩, .string ⟨#[]⟩, .int .i64 0, .string ⟨#[]⟩, .slice none 0 0] 0 hr2
    have hT3 := (HV.out.sets hr_ (by decide) [.bool false, .int .i64 term, .bool leads, .bool alone, .slice B ops.length d]).sets hm2 (by decide) [.int .i64 0, .int .i64 0, .int .i64 0, .int .i64 0, .int .i64 0, .string ⟨#[]⟩, .string ⟨#[]⟩, .int .i64 0, .string ⟨#[]⟩, .slice none 0 0]
    have hw3 := bel_sets (show w.heap.size ≤ w.heap.size + 1 + 1 + 1 by omega) [.int .i64 0, .int .i64 0, .int .i64 0, .int .i64 0, .int .i64 0, .string ⟨#[]⟩, .string ⟨#[]⟩, .int .i64 0, .string ⟨#[]⟩, .slice none 0 0] 0 (bel_sets (show w.heap.size ≤ w.heap.size + 1 + 1 by omega) [.bool false, .int .i64 term, .bool leads, .bool alone, .slice B ops.length d] 0 HW.out)
    refine bodyPost_ret (results_list (rs := [.cell 6 25, .cell 7 29, .tmp 8]) rfl (by simp) (.cell (w.heap.size + 1 + 1) 25 #[.bool false, .int .i64 term, .bool leads, .bool alone, .slice B ops.length d] (0, 0) _ rfl (hr3.alloc _) Tryz.underlying25 rfl (by kernel_rfl) (.cell (w.heap.size + 1 + 1 + 1) 29 #[.int .i64 0, .int .i64 0, .int .i64 0, .int .i64 0, .int .i64 0, .string ⟨#[]⟩, .string ⟨#[]⟩, .int .i64 0, .string ⟨#[]⟩, .slice none 0 0] (0, 0) _ rfl (hm3.alloc _) Tryz.underlying29 rfl (by kernel_rfl) (.tmp .nil)))) rfl ?_
    exact ⟨_, rfl, hT3.bel (bel_alloc (Below.refl _ _) _), bel_alloc hw3 _⟩
   | true =>
    cases leads with
    | false =>
     obtain rfl : false = z := HZ1.out
     obtain rfl := HXN.out
     obtain rfl := HXM.out
     clear HXN HXM HZ1
     have hr_ := HRS.out
     have hm_ := HM.out
     have r0 := blkn hr_ 0 _ rfl
     have r1 := blkn hr_ 1 _ rfl
     have r2 := blkn hr_ 2 _ rfl
     have r3 := blkn hr_ 3 _ rfl
     have r4 := blkn hr_ 4 _ rfl
     have m0 := blkn hm_ 0 _ rfl
     have m1 := blkn hm_ 1 _ rfl
     have m2 := blkn hm_ 2 _ rfl
     have m3 := blkn hm_ 3 _ rfl
     have m4 := blkn hm_ 4 _ rfl
     have m5 := blkn hm_ 5 _ rfl
     have m6 := blkn hm_ 6 _ rfl
     have m7 := blkn hm_ 7 _ rfl
     have m8 := blkn hm_ 8 _ rfl
     have m9 := blkn hm_ 9 _ rfl
     have rf0 := hr_.free 0
     have rf1 := hr_.free 1
     have rf2 := hr_.free 2
     have rf3 := hr_.free 3
     have rf4 := hr_.free 4
     have mf0 := hm_.free 0
     have mf1 := hm_.free 1
     have mf2 := hm_.free 2
     have mf3 := hm_.free 3
     have mf4 := hm_.free 4
     have mf5 := hm_.free 5
     have mf6 := hm_.free 6
     have mf7 := hm_.free 7
     have mf8 := hm_.free 8
     have mf9 := hm_.free 9
     have ry := hr_.lt
     have my := hm_.lt
     have n0 := blkn HN1.out 0 _ rfl
     have n1 := blkn HN1.out 1 _ rfl
     have n2 := blkn HN1.out 2 _ rfl
     have n3 := blkn HN1.out 3 _ rfl
     have n4 := blkn HN1.out 4 _ rfl
     have ny := HN1.out.lt
     go_wp2
     have hr2 := hr_.sets [.bool true, .int .i64 term, .bool false, .bool alone, .slice B ops.length d] rfl
     have hm2 := Blk.apartS (show w.heap.size + 1 + 1 ≠ w.heap.size + 1 + 1 + 1 by omega) [.bool true, .int .i64 term, .bool false, .bool alone, .slice B ops.length d] 0 hm_
     have hm3 := hm2.sets [.int .i64 0, .int .i64 0, .int .i64 0, .int .i64 0, .int .i64 0, .string ⟨#[]⟩, .string ⟨#[]⟩, .int .i64 0, .string ⟨#[]⟩, .slice none 0 0] rfl
     have hr3 := Blk.apartS (show w.heap.size + 1 + 1 + 1 ≠ w.heap.size + 1 + 1 by omega) [.int .i64 0, .int .i64 0, .int .i64 0, .int .i64 0, .int .i64 0, .string ⟨#[]⟩, .string ⟨#[]⟩, .int .i64 0, .string ⟨#[]⟩, .slice none 0 0] 0 hr2
     have hT3 := (HV.out.sets hr_ (by decide) [.bool true, .int .i64 term, .bool false, .bool alone, .slice B ops.length d]).sets hm2 (by decide) [.int .i64 0, .int .i64 0, .int .i64 0, .int .i64 0, .int .i64 0, .string ⟨#[]⟩, .string ⟨#[]⟩, .int .i64 0, .string ⟨#[]⟩, .slice none 0 0]
     have hw3 := bel_sets (show w.heap.size ≤ w.heap.size + 1 + 1 + 1 by omega) [.int .i64 0, .int .i64 0, .int .i64 0, .int .i64 0, .int .i64 0, .string ⟨#[]⟩, .string ⟨#[]⟩, .int .i64 0, .string ⟨#[]⟩, .slice none 0 0] 0 (bel_sets (show w.heap.size ≤ w.heap.size + 1 + 1 by omega) [.bool true, .int .i64 term, .bool false, .bool alone, .slice B ops.length d] 0 HW.out)
     refine bodyPost_ret (results_list (rs := [.cell 6 25, .cell 7 29, .tmp 8]) rfl (by simp) (.cell (w.heap.size + 1 + 1) 25 #[.bool true, .int .i64 term, .bool false, .bool alone, .slice B ops.length d] (0, 0) _ rfl (hr3.alloc _) Tryz.underlying25 rfl (by kernel_rfl) (.cell (w.heap.size + 1 + 1 + 1) 29 #[.int .i64 0, .int .i64 0, .int .i64 0, .int .i64 0, .int .i64 0, .string ⟨#[]⟩, .string ⟨#[]⟩, .int .i64 0, .string ⟨#[]⟩, .slice none 0 0] (0, 0) _ rfl (hm3.alloc _) Tryz.underlying29 rfl (by kernel_rfl) (.tmp .nil)))) rfl ?_
     exact ⟨_, rfl, hT3.bel (bel_alloc (Below.refl _ _) _), bel_alloc hw3 _⟩
    | true =>
     have n0 := blkn HN1.out 0 _ rfl
     have n1 := blkn HN1.out 1 _ rfl
     have n2 := blkn HN1.out 2 _ rfl
     have n3 := blkn HN1.out 3 _ rfl
     have n4 := blkn HN1.out 4 _ rfl
     have ny := HN1.out.lt
     have p0 := blkn HP1.out 0 _ rfl
     have p1 := blkn HP1.out 1 _ rfl
     have p2 := blkn HP1.out 2 _ rfl
     have p3 := blkn HP1.out 3 _ rfl
     have p4 := blkn HP1.out 4 _ rfl
     have py := HP1.out.lt
     have my := HM.out.lt
     go_wp2_with fail
     have hX : Blk (w3.alloc (.cells #[.bool true, .int .i64 term, .bool true, .bool alone, .slice B ops.length d] 25)) w3.heap.size #[.bool true, .int .i64 term, .bool true, .bool alone, .slice B ops.length d] 25 := Blk.new _ _ _
     have hbx : Bel w3 (w3.alloc (.cells #[.bool true, .int .i64 term, .bool true, .bool alone, .slice B ops.length d] 25)) := bel_alloc (Below.refl _ _) _
     replace HN1 := Lib.hid (HN1.out.bel hbx)
     replace HP1 := Lib.hid (HP1.out.bel hbx)
     have LX := Lib.hid (show w.heap.size + 1 + 1 + 1 < w3.heap.size from HM.out.lt)
     replace HRS := Lib.hid (HRS.out.bel hbx)
     replace HM := Lib.hid (HM.out.bel hbx)
     replace HW := Lib.hid (HW.out.tr hbx)
     replace HV := Lib.hid (HV.out.bel hbx)
     clear n0 n1 n2 n3 n4 ny p0 p1 p2 p3 p4 py my
     generalize (w3.alloc (.cells #[.bool true, .int .i64 term, .bool true, .bool alone, .slice B ops.length d] 25)) = W3 at hX hbx HN1 HP1 HRS HM HW HV ⊢
     obtain ⟨nb, hnb⟩ : ∃ nb, w3.heap.size = nb := ⟨_, rfl⟩
     rw [hnb] at hX LX ⊢
     clear hbx hnb
     have hct := canTake_c (c := c) (n := ⟨true, term, true, alone, ops⟩) (o := o) (kOp_keep HC.out HW.out) HO.out HSO.out HQ.out
     have hzz : ((opR q o).isSome && decide (ops.length < 20)) = z := by have h := HZ1.out; unfold addNB at h; simp only [Bool.true_and] at h; rw [HQ.out] at h; exact h
     rw [hzz] at hct
     clear hzz HZ1
     refine hct.mono ?_
     rintro e w4 ⟨rfl, hb4⟩
     have HX := Lib.hid (hX.bel hb4)
     replace HN1 := Lib.hid (HN1.out.bel hb4)
     replace HP1 := Lib.hid (HP1.out.bel hb4)
     replace HRS := Lib.hid (HRS.out.bel hb4)
     replace HM := Lib.hid (HM.out.bel hb4)
     replace HW := Lib.hid (HW.out.tr hb4)
     replace HV := Lib.hid (HV.out.bel hb4)
     clear hX hb4 hct
     cases z with
     | false =>
      obtain rfl := HXN.out
      obtain rfl := HXM.out
      clear HXN HXM
      have hr_ := HRS.out
      have hm_ := HM.out
      have r0 := blkn hr_ 0 _ rfl
      have r1 := blkn hr_ 1 _ rfl
      have r2 := blkn hr_ 2 _ rfl
      have r3 := blkn hr_ 3 _ rfl
      have r4 := blkn hr_ 4 _ rfl
      have m0 := blkn hm_ 0 _ rfl
      have m1 := blkn hm_ 1 _ rfl
      have m2 := blkn hm_ 2 _ rfl
      have m3 := blkn hm_ 3 _ rfl
      have m4 := blkn hm_ 4 _ rfl
      have m5 := blkn hm_ 5 _ rfl
      have m6 := blkn hm_ 6 _ rfl
      have m7 := blkn hm_ 7 _ rfl
      have m8 := blkn hm_ 8 _ rfl
      have m9 := blkn hm_ 9 _ rfl
      have rf0 := hr_.free 0
      have rf1 := hr_.free 1
      have rf2 := hr_.free 2
      have rf3 := hr_.free 3
      have rf4 := hr_.free 4
      have mf0 := hm_.free 0
      have mf1 := hm_.free 1
      have mf2 := hm_.free 2
      have mf3 := hm_.free 3
      have mf4 := hm_.free 4
      have mf5 := hm_.free 5
      have mf6 := hm_.free 6
      have mf7 := hm_.free 7
      have mf8 := hm_.free 8
      have mf9 := hm_.free 9
      have ry := hr_.lt
      have my := hm_.lt
      have x0 := blkn HX.out 0 _ rfl
      have x1 := blkn HX.out 1 _ rfl
      have x2 := blkn HX.out 2 _ rfl
      have x3 := blkn HX.out 3 _ rfl
      have x4 := blkn HX.out 4 _ rfl
      have xy := HX.out.lt
      go_wp2
      have hr2 := hr_.sets [.bool true, .int .i64 term, .bool true, .bool alone, .slice B ops.length d] rfl
      have hm2 := Blk.apartS (show w.heap.size + 1 + 1 ≠ w.heap.size + 1 + 1 + 1 by omega) [.bool true, .int .i64 term, .bool true, .bool alone, .slice B ops.length d] 0 hm_
      have hm3 := hm2.sets [.int .i64 0, .int .i64 0, .int .i64 0, .int .i64 0, .int .i64 0, .string ⟨#[]⟩, .string ⟨#[]⟩, .int .i64 0, .string ⟨#[]⟩, .slice none 0 0] rfl
      have hr3 := Blk.apartS (show w.heap.size + 1 + 1 + 1 ≠ w.heap.size + 1 + 1 by omega) [.int .i64 0, .int .i64 0, .int .i64 0, .int .i64 0, .int .i64 0, .string ⟨#[]⟩, .string ⟨#[]⟩, .int .i64 0, .string ⟨#[]⟩, .slice none 0 0] 0 hr2
      have hT3 := (HV.out.sets hr_ (by decide) [.bool true, .int .i64 term, .bool true, .bool alone, .slice B ops.length d]).sets hm2 (by decide) [.int .i64 0, .int .i64 0, .int .i64 0, .int .i64 0, .int .i64 0, .string ⟨#[]⟩, .string ⟨#[]⟩, .int .i64 0, .string ⟨#[]⟩, .slice none 0 0]
      have hw3 := bel_sets (show w.heap.size ≤ w.heap.size + 1 + 1 + 1 by omega) [.int .i64 0, .int .i64 0, .int .i64 0, .int .i64 0, .int .i64 0, .string ⟨#[]⟩, .string ⟨#[]⟩, .int .i64 0, .string ⟨#[]⟩, .slice none 0 0] 0 (bel_sets (show w.heap.size ≤ w.heap.size + 1 + 1 by omega) [.bool true, .int .i64 term, .bool true, .bool alone, .slice B ops.length d] 0 HW.out)
      refine bodyPost_ret (results_list (rs := [.cell 6 25, .cell 7 29, .tmp 8]) rfl (by simp) (.cell (w.heap.size + 1 + 1) 25 #[.bool true, .int .i64 term, .bool true, .bool alone, .slice B ops.length d] (0, 0) _ rfl hr3 Tryz.underlying25 rfl (by kernel_rfl) (.cell (w.heap.size + 1 + 1 + 1) 29 #[.int .i64 0, .int .i64 0, .int .i64 0, .int .i64 0, .int .i64 0, .string ⟨#[]⟩, .string ⟨#[]⟩, .int .i64 0, .string ⟨#[]⟩, .slice none 0 0] (0, 0) _ rfl hm3 Tryz.underlying29 rfl (by kernel_rfl) (.tmp .nil)))) rfl ?_
      exact ⟨_, rfl, hT3, hw3⟩
     | true =>
      have hxm := HXM.out
      obtain rfl : (⟨true, term, true, alone, ops ++ [o]⟩ : Node) = xn := HXN.out
      clear HXN
      have x0 := blkn HX.out 0 _ rfl
      have x1 := blkn HX.out 1 _ rfl
      have x2 := blkn HX.out 2 _ rfl
      have x3 := blkn HX.out 3 _ rfl
      have x4 := blkn HX.out 4 _ rfl
      have xf0 := HX.out.free 0
      have xf1 := HX.out.free 1
      have xf2 := HX.out.free 2
      have xf3 := HX.out.free 3
      have xf4 := HX.out.free 4
      have xy := HX.out.lt
      have p0 := blkn HP1.out 0 _ rfl
      have p1 := blkn HP1.out 1 _ rfl
      have p2 := blkn HP1.out 2 _ rfl
      have p3 := blkn HP1.out 3 _ rfl
      have p4 := blkn HP1.out 4 _ rfl
      have py := HP1.out.lt
      go_wp2_with (
       at_builtin
       refine own_append2 (ops := []) rfl (.tmp 39) (.tmp 41) rfl rfl o ⟨w4.heap.size, 0, none⟩ 1 rfl (blk_op5 (show Blk (w4.alloc (.cells #[.int .i64 o.kind, .string o.name, .string o.dest, .int .i64 o.n, .string o.text] 27)) w4.heap.size #[.int .i64 o.kind, .string o.name, .string o.dest, .int .i64 o.n, .string o.text] 27 from Blk.new _ _ _)) (HV.out.bel (bel_alloc (Below.refl _ _) _)) (by omega) (Nat.le_trans HW.out.size (bel_alloc (Below.refl _ _) _ : Bel w4 _).size) ?_
       intro v1 w9 hv1 hgr hat
       obtain ⟨no, hno⟩ : ∃ no, ops ++ [o] = no := ⟨_, rfl⟩
       rw [hno] at hv1
       obtain ⟨C4, c4, rfl, hc4, hC4⟩ := hv1.reads
       have ha : Bel w4 (w4.alloc (.cells #[.int .i64 o.kind, .string o.name, .string o.dest, .int .i64 o.n, .string o.text] 27)) := bel_alloc (Below.refl _ _) _
       have hv0 := HV.out.bel ha
       have hx8 := HX.out.bel ha
       have hr8 := HRS.out.bel ha
       have hm8 := HM.out.bel ha
       have hn8 := HN1.out.bel ha
       have hp8 := HP1.out.bel ha
       have HX9 := Lib.hid (hx8.grown hgr (blk_other hv0 hx8 (by decide)))
       have HR9 := Lib.hid (hr8.grown hgr (blk_other hv0 hr8 (by decide)))
       have HM9 := Lib.hid (hm8.grown hgr (blk_other hv0 hm8 (by decide)))
       have HN9 := Lib.hid (hn8.grown hgr (blk_other hv0 hn8 (by decide)))
       have HP9 := Lib.hid (hp8.grown hgr (fun e => by have h1 := NB.out _ e.symm; have h2 := LT.out; omega))
       have HW9 := Lib.hid ((HW.out.tr ha).grown hgr (HW.out.tr ha).size (fun k e => own_base hv0 k e))
       have HV9 := Lib.hid hv1
       clear hv1 hgr hat hc4 hC4 ha hv0 hx8 hr8 hm8 hn8 hp8 x0 x1 x2 x3 x4 xf0 xf1 xf2 xf3 xf4 xy p0 p1 p2 p3 p4 py
       have x0 := blkn HX9.out 0 _ rfl
       have x1 := blkn HX9.out 1 _ rfl
       have x2 := blkn HX9.out 2 _ rfl
       have x3 := blkn HX9.out 3 _ rfl
       have x4 := blkn HX9.out 4 _ rfl
       have xf0 := HX9.out.free 0
       have xf1 := HX9.out.free 1
       have xf2 := HX9.out.free 2
       have xf3 := HX9.out.free 3
       have xf4 := HX9.out.free 4
       have xy := HX9.out.lt
       have ry := HR9.out.lt
       have my := HM9.out.lt)
      clear x0 x1 x2 x3 x4 xf0 xf1 xf2 xf3 xf4 xy ry my
      have hX2 := HX9.out.set 4 (.slice C4 no.length c4) (cs' := #[.bool true, .int .i64 term, .bool true, .bool alone, .slice C4 no.length c4]) rfl
      have hne1 : nb ≠ w.heap.size + 1 + 1 := by have := LX.out; omega
      have hne2 : nb ≠ w.heap.size + 1 + 1 + 1 := by have := LX.out; omega
      have hne3 : nb ≠ w.heap.size := by have := LX.out; omega
      have hne4 : nb ≠ w.heap.size + 1 := by have := LX.out; omega
      have hR2 := HR9.out.apart hne1 4 (.slice C4 no.length c4)
      have hM2 := HM9.out.apart hne2 4 (.slice C4 no.length c4)
      have hN2 := HN9.out.apart hne3 4 (.slice C4 no.length c4)
      have hP2 := HP9.out.apart hne4 4 (.slice C4 no.length c4)
      have hV2 := HV9.out.far HX9.out (by decide) 4 (.slice C4 no.length c4)
      have hW2 := bel_set HW9.out (show w.heap.size ≤ nb by have := LX.out; omega) 4 (.slice C4 no.length c4)
      generalize (w9.setCell ⟨nb, 4, none⟩ (.slice C4 no.length c4)) = W9 at hX2 hR2 hM2 hN2 hP2 hV2 hW2 ⊢
      have HX2 := Lib.hid hX2
      have HR2 := Lib.hid hR2
      have HM2 := Lib.hid hM2
      have HN2 := Lib.hid hN2
      have HP2 := Lib.hid hP2
      have HV2 := Lib.hid hV2
      have HW2 := Lib.hid hW2
      clear hX2 hR2 hM2 hN2 hP2 hV2 hW2 HX9 HR9 HM9 HN9 HP9 HV9 HW9 HX HRS HM HN1 HP1 HV HW
      have hlen : (no.length : Int) = ops.length + 1 := by rw [← hno, List.length_append]; rfl
      have HNO := Lib.hid hno
      have HLN := Lib.hid hlen
      have hlen2 : (no.length : Int) ≤ 1048577 := by omega
      clear hno hlen
      have hr_ := HR2.out
      have hm_ := HM2.out
      have r0 := blkn hr_ 0 _ rfl
      have r1 := blkn hr_ 1 _ rfl
      have r2 := blkn hr_ 2 _ rfl
      have r3 := blkn hr_ 3 _ rfl
      have r4 := blkn hr_ 4 _ rfl
      have m0 := blkn hm_ 0 _ rfl
      have m1 := blkn hm_ 1 _ rfl
      have m2 := blkn hm_ 2 _ rfl
      have m3 := blkn hm_ 3 _ rfl
      have m4 := blkn hm_ 4 _ rfl
      have m5 := blkn hm_ 5 _ rfl
      have m6 := blkn hm_ 6 _ rfl
      have m7 := blkn hm_ 7 _ rfl
      have m8 := blkn hm_ 8 _ rfl
      have m9 := blkn hm_ 9 _ rfl
      have rf0 := hr_.free 0
      have rf1 := hr_.free 1
      have rf2 := hr_.free 2
      have rf3 := hr_.free 3
      have rf4 := hr_.free 4
      have mf0 := hm_.free 0
      have mf1 := hm_.free 1
      have mf2 := hm_.free 2
      have mf3 := hm_.free 3
      have mf4 := hm_.free 4
      have mf5 := hm_.free 5
      have mf6 := hm_.free 6
      have mf7 := hm_.free 7
      have mf8 := hm_.free 8
      have mf9 := hm_.free 9
      have ry := hr_.lt
      have my := hm_.lt
      have hq1 : w.heap.size + 1 + 1 ≠ nb := fun e => hne1 e.symm
      have hq2 : w.heap.size + 1 + 1 ≠ w.heap.size := by omega
      have hq3 : w.heap.size + 1 + 1 ≠ w.heap.size + 1 := by omega
      have hid3 : wrap64 (3 - id) = 3 - id := by have h3 := HI.out; unfold wrap64; omega
      clear hne1 hne2 hne3 hne4
      refine start_ (n := 13) (S := fun w' => w'.cell? ⟨nb, 0, none⟩ = some (.bool true) ∧ w'.cell? ⟨nb, 1, none⟩ = some (.int .i64 term) ∧ w'.cell? ⟨nb, 2, none⟩ = some (.bool true) ∧ w'.cell? ⟨nb, 3, none⟩ = some (.bool alone) ∧ w'.cell? ⟨nb, 4, none⟩ = some (.slice C4 no.length c4) ∧ w'.cell? ⟨w.heap.size, 1, none⟩ = some (.int .i64 term) ∧ w'.cell? ⟨w.heap.size + 1, 0, none⟩ = some (.int .i64 o.kind) ∧ w'.cell? ⟨w.heap.size + 1, 1, none⟩ = some (.string o.name) ∧ w'.cell? ⟨w.heap.size + 1, 2, none⟩ = some (.string o.dest) ∧ w'.cell? ⟨w.heap.size + 1, 3, none⟩ = some (.int .i64 o.n) ∧ w'.cell? ⟨w.heap.size + 1, 4, none⟩ = some (.string o.text)) (ds := [11]) #[bF, bF, bF, bF, bF, bF, bF, bF, bF, bF, bF, bF, bF] (by kernel_rfl) rfl rfl ⟨(blkn (HX2.out.bel (Below.refl _ _).drew) 0 _ rfl), (blkn (HX2.out.bel (Below.refl _ _).drew) 1 _ rfl), (blkn (HX2.out.bel (Below.refl _ _).drew) 2 _ rfl), (blkn (HX2.out.bel (Below.refl _ _).drew) 3 _ rfl), (blkn (HX2.out.bel (Below.refl _ _).drew) 4 _ rfl), (blkn (HN2.out.bel (Below.refl _ _).drew) 1 _ rfl), (blkn (HP2.out.bel (Below.refl _ _).drew) 0 _ rfl), (blkn (HP2.out.bel (Below.refl _ _).drew) 1 _ rfl), (blkn (HP2.out.bel (Below.refl _ _).drew) 2 _ rfl), (blkn (HP2.out.bel (Below.refl _ _).drew) 3 _ rfl), (blkn (HP2.out.bel (Below.refl _ _).drew) 4 _ rfl)⟩ (fun hHeld => ?_)
      refine pure_ (i := 1) (N := some 45) (v := ?_) (a' := ?_) #[bF, bT, bF, bF, bF, bF, bF, bF, bF, bF, bF, bF, bF] rfl rfl (by kernel_rfl) (fun _ _ _ h => h) (Or.inl ⟨by rfl, ?_⟩) ?_ ?_
      rotate_left
      ·intro w'
       go_simp
       with_reducible rfl
      rotate_left
      ·simp only [Act.put, lA, lB, lC, i64_w, i32_w]
       rfl
      refine pure_ (i := 2) (N := some 46) (v := ?_) (a' := ?_) #[bF, bT, bT, bF, bF, bF, bF, bF, bF, bF, bF, bF, bF] rfl rfl (by kernel_rfl) (fun _ _ _ h => h) (Or.inl ⟨by rfl, ?_⟩) ?_ ?_
      rotate_left
      ·intro w'
       go_simp
       with_reducible rfl
      rotate_left
      ·simp only [Act.put, lA, lB, lC, i64_w, i32_w]
       rfl
      refine pure_ (i := 3) (N := some 47) (v := ?_) (a' := ?_) #[bF, bT, bT, bT, bF, bF, bF, bF, bF, bF, bF, bF, bF] rfl rfl (by kernel_rfl) (fun _ _ _ h => h) (Or.inl ⟨by rfl, ?_⟩) ?_ ?_
      rotate_left
      ·intro w'
       go_simp
       with_reducible rfl
      rotate_left
      ·simp only [Act.put, lA, lB, lC, i64_w, i32_w]
       rfl
      refine pure_ (i := 5) (N := some 49) (v := ?_) (a' := ?_) #[bF, bT, bT, bT, bF, bT, bF, bF, bF, bF, bF, bF, bF] rfl rfl (by kernel_rfl) (fun _ _ _ h => h) (Or.inl ⟨by rfl, ?_⟩) ?_ ?_
      rotate_left
      ·intro w'
       go_simp
       with_reducible rfl
      rotate_left
      ·simp only [Act.put, lA, lB, lC, i64_w, i32_w]
       rfl
      refine take_ (i := 0) (N := some 44) (v := ?_) (a' := ?_) #[bT, bT, bT, bT, bF, bT, bF, bF, bF, bF, bF, bF, bF] rfl rfl (by kernel_rfl) (fun _ _ _ h => h) (Or.inl ⟨by rfl, ?_⟩) hHeld ?_ ?_
      rotate_left
      ·rintro w' ⟨s0, s1, s2, s3, s4, s5, s6, s7, s8, s9, s10⟩
       go_simp
       with_reducible rfl
      rotate_left
      ·simp only [Act.put, lA, lB, lC, i64_w, i32_w]
       rfl
      refine take_ (i := 4) (N := some 48) (v := ?_) (a' := ?_) #[bT, bT, bT, bT, bT, bT, bF, bF, bF, bF, bF, bF, bF] rfl rfl (by kernel_rfl) (fun _ _ _ h => h) (Or.inl ⟨by rfl, ?_⟩) hHeld ?_ ?_
      rotate_left
      ·rintro w' ⟨s0, s1, s2, s3, s4, s5, s6, s7, s8, s9, s10⟩
       go_simp
       with_reducible rfl
      rotate_left
      ·simp only [Act.put, lA, lB, lC, i64_w, i32_w]
       rfl
      refine take_ (i := 6) (N := some 50) (v := ?_) (a' := ?_) #[bT, bT, bT, bT, bT, bT, bT, bF, bF, bF, bF, bF, bF] rfl rfl (by kernel_rfl) (fun _ _ _ h => h) (Or.inl ⟨by rfl, ?_⟩) hHeld ?_ ?_
      rotate_left
      ·rintro w' ⟨s0, s1, s2, s3, s4, s5, s6, s7, s8, s9, s10⟩
       go_simp
       with_reducible rfl
      rotate_left
      ·simp only [Act.put, lA, lB, lC, i64_w, i32_w]
       rfl
      refine pure_ (i := 7) (N := some 51) (v := ?_) (a' := ?_) #[bT, bT, bT, bT, bT, bT, bT, bT, bF, bF, bF, bF, bF] rfl rfl (by kernel_rfl) (fun _ _ _ h => h) (Or.inl ⟨by rfl, ?_⟩) ?_ ?_
      rotate_left
      ·intro w'
       go_simp
       with_reducible rfl
      rotate_left
      ·simp only [Act.put, lA, lB, lC, i64_w, i32_w]
       rfl
      refine take_ (i := 8) (N := some 52) (v := ?_) (a' := ?_) #[bT, bT, bT, bT, bT, bT, bT, bT, bT, bF, bF, bF, bF] rfl rfl (by kernel_rfl) (fun _ _ _ h => h) (Or.inl ⟨by rfl, ?_⟩) hHeld ?_ ?_
      rotate_left
      ·rintro w' ⟨s0, s1, s2, s3, s4, s5, s6, s7, s8, s9, s10⟩
       go_simp
       with_reducible rfl
      rotate_left
      ·simp only [Act.put, lA, lB, lC, i64_w, i32_w]
       rfl
      refine pure_ (i := 9) (N := some 53) (v := ?_) (a' := ?_) #[bT, bT, bT, bT, bT, bT, bT, bT, bT, bT, bF, bF, bF] rfl rfl (by kernel_rfl) (fun _ _ _ h => h) (Or.inl ⟨by rfl, ?_⟩) ?_ ?_
      rotate_left
      ·intro w'
       go_simp
       with_reducible rfl
      rotate_left
      ·simp only [Act.put, lA, lB, lC, i64_w, i32_w]
       rfl
      refine one_ (i := 10) (N := none) #[bT, bT, bT, bT, bT, bT, bT, bT, bT, bT, bT, bF, bF] rfl rfl (by kernel_rfl) (by decide) (fun K hK => ?_)
      refine skip_ (w1 := ?_) (by rfl) rfl ?_ ?_
      rotate_left
      ·go_simp
       rfl
      refine hK.out _ _ ⟨(blkn ((HX2.out.apart5 hq1 (.bool true) (.int .i64 term) (.bool true) (.bool alone) (.slice C4 no.length c4)).bel (Below.refl _ _).drew) 0 _ rfl), (blkn ((HX2.out.apart5 hq1 (.bool true) (.int .i64 term) (.bool true) (.bool alone) (.slice C4 no.length c4)).bel (Below.refl _ _).drew) 1 _ rfl), (blkn ((HX2.out.apart5 hq1 (.bool true) (.int .i64 term) (.bool true) (.bool alone) (.slice C4 no.length c4)).bel (Below.refl _ _).drew) 2 _ rfl), (blkn ((HX2.out.apart5 hq1 (.bool true) (.int .i64 term) (.bool true) (.bool alone) (.slice C4 no.length c4)).bel (Below.refl _ _).drew) 3 _ rfl), (blkn ((HX2.out.apart5 hq1 (.bool true) (.int .i64 term) (.bool true) (.bool alone) (.slice C4 no.length c4)).bel (Below.refl _ _).drew) 4 _ rfl), (blkn ((HN2.out.apart5 hq2 (.bool true) (.int .i64 term) (.bool true) (.bool alone) (.slice C4 no.length c4)).bel (Below.refl _ _).drew) 1 _ rfl), (blkn ((HP2.out.apart5 hq3 (.bool true) (.int .i64 term) (.bool true) (.bool alone) (.slice C4 no.length c4)).bel (Below.refl _ _).drew) 0 _ rfl), (blkn ((HP2.out.apart5 hq3 (.bool true) (.int .i64 term) (.bool true) (.bool alone) (.slice C4 no.length c4)).bel (Below.refl _ _).drew) 1 _ rfl), (blkn ((HP2.out.apart5 hq3 (.bool true) (.int .i64 term) (.bool true) (.bool alone) (.slice C4 no.length c4)).bel (Below.refl _ _).drew) 2 _ rfl), (blkn ((HP2.out.apart5 hq3 (.bool true) (.int .i64 term) (.bool true) (.bool alone) (.slice C4 no.length c4)).bel (Below.refl _ _).drew) 3 _ rfl), (blkn ((HP2.out.apart5 hq3 (.bool true) (.int .i64 term) (.bool true) (.bool alone) (.slice C4 no.length c4)).bel (Below.refl _ _).drew) 4 _ rfl)⟩ (fun hHeld => ?_)
      clear hK K
      refine last_ (i := 11) (N := none) #[bT, bT, bT, bT, bT, bT, bT, bT, bT, bT, bT, bT, bF] rfl rfl (by kernel_rfl) (by decide) (fun K hK => ?_)
      refine skip_ (w1 := ?_) (by rfl) rfl ?_ ?_
      rotate_left
      ·go_simp
       rfl
      refine hK.out _ _ ?_
      clear hK K
      refine pure_ (i := 12) (N := some 8) (v := ?_) (a' := ?_) #[bT, bT, bT, bT, bT, bT, bT, bT, bT, bT, bT, bT, bT] rfl rfl (by kernel_rfl) (fun _ _ _ h => h) (Or.inl ⟨by rfl, ?_⟩) ?_ ?_
      rotate_left
      ·intro w'
       go_simp
       with_reducible rfl
      rotate_left
      ·simp only [Act.put, lA, lB, lC, i64_w, i32_w]
       rfl
      refine done_ (by kernel_rfl) ?_
      go_wp2
      have hr2 := hr_.sets [.bool true, .int .i64 term, .bool true, .bool alone, .slice C4 no.length c4] rfl
      have hm2 := Blk.apartS (show w.heap.size + 1 + 1 ≠ w.heap.size + 1 + 1 + 1 by omega) [.bool true, .int .i64 term, .bool true, .bool alone, .slice C4 no.length c4] 0 hm_
      have hm3 := hm2.sets [.int .i64 1, .int .i64 (3 - id), .int .i64 term, .int .i64 no.length, .int .i64 o.kind, .string o.name, .string o.dest, .int .i64 o.n, .string o.text, .slice none 0 0] rfl
      have hr3 := Blk.apartS (show w.heap.size + 1 + 1 + 1 ≠ w.heap.size + 1 + 1 by omega) [.int .i64 1, .int .i64 (3 - id), .int .i64 term, .int .i64 no.length, .int .i64 o.kind, .string o.name, .string o.dest, .int .i64 o.n, .string o.text, .slice none 0 0] 0 hr2
      have hT3 := (HV2.out.sets hr_ (by decide) [.bool true, .int .i64 term, .bool true, .bool alone, .slice C4 no.length c4]).sets hm2 (by decide) [.int .i64 1, .int .i64 (3 - id), .int .i64 term, .int .i64 no.length, .int .i64 o.kind, .string o.name, .string o.dest, .int .i64 o.n, .string o.text, .slice none 0 0]
      have hw3 := bel_sets (show w.heap.size ≤ w.heap.size + 1 + 1 + 1 by omega) [.int .i64 1, .int .i64 (3 - id), .int .i64 term, .int .i64 no.length, .int .i64 o.kind, .string o.name, .string o.dest, .int .i64 o.n, .string o.text, .slice none 0 0] 0 (bel_sets (show w.heap.size ≤ w.heap.size + 1 + 1 by omega) [.bool true, .int .i64 term, .bool true, .bool alone, .slice C4 no.length c4] 0 HW2.out)
      have hdd : Bel (wsets (wsets W9 (w.heap.size + 1 + 1) 0 [.bool true, .int .i64 term, .bool true, .bool alone, .slice C4 no.length c4]) (w.heap.size + 1 + 1 + 1) 0 [.int .i64 1, .int .i64 (3 - id), .int .i64 term, .int .i64 no.length, .int .i64 o.kind, .string o.name, .string o.dest, .int .i64 o.n, .string o.text, .slice none 0 0]) (wsets (wsets W9 (w.heap.size + 1 + 1) 0 [.bool true, .int .i64 term, .bool true, .bool alone, .slice C4 no.length c4]) (w.heap.size + 1 + 1 + 1) 0 [.int .i64 1, .int .i64 (3 - id), .int .i64 term, .int .i64 no.length, .int .i64 o.kind, .string o.name, .string o.dest, .int .i64 o.n, .string o.text, .slice none 0 0]).drew := (Below.refl _ _).drew
      refine bodyPost_ret (results_list (rs := [.cell 6 25, .cell 7 29, .tmp 8]) rfl (by simp) (.cell (w.heap.size + 1 + 1) 25 #[.bool true, .int .i64 term, .bool true, .bool alone, .slice C4 no.length c4] (0, 0) _ rfl (hr3.bel hdd) Tryz.underlying25 rfl (by kernel_rfl) (.cell (w.heap.size + 1 + 1 + 1) 29 #[.int .i64 1, .int .i64 (3 - id), .int .i64 term, .int .i64 no.length, .int .i64 o.kind, .string o.name, .string o.dest, .int .i64 o.n, .string o.text, .slice none 0 0] (0, 0) _ rfl (hm3.bel hdd) Tryz.underlying29 rfl (by kernel_rfl) (.tmp .nil)))) rfl ?_
      have hnoo := HNO.out
      have hlnn := HLN.out
      clear HNO HLN
      subst hnoo
      subst hxm
      exact ⟨_, (by rw [hlnn]; rfl), hT3.bel hdd, hw3.tr hdd⟩
end
end Go.Proofs.YtccllgpaafgjaaaGreat

namespace Go.Proofs.YtccllgpaafgjaaaGreat
open Go.RowKit Go.Proofs.YtccllgpaafgjaaaGreatW.PrintWords Go.Proofs.YtccllgpaafgjaaaGreatW.PrintLast
theorem implNodeAsk_c {w : World} {A : Option Addr} {c : Nat} {n : Node} {id : Int} {o : Op} (hC : kOp.C w A n.ops.length n.ops) (ho : SmallOs n.ops) (hso : SmallO o) :
  Calls Tryz.prog 43 #[.agg #[.bool n.up, .int .i64 n.term, .bool n.leads, .bool n.alone, .slice A n.ops.length c], .int .i64 id, .agg #[.int .i64 o.kind, .string o.name, .string o.dest, .int .i64 o.n, .string o.text]] w (AnsO w (askRN n id o) (askRM n id o) (askRB n id o)) := by
 cases n; exact implNodeAsk_f hC ho hso
section
variable {w : World} {A A' : Option Addr} {c c' : Nat} {n : Node} {m : Msg}
set_option maxHeartbeats 4000000 in
theorem eqMsg_c (hC : kOp.C w A m.ops.length m.ops) (hC' : kOp.C w A' m.ops.length m.ops) (hl : m.ops.length ≤ 1048576) :
  Calls Tryz.prog 45 #[.agg #[.int .i64 m.kind, .int .i64 m.whom, .int .i64 m.term, .int .i64 m.n, .int .i64 m.op.kind, .string m.op.name, .string m.op.dest, .int .i64 m.op.n, .string m.op.text, .slice A m.ops.length c], .agg #[.int .i64 m.kind, .int .i64 m.whom, .int .i64 m.term, .int .i64 m.n, .int .i64 m.op.kind, .string m.op.name, .string m.op.dest, .int .i64 m.op.n, .string m.op.text, .slice A' m.ops.length c']] w (Ret (.bool true) w) := by
 have H := Lib.hid hC
 have H' := Lib.hid hC'
 clear hC hC'
 go_enter Tryz.func45, Tryz.ntmps45
 go_wp2_with fail
 have hP : Blk ((w.alloc (.cells #[.int .i64 m.kind, .int .i64 m.whom, .int .i64 m.term, .int .i64 m.n, .int .i64 m.op.kind, .string m.op.name, .string m.op.dest, .int .i64 m.op.n, .string m.op.text, .slice A m.ops.length c] 29)).alloc (.cells #[.int .i64 m.kind, .int .i64 m.whom, .int .i64 m.term, .int .i64 m.n, .int .i64 m.op.kind, .string m.op.name, .string m.op.dest, .int .i64 m.op.n, .string m.op.text, .slice A' m.ops.length c'] 29)) w.heap.size #[.int .i64 m.kind, .int .i64 m.whom, .int .i64 m.term, .int .i64 m.n, .int .i64 m.op.kind, .string m.op.name, .string m.op.dest, .int .i64 m.op.n, .string m.op.text, .slice A m.ops.length c] 29 := (Blk.new _ _ _).alloc _
 have hQ : Blk ((w.alloc (.cells #[.int .i64 m.kind, .int .i64 m.whom, .int .i64 m.term, .int .i64 m.n, .int .i64 m.op.kind, .string m.op.name, .string m.op.dest, .int .i64 m.op.n, .string m.op.text, .slice A m.ops.length c] 29)).alloc (.cells #[.int .i64 m.kind, .int .i64 m.whom, .int .i64 m.term, .int .i64 m.n, .int .i64 m.op.kind, .string m.op.name, .string m.op.dest, .int .i64 m.op.n, .string m.op.text, .slice A' m.ops.length c'] 29)) (w.heap.size + 1) #[.int .i64 m.kind, .int .i64 m.whom, .int .i64 m.term, .int .i64 m.n, .int .i64 m.op.kind, .string m.op.name, .string m.op.dest, .int .i64 m.op.n, .string m.op.text, .slice A' m.ops.length c'] 29 := Blk.nw2 _ _ _ _
 have hW : Bel w ((w.alloc (.cells #[.int .i64 m.kind, .int .i64 m.whom, .int .i64 m.term, .int .i64 m.n, .int .i64 m.op.kind, .string m.op.name, .string m.op.dest, .int .i64 m.op.n, .string m.op.text, .slice A m.ops.length c] 29)).alloc (.cells #[.int .i64 m.kind, .int .i64 m.whom, .int .i64 m.term, .int .i64 m.n, .int .i64 m.op.kind, .string m.op.name, .string m.op.dest, .int .i64 m.op.n, .string m.op.text, .slice A' m.ops.length c'] 29)) := bel_alloc (bel_alloc (Below.refl _ _) _) _
 generalize ((w.alloc (.cells #[.int .i64 m.kind, .int .i64 m.whom, .int .i64 m.term, .int .i64 m.n, .int .i64 m.op.kind, .string m.op.name, .string m.op.dest, .int .i64 m.op.n, .string m.op.text, .slice A m.ops.length c] 29)).alloc (.cells #[.int .i64 m.kind, .int .i64 m.whom, .int .i64 m.term, .int .i64 m.n, .int .i64 m.op.kind, .string m.op.name, .string m.op.dest, .int .i64 m.op.n, .string m.op.text, .slice A' m.ops.length c'] 29)) = W0 at hP hQ hW ⊢
 refine (eqOp_c m.op W0).mono ?_
 rintro e w1 ⟨rfl, hb⟩
 have HP := Lib.hid (hP.bel hb)
 have HQ := Lib.hid (hQ.bel hb)
 have HW := Lib.hid (hW.tr hb)
 clear hP hQ hW hb
 have p5 := blkn HP.out 9 _ rfl
 have q5 := blkn HQ.out 9 _ rfl
 have py := HP.out.lt
 have qy := HQ.out.lt
 go_wp2_with fail
 refine (eqOpS_c (kOp_keep H.out HW.out) (kOp_keep H'.out HW.out) hl).mono ?_
 rintro e w2 ⟨rfl, hb⟩
 replace HW := Lib.hid (HW.out.tr hb)
 clear hb p5 q5 py qy
 go_wp2
 go_ret
 exact ⟨rfl, HW.out⟩
def MarkT (k : Int) (w : World) (base : Nat) (v : Value) (n : Nat) (w' : World) : Prop := (∃ s, s.length = n ∧ OwnO w' base v s ∧ MkO k s) ∧ w.grownBy w' v.ownBlock
set_option maxHeartbeats 4000000 in
theorem markNode_m {base : Nat} {k : Int} (h : OwnO w base (.slice A n.ops.length c) n.ops) (hl : n.ops.length ≤ 1048576) (h0 : 0 < k) (h1 : k ≤ 1099511627776) :
  Calls Tryz.prog 46 #[.agg #[.bool n.up, .int .i64 n.term, .bool n.leads, .bool n.alone, .slice A n.ops.length c], .int .i64 k] w (fun e w' => e = .returned (.int .i64 (k + 5 * n.ops.length)) ∧ MarkT k w base (.slice A n.ops.length c) n.ops.length w') := by
 have H := Lib.hid h
 clear h
 go_enter Tryz.func46, Tryz.ntmps46
 go_wp2_with fail
 have hb : Bel w (w.alloc (.cells #[.bool n.up, .int .i64 n.term, .bool n.leads, .bool n.alone, .slice A n.ops.length c] 25)) := bel_alloc (Below.refl _ _) _
 generalize w.alloc (.cells #[.bool n.up, .int .i64 n.term, .bool n.leads, .bool n.alone, .slice A n.ops.length c] 25) = W0 at hb ⊢
 refine (markOpS_c (H.out.bel hb) hl h0 (by omega)).mono ?_
 rintro e w1 ⟨rfl, hs, hg⟩
 have HG := Lib.hid (grown_tr (grown_of_bel hb _) hg)
 have HS := Lib.hid hs
 clear hg hb hs
 go_wp2
 go_ret
 exact ⟨rfl, HS.out, HG.out⟩
set_option maxHeartbeats 4000000 in
theorem markMsg_m {base : Nat} {k : Int} (h : OwnO w base (.slice A m.ops.length c) m.ops) (hl : m.ops.length ≤ 1048576) (h0 : 0 < k) (h1 : k ≤ 1099511627776) :
  Calls Tryz.prog 47 #[.agg #[.int .i64 m.kind, .int .i64 m.whom, .int .i64 m.term, .int .i64 m.n, .int .i64 m.op.kind, .string m.op.name, .string m.op.dest, .int .i64 m.op.n, .string m.op.text, .slice A m.ops.length c], .int .i64 k] w (fun e w' => e = .returned (.int .i64 (k + 5 * m.ops.length)) ∧ MarkT k w base (.slice A m.ops.length c) m.ops.length w') := by
 have H := Lib.hid h
 clear h
 go_enter Tryz.func47, Tryz.ntmps47
 go_wp2_with fail
 have hb : Bel w (w.alloc (.cells #[.int .i64 m.kind, .int .i64 m.whom, .int .i64 m.term, .int .i64 m.n, .int .i64 m.op.kind, .string m.op.name, .string m.op.dest, .int .i64 m.op.n, .string m.op.text, .slice A m.ops.length c] 29)) := bel_alloc (Below.refl _ _) _
 generalize w.alloc (.cells #[.int .i64 m.kind, .int .i64 m.whom, .int .i64 m.term, .int .i64 m.n, .int .i64 m.op.kind, .string m.op.name, .string m.op.dest, .int .i64 m.op.n, .string m.op.text, .slice A m.ops.length c] 29) = W0 at hb ⊢
 refine (markOpS_c (H.out.bel hb) hl h0 (by omega)).mono ?_
 rintro e w1 ⟨rfl, hs, hg⟩
 have HG := Lib.hid (grown_tr (grown_of_bel hb _) hg)
 have HS := Lib.hid hs
 clear hg hb hs
 go_wp2
 go_ret
 exact ⟨rfl, HS.out, HG.out⟩
set_option maxHeartbeats 4000000 in
theorem heldNode_c {k : Int} {s : List Op} (hC : kOp.C w A s.length s) (hn : s.length = n.ops.length) (hm : MkO k s) (hl : s.length ≤ 1048576) (h0 : 0 < k) (h1 : k ≤ 1099511627776) :
  Calls Tryz.prog 48 #[.agg #[.bool n.up, .int .i64 n.term, .bool n.leads, .bool n.alone, .slice A n.ops.length c], .int .i64 k] w (Ret (.int .i64 (k + 5 * n.ops.length)) w) := by
 rw [← hn]
 have H := Lib.hid hC
 have HM := Lib.hid hm
 clear hC hm hn
 go_enter Tryz.func48, Tryz.ntmps48
 go_wp2_with fail
 refine (heldOpS_c (kOp_alloc H.out _) HM.out hl h0 (by omega)).mono ?_
 rintro e w1 ⟨rfl, hb⟩
 have HB := Lib.hid ((bel_alloc (Below.refl _ _) _ : Bel w _).tr hb)
 clear hb
 have hneg : ¬ (k + 5 * (s.length : Int) < 0) := by omega
 go_wp2
 go_ret
 exact ⟨rfl, HB.out⟩
set_option maxHeartbeats 4000000 in
theorem heldMsg_c {k : Int} {s : List Op} (hC : kOp.C w A s.length s) (hn : s.length = m.ops.length) (hm : MkO k s) (hl : s.length ≤ 1048576) (h0 : 0 < k) (h1 : k ≤ 1099511627776) :
  Calls Tryz.prog 49 #[.agg #[.int .i64 m.kind, .int .i64 m.whom, .int .i64 m.term, .int .i64 m.n, .int .i64 m.op.kind, .string m.op.name, .string m.op.dest, .int .i64 m.op.n, .string m.op.text, .slice A m.ops.length c], .int .i64 k] w (Ret (.int .i64 (k + 5 * m.ops.length)) w) := by
 rw [← hn]
 have H := Lib.hid hC
 have HM := Lib.hid hm
 clear hC hm hn
 go_enter Tryz.func49, Tryz.ntmps49
 go_wp2_with fail
 refine (heldOpS_c (kOp_alloc H.out _) HM.out hl h0 (by omega)).mono ?_
 rintro e w1 ⟨rfl, hb⟩
 have HB := Lib.hid ((bel_alloc (Below.refl _ _) _ : Bel w _).tr hb)
 clear hb
 have hneg : ¬ (k + 5 * (s.length : Int) < 0) := by omega
 go_wp2
 go_ret
 exact ⟨rfl, HB.out⟩
end
structure AtT (w : World) (lo hi : Nat) (v : Value) (s : List Op) : Prop where
  own : OwnT w lo v s
  lt : ∀ k, v.ownBlock = some k → k < hi
theorem AtT.bel {w w' : World} {lo hi : Nat} {v : Value} {s : List Op} (h : AtT w lo hi v s) (hb : Bel w w') : AtT w' lo hi v s := ⟨h.own.bel hb, h.lt⟩
theorem OwnT.att {w : World} {lo : Nat} {v : Value} {s : List Op} (h : OwnT w lo v s) : AtT w lo w.heap.size v s := ⟨h, fun k hk => (h.base k hk).2.1⟩
theorem AtT.kept {w w' : World} {lo hi : Nat} {v : Value} {s : List Op} {r : Option Nat} (h : AtT w lo hi v s) (hg : w.grownBy w' r) (hr : ∀ k, r = some k → k < lo ∨ hi ≤ k) : AtT w' lo hi v s :=
 ⟨h.own.kept hg fun k hk e => by have h1 := (h.own.base k hk).1; have h2 := h.lt k hk; rcases hr k e with h3 | h3 <;> omega, h.lt⟩
theorem AtT.grown {w w' : World} {lo hi : Nat} {v : Value} {s : List Op} (h : AtT w lo hi v s) (hg : w.grownBy w' v.ownBlock) : Within lo hi w w' :=
 ⟨hg.os, hg.tape, hg.output, hg.size, fun k hk hn => hg.block k hk (fun e => hn ⟨(h.own.base k e.symm).1, h.lt k e.symm⟩)⟩
theorem AtT.inn {w : World} {lo hi : Nat} {A : Option Addr} {c : Nat} {s : List Op} {v : Value} (h : AtT w lo hi v s) (hv : v = .slice A s.length c) : kOp.C w A s.length s := by
 obtain ⟨A', c', e, -, hC⟩ := h.own.reads
 have e := slice_eq (hv.symm.trans e)
 obtain ⟨rfl, -, rfl⟩ := e
 exact hC
theorem bel_grown {w w1 w2 : World} {lo hi : Nat} {v : Value} {s : List Op} (hb : Bel w w1) (h : AtT w1 lo hi v s) (hlo : w.heap.size ≤ lo) (hg : w1.grownBy w2 v.ownBlock) : Bel w w2 := hb.grown hg hb.size (fun k e => Nat.le_trans hlo (h.own.base k e).1)
end Go.Proofs.YtccllgpaafgjaaaGreat

namespace Go.Proofs.YtccllgpaafgjaaaGreat
open Go.ChangeShapes Go.WideShapes
theorem joined_of {P : Program} {f : FuncId} {fn : Func} {s : ChangeSpec} {c : OpenClaim}
  (h0 : (c.wf (OpenSpec.ofChange s)) = true)
  (h1 : (laidOutB P) = true)
  (h2 : (mapsRowed P) = true)
  (h3 : (fn.params.all (P.readableRec ·)) = true)
  (h4 : (namedTie P c.named s.vars) = true)
  (h5 : (c.stops == []) = true)
  (h6 : (P.stops == []) = true)
  (h7 : (c.knobs == []) = true)
  (h8 : (P.stopKnobs == []) = true)
  (h9 : (c.inPlace == P.inPlace f) = true)
  (h10 : (c.unfollowed == P.unfollowed f) = true)
  (h11 : (c.recurses == P.recurses f) = true)
  (h12 : (c.named == P.varsNamed f) = true)
  (h13 : (c.maps == (fn.params.toList ++ s.plain.varTypes P).any (P.mapsRec ·)) = true)
  (h14 : (c.ifaces == (fn.params.toList ++ s.plain.varTypes P).any (P.ifacesRec ·)) = true)
  (h15 : (c.mapsOut == P.mapsAmong fn.resultTypes.toList) = true)
  (h16 : (c.loops == (fn.params.toList ++ s.plain.varTypes P).any (P.loopsFrom ·)) = true)
  (h17 : (c.wideKeys == (fn.params.toList ++ s.plain.varTypes P ++ fn.resultTypes.toList).any (P.wideKeysFrom ·)) = true)
  (h18 : (s.vars.all (P.varReadable ·)) = true)
  (h19 : (fn.resultTypes.all (fun t => P.readableRec t && decide (t < P.types.size))) = true)
  (h20 : (c.ifacesOut == fn.resultTypes.toList.any (P.ifacesRec ·)) = true)
  (h21 : (c.loopsOut == fn.resultTypes.toList.any (P.loopsFrom ·)) = true)
  (h22 : (c.plainKeys == P.plainKeys) = true)
  (h23 : (c.shortTexts.isNone) = true)
  (h24 : (P.stopsHeard) = true)
  (h25 : (P.mayEnter) = true)
  (h26 : (c.lifted == P.liftsFinal) = true)
  (h27 : (P.make == some c.make) = true)
  (h28 : (c.kinds == (if c.domain.isEmpty then [] else fn.params.toList.map fun t => match P.underlying t with | some (.int k) => some k | _ => none)) = true)
  (h29 : (c.pinned == c.pinnedBy) = true)
  (h30 : (c.veiled == (fn.params.toList ++ s.plain.varTypes P ++ fn.resultTypes.toList).any (P.veiledRec ·)) = true)
  (h31 : (c.veiledFits P fn.params.toList (fn.params.toList ++ s.plain.varTypes P ++ fn.resultTypes.toList)) = true) : joinedFacts P f fn s c = true := by
 unfold joinedFacts
 simp only [Bool.and_eq_true]
 exact ⟨⟨⟨⟨⟨⟨⟨⟨⟨⟨⟨⟨⟨⟨⟨⟨⟨⟨⟨⟨⟨⟨⟨⟨⟨⟨⟨⟨⟨⟨⟨h0, h1⟩, h2⟩, h3⟩, h4⟩, h5⟩, h6⟩, h7⟩, h8⟩, h9⟩, h10⟩, h11⟩, h12⟩, h13⟩, h14⟩, h15⟩, h16⟩, h17⟩, h18⟩, h19⟩, h20⟩, h21⟩, h22⟩, h23⟩, h24⟩, h25⟩, h26⟩, h27⟩, h28⟩, h29⟩, h30⟩, h31⟩
def ordN : List Nat := [104, 97, 114, 110, 101, 115, 115, 32, 102, 49, 50, 48, 98, 98, 97, 51, 102, 53, 55, 102, 97, 55, 97, 55, 100, 50, 50, 100, 54, 99, 50, 53, 55, 102, 99, 101, 50, 101, 52, 54,
 102, 102, 57, 100, 52, 51, 102, 52, 54, 98, 56, 55, 100, 50, 51, 99, 101, 101, 51, 53, 49, 100, 52, 55, 54, 51, 55, 102, 55, 101, 52, 98, 32, 99, 117, 116, 32, 97, 116, 32,
 108, 111, 111, 112, 46, 101, 120, 97, 109, 112, 108, 101, 47, 103, 97, 114, 110, 101, 114, 47, 108, 97, 119, 115, 46, 70, 110, 72, 101, 97, 114, 71, 97, 112, 32, 108, 111, 111, 112, 46,
 101, 120, 97, 109, 112, 108, 101, 47, 103, 97, 114, 110, 101, 114, 47, 108, 97, 119, 115, 46, 70, 110, 72, 101, 97, 114, 74, 111, 105, 110, 32, 108, 111, 111, 112, 46, 101, 120, 97, 109,
 112, 108, 101, 47, 103, 97, 114, 110, 101, 114, 47, 108, 97, 119, 115, 46, 70, 110, 72, 101, 97, 114, 67, 111, 112, 121, 32, 108, 111, 111, 112, 46, 101, 120, 97, 109, 112, 108, 101, 47,
 103, 97, 114, 110, 101, 114, 47, 108, 97, 119, 115, 46, 70, 110, 76, 111, 103, 80, 97, 99, 107, 32, 108, 111, 111, 112, 46, 101, 120, 97, 109, 112, 108, 101, 47, 103, 97, 114, 110, 101,
 114, 47, 108, 97, 119, 115, 46, 70, 110, 69, 120, 97, 99, 116, 78, 111, 100, 101, 65, 115, 107, 32, 108, 111, 111, 112, 46, 101, 120, 97, 109, 112, 108, 101, 47, 103, 97, 114, 110, 101,
 114, 47, 108, 97, 119, 115, 46, 70, 110, 76, 111, 103, 75, 101, 101, 112, 32, 108, 111, 111, 112, 46, 101, 120, 97, 109, 112, 108, 101, 47, 103, 97, 114, 110, 101, 114, 47, 108, 97, 119,
 115, 46, 70, 110, 80, 97, 99, 107, 70, 97, 108, 108, 32, 108, 111, 111, 112, 46, 101, 120, 97, 109, 112, 108, 101, 47, 103, 97, 114, 110, 101, 114, 47, 108, 97, 119, 115, 46, 70, 110,
 76, 111, 103, 70, 114, 101, 101, 32, 108, 111, 111, 112, 46, 101, 120, 97, 109, 112, 108, 101, 47, 103, 97, 114, 110, 101, 114, 47, 108, 97, 119, 115, 46, 70, 110, 76, 111, 103, 65, 100,
 100, 32, 108, 111, 111, 112, 46, 101, 120, 97, 109, 112, 108, 101, 47, 103, 97, 114, 110, 101, 114, 47, 108, 97, 119, 115, 46, 70, 110, 75, 101, 101, 112, 65, 100, 100, 32, 108, 111, 111,
 112, 46, 101, 120, 97, 109, 112, 108, 101, 47, 103, 97, 114, 110, 101, 114, 47, 108, 97, 119, 115, 46, 70, 110, 69, 120, 97, 99, 116, 78, 111, 100, 101, 80, 111, 111, 108, 32, 108, 111,
 111, 112, 46, 101, 120, 97, 109, 112, 108, 101, 47, 103, 97, 114, 110, 101, 114, 47, 108, 97, 119, 115, 46, 70, 110, 69, 120, 97, 99, 116, 76, 111, 103, 79, 107, 32, 108, 111, 111, 112,
 46, 101, 120, 97, 109, 112, 108, 101, 47, 103, 97, 114, 110, 101, 114, 47, 108, 97, 119, 115, 46, 70, 110, 78, 111, 100, 101, 76, 101, 115, 115, 32, 108, 111, 111, 112, 46, 101, 120, 97,
 109, 112, 108, 101, 47, 103, 97, 114, 110, 101, 114, 47, 108, 97, 119, 115, 46, 70, 110, 69, 120, 97, 99, 116, 78, 111, 100, 101, 72, 101, 97, 114, 32, 108, 111, 111, 112, 46, 101, 120,
 97, 109, 112, 108, 101, 47, 103, 97, 114, 110, 101, 114, 47, 108, 97, 119, 115, 46, 70, 110, 78, 111, 100, 101, 80, 111, 111, 108, 32, 108, 111, 111, 112, 46, 101, 120, 97, 109, 112, 108,
 101, 47, 103, 97, 114, 110, 101, 114, 47, 108, 97, 119, 115, 46, 70, 110, 69, 120, 97, 99, 116, 87, 111, 114, 108, 100, 79, 107, 32, 108, 111, 111, 112, 46, 101, 120, 97, 109, 112, 108,
 101, 47, 103, 97, 114, 110, 101, 114, 47, 108, 97, 119, 115, 46, 70, 110, 72, 101, 97, 114, 65, 103, 97, 105, 110, 32, 108, 111, 111, 112, 46, 101, 120, 97, 109, 112, 108, 101, 47, 103,
 97, 114, 110, 101, 114, 47, 108, 97, 119, 115, 46, 70, 110, 72, 101, 97, 114, 68, 111, 119, 110, 32, 108, 111, 111, 112, 46, 101, 120, 97, 109, 112, 108, 101, 47, 103, 97, 114, 110, 101,
 114, 47, 108, 97, 119, 115, 46, 70, 110, 72, 101, 97, 114, 69, 108, 100, 101, 114]
theorem ord_eq : Tryz.prog.initOrder = String.ofList (ordN.map Char.ofNat) := by kernel_rfl
theorem ord_list : Tryz.prog.initOrder.toList = ordN.map Char.ofNat := by rw [ord_eq, String.toList_ofList]
theorem jo_laid : laidOutB Tryz.prog = true := by kernel_rfl
theorem jo_maps : mapsRowed Tryz.prog = true := by kernel_rfl
theorem jo_stops : (Tryz.prog.stops == []) = true := by kernel_rfl
theorem jo_knobs : (Tryz.prog.stopKnobs == []) = true := by kernel_rfl
theorem jo_keys : (true == Tryz.prog.plainKeys) = true := by kernel_rfl
theorem jo_heard : Tryz.prog.stopsHeard = true := by kernel_rfl
theorem ord_words : behindMainWord (wordsSigns (ordN.map Char.ofNat)) = "cut".toList :: (behindMainWord (wordsSigns (ordN.map Char.ofNat))).tail := by kernel_rfl
theorem strip_cut (W : List (List Char)) : stripLifts liftWords ("cut".toList :: W) = ([], "cut".toList :: W) := by kernel_rfl
theorem jo_later : Tryz.prog.laysLater = false := by kernel_rfl
theorem jo_reflect : Tryz.prog.bearsReflect = false := by kernel_rfl
theorem jo_door : Tryz.prog.doorFits [] = true := by kernel_rfl
theorem cut_gc : ("cut".toList == "gc".toList) = false := by kernel_rfl
theorem cut_spec : ("cut".toList == "spec".toList) = false := by kernel_rfl
theorem cut_carried : ("cut".toList == "carried".toList) = false := by kernel_rfl
theorem cut_cut : ("cut".toList == "cut".toList) = true := by kernel_rfl
theorem some_cut : (some "cut".toList == some "cut".toList) = true := by kernel_rfl
theorem jo_enter : Tryz.prog.mayEnter = true := by
 rw [Program.mayEnter, ord_list, ord_words]
 generalize (behindMainWord (wordsSigns (ordN.map Char.ofNat))).tail = W
 simp only [strip_cut, cut_gc, cut_spec, cut_carried, List.head?_cons, some_cut, jo_later, jo_reflect, jo_door, Bool.or_self, Bool.false_and, Bool.not_false, Bool.or_true, Bool.and_self, List.contains_nil]
theorem jo_lifts : Tryz.prog.headLifts = [] := by
 unfold Program.headLifts
 rw [ord_list, ord_words]
 generalize (behindMainWord (wordsSigns (ordN.map Char.ofNat))).tail = W
 simp only [strip_cut, List.head?_cons, some_cut, if_true]
theorem jo_final : (false == Tryz.prog.liftsFinal) = true := by
 unfold Program.liftsFinal
 rw [jo_lifts, ord_list, ord_words]
 generalize (behindMainWord (wordsSigns (ordN.map Char.ofNat))).tail = W
 kernel_rfl
theorem jo_make : (Tryz.prog.make == some .cut) = true := by
 rw [Program.make, ord_list, ord_words]
 generalize (behindMainWord (wordsSigns (ordN.map Char.ofNat))).tail = W
 simp only [cut_gc, cut_spec, cut_cut, Bool.or_self, Bool.true_or, if_true, Bool.false_eq_true, if_false]
 kernel_rfl
end Go.Proofs.YtccllgpaafgjaaaGreat

namespace Go.Proofs.YtccllgpaafgjaaaGreat
open Go.RowKit Go.Proofs.YtccllgpaafgjaaaGreatW.PrintWords Go.Joins Go.ChangeShapes Go.WideShapes Go.Deep
section
variable {H : Type} {enc : TypeId × Value → H} {w : World} {base : Nat} {spare : Nat → Bool} {held : Bool}
theorem cells_opL : Tryz.prog.cellsOf 54 = 5 := by kernel_rfl
theorem cells_opsL : Tryz.prog.cellsOf 51 = 1 := by kernel_rfl
theorem cells_boolL : Tryz.prog.cellsOf 4 = 1 := by kernel_rfl
set_option maxRecDepth 100000 in
theorem open_node {r : Reach} {b0 : Nat} {v : Value} {d : DataW H} {p : List MemPlace} (hv : Value.okWide Tryz.prog w r b0 53 v) (h : DataW.Trod enc Tryz.prog w base spare held 53 v d p) :
  ∃ (n : Node) (A : Option Addr) (c : Nat), v = .agg #[.bool n.up, .int .i64 n.term, .bool n.leads, .bool n.alone, .slice A n.ops.length c] ∧ kOp.C w A n.ops.length n.ops ∧ RawOs n.ops := by
 obtain ⟨cs, rfl, hsz⟩ := okWide_struct Tryz.underlying53 hv
 obtain ⟨c0, c1, c2, c3, c4, rfl⟩ := array5 (hsz.trans (show Tryz.prog.cellsOf 53 = 5 by kernel_rfl))
 obtain ⟨fuel, hf⟩ := h
 obtain ⟨y0, y1, y2, y3, y4, m, _, h0, h1, h2, h3, h4⟩ := trod_struct5 Tryz.underlying53 hf
 simp only [cells_boolL, cells_int, cells_opsL, List.drop_zero, List.drop_succ_cons, List.take_succ_cons, List.take_zero, Value.cells] at h0 h1 h2 h3 h4
 obtain ⟨u, e0, _⟩ := DataW.trod_bool Tryz.underlying4 h0
 obtain ⟨k, e1, _, hk⟩ := DataW.trod_int Tryz.underlying3 h1
 obtain ⟨l, e2, _⟩ := DataW.trod_bool Tryz.underlying4 h2
 obtain ⟨a, e3, _⟩ := DataW.trod_bool Tryz.underlying4 h3
 obtain ⟨A, c, xs, e4, hc, hC, hq, hm⟩ := open_row kOp (Q := RawO) Tryz.underlying51 cells_opL (fun n c y hl hy => by
  obtain ⟨o, rfl, hr⟩ := open_opE hl hy
  exact ⟨o, kOp_mk _ o, hr⟩) h4
 have := big_max
 simp only [List.cons.injEq, and_true] at e0 e1 e2 e3 e4
 subst e0 e1 e2 e3 e4
 exact ⟨⟨u, k, l, a, xs⟩, A, c, rfl, hC, ⟨by show xs.length ≤ _; omega, hq⟩⟩
end
end Go.Proofs.YtccllgpaafgjaaaGreat

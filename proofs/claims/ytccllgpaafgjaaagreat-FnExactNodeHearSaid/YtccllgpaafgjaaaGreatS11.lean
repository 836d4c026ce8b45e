/- Contracts of the program's and the reference's functions, and the plain laws behind them: part 11 of 12. -/
import Derived.Test.YtccllgpaafgjaaaGreatS1
import Derived.Test.YtccllgpaafgjaaaGreatS2
import Derived.Test.YtccllgpaafgjaaaGreatS3
import Derived.Test.YtccllgpaafgjaaaGreatS4
import Derived.Test.YtccllgpaafgjaaaGreatS5
import Derived.Test.YtccllgpaafgjaaaGreatS6
import Derived.Test.YtccllgpaafgjaaaGreatS7
import Derived.Test.YtccllgpaafgjaaaGreatS8
import Derived.Test.YtccllgpaafgjaaaGreatS9
import Derived.Test.YtccllgpaafgjaaaGreatS10
set_option linter.unusedVariables false
set_option linter.unusedSimpArgs false

namespace Go.Proofs.YtccllgpaafgjaaaGreat
open Go.RowKit Go.Proofs.YtccllgpaafgjaaaGreatW.PrintWords Go.Proofs.YtccllgpaafgjaaaGreatW.PrintLast
structure OpsSt (w W : World) (rb k : Nat) (v0 v1 : Value) (p : Pool) (bvs : List Value) (pb n : Nat) (v7 : Value) (xs : List Value) : Prop where
  res : Blk W w.heap.size #[.slice none 0 0, .slice none 0 0] 42
  pool : Blk W pb #[v0, v1] 42
  rd : Rd W rb k
  own : OwnP W w.heap.size v0 v1 p bvs
  row : W.ownsRow w.heap.size 27 5 v7 n xs
  g : w.grownBy W (some rb)
  l2 : w.heap.size < pb
  l3 : rb < w.heap.size
theorem row_rd {w w' : World} {base : Nat} {e : TypeId} {sz n : Nat} {v : Value} {xs : List Value} (h : w.ownsRow base e sz v n xs) (he : e ≠ 164) {rb k : Nat} (hR : Rd w rb k) (hg : w.grownBy w' (some rb)) : w'.ownsRow base e sz v n xs := by
 obtain ⟨A, c, bs, q, hB, _⟩ := hR.h
 exact World.ownsRow.kept h hg (.inr fun e => own_ne h hB he e.symm)
theorem OpsSt.step {w W W' : World} {rb k k' : Nat} {v0 v1 : Value} {p : Pool} {bvs : List Value} {pb n : Nat} {v7 : Value} {xs : List Value} (h : OpsSt w W rb k v0 v1 p bvs pb n v7 xs) (hR : Rd W' rb k') (hg : W.grownBy W' (some rb)) : OpsSt w W' rb k' v0 v1 p bvs pb n v7 xs :=
 ⟨h.res.grown hg (fun e => by injection e with e; have := h.l3; omega), h.pool.grown hg (fun e => by injection e with e; have := h.l3; have := h.l2; omega), hR, h.own.rd h.rd hg, row_rd h.row (by decide) h.rd hg, grown_tr h.g hg, h.l2, h.l3⟩
theorem OpsSt.bel {w W W' : World} {rb k : Nat} {v0 v1 : Value} {p : Pool} {bvs : List Value} {pb n : Nat} {v7 : Value} {xs : List Value} (h : OpsSt w W rb k v0 v1 p bvs pb n v7 xs) (hb : Bel W W') : OpsSt w W' rb k v0 v1 p bvs pb n v7 xs :=
 ⟨h.res.bel hb, h.pool.bel hb, h.rd.bel hb, h.own.bel hb, pw_own_below h.row hb, grown_tr h.g (grown_of_bel hb _), h.l2, h.l3⟩
theorem OpsSt.turn {w W : World} {rb k : Nat} {v0 v1 u0 u1 : Value} {p q : Pool} {bvs bvq : List Value} {pb n : Nat} {v7 : Value} {xs : List Value} (h : OpsSt w W rb k v0 v1 p bvs pb n v7 xs) (hq : OwnP W w.heap.size u0 u1 q bvq) : OpsSt w ((W.setCell ⟨pb, 0, none⟩ u0).setCell ⟨pb, 1, none⟩ u1) rb k u0 u1 q bvq pb n v7 xs := by
 have hp1 := h.pool.set 0 u0 (cs' := #[u0, v1]) rfl
 have hlt : rb < pb := Nat.lt_trans h.l3 h.l2
 exact ⟨(h.res.apart (by have := h.l2; omega) 0 u0).apart (by have := h.l2; omega) 1 u1, hp1.set 1 u1 rfl, (h.rd.set hlt 0 u0).set hlt 1 u1, (hq.far h.pool (by decide) (by decide) (by decide) 0 u0).far hp1 (by decide) (by decide) (by decide) 1 u1,
  own_setCell (p := ⟨pb, 1, none⟩) (own_setCell (p := ⟨pb, 0, none⟩) h.row (own_ne h.row h.pool (by decide)) u0) (own_ne (own_setCell (p := ⟨pb, 0, none⟩) h.row (own_ne h.row h.pool (by decide)) u0) hp1 (by decide)) u1, grown_new (grown_new h.g (Nat.le_of_lt h.l2) 0 u0) (Nat.le_of_lt h.l2) 1 u1, h.l2, h.l3⟩
structure OpsO (w W : World) (rb k : Nat) (v0 v1 : Value) (p : Pool) (bvs : List Value) (pb n : Nat) (v7 : Value) (xs : List Value) (ob : Nat) (o : Op) : Prop where
  st : OpsSt w W rb k v0 v1 p bvs pb n v7 xs
  op : Blk W ob (opCs o) 27
theorem OpsO.bel {w W W' : World} {rb k : Nat} {v0 v1 : Value} {p : Pool} {bvs : List Value} {pb n : Nat} {v7 : Value} {xs : List Value} {ob : Nat} {o : Op} (h : OpsO w W rb k v0 v1 p bvs pb n v7 xs ob o) (hb : Bel W W') : OpsO w W' rb k v0 v1 p bvs pb n v7 xs ob o := ⟨h.st.bel hb, h.op.bel hb⟩
def OpsOut (rb k d : Nat) (w : World) (e : Ending) (w' : World) : Prop := ∃ (v7 v0 v1 : Value) (p : Pool) (bvs : List Value), e = .returned (.tuple #[v7, .agg #[v0, v1]]) ∧ PoolP p ∧ OwnP w' w.heap.size v0 v1 p bvs ∧ Rd w' rb (k + d) ∧ w.grownBy w' (some rb)
def OpsOut2 (rb k d n : Nat) (w : World) (e : Ending) (w' : World) : Prop := ∃ (v7 v0 v1 : Value) (p : Pool) (bvs : List Value) (os : List Op), e = .returned (.tuple #[v7, .agg #[v0, v1]]) ∧ (PoolP p ∧ runP newP os = some p ∧ os.length ≤ n ∧ ∀ x ∈ os, SmallO x) ∧ OwnO w' w.heap.size v7 os ∧ OwnP w' w.heap.size v0 v1 p bvs ∧ Rd w' rb (k + d) ∧ w.grownBy w' (some rb)
structure OpsX (os : List Op) (m : Nat) (xs : List Value) (p : Pool) : Prop where
  len : os.length = m
  xs : xs = os.flatMap encO
  op : ∀ x ∈ os, SmallO x
  run : runP newP os = some p
theorem OpsX.snoc {os : List Op} {m : Nat} {xs : List Value} {p q : Pool} {o : Op} (h : OpsX os m xs p) (ho : SmallO o) (hok : opOk o = true) (hq : (opF p o).getD p = q) (hs : (opF p o).isSome = true) : OpsX (os ++ [o]) (m + 1) (xs ++ [.int .i64 o.kind, .string o.name, .string o.dest, .int .i64 o.n, .string o.text]) q := by
 obtain ⟨q', hq'⟩ := Option.isSome_iff_exists.1 hs
 rw [hq'] at hq
 obtain rfl : q' = q := hq
 refine ⟨by rw [List.length_append, h.len]; rfl, by rw [h.xs, List.flatMap_append]; rfl, fun x hx => ?_, ?_⟩
 ·rcases List.mem_append.1 hx with hx | hx
  ·exact h.op x hx
  ·rw [List.mem_singleton.1 hx]; exact ho
 ·rw [runP_snoc, h.run]
  show opR p o = _
  unfold opR
  rw [if_pos hok, hq']
end Go.Proofs.YtccllgpaafgjaaaGreat

namespace Go.Proofs.YtccllgpaafgjaaaGreat
end Go.Proofs.YtccllgpaafgjaaaGreat

namespace Go.Proofs.YtccllgpaafgjaaaGreat
open Go.RowKit Go.Proofs.YtccllgpaafgjaaaGreatW.PrintWords Go.Proofs.YtccllgpaafgjaaaGreatW.PrintLast
structure DrawnP (p : Pool) : Prop where
  small : SmallP p
  sl : p.slots.length = 8
  vl : p.vols.length ≤ 5
theorem PoolP.drawn {p : Pool} (h : PoolP p) : DrawnP p := ⟨h.small, h.s.len, by have := h.v.len; omega⟩
theorem DrawnP.setU {p : Pool} (h : DrawnP p) {m : Nat} {x : Slot} (hx : p.slots[m]? = some x) (u : Int) : DrawnP ⟨p.slots.set m ⟨x.text, u⟩, p.vols⟩ :=
 ⟨⟨⟨by rw [List.length_set]; exact h.small.slots.len, fun y hy => by
  rcases List.mem_or_eq_of_mem_set hy with hy | rfl
  ·exact h.small.slots.text y hy
  ·exact h.small.slots.text x (List.mem_of_getElem? hx)⟩, h.small.vols⟩, by show (p.slots.set m _).length = 8; rw [List.length_set]; exact h.sl, h.vl⟩
theorem DrawnP.setB {p : Pool} (h : DrawnP p) {m : Nat} {x : Vol} (hx : p.vols[m]? = some x) (b : Int) : DrawnP ⟨p.slots, p.vols.set m ⟨x.name, x.blocks.set 0 b⟩⟩ := by
 have hs := h.small.vols
 refine ⟨⟨h.small.slots, ⟨by rw [List.length_set]; exact hs.len, fun y hy => ?_, fun y hy => ?_⟩⟩, h.sl, by show (p.vols.set m _).length ≤ 5; rw [List.length_set]; exact h.vl⟩
 ·rcases List.mem_or_eq_of_mem_set hy with hy | rfl
  ·exact hs.blocks y hy
  ·show (x.blocks.set 0 b).length ≤ _
   rw [List.length_set]; exact hs.blocks x (List.mem_of_getElem? hx)
 ·rcases List.mem_or_eq_of_mem_set hy with hy | rfl
  ·exact hs.name y hy
  ·exact hs.name x (List.mem_of_getElem? hx)
def PoolOut (rb k d : Nat) (w : World) (e : Ending) (w' : World) : Prop := ∃ (v0 v1 : Value) (p : Pool) (bvs : List Value), e = .returned (.agg #[v0, v1]) ∧ DrawnP p ∧ OwnP w' w.heap.size v0 v1 p bvs ∧ Rd w' rb (k + d) ∧ w.grownBy w' (some rb)
end Go.Proofs.YtccllgpaafgjaaaGreat

namespace Go.Proofs.YtccllgpaafgjaaaGreat
open Go.RowKit Go.Proofs.YtccllgpaafgjaaaGreatW.PrintWords Go.Proofs.YtccllgpaafgjaaaGreatW.PrintLast
theorem OwnT.rd {w w' : World} {base : Nat} {v : Value} {os : List Op} (h : OwnT w base v os) {rb k : Nat} (hR : Rd w rb k) (hg : w.grownBy w' (some rb)) : OwnT w' base v os := by
 obtain ⟨A, c, bs, q, hB, _⟩ := hR.h
 refine h.kept hg fun k hk e => ?_
 injection e with e
 subst e
 obtain ⟨_, _, cs', hc⟩ := h.base _ hk
 have h2 := hB.symm.trans hc
 injection h2 with h2
 injection h2 with _ h2
 exact absurd h2 (by decide)
theorem OwnT.lower {w : World} {b b' : Nat} {v : Value} {os : List Op} (h : OwnT w b v os) (hb : b' ≤ b) : OwnT w b' v os := by
 rcases h with ⟨rfl, A, rfl, ha⟩ | ⟨g, cap, pre, rfl, hpl, ho⟩
 ·exact .inl ⟨rfl, A, rfl, fun a e => ⟨Nat.le_trans hb (ha a e).1, (ha a e).2⟩⟩
 ·exact .inr ⟨g, cap, pre, rfl, hpl, own_lower ho hb⟩
theorem blk_otherT {w : World} {b2 : Nat} {v2 : Value} {os : List Op} (h2 : OwnT w b2 v2 os) {b : Nat} {cs : Array Value} {t : TypeId} (hB : Blk w b cs t) (hne : 27 ≠ t) : some b ≠ v2.ownBlock := fun e => by
 obtain ⟨_, _, c2, hc2⟩ := h2.base b e.symm
 have h3 := hB.symm.trans hc2
 injection h3 with h3
 injection h3 with _ h3
 exact hne h3.symm
structure DrawnL (l : Log) (n : Nat) : Prop where
  small : SmallL l
  len : l.ops.length ≤ n
theorem DrawnL.safe {l : Log} {n : Nat} (h : DrawnL l n) (s : Int) : DrawnL ⟨l.base, l.ops, s⟩ n := ⟨⟨h.small.base, h.small.ops⟩, h.len⟩
theorem DrawnL.snoc {l : Log} {n : Nat} (h : DrawnL l n) (hn : n ≤ 1000) {o : Op} (ho : SmallO o) : DrawnL ⟨l.base, l.ops ++ [o], l.safe⟩ (n + 1) := by
 have hl := h.len
 have e : (l.ops ++ [o]).length = l.ops.length + 1 := by rw [List.length_append]; rfl
 refine ⟨⟨h.small.base, ⟨by show (l.ops ++ [o]).length ≤ _; omega, fun x hx => ?_⟩⟩, by show (l.ops ++ [o]).length ≤ _; omega⟩
 rcases List.mem_append.1 hx with hx | hx
 ·exact h.small.ops.op x hx
 ·rw [List.mem_singleton.1 hx]; exact ho
structure LgSt (w W : World) (rb k : Nat) (v0 v1 v2 : Value) (l : Log) (bvs : List Value) (lb : Nat) : Prop where
  res : Blk W w.heap.size #[.slice none 0 0, .slice none 0 0, .slice none 0 0, .int .i64 0] 44
  var : Blk W lb #[v0, v1, v2, .int .i64 l.safe] 44
  rd : Rd W rb k
  own : OwnP W w.heap.size v0 v1 l.base bvs
  ops : OwnT W w.heap.size v2 l.ops
  g : w.grownBy W (some rb)
  l2 : w.heap.size < lb
  l3 : rb < w.heap.size
section
variable {w W W' : World} {rb k k' lb : Nat} {v0 v1 v2 : Value} {l : Log} {bvs : List Value}
theorem LgSt.step (h : LgSt w W rb k v0 v1 v2 l bvs lb) (hR : Rd W' rb k') (hg : W.grownBy W' (some rb)) : LgSt w W' rb k' v0 v1 v2 l bvs lb :=
 ⟨h.res.grown hg (fun e => by injection e with e; have := h.l3; omega), h.var.grown hg (fun e => by injection e with e; have := h.l3; have := h.l2; omega), hR, h.own.rd h.rd hg, h.ops.rd h.rd hg, grown_tr h.g hg, h.l2, h.l3⟩
theorem LgSt.bel (h : LgSt w W rb k v0 v1 v2 l bvs lb) (hb : Bel W W') : LgSt w W' rb k v0 v1 v2 l bvs lb :=
 ⟨h.res.bel hb, h.var.bel hb, h.rd.bel hb, h.own.bel hb, h.ops.bel hb, grown_tr h.g (grown_of_bel hb _), h.l2, h.l3⟩
end
def LogOut (rb k d n : Nat) (w : World) (e : Ending) (w' : World) : Prop := ∃ (v0 v1 v2 : Value) (l : Log) (bvs : List Value), e = .returned (.agg #[v0, v1, v2, .int .i64 l.safe]) ∧ DrawnL l n ∧ OwnP w' w.heap.size v0 v1 l.base bvs ∧ OwnT w' w.heap.size v2 l.ops ∧ Rd w' rb (k + d) ∧ w.grownBy w' (some rb)
theorem LgSt.out {w W : World} {rb k k' lb n d : Nat} {v0 v1 v2 : Value} {l : Log} {bvs : List Value} (h : LgSt w W rb k v0 v1 v2 l bvs lb) (hl : DrawnL l n) (hd : k ≤ k' + d) : LogOut rb k' d n w (.returned (.agg #[v0, v1, v2, .int .i64 l.safe])) (wset4 W w.heap.size v0 v1 v2 (.int .i64 l.safe)) := by
 have hlt := h.l3
 refine ⟨v0, v1, v2, l, bvs, rfl, hl, h.own.far4 h.res _ _ _ _, h.ops.far4 h.res _ _ _ _, ((((h.rd.set hlt 0 _).set hlt 1 _).set hlt 2 _).set hlt 3 _).more hd, ?_⟩
 exact grown_new (grown_new (grown_new (grown_new h.g (Nat.le_refl _) 0 _) (Nat.le_refl _) 1 _) (Nat.le_refl _) 2 _) (Nat.le_refl _) 3 _
end Go.Proofs.YtccllgpaafgjaaaGreat

namespace Go.Proofs.YtccllgpaafgjaaaGreat
open Go.RowKit Go.Proofs.YtccllgpaafgjaaaGreatW.PrintWords
end Go.Proofs.YtccllgpaafgjaaaGreat

namespace Go.Proofs.YtccllgpaafgjaaaGreat
open Go.RowKit Go.Proofs.YtccllgpaafgjaaaGreatW.PrintWords
end Go.Proofs.YtccllgpaafgjaaaGreat

namespace Go.Proofs.YtccllgpaafgjaaaGreat
open Go.RowKit Go.Proofs.YtccllgpaafgjaaaGreatW.PrintWords
def blksOf (vs : List Vol) (t : ByteArray) : List Int := if volIdx vs t < 0 then [] else (volAt vs (volIdx vs t)).blocks
theorem lgBlks_len (vs : List Vol) (t : ByteArray) : lgBlks vs t = (blksOf vs t).length := by unfold lgBlks blksOf; split <;> rfl
/-! ### pieces -/
def pc (s : List Slot) (pl : Int) : ByteArray := if 0 < pl then slotText s pl else e0
def pieces (p : Pool) (t : ByteArray) : List ByteArray := (blksOf p.vols t).map (pc p.slots)
def Keeps (s t : List Slot) : Prop := ∀ (m : Nat) (y : Slot), t[m]? = some y → ∃ x, s[m]? = some x ∧ (y.text = x.text ∨ y.uses = 0)
theorem Keeps.refl (s : List Slot) : Keeps s s := fun m y hy => ⟨y, hy, .inl rfl⟩
/-! ### the four changes -/
def freeP (p : Pool) (name : ByteArray) (b : Int) (i : Nat) (v : Vol) : Pool := ⟨backS p name b, p.vols.set i ⟨name, v.blocks.set b.toNat 0⟩⟩
/-! ### reading -/
def RdEq (a : Pool) (x : ByteArray) (b : Pool) (y : ByteArray) : Prop := lgBlks a.vols x = lgBlks b.vols y ∧ ∀ i : Nat, (i : Int) < lgBlks a.vols x → readOk a x i = true ∧ readOk b y i = true ∧ readV a x i = readV b y i
def OthEq (a b : Pool) (n : ByteArray) : Prop := ∀ x ∈ a.vols, x.name ≠ n → RdEq a x.name b x.name
end Go.Proofs.YtccllgpaafgjaaaGreat

namespace Go.Proofs.YtccllgpaafgjaaaGreat
open Go.RowKit Go.Proofs.YtccllgpaafgjaaaGreatW.PrintWords
/-! ### free places -/
theorem PoolP.free {p : Pool} (h : PoolP p) : storeFree p.slots = freeN p.slots := storeFree_yes (storeOk_iff.2 h.s)
/-! ### a clone that is gone -/
/-! ### rows by name -/
theorem sorted_ext {α : Type} {f : α → Nat} : ∀ (vs ws : List α), vs.Pairwise (fun a b => f a < f b) → ws.Pairwise (fun a b => f a < f b) → (∀ x, x ∈ vs ↔ x ∈ ws) → vs = ws
 | [], [], _, _, _ => rfl
 | [], b :: ws, _, _, h => by have := (h b).2 List.mem_cons_self; cases this
 | a :: vs, [], _, _, h => by have := (h a).1 List.mem_cons_self; cases this
 | a :: vs, b :: ws, h1, h2, h => by
  have h3 := List.pairwise_cons.1 h1
  have h4 := List.pairwise_cons.1 h2
  have e : a = b := by
   rcases List.mem_cons.1 ((h a).1 List.mem_cons_self) with e | e
   ·exact e
   ·rcases List.mem_cons.1 ((h b).2 List.mem_cons_self) with e2 | e2
    ·exact e2.symm
    ·have := h3.1 b e2; have := h4.1 a e; omega
  subst e
  rw [sorted_ext vs ws h3.2 h4.2 fun x => ⟨fun hx => by
   rcases List.mem_cons.1 ((h x).1 (List.mem_cons_of_mem _ hx)) with e | e
   ·subst e; have := h3.1 x hx; omega
   ·exact e, fun hx => by
   rcases List.mem_cons.1 ((h x).2 (List.mem_cons_of_mem _ hx)) with e | e
   ·subst e; have := h4.1 x hx; omega
   ·exact e⟩]
theorem VolsP.pw {vs : List Vol} (h : VolsP vs) : vs.Pairwise (fun a b => nmN a.name < nmN b.name) := by
 rw [List.pairwise_iff_getElem]
 intro i j hi hj hij
 exact h.sort i j _ _ hij (List.getElem?_eq_getElem hi) (List.getElem?_eq_getElem hj)
theorem VolsP.ext {vs ws : List Vol} (h1 : VolsP vs) (h2 : VolsP ws) (h : ∀ x, x ∈ vs ↔ x ∈ ws) : vs = ws := sorted_ext vs ws h1.pw h2.pw h
/-! ### two volumes made -/
/-! ### all gone -/
/-! ### room for a piece -/
theorem hasBlk_iff {vs : List Vol} (h : VolsP vs) {t : ByteArray} {b : Int} : 0 ≤ hasBlk vs t b ↔ 0 ≤ b ∧ b < (blksOf vs t).length := by
 unfold hasBlk blksOf
 by_cases hv : volIdx vs t < 0
 ·rw [if_pos hv, if_pos hv]; simp
 ·rw [if_neg hv, if_neg hv]
  cases hr : inR b 0 ((volAt vs (volIdx vs t)).blocks.length - 1)
  ·rw [inR_no] at hr
   simp only [Bool.false_eq_true, if_false]
   omega
  ·rw [inR_iff] at hr
   rw [if_pos rfl]
   omega
theorem PoolP.wr {p : Pool} (h : PoolP p) {t : ByteArray} {b : Int} (h0 : 0 ≤ b) (h1 : b < lgBlks p.vols t) : ∃ i v x, Wr p t b i v x :=
 hasBlk_wr ((hasBlk_iff h.v).2 ⟨h0, by rw [lgBlks_len] at h1; exact h1⟩)
def there (s : List Slot) (t : ByteArray) : Bool := decide (0 ≤ idx (fun o : Slot => o.text.toList == t.toList) s)
/-! the places behind a block's piece given back -/
end Go.Proofs.YtccllgpaafgjaaaGreat

namespace Go.Proofs.YtccllgpaafgjaaaGreat
open Go.RowKit Go.Proofs.YtccllgpaafgjaaaGreatW.PrintWords
end Go.Proofs.YtccllgpaafgjaaaGreat

namespace Go.Proofs.YtccllgpaafgjaaaGreat
open Go.RowKit Go.Proofs.YtccllgpaafgjaaaGreatW.PrintWords
/-! ### texts -/
def spB : ByteArray := ⟨#[32]⟩
def dashB : ByteArray := ⟨#[45]⟩
def nlB : ByteArray := ⟨#[10]⟩
def blkT (s : List Slot) (pl : Int) : ByteArray := if 0 < pl ∧ 0 < (s.getD (pl - 1).toNat Slot.z).uses then slotText s pl else dashB
def volRun (s : List Slot) (a : ByteArray) (bs : List Int) : ByteArray := bs.foldl (fun a pl => a ++ (spB ++ blkT s pl)) a
def volT (v : Vol) (s : List Slot) : ByteArray := if volOk v && storeOk s then volRun s v.name v.blocks else e0
def poolRun (s : List Slot) (a : ByteArray) (vs : List Vol) : ByteArray := vs.foldl (fun a v => a ++ (volT v s ++ nlB)) a
def poolT (p : Pool) : ByteArray := if poolOk p then poolRun p.slots e0 p.vols else e0
def tagT (t : ByteArray) (ps : List ByteArray) : ByteArray := ps.foldl (fun a x => a ++ (spB ++ if x = e0 then dashB else x)) t
def tags (p : Pool) : List (ByteArray × List ByteArray) := p.vols.map fun v => (v.name, v.blocks.map (pc p.slots))
/-! ### changes -/
def opPieces (o : Op) (f : ByteArray → List ByteArray) (t : ByteArray) : List ByteArray :=
 if o.kind = 1 then (if t = o.name then List.replicate o.n.toNat e0 else f t)
 else if o.kind = 2 then (if t = o.name then (f o.name).set o.n.toNat o.text else f t)
 else if o.kind = 3 then (if t = o.dest then f o.name else f t)
 else (if t = o.name then [] else f t)
/-! ### how many pieces -/
def kstep (seen : List ByteArray) (t : ByteArray) : List ByteArray := if (t.toList == []) || seen.any (fun o => o.toList == t.toList) then seen else seen ++ [t]
def usedT : List Slot → List ByteArray
 | [] => []
 | x :: s => if x.uses = 0 then usedT s else x.text :: usedT s
def allT (p : Pool) (vs : List Vol) : List ByteArray := vs.flatMap fun v => pieces p v.name
end Go.Proofs.YtccllgpaafgjaaaGreat

namespace Go.Proofs.YtccllgpaafgjaaaGreat
open Go.RowKit Go.Proofs.YtccllgpaafgjaaaGreatW.PrintWords
end Go.Proofs.YtccllgpaafgjaaaGreat

namespace Go.Proofs.YtccllgpaafgjaaaGreat
open Go.RowKit Go.Proofs.YtccllgpaafgjaaaGreatW.PrintWords
end Go.Proofs.YtccllgpaafgjaaaGreat

namespace Go.Proofs.YtccllgpaafgjaaaGreat
open Go.RowKit Go.Proofs.YtccllgpaafgjaaaGreatW.PrintWords Go.Proofs.YtccllgpaafgjaaaGreatW.PrintLast
def NameV (v : Value) : Prop := ∃ s : ByteArray, v = .string s ∧ s.size ≤ 1048576
structure NmSt (w W : World) (rb k base : Nat) (v0 v1 : Value) (p : Pool) (bvs : List Value) : Prop where
  box : Blk W w.heap.size #[v0, v1] 42
  rd : Rd W rb k
  own : OwnP W base v0 v1 p bvs
  g : w.grownBy W (some rb)
  l3 : rb < w.heap.size
theorem NmSt.step {w W W' : World} {rb k k' base : Nat} {v0 v1 : Value} {p : Pool} {bvs : List Value} (h : NmSt w W rb k base v0 v1 p bvs) (hR : Rd W' rb k') (hg : W.grownBy W' (some rb)) : NmSt w W' rb k' base v0 v1 p bvs :=
 ⟨h.box.grown hg (fun e => by injection e with e; have := h.l3; omega), hR, h.own.rd h.rd hg, grown_tr h.g hg, h.l3⟩
theorem NmSt.bel {w W W' : World} {rb k base : Nat} {v0 v1 : Value} {p : Pool} {bvs : List Value} (h : NmSt w W rb k base v0 v1 p bvs) (hb : Bel W W') : NmSt w W' rb k base v0 v1 p bvs :=
 ⟨h.box.bel hb, h.rd.bel hb, h.own.bel hb, grown_tr h.g (grown_of_bel hb _), h.l3⟩
def five : List ByteArray := [sOf [65], sOf [66], sOf [67], sOf [68], sOf [69]]
end Go.Proofs.YtccllgpaafgjaaaGreat

namespace Go.Proofs.YtccllgpaafgjaaaGreat
open Go.RowKit Go.Proofs.YtccllgpaafgjaaaGreatW.PrintWords Go.Proofs.YtccllgpaafgjaaaGreatW.PrintLast
theorem bel_of_grown {w w1 w2 : World} (h : Bel w w1) {rb : Nat} (hg : w1.grownBy w2 (some rb)) (hr : w.heap.size ≤ rb) : Bel w w2 := h.grown hg h.size (fun k e => by injection e with e; omega)
def DrewT (w : World) (e : Ending) (w' : World) : Prop := ∃ (v0 v1 : Value) (p : Pool) (bvs : List Value), e = .returned (.agg #[v0, v1]) ∧ DrawnP p ∧ OwnP w' w.heap.size v0 v1 p bvs ∧ Bel w w'
structure DrSt (w W : World) (rb k : Nat) (v0 v1 : Value) (p : Pool) (bvs : List Value) (pb : Nat) : Prop where
  res : Blk W w.heap.size #[.slice none 0 0, .slice none 0 0] 42
  pool : Blk W pb #[v0, v1] 42
  rd : Rd W rb k
  own : OwnP W w.heap.size v0 v1 p bvs
  bel : Bel w W
  l1 : w.heap.size < rb
  l2 : rb < pb
theorem DrSt.step {w W W' : World} {rb k k' : Nat} {v0 v1 : Value} {p : Pool} {bvs : List Value} {pb : Nat} (h : DrSt w W rb k v0 v1 p bvs pb) (hR : Rd W' rb k') (hg : W.grownBy W' (some rb)) : DrSt w W' rb k' v0 v1 p bvs pb :=
 ⟨h.res.grown hg (fun e => by injection e with e; have := h.l1; omega), h.pool.grown hg (fun e => by injection e with e; have := h.l2; omega), hR, h.own.rd h.rd hg, bel_of_grown h.bel hg (Nat.le_of_lt h.l1), h.l1, h.l2⟩
theorem DrSt.below {w W W' : World} {rb k : Nat} {v0 v1 : Value} {p : Pool} {bvs : List Value} {pb : Nat} (h : DrSt w W rb k v0 v1 p bvs pb) (hb : Bel W W') : DrSt w W' rb k v0 v1 p bvs pb :=
 ⟨h.res.bel hb, h.pool.bel hb, h.rd.bel hb, h.own.bel hb, h.bel.tr hb, h.l1, h.l2⟩
def DrewG (w : World) (e : Ending) (w' : World) : Prop := ∃ (v0 v1 : Value) (p : Pool) (bvs : List Value) (s : ByteArray), e = .returned (.tuple #[.agg #[v0, v1], .string s]) ∧ s.size ≤ 1048576 ∧ DrawnP p ∧ OwnP w' w.heap.size v0 v1 p bvs ∧ Bel w w'
end Go.Proofs.YtccllgpaafgjaaaGreat

namespace Go.Proofs.YtccllgpaafgjaaaGreat
open Go.RowKit Go.Proofs.YtccllgpaafgjaaaGreatW.PrintWords Go.Proofs.YtccllgpaafgjaaaGreatW.PrintLast
def eight : List ByteArray := [sOf [65], sOf [66], sOf [67], sOf [68], sOf [68], sOf [67], sOf [69], sOf []]
def DrewM (w : World) (e : Ending) (w' : World) : Prop := ∃ (v0 v1 : Value) (p : Pool) (bvs : List Value) (s : ByteArray) (n : Int), e = .returned (.tuple #[.agg #[v0, v1], .string s, .int .i64 n]) ∧ s ∈ eight ∧ 1 ≤ n ∧ n ≤ 100 ∧ DrawnP p ∧ OwnP w' w.heap.size v0 v1 p bvs ∧ Bel w w'
end Go.Proofs.YtccllgpaafgjaaaGreat

namespace Go.Proofs.YtccllgpaafgjaaaGreat
open Go.RowKit Go.Proofs.YtccllgpaafgjaaaGreatW.PrintWords Go.Proofs.YtccllgpaafgjaaaGreatW.PrintLast
def DrewC (w : World) (e : Ending) (w' : World) : Prop := ∃ (v0 v1 : Value) (p : Pool) (bvs : List Value) (s d : ByteArray), e = .returned (.tuple #[.agg #[v0, v1], .string s, .string d]) ∧ s.size ≤ 1048576 ∧ d ∈ five ∧ DrawnP p ∧ OwnP w' w.heap.size v0 v1 p bvs ∧ Bel w w'
end Go.Proofs.YtccllgpaafgjaaaGreat

namespace Go.Proofs.YtccllgpaafgjaaaGreat
open Go.RowKit Go.Proofs.YtccllgpaafgjaaaGreatW.PrintWords
def four : List ByteArray := [sOf [97], sOf [98, 99, 100], sOf [], sOf [100, 100]]
def fourB : List ByteArray := [sOf [97], sOf [98, 98], sOf [], sOf [99, 100]]
/-! ### gone -/
/-! ### make -/
/-! ### clone -/
/-! ### write -/
end Go.Proofs.YtccllgpaafgjaaaGreat

namespace Go.Proofs.YtccllgpaafgjaaaGreat
open Go.RowKit Go.Proofs.YtccllgpaafgjaaaGreatW.PrintWords Go.Proofs.YtccllgpaafgjaaaGreatW.PrintLast
def DrewW (w : World) (e : Ending) (w' : World) : Prop := ∃ (v0 v1 : Value) (p : Pool) (bvs : List Value) (s : ByteArray) (n : Int) (tx : ByteArray), e = .returned (.tuple #[.agg #[v0, v1], .string s, .int .i64 n, .string tx]) ∧ s.size ≤ 1048576 ∧ -100 ≤ n ∧ n ≤ 100 ∧ tx.size ≤ 1048576 ∧ DrawnP p ∧ OwnP w' w.heap.size v0 v1 p bvs ∧ Bel w w'
end Go.Proofs.YtccllgpaafgjaaaGreat

namespace Go.Proofs.YtccllgpaafgjaaaGreat
open Go.RowKit Go.Proofs.YtccllgpaafgjaaaGreatW.PrintWords
def NewP (w : World) (q : Pool) (ok : Bool) (e : Ending) (w' : World) : Prop := ∃ A0 A1 c0 c1, e = .returned (.tuple #[.agg #[.slice A0 q.slots.length c0, .slice A1 q.vols.length c1], .bool ok]) ∧ PoolIn w' A0 A1 c0 c1 q ∧ Bel w w'
theorem MadePB.new {w : World} {q : Pool} {ok : Bool} {e : Ending} {w' : World} (h : MadePB w q ok e w') : NewP w q ok e w' := by
 obtain ⟨v0, v1, bvs, rfl, ho, hb⟩ := h
 obtain ⟨A0, A1, c0, c1, rfl, rfl, hi⟩ := ho.reads
 exact ⟨A0, A1, c0, c1, rfl, hi, hb⟩
structure PVar (w : World) (b : Nat) (A0 A1 : Option Addr) (c0 c1 : Nat) (q : Pool) : Prop where
  blk : Blk w b #[.slice A0 q.slots.length c0, .slice A1 q.vols.length c1] 42
  inn : PoolIn w A0 A1 c0 c1 q
theorem PVar.bel {w w' : World} {b : Nat} {A0 A1 : Option Addr} {c0 c1 : Nat} {q : Pool} (h : PVar w b A0 A1 c0 c1 q) (hb : Bel w w') : PVar w' b A0 A1 c0 c1 q := ⟨h.blk.bel hb, h.inn.bel hb⟩
theorem PVar.new {w : World} {A0 A1 : Option Addr} {c0 c1 : Nat} {q : Pool} (h : PoolIn w A0 A1 c0 c1 q) : PVar (w.alloc (.cells #[.slice A0 q.slots.length c0, .slice A1 q.vols.length c1] 42)) w.heap.size A0 A1 c0 c1 q := ⟨Blk.new _ _ _, h.alloc _⟩
theorem PVar.c0 {w : World} {b : Nat} {A0 A1 : Option Addr} {c0 c1 : Nat} {q : Pool} (h : PVar w b A0 A1 c0 c1 q) : w.cell? ⟨b, 0, none⟩ = some (.slice A0 q.slots.length c0) := by have := h.blk.cell 0; simpa using this
theorem PVar.c1 {w : World} {b : Nat} {A0 A1 : Option Addr} {c0 c1 : Nat} {q : Pool} (h : PVar w b A0 A1 c0 c1 q) : w.cell? ⟨b, 1, none⟩ = some (.slice A1 q.vols.length c1) := by have := h.blk.cell 1; simpa using this
theorem PVar.lt {w : World} {b : Nat} {A0 A1 : Option Addr} {c0 c1 : Nat} {q : Pool} (h : PVar w b A0 A1 c0 c1 q) : b < w.heap.size := h.blk.lt
/-! ### cases of a change -/
section
variable {w : World} {A0 A1 : Option Addr} {c0 c1 : Nat} {p q : Pool} {ok : Bool}
abbrev poolV (A0 A1 : Option Addr) (c0 c1 : Nat) (p : Pool) : Value := .agg #[.slice A0 p.slots.length c0, .slice A1 p.vols.length c1]
end
/-! ### drawn pools -/
def DrewG' (w : World) (e : Ending) (w' : World) : Prop := ∃ A0 A1 c0 c1, ∃ (p : Pool) (s : ByteArray), e = .returned (.tuple #[.agg #[.slice A0 p.slots.length c0, .slice A1 p.vols.length c1], .string s]) ∧ s.size ≤ 1048576 ∧ DrawnP p ∧ PoolIn w' A0 A1 c0 c1 p ∧ Bel w w'
theorem DrewG.new {w : World} {e : Ending} {w' : World} (h : DrewG w e w') : DrewG' w e w' := by
 obtain ⟨v0, v1, p, bvs, s, rfl, hs, hp, ho, hb⟩ := h
 obtain ⟨A0, A1, c0, c1, rfl, rfl, hi⟩ := ho.reads
 exact ⟨A0, A1, c0, c1, p, s, rfl, hs, hp, hi, hb⟩
def DrewT' (w : World) (e : Ending) (w' : World) : Prop := ∃ A0 A1 c0 c1, ∃ (p : Pool), e = .returned (.agg #[.slice A0 p.slots.length c0, .slice A1 p.vols.length c1]) ∧ DrawnP p ∧ PoolIn w' A0 A1 c0 c1 p ∧ Bel w w'
theorem DrewT.new {w : World} {e : Ending} {w' : World} (h : DrewT w e w') : DrewT' w e w' := by
 obtain ⟨v0, v1, p, bvs, rfl, hp, ho, hb⟩ := h
 obtain ⟨A0, A1, c0, c1, rfl, rfl, hi⟩ := ho.reads
 exact ⟨A0, A1, c0, c1, p, rfl, hp, hi, hb⟩
def DrewM' (w : World) (e : Ending) (w' : World) : Prop := ∃ A0 A1 c0 c1, ∃ (p : Pool) (s : ByteArray) (n : Int), e = .returned (.tuple #[.agg #[.slice A0 p.slots.length c0, .slice A1 p.vols.length c1], .string s, .int .i64 n]) ∧ s ∈ eight ∧ 1 ≤ n ∧ n ≤ 100 ∧ DrawnP p ∧ PoolIn w' A0 A1 c0 c1 p ∧ Bel w w'
theorem DrewM.new {w : World} {e : Ending} {w' : World} (h : DrewM w e w') : DrewM' w e w' := by
 obtain ⟨v0, v1, p, bvs, s, n, rfl, hs, h1, h2, hp, ho, hb⟩ := h
 obtain ⟨A0, A1, c0, c1, rfl, rfl, hi⟩ := ho.reads
 exact ⟨A0, A1, c0, c1, p, s, n, rfl, hs, h1, h2, hp, hi, hb⟩
def DrewC' (w : World) (e : Ending) (w' : World) : Prop := ∃ A0 A1 c0 c1, ∃ (p : Pool) (s d : ByteArray), e = .returned (.tuple #[.agg #[.slice A0 p.slots.length c0, .slice A1 p.vols.length c1], .string s, .string d]) ∧ s.size ≤ 1048576 ∧ d ∈ five ∧ DrawnP p ∧ PoolIn w' A0 A1 c0 c1 p ∧ Bel w w'
theorem DrewC.new {w : World} {e : Ending} {w' : World} (h : DrewC w e w') : DrewC' w e w' := by
 obtain ⟨v0, v1, p, bvs, s, d, rfl, hs, hd, hp, ho, hb⟩ := h
 obtain ⟨A0, A1, c0, c1, rfl, rfl, hi⟩ := ho.reads
 exact ⟨A0, A1, c0, c1, p, s, d, rfl, hs, hd, hp, hi, hb⟩
def DrewW' (w : World) (e : Ending) (w' : World) : Prop := ∃ A0 A1 c0 c1, ∃ (p : Pool) (s : ByteArray) (n : Int) (tx : ByteArray), e = .returned (.tuple #[.agg #[.slice A0 p.slots.length c0, .slice A1 p.vols.length c1], .string s, .int .i64 n, .string tx]) ∧ s.size ≤ 1048576 ∧ -100 ≤ n ∧ n ≤ 100 ∧ tx.size ≤ 1048576 ∧ DrawnP p ∧ PoolIn w' A0 A1 c0 c1 p ∧ Bel w w'
theorem DrewW.new {w : World} {e : Ending} {w' : World} (h : DrewW w e w') : DrewW' w e w' := by
 obtain ⟨v0, v1, p, bvs, s, n, tx, rfl, hs, h1, h2, ht, hp, ho, hb⟩ := h
 obtain ⟨A0, A1, c0, c1, rfl, rfl, hi⟩ := ho.reads
 exact ⟨A0, A1, c0, c1, p, s, n, tx, rfl, hs, h1, h2, ht, hp, hi, hb⟩
/-! ### StoreFind -/
def findB (s : List Slot) (t : ByteArray) : Bool := storeOk s && (tOk t && !t.toList.isEmpty)
def FoundB (s : List Slot) (t : ByteArray) (w : World) (e : Ending) (w' : World) : Prop := ∃ n : Int, e = .returned (.tuple #[.int .i64 n, .bool (findB s t && there s t)]) ∧ Bel w w'
end Go.Proofs.YtccllgpaafgjaaaGreat

namespace Go.Proofs.YtccllgpaafgjaaaGreat
open Go.RowKit Go.Proofs.YtccllgpaafgjaaaGreatW.PrintWords
def SeenS (W : World) (base : Nat) (v : Value) (seen : List ByteArray) : Prop := W.ownsRow base 9 1 v seen.length (seen.map Value.string)
theorem SeenS.bel {w w' : World} {base : Nat} {v : Value} {s : List ByteArray} (h : SeenS w base v s) (hb : Bel w w') : SeenS w' base v s := pw_own_below h hb
theorem SeenS.reads {w : World} {base : Nat} {v : Value} {s : List ByteArray} (h : SeenS w base v s) : ∃ A c, v = .slice A s.length c ∧ s.length ≤ c ∧ Kd.string.C w A s.length s := by
 have hr : Reps (Kd.string.K w) 1 s (s.map Value.string) := by
  refine ⟨by simp, fun j p hp => ?_⟩
  show _ = [Value.string p]
  rw [Nat.mul_one]
  apply List.ext_getElem?
  intro k
  rw [List.getElem?_take]
  cases k with
  | zero => simp [hp]
  | succ k => simp
 obtain ⟨A, c, e, hr⟩ := own_reads_row h hr rfl
 obtain ⟨A', c', e', hc⟩ := own_cap h
 rw [e] at e'
 injection e' with _ _ e3
 exact ⟨A, c, e, e3 ▸ hc, hr⟩
def seenB (t : ByteArray) (seen : List ByteArray) (m : Nat) : Bool := (t.toList == []) || (seen.take m).any fun o => o.toList == t.toList
end Go.Proofs.YtccllgpaafgjaaaGreat

namespace Go.Proofs.YtccllgpaafgjaaaGreat
open Go.RowKit Go.Proofs.YtccllgpaafgjaaaGreatW.PrintWords Go.Proofs.YtccllgpaafgjaaaGreatW.PrintLast
theorem blk_op5 {w : World} {b : Nat} {o : Op} (hB : Blk w b #[.int .i64 o.kind, .string o.name, .string o.dest, .int .i64 o.n, .string o.text] 27) : ∀ j u, (encO o)[j]? = some u → w.cell? ((⟨b, 0, none⟩ : Addr).add j) = some u := by
 intro j u hj
 rw [Addr.add_lit, Nat.zero_add, hB.cell]
 simpa [encO] using hj
section
variable {w : World} {A B C : Option Addr} {a b c : Nat} {l : Log} {o : Op}
end
end Go.Proofs.YtccllgpaafgjaaaGreat

namespace Go.Proofs.YtccllgpaafgjaaaGreat
open Go.RowKit Go.Proofs.YtccllgpaafgjaaaGreatW.PrintWords Go.Proofs.YtccllgpaafgjaaaGreatW.PrintLast
theorem OwnT.far5 {W : World} {base b : Nat} {v : Value} {s : List Op} (h : OwnT W base v s) {x0 x1 x2 x3 x4 : Value} (hB : Blk W b #[x0, x1, x2, x3, x4] 25) (u0 u1 u2 u3 u4 : Value) : OwnT (wset5 W b u0 u1 u2 u3 u4) base v s := by
 have h1 := hB.set 0 u0 (cs' := #[u0, x1, x2, x3, x4]) rfl
 have h2 := h1.set 1 u1 (cs' := #[u0, u1, x2, x3, x4]) rfl
 have h3 := h2.set 2 u2 (cs' := #[u0, u1, u2, x3, x4]) rfl
 have h4 := h3.set 3 u3 (cs' := #[u0, u1, u2, u3, x4]) rfl
 exact ((((h.far hB (by decide) 0 u0).far h1 (by decide) 1 u1).far h2 (by decide) 2 u2).far h3 (by decide) 3 u3).far h4 (by decide) 4 u4
theorem grown_set5 {w W : World} {r : Option Nat} (h : w.grownBy W r) {b : Nat} (hb : w.heap.size ≤ b) (u0 u1 u2 u3 u4 : Value) : w.grownBy (wset5 W b u0 u1 u2 u3 u4) r := grown_new (grown_new (grown_new (grown_new (grown_new h hb 0 u0) hb 1 u1) hb 2 u2) hb 3 u3) hb 4 u4
theorem tail_append2 {ops rest : List Oper} {P : Array Oper} {o : Oper} {a : Act} {Q : Exit → Act → World → Prop} {W : World} {base : Nat} {v : Value} {os : List Op} (hgd : o.guard = none) (s x : Operand)
  (ho : o.op = .call { callee := .builtin .append, args := #[s, x], argTypes := #[23, 23] }) (hs : a.eval s = v) (y : Op) (ad : Addr) (c : Nat) (hx : a.eval x = .slice (some ad) 1 c)
  (hc : ∀ j u, (encO y)[j]? = some u → W.cell? (ad.add j) = some u) (h : OwnT W base v os) (hl : os.length ≤ 1048576) (hbase : base ≤ W.heap.size)
  (K : ∀ v1 w1, OwnT w1 base v1 (os ++ [y]) → W.grownBy w1 v.ownBlock → (v1.ownBlock = v.ownBlock ∨ ∃ b, v1.ownBlock = some b ∧ W.heap.size ≤ b) → wpList Tryz.prog P Q rest (a.put o.dst v1) w1) :
  wpList Tryz.prog P Q (o :: rest) a W := by
 obtain ⟨v1, w1, hr1, h1, hg, hat⟩ := run_append_tail h o.type y ad c hc hl hbase
 refine wpList_plain hgd fun K' hK => ?_
 unfold Oper.wp execOp
 simp only [ho, resolve, invoke, builtin, Sem.run_bind, Sem.run_pure, Result.andThen_ok, List.map_toArray, List.map_cons, List.map_nil, hs, hx, hr1]
 exact hK _ _ (K v1 w1 h1 hg hat)
def addNB (n : Node) (o : Op) : Bool := match runP newP n.ops with | some q => (opR q o).isSome && decide (n.ops.length < 20) | none => false
def addN (n : Node) (o : Op) : Node := if addNB n o then ⟨n.up, n.term, n.leads, n.alone, n.ops ++ [o]⟩ else n
def AddedN (base : Nat) (w : World) (n : Node) (v0 : Value) (ok : Bool) (e : Ending) (w' : World) : Prop := ∃ v, e = .returned (.tuple #[.agg #[.bool n.up, .int .i64 n.term, .bool n.leads, .bool n.alone, v], .bool ok]) ∧ OwnT w' base v n.ops ∧ w.grownBy w' v0.ownBlock ∧ (v.ownBlock = v0.ownBlock ∨ ∃ b, v.ownBlock = some b ∧ w.heap.size ≤ b) ∧ (ok = false → v = v0)
section
variable {w : World} {A : Option Addr} {c base : Nat} {n : Node} {o : Op}
set_option maxHeartbeats 32000000 in
set_option maxRecDepth 10000 in
theorem l21Add_c {q : Pool} (h : OwnT w base (.slice A n.ops.length c) n.ops) (hbase : base ≤ w.heap.size) (ho : SmallOs n.ops) (hso : SmallO o) (hr : runP newP n.ops = some q) :
  Calls Tryz.prog 170 #[.agg #[.bool n.up, .int .i64 n.term, .bool n.leads, .bool n.alone, .slice A n.ops.length c], .agg #[.int .i64 o.kind, .string o.name, .string o.dest, .int .i64 o.n, .string o.text]] w (AddedN base w (addN n o) (.slice A n.ops.length c) (addNB n o)) := by
 have HT := Lib.hid h
 have HBS := Lib.hid hbase
 have HO := Lib.hid ho
 have HSO := Lib.hid hso
 have HRX := Lib.hid hr
 have HC : Hid (kOp.C w A n.ops.length n.ops) := Lib.hid (by obtain ⟨A', c', e, _, hC⟩ := h.reads; have e := slice_eq e; obtain ⟨rfl, -, rfl⟩ := e; exact hC)
 have hlO := ho.len
 have HQ := Lib.hid (runP_ok _ newP_ok hr)
 obtain ⟨z, hz⟩ : ∃ z, addNB n o = z := ⟨_, rfl⟩
 obtain ⟨xn, hxn⟩ : ∃ x, addN n o = x := ⟨_, rfl⟩
 rw [hz, hxn]
 have HZ := Lib.hid (show ((opR q o).isSome && decide (n.ops.length < 20)) = z by rw [← hz]; unfold addNB; rw [hr])
 have HXN := Lib.hid (show (if z then (⟨n.up, n.term, n.leads, n.alone, n.ops ++ [o]⟩ : Node) else n) = xn by rw [← hxn, ← hz]; rfl)
 have HNP := Lib.hid specPoolNew_c
 obtain ⟨np, hnp⟩ : ∃ np, newP = np := ⟨_, rfl⟩
 obtain ⟨x, hx⟩ : ∃ x, q = x := ⟨_, rfl⟩
 subst hx
 have HRX0 := Lib.hid hr
 rw [hnp] at HNP HRX
 clear h hbase ho hso hr hz hxn
 go_enter Tryz.func170, Tryz.ntmps170
 go_wp2
 have hN : Blk (((w.alloc (.cells #[.bool n.up, .int .i64 n.term, .bool n.leads, .bool n.alone, .slice A n.ops.length c] 25)).alloc (.cells #[.int .i64 o.kind, .string o.name, .string o.dest, .int .i64 o.n, .string o.text] 27)).alloc (.cells #[.bool false, .int .i64 0, .bool false, .bool false, .slice none 0 0] 25)) w.heap.size #[.bool n.up, .int .i64 n.term, .bool n.leads, .bool n.alone, .slice A n.ops.length c] 25 := ((Blk.new _ _ _).alloc _).alloc _
 have hP : Blk (((w.alloc (.cells #[.bool n.up, .int .i64 n.term, .bool n.leads, .bool n.alone, .slice A n.ops.length c] 25)).alloc (.cells #[.int .i64 o.kind, .string o.name, .string o.dest, .int .i64 o.n, .string o.text] 27)).alloc (.cells #[.bool false, .int .i64 0, .bool false, .bool false, .slice none 0 0] 25)) (w.heap.size + 1) #[.int .i64 o.kind, .string o.name, .string o.dest, .int .i64 o.n, .string o.text] 27 := (Blk.nw2 w _ _ _).alloc _
 have hR : Blk (((w.alloc (.cells #[.bool n.up, .int .i64 n.term, .bool n.leads, .bool n.alone, .slice A n.ops.length c] 25)).alloc (.cells #[.int .i64 o.kind, .string o.name, .string o.dest, .int .i64 o.n, .string o.text] 27)).alloc (.cells #[.bool false, .int .i64 0, .bool false, .bool false, .slice none 0 0] 25)) (w.heap.size + 1 + 1) #[.bool false, .int .i64 0, .bool false, .bool false, .slice none 0 0] 25 := by have := Blk.new ((w.alloc (.cells #[.bool n.up, .int .i64 n.term, .bool n.leads, .bool n.alone, .slice A n.ops.length c] 25)).alloc (.cells #[.int .i64 o.kind, .string o.name, .string o.dest, .int .i64 o.n, .string o.text] 27)) #[.bool false, .int .i64 0, .bool false, .bool false, .slice none 0 0] 25; simpa using this
 have hW : Bel w (((w.alloc (.cells #[.bool n.up, .int .i64 n.term, .bool n.leads, .bool n.alone, .slice A n.ops.length c] 25)).alloc (.cells #[.int .i64 o.kind, .string o.name, .string o.dest, .int .i64 o.n, .string o.text] 27)).alloc (.cells #[.bool false, .int .i64 0, .bool false, .bool false, .slice none 0 0] 25)) := bel_alloc (bel_alloc (bel_alloc (Below.refl _ _) _) _) _
 generalize (((w.alloc (.cells #[.bool n.up, .int .i64 n.term, .bool n.leads, .bool n.alone, .slice A n.ops.length c] 25)).alloc (.cells #[.int .i64 o.kind, .string o.name, .string o.dest, .int .i64 o.n, .string o.text] 27)).alloc (.cells #[.bool false, .int .i64 0, .bool false, .bool false, .slice none 0 0] 25)) = W0 at hN hP hR hW ⊢
 have hd : Bel W0 W0.drew := (Below.refl _ _).drew
 have HN : Hid (Blk W0.drew w.heap.size #[.bool n.up, .int .i64 n.term, .bool n.leads, .bool n.alone, .slice A n.ops.length c] 25) := Lib.hid (hN.bel hd)
 have HP : Hid (Blk W0.drew (w.heap.size + 1) #[.int .i64 o.kind, .string o.name, .string o.dest, .int .i64 o.n, .string o.text] 27) := Lib.hid (hP.bel hd)
 have HRS : Hid (Blk W0.drew (w.heap.size + 1 + 1) #[.bool false, .int .i64 0, .bool false, .bool false, .slice none 0 0] 25) := Lib.hid (hR.bel hd)
 have HW : Hid (Bel w W0.drew) := Lib.hid (hW.tr hd)
 have HT0 : Hid (OwnT W0.drew base (.slice A n.ops.length c) n.ops) := Lib.hid (HT.out.bel HW.out)
 have hfx := Lib.hid (fun (W : World) (hb : Bel W0.drew W) => (show W.cell? ⟨w.heap.size, 4, none⟩ = some (.slice A n.ops.length c) from blkn (HN.out.bel hb) 4 _ rfl))
 have hC1 : kOp.C W0.drew A n.ops.length n.ops := kOp_keep HC.out HW.out
 have D0 : Hid (Bel W0.drew W0.drew) := Lib.hid (Below.refl _ _)
 have hrs : (runP newP n.ops).isSome = true := by rw [HRX0.out]; rfl
 have hrun := Lib.hid (fun (W' : World) (v0 v1 : Value) (bvs : List Value) (h : OwnP W' W0.drew.heap.size v0 v1 newP bvs) (hb : Bel W0.drew W') => l13Run_c (c2 := c) h newP_ok (Below.size hb) hC1 (Nat.le_refl _) hb HO.out)
 unfold RunsP at hrun
 rw [hrs, hnp] at hrun
 clear hN hP hR hW hd hC1 hrs hnp
 refine start_ (n := 10) (S := fun w' => w'.cell? ⟨w.heap.size, 4, none⟩ = some (.slice A n.ops.length c)) (ds := [8]) #[bF, bF, bF, bF, bF, bF, bF, bF, bF, bF] (by kernel_rfl) rfl rfl ((hfx.out _ D0.out)) (fun hHeld => ?_)
 refine ppx (i := 1) (N := some 12) #[bF, bT, bF, bF, bF, bF, bF, bF, bF, bF] (h := ?_)
 refine tpx (i := 2) (N := some 13) #[bF, bT, bT, bF, bF, bF, bF, bF, bF, bF] (hy := (Or.inl ⟨by rfl, by intro w' s0; go_simp; with_reducible rfl⟩)) (hS := hHeld) (h := ?_)
 refine join_ (σ := Option Addr × Nat × Option Addr × Nat × Option Addr × Nat × Option Addr × Nat × List Value × Nat) 2 #[bT, bT, bT, bT, bT, bT, bT, bT, bF, bF] (fun s => [(11, .agg #[.slice s.1 np.slots.length s.2.1, .slice s.2.2.1 np.vols.length s.2.2.2.1]), (14, .tuple #[.agg #[.slice s.2.2.2.2.1 q.slots.length s.2.2.2.2.2.1, .slice s.2.2.2.2.2.2.1 q.vols.length s.2.2.2.2.2.2.2.1], .bool true]), (10, .tuple #[.agg #[.slice s.2.2.2.2.1 q.slots.length s.2.2.2.2.2.1, .slice s.2.2.2.2.2.2.1 q.vols.length s.2.2.2.2.2.2.2.1], .bool true]), (15, .agg #[.slice s.2.2.2.2.1 q.slots.length s.2.2.2.2.2.1, .slice s.2.2.2.2.2.2.1 q.vols.length s.2.2.2.2.2.2.2.1]), (16, .bool true), (6, .pointer (some ⟨s.2.2.2.2.2.2.2.2.2, 0, none⟩))]) (fun s w' => (w'.cell? ⟨w.heap.size, 4, none⟩ = some (.slice A n.ops.length c)) ∧ OwnP w' W0.drew.heap.size (.slice s.2.2.2.2.1 q.slots.length s.2.2.2.2.2.1) (.slice s.2.2.2.2.2.2.1 q.vols.length s.2.2.2.2.2.2.2.1) q s.2.2.2.2.2.2.2.2.1 ∧ Blk w' s.2.2.2.2.2.2.2.2.2 #[.slice none 0 0, .slice none 0 0] 42 ∧ W0.drew.heap.size ≤ s.2.2.2.2.2.2.2.2.2 ∧ Bel W0.drew w') ?_ ?_
 rotate_left
 ·intro hCont
  refine two_ (i := 0) (j := 7) (Ni := some 11) (Nj := some 6) #[bT, bT, bT, bF, bF, bF, bF, bF, bF, bF] #[bF, bT, bT, bF, bF, bF, bF, bT, bF, bF] rfl rfl rfl rfl (by kernel_rfl) (by decide) (by decide) (fun K hK => ?_) (fun K hK => ?_)
  ·skip
   refine goes_ Tryz.func133 (by kernel_rfl) rfl #[] (by rfl) rfl rfl (by simp only [List.map_toArray, List.map_cons, List.map_nil]) ?_
   with_reducible refine (HNP.out _).mono ?_
   rintro e w1_ ⟨va, vb, bva, rfl, ho, X1⟩
   have D1 := Lib.hid (Bel.tr D0.out X1)
   obtain ⟨A5, B5, k5, m5, rfl, rfl, hpi⟩ := ho.reads
   have P1 : Hid (OwnP w1_ W0.drew.heap.size (.slice A5 np.slots.length k5) (.slice B5 np.vols.length m5) np bva) := Lib.hid (ho.lower D0.out.size)
   clear ho hpi
   refine ⟨_, rfl, ?_⟩
   refine hK.out _ _ ((hfx.out _ D1.out)) (fun hHeld => ?_)
   clear hK K
   refine nox 11 (h := ?_)
   refine two_ (i := 3) (j := 7) (Ni := some 14) (Nj := some 6) #[bT, bT, bT, bT, bF, bF, bF, bF, bF, bF] #[bT, bT, bT, bF, bF, bF, bF, bT, bF, bF] rfl rfl rfl rfl (by kernel_rfl) (by decide) (by decide) (fun K hK => ?_) (fun K hK => ?_)
   ·skip
    refine goes_ Tryz.func104 (by kernel_rfl) rfl #[.agg #[.slice A5 np.slots.length k5, .slice B5 np.vols.length m5], .slice A n.ops.length c] (by rfl) rfl rfl (by simp only [List.map_toArray, List.map_cons, List.map_nil]; rfl) ?_
    with_reducible refine (hrun.out _ _ _ _ P1.out D1.out).mono ?_
    rintro e w2_ ⟨A2, A3, n2, n3, k2, k3, rfl, hq, X2⟩
    have D2 : Hid (Bel W0.drew w2_) := Lib.hid (D1.out.trans X2.b)
    obtain ⟨bvc, hq2⟩ := hq q HRX.out
    obtain ⟨E0, E1, d0, d1, e0, e1, hpi⟩ := hq2.reads
    have e0 := slice_eq e0
    have e1 := slice_eq e1
    obtain ⟨rfl, rfl, rfl⟩ := e0
    obtain ⟨rfl, rfl, rfl⟩ := e1
    have Q2 := Lib.hid hq2
    clear hq hq2 hpi
    refine ⟨_, rfl, ?_⟩
    refine hK.out _ _ ((hfx.out _ D2.out)) (fun hHeld => ?_)
    clear hK K
    refine nox 14 (h := ?_)
    refine ppx (i := 4) (N := some 10) #[bT, bT, bT, bT, bT, bF, bF, bF, bF, bF] (h := ?_)
    refine ppx (i := 5) (N := some 15) #[bT, bT, bT, bT, bT, bT, bF, bF, bF, bF] (h := ?_)
    refine ppx (i := 6) (N := some 16) #[bT, bT, bT, bT, bT, bT, bT, bF, bF, bF] (h := ?_)
    refine one_ (i := 7) (N := some 6) #[bT, bT, bT, bT, bT, bT, bT, bT, bF, bF] rfl rfl (by kernel_rfl) (by decide) (fun K hK => ?_)
    refine value_ (by rfl) rfl (by go_simp; constructor <;> rfl) ?_
    have D3 : Hid (Bel W0.drew (w2_.alloc (.cells #[.slice none 0 0, .slice none 0 0] 42))) := Lib.hid (bel_alloc D2.out (.cells #[.slice none 0 0, .slice none 0 0] 42))
    have Q3 := Lib.hid (OwnP.bel Q2.out (bel_alloc (Below.refl _ _) (.cells #[.slice none 0 0, .slice none 0 0] 42)))
    have O3 : Hid (Blk (w2_.alloc (.cells #[.slice none 0 0, .slice none 0 0] 42)) w2_.heap.size #[.slice none 0 0, .slice none 0 0] 42) := Lib.hid (Blk.new w2_ _ _)
    have L3 := D2.out.size
    refine hK.out _ _ ((hfx.out _ D3.out)) (fun hHeld => ?_)
    clear hK K
    refine nox 6 (h := ?_)
    exact nof (hCont (A5, k5, B5, m5, A2, k2, A3, k3, bvc, w2_.heap.size) _ ⟨hHeld, Q3.out, O3.out, L3, D3.out⟩)
   ·skip
    refine value_ (by rfl) rfl (by go_simp; constructor <;> rfl) ?_
    have D2 : Hid (Bel W0.drew (w1_.alloc (.cells #[.slice none 0 0, .slice none 0 0] 42))) := Lib.hid (bel_alloc D1.out (.cells #[.slice none 0 0, .slice none 0 0] 42))
    have P2 := Lib.hid (OwnP.bel P1.out (bel_alloc (Below.refl _ _) (.cells #[.slice none 0 0, .slice none 0 0] 42)))
    have O2 : Hid (Blk (w1_.alloc (.cells #[.slice none 0 0, .slice none 0 0] 42)) w1_.heap.size #[.slice none 0 0, .slice none 0 0] 42) := Lib.hid (Blk.new w1_ _ _)
    have L2 := D1.out.size
    refine hK.out _ _ ((hfx.out _ D2.out)) (fun hHeld => ?_)
    clear hK K
    refine nox 6 (h := ?_)
    refine one_ (i := 3) (N := some 14) #[bT, bT, bT, bT, bF, bF, bF, bT, bF, bF] rfl rfl (by kernel_rfl) (by decide) (fun K hK => ?_)
    refine goes_ Tryz.func104 (by kernel_rfl) rfl #[.agg #[.slice A5 np.slots.length k5, .slice B5 np.vols.length m5], .slice A n.ops.length c] (by rfl) rfl rfl (by simp only [List.map_toArray, List.map_cons, List.map_nil]; rfl) ?_
    with_reducible refine (hrun.out _ _ _ _ P2.out D2.out).mono ?_
    rintro e w3_ ⟨A2, A3, n2, n3, k2, k3, rfl, hq, X3⟩
    have D3 : Hid (Bel W0.drew w3_) := Lib.hid (D2.out.trans X3.b)
    obtain ⟨bvc, hq2⟩ := hq q HRX.out
    obtain ⟨E0, E1, d0, d1, e0, e1, hpi⟩ := hq2.reads
    have e0 := slice_eq e0
    have e1 := slice_eq e1
    obtain ⟨rfl, rfl, rfl⟩ := e0
    obtain ⟨rfl, rfl, rfl⟩ := e1
    have Q3 := Lib.hid hq2
    clear hq hq2 hpi
    have O3 := Lib.hid (X3.k _ _ _ (by decide) (by decide) (by decide) O2.out)
    refine ⟨_, rfl, ?_⟩
    refine hK.out _ _ ((hfx.out _ D3.out)) (fun hHeld => ?_)
    clear hK K
    refine nox 14 (h := ?_)
    refine ppx (i := 4) (N := some 10) #[bT, bT, bT, bT, bT, bF, bF, bT, bF, bF] (h := ?_)
    refine ppx (i := 5) (N := some 15) #[bT, bT, bT, bT, bT, bT, bF, bT, bF, bF] (h := ?_)
    refine ppx (i := 6) (N := some 16) #[bT, bT, bT, bT, bT, bT, bT, bT, bF, bF] (h := ?_)
    exact nof (hCont (A5, k5, B5, m5, A2, k2, A3, k3, bvc, w1_.heap.size) _ ⟨hHeld, Q3.out, O3.out, L2, D3.out⟩)
  ·skip
   refine value_ (by rfl) rfl (by go_simp; constructor <;> rfl) ?_
   have D1 : Hid (Bel W0.drew (W0.alloc (.cells #[.slice none 0 0, .slice none 0 0] 42)).drew) := Lib.hid (bel_alloc D0.out (.cells #[.slice none 0 0, .slice none 0 0] 42))
   have O1 : Hid (Blk (W0.alloc (.cells #[.slice none 0 0, .slice none 0 0] 42)).drew W0.drew.heap.size #[.slice none 0 0, .slice none 0 0] 42) := Lib.hid (Blk.new W0.drew _ _)
   have L1 := D0.out.size
   refine hK.out _ _ ((hfx.out _ D1.out)) (fun hHeld => ?_)
   clear hK K
   refine nox 6 (h := ?_)
   refine one_ (i := 0) (N := some 11) #[bT, bT, bT, bF, bF, bF, bF, bT, bF, bF] rfl rfl (by kernel_rfl) (by decide) (fun K hK => ?_)
   refine goes_ Tryz.func133 (by kernel_rfl) rfl #[] (by rfl) rfl rfl (by simp only [List.map_toArray, List.map_cons, List.map_nil]) ?_
   with_reducible refine (HNP.out _).mono ?_
   rintro e w2_ ⟨va, vb, bva, rfl, ho, X2⟩
   have D2 := Lib.hid (Bel.tr D1.out X2)
   obtain ⟨A5, B5, k5, m5, rfl, rfl, hpi⟩ := ho.reads
   have O2 := Lib.hid (Blk.bel O1.out X2)
   have P2 : Hid (OwnP w2_ W0.drew.heap.size (.slice A5 np.slots.length k5) (.slice B5 np.vols.length m5) np bva) := Lib.hid (ho.lower D1.out.size)
   clear ho hpi
   refine ⟨_, rfl, ?_⟩
   refine hK.out _ _ ((hfx.out _ D2.out)) (fun hHeld => ?_)
   clear hK K
   refine nox 11 (h := ?_)
   refine one_ (i := 3) (N := some 14) #[bT, bT, bT, bT, bF, bF, bF, bT, bF, bF] rfl rfl (by kernel_rfl) (by decide) (fun K hK => ?_)
   refine goes_ Tryz.func104 (by kernel_rfl) rfl #[.agg #[.slice A5 np.slots.length k5, .slice B5 np.vols.length m5], .slice A n.ops.length c] (by rfl) rfl rfl (by simp only [List.map_toArray, List.map_cons, List.map_nil]; rfl) ?_
   with_reducible refine (hrun.out _ _ _ _ P2.out D2.out).mono ?_
   rintro e w3_ ⟨A2, A3, n2, n3, k2, k3, rfl, hq, X3⟩
   have D3 : Hid (Bel W0.drew w3_) := Lib.hid (D2.out.trans X3.b)
   obtain ⟨bvc, hq2⟩ := hq q HRX.out
   obtain ⟨E0, E1, d0, d1, e0, e1, hpi⟩ := hq2.reads
   have e0 := slice_eq e0
   have e1 := slice_eq e1
   obtain ⟨rfl, rfl, rfl⟩ := e0
   obtain ⟨rfl, rfl, rfl⟩ := e1
   have Q3 := Lib.hid hq2
   clear hq hq2 hpi
   have O3 := Lib.hid (X3.k _ _ _ (by decide) (by decide) (by decide) O2.out)
   refine ⟨_, rfl, ?_⟩
   refine hK.out _ _ ((hfx.out _ D3.out)) (fun hHeld => ?_)
   clear hK K
   refine nox 14 (h := ?_)
   refine ppx (i := 4) (N := some 10) #[bT, bT, bT, bT, bT, bF, bF, bT, bF, bF] (h := ?_)
   refine ppx (i := 5) (N := some 15) #[bT, bT, bT, bT, bT, bT, bF, bT, bF, bF] (h := ?_)
   refine ppx (i := 6) (N := some 16) #[bT, bT, bT, bT, bT, bT, bT, bT, bF, bF] (h := ?_)
   exact nof (hCont (A5, k5, B5, m5, A2, k2, A3, k3, bvc, W0.heap.size) _ ⟨hHeld, Q3.out, O3.out, L1, D3.out⟩)
 rintro ⟨A5, k5, B5, m5, A2, k2, A3, k3, bvc, nb⟩ w3 ⟨hHeld, hQ, hO, hL, hD⟩
 dsimp only at hQ hO hL
 have r0 := hO.cell 0
 have r1 := hO.cell 1
 have f0 := hO.free 0
 have f1 := hO.free 1
 simp at r0 r1
 refine norm_ (a' := ?_) ?_ ?_
 rotate_left
 ·simp only [putAll, Act.put, lA, lB, lC]
  rfl
 refine last_ (i := 8) (N := none) #[bT, bT, bT, bT, bT, bT, bT, bT, bT, bF] rfl rfl (by kernel_rfl) (by decide) (fun K hK => ?_)
 refine skip_ (by rfl) rfl (by go_simp; rfl) ?_
 refine hK.out _ _ ?_
 clear hK K
 refine ppx (i := 9) (N := some 7) #[bT, bT, bT, bT, bT, bT, bT, bT, bT, bT] (h := ?_)
 refine done_ (by kernel_rfl) ?_
 have hO1 := hO.set 0 (.slice A2 q.slots.length k2) (cs' := #[.slice A2 q.slots.length k2, .slice none 0 0]) rfl
 have hO2 := hO1.set 1 (.slice A3 q.vols.length k3) (cs' := #[.slice A2 q.slots.length k2, .slice A3 q.vols.length k3]) rfl
 have hq2 := (hQ.far hO (by decide) (by decide) (by decide) 0 (.slice A2 q.slots.length k2)).far hO1 (by decide) (by decide) (by decide) 1 (.slice A3 q.vols.length k3)
 have hb5 : Bel W0.drew ((w3.setCell ⟨nb, 0, none⟩ (.slice A2 q.slots.length k2)).setCell ⟨nb, 1, none⟩ (.slice A3 q.vols.length k3)) := bel_set (bel_set hD hL 0 (.slice A2 q.slots.length k2)) hL 1 (.slice A3 q.vols.length k3)
 clear hO hO1 hD hL hQ f0 f1 r0 r1 hHeld D0 hrun hfx
 generalize ((w3.setCell ⟨nb, 0, none⟩ (.slice A2 q.slots.length k2)).setCell ⟨nb, 1, none⟩ (.slice A3 q.vols.length k3)) = W5 at hO2 hq2 hb5 ⊢
 have HO2 := Lib.hid hO2
 have HQ2 := Lib.hid hq2
 have HB5 := Lib.hid hb5
 have p0 := blkn (HP.out.bel hb5) 0 _ rfl
 have p1 := blkn (HP.out.bel hb5) 1 _ rfl
 have p2 := blkn (HP.out.bel hb5) 2 _ rfl
 have p3 := blkn (HP.out.bel hb5) 3 _ rfl
 have p4 := blkn (HP.out.bel hb5) 4 _ rfl
 have py := (HP.out.bel hb5).lt
 clear hO2 hq2 hb5
 go_wp2_with fail
 obtain ⟨op, hop⟩ : ∃ b, opOk o = b := ⟨_, rfl⟩
 have hk := specOpOk_c o HSO.out W5
 rw [hop] at hk
 refine hk.mono ?_
 rintro e w6 ⟨rfl, hb6⟩
 have HB6 := Lib.hid (HB5.out.tr hb6)
 have HQ6 := Lib.hid (HQ2.out.bel hb6)
 have HO6 := Lib.hid (HO2.out.bel hb6)
 clear hb6 hk p0 p1 p2 p3 p4 py
 have HQP := HQ
 obtain rfl | rfl : op = false ∨ op = true := by cases op <;> simp
 ·have hzf : false = z := by rw [← HZ.out]; unfold opR; rw [hop]; rfl
  subst hzf
  obtain rfl : n = xn := HXN.out
  have hn_ := HN.out.bel HB6.out
  have hr_ := HRS.out.bel HB6.out
  have ho_ := HP.out.bel HB6.out
  have n0 := blkn hn_ 0 _ rfl
  have n1 := blkn hn_ 1 _ rfl
  have n2 := blkn hn_ 2 _ rfl
  have n3 := blkn hn_ 3 _ rfl
  have n4 := blkn hn_ 4 _ rfl
  have r0 := blkn hr_ 0 _ rfl
  have r1 := blkn hr_ 1 _ rfl
  have r2 := blkn hr_ 2 _ rfl
  have r3 := blkn hr_ 3 _ rfl
  have r4 := blkn hr_ 4 _ rfl
  have o0 := blkn ho_ 0 _ rfl
  have o1 := blkn ho_ 1 _ rfl
  have o2 := blkn ho_ 2 _ rfl
  have o3 := blkn ho_ 3 _ rfl
  have o4 := blkn ho_ 4 _ rfl
  have nf0 := hn_.free 0
  have nf1 := hn_.free 1
  have nf2 := hn_.free 2
  have nf3 := hn_.free 3
  have nf4 := hn_.free 4
  have rf0 := hr_.free 0
  have rf1 := hr_.free 1
  have rf2 := hr_.free 2
  have rf3 := hr_.free 3
  have rf4 := hr_.free 4
  have ny := hn_.lt
  have ry := hr_.lt
  have oy := ho_.lt
  go_wp2
  have hR9 := hr_.set5 (.bool n.up) (.int .i64 n.term) (.bool n.leads) (.bool n.alone) (.slice A n.ops.length c)
  have hT9 := (HT0.out.bel HB6.out).far5 hr_ (.bool n.up) (.int .i64 n.term) (.bool n.leads) (.bool n.alone) (.slice A n.ops.length c)
  have hg9 := grown_set5 (grown_of_bel (HW.out.tr HB6.out) (Value.slice A n.ops.length c).ownBlock) (show w.heap.size ≤ w.heap.size + 1 + 1 by omega) (.bool n.up) (.int .i64 n.term) (.bool n.leads) (.bool n.alone) (.slice A n.ops.length c)
  refine bodyPost_ret (results_ct rfl _ _ (w.heap.size + 1 + 1) 25 #[.bool n.up, .int .i64 n.term, .bool n.leads, .bool n.alone, .slice A n.ops.length c] (0, 0) _ rfl hR9 Tryz.underlying25 rfl (by kernel_rfl)) rfl ?_
  exact ⟨_, rfl, hT9, hg9, .inl rfl, fun _ => rfl⟩
 ·by_cases hl : n.ops.length < 20
  ·have hl20 : ¬ (20 : Int) ≤ (n.ops.length : Int) := by omega
   have hn_ := HN.out.bel HB6.out
   have hr_ := HRS.out.bel HB6.out
   have ho_ := HP.out.bel HB6.out
   have n0 := blkn hn_ 0 _ rfl
   have n1 := blkn hn_ 1 _ rfl
   have n2 := blkn hn_ 2 _ rfl
   have n3 := blkn hn_ 3 _ rfl
   have n4 := blkn hn_ 4 _ rfl
   have r0 := blkn hr_ 0 _ rfl
   have r1 := blkn hr_ 1 _ rfl
   have r2 := blkn hr_ 2 _ rfl
   have r3 := blkn hr_ 3 _ rfl
   have r4 := blkn hr_ 4 _ rfl
   have o0 := blkn ho_ 0 _ rfl
   have o1 := blkn ho_ 1 _ rfl
   have o2 := blkn ho_ 2 _ rfl
   have o3 := blkn ho_ 3 _ rfl
   have o4 := blkn ho_ 4 _ rfl
   have nf0 := hn_.free 0
   have nf1 := hn_.free 1
   have nf2 := hn_.free 2
   have nf3 := hn_.free 3
   have nf4 := hn_.free 4
   have rf0 := hr_.free 0
   have rf1 := hr_.free 1
   have rf2 := hr_.free 2
   have rf3 := hr_.free 3
   have rf4 := hr_.free 4
   have ny := hn_.lt
   have ry := hr_.lt
   have oy := ho_.lt
   have t0 := blkn HO6.out 0 _ rfl
   have t1 := blkn HO6.out 1 _ rfl
   have ty := HO6.out.lt
   go_wp2_with fail
   clear t0 t1 ty
   have hdo := l12Do_c (o := o) HQ6.out HQP.out HB6.out.size HSO.out
   obtain ⟨qq, hqq⟩ : ∃ qq, (opF q o).getD q = qq := ⟨_, rfl⟩
   obtain ⟨ok, hok⟩ : ∃ ok, (opF q o).isSome = ok := ⟨_, rfl⟩
   have hor : opR q o = opF q o := by unfold opR; rw [if_pos hop]
   have hzk : ok = z := by rw [← HZ.out, hor, hok, decide_eq_true hl, Bool.and_true]
   subst hzk
   unfold TurnsP at hdo
   rw [hqq, hok] at hdo
   refine hdo.mono ?_
   rintro e w7 ⟨u0, u1, bu, rfl, hu, hfr⟩
   obtain ⟨A8, B8, a8, b8, rfl, rfl, hpi⟩ := hu.reads
   have hb7 : Bel W0.drew w7 := HB6.out.trans hfr.b
   have HB7 := Lib.hid hb7
   have HB8 : Hid (Bel W0.drew (w7.alloc (.cells #[.slice A8 qq.slots.length a8, .slice B8 qq.vols.length b8] 42))) := Lib.hid (bel_alloc hb7 _)
   clear hdo hqq hok hor hu hfr hpi hb7 n0 n1 n2 n3 n4 r0 r1 r2 r3 r4 o0 o1 o2 o3 o4 nf0 nf1 nf2 nf3 nf4 rf0 rf1 rf2 rf3 rf4 ny ry oy hn_ hr_ ho_
   cases ok with
   | false =>
    obtain rfl : n = xn := HXN.out
    have hn_ := HN.out.bel HB7.out
    have hr_ := HRS.out.bel HB7.out
    have ho_ := HP.out.bel HB7.out
    have n0 := blkn hn_ 0 _ rfl
    have n1 := blkn hn_ 1 _ rfl
    have n2 := blkn hn_ 2 _ rfl
    have n3 := blkn hn_ 3 _ rfl
    have n4 := blkn hn_ 4 _ rfl
    have r0 := blkn hr_ 0 _ rfl
    have r1 := blkn hr_ 1 _ rfl
    have r2 := blkn hr_ 2 _ rfl
    have r3 := blkn hr_ 3 _ rfl
    have r4 := blkn hr_ 4 _ rfl
    have o0 := blkn ho_ 0 _ rfl
    have o1 := blkn ho_ 1 _ rfl
    have o2 := blkn ho_ 2 _ rfl
    have o3 := blkn ho_ 3 _ rfl
    have o4 := blkn ho_ 4 _ rfl
    have nf0 := hn_.free 0
    have nf1 := hn_.free 1
    have nf2 := hn_.free 2
    have nf3 := hn_.free 3
    have nf4 := hn_.free 4
    have rf0 := hr_.free 0
    have rf1 := hr_.free 1
    have rf2 := hr_.free 2
    have rf3 := hr_.free 3
    have rf4 := hr_.free 4
    have ny := hn_.lt
    have ry := hr_.lt
    have oy := ho_.lt
    go_wp2
    have hR9 := hr_.set5 (.bool n.up) (.int .i64 n.term) (.bool n.leads) (.bool n.alone) (.slice A n.ops.length c)
    have hT9 := (HT0.out.bel HB7.out).far5 hr_ (.bool n.up) (.int .i64 n.term) (.bool n.leads) (.bool n.alone) (.slice A n.ops.length c)
    have hg9 := grown_set5 (grown_of_bel (HW.out.tr HB7.out) (Value.slice A n.ops.length c).ownBlock) (show w.heap.size ≤ w.heap.size + 1 + 1 by omega) (.bool n.up) (.int .i64 n.term) (.bool n.leads) (.bool n.alone) (.slice A n.ops.length c)
    refine bodyPost_ret (results_ct rfl _ _ (w.heap.size + 1 + 1) 25 #[.bool n.up, .int .i64 n.term, .bool n.leads, .bool n.alone, .slice A n.ops.length c] (0, 0) _ rfl (hR9.alloc _) Tryz.underlying25 rfl (by kernel_rfl)) rfl ?_
    exact ⟨_, rfl, hT9.bel (bel_alloc (Below.refl _ _) _), grown_tr hg9 (grown_of_bel (bel_alloc (Below.refl _ _) _) _), .inl rfl, fun _ => rfl⟩
   | true =>
    obtain rfl : (⟨n.up, n.term, n.leads, n.alone, n.ops ++ [o]⟩ : Node) = xn := HXN.out
    have hn_ := HN.out.bel HB7.out
    have hr_ := HRS.out.bel HB7.out
    have ho_ := HP.out.bel HB7.out
    have n0 := blkn hn_ 0 _ rfl
    have n1 := blkn hn_ 1 _ rfl
    have n2 := blkn hn_ 2 _ rfl
    have n3 := blkn hn_ 3 _ rfl
    have n4 := blkn hn_ 4 _ rfl
    have r0 := blkn hr_ 0 _ rfl
    have r1 := blkn hr_ 1 _ rfl
    have r2 := blkn hr_ 2 _ rfl
    have r3 := blkn hr_ 3 _ rfl
    have r4 := blkn hr_ 4 _ rfl
    have o0 := blkn ho_ 0 _ rfl
    have o1 := blkn ho_ 1 _ rfl
    have o2 := blkn ho_ 2 _ rfl
    have o3 := blkn ho_ 3 _ rfl
    have o4 := blkn ho_ 4 _ rfl
    have nf0 := hn_.free 0
    have nf1 := hn_.free 1
    have nf2 := hn_.free 2
    have nf3 := hn_.free 3
    have nf4 := hn_.free 4
    have rf0 := hr_.free 0
    have rf1 := hr_.free 1
    have rf2 := hr_.free 2
    have rf3 := hr_.free 3
    have rf4 := hr_.free 4
    have ny := hn_.lt
    have ry := hr_.lt
    have oy := ho_.lt
    go_wp2_with (
     at_builtin
     refine tail_append2 (ops := []) rfl (.tmp 37) (.tmp 39) rfl rfl o ⟨w7.heap.size + 1, 0, none⟩ 1 rfl (blk_op5 (show Blk ((w7.alloc (.cells #[.slice A8 qq.slots.length a8, .slice B8 qq.vols.length b8] 42)).alloc (.cells #[.int .i64 o.kind, .string o.name, .string o.dest, .int .i64 o.n, .string o.text] 27)) (w7.heap.size + 1) #[.int .i64 o.kind, .string o.name, .string o.dest, .int .i64 o.n, .string o.text] 27 from Blk.nw2 _ _ _ _)) ((HT0.out.bel HB8.out).bel (bel_alloc (Below.refl _ _) _)) (by omega) (Nat.le_trans HBS.out (Nat.le_trans HW.out.size (Nat.le_trans HB8.out.size (bel_alloc (Below.refl _ _) _ : Bel (w7.alloc (.cells #[.slice A8 qq.slots.length a8, .slice B8 qq.vols.length b8] 42)) _).size))) ?_
     intro v1 w9 hv1 hgr hat
     obtain ⟨no, hno⟩ : ∃ no, n.ops ++ [o] = no := ⟨_, rfl⟩
     rw [hno] at hv1
     obtain ⟨C4, c4, rfl, hc4, hC4⟩ := hv1.reads
     have ha : Bel (w7.alloc (.cells #[.slice A8 qq.slots.length a8, .slice B8 qq.vols.length b8] 42)) ((w7.alloc (.cells #[.slice A8 qq.slots.length a8, .slice B8 qq.vols.length b8] 42)).alloc (.cells #[.int .i64 o.kind, .string o.name, .string o.dest, .int .i64 o.n, .string o.text] 27)) := bel_alloc (Below.refl _ _) _
     have hT1 : OwnT ((w7.alloc (.cells #[.slice A8 qq.slots.length a8, .slice B8 qq.vols.length b8] 42)).alloc (.cells #[.int .i64 o.kind, .string o.name, .string o.dest, .int .i64 o.n, .string o.text] 27)) base (.slice A n.ops.length c) n.ops := (HT0.out.bel HB8.out).bel ha
     have hn8 := (HN.out.bel HB8.out).bel ha
     have hr8 := (HRS.out.bel HB8.out).bel ha
     have HN9 := Lib.hid (hn8.grown hgr (blk_otherT hT1 hn8 (by decide)))
     have HR9 := Lib.hid (hr8.grown hgr (blk_otherT hT1 hr8 (by decide)))
     have HG9 := Lib.hid (grown_tr (grown_of_bel ((HW.out.tr HB8.out).tr ha) (Value.slice A n.ops.length c).ownBlock) hgr)
     have HV9 := Lib.hid hv1
     have HAT := Lib.hid (show (Value.slice C4 no.length c4).ownBlock = (Value.slice A n.ops.length c).ownBlock ∨ ∃ b, (Value.slice C4 no.length c4).ownBlock = some b ∧ w.heap.size ≤ b from hat.imp id (fun ⟨b, h1, h2⟩ => ⟨b, h1, Nat.le_trans ((HW.out.tr HB8.out).tr ha).size h2⟩))
     clear hv1 hgr hat hc4 hC4 ha hT1 hn8 hr8 n0 n1 n2 n3 n4 r0 r1 r2 r3 r4 o0 o1 o2 o3 o4 nf0 nf1 nf2 nf3 nf4 rf0 rf1 rf2 rf3 rf4 ny ry oy hn_ hr_ ho_
     have hn_ := HN9.out
     have hr_ := HR9.out
     have n0 := blkn hn_ 0 _ rfl
     have n1 := blkn hn_ 1 _ rfl
     have n2 := blkn hn_ 2 _ rfl
     have n3 := blkn hn_ 3 _ rfl
     have n4 := blkn hn_ 4 _ rfl
     have r0 := blkn hr_ 0 _ rfl
     have r1 := blkn hr_ 1 _ rfl
     have r2 := blkn hr_ 2 _ rfl
     have r3 := blkn hr_ 3 _ rfl
     have r4 := blkn hr_ 4 _ rfl
     have nf0 := hn_.free 0
     have nf1 := hn_.free 1
     have nf2 := hn_.free 2
     have nf3 := hn_.free 3
     have nf4 := hn_.free 4
     have rf0 := hr_.free 0
     have rf1 := hr_.free 1
     have rf2 := hr_.free 2
     have rf3 := hr_.free 3
     have rf4 := hr_.free 4
     have ny := hn_.lt
     have ry := hr_.lt)
    have hR10 := hr_.apart (show ¬ w.heap.size = w.heap.size + 1 + 1 by omega) 4 (.slice C4 no.length c4)
    have hR11 := hR10.set5 (.bool n.up) (.int .i64 n.term) (.bool n.leads) (.bool n.alone) (.slice C4 no.length c4)
    have hT11 := (HV9.out.far hn_ (by decide) 4 (.slice C4 no.length c4)).far5 hR10 (.bool n.up) (.int .i64 n.term) (.bool n.leads) (.bool n.alone) (.slice C4 no.length c4)
    have hg11 := grown_set5 (grown_new HG9.out (Nat.le_refl _) 4 (.slice C4 no.length c4)) (show w.heap.size ≤ w.heap.size + 1 + 1 by omega) (.bool n.up) (.int .i64 n.term) (.bool n.leads) (.bool n.alone) (.slice C4 no.length c4)
    refine bodyPost_ret (results_ct rfl _ _ (w.heap.size + 1 + 1) 25 #[.bool n.up, .int .i64 n.term, .bool n.leads, .bool n.alone, .slice C4 no.length c4] (0, 0) _ rfl hR11 Tryz.underlying25 rfl (by kernel_rfl)) rfl ?_
    subst hno
    exact ⟨_, rfl, hT11, hg11, HAT.out, fun h => by cases h⟩
  ·have hl20 : (20 : Int) ≤ (n.ops.length : Int) := by omega
   have hzf : false = z := by rw [← HZ.out, decide_eq_false hl, Bool.and_false]
   subst hzf
   obtain rfl : n = xn := HXN.out
   have hn_ := HN.out.bel HB6.out
   have hr_ := HRS.out.bel HB6.out
   have ho_ := HP.out.bel HB6.out
   have n0 := blkn hn_ 0 _ rfl
   have n1 := blkn hn_ 1 _ rfl
   have n2 := blkn hn_ 2 _ rfl
   have n3 := blkn hn_ 3 _ rfl
   have n4 := blkn hn_ 4 _ rfl
   have r0 := blkn hr_ 0 _ rfl
   have r1 := blkn hr_ 1 _ rfl
   have r2 := blkn hr_ 2 _ rfl
   have r3 := blkn hr_ 3 _ rfl
   have r4 := blkn hr_ 4 _ rfl
   have o0 := blkn ho_ 0 _ rfl
   have o1 := blkn ho_ 1 _ rfl
   have o2 := blkn ho_ 2 _ rfl
   have o3 := blkn ho_ 3 _ rfl
   have o4 := blkn ho_ 4 _ rfl
   have nf0 := hn_.free 0
   have nf1 := hn_.free 1
   have nf2 := hn_.free 2
   have nf3 := hn_.free 3
   have nf4 := hn_.free 4
   have rf0 := hr_.free 0
   have rf1 := hr_.free 1
   have rf2 := hr_.free 2
   have rf3 := hr_.free 3
   have rf4 := hr_.free 4
   have ny := hn_.lt
   have ry := hr_.lt
   have oy := ho_.lt
   go_wp2
   have hR9 := hr_.set5 (.bool n.up) (.int .i64 n.term) (.bool n.leads) (.bool n.alone) (.slice A n.ops.length c)
   have hT9 := (HT0.out.bel HB6.out).far5 hr_ (.bool n.up) (.int .i64 n.term) (.bool n.leads) (.bool n.alone) (.slice A n.ops.length c)
   have hg9 := grown_set5 (grown_of_bel (HW.out.tr HB6.out) (Value.slice A n.ops.length c).ownBlock) (show w.heap.size ≤ w.heap.size + 1 + 1 by omega) (.bool n.up) (.int .i64 n.term) (.bool n.leads) (.bool n.alone) (.slice A n.ops.length c)
   refine bodyPost_ret (results_ct rfl _ _ (w.heap.size + 1 + 1) 25 #[.bool n.up, .int .i64 n.term, .bool n.leads, .bool n.alone, .slice A n.ops.length c] (0, 0) _ rfl hR9 Tryz.underlying25 rfl (by kernel_rfl)) rfl ?_
   exact ⟨_, rfl, hT9, hg9, .inl rfl, fun _ => rfl⟩
end
end Go.Proofs.YtccllgpaafgjaaaGreat

namespace Go.Proofs.YtccllgpaafgjaaaGreat
open Go.RowKit Go.Proofs.YtccllgpaafgjaaaGreatW.PrintWords Go.Proofs.YtccllgpaafgjaaaGreatW.PrintLast
def wsets (W : World) (b : Nat) : Nat → List Value → World
 | _, [] => W
 | j, v :: vs => wsets (W.setCell ⟨b, j, none⟩ v) b (j + 1) vs
theorem Blk.setsAt {b : Nat} {t : TypeId} (vs : List Value) : ∀ {W : World} {pre cs : List Value}, Blk W b (pre ++ cs).toArray t → cs.length = vs.length → Blk (wsets W b pre.length vs) b (pre ++ vs).toArray t := by
 induction vs with
 | nil => intro W pre cs h hl; obtain rfl := List.length_eq_zero_iff.1 hl; exact h
 | cons v vs ih =>
  intro W pre cs h hl
  cases cs with
  | nil => cases hl
  | cons c cs =>
   have h1 := h.set pre.length v (cs' := ((pre ++ [v]) ++ cs).toArray) (by simp)
   have h2 := ih h1 (by simpa using hl)
   have e : (pre ++ [v]).length = pre.length + 1 := by simp
   rw [e, List.append_assoc] at h2
   exact h2
theorem Blk.sets {b : Nat} {t : TypeId} {W : World} {cs : Array Value} (h : Blk W b cs t) (vs : List Value) (hl : cs.size = vs.length) : Blk (wsets W b 0 vs) b vs.toArray t :=
 Blk.setsAt vs (pre := []) (cs := cs.toList) (by simpa using h) (by simpa using hl)
theorem Blk.apartS {b d : Nat} {t : TypeId} {cs : Array Value} (hne : d ≠ b) (vs : List Value) : ∀ {W : World} (j : Nat), Blk W b cs t → Blk (wsets W d j vs) b cs t := by
 induction vs with
 | nil => intro W j h; exact h
 | cons v vs ih => intro W j h; exact ih _ (h.apart hne j v)
theorem bel_sets {w : World} {b : Nat} (hb : w.heap.size ≤ b) (vs : List Value) : ∀ {W : World} (j : Nat), Bel w W → Bel w (wsets W b j vs) := by
 induction vs with
 | nil => intro W j h; exact h
 | cons v vs ih => intro W j h; exact ih _ (bel_set h hb j v)
theorem grown_sets {w : World} {b : Nat} {r : Option Nat} (hb : w.heap.size ≤ b) (vs : List Value) : ∀ {W : World} (j : Nat), w.grownBy W r → w.grownBy (wsets W b j vs) r := by
 induction vs with
 | nil => intro W j h; exact h
 | cons v vs ih => intro W j h; exact ih _ (grown_new h hb j v)
theorem own_set_far {W : World} {base b : Nat} {v : Value} {os : List Op} (h : OwnT W base v os) (hne : ∀ k, v.ownBlock = some k → b ≠ k) (i : Nat) (u : Value) : OwnT (W.setCell ⟨b, i, none⟩ u) base v os := by
 have hg : W.grownBy (W.setCell ⟨b, i, none⟩ u) (some b) := ⟨rfl, rfl, rfl, by simp, fun k hk hne => by
  have : b ≠ k := fun e => hne (by rw [e])
  simp [World.setCell, Array.getElem?_modify, this]⟩
 exact h.kept hg fun k hk e => hne k hk (by injection e)
theorem OwnT.setsN {base b : Nat} {v : Value} {os : List Op} (hne : ∀ k, v.ownBlock = some k → b ≠ k) (vs : List Value) : ∀ {W : World} (j : Nat), OwnT W base v os → OwnT (wsets W b j vs) base v os := by
 induction vs with
 | nil => intro W j h; exact h
 | cons u vs ih => intro W j h; exact ih _ (own_set_far h hne j u)
theorem OwnT.sets {W : World} {base b : Nat} {v : Value} {os : List Op} {cs : Array Value} {t : TypeId} (h : OwnT W base v os) (hB : Blk W b cs t) (ht : 27 ≠ t) (vs : List Value) : OwnT (wsets W b 0 vs) base v os :=
 OwnT.setsN (fun k hk e => blk_otherT h hB ht (by rw [hk, e])) vs 0 h
structure Msg where
  kind : Int
  whom : Int
  term : Int
  n : Int
  op : Op
  ops : List Op
abbrev noO : Op := ⟨0, ⟨#[]⟩, ⟨#[]⟩, 0, ⟨#[]⟩⟩
abbrev noM : Msg := ⟨0, 0, 0, 0, noO, []⟩
def askB (n : Node) (o : Op) : Bool := n.up && (n.leads && addNB n o)
def askN (n : Node) (o : Op) : Node := if askB n o then ⟨n.up, n.term, n.leads, n.alone, n.ops ++ [o]⟩ else n
def askM (n : Node) (id : Int) (o : Op) : Msg := if askB n o then ⟨1, 3 - id, n.term, n.ops.length + 1, o, []⟩ else noM
def AskedN (base : Nat) (w : World) (n : Node) (m : Msg) (v0 : Value) (ok : Bool) (e : Ending) (w' : World) : Prop :=
 ∃ v, e = .returned (.tuple #[.agg #[.bool n.up, .int .i64 n.term, .bool n.leads, .bool n.alone, v], .agg #[.int .i64 m.kind, .int .i64 m.whom, .int .i64 m.term, .int .i64 m.n, .int .i64 m.op.kind, .string m.op.name, .string m.op.dest, .int .i64 m.op.n, .string m.op.text, .slice none 0 0], .bool ok]) ∧ OwnT w' base v n.ops ∧ w.grownBy w' v0.ownBlock ∧ (v.ownBlock = v0.ownBlock ∨ ∃ b, v.ownBlock = some b ∧ w.heap.size ≤ b) ∧ (ok = false → v = v0)
section
variable {w : World} {A : Option Addr} {c base : Nat} {up leads alone : Bool} {term id : Int} {ops : List Op} {o : Op}
end
end Go.Proofs.YtccllgpaafgjaaaGreat

namespace Go.Proofs.YtccllgpaafgjaaaGreat
open Go.RowKit Go.Proofs.YtccllgpaafgjaaaGreatW.PrintWords Go.Proofs.YtccllgpaafgjaaaGreatW.PrintLast
def askRB (n : Node) (id : Int) (o : Op) : Bool := (nodeOk n && inR id 1 2) && askB n o
def askRN (n : Node) (id : Int) (o : Op) : Node := if nodeOk n && inR id 1 2 then askN n o else noN
def askRM (n : Node) (id : Int) (o : Op) : Msg := if nodeOk n && inR id 1 2 then askM n id o else noM
theorem inR12 {id : Int} (h : inR id 1 2 = true) : id = 1 ∨ id = 2 := by
 unfold inR at h; simp at h; omega
def AnsT (w : World) (n : Node) (m : Msg) (ok : Bool) (e : Ending) (w' : World) : Prop :=
 ∃ v, e = .returned (.tuple #[.agg #[.bool n.up, .int .i64 n.term, .bool n.leads, .bool n.alone, v], .agg #[.int .i64 m.kind, .int .i64 m.whom, .int .i64 m.term, .int .i64 m.n, .int .i64 m.op.kind, .string m.op.name, .string m.op.dest, .int .i64 m.op.n, .string m.op.text, .slice none 0 0], .bool ok]) ∧ OwnT w' w.heap.size v n.ops ∧ Bel w w'
def AnsO (w : World) (n : Node) (m : Msg) (ok : Bool) (e : Ending) (w' : World) : Prop :=
 ∃ v, e = .returned (.tuple #[.agg #[.bool n.up, .int .i64 n.term, .bool n.leads, .bool n.alone, v], .agg #[.int .i64 m.kind, .int .i64 m.whom, .int .i64 m.term, .int .i64 m.n, .int .i64 m.op.kind, .string m.op.name, .string m.op.dest, .int .i64 m.op.n, .string m.op.text, .slice none 0 0], .bool ok]) ∧ OwnO w' w.heap.size v n.ops ∧ Bel w w'
theorem ownO_nil (w : World) (base : Nat) : OwnO w base (.slice none 0 0) [] := World.ownsRow_nil _ _ _ _
theorem ownO_noN (w : World) (base : Nat) : OwnO w base (.slice none 0 0) noN.ops := ownO_nil w base
theorem ownT_nil (w : World) (base : Nat) : OwnT w base (.slice none 0 0) [] := OwnO.tail (ownO_nil w base)
theorem ownT_noN (w : World) (base : Nat) : OwnT w base (.slice none 0 0) noN.ops := ownT_nil w base
section
variable {w : World} {A : Option Addr} {c : Nat} {n : Node} {id : Int} {o : Op}
end
end Go.Proofs.YtccllgpaafgjaaaGreat

namespace Go.Proofs.YtccllgpaafgjaaaGreat
open Go.RowKit Go.Proofs.YtccllgpaafgjaaaGreatW.PrintWords Go.Proofs.YtccllgpaafgjaaaGreatW.PrintLast
theorem OwnO.setsN {base b : Nat} {v : Value} {os : List Op} (hne : v.ownBlock = none ∨ v.ownBlock ≠ some b) (vs : List Value) : ∀ {W : World} (j : Nat), OwnO W base v os → OwnO (wsets W b j vs) base v os := by
 induction vs with
 | nil => intro W j h; exact h
 | cons u vs ih =>
  intro W j h
  have hg : W.grownBy (W.setCell ⟨b, j, none⟩ u) (some b) := ⟨rfl, rfl, rfl, by simp, fun k hk hne => by
   have : b ≠ k := fun e => hne (by rw [e])
   simp [World.setCell, Array.getElem?_modify, this]⟩
  exact ih _ (h.kept hg hne)
theorem OwnO.sets {W : World} {base b : Nat} {v : Value} {os : List Op} {cs : Array Value} {t : TypeId} (h : OwnO W base v os) (hB : Blk W b cs t) (ht : 27 ≠ t) (vs : List Value) : OwnO (wsets W b 0 vs) base v os :=
 OwnO.setsN (.inr fun e => own_ne h hB ht e.symm) vs 0 h
set_option maxHeartbeats 1000000 in
theorem run_append_ownO {w : World} {base : Nat} {v : Value} {os : List Op} (h : OwnO w base v os) (ty : TypeId) (x : Op) (a : Addr) (c : Nat) (hx : ∀ j u, (encO x)[j]? = some u → w.cell? (a.add j) = some u) (hl : os.length ≤ 1048576) (hbase : base ≤ w.heap.size) :
  ∃ v' w', (Builtin.append_ #[23, 23] ty #[v, .slice (some a) 1 c]).run Tryz.prog w = .ok v' w' ∧ OwnO w' base v' (os ++ [x]) ∧ w.grownBy w' v.ownBlock ∧ (v'.ownBlock = v.ownBlock ∨ ∃ b, v'.ownBlock = some b ∧ w.heap.size ≤ b) := by
 obtain ⟨i, hi, hzz⟩ := Option.map_eq_some_iff.1 info_opR
 simp only [Prod.mk.injEq] at hzz
 obtain ⟨hz0, hz1, hz2⟩ := hzz
 have h1 : ∀ u ∈ encO x, u.oneCell' = true := by intro u hu; simp [encO] at hu; rcases hu with rfl | rfl | rfl | rfl | rfl <;> rfl
 obtain ⟨v1, w1, hr, h2, hg, _, hat⟩ := run_append_own_at (P := Tryz.prog) w base 23 ty 27 i _ 5 64 Tryz.underlying23 hi hz0 hz1 hz2 rfl (by decide) _ _ _ h a 1 c (encO x) rfl hx h1 (by simp only [maxLen]; omega) (by omega) hbase
 refine ⟨v1, w1, hr, ?_, hg, ?_⟩
 ·unfold OwnO
  rw [List.length_append, List.flatMap_append]
  simpa using h2
 ·rcases hat with hat | hat
  ·exact .inl hat
  ·exact .inr ⟨_, hat, Nat.le_refl _⟩
theorem blk_other {w : World} {b2 : Nat} {v2 : Value} {os : List Op} (h2 : OwnO w b2 v2 os) {b : Nat} {cs : Array Value} {t : TypeId} (hB : Blk w b cs t) (hne : 27 ≠ t) : some b ≠ v2.ownBlock := blk_otherT (OwnO.tail h2) hB hne
theorem isNode_c (id : Int) (w : World) : Calls Tryz.prog 94 #[.int .i64 id] w (Same (.bool (inR id 1 2)) w) := by
 go_enter Tryz.func94, Tryz.ntmps94
 go_wp2_with (go_at_call 110; refine (within_c id 1 2 _).mono ?_; rintro e w' ⟨rfl, rfl⟩)
 go_ret
 exact ⟨rfl, rfl⟩
section
variable {w : World} {A : Option Addr} {c : Nat} {up leads alone : Bool} {term id : Int} {ops : List Op} {o : Op}
end
end Go.Proofs.YtccllgpaafgjaaaGreat

namespace Go.Proofs.YtccllgpaafgjaaaGreat
open Go.RowKit Go.Proofs.YtccllgpaafgjaaaGreatW.PrintWords Go.Proofs.YtccllgpaafgjaaaGreatW.PrintLast
section
variable {w : World} {A A' : Option Addr} {c c' : Nat} {n : Node} {m : Msg}
set_option maxHeartbeats 4000000 in
theorem eqMsg_c (hC : kOp.C w A m.ops.length m.ops) (hC' : kOp.C w A' m.ops.length m.ops) (hl : m.ops.length ≤ 1048576) :
  Calls Tryz.prog 45 #[.agg #[.int .i64 m.kind, .int .i64 m.whom, .int .i64 m.term, .int .i64 m.n, .int .i64 m.op.kind, .string m.op.name, .string m.op.dest, .int .i64 m.op.n, .string m.op.text, .slice A m.ops.length c], .agg #[.int .i64 m.kind, .int .i64 m.whom, .int .i64 m.term, .int .i64 m.n, .int .i64 m.op.kind, .string m.op.name, .string m.op.dest, .int .i64 m.op.n, .string m.op.text, .slice A' m.ops.length c']] w (Ret (.bool true) w) := by
 have H := Lib.hid hC
 have H' := Lib.hid hC'
 clear hC hC'
 go_enter Tryz.func45, Tryz.ntmps45
 go_wp2_with fail
 have hP : Blk ((w.alloc (.cells #[.int .i64 m.kind, .int .i64 m.whom, .int .i64 m.term, .int .i64 m.n, .int .i64 m.op.kind, .string m.op.name, .string m.op.dest, .int .i64 m.op.n, .string m.op.text, .slice A m.ops.length c] 29)).alloc (.cells #[.int .i64 m.kind, .int .i64 m.whom, .int .i64 m.term, .int .i64 m.n, .int .i64 m.op.kind, .string m.op.name, .string m.op.dest, .int .i64 m.op.n, .string m.op.text, .slice A' m.ops.length c'] 29)) w.heap.size #[.int .i64 m.kind, .int .i64 m.whom, .int .i64 m.term, .int .i64 m.n, .int .i64 m.op.kind, .string m.op.name, .string m.op.dest, .int .i64 m.op.n, .string m.op.text, .slice A m.ops.length c] 29 := (Blk.new _ _ _).alloc _
 have hQ : Blk ((w.alloc (.cells #[.int .i64 m.kind, .int .i64 m.whom, .int .i64 m.term, .int .i64 m.n, .int .i64 m.op.kind, .string m.op.name, .string m.op.dest, .int .i64 m.op.n, .string m.op.text, .slice A m.ops.length c] 29)).alloc (.cells #[.int .i64 m.kind, .int .i64 m.whom, .int .i64 m.term, .int .i64 m.n, .int .i64 m.op.kind, .string m.op.name, .string m.op.dest, .int .i64 m.op.n, .string m.op.text, .slice A' m.ops.length c'] 29)) (w.heap.size + 1) #[.int .i64 m.kind, .int .i64 m.whom, .int .i64 m.term, .int .i64 m.n, .int .i64 m.op.kind, .string m.op.name, .string m.op.dest, .int .i64 m.op.n, .string m.op.text, .slice A' m.ops.length c'] 29 := Blk.nw2 _ _ _ _
 have hW : Bel w ((w.alloc (.cells #[.int .i64 m.kind, .int .i64 m.whom, .int .i64 m.term, .int .i64 m.n, .int .i64 m.op.kind, .string m.op.name, .string m.op.dest, .int .i64 m.op.n, .string m.op.text, .slice A m.ops.length c] 29)).alloc (.cells #[.int .i64 m.kind, .int .i64 m.whom, .int .i64 m.term, .int .i64 m.n, .int .i64 m.op.kind, .string m.op.name, .string m.op.dest, .int .i64 m.op.n, .string m.op.text, .slice A' m.ops.length c'] 29)) := bel_alloc (bel_alloc (Below.refl _ _) _) _
 generalize ((w.alloc (.cells #[.int .i64 m.kind, .int .i64 m.whom, .int .i64 m.term, .int .i64 m.n, .int .i64 m.op.kind, .string m.op.name, .string m.op.dest, .int .i64 m.op.n, .string m.op.text, .slice A m.ops.length c] 29)).alloc (.cells #[.int .i64 m.kind, .int .i64 m.whom, .int .i64 m.term, .int .i64 m.n, .int .i64 m.op.kind, .string m.op.name, .string m.op.dest, .int .i64 m.op.n, .string m.op.text, .slice A' m.ops.length c'] 29)) = W0 at hP hQ hW ⊢
 refine (eqOp_c m.op W0).mono ?_
 rintro e w1 ⟨rfl, hb⟩
 have HP := Lib.hid (hP.bel hb)
 have HQ := Lib.hid (hQ.bel hb)
 have HW := Lib.hid (hW.tr hb)
 clear hP hQ hW hb
 have p5 := blkn HP.out 9 _ rfl
 have q5 := blkn HQ.out 9 _ rfl
 have py := HP.out.lt
 have qy := HQ.out.lt
 go_wp2_with fail
 refine (eqOpS_c (kOp_keep H.out HW.out) (kOp_keep H'.out HW.out) hl).mono ?_
 rintro e w2 ⟨rfl, hb⟩
 replace HW := Lib.hid (HW.out.tr hb)
 clear hb p5 q5 py qy
 go_wp2
 go_ret
 exact ⟨rfl, HW.out⟩
def MarkT (k : Int) (w : World) (base : Nat) (v : Value) (n : Nat) (w' : World) : Prop := (∃ s, s.length = n ∧ OwnO w' base v s ∧ MkO k s) ∧ w.grownBy w' v.ownBlock
set_option maxHeartbeats 4000000 in
theorem markNode_m {base : Nat} {k : Int} (h : OwnO w base (.slice A n.ops.length c) n.ops) (hl : n.ops.length ≤ 1048576) (h0 : 0 < k) (h1 : k ≤ 1099511627776) :
  Calls Tryz.prog 46 #[.agg #[.bool n.up, .int .i64 n.term, .bool n.leads, .bool n.alone, .slice A n.ops.length c], .int .i64 k] w (fun e w' => e = .returned (.int .i64 (k + 5 * n.ops.length)) ∧ MarkT k w base (.slice A n.ops.length c) n.ops.length w') := by
 have H := Lib.hid h
 clear h
 go_enter Tryz.func46, Tryz.ntmps46
 go_wp2_with fail
 have hb : Bel w (w.alloc (.cells #[.bool n.up, .int .i64 n.term, .bool n.leads, .bool n.alone, .slice A n.ops.length c] 25)) := bel_alloc (Below.refl _ _) _
 generalize w.alloc (.cells #[.bool n.up, .int .i64 n.term, .bool n.leads, .bool n.alone, .slice A n.ops.length c] 25) = W0 at hb ⊢
 refine (markOpS_c (H.out.bel hb) hl h0 (by omega)).mono ?_
 rintro e w1 ⟨rfl, hs, hg⟩
 have HG := Lib.hid (grown_tr (grown_of_bel hb _) hg)
 have HS := Lib.hid hs
 clear hg hb hs
 go_wp2
 go_ret
 exact ⟨rfl, HS.out, HG.out⟩
set_option maxHeartbeats 4000000 in
theorem markMsg_m {base : Nat} {k : Int} (h : OwnO w base (.slice A m.ops.length c) m.ops) (hl : m.ops.length ≤ 1048576) (h0 : 0 < k) (h1 : k ≤ 1099511627776) :
  Calls Tryz.prog 47 #[.agg #[.int .i64 m.kind, .int .i64 m.whom, .int .i64 m.term, .int .i64 m.n, .int .i64 m.op.kind, .string m.op.name, .string m.op.dest, .int .i64 m.op.n, .string m.op.text, .slice A m.ops.length c], .int .i64 k] w (fun e w' => e = .returned (.int .i64 (k + 5 * m.ops.length)) ∧ MarkT k w base (.slice A m.ops.length c) m.ops.length w') := by
 have H := Lib.hid h
 clear h
 go_enter Tryz.func47, Tryz.ntmps47
 go_wp2_with fail
 have hb : Bel w (w.alloc (.cells #[.int .i64 m.kind, .int .i64 m.whom, .int .i64 m.term, .int .i64 m.n, .int .i64 m.op.kind, .string m.op.name, .string m.op.dest, .int .i64 m.op.n, .string m.op.text, .slice A m.ops.length c] 29)) := bel_alloc (Below.refl _ _) _
 generalize w.alloc (.cells #[.int .i64 m.kind, .int .i64 m.whom, .int .i64 m.term, .int .i64 m.n, .int .i64 m.op.kind, .string m.op.name, .string m.op.dest, .int .i64 m.op.n, .string m.op.text, .slice A m.ops.length c] 29) = W0 at hb ⊢
 refine (markOpS_c (H.out.bel hb) hl h0 (by omega)).mono ?_
 rintro e w1 ⟨rfl, hs, hg⟩
 have HG := Lib.hid (grown_tr (grown_of_bel hb _) hg)
 have HS := Lib.hid hs
 clear hg hb hs
 go_wp2
 go_ret
 exact ⟨rfl, HS.out, HG.out⟩
set_option maxHeartbeats 4000000 in
theorem heldNode_c {k : Int} {s : List Op} (hC : kOp.C w A s.length s) (hn : s.length = n.ops.length) (hm : MkO k s) (hl : s.length ≤ 1048576) (h0 : 0 < k) (h1 : k ≤ 1099511627776) :
  Calls Tryz.prog 48 #[.agg #[.bool n.up, .int .i64 n.term, .bool n.leads, .bool n.alone, .slice A n.ops.length c], .int .i64 k] w (Ret (.int .i64 (k + 5 * n.ops.length)) w) := by
 rw [← hn]
 have H := Lib.hid hC
 have HM := Lib.hid hm
 clear hC hm hn
 go_enter Tryz.func48, Tryz.ntmps48
 go_wp2_with fail
 refine (heldOpS_c (kOp_alloc H.out _) HM.out hl h0 (by omega)).mono ?_
 rintro e w1 ⟨rfl, hb⟩
 have HB := Lib.hid ((bel_alloc (Below.refl _ _) _ : Bel w _).tr hb)
 clear hb
 have hneg : ¬ (k + 5 * (s.length : Int) < 0) := by omega
 go_wp2
 go_ret
 exact ⟨rfl, HB.out⟩
set_option maxHeartbeats 4000000 in
theorem heldMsg_c {k : Int} {s : List Op} (hC : kOp.C w A s.length s) (hn : s.length = m.ops.length) (hm : MkO k s) (hl : s.length ≤ 1048576) (h0 : 0 < k) (h1 : k ≤ 1099511627776) :
  Calls Tryz.prog 49 #[.agg #[.int .i64 m.kind, .int .i64 m.whom, .int .i64 m.term, .int .i64 m.n, .int .i64 m.op.kind, .string m.op.name, .string m.op.dest, .int .i64 m.op.n, .string m.op.text, .slice A m.ops.length c], .int .i64 k] w (Ret (.int .i64 (k + 5 * m.ops.length)) w) := by
 rw [← hn]
 have H := Lib.hid hC
 have HM := Lib.hid hm
 clear hC hm hn
 go_enter Tryz.func49, Tryz.ntmps49
 go_wp2_with fail
 refine (heldOpS_c (kOp_alloc H.out _) HM.out hl h0 (by omega)).mono ?_
 rintro e w1 ⟨rfl, hb⟩
 have HB := Lib.hid ((bel_alloc (Below.refl _ _) _ : Bel w _).tr hb)
 clear hb
 have hneg : ¬ (k + 5 * (s.length : Int) < 0) := by omega
 go_wp2
 go_ret
 exact ⟨rfl, HB.out⟩
end
structure AtT (w : World) (lo hi : Nat) (v : Value) (s : List Op) : Prop where
  own : OwnT w lo v s
  lt : ∀ k, v.ownBlock = some k → k < hi
theorem AtT.bel {w w' : World} {lo hi : Nat} {v : Value} {s : List Op} (h : AtT w lo hi v s) (hb : Bel w w') : AtT w' lo hi v s := ⟨h.own.bel hb, h.lt⟩
theorem OwnT.att {w : World} {lo : Nat} {v : Value} {s : List Op} (h : OwnT w lo v s) : AtT w lo w.heap.size v s := ⟨h, fun k hk => (h.base k hk).2.1⟩
theorem AtT.kept {w w' : World} {lo hi : Nat} {v : Value} {s : List Op} {r : Option Nat} (h : AtT w lo hi v s) (hg : w.grownBy w' r) (hr : ∀ k, r = some k → k < lo ∨ hi ≤ k) : AtT w' lo hi v s :=
 ⟨h.own.kept hg fun k hk e => by have h1 := (h.own.base k hk).1; have h2 := h.lt k hk; rcases hr k e with h3 | h3 <;> omega, h.lt⟩
theorem AtT.grown {w w' : World} {lo hi : Nat} {v : Value} {s : List Op} (h : AtT w lo hi v s) (hg : w.grownBy w' v.ownBlock) : Within lo hi w w' :=
 ⟨hg.os, hg.tape, hg.output, hg.size, fun k hk hn => hg.block k hk (fun e => hn ⟨(h.own.base k e.symm).1, h.lt k e.symm⟩)⟩
theorem AtT.inn {w : World} {lo hi : Nat} {A : Option Addr} {c : Nat} {s : List Op} {v : Value} (h : AtT w lo hi v s) (hv : v = .slice A s.length c) : kOp.C w A s.length s := by
 obtain ⟨A', c', e, -, hC⟩ := h.own.reads
 have e := slice_eq (hv.symm.trans e)
 obtain ⟨rfl, -, rfl⟩ := e
 exact hC
theorem bel_grown {w w1 w2 : World} {lo hi : Nat} {v : Value} {s : List Op} (hb : Bel w w1) (h : AtT w1 lo hi v s) (hlo : w.heap.size ≤ lo) (hg : w1.grownBy w2 v.ownBlock) : Bel w w2 := hb.grown hg hb.size (fun k e => Nat.le_trans hlo (h.own.base k e).1)
structure Two (wc W' : World) (n1 n2 : Nat) (v1 v2 : List Value) (t1 t2 : TypeId) : Prop where
  b1 : Blk W' n1 v1.toArray t1
  b2 : Blk W' n2 v2.toArray t2
  oth : ∀ {b : Nat} {cs : Array Value} {t : TypeId}, Blk wc b cs t → n1 ≠ b → n2 ≠ b → Blk W' b cs t
  ownT : ∀ {base : Nat} {v : Value} {os : List Op}, OwnT wc base v os → OwnT W' base v os
  ownO : ∀ {base : Nat} {v : Value} {os : List Op}, OwnO wc base v os → OwnO W' base v os
  bel : ∀ {w : World}, Bel w wc → w.heap.size ≤ n1 → w.heap.size ≤ n2 → Bel w W'
  grown : ∀ {w : World} {r : Option Nat}, w.grownBy wc r → w.heap.size ≤ n1 → w.heap.size ≤ n2 → w.grownBy W' r
  size : W'.heap.size = wc.heap.size
theorem wsets_size (b : Nat) (vs : List Value) : ∀ (W : World) (j : Nat), (wsets W b j vs).heap.size = W.heap.size := by
 induction vs with
 | nil => intro W j; rfl
 | cons v vs ih => intro W j; exact (ih _ _).trans (by simp)
theorem two_new {wc W' : World} {n1 n2 : Nat} {v1 v2 : List Value} {t1 t2 : TypeId} {c1 c2 : Array Value} (hW : wsets (wsets wc n1 0 v1) n2 0 v2 = W') (h1 : Blk wc n1 c1 t1) (h2 : Blk wc n2 c2 t2) (hne : n1 ≠ n2)
  (hl1 : c1.size = v1.length) (hl2 : c2.size = v2.length) (ht1 : 27 ≠ t1) (ht2 : 27 ≠ t2) : Two wc W' n1 n2 v1 v2 t1 t2 := by
 subst hW
 have h2' := Blk.apartS hne v1 0 h2
 exact ⟨Blk.apartS (fun e => hne e.symm) v2 0 (h1.sets v1 hl1), h2'.sets v2 hl2, fun h e1 e2 => Blk.apartS e2 v2 0 (Blk.apartS e1 v1 0 h), fun h => (h.sets h1 ht1 v1).sets h2' ht2 v2, fun h => (h.sets h1 ht1 v1).sets h2' ht2 v2,
  fun h e1 e2 => bel_sets e2 v2 0 (bel_sets e1 v1 0 h), fun h e1 e2 => grown_sets e2 v2 0 (grown_sets e1 v1 0 h), by rw [wsets_size, wsets_size]⟩
theorem bel_drew {W : World} : Bel W W.drew := (Below.refl _ _).drew
end Go.Proofs.YtccllgpaafgjaaaGreat

namespace Go.Proofs.YtccllgpaafgjaaaGreat
open Go.RowKit Go.Proofs.YtccllgpaafgjaaaGreatW.PrintWords Go.Proofs.YtccllgpaafgjaaaGreatW.PrintLast
structure AtO (w : World) (lo hi : Nat) (v : Value) (s : List Op) : Prop where
  own : OwnO w lo v s
  lt : ∀ k, v.ownBlock = some k → k < hi
theorem AtO.bel {w w' : World} {lo hi : Nat} {v : Value} {s : List Op} (h : AtO w lo hi v s) (hb : Bel w w') : AtO w' lo hi v s := ⟨h.own.bel hb, h.lt⟩
theorem OwnO.ato {w : World} {lo : Nat} {v : Value} {s : List Op} (h : OwnO w lo v s) : AtO w lo w.heap.size v s := ⟨h, fun k hk => own_block_lt h hk⟩
theorem AtO.tail {w : World} {lo hi : Nat} {v : Value} {s : List Op} (h : AtO w lo hi v s) : AtT w lo hi v s := ⟨OwnO.tail h.own, h.lt⟩
theorem AtT.apart {w w' : World} {lo hi lo2 hi2 : Nat} {v v2 : Value} {s s2 : List Op} (h : AtT w lo hi v s) (K : AtT w lo2 hi2 v2 s2) (hd : hi ≤ lo2 ∨ hi2 ≤ lo) (hg : w.grownBy w' v2.ownBlock) : AtT w' lo hi v s :=
 h.kept hg fun k e => by have h1 := (K.own.base k e).1; have h2 := K.lt k e; rcases hd with h3 | h3 <;> omega
theorem AtO.apart {w w' : World} {lo hi lo2 hi2 : Nat} {v v2 : Value} {s s2 : List Op} (h : AtO w lo hi v s) (K : AtT w lo2 hi2 v2 s2) (hd : hi ≤ lo2 ∨ hi2 ≤ lo) (hg : w.grownBy w' v2.ownBlock) : AtO w' lo hi v s := by
 refine ⟨h.own.kept hg ?_, h.lt⟩
 cases hv : v.ownBlock with
 | none => exact .inl rfl
 | some k =>
  refine .inr fun e => ?_
  have h1 := (K.own.base k e.symm).1
  have h2 := K.lt k e.symm
  have h3 := own_base h.own k hv
  have h4 := h.lt k hv
  rcases hd with h5 | h5 <;> omega
theorem kOp_nil (w : World) : kOp.C w none 0 [] := ⟨rfl, by simp, fun h => absurd h (Nat.lt_irrefl 0)⟩
abbrev zN : Array Value := #[.bool false, .int .i64 0, .bool false, .bool false, .slice none 0 0]
abbrev zM : Array Value := #[.int .i64 0, .int .i64 0, .int .i64 0, .int .i64 0, .int .i64 0, .string ⟨#[]⟩, .string ⟨#[]⟩, .int .i64 0, .string ⟨#[]⟩, .slice none 0 0]
abbrev tupR (n : Node) (m : Msg) (z : Bool) (E : Option Addr) (f : Nat) : Value := .tuple #[.agg #[.bool n.up, .int .i64 n.term, .bool n.leads, .bool n.alone, .slice E n.ops.length f], .agg #[.int .i64 m.kind, .int .i64 m.whom, .int .i64 m.term, .int .i64 m.n, .int .i64 m.op.kind, .string m.op.name, .string m.op.dest, .int .i64 m.op.n, .string m.op.text, .slice none 0 0], .bool z]
section
variable {w : World} {m : Msg} {k : Int}
theorem eqMsg0_c (h : m.ops = []) : Calls Tryz.prog 45 #[.agg #[.int .i64 m.kind, .int .i64 m.whom, .int .i64 m.term, .int .i64 m.n, .int .i64 m.op.kind, .string m.op.name, .string m.op.dest, .int .i64 m.op.n, .string m.op.text, .slice none 0 0], .agg #[.int .i64 m.kind, .int .i64 m.whom, .int .i64 m.term, .int .i64 m.n, .int .i64 m.op.kind, .string m.op.name, .string m.op.dest, .int .i64 m.op.n, .string m.op.text, .slice none 0 0]] w (Ret (.bool true) w) := by
 have hC : kOp.C w none m.ops.length m.ops := by rw [h]; exact kOp_nil w
 have h2 := eqMsg_c (c := 0) (c' := 0) hC hC (by rw [h]; exact Nat.zero_le _)
 rw [h] at h2
 exact h2
theorem markMsg0_c (h : m.ops = []) (h0 : 0 < k) (h1 : k ≤ 1099511627776) : Calls Tryz.prog 47 #[.agg #[.int .i64 m.kind, .int .i64 m.whom, .int .i64 m.term, .int .i64 m.n, .int .i64 m.op.kind, .string m.op.name, .string m.op.dest, .int .i64 m.op.n, .string m.op.text, .slice none 0 0], .int .i64 k] w (Ret (.int .i64 k) w) := by
 have h2 := markMsg_m (w := w) (A := none) (c := 0) (m := m) (base := 0) (k := k) (by rw [h]; exact ownO_nil _ _) (by rw [h]; exact Nat.zero_le _) h0 h1
 rw [h] at h2
 refine h2.mono ?_
 rintro e w' ⟨he, -, hg⟩
 refine ⟨?_, ⟨hg.os, hg.tape, hg.output, hg.size, fun b hb => hg.block b hb (by intro e; cases e)⟩⟩
 rw [he]
 exact ret_int (by simp)
theorem heldMsg0_c (h : m.ops = []) (h0 : 0 < k) (h1 : k ≤ 1099511627776) : Calls Tryz.prog 49 #[.agg #[.int .i64 m.kind, .int .i64 m.whom, .int .i64 m.term, .int .i64 m.n, .int .i64 m.op.kind, .string m.op.name, .string m.op.dest, .int .i64 m.op.n, .string m.op.text, .slice none 0 0], .int .i64 k] w (Ret (.int .i64 k) w) := by
 have h2 := heldMsg_c (w := w) (A := none) (c := 0) (m := m) (k := k) (s := []) (kOp_nil w) (by rw [h]) (fun i x hx => by simp at hx) (Nat.zero_le _) h0 h1
 rw [h] at h2
 refine h2.mono ?_
 rintro e w' ⟨he, hb⟩
 refine ⟨?_, hb⟩
 rw [he]
 exact ret_int (by simp)
end
end Go.Proofs.YtccllgpaafgjaaaGreat

namespace Go.Proofs.YtccllgpaafgjaaaGreat
open Go.RowKit Go.Proofs.YtccllgpaafgjaaaGreatW.PrintWords Go.Proofs.YtccllgpaafgjaaaGreatW.PrintLast
def isZ (o : Op) : Bool := decide (o.kind = 0) && (decide (o.name.toList = []) && (decide (o.dest.toList = []) && (decide (o.n = 0) && decide (o.text.toList = []))))
def msgK (kind n : Int) (op : Op) (ops : List Op) : Bool :=
 if kind = 1 then opOk op && (decide (1 ≤ n) && decide (ops.length = 0))
 else if kind = 2 ∨ kind = 4 then isZ op && decide (ops.length = 0)
 else if kind = 3 then isZ op && (decide ((ops.length : Int) = n) && (runP newP ops).isSome)
 else false
def msgOk (m : Msg) : Bool := inR m.whom 1 2 && (inR m.term 0 99 && (inR m.n 0 20 && msgK m.kind m.n m.op m.ops))
theorem runB_newP (ops : List Op) : runB newP ops = (runP newP ops).isSome := by unfold runB; rw [poolOk_iff.2 newP_ok]; rfl
section
variable {w : World} {A : Option Addr} {c : Nat} {kind whom term n : Int} {op : Op} {ops : List Op}
set_option maxHeartbeats 16000000 in
theorem isMsg_f (hC : kOp.C w A ops.length ops) (ho : SmallOs ops) (hso : SmallO op) :
  Calls Tryz.prog 93 #[.agg #[.int .i64 kind, .int .i64 whom, .int .i64 term, .int .i64 n, .int .i64 op.kind, .string op.name, .string op.dest, .int .i64 op.n, .string op.text, .slice A ops.length c]] w (Ret (.bool (inR whom 1 2 && (inR term 0 99 && (inR n 0 20 && msgK kind n op ops)))) w) := by
 have HC := Lib.hid hC
 have HO := Lib.hid ho
 have HSO := Lib.hid hso
 have hl := ho.len
 obtain ⟨b, hb⟩ : ∃ b, msgK kind n op ops = b := ⟨_, rfl⟩
 obtain ⟨a1, h1⟩ : ∃ b, inR whom 1 2 = b := ⟨_, rfl⟩
 obtain ⟨a2, h2⟩ : ∃ b, inR term 0 99 = b := ⟨_, rfl⟩
 obtain ⟨a3, h3⟩ : ∃ b, inR n 0 20 = b := ⟨_, rfl⟩
 rw [hb, h1, h2, h3]
 have HB := Lib.hid hb
 have H3 := Lib.hid h3
 clear hC ho hso hb
 go_enter Tryz.func93, Tryz.ntmps93
 go_wp2_with fail
 have hM : Blk (w.alloc (.cells #[.int .i64 kind, .int .i64 whom, .int .i64 term, .int .i64 n, .int .i64 op.kind, .string op.name, .string op.dest, .int .i64 op.n, .string op.text, .slice A ops.length c] 29)) w.heap.size #[.int .i64 kind, .int .i64 whom, .int .i64 term, .int .i64 n, .int .i64 op.kind, .string op.name, .string op.dest, .int .i64 op.n, .string op.text, .slice A ops.length c] 29 := Blk.new _ _ _
 have hW : Bel w (w.alloc (.cells #[.int .i64 kind, .int .i64 whom, .int .i64 term, .int .i64 n, .int .i64 op.kind, .string op.name, .string op.dest, .int .i64 op.n, .string op.text, .slice A ops.length c] 29)) := bel_alloc (Below.refl _ _) _
 generalize (w.alloc (.cells #[.int .i64 kind, .int .i64 whom, .int .i64 term, .int .i64 n, .int .i64 op.kind, .string op.name, .string op.dest, .int .i64 op.n, .string op.text, .slice A ops.length c] 29)) = W0 at hM hW ⊢
 have HM := Lib.hid hM
 have m0 := blkn hM 0 _ rfl
 have m1 := blkn hM 1 _ rfl
 have m2 := blkn hM 2 _ rfl
 have m3 := blkn hM 3 _ rfl
 have m4 := blkn hM 4 _ rfl
 have m5 := blkn hM 5 _ rfl
 have m6 := blkn hM 6 _ rfl
 have m7 := blkn hM 7 _ rfl
 have m8 := blkn hM 8 _ rfl
 have m9 := blkn hM 9 _ rfl
 have my := hM.lt
 have hi1 := isNode_c whom W0
 have hi2 := isTerm_c term W0
 have hi3 := within_c n 0 20 W0
 rw [h1] at hi1
 rw [h2] at hi2
 rw [h3] at hi3
 clear h1 h2 h3 hM
 cases a1 with
 | false => go_wp2_with (first | (go_at_call 94; refine hi1.mono ?_; rintro e w' ⟨rfl, rfl⟩) | (go_at_call 98; refine hi2.mono ?_; rintro e w' ⟨rfl, rfl⟩) | (go_at_call 110; refine hi3.mono ?_; rintro e w' ⟨rfl, rfl⟩)); go_ret; exact ⟨rfl, hW⟩
 | true =>
 cases a2 with
 | false => go_wp2_with (first | (go_at_call 94; refine hi1.mono ?_; rintro e w' ⟨rfl, rfl⟩) | (go_at_call 98; refine hi2.mono ?_; rintro e w' ⟨rfl, rfl⟩) | (go_at_call 110; refine hi3.mono ?_; rintro e w' ⟨rfl, rfl⟩)); go_ret; exact ⟨rfl, hW⟩
 | true =>
 cases a3 with
 | false => go_wp2_with (first | (go_at_call 94; refine hi1.mono ?_; rintro e w' ⟨rfl, rfl⟩) | (go_at_call 98; refine hi2.mono ?_; rintro e w' ⟨rfl, rfl⟩) | (go_at_call 110; refine hi3.mono ?_; rintro e w' ⟨rfl, rfl⟩)); go_ret; exact ⟨rfl, hW⟩
 | true =>
 have HN := Lib.hid (show 0 ≤ n ∧ n ≤ 20 by have h := H3.out; unfold inR at h; simp at h; exact h)
 by_cases k1 : kind = 1
 ·subst k1
  obtain ⟨b1, hb1⟩ : ∃ b, opOk op = b := ⟨_, rfl⟩
  have hk := implOpOk_c op HSO.out W0
  rw [hb1] at hk
  go_wp2_with (first | (go_at_call 94; refine hi1.mono ?_; rintro e w' ⟨rfl, rfl⟩) | (go_at_call 98; refine hi2.mono ?_; rintro e w' ⟨rfl, rfl⟩) | (go_at_call 110; refine hi3.mono ?_; rintro e w' ⟨rfl, rfl⟩))
  refine hk.mono ?_
  rintro e w2 ⟨rfl, hb2⟩
  have hW2 := hW.tr hb2
  have hM2 := HM.out.bel hb2
  have n3 := blkn hM2 3 _ rfl
  have n9 := blkn hM2 9 _ rfl
  have ny := hM2.lt
  clear hi1 hi2 hi3 hk hb2 m0 m1 m2 m3 m4 m5 m6 m7 m8 m9 my
  cases b1 with
  | false => go_wp2; all_goals (go_ret; exact ⟨by rw [← HB.out]; (simp [msgK, isZ, *] <;> first | omega | (intros; omega) | (cases ops <;> simp <;> omega)), hW2⟩)
  | true => go_wp2; all_goals (go_ret; exact ⟨by rw [← HB.out]; (simp [msgK, isZ, *] <;> first | omega | (intros; omega) | (cases ops <;> simp <;> omega)), hW2⟩)
 ·by_cases k2 : kind = 2
  ·subst k2
   go_wp2_with (first | (go_at_call 94; refine hi1.mono ?_; rintro e w' ⟨rfl, rfl⟩) | (go_at_call 98; refine hi2.mono ?_; rintro e w' ⟨rfl, rfl⟩) | (go_at_call 110; refine hi3.mono ?_; rintro e w' ⟨rfl, rfl⟩))
   all_goals (go_ret; exact ⟨by rw [← HB.out]; (simp [msgK, isZ, *] <;> first | omega | (intros; omega) | (cases ops <;> simp <;> omega)), hW⟩)
  ·by_cases k4 : kind = 4
   ·subst k4
    go_wp2_with (first | (go_at_call 94; refine hi1.mono ?_; rintro e w' ⟨rfl, rfl⟩) | (go_at_call 98; refine hi2.mono ?_; rintro e w' ⟨rfl, rfl⟩) | (go_at_call 110; refine hi3.mono ?_; rintro e w' ⟨rfl, rfl⟩))
    all_goals (go_ret; exact ⟨by rw [← HB.out]; (simp [msgK, isZ, *] <;> first | omega | (intros; omega) | (cases ops <;> simp <;> omega)), hW⟩)
   ·by_cases k3 : kind = 3
    ·subst k3
     by_cases hz : (op.kind = 0 ∧ op.name.toList = [] ∧ op.dest.toList = [] ∧ op.n = 0 ∧ op.text.toList = []) ∧ (ops.length : Int) = n
     ·obtain ⟨⟨z0, z1, z2, z3, z4⟩, z5⟩ := hz
      have HN5 := Lib.hid (show decide (ops.length ≤ 20) = true by have h := HN.out; simp; omega)
      obtain ⟨b1, hb1⟩ : ∃ b, (runP newP ops).isSome = b := ⟨_, rfl⟩
      have hk := areOps_c (c := c) (kOp_keep HC.out hW) HO.out
      rw [HN5.out, runB_newP, hb1, Bool.and_true] at hk
      go_wp2_with (first | (go_at_call 94; refine hi1.mono ?_; rintro e w' ⟨rfl, rfl⟩) | (go_at_call 98; refine hi2.mono ?_; rintro e w' ⟨rfl, rfl⟩) | (go_at_call 110; refine hi3.mono ?_; rintro e w' ⟨rfl, rfl⟩))
      refine hk.mono ?_
      rintro e w2 ⟨rfl, hb2⟩
      have hW2 := hW.tr hb2
      clear hi1 hi2 hi3 hk hb2 m0 m1 m2 m3 m4 m5 m6 m7 m8 m9 my
      go_wp2
      all_goals (go_ret; exact ⟨by rw [← HB.out]; (simp [msgK, isZ, *] <;> first | omega | (intros; omega) | (cases ops <;> simp <;> omega)), hW2⟩)
     ·go_wp2_with (first | (go_at_call 94; refine hi1.mono ?_; rintro e w' ⟨rfl, rfl⟩) | (go_at_call 98; refine hi2.mono ?_; rintro e w' ⟨rfl, rfl⟩) | (go_at_call 110; refine hi3.mono ?_; rintro e w' ⟨rfl, rfl⟩))
      all_goals first | (go_ret; exact ⟨by rw [← HB.out]; (simp [msgK, isZ, *] <;> first | omega | (intros; omega) | (cases ops <;> simp <;> omega)), hW⟩) | (exfalso; refine hz ⟨⟨?_, ?_, ?_, ?_, ?_⟩, ?_⟩ <;> assumption)
    ·go_wp2_with (first | (go_at_call 94; refine hi1.mono ?_; rintro e w' ⟨rfl, rfl⟩) | (go_at_call 98; refine hi2.mono ?_; rintro e w' ⟨rfl, rfl⟩) | (go_at_call 110; refine hi3.mono ?_; rintro e w' ⟨rfl, rfl⟩))
     all_goals (go_ret; exact ⟨by rw [← HB.out]; (simp [msgK, isZ, *] <;> first | omega | (intros; omega) | (cases ops <;> simp <;> omega)), hW⟩)
set_option maxHeartbeats 32000000 in
set_option maxRecDepth 10000 in
theorem l21Msg_f (hC : kOp.C w A ops.length ops) (ho : SmallOs ops) (hso : SmallO op) :
  Calls Tryz.prog 90 #[.agg #[.int .i64 kind, .int .i64 whom, .int .i64 term, .int .i64 n, .int .i64 op.kind, .string op.name, .string op.dest, .int .i64 op.n, .string op.text, .slice A ops.length c]] w (Ret (.bool (inR whom 1 2 && (inR term 0 99 && (inR n 0 20 && msgK kind n op ops)))) w) := by
 have HC := Lib.hid hC
 have HO := Lib.hid ho
 have HSO := Lib.hid hso
 have hl := ho.len
 obtain ⟨b, hb⟩ : ∃ b, msgK kind n op ops = b := ⟨_, rfl⟩
 obtain ⟨a1, h1⟩ : ∃ b, inR whom 1 2 = b := ⟨_, rfl⟩
 obtain ⟨a2, h2⟩ : ∃ b, inR term 0 99 = b := ⟨_, rfl⟩
 obtain ⟨a3, h3⟩ : ∃ b, inR n 0 20 = b := ⟨_, rfl⟩
 rw [hb, h1, h2, h3]
 have HB := Lib.hid hb
 have H3 := Lib.hid h3
 clear hC ho hso hb
 go_enter Tryz.func90, Tryz.ntmps90
 go_wp2_with fail
 have hM : Blk (w.alloc (.cells #[.int .i64 kind, .int .i64 whom, .int .i64 term, .int .i64 n, .int .i64 op.kind, .string op.name, .string op.dest, .int .i64 op.n, .string op.text, .slice A ops.length c] 29)) w.heap.size #[.int .i64 kind, .int .i64 whom, .int .i64 term, .int .i64 n, .int .i64 op.kind, .string op.name, .string op.dest, .int .i64 op.n, .string op.text, .slice A ops.length c] 29 := Blk.new _ _ _
 have hW : Bel w (w.alloc (.cells #[.int .i64 kind, .int .i64 whom, .int .i64 term, .int .i64 n, .int .i64 op.kind, .string op.name, .string op.dest, .int .i64 op.n, .string op.text, .slice A ops.length c] 29)) := bel_alloc (Below.refl _ _) _
 generalize (w.alloc (.cells #[.int .i64 kind, .int .i64 whom, .int .i64 term, .int .i64 n, .int .i64 op.kind, .string op.name, .string op.dest, .int .i64 op.n, .string op.text, .slice A ops.length c] 29)) = W1 at hM hW ⊢
 have HM := Lib.hid hM
 have m0 := blkn hM 0 _ rfl
 have m1 := blkn hM 1 _ rfl
 have m2 := blkn hM 2 _ rfl
 have m3 := blkn hM 3 _ rfl
 have m4 := blkn hM 4 _ rfl
 have m5 := blkn hM 5 _ rfl
 have m6 := blkn hM 6 _ rfl
 have m7 := blkn hM 7 _ rfl
 have m8 := blkn hM 8 _ rfl
 have m9 := blkn hM 9 _ rfl
 have my := hM.lt
 have hi1 := l6In_c whom 1 2 W1
 have hi2 := l6In_c term 0 99 W1
 have hi3 := l6In_c n 0 20 W1
 rw [h1] at hi1
 rw [h2] at hi2
 rw [h3] at hi3
 clear h1 h2 h3 hM
 refine hi1.mono ?_
 rintro e w' ⟨rfl, rfl⟩
 cases a1 with
 | false => go_wp2; go_ret; exact ⟨rfl, hW⟩
 | true =>
 go_wp2_with fail
 refine hi2.mono ?_
 rintro e w' ⟨rfl, rfl⟩
 cases a2 with
 | false => go_wp2; go_ret; exact ⟨rfl, hW⟩
 | true =>
 go_wp2_with fail
 refine hi3.mono ?_
 rintro e w' ⟨rfl, rfl⟩
 cases a3 with
 | false => go_wp2; go_ret; exact ⟨rfl, hW⟩
 | true =>
 have HN := Lib.hid (show 0 ≤ n ∧ n ≤ 20 by have h := H3.out; unfold inR at h; simp at h; exact h)
 go_wp2
 clear hi1 hi2 hi3 m0 m1 m2 m3 m4 m5 m6 m7 m8 m9 my
 have HW := Lib.hid hW
 obtain ⟨q1, hq1⟩ : ∃ b, (runP newP ops).isSome = b := ⟨_, rfl⟩
 have hfx := Lib.hid (fun (W : World) (hb : Bel W1.drew W) => (blkn ((HM.out.bel (Below.refl _ _).drew).bel hb) 9 _ rfl : W.cell? ⟨w.heap.size, 9, none⟩ = some (.slice A ops.length c)))
 have hC1 : kOp.C W1.drew A ops.length ops := kOp_keep HC.out (hW.tr (Below.refl _ _).drew)
 have hrun := Lib.hid (fun (W : World) (v0 v1 : Value) (bvs : List Value) (h : OwnP W W1.drew.heap.size v0 v1 newP bvs) (hb : Bel W1.drew W) => l13Run_c (c2 := c) h newP_ok (Below.size hb) hC1 (Nat.le_refl _) hb HO.out)
 unfold RunsP at hrun
 rw [hq1] at hrun
 have D0 := Lib.hid (show Bel W1.drew W1.drew from Below.refl _ _)
 have HQ1 := Lib.hid hq1
 clear hW hC1 hq1
 have s0 := hfx.out _ D0.out
 refine start_ (n := 10) (S := fun w' => w'.cell? ⟨w.heap.size, 9, none⟩ = some (.slice A ops.length c)) (ds := [8]) #[bF, bF, bF, bF, bF, bF, bF, bF, bF, bF] (by kernel_rfl) rfl rfl (s0) (fun hHeld => ?_)
 refine ppx (i := 1) (N := some 23) #[bF, bT, bF, bF, bF, bF, bF, bF, bF, bF] (h := ?_)
 refine tpx (i := 2) (N := some 24) #[bF, bT, bT, bF, bF, bF, bF, bF, bF, bF] (hy := (Or.inl ⟨by rfl, by intro w' s0; go_simp; with_reducible rfl⟩)) (hS := hHeld) (h := ?_)
 refine join_ (σ := Value × Value × Option Addr × Nat × Nat × Option Addr × Nat × Nat × Nat) 2 #[bT, bT, bT, bT, bT, bT, bT, bT, bF, bF] (fun s => [(22, .agg #[s.1, s.2.1]), (25, .tuple #[.agg #[.slice s.2.2.1 s.2.2.2.1 s.2.2.2.2.1, .slice s.2.2.2.2.2.1 s.2.2.2.2.2.2.1 s.2.2.2.2.2.2.2.1], .bool q1]), (21, .tuple #[.agg #[.slice s.2.2.1 s.2.2.2.1 s.2.2.2.2.1, .slice s.2.2.2.2.2.1 s.2.2.2.2.2.2.1 s.2.2.2.2.2.2.2.1], .bool q1]), (26, .agg #[.slice s.2.2.1 s.2.2.2.1 s.2.2.2.2.1, .slice s.2.2.2.2.2.1 s.2.2.2.2.2.2.1 s.2.2.2.2.2.2.2.1]), (27, .bool q1), (3, .pointer (some ⟨s.2.2.2.2.2.2.2.2, 0, none⟩))]) (fun s w' => (w'.cell? ⟨w.heap.size, 9, none⟩ = some (.slice A ops.length c)) ∧ Blk w' s.2.2.2.2.2.2.2.2 #[.slice none 0 0, .slice none 0 0] 42 ∧ W1.drew.heap.size ≤ s.2.2.2.2.2.2.2.2 ∧ Bel W1.drew w') ?_ ?_
 rotate_left
 ·intro hCont
  refine two_ (i := 0) (j := 7) (Ni := some 22) (Nj := some 3) #[bT, bT, bT, bF, bF, bF, bF, bF, bF, bF] #[bF, bT, bT, bF, bF, bF, bF, bT, bF, bF] rfl rfl rfl rfl (by kernel_rfl) (by decide) (by decide) (fun K hK => ?_) (fun K hK => ?_)
  ·skip
   refine goes_ Tryz.func133 (by kernel_rfl) rfl #[] (by rfl) rfl rfl (by simp only [List.map_toArray, List.map_cons, List.map_nil]) ?_
   with_reducible refine (specPoolNew_c _).mono ?_
   rintro e w1_ ⟨va, vb, bva, rfl, ho, X1⟩
   have D1 := Lib.hid (Bel.tr D0.out X1)
   have P1 : Hid (OwnP w1_ W1.drew.heap.size va vb newP bva) := Lib.hid (ho.lower D0.out.size)
   clear ho
   refine ⟨_, rfl, ?_⟩
   refine hK.out _ _ (hfx.out _ D1.out) (fun hHeld => ?_)
   clear hK K
   refine nox 22 (h := ?_)
   refine two_ (i := 3) (j := 7) (Ni := some 25) (Nj := some 3) #[bT, bT, bT, bT, bF, bF, bF, bF, bF, bF] #[bT, bT, bT, bF, bF, bF, bF, bT, bF, bF] rfl rfl rfl rfl (by kernel_rfl) (by decide) (by decide) (fun K hK => ?_) (fun K hK => ?_)
   ·skip
    refine goes_ Tryz.func104 (by kernel_rfl) rfl #[.agg #[va, vb], .slice A ops.length c] (by rfl) rfl rfl (by simp only [List.map_toArray, List.map_cons, List.map_nil]; rfl) ?_
    with_reducible refine (hrun.out _ va vb bva P1.out D1.out).mono ?_
    rintro e w2_ ⟨A2, A3, n2, n3, k2, k3, rfl, hq, X2⟩
    have D2 : Hid (Bel W1.drew w2_) := Lib.hid (D1.out.trans X2.b)
    clear hq
    refine ⟨_, rfl, ?_⟩
    refine hK.out _ _ (hfx.out _ D2.out) (fun hHeld => ?_)
    clear hK K
    refine nox 25 (h := ?_)
    refine ppx (i := 4) (N := some 21) #[bT, bT, bT, bT, bT, bF, bF, bF, bF, bF] (h := ?_)
    refine ppx (i := 5) (N := some 26) #[bT, bT, bT, bT, bT, bT, bF, bF, bF, bF] (h := ?_)
    refine ppx (i := 6) (N := some 27) #[bT, bT, bT, bT, bT, bT, bT, bF, bF, bF] (h := ?_)
    refine one_ (i := 7) (N := some 3) #[bT, bT, bT, bT, bT, bT, bT, bT, bF, bF] rfl rfl (by kernel_rfl) (by decide) (fun K hK => ?_)
    refine value_ (by rfl) rfl (by go_simp; constructor <;> rfl) ?_
    have D3 : Hid (Bel W1.drew (w2_.alloc (.cells #[.slice none 0 0, .slice none 0 0] 42))) := Lib.hid (bel_alloc D2.out (.cells #[.slice none 0 0, .slice none 0 0] 42))
    have O3 : Hid (Blk (w2_.alloc (.cells #[.slice none 0 0, .slice none 0 0] 42)) w2_.heap.size #[.slice none 0 0, .slice none 0 0] 42) := Lib.hid (Blk.new w2_ #[.slice none 0 0, .slice none 0 0] 42)
    have L3 := D2.out.size
    refine hK.out _ _ (hfx.out _ D3.out) (fun hHeld => ?_)
    clear hK K
    refine nox 3 (h := ?_)
    exact nof (hCont (va, vb, A2, n2, k2, A3, n3, k3, w2_.heap.size) _ ⟨hHeld, O3.out, L3, D3.out⟩)
   ·skip
    refine value_ (by rfl) rfl (by go_simp; constructor <;> rfl) ?_
    have D2 : Hid (Bel W1.drew (w1_.alloc (.cells #[.slice none 0 0, .slice none 0 0] 42))) := Lib.hid (bel_alloc D1.out (.cells #[.slice none 0 0, .slice none 0 0] 42))
    have P2 := Lib.hid (OwnP.bel P1.out (bel_alloc (Below.refl _ _) (.cells #[.slice none 0 0, .slice none 0 0] 42)))
    have O2 : Hid (Blk (w1_.alloc (.cells #[.slice none 0 0, .slice none 0 0] 42)) w1_.heap.size #[.slice none 0 0, .slice none 0 0] 42) := Lib.hid (Blk.new w1_ #[.slice none 0 0, .slice none 0 0] 42)
    have L2 := D1.out.size
    refine hK.out _ _ (hfx.out _ D2.out) (fun hHeld => ?_)
    clear hK K
    refine nox 3 (h := ?_)
    refine one_ (i := 3) (N := some 25) #[bT, bT, bT, bT, bF, bF, bF, bT, bF, bF] rfl rfl (by kernel_rfl) (by decide) (fun K hK => ?_)
    refine goes_ Tryz.func104 (by kernel_rfl) rfl #[.agg #[va, vb], .slice A ops.length c] (by rfl) rfl rfl (by simp only [List.map_toArray, List.map_cons, List.map_nil]; rfl) ?_
    with_reducible refine (hrun.out _ va vb bva P2.out D2.out).mono ?_
    rintro e w3_ ⟨A2, A3, n2, n3, k2, k3, rfl, hq, X3⟩
    have D3 : Hid (Bel W1.drew w3_) := Lib.hid (D2.out.trans X3.b)
    clear hq
    have O3 := Lib.hid (X3.k _ _ _ (by decide) (by decide) (by decide) O2.out)
    refine ⟨_, rfl, ?_⟩
    refine hK.out _ _ (hfx.out _ D3.out) (fun hHeld => ?_)
    clear hK K
    refine nox 25 (h := ?_)
    refine ppx (i := 4) (N := some 21) #[bT, bT, bT, bT, bT, bF, bF, bT, bF, bF] (h := ?_)
    refine ppx (i := 5) (N := some 26) #[bT, bT, bT, bT, bT, bT, bF, bT, bF, bF] (h := ?_)
    refine ppx (i := 6) (N := some 27) #[bT, bT, bT, bT, bT, bT, bT, bT, bF, bF] (h := ?_)
    exact nof (hCont (va, vb, A2, n2, k2, A3, n3, k3, w1_.heap.size) _ ⟨hHeld, O3.out, L2, D3.out⟩)
  ·skip
   refine value_ (by rfl) rfl (by go_simp; constructor <;> rfl) ?_
   have D1 : Hid (Bel W1.drew (W1.alloc (.cells #[.slice none 0 0, .slice none 0 0] 42)).drew) := Lib.hid (bel_alloc D0.out (.cells #[.slice none 0 0, .slice none 0 0] 42))
   have O1 : Hid (Blk (W1.alloc (.cells #[.slice none 0 0, .slice none 0 0] 42)).drew W1.drew.heap.size #[.slice none 0 0, .slice none 0 0] 42) := Lib.hid (Blk.new W1.drew #[.slice none 0 0, .slice none 0 0] 42)
   have L1 := D0.out.size
   refine hK.out _ _ (hfx.out _ D1.out) (fun hHeld => ?_)
   clear hK K
   refine nox 3 (h := ?_)
   refine one_ (i := 0) (N := some 22) #[bT, bT, bT, bF, bF, bF, bF, bT, bF, bF] rfl rfl (by kernel_rfl) (by decide) (fun K hK => ?_)
   refine goes_ Tryz.func133 (by kernel_rfl) rfl #[] (by rfl) rfl rfl (by simp only [List.map_toArray, List.map_cons, List.map_nil]) ?_
   with_reducible refine (specPoolNew_c _).mono ?_
   rintro e w2_ ⟨va, vb, bva, rfl, ho, X2⟩
   have D2 := Lib.hid (Bel.tr D1.out X2)
   have O2 := Lib.hid (Blk.bel O1.out X2)
   have P2 : Hid (OwnP w2_ W1.drew.heap.size va vb newP bva) := Lib.hid (ho.lower D1.out.size)
   clear ho
   refine ⟨_, rfl, ?_⟩
   refine hK.out _ _ (hfx.out _ D2.out) (fun hHeld => ?_)
   clear hK K
   refine nox 22 (h := ?_)
   refine one_ (i := 3) (N := some 25) #[bT, bT, bT, bT, bF, bF, bF, bT, bF, bF] rfl rfl (by kernel_rfl) (by decide) (fun K hK => ?_)
   refine goes_ Tryz.func104 (by kernel_rfl) rfl #[.agg #[va, vb], .slice A ops.length c] (by rfl) rfl rfl (by simp only [List.map_toArray, List.map_cons, List.map_nil]; rfl) ?_
   with_reducible refine (hrun.out _ va vb bva P2.out D2.out).mono ?_
   rintro e w3_ ⟨A2, A3, n2, n3, k2, k3, rfl, hq, X3⟩
   have D3 : Hid (Bel W1.drew w3_) := Lib.hid (D2.out.trans X3.b)
   clear hq
   have O3 := Lib.hid (X3.k _ _ _ (by decide) (by decide) (by decide) O2.out)
   refine ⟨_, rfl, ?_⟩
   refine hK.out _ _ (hfx.out _ D3.out) (fun hHeld => ?_)
   clear hK K
   refine nox 25 (h := ?_)
   refine ppx (i := 4) (N := some 21) #[bT, bT, bT, bT, bT, bF, bF, bT, bF, bF] (h := ?_)
   refine ppx (i := 5) (N := some 26) #[bT, bT, bT, bT, bT, bT, bF, bT, bF, bF] (h := ?_)
   refine ppx (i := 6) (N := some 27) #[bT, bT, bT, bT, bT, bT, bT, bT, bF, bF] (h := ?_)
   exact nof (hCont (va, vb, A2, n2, k2, A3, n3, k3, W1.heap.size) _ ⟨hHeld, O3.out, L1, D3.out⟩)
 rintro ⟨va, vb, A2, n2, k2, A3, n3, k3, nb⟩ w3 ⟨hHeld, hO, hL, hD⟩
 dsimp only at hO hL
 have r0 := hO.cell 0
 have r1 := hO.cell 1
 have f0 := hO.free 0
 have f1 := hO.free 1
 simp at r0 r1
 refine norm_ (a' := ?_) ?_ ?_
 rotate_left
 ·simp only [putAll, Act.put, lA, lB, lC]
  rfl
 refine last_ (i := 8) (N := none) #[bT, bT, bT, bT, bT, bT, bT, bT, bT, bF] rfl rfl (by kernel_rfl) (by decide) (fun K hK => ?_)
 refine skip_ (by rfl) rfl (by go_simp; rfl) ?_
 refine hK.out _ _ ?_
 clear hK K
 refine ppx (i := 9) (N := some 4) #[bT, bT, bT, bT, bT, bT, bT, bT, bT, bT] (h := ?_)
 refine done_ (by kernel_rfl) ?_
 have hb5 : Bel W1.drew ((w3.setCell ⟨nb, 0, none⟩ (.slice A2 n2 k2)).setCell ⟨nb, 1, none⟩ (.slice A3 n3 k3)) := bel_set (bel_set hD hL 0 (.slice A2 n2 k2)) hL 1 (.slice A3 n3 k3)
 clear hO hD hL f0 f1 r0 r1 hHeld D0 s0 hfx hrun
 generalize ((w3.setCell ⟨nb, 0, none⟩ (.slice A2 n2 k2)).setCell ⟨nb, 1, none⟩ (.slice A3 n3 k3)) = W5 at hb5 ⊢
 have hW5 : Bel w W5 := (HW.out.tr (Below.refl _ _).drew).tr hb5
 have HM5 := Lib.hid ((HM.out.bel (Below.refl _ _).drew).bel hb5)
 have HB5 := Lib.hid hb5
 clear hb5
 have m0 := blkn HM5.out 0 _ rfl
 have m1 := blkn HM5.out 1 _ rfl
 have m2 := blkn HM5.out 2 _ rfl
 have m3 := blkn HM5.out 3 _ rfl
 have m4 := blkn HM5.out 4 _ rfl
 have m5 := blkn HM5.out 5 _ rfl
 have m6 := blkn HM5.out 6 _ rfl
 have m7 := blkn HM5.out 7 _ rfl
 have m8 := blkn HM5.out 8 _ rfl
 have m9 := blkn HM5.out 9 _ rfl
 have my := HM5.out.lt
 by_cases k1 : kind = 1
 ·subst k1
  obtain ⟨b1, hb1⟩ : ∃ b, opOk op = b := ⟨_, rfl⟩
  have hk := specOpOk_c op HSO.out W5
  rw [hb1] at hk
  go_wp2_with fail
  refine hk.mono ?_
  rintro e w2 ⟨rfl, hb2⟩
  have hW2 := hW5.tr hb2
  have hM2 := HM5.out.bel hb2
  have n3 := blkn hM2 3 _ rfl
  have n9 := blkn hM2 9 _ rfl
  have ny := hM2.lt
  clear hk hb2 m0 m1 m2 m3 m4 m5 m6 m7 m8 m9 my
  cases b1 with
  | false => go_wp2; all_goals (go_ret; exact ⟨by rw [← HB.out]; (simp [msgK, isZ, *] <;> first | omega | (intros; omega) | (cases ops <;> simp <;> omega)), hW2⟩)
  | true => go_wp2; all_goals (go_ret; exact ⟨by rw [← HB.out]; (simp [msgK, isZ, *] <;> first | omega | (intros; omega) | (cases ops <;> simp <;> omega)), hW2⟩)
 ·have hq1 := HQ1.out
  by_cases k2 : kind = 2
  ·subst k2
   go_wp2
   all_goals (go_ret; exact ⟨by rw [← HB.out]; (simp [msgK, isZ, *] <;> first | omega | (intros; omega) | (cases ops <;> simp <;> omega)), hW5⟩)
  ·by_cases k4 : kind = 4
   ·subst k4
    go_wp2
    all_goals (go_ret; exact ⟨by rw [← HB.out]; (simp [msgK, isZ, *] <;> first | omega | (intros; omega) | (cases ops <;> simp <;> omega)), hW5⟩)
   ·by_cases k3 : kind = 3
    ·subst k3
     go_wp2
     all_goals (go_ret; exact ⟨by rw [← HB.out]; (simp [msgK, isZ, *] <;> first | omega | (intros; omega) | (cases ops <;> simp <;> omega)), hW5⟩)
    ·go_wp2
     all_goals (go_ret; exact ⟨by rw [← HB.out]; (simp [msgK, isZ, *] <;> first | omega | (intros; omega) | (cases ops <;> simp <;> omega)), hW5⟩)
end
theorem isMsg_c {w : World} {A : Option Addr} {c : Nat} {m : Msg} (hC : kOp.C w A m.ops.length m.ops) (ho : SmallOs m.ops) (hso : SmallO m.op) : Calls Tryz.prog 93 #[.agg #[.int .i64 m.kind, .int .i64 m.whom, .int .i64 m.term, .int .i64 m.n, .int .i64 m.op.kind, .string m.op.name, .string m.op.dest, .int .i64 m.op.n, .string m.op.text, .slice A m.ops.length c]] w (Ret (.bool (msgOk m)) w) := isMsg_f hC ho hso
theorem l21Msg_c {w : World} {A : Option Addr} {c : Nat} {m : Msg} (hC : kOp.C w A m.ops.length m.ops) (ho : SmallOs m.ops) (hso : SmallO m.op) : Calls Tryz.prog 90 #[.agg #[.int .i64 m.kind, .int .i64 m.whom, .int .i64 m.term, .int .i64 m.n, .int .i64 m.op.kind, .string m.op.name, .string m.op.dest, .int .i64 m.op.n, .string m.op.text, .slice A m.ops.length c]] w (Ret (.bool (msgOk m)) w) := l21Msg_f hC ho hso
end Go.Proofs.YtccllgpaafgjaaaGreat

namespace Go.Proofs.YtccllgpaafgjaaaGreat
open Go.RowKit Go.Proofs.YtccllgpaafgjaaaGreatW.PrintWords Go.Proofs.YtccllgpaafgjaaaGreatW.PrintLast
def opEqB (x y : Op) : Bool := decide (x.kind = y.kind) && (decide (x.name.toList = y.name.toList) && (decide (x.dest.toList = y.dest.toList) && (decide (x.n = y.n) && decide (x.text.toList = y.text.toList))))
theorem opEq_ifs {x op : Op} {z : Bool} (h : opEqB x op = z) (w' : World) :
  (if x.kind = op.kind then if x.name.toList = op.name.toList then if x.dest.toList = op.dest.toList then if x.n = op.n then if x.text.toList = op.text.toList then Result.ok (Next.value (Value.bool true)) w'
   else Result.ok (Next.value (Value.bool false)) w' else Result.ok (Next.value (Value.bool false)) w' else Result.ok (Next.value (Value.bool false)) w' else Result.ok (Next.value (Value.bool false)) w' else Result.ok (Next.value (Value.bool false)) w') = Result.ok (Next.value (Value.bool z)) w' := by
 subst h
 unfold opEqB
 by_cases h1 : x.kind = op.kind <;> by_cases h2 : x.name.toList = op.name.toList <;> by_cases h3 : x.dest.toList = op.dest.toList <;> by_cases h4 : x.n = op.n <;> by_cases h5 : x.text.toList = op.text.toList <;> simp [h1, h2, h3, h4, h5]
def copN (n : Node) (mt mn : Int) (op : Op) : Node := if mt ≠ n.term ∨ n.leads = true then n else if mn ≤ n.ops.length then n else if (n.ops.length : Int) + 1 < mn then n else addN n op
def copB (n : Node) (mt mn : Int) (op : Op) : Bool := if mt ≠ n.term ∨ n.leads = true then false else if mn ≤ n.ops.length then opEqB (n.ops.getD (mn - 1).toNat noO) op else if (n.ops.length : Int) + 1 < mn then false else addNB n op
def hasM (n : Node) (id mn : Int) : Msg := ⟨2, 3 - id, n.term, mn, noO, []⟩
def copM (n : Node) (id mt mn : Int) : Msg := if mt ≠ n.term ∨ n.leads = true then noM else if mn ≤ n.ops.length then hasM n id mn else if (n.ops.length : Int) + 1 < mn then noM else hasM n id mn
theorem op_cells {w : World} {ad : Addr} {n : Nat} {xs : List Op} (h : kOp.C w (some ad) n xs) {i : Nat} {x : Op} (hx : xs[i]? = some x) : w.cell? (ad.add (i * 5)) = some (.int .i64 x.kind) ∧ w.cell? ⟨(ad.add (i * 5)).block, (ad.add (i * 5)).off + 1, none⟩ = some (.string x.name) ∧ w.cell? ⟨(ad.add (i * 5)).block, (ad.add (i * 5)).off + 2, none⟩ = some (.string x.dest) ∧ w.cell? ⟨(ad.add (i * 5)).block, (ad.add (i * 5)).off + 3, none⟩ = some (.int .i64 x.n) ∧ w.cell? ⟨(ad.add (i * 5)).block, (ad.add (i * 5)).off + 4, none⟩ = some (.string x.text) := by
 obtain ⟨ad', e, h5⟩ := at_op h hx
 cases e
 exact h5
theorem OwnT.reads2 {w : World} {base : Nat} {A : Option Addr} {c : Nat} {os : List Op} (h : OwnT w base (.slice A os.length c) os) : kOp.C w A os.length os := by obtain ⟨A', c', e, _, hC⟩ := h.reads; have e := slice_eq e; obtain ⟨rfl, -, rfl⟩ := e; exact hC
theorem allocs5 (w : World) (c0 c1 c2 c3 c4 : Array Value) (t0 t1 t2 t3 t4 : TypeId) :
  Bel w (((((w.alloc (.cells c0 t0)).alloc (.cells c1 t1)).alloc (.cells c2 t2)).alloc (.cells c3 t3)).alloc (.cells c4 t4)) ∧
  Blk (((((w.alloc (.cells c0 t0)).alloc (.cells c1 t1)).alloc (.cells c2 t2)).alloc (.cells c3 t3)).alloc (.cells c4 t4)) w.heap.size c0 t0 ∧
  Blk (((((w.alloc (.cells c0 t0)).alloc (.cells c1 t1)).alloc (.cells c2 t2)).alloc (.cells c3 t3)).alloc (.cells c4 t4)) (w.heap.size + 1) c1 t1 ∧
  Blk (((((w.alloc (.cells c0 t0)).alloc (.cells c1 t1)).alloc (.cells c2 t2)).alloc (.cells c3 t3)).alloc (.cells c4 t4)) (w.heap.size + 1 + 1) c2 t2 ∧
  Blk (((((w.alloc (.cells c0 t0)).alloc (.cells c1 t1)).alloc (.cells c2 t2)).alloc (.cells c3 t3)).alloc (.cells c4 t4)) (w.heap.size + 1 + 1 + 1) c3 t3 ∧
  Blk (((((w.alloc (.cells c0 t0)).alloc (.cells c1 t1)).alloc (.cells c2 t2)).alloc (.cells c3 t3)).alloc (.cells c4 t4)) (w.heap.size + 1 + 1 + 1 + 1) c4 t4 := by
 refine ⟨bel_alloc (bel_alloc (bel_alloc (bel_alloc (bel_alloc (Below.refl _ _) _) _) _) _) _, ((((Blk.new _ _ _).alloc _).alloc _).alloc _).alloc _, (((Blk.nw2 w _ _ _).alloc _).alloc _).alloc _, ?_, ?_, ?_⟩
 ·have := Blk.new ((w.alloc (.cells c0 t0)).alloc (.cells c1 t1)) c2 t2
  simpa using (this.alloc _).alloc _
 ·have := Blk.new (((w.alloc (.cells c0 t0)).alloc (.cells c1 t1)).alloc (.cells c2 t2)) c3 t3
  simpa using this.alloc _
 ·have := Blk.new ((((w.alloc (.cells c0 t0)).alloc (.cells c1 t1)).alloc (.cells c2 t2)).alloc (.cells c3 t3)) c4 t4
  simpa using this
section
variable {w : World} {A B : Option Addr} {c base bn bc : Nat} {up leads alone : Bool} {kind whom mt mn term id : Int} {ops : List Op} {op : Op}
set_option maxHeartbeats 32000000 in
set_option maxRecDepth 10000 in
theorem l21Copied_f {q : Pool} (h : OwnT w base (.slice A ops.length c) ops) (hbase : base ≤ w.heap.size) (ho : SmallOs ops) (hso : SmallO op) (hid : id = 1 ∨ id = 2) (hr : runP newP ops = some q) (hmn : 1 ≤ mn ∧ mn ≤ 20) :
  Calls Tryz.prog 160 #[.agg #[.bool up, .int .i64 term, .bool leads, .bool alone, .slice A ops.length c], .int .i64 id, .agg #[.int .i64 kind, .int .i64 whom, .int .i64 mt, .int .i64 mn, .int .i64 op.kind, .string op.name, .string op.dest, .int .i64 op.n, .string op.text, .slice B bn bc]] w (AskedN base w (copN ⟨up, term, leads, alone, ops⟩ mt mn op) (copM ⟨up, term, leads, alone, ops⟩ id mt mn) (.slice A ops.length c) (copB ⟨up, term, leads, alone, ops⟩ mt mn op)) := by
 have HT := Lib.hid h
 have HBS := Lib.hid hbase
 have HO := Lib.hid ho
 have HSO := Lib.hid hso
 have HRX := Lib.hid hr
 have HID := Lib.hid hid
 have HMN := Lib.hid hmn
 have hl9 := ho.len
 obtain ⟨z, hz⟩ : ∃ z, copB ⟨up, term, leads, alone, ops⟩ mt mn op = z := ⟨_, rfl⟩
 obtain ⟨xn, hxn⟩ : ∃ x, copN ⟨up, term, leads, alone, ops⟩ mt mn op = x := ⟨_, rfl⟩
 obtain ⟨xm, hxm⟩ : ∃ x, copM ⟨up, term, leads, alone, ops⟩ id mt mn = x := ⟨_, rfl⟩
 rw [hz, hxn, hxm]
 unfold copB at hz
 unfold copN at hxn
 unfold copM at hxm
 simp only at hz hxn hxm
 have hid3 : wrap64 (3 - id) = 3 - id := by have h3 := HID.out; unfold wrap64; omega
 have b1 := hmn.1
 have b2 := hmn.2
 clear h hbase ho hso hid hr hmn
 go_enter Tryz.func160, Tryz.ntmps160
 by_cases c1 : mt ≠ term ∨ leads = true
 ·rw [if_pos c1] at hz hxn hxm
  obtain rfl := hz
  obtain rfl := hxn
  obtain rfl := hxm
  have hcase : (mt = term ∧ leads = true) ∨ mt ≠ term := by by_cases e : mt = term <;> simp_all
  rcases hcase with ⟨rfl, rfl⟩ | hne
  ·go_wp2
   have hA := (allocs5 w #[.bool up, .int .i64 mt, .bool true, .bool alone, .slice A ops.length c] #[.int .i64 kind, .int .i64 whom, .int .i64 mt, .int .i64 mn, .int .i64 op.kind, .string op.name, .string op.dest, .int .i64 op.n, .string op.text, .slice B bn bc] #[.bool up, .int .i64 mt, .bool true, .bool alone, .slice A ops.length c] #[.int .i64 0, .int .i64 0, .int .i64 0, .int .i64 0, .int .i64 0, .string ⟨#[]⟩, .string ⟨#[]⟩, .int .i64 0, .string ⟨#[]⟩, .slice none 0 0] #[.int .i64 2, .int .i64 (3 - id), .int .i64 mt, .int .i64 mn, .int .i64 0, .string ⟨#[]⟩, .string ⟨#[]⟩, .int .i64 0, .string ⟨#[]⟩, .slice none 0 0] 25 29 25 29 29)
   refine bodyPost_ret (results_list (rs := [.cell 6 25, .cell 7 29, .tmp 8]) rfl (by simp) (.cell (w.heap.size + 1 + 1) 25 #[.bool up, .int .i64 mt, .bool true, .bool alone, .slice A ops.length c] (0, 0) _ rfl hA.2.2.2.1 Tryz.underlying25 rfl (by kernel_rfl) (.cell (w.heap.size + 1 + 1 + 1) 29 #[.int .i64 0, .int .i64 0, .int .i64 0, .int .i64 0, .int .i64 0, .string ⟨#[]⟩, .string ⟨#[]⟩, .int .i64 0, .string ⟨#[]⟩, .slice none 0 0] (0, 0) _ rfl hA.2.2.2.2.1 Tryz.underlying29 rfl (by kernel_rfl) (.tmp .nil)))) rfl ?_
   exact ⟨_, rfl, HT.out.bel hA.1, grown_of_bel hA.1 _, .inl rfl, fun _ => rfl⟩
  ·go_wp2
   have hA := (allocs5 w #[.bool up, .int .i64 term, .bool leads, .bool alone, .slice A ops.length c] #[.int .i64 kind, .int .i64 whom, .int .i64 mt, .int .i64 mn, .int .i64 op.kind, .string op.name, .string op.dest, .int .i64 op.n, .string op.text, .slice B bn bc] #[.bool up, .int .i64 term, .bool leads, .bool alone, .slice A ops.length c] #[.int .i64 0, .int .i64 0, .int .i64 0, .int .i64 0, .int .i64 0, .string ⟨#[]⟩, .string ⟨#[]⟩, .int .i64 0, .string ⟨#[]⟩, .slice none 0 0] #[.int .i64 2, .int .i64 (3 - id), .int .i64 term, .int .i64 mn, .int .i64 0, .string ⟨#[]⟩, .string ⟨#[]⟩, .int .i64 0, .string ⟨#[]⟩, .slice none 0 0] 25 29 25 29 29)
   refine bodyPost_ret (results_list (rs := [.cell 6 25, .cell 7 29, .tmp 8]) rfl (by simp) (.cell (w.heap.size + 1 + 1) 25 #[.bool up, .int .i64 term, .bool leads, .bool alone, .slice A ops.length c] (0, 0) _ rfl hA.2.2.2.1 Tryz.underlying25 rfl (by kernel_rfl) (.cell (w.heap.size + 1 + 1 + 1) 29 #[.int .i64 0, .int .i64 0, .int .i64 0, .int .i64 0, .int .i64 0, .string ⟨#[]⟩, .string ⟨#[]⟩, .int .i64 0, .string ⟨#[]⟩, .slice none 0 0] (0, 0) _ rfl hA.2.2.2.2.1 Tryz.underlying29 rfl (by kernel_rfl) (.tmp .nil)))) rfl ?_
   exact ⟨_, rfl, HT.out.bel hA.1, grown_of_bel hA.1 _, .inl rfl, fun _ => rfl⟩
 ·rw [if_neg c1] at hz hxn hxm
  obtain ⟨rfl, rfl⟩ : mt = term ∧ leads = false := by
   refine ⟨?_, ?_⟩
   ·exact Decidable.byContradiction fun e => c1 (.inl e)
   ·cases leads with
    | false => rfl
    | true => exact absurd (.inr rfl) c1
  clear c1
  by_cases c2 : mn ≤ ops.length
  ·rw [if_pos c2] at hz hxn hxm
   obtain rfl := hxn
   obtain rfl := hxm
   obtain ⟨k, rfl⟩ : ∃ k : Nat, mn = (k : Int) + 1 := ⟨(mn - 1).toNat, by omega⟩
   have hk : k < ops.length := by omega
   obtain ⟨x, hx⟩ := getQ hk
   have hxk : ops.getD ((k : Int) + 1 - 1).toNat noO = x := by rw [show ((k : Int) + 1 - 1).toNat = k by omega, List.getD_eq_getElem?_getD, hx]; rfl
   rw [hxk] at hz
   have HZ := Lib.hid hz
   have hw1 : wrap64 (k : Int) = k := by unfold wrap64; omega
   have hk1 : (k : Int) < ops.length := by omega
   have hk0 : (0 : Int) ≤ k := by omega
   clear hxk hz
   go_wp2
   obtain ⟨hW, hN, hP, hR, hM, hH⟩ := allocs5 w #[.bool up, .int .i64 mt, .bool false, .bool alone, .slice A ops.length c] #[.int .i64 kind, .int .i64 whom, .int .i64 mt, .int .i64 (k + 1), .int .i64 op.kind, .string op.name, .string op.dest, .int .i64 op.n, .string op.text, .slice B bn bc] #[.bool false, .int .i64 0, .bool false, .bool false, .slice none 0 0] #[.int .i64 0, .int .i64 0, .int .i64 0, .int .i64 0, .int .i64 0, .string ⟨#[]⟩, .string ⟨#[]⟩, .int .i64 0, .string ⟨#[]⟩, .slice none 0 0] #[.int .i64 2, .int .i64 (3 - id), .int .i64 mt, .int .i64 (k + 1), .int .i64 0, .string ⟨#[]⟩, .string ⟨#[]⟩, .int .i64 0, .string ⟨#[]⟩, .slice none 0 0] 25 29 25 29 29
   generalize (((((w.alloc (.cells #[.bool up, .int .i64 mt, .bool false, .bool alone, .slice A ops.length c] 25)).alloc (.cells #[.int .i64 kind, .int .i64 whom, .int .i64 mt, .int .i64 (k + 1), .int .i64 op.kind, .string op.name, .string op.dest, .int .i64 op.n, .string op.text, .slice B bn bc] 29)).alloc (.cells #[.bool false, .int .i64 0, .bool false, .bool false, .slice none 0 0] 25)).alloc (.cells #[.int .i64 0, .int .i64 0, .int .i64 0, .int .i64 0, .int .i64 0, .string ⟨#[]⟩, .string ⟨#[]⟩, .int .i64 0, .string ⟨#[]⟩, .slice none 0 0] 29)).alloc (.cells #[.int .i64 2, .int .i64 (3 - id), .int .i64 mt, .int .i64 (k + 1), .int .i64 0, .string ⟨#[]⟩, .string ⟨#[]⟩, .int .i64 0, .string ⟨#[]⟩, .slice none 0 0] 29)) = W0 at hW hN hP hR hM hH ⊢
   have HN := Lib.hid hN
   have HP := Lib.hid hP
   have HR := Lib.hid hR
   have HM := Lib.hid hM
   have HH := Lib.hid hH
   have HW := Lib.hid hW
   have hr_ := hR
   have hm_ := hM
   have HT0 := Lib.hid (HT.out.bel hW)
   obtain ⟨ad, rfl, -⟩ := at_op HT0.out.reads2 hx
   have HX := Lib.hid hx
   have HE := Lib.hid (op_cells (HT0.out.bel (Below.refl _ _).drew).reads2 hx)
   have HE2 := Lib.hid (op_cells ((HT0.out.far5 hR (.bool up) (.int .i64 mt) (.bool false) (.bool alone) (.slice (some ad) ops.length c)).bel (Below.refl _ _).drew).reads2 hx)
   have hne1 : w.heap.size + 1 + 1 ≠ w.heap.size := by omega
   have hne2 : w.heap.size + 1 + 1 ≠ w.heap.size + 1 := by omega
   have hne3 : w.heap.size + 1 + 1 ≠ w.heap.size + 1 + 1 + 1 + 1 := by omega
   have r0 := blkn hr_ 0 _ rfl
   have r1 := blkn hr_ 1 _ rfl
   have r2 := blkn hr_ 2 _ rfl
   have r3 := blkn hr_ 3 _ rfl
   have r4 := blkn hr_ 4 _ rfl
   have m0 := blkn hm_ 0 _ rfl
   have m1 := blkn hm_ 1 _ rfl
   have m2 := blkn hm_ 2 _ rfl
   have m3 := blkn hm_ 3 _ rfl
   have m4 := blkn hm_ 4 _ rfl
   have m5 := blkn hm_ 5 _ rfl
   have m6 := blkn hm_ 6 _ rfl
   have m7 := blkn hm_ 7 _ rfl
   have m8 := blkn hm_ 8 _ rfl
   have m9 := blkn hm_ 9 _ rfl
   have rf0 := hr_.free 0
   have rf1 := hr_.free 1
   have rf2 := hr_.free 2
   have rf3 := hr_.free 3
   have rf4 := hr_.free 4
   have mf0 := hm_.free 0
   have mf1 := hm_.free 1
   have mf2 := hm_.free 2
   have mf3 := hm_.free 3
   have mf4 := hm_.free 4
   have mf5 := hm_.free 5
   have mf6 := hm_.free 6
   have mf7 := hm_.free 7
   have mf8 := hm_.free 8
   have mf9 := hm_.free 9
   have ry := hr_.lt
   have my := hm_.lt
   have hne4 : w.heap.size + 1 + 1 + 1 ≠ w.heap.size := by omega
   have hne5 : w.heap.size + 1 + 1 + 1 ≠ w.heap.size + 1 := by omega
   have hne6 : w.heap.size + 1 + 1 + 1 ≠ w.heap.size + 1 + 1 + 1 + 1 := by omega
   have HNa := Lib.hid (HN.out.apart5 hne1 (.bool up) (.int .i64 mt) (.bool false) (.bool alone) (.slice (some ad) ops.length c))
   have HPa := Lib.hid (HP.out.apart5 hne2 (.bool up) (.int .i64 mt) (.bool false) (.bool alone) (.slice (some ad) ops.length c))
   have HHa := Lib.hid (HH.out.apart5 hne3 (.bool up) (.int .i64 mt) (.bool false) (.bool alone) (.slice (some ad) ops.length c))
   have HNb := Lib.hid (Blk.apartS hne4 [.int .i64 2, .int .i64 (3 - id), .int .i64 mt, .int .i64 (k + 1), .int .i64 0, .string ⟨#[]⟩, .string ⟨#[]⟩, .int .i64 0, .string ⟨#[]⟩, .slice none 0 0] 0 HNa.out)
   have HPb := Lib.hid (Blk.apartS hne5 [.int .i64 2, .int .i64 (3 - id), .int .i64 mt, .int .i64 (k + 1), .int .i64 0, .string ⟨#[]⟩, .string ⟨#[]⟩, .int .i64 0, .string ⟨#[]⟩, .slice none 0 0] 0 HPa.out)
   have HHb := Lib.hid (Blk.apartS hne6 [.int .i64 2, .int .i64 (3 - id), .int .i64 mt, .int .i64 (k + 1), .int .i64 0, .string ⟨#[]⟩, .string ⟨#[]⟩, .int .i64 0, .string ⟨#[]⟩, .slice none 0 0] 0 HHa.out)
   have hMa := Blk.apartS (show w.heap.size + 1 + 1 ≠ w.heap.size + 1 + 1 + 1 by omega) [.bool up, .int .i64 mt, .bool false, .bool alone, .slice (some ad) ops.length c] 0 hM
   have HTb := Lib.hid ((HT0.out.far5 hR (.bool up) (.int .i64 mt) (.bool false) (.bool alone) (.slice (some ad) ops.length c)).sets hMa (by decide) [.int .i64 2, .int .i64 (3 - id), .int .i64 mt, .int .i64 (k + 1), .int .i64 0, .string ⟨#[]⟩, .string ⟨#[]⟩, .int .i64 0, .string ⟨#[]⟩, .slice none 0 0])
   have HE3 := Lib.hid (op_cells (HTb.out.bel (Below.refl _ _).drew).reads2 hx)
   clear hx
   refine start_ (n := 15) (S := fun w' => w'.cell? ⟨w.heap.size, 0, none⟩ = some (.bool up) ∧ w'.cell? ⟨w.heap.size, 1, none⟩ = some (.int .i64 mt) ∧ w'.cell? ⟨w.heap.size, 2, none⟩ = some (.bool false) ∧ w'.cell? ⟨w.heap.size, 3, none⟩ = some (.bool alone) ∧ w'.cell? ⟨w.heap.size, 4, none⟩ = some (.slice (some ad) ops.length c) ∧ w'.cell? ⟨w.heap.size + 1, 3, none⟩ = some (.int .i64 (k + 1)) ∧ w'.cell? ⟨w.heap.size + 1, 4, none⟩ = some (.int .i64 op.kind) ∧ w'.cell? ⟨w.heap.size + 1, 5, none⟩ = some (.string op.name) ∧ w'.cell? ⟨w.heap.size + 1, 6, none⟩ = some (.string op.dest) ∧ w'.cell? ⟨w.heap.size + 1, 7, none⟩ = some (.int .i64 op.n) ∧ w'.cell? ⟨w.heap.size + 1, 8, none⟩ = some (.string op.text) ∧ w'.cell? ⟨w.heap.size + 1 + 1 + 1 + 1, 0, none⟩ = some (.int .i64 2) ∧ w'.cell? ⟨w.heap.size + 1 + 1 + 1 + 1, 1, none⟩ = some (.int .i64 (3 - id)) ∧ w'.cell? ⟨w.heap.size + 1 + 1 + 1 + 1, 2, none⟩ = some (.int .i64 mt) ∧ w'.cell? ⟨w.heap.size + 1 + 1 + 1 + 1, 3, none⟩ = some (.int .i64 (k + 1)) ∧ w'.cell? ⟨w.heap.size + 1 + 1 + 1 + 1, 4, none⟩ = some (.int .i64 0) ∧ w'.cell? ⟨w.heap.size + 1 + 1 + 1 + 1, 5, none⟩ = some (.string ⟨#[]⟩) ∧ w'.cell? ⟨w.heap.size + 1 + 1 + 1 + 1, 6, none⟩ = some (.string ⟨#[]⟩) ∧ w'.cell? ⟨w.heap.size + 1 + 1 + 1 + 1, 7, none⟩ = some (.int .i64 0) ∧ w'.cell? ⟨w.heap.size + 1 + 1 + 1 + 1, 8, none⟩ = some (.string ⟨#[]⟩) ∧ w'.cell? ⟨w.heap.size + 1 + 1 + 1 + 1, 9, none⟩ = some (.slice none 0 0) ∧ w'.cell? (ad.add (k * 5)) = some (.int .i64 x.kind) ∧ w'.cell? ⟨(ad.add (k * 5)).block, (ad.add (k * 5)).off + 1, none⟩ = some (.string x.name) ∧ w'.cell? ⟨(ad.add (k * 5)).block, (ad.add (k * 5)).off + 2, none⟩ = some (.string x.dest) ∧ w'.cell? ⟨(ad.add (k * 5)).block, (ad.add (k * 5)).off + 3, none⟩ = some (.int .i64 x.n) ∧ w'.cell? ⟨(ad.add (k * 5)).block, (ad.add (k * 5)).off + 4, none⟩ = some (.string x.text)) (ds := []) #[bF, bF, bF, bF, bF, bF, bF, bF, bF, bF, bF, bF, bF, bF, bF] (by kernel_rfl) rfl rfl ⟨(blkn (HN.out.bel (Below.refl _ _).drew) 0 _ rfl), (blkn (HN.out.bel (Below.refl _ _).drew) 1 _ rfl), (blkn (HN.out.bel (Below.refl _ _).drew) 2 _ rfl), (blkn (HN.out.bel (Below.refl _ _).drew) 3 _ rfl), (blkn (HN.out.bel (Below.refl _ _).drew) 4 _ rfl), (blkn (HP.out.bel (Below.refl _ _).drew) 3 _ rfl), (blkn (HP.out.bel (Below.refl _ _).drew) 4 _ rfl), (blkn (HP.out.bel (Below.refl _ _).drew) 5 _ rfl), (blkn (HP.out.bel (Below.refl _ _).drew) 6 _ rfl), (blkn (HP.out.bel (Below.refl _ _).drew) 7 _ rfl), (blkn (HP.out.bel (Below.refl _ _).drew) 8 _ rfl), (blkn (HH.out.bel (Below.refl _ _).drew) 0 _ rfl), (blkn (HH.out.bel (Below.refl _ _).drew) 1 _ rfl), (blkn (HH.out.bel (Below.refl _ _).drew) 2 _ rfl), (blkn (HH.out.bel (Below.refl _ _).drew) 3 _ rfl), (blkn (HH.out.bel (Below.refl _ _).drew) 4 _ rfl), (blkn (HH.out.bel (Below.refl _ _).drew) 5 _ rfl), (blkn (HH.out.bel (Below.refl _ _).drew) 6 _ rfl), (blkn (HH.out.bel (Below.refl _ _).drew) 7 _ rfl), (blkn (HH.out.bel (Below.refl _ _).drew) 8 _ rfl), (blkn (HH.out.bel (Below.refl _ _).drew) 9 _ rfl), HE.out.1, HE.out.2.1, HE.out.2.2.1, HE.out.2.2.2.1, HE.out.2.2.2.2⟩ (fun hHeld => ?_)
   refine ppx (i := 2) (N := some 40) #[bF, bF, bT, bF, bF, bF, bF, bF, bF, bF, bF, bF, bF, bF, bF] (h := ?_)
   refine ppx (i := 4) (N := some 42) #[bF, bF, bT, bF, bT, bF, bF, bF, bF, bF, bF, bF, bF, bF, bF] (h := ?_)
   refine ppx (i := 9) (N := some 47) #[bF, bF, bT, bF, bT, bF, bF, bF, bF, bT, bF, bF, bF, bF, bF] (h := ?_)
   refine tpx (i := 0) (N := some 38) #[bT, bF, bT, bF, bT, bF, bF, bF, bF, bT, bF, bF, bF, bF, bF] (hy := (Or.inl ⟨by rfl, by rintro w' ⟨s0, s1, s2, s3, s4, s5, s6, s7, s8, s9, s10, s11, s12, s13, s14, s15, s16, s17, s18, s19, s20, s21, s22, s23, s24, s25⟩; go_simp; with_reducible rfl⟩)) (hS := hHeld) (h := ?_)
   refine tpx (i := 1) (N := some 39) #[bT, bT, bT, bF, bT, bF, bF, bF, bF, bT, bF, bF, bF, bF, bF] (hy := (Or.inl ⟨by rfl, by rintro w' ⟨s0, s1, s2, s3, s4, s5, s6, s7, s8, s9, s10, s11, s12, s13, s14, s15, s16, s17, s18, s19, s20, s21, s22, s23, s24, s25⟩; go_simp; with_reducible rfl⟩)) (hS := hHeld) (h := ?_)
   refine tpx (i := 3) (N := some 41) #[bT, bT, bT, bT, bT, bF, bF, bF, bF, bT, bF, bF, bF, bF, bF] (hy := (Or.inl ⟨by rfl, by rintro w' ⟨s0, s1, s2, s3, s4, s5, s6, s7, s8, s9, s10, s11, s12, s13, s14, s15, s16, s17, s18, s19, s20, s21, s22, s23, s24, s25⟩; go_simp; with_reducible rfl⟩)) (hS := hHeld) (h := ?_)
   refine tpx (i := 5) (N := some 43) #[bT, bT, bT, bT, bT, bT, bF, bF, bF, bT, bF, bF, bF, bF, bF] (hy := (Or.inl ⟨by rfl, by rintro w' ⟨s0, s1, s2, s3, s4, s5, s6, s7, s8, s9, s10, s11, s12, s13, s14, s15, s16, s17, s18, s19, s20, s21, s22, s23, s24, s25⟩; go_simp; with_reducible rfl⟩)) (hS := hHeld) (h := ?_)
   refine ppx (i := 6) (N := some 44) #[bT, bT, bT, bT, bT, bT, bT, bF, bF, bT, bF, bF, bF, bF, bF] (h := ?_)
   refine ppx (i := 7) (N := some 45) #[bT, bT, bT, bT, bT, bT, bT, bT, bF, bT, bF, bF, bF, bF, bF] (h := ?_)
   refine tpx (i := 8) (N := some 46) #[bT, bT, bT, bT, bT, bT, bT, bT, bT, bT, bF, bF, bF, bF, bF] (hy := (Or.inl ⟨by rfl, by rintro w' ⟨s0, s1, s2, s3, s4, s5, s6, s7, s8, s9, s10, s11, s12, s13, s14, s15, s16, s17, s18, s19, s20, s21, s22, s23, s24, s25⟩; go_simp; with_reducible rfl⟩)) (hS := hHeld) (h := ?_)
   refine tpx (i := 10) (N := some 48) #[bT, bT, bT, bT, bT, bT, bT, bT, bT, bT, bT, bF, bF, bF, bF] (hy := (Or.inl ⟨by rfl, by rintro w' ⟨s0, s1, s2, s3, s4, s5, s6, s7, s8, s9, s10, s11, s12, s13, s14, s15, s16, s17, s18, s19, s20, s21, s22, s23, s24, s25⟩; go_simp; with_reducible rfl⟩)) (hS := hHeld) (h := ?_)
   refine pure_ (i := 11) (N := some 49) #[bT, bT, bT, bT, bT, bT, bT, bT, bT, bT, bT, bT, bF, bF, bF] rfl rfl (by kernel_rfl) (fun _ _ _ h => h) (Or.inl ⟨by rfl, by intro w'; go_simp; exact opEq_ifs HZ.out _⟩) (by simp only [Act.put, lA, lB, lC, i64_w, i32_w]; rfl) ?_
   refine one_ (i := 12) (N := none) #[bT, bT, bT, bT, bT, bT, bT, bT, bT, bT, bT, bT, bT, bF, bF] rfl rfl (by kernel_rfl) (by decide) (fun K hK => ?_)
   refine skip_ (by rfl) rfl (by go_simp; rfl) ?_
   refine hK.out _ _ ⟨(blkn (HNa.out.bel (Below.refl _ _).drew) 0 _ rfl), (blkn (HNa.out.bel (Below.refl _ _).drew) 1 _ rfl), (blkn (HNa.out.bel (Below.refl _ _).drew) 2 _ rfl), (blkn (HNa.out.bel (Below.refl _ _).drew) 3 _ rfl), (blkn (HNa.out.bel (Below.refl _ _).drew) 4 _ rfl), (blkn (HPa.out.bel (Below.refl _ _).drew) 3 _ rfl), (blkn (HPa.out.bel (Below.refl _ _).drew) 4 _ rfl), (blkn (HPa.out.bel (Below.refl _ _).drew) 5 _ rfl), (blkn (HPa.out.bel (Below.refl _ _).drew) 6 _ rfl), (blkn (HPa.out.bel (Below.refl _ _).drew) 7 _ rfl), (blkn (HPa.out.bel (Below.refl _ _).drew) 8 _ rfl), (blkn (HHa.out.bel (Below.refl _ _).drew) 0 _ rfl), (blkn (HHa.out.bel (Below.refl _ _).drew) 1 _ rfl), (blkn (HHa.out.bel (Below.refl _ _).drew) 2 _ rfl), (blkn (HHa.out.bel (Below.refl _ _).drew) 3 _ rfl), (blkn (HHa.out.bel (Below.refl _ _).drew) 4 _ rfl), (blkn (HHa.out.bel (Below.refl _ _).drew) 5 _ rfl), (blkn (HHa.out.bel (Below.refl _ _).drew) 6 _ rfl), (blkn (HHa.out.bel (Below.refl _ _).drew) 7 _ rfl), (blkn (HHa.out.bel (Below.refl _ _).drew) 8 _ rfl), (blkn (HHa.out.bel (Below.refl _ _).drew) 9 _ rfl), HE2.out.1, HE2.out.2.1, HE2.out.2.2.1, HE2.out.2.2.2.1, HE2.out.2.2.2.2⟩ (fun hHeld => ?_)
   clear hK K
   refine one_ (i := 13) (N := none) #[bT, bT, bT, bT, bT, bT, bT, bT, bT, bT, bT, bT, bT, bT, bF] rfl rfl (by kernel_rfl) (by decide) (fun K hK => ?_)
   refine skip_ (by rfl) rfl (by go_simp; rfl) ?_
   refine hK.out _ _ ⟨(blkn (HNb.out.bel (Below.refl _ _).drew) 0 _ rfl), (blkn (HNb.out.bel (Below.refl _ _).drew) 1 _ rfl), (blkn (HNb.out.bel (Below.refl _ _).drew) 2 _ rfl), (blkn (HNb.out.bel (Below.refl _ _).drew) 3 _ rfl), (blkn (HNb.out.bel (Below.refl _ _).drew) 4 _ rfl), (blkn (HPb.out.bel (Below.refl _ _).drew) 3 _ rfl), (blkn (HPb.out.bel (Below.refl _ _).drew) 4 _ rfl), (blkn (HPb.out.bel (Below.refl _ _).drew) 5 _ rfl), (blkn (HPb.out.bel (Below.refl _ _).drew) 6 _ rfl), (blkn (HPb.out.bel (Below.refl _ _).drew) 7 _ rfl), (blkn (HPb.out.bel (Below.refl _ _).drew) 8 _ rfl), (blkn (HHb.out.bel (Below.refl _ _).drew) 0 _ rfl), (blkn (HHb.out.bel (Below.refl _ _).drew) 1 _ rfl), (blkn (HHb.out.bel (Below.refl _ _).drew) 2 _ rfl), (blkn (HHb.out.bel (Below.refl _ _).drew) 3 _ rfl), (blkn (HHb.out.bel (Below.refl _ _).drew) 4 _ rfl), (blkn (HHb.out.bel (Below.refl _ _).drew) 5 _ rfl), (blkn (HHb.out.bel (Below.refl _ _).drew) 6 _ rfl), (blkn (HHb.out.bel (Below.refl _ _).drew) 7 _ rfl), (blkn (HHb.out.bel (Below.refl _ _).drew) 8 _ rfl), (blkn (HHb.out.bel (Below.refl _ _).drew) 9 _ rfl), HE3.out.1, HE3.out.2.1, HE3.out.2.2.1, HE3.out.2.2.2.1, HE3.out.2.2.2.2⟩ (fun hHeld => ?_)
   clear hK K
   refine ppx (i := 14) (N := some 8) #[bT, bT, bT, bT, bT, bT, bT, bT, bT, bT, bT, bT, bT, bT, bT] (h := ?_)
   refine done_ (by kernel_rfl) ?_
   go_wp2
   have h2 := two_new (v1 := [.bool up, .int .i64 mt, .bool false, .bool alone, .slice (some ad) ops.length c]) (v2 := [.int .i64 2, .int .i64 (3 - id), .int .i64 mt, .int .i64 (k + 1), .int .i64 0, .string ⟨#[]⟩, .string ⟨#[]⟩, .int .i64 0, .string ⟨#[]⟩, .slice none 0 0]) rfl hr_ hm_ (show w.heap.size + 1 + 1 ≠ w.heap.size + 1 + 1 + 1 by omega) rfl rfl (by decide) (by decide)
   refine bodyPost_ret (results_list (rs := [.cell 6 25, .cell 7 29, .tmp 8]) rfl (by simp) (.cell _ 25 _ (0, 0) _ rfl (h2.b1.bel bel_drew) Tryz.underlying25 rfl (by kernel_rfl) (.cell _ 29 _ (0, 0) _ rfl (h2.b2.bel bel_drew) Tryz.underlying29 rfl (by kernel_rfl) (.tmp .nil)))) rfl ?_
   exact ⟨_, rfl, (h2.ownT HT0.out).bel bel_drew, grown_tr (h2.grown (grown_of_bel hW (Value.slice (some ad) ops.length c).ownBlock) (by omega) (by omega)) (grown_of_bel bel_drew _), .inl rfl, fun _ => rfl⟩
  ·rw [if_neg c2] at hz hxn hxm
   by_cases c3 : (ops.length : Int) + 1 < mn
   ·rw [if_pos c3] at hz hxn hxm
    obtain rfl := hz
    obtain rfl := hxn
    obtain rfl := hxm
    go_wp2
    have hA := (allocs5 w #[.bool up, .int .i64 mt, .bool false, .bool alone, .slice A ops.length c] #[.int .i64 kind, .int .i64 whom, .int .i64 mt, .int .i64 mn, .int .i64 op.kind, .string op.name, .string op.dest, .int .i64 op.n, .string op.text, .slice B bn bc] #[.bool up, .int .i64 mt, .bool false, .bool alone, .slice A ops.length c] #[.int .i64 0, .int .i64 0, .int .i64 0, .int .i64 0, .int .i64 0, .string ⟨#[]⟩, .string ⟨#[]⟩, .int .i64 0, .string ⟨#[]⟩, .slice none 0 0] #[.int .i64 2, .int .i64 (3 - id), .int .i64 mt, .int .i64 mn, .int .i64 0, .string ⟨#[]⟩, .string ⟨#[]⟩, .int .i64 0, .string ⟨#[]⟩, .slice none 0 0] 25 29 25 29 29)
    refine bodyPost_ret (results_list (rs := [.cell 6 25, .cell 7 29, .tmp 8]) rfl (by simp) (.cell (w.heap.size + 1 + 1) 25 #[.bool up, .int .i64 mt, .bool false, .bool alone, .slice A ops.length c] (0, 0) _ rfl hA.2.2.2.1 Tryz.underlying25 rfl (by kernel_rfl) (.cell (w.heap.size + 1 + 1 + 1) 29 #[.int .i64 0, .int .i64 0, .int .i64 0, .int .i64 0, .int .i64 0, .string ⟨#[]⟩, .string ⟨#[]⟩, .int .i64 0, .string ⟨#[]⟩, .slice none 0 0] (0, 0) _ rfl hA.2.2.2.2.1 Tryz.underlying29 rfl (by kernel_rfl) (.tmp .nil)))) rfl ?_
    exact ⟨_, rfl, HT.out.bel hA.1, grown_of_bel hA.1 _, .inl rfl, fun _ => rfl⟩
   ·rw [if_neg c3] at hz hxn hxm
    obtain rfl := hxm
    have HZ := Lib.hid hz
    have HXN := Lib.hid hxn
    clear hz hxn
    go_wp2_with fail
    obtain ⟨hW, hN, hP, hR, hM, hH⟩ := allocs5 w #[.bool up, .int .i64 mt, .bool false, .bool alone, .slice A ops.length c] #[.int .i64 kind, .int .i64 whom, .int .i64 mt, .int .i64 mn, .int .i64 op.kind, .string op.name, .string op.dest, .int .i64 op.n, .string op.text, .slice B bn bc] #[.bool false, .int .i64 0, .bool false, .bool false, .slice none 0 0] #[.int .i64 0, .int .i64 0, .int .i64 0, .int .i64 0, .int .i64 0, .string ⟨#[]⟩, .string ⟨#[]⟩, .int .i64 0, .string ⟨#[]⟩, .slice none 0 0] #[.int .i64 2, .int .i64 (3 - id), .int .i64 mt, .int .i64 mn, .int .i64 0, .string ⟨#[]⟩, .string ⟨#[]⟩, .int .i64 0, .string ⟨#[]⟩, .slice none 0 0] 25 29 25 29 29
    generalize (((((w.alloc (.cells #[.bool up, .int .i64 mt, .bool false, .bool alone, .slice A ops.length c] 25)).alloc (.cells #[.int .i64 kind, .int .i64 whom, .int .i64 mt, .int .i64 mn, .int .i64 op.kind, .string op.name, .string op.dest, .int .i64 op.n, .string op.text, .slice B bn bc] 29)).alloc (.cells #[.bool false, .int .i64 0, .bool false, .bool false, .slice none 0 0] 25)).alloc (.cells #[.int .i64 0, .int .i64 0, .int .i64 0, .int .i64 0, .int .i64 0, .string ⟨#[]⟩, .string ⟨#[]⟩, .int .i64 0, .string ⟨#[]⟩, .slice none 0 0] 29)).alloc (.cells #[.int .i64 2, .int .i64 (3 - id), .int .i64 mt, .int .i64 mn, .int .i64 0, .string ⟨#[]⟩, .string ⟨#[]⟩, .int .i64 0, .string ⟨#[]⟩, .slice none 0 0] 29)) = W0 at hW hN hP hR hM hH ⊢
    have HN := Lib.hid hN
    have HP := Lib.hid hP
    have HR := Lib.hid hR
    have HM := Lib.hid hM
    have HH := Lib.hid hH
    have HW := Lib.hid hW
    have hr_ := hR
    have hm_ := hM
    have hT0 := HT.out.bel hW
    have HT0 := Lib.hid hT0
    have hadd := l21Add_c (n := ⟨up, mt, false, alone, ops⟩) (o := op) hT0 (Nat.le_trans HBS.out hW.size) HO.out HSO.out HRX.out
    rw [HZ.out, HXN.out] at hadd
    clear hN hP hR hM hH hW hr_ hm_ hT0
    refine hadd.mono ?_
    rintro e w1 ⟨v, rfl, hv, hg, hat, hvf⟩
    have HR1 := Lib.hid (HR.out.grown hg (blk_otherT HT0.out HR.out (by decide)))
    have HM1 := Lib.hid (HM.out.grown hg (blk_otherT HT0.out HM.out (by decide)))
    have HH1 := Lib.hid (HH.out.grown hg (blk_otherT HT0.out HH.out (by decide)))
    have HG1 := Lib.hid (grown_tr (grown_of_bel HW.out (Value.slice A ops.length c).ownBlock) hg)
    have HAT := Lib.hid (show v.ownBlock = (Value.slice A ops.length c).ownBlock ∨ ∃ b, v.ownBlock = some b ∧ w.heap.size ≤ b from hat.imp (fun h => h) (fun ⟨b, h1, h2⟩ => ⟨b, h1, Nat.le_trans HW.out.size h2⟩))
    have HVF := Lib.hid hvf
    have HV1 := Lib.hid hv
    obtain ⟨C4, c4, rfl, hc4, hC4⟩ := hv.reads
    have LH := Lib.hid HH1.out.lt
    clear hg hat hadd hv hvf hc4 hC4 HN HP HR HM HH HW HZ HXN
    go_wp2
    have hX : Blk (w1.alloc (.cells #[.bool xn.up, .int .i64 xn.term, .bool xn.leads, .bool xn.alone, .slice C4 xn.ops.length c4] 25)) w1.heap.size #[.bool xn.up, .int .i64 xn.term, .bool xn.leads, .bool xn.alone, .slice C4 xn.ops.length c4] 25 := Blk.new _ _ _
    have hbx : Bel w1 (w1.alloc (.cells #[.bool xn.up, .int .i64 xn.term, .bool xn.leads, .bool xn.alone, .slice C4 xn.ops.length c4] 25)) := bel_alloc (Below.refl _ _) _
    have hR2 := HR1.out.bel hbx
    have hM2 := HM1.out.bel hbx
    have hH2 := HH1.out.bel hbx
    have hV2 := HV1.out.bel hbx
    have hG2 := grown_tr HG1.out (grown_of_bel hbx _)
    generalize (w1.alloc (.cells #[.bool xn.up, .int .i64 xn.term, .bool xn.leads, .bool xn.alone, .slice C4 xn.ops.length c4] 25)) = W2 at hX hbx hR2 hM2 hH2 hV2 hG2 ⊢
    obtain ⟨nb, hnb⟩ : ∃ nb, w1.heap.size = nb := ⟨_, rfl⟩
    have hlt := LH.out
    rw [hnb] at hX hlt ⊢
    have HX := Lib.hid hX
    have HH := Lib.hid hH2
    have hne1 : w.heap.size + 1 + 1 ≠ nb := by omega
    have hne2 : w.heap.size + 1 + 1 ≠ w.heap.size + 1 + 1 + 1 + 1 := by omega
    have hne3 : w.heap.size + 1 + 1 + 1 ≠ nb := by omega
    have hne4 : w.heap.size + 1 + 1 + 1 ≠ w.heap.size + 1 + 1 + 1 + 1 := by omega
    have HXa := Lib.hid (HX.out.apart5 hne1 (.bool xn.up) (.int .i64 xn.term) (.bool xn.leads) (.bool xn.alone) (.slice C4 xn.ops.length c4))
    have HHa := Lib.hid (HH.out.apart5 hne2 (.bool xn.up) (.int .i64 xn.term) (.bool xn.leads) (.bool xn.alone) (.slice C4 xn.ops.length c4))
    have HXb := Lib.hid (Blk.apartS hne3 [.int .i64 2, .int .i64 (3 - id), .int .i64 mt, .int .i64 mn, .int .i64 0, .string ⟨#[]⟩, .string ⟨#[]⟩, .int .i64 0, .string ⟨#[]⟩, .slice none 0 0] 0 HXa.out)
    have HHb := Lib.hid (Blk.apartS hne4 [.int .i64 2, .int .i64 (3 - id), .int .i64 mt, .int .i64 mn, .int .i64 0, .string ⟨#[]⟩, .string ⟨#[]⟩, .int .i64 0, .string ⟨#[]⟩, .slice none 0 0] 0 HHa.out)
    have hr_ := hR2
    have hm_ := hM2
    have r0 := blkn hr_ 0 _ rfl
    have r1 := blkn hr_ 1 _ rfl
    have r2 := blkn hr_ 2 _ rfl
    have r3 := blkn hr_ 3 _ rfl
    have r4 := blkn hr_ 4 _ rfl
    have m0 := blkn hm_ 0 _ rfl
    have m1 := blkn hm_ 1 _ rfl
    have m2 := blkn hm_ 2 _ rfl
    have m3 := blkn hm_ 3 _ rfl
    have m4 := blkn hm_ 4 _ rfl
    have m5 := blkn hm_ 5 _ rfl
    have m6 := blkn hm_ 6 _ rfl
    have m7 := blkn hm_ 7 _ rfl
    have m8 := blkn hm_ 8 _ rfl
    have m9 := blkn hm_ 9 _ rfl
    have rf0 := hr_.free 0
    have rf1 := hr_.free 1
    have rf2 := hr_.free 2
    have rf3 := hr_.free 3
    have rf4 := hr_.free 4
    have mf0 := hm_.free 0
    have mf1 := hm_.free 1
    have mf2 := hm_.free 2
    have mf3 := hm_.free 3
    have mf4 := hm_.free 4
    have mf5 := hm_.free 5
    have mf6 := hm_.free 6
    have mf7 := hm_.free 7
    have mf8 := hm_.free 8
    have mf9 := hm_.free 9
    have ry := hr_.lt
    have my := hm_.lt
    clear hbx hH2 hX hnb hlt HR1 HM1 HH1 HV1 HG1 LH
    refine start_ (n := 6) (S := fun w' => w'.cell? ⟨nb, 0, none⟩ = some (.bool xn.up) ∧ w'.cell? ⟨nb, 1, none⟩ = some (.int .i64 xn.term) ∧ w'.cell? ⟨nb, 2, none⟩ = some (.bool xn.leads) ∧ w'.cell? ⟨nb, 3, none⟩ = some (.bool xn.alone) ∧ w'.cell? ⟨nb, 4, none⟩ = some (.slice C4 xn.ops.length c4) ∧ w'.cell? ⟨w.heap.size + 1 + 1 + 1 + 1, 0, none⟩ = some (.int .i64 2) ∧ w'.cell? ⟨w.heap.size + 1 + 1 + 1 + 1, 1, none⟩ = some (.int .i64 (3 - id)) ∧ w'.cell? ⟨w.heap.size + 1 + 1 + 1 + 1, 2, none⟩ = some (.int .i64 mt) ∧ w'.cell? ⟨w.heap.size + 1 + 1 + 1 + 1, 3, none⟩ = some (.int .i64 mn) ∧ w'.cell? ⟨w.heap.size + 1 + 1 + 1 + 1, 4, none⟩ = some (.int .i64 0) ∧ w'.cell? ⟨w.heap.size + 1 + 1 + 1 + 1, 5, none⟩ = some (.string ⟨#[]⟩) ∧ w'.cell? ⟨w.heap.size + 1 + 1 + 1 + 1, 6, none⟩ = some (.string ⟨#[]⟩) ∧ w'.cell? ⟨w.heap.size + 1 + 1 + 1 + 1, 7, none⟩ = some (.int .i64 0) ∧ w'.cell? ⟨w.heap.size + 1 + 1 + 1 + 1, 8, none⟩ = some (.string ⟨#[]⟩) ∧ w'.cell? ⟨w.heap.size + 1 + 1 + 1 + 1, 9, none⟩ = some (.slice none 0 0)) (ds := []) #[bF, bF, bF, bF, bF, bF] (by kernel_rfl) rfl rfl ⟨(blkn (HX.out.bel (Below.refl _ _).drew) 0 _ rfl), (blkn (HX.out.bel (Below.refl _ _).drew) 1 _ rfl), (blkn (HX.out.bel (Below.refl _ _).drew) 2 _ rfl), (blkn (HX.out.bel (Below.refl _ _).drew) 3 _ rfl), (blkn (HX.out.bel (Below.refl _ _).drew) 4 _ rfl), (blkn (HH.out.bel (Below.refl _ _).drew) 0 _ rfl), (blkn (HH.out.bel (Below.refl _ _).drew) 1 _ rfl), (blkn (HH.out.bel (Below.refl _ _).drew) 2 _ rfl), (blkn (HH.out.bel (Below.refl _ _).drew) 3 _ rfl), (blkn (HH.out.bel (Below.refl _ _).drew) 4 _ rfl), (blkn (HH.out.bel (Below.refl _ _).drew) 5 _ rfl), (blkn (HH.out.bel (Below.refl _ _).drew) 6 _ rfl), (blkn (HH.out.bel (Below.refl _ _).drew) 7 _ rfl), (blkn (HH.out.bel (Below.refl _ _).drew) 8 _ rfl), (blkn (HH.out.bel (Below.refl _ _).drew) 9 _ rfl)⟩ (fun hHeld => ?_)
    refine ppx (i := 2) (N := some 69) #[bF, bF, bT, bF, bF, bF] (h := ?_)
    refine tpx (i := 0) (N := some 67) #[bT, bF, bT, bF, bF, bF] (hy := (Or.inl ⟨by rfl, by rintro w' ⟨s0, s1, s2, s3, s4, s5, s6, s7, s8, s9, s10, s11, s12, s13, s14⟩; go_simp; with_reducible rfl⟩)) (hS := hHeld) (h := ?_)
    refine tpx (i := 1) (N := some 68) #[bT, bT, bT, bF, bF, bF] (hy := (Or.inl ⟨by rfl, by rintro w' ⟨s0, s1, s2, s3, s4, s5, s6, s7, s8, s9, s10, s11, s12, s13, s14⟩; go_simp; with_reducible rfl⟩)) (hS := hHeld) (h := ?_)
    refine one_ (i := 3) (N := none) #[bT, bT, bT, bT, bF, bF] rfl rfl (by kernel_rfl) (by decide) (fun K hK => ?_)
    refine skip_ (by rfl) rfl (by go_simp; rfl) ?_
    refine hK.out _ _ ⟨(blkn (HXa.out.bel (Below.refl _ _).drew) 0 _ rfl), (blkn (HXa.out.bel (Below.refl _ _).drew) 1 _ rfl), (blkn (HXa.out.bel (Below.refl _ _).drew) 2 _ rfl), (blkn (HXa.out.bel (Below.refl _ _).drew) 3 _ rfl), (blkn (HXa.out.bel (Below.refl _ _).drew) 4 _ rfl), (blkn (HHa.out.bel (Below.refl _ _).drew) 0 _ rfl), (blkn (HHa.out.bel (Below.refl _ _).drew) 1 _ rfl), (blkn (HHa.out.bel (Below.refl _ _).drew) 2 _ rfl), (blkn (HHa.out.bel (Below.refl _ _).drew) 3 _ rfl), (blkn (HHa.out.bel (Below.refl _ _).drew) 4 _ rfl), (blkn (HHa.out.bel (Below.refl _ _).drew) 5 _ rfl), (blkn (HHa.out.bel (Below.refl _ _).drew) 6 _ rfl), (blkn (HHa.out.bel (Below.refl _ _).drew) 7 _ rfl), (blkn (HHa.out.bel (Below.refl _ _).drew) 8 _ rfl), (blkn (HHa.out.bel (Below.refl _ _).drew) 9 _ rfl)⟩ (fun hHeld => ?_)
    clear hK K
    refine one_ (i := 4) (N := none) #[bT, bT, bT, bT, bT, bF] rfl rfl (by kernel_rfl) (by decide) (fun K hK => ?_)
    refine skip_ (by rfl) rfl (by go_simp; rfl) ?_
    refine hK.out _ _ ⟨(blkn (HXb.out.bel (Below.refl _ _).drew) 0 _ rfl), (blkn (HXb.out.bel (Below.refl _ _).drew) 1 _ rfl), (blkn (HXb.out.bel (Below.refl _ _).drew) 2 _ rfl), (blkn (HXb.out.bel (Below.refl _ _).drew) 3 _ rfl), (blkn (HXb.out.bel (Below.refl _ _).drew) 4 _ rfl), (blkn (HHb.out.bel (Below.refl _ _).drew) 0 _ rfl), (blkn (HHb.out.bel (Below.refl _ _).drew) 1 _ rfl), (blkn (HHb.out.bel (Below.refl _ _).drew) 2 _ rfl), (blkn (HHb.out.bel (Below.refl _ _).drew) 3 _ rfl), (blkn (HHb.out.bel (Below.refl _ _).drew) 4 _ rfl), (blkn (HHb.out.bel (Below.refl _ _).drew) 5 _ rfl), (blkn (HHb.out.bel (Below.refl _ _).drew) 6 _ rfl), (blkn (HHb.out.bel (Below.refl _ _).drew) 7 _ rfl), (blkn (HHb.out.bel (Below.refl _ _).drew) 8 _ rfl), (blkn (HHb.out.bel (Below.refl _ _).drew) 9 _ rfl)⟩ (fun hHeld => ?_)
    clear hK K
    refine ppx (i := 5) (N := some 8) #[bT, bT, bT, bT, bT, bT] (h := ?_)
    refine done_ (by kernel_rfl) ?_
    go_wp2
    have h2 := two_new (v1 := [.bool xn.up, .int .i64 xn.term, .bool xn.leads, .bool xn.alone, .slice C4 xn.ops.length c4]) (v2 := [.int .i64 2, .int .i64 (3 - id), .int .i64 mt, .int .i64 mn, .int .i64 0, .string ⟨#[]⟩, .string ⟨#[]⟩, .int .i64 0, .string ⟨#[]⟩, .slice none 0 0]) rfl hr_ hm_ (show w.heap.size + 1 + 1 ≠ w.heap.size + 1 + 1 + 1 by omega) rfl rfl (by decide) (by decide)
    refine bodyPost_ret (results_list (rs := [.cell 6 25, .cell 7 29, .tmp 8]) rfl (by simp) (.cell _ 25 _ (0, 0) _ rfl (h2.b1.bel bel_drew) Tryz.underlying25 rfl (by kernel_rfl) (.cell _ 29 _ (0, 0) _ rfl (h2.b2.bel bel_drew) Tryz.underlying29 rfl (by kernel_rfl) (.tmp .nil)))) rfl ?_
    exact ⟨_, rfl, (h2.ownT hV2).bel bel_drew, grown_tr (h2.grown hG2 (by omega) (by omega)) (grown_of_bel bel_drew _), HAT.out, HVF.out⟩
end
end Go.Proofs.YtccllgpaafgjaaaGreat

namespace Go.Proofs.YtccllgpaafgjaaaGreat
open Go.RowKit Go.Proofs.YtccllgpaafgjaaaGreatW.PrintWords Go.Proofs.YtccllgpaafgjaaaGreatW.PrintLast
theorem allocs4 (w : World) (c0 c1 c2 c3 : Array Value) (t0 t1 t2 t3 : TypeId) :
  Bel w ((((w.alloc (.cells c0 t0)).alloc (.cells c1 t1)).alloc (.cells c2 t2)).alloc (.cells c3 t3)) ∧
  Blk ((((w.alloc (.cells c0 t0)).alloc (.cells c1 t1)).alloc (.cells c2 t2)).alloc (.cells c3 t3)) w.heap.size c0 t0 ∧
  Blk ((((w.alloc (.cells c0 t0)).alloc (.cells c1 t1)).alloc (.cells c2 t2)).alloc (.cells c3 t3)) (w.heap.size + 1) c1 t1 ∧
  Blk ((((w.alloc (.cells c0 t0)).alloc (.cells c1 t1)).alloc (.cells c2 t2)).alloc (.cells c3 t3)) (w.heap.size + 1 + 1) c2 t2 ∧
  Blk ((((w.alloc (.cells c0 t0)).alloc (.cells c1 t1)).alloc (.cells c2 t2)).alloc (.cells c3 t3)) (w.heap.size + 1 + 1 + 1) c3 t3 := by
 refine ⟨bel_alloc (bel_alloc (bel_alloc (bel_alloc (Below.refl _ _) _) _) _) _, (((Blk.new _ _ _).alloc _).alloc _).alloc _, ((Blk.nw2 w _ _ _).alloc _).alloc _, ?_, ?_⟩
 ·have := Blk.new ((w.alloc (.cells c0 t0)).alloc (.cells c1 t1)) c2 t2
  simpa using this.alloc _
 ·have := Blk.new (((w.alloc (.cells c0 t0)).alloc (.cells c1 t1)).alloc (.cells c2 t2)) c3 t3
  simpa using this
def nayB (n : Node) (kind mt : Int) : Bool := decide (kind ≠ 3) || (decide (mt < n.term) || (decide (mt = n.term) && n.leads))
def hearN (n : Node) (m : Msg) : Node := if m.kind = 1 then copN n m.term m.n m.op else if nayB n m.kind m.term then n else if n.term < m.term ∨ (n.ops.length : Int) < m.n then ⟨n.up, m.term, false, false, m.ops⟩ else n
def hearB (n : Node) (m : Msg) : Bool := if m.kind = 1 then copB n m.term m.n m.op else !nayB n m.kind m.term
def hearM (n : Node) (id : Int) (m : Msg) : Msg := if m.kind = 1 then (if copB n m.term m.n m.op then copM n id m.term m.n else noM) else if nayB n m.kind m.term then noM else ⟨4, 3 - id, (hearN n m).term, (hearN n m).ops.length, noO, []⟩
def HeardN (base : Nat) (w : World) (n : Node) (m : Msg) (v0 : Value) (ok : Bool) (e : Ending) (w' : World) : Prop :=
 ∃ v, e = .returned (.tuple #[.agg #[.bool n.up, .int .i64 n.term, .bool n.leads, .bool n.alone, v], .agg #[.int .i64 m.kind, .int .i64 m.whom, .int .i64 m.term, .int .i64 m.n, .int .i64 m.op.kind, .string m.op.name, .string m.op.dest, .int .i64 m.op.n, .string m.op.text, .slice none 0 0], .bool ok]) ∧ OwnT w' base v n.ops ∧ w.grownBy w' v0.ownBlock ∧ ∀ k, v.ownBlock = some k → v0.ownBlock = some k ∨ w.heap.size ≤ k
section
variable {w : World} {A B : Option Addr} {c base bc : Nat} {up leads alone : Bool} {kind whom mt mn term id : Int} {ops mops : List Op} {op : Op}
set_option maxHeartbeats 64000000 in
set_option maxRecDepth 10000 in
theorem l21Hear_f {q : Pool} (h : OwnT w base (.slice A ops.length c) ops) (hbase : base ≤ w.heap.size) (ho : SmallOs ops) (hso : SmallO op) (hC : kOp.C w B mops.length mops) (hlm : mops.length ≤ 1048576) (hid : id = 1 ∨ id = 2) (hr : runP newP ops = some q) (hmn : kind = 1 → 1 ≤ mn ∧ mn ≤ 20) :
  Calls Tryz.prog 91 #[.agg #[.bool up, .int .i64 term, .bool leads, .bool alone, .slice A ops.length c], .int .i64 id, .agg #[.int .i64 kind, .int .i64 whom, .int .i64 mt, .int .i64 mn, .int .i64 op.kind, .string op.name, .string op.dest, .int .i64 op.n, .string op.text, .slice B mops.length bc]] w (HeardN base w (hearN ⟨up, term, leads, alone, ops⟩ ⟨kind, whom, mt, mn, op, mops⟩) (hearM ⟨up, term, leads, alone, ops⟩ id ⟨kind, whom, mt, mn, op, mops⟩) (.slice A ops.length c) (hearB ⟨up, term, leads, alone, ops⟩ ⟨kind, whom, mt, mn, op, mops⟩)) := by
 have HT := Lib.hid h
 have HBS := Lib.hid hbase
 have HO := Lib.hid ho
 have HSO := Lib.hid hso
 have HMC := Lib.hid hC
 have HRX := Lib.hid hr
 have HID := Lib.hid hid
 have hl9 := ho.len
 have hid3 : wrap64 (3 - id) = 3 - id := by have h3 := HID.out; unfold wrap64; omega
 by_cases k1 : kind = 1
 ·subst k1
  have HMN := Lib.hid (hmn rfl)
  obtain ⟨z, hz⟩ : ∃ z, copB ⟨up, term, leads, alone, ops⟩ mt mn op = z := ⟨_, rfl⟩
  obtain ⟨xn, hxn⟩ : ∃ x, copN ⟨up, term, leads, alone, ops⟩ mt mn op = x := ⟨_, rfl⟩
  obtain ⟨xm, hxm⟩ : ∃ x, copM ⟨up, term, leads, alone, ops⟩ id mt mn = x := ⟨_, rfl⟩
  have e1 : hearN ⟨up, term, leads, alone, ops⟩ ⟨1, whom, mt, mn, op, mops⟩ = xn := hxn
  have e2 : hearB ⟨up, term, leads, alone, ops⟩ ⟨1, whom, mt, mn, op, mops⟩ = z := hz
  have e3 : hearM ⟨up, term, leads, alone, ops⟩ id ⟨1, whom, mt, mn, op, mops⟩ = (if z then xm else noM) := by rw [← hz, ← hxm]; rfl
  rw [e1, e2, e3]
  obtain ⟨xl, hxl⟩ : ∃ x, (if z then xm else noM) = x := ⟨_, rfl⟩
  rw [hxl]
  have HXL := Lib.hid hxl
  have HZ := Lib.hid (And.intro hz (And.intro hxn hxm))
  clear h hbase ho hso hC hid hr hmn hz hxn hxm hxl e1 e2 e3
  go_enter Tryz.func91, Tryz.ntmps91
  go_wp2_with fail
  obtain ⟨hW, hN, hP, hR, hM⟩ := (allocs4 w #[.bool up, .int .i64 term, .bool leads, .bool alone, .slice A ops.length c] #[.int .i64 1, .int .i64 whom, .int .i64 mt, .int .i64 mn, .int .i64 op.kind, .string op.name, .string op.dest, .int .i64 op.n, .string op.text, .slice B mops.length bc] #[.bool false, .int .i64 0, .bool false, .bool false, .slice none 0 0] #[.int .i64 0, .int .i64 0, .int .i64 0, .int .i64 0, .int .i64 0, .string ⟨#[]⟩, .string ⟨#[]⟩, .int .i64 0, .string ⟨#[]⟩, .slice none 0 0] 25 29 25 29)
  generalize ((((w.alloc (.cells #[.bool up, .int .i64 term, .bool leads, .bool alone, .slice A ops.length c] 25)).alloc (.cells #[.int .i64 1, .int .i64 whom, .int .i64 mt, .int .i64 mn, .int .i64 op.kind, .string op.name, .string op.dest, .int .i64 op.n, .string op.text, .slice B mops.length bc] 29)).alloc (.cells #[.bool false, .int .i64 0, .bool false, .bool false, .slice none 0 0] 25)).alloc (.cells #[.int .i64 0, .int .i64 0, .int .i64 0, .int .i64 0, .int .i64 0, .string ⟨#[]⟩, .string ⟨#[]⟩, .int .i64 0, .string ⟨#[]⟩, .slice none 0 0] 29)) = W0 at hW hN hP hR hM ⊢
  have HT0 := Lib.hid (HT.out.bel hW)
  have hcop := l21Copied_f (up := up) (leads := leads) (alone := alone) (term := term) (kind := 1) (whom := whom) (mt := mt) (mn := mn) (op := op) (B := B) (bn := mops.length) (bc := bc) HT0.out (Nat.le_trans HBS.out hW.size) HO.out HSO.out HID.out HRX.out HMN.out
  rw [HZ.out.1, HZ.out.2.1, HZ.out.2.2] at hcop
  have HR := Lib.hid hR
  have HM := Lib.hid hM
  have HW := Lib.hid hW
  clear hW hN hP hR hM HZ
  refine hcop.mono ?_
  rintro e w1 ⟨v, rfl, hv, hg, hat, hvf⟩
  have HR1 := Lib.hid (HR.out.grown hg (blk_otherT HT0.out HR.out (by decide)))
  have HM1 := Lib.hid (HM.out.grown hg (blk_otherT HT0.out HM.out (by decide)))
  have HG1 := Lib.hid (grown_tr (grown_of_bel HW.out (Value.slice A ops.length c).ownBlock) hg)
  have HAT := Lib.hid (show ∀ k, v.ownBlock = some k → (Value.slice A ops.length c).ownBlock = some k ∨ w.heap.size ≤ k from fun k hk => by
   rcases hat with h | ⟨b, h1, h2⟩
   ·exact .inl (h.symm.trans hk)
   ·exact .inr (by rw [h1] at hk; cases hk; exact Nat.le_trans HW.out.size h2))
  have HV1 := Lib.hid hv
  obtain ⟨C4, c4, rfl, -, -⟩ := hv.reads
  have LH := Lib.hid (show w.heap.size + 1 + 1 + 1 < w1.heap.size from HM1.out.lt)
  clear hg hat hvf hv hcop HT0 HR HM HW
  cases z with
  | true =>
   obtain rfl : xm = xl := HXL.out
   clear HXL
   go_wp2
   have hX : Blk ((w1.alloc (.cells #[.bool xn.up, .int .i64 xn.term, .bool xn.leads, .bool xn.alone, .slice C4 xn.ops.length c4] 25)).alloc (.cells #[.int .i64 xm.kind, .int .i64 xm.whom, .int .i64 xm.term, .int .i64 xm.n, .int .i64 xm.op.kind, .string xm.op.name, .string xm.op.dest, .int .i64 xm.op.n, .string xm.op.text, .slice none 0 0] 29)) w1.heap.size #[.bool xn.up, .int .i64 xn.term, .bool xn.leads, .bool xn.alone, .slice C4 xn.ops.length c4] 25 := (Blk.new _ _ _).alloc _
   have hY : Blk ((w1.alloc (.cells #[.bool xn.up, .int .i64 xn.term, .bool xn.leads, .bool xn.alone, .slice C4 xn.ops.length c4] 25)).alloc (.cells #[.int .i64 xm.kind, .int .i64 xm.whom, .int .i64 xm.term, .int .i64 xm.n, .int .i64 xm.op.kind, .string xm.op.name, .string xm.op.dest, .int .i64 xm.op.n, .string xm.op.text, .slice none 0 0] 29)) (w1.heap.size + 1) #[.int .i64 xm.kind, .int .i64 xm.whom, .int .i64 xm.term, .int .i64 xm.n, .int .i64 xm.op.kind, .string xm.op.name, .string xm.op.dest, .int .i64 xm.op.n, .string xm.op.text, .slice none 0 0] 29 := Blk.nw2 _ _ _ _
   have hbx : Bel w1 ((w1.alloc (.cells #[.bool xn.up, .int .i64 xn.term, .bool xn.leads, .bool xn.alone, .slice C4 xn.ops.length c4] 25)).alloc (.cells #[.int .i64 xm.kind, .int .i64 xm.whom, .int .i64 xm.term, .int .i64 xm.n, .int .i64 xm.op.kind, .string xm.op.name, .string xm.op.dest, .int .i64 xm.op.n, .string xm.op.text, .slice none 0 0] 29)) := bel_alloc (bel_alloc (Below.refl _ _) _) _
   have hR2 := HR1.out.bel hbx
   have hM2 := HM1.out.bel hbx
   have hV2 := HV1.out.bel hbx
   have hG2 := grown_tr HG1.out (grown_of_bel hbx _)
   generalize ((w1.alloc (.cells #[.bool xn.up, .int .i64 xn.term, .bool xn.leads, .bool xn.alone, .slice C4 xn.ops.length c4] 25)).alloc (.cells #[.int .i64 xm.kind, .int .i64 xm.whom, .int .i64 xm.term, .int .i64 xm.n, .int .i64 xm.op.kind, .string xm.op.name, .string xm.op.dest, .int .i64 xm.op.n, .string xm.op.text, .slice none 0 0] 29)) = W2 at hX hY hbx hR2 hM2 hV2 hG2 ⊢
   obtain ⟨nb, hnb⟩ : ∃ nb, w1.heap.size = nb := ⟨_, rfl⟩
   have hlt := LH.out
   rw [hnb] at hX hY hlt ⊢
   have HX := Lib.hid hX
   have HY := Lib.hid hY
   clear hbx hX hY hnb HR1 HM1 HV1 HG1 LH
   have hq0 : w.heap.size + 1 + 1 ≠ nb := by omega
   have HXa := Lib.hid (HX.out.apart5 hq0 (.bool xn.up) (.int .i64 xn.term) (.bool xn.leads) (.bool xn.alone) (.slice C4 xn.ops.length c4))
   have hp0 : w.heap.size + 1 + 1 + 1 ≠ nb := by omega
   have HXb := Lib.hid (Blk.apartS hp0 [.int .i64 xm.kind, .int .i64 xm.whom, .int .i64 xm.term, .int .i64 xm.n, .int .i64 xm.op.kind, .string xm.op.name, .string xm.op.dest, .int .i64 xm.op.n, .string xm.op.text, .slice none 0 0] 0 HXa.out)
   have hq1 : w.heap.size + 1 + 1 ≠ nb + 1 := by omega
   have HYa := Lib.hid (HY.out.apart5 hq1 (.bool xn.up) (.int .i64 xn.term) (.bool xn.leads) (.bool xn.alone) (.slice C4 xn.ops.length c4))
   have hp1 : w.heap.size + 1 + 1 + 1 ≠ nb + 1 := by omega
   have HYb := Lib.hid (Blk.apartS hp1 [.int .i64 xm.kind, .int .i64 xm.whom, .int .i64 xm.term, .int .i64 xm.n, .int .i64 xm.op.kind, .string xm.op.name, .string xm.op.dest, .int .i64 xm.op.n, .string xm.op.text, .slice none 0 0] 0 HYa.out)
   have hr_ := hR2
   have hm_ := hM2
   have r0 := blkn hr_ 0 _ rfl
   have r1 := blkn hr_ 1 _ rfl
   have r2 := blkn hr_ 2 _ rfl
   have r3 := blkn hr_ 3 _ rfl
   have r4 := blkn hr_ 4 _ rfl
   have m0 := blkn hm_ 0 _ rfl
   have m1 := blkn hm_ 1 _ rfl
   have m2 := blkn hm_ 2 _ rfl
   have m3 := blkn hm_ 3 _ rfl
   have m4 := blkn hm_ 4 _ rfl
   have m5 := blkn hm_ 5 _ rfl
   have m6 := blkn hm_ 6 _ rfl
   have m7 := blkn hm_ 7 _ rfl
   have m8 := blkn hm_ 8 _ rfl
   have m9 := blkn hm_ 9 _ rfl
   have rf0 := hr_.free 0
   have rf1 := hr_.free 1
   have rf2 := hr_.free 2
   have rf3 := hr_.free 3
   have rf4 := hr_.free 4
   have mf0 := hm_.free 0
   have mf1 := hm_.free 1
   have mf2 := hm_.free 2
   have mf3 := hm_.free 3
   have mf4 := hm_.free 4
   have mf5 := hm_.free 5
   have mf6 := hm_.free 6
   have mf7 := hm_.free 7
   have mf8 := hm_.free 8
   have mf9 := hm_.free 9
   have ry := hr_.lt
   have my := hm_.lt
   refine start_ (n := 6) (S := fun w' => w'.cell? ⟨nb, 0, none⟩ = some (.bool xn.up) ∧ w'.cell? ⟨nb, 1, none⟩ = some (.int .i64 xn.term) ∧ w'.cell? ⟨nb, 2, none⟩ = some (.bool xn.leads) ∧ w'.cell? ⟨nb, 3, none⟩ = some (.bool xn.alone) ∧ w'.cell? ⟨nb, 4, none⟩ = some (.slice C4 xn.ops.length c4) ∧ w'.cell? ⟨nb + 1, 0, none⟩ = some (.int .i64 xm.kind) ∧ w'.cell? ⟨nb + 1, 1, none⟩ = some (.int .i64 xm.whom) ∧ w'.cell? ⟨nb + 1, 2, none⟩ = some (.int .i64 xm.term) ∧ w'.cell? ⟨nb + 1, 3, none⟩ = some (.int .i64 xm.n) ∧ w'.cell? ⟨nb + 1, 4, none⟩ = some (.int .i64 xm.op.kind) ∧ w'.cell? ⟨nb + 1, 5, none⟩ = some (.string xm.op.name) ∧ w'.cell? ⟨nb + 1, 6, none⟩ = some (.string xm.op.dest) ∧ w'.cell? ⟨nb + 1, 7, none⟩ = some (.int .i64 xm.op.n) ∧ w'.cell? ⟨nb + 1, 8, none⟩ = some (.string xm.op.text) ∧ w'.cell? ⟨nb + 1, 9, none⟩ = some (.slice none 0 0)) (ds := []) #[bF, bF, bF, bF, bF, bF] (by kernel_rfl) rfl rfl ⟨(blkn (HX.out.bel (Below.refl _ _).drew) 0 _ rfl), (blkn (HX.out.bel (Below.refl _ _).drew) 1 _ rfl), (blkn (HX.out.bel (Below.refl _ _).drew) 2 _ rfl), (blkn (HX.out.bel (Below.refl _ _).drew) 3 _ rfl), (blkn (HX.out.bel (Below.refl _ _).drew) 4 _ rfl), (blkn (HY.out.bel (Below.refl _ _).drew) 0 _ rfl), (blkn (HY.out.bel (Below.refl _ _).drew) 1 _ rfl), (blkn (HY.out.bel (Below.refl _ _).drew) 2 _ rfl), (blkn (HY.out.bel (Below.refl _ _).drew) 3 _ rfl), (blkn (HY.out.bel (Below.refl _ _).drew) 4 _ rfl), (blkn (HY.out.bel (Below.refl _ _).drew) 5 _ rfl), (blkn (HY.out.bel (Below.refl _ _).drew) 6 _ rfl), (blkn (HY.out.bel (Below.refl _ _).drew) 7 _ rfl), (blkn (HY.out.bel (Below.refl _ _).drew) 8 _ rfl), (blkn (HY.out.bel (Below.refl _ _).drew) 9 _ rfl)⟩ (fun hHeld => ?_)
   refine ppx (i := 2) (N := some 28) #[bF, bF, bT, bF, bF, bF] (h := ?_)
   refine tpx (i := 0) (N := some 26) #[bT, bF, bT, bF, bF, bF] (hy := (Or.inl ⟨by rfl, by rintro w' ⟨s0, s1, s2, s3, s4, s5, s6, s7, s8, s9, s10, s11, s12, s13, s14⟩; go_simp; with_reducible rfl⟩)) (hS := hHeld) (h := ?_)
   refine tpx (i := 1) (N := some 27) #[bT, bT, bT, bF, bF, bF] (hy := (Or.inl ⟨by rfl, by rintro w' ⟨s0, s1, s2, s3, s4, s5, s6, s7, s8, s9, s10, s11, s12, s13, s14⟩; go_simp; with_reducible rfl⟩)) (hS := hHeld) (h := ?_)
   refine one_ (i := 3) (N := none) #[bT, bT, bT, bT, bF, bF] rfl rfl (by kernel_rfl) (by decide) (fun K hK => ?_)
   refine skip_ (by rfl) rfl (by go_simp; rfl) ?_
   refine hK.out _ _ ⟨(blkn (HXa.out.bel (Below.refl _ _).drew) 0 _ rfl), (blkn (HXa.out.bel (Below.refl _ _).drew) 1 _ rfl), (blkn (HXa.out.bel (Below.refl _ _).drew) 2 _ rfl), (blkn (HXa.out.bel (Below.refl _ _).drew) 3 _ rfl), (blkn (HXa.out.bel (Below.refl _ _).drew) 4 _ rfl), (blkn (HYa.out.bel (Below.refl _ _).drew) 0 _ rfl), (blkn (HYa.out.bel (Below.refl _ _).drew) 1 _ rfl), (blkn (HYa.out.bel (Below.refl _ _).drew) 2 _ rfl), (blkn (HYa.out.bel (Below.refl _ _).drew) 3 _ rfl), (blkn (HYa.out.bel (Below.refl _ _).drew) 4 _ rfl), (blkn (HYa.out.bel (Below.refl _ _).drew) 5 _ rfl), (blkn (HYa.out.bel (Below.refl _ _).drew) 6 _ rfl), (blkn (HYa.out.bel (Below.refl _ _).drew) 7 _ rfl), (blkn (HYa.out.bel (Below.refl _ _).drew) 8 _ rfl), (blkn (HYa.out.bel (Below.refl _ _).drew) 9 _ rfl)⟩ (fun hHeld => ?_)
   clear hK K
   refine one_ (i := 4) (N := none) #[bT, bT, bT, bT, bT, bF] rfl rfl (by kernel_rfl) (by decide) (fun K hK => ?_)
   refine skip_ (by rfl) rfl (by go_simp; rfl) ?_
   refine hK.out _ _ ⟨(blkn (HXb.out.bel (Below.refl _ _).drew) 0 _ rfl), (blkn (HXb.out.bel (Below.refl _ _).drew) 1 _ rfl), (blkn (HXb.out.bel (Below.refl _ _).drew) 2 _ rfl), (blkn (HXb.out.bel (Below.refl _ _).drew) 3 _ rfl), (blkn (HXb.out.bel (Below.refl _ _).drew) 4 _ rfl), (blkn (HYb.out.bel (Below.refl _ _).drew) 0 _ rfl), (blkn (HYb.out.bel (Below.refl _ _).drew) 1 _ rfl), (blkn (HYb.out.bel (Below.refl _ _).drew) 2 _ rfl), (blkn (HYb.out.bel (Below.refl _ _).drew) 3 _ rfl), (blkn (HYb.out.bel (Below.refl _ _).drew) 4 _ rfl), (blkn (HYb.out.bel (Below.refl _ _).drew) 5 _ rfl), (blkn (HYb.out.bel (Below.refl _ _).drew) 6 _ rfl), (blkn (HYb.out.bel (Below.refl _ _).drew) 7 _ rfl), (blkn (HYb.out.bel (Below.refl _ _).drew) 8 _ rfl), (blkn (HYb.out.bel (Below.refl _ _).drew) 9 _ rfl)⟩ (fun hHeld => ?_)
   clear hK K
   refine ppx (i := 5) (N := some 8) #[bT, bT, bT, bT, bT, bT] (h := ?_)
   refine done_ (by kernel_rfl) ?_
   go_wp2
   have h2 := two_new (v1 := [.bool xn.up, .int .i64 xn.term, .bool xn.leads, .bool xn.alone, .slice C4 xn.ops.length c4]) (v2 := [.int .i64 xm.kind, .int .i64 xm.whom, .int .i64 xm.term, .int .i64 xm.n, .int .i64 xm.op.kind, .string xm.op.name, .string xm.op.dest, .int .i64 xm.op.n, .string xm.op.text, .slice none 0 0]) rfl hr_ hm_ (show w.heap.size + 1 + 1 ≠ w.heap.size + 1 + 1 + 1 by omega) rfl rfl (by decide) (by decide)
   refine bodyPost_ret (results_list (rs := [.cell 6 25, .cell 7 29, .tmp 8]) rfl (by simp) (.cell _ 25 _ (0, 0) _ rfl (h2.b1.bel bel_drew) Tryz.underlying25 rfl (by kernel_rfl) (.cell _ 29 _ (0, 0) _ rfl (h2.b2.bel bel_drew) Tryz.underlying29 rfl (by kernel_rfl) (.tmp .nil)))) rfl ?_
   exact ⟨_, rfl, (h2.ownT hV2).bel bel_drew, grown_tr (h2.grown hG2 (by omega) (by omega)) (grown_of_bel bel_drew _), HAT.out⟩
  | false =>
   obtain rfl : noM = xl := HXL.out
   clear HXL
   go_wp2
   have hX : Blk ((w1.alloc (.cells #[.bool xn.up, .int .i64 xn.term, .bool xn.leads, .bool xn.alone, .slice C4 xn.ops.length c4] 25)).alloc (.cells #[.int .i64 0, .int .i64 0, .int .i64 0, .int .i64 0, .int .i64 0, .string ⟨#[]⟩, .string ⟨#[]⟩, .int .i64 0, .string ⟨#[]⟩, .slice none 0 0] 29)) w1.heap.size #[.bool xn.up, .int .i64 xn.term, .bool xn.leads, .bool xn.alone, .slice C4 xn.ops.length c4] 25 := (Blk.new _ _ _).alloc _
   have hY : Blk ((w1.alloc (.cells #[.bool xn.up, .int .i64 xn.term, .bool xn.leads, .bool xn.alone, .slice C4 xn.ops.length c4] 25)).alloc (.cells #[.int .i64 0, .int .i64 0, .int .i64 0, .int .i64 0, .int .i64 0, .string ⟨#[]⟩, .string ⟨#[]⟩, .int .i64 0, .string ⟨#[]⟩, .slice none 0 0] 29)) (w1.heap.size + 1) #[.int .i64 0, .int .i64 0, .int .i64 0, .int .i64 0, .int .i64 0, .string ⟨#[]⟩, .string ⟨#[]⟩, .int .i64 0, .string ⟨#[]⟩, .slice none 0 0] 29 := Blk.nw2 _ _ _ _
   have hbx : Bel w1 ((w1.alloc (.cells #[.bool xn.up, .int .i64 xn.term, .bool xn.leads, .bool xn.alone, .slice C4 xn.ops.length c4] 25)).alloc (.cells #[.int .i64 0, .int .i64 0, .int .i64 0, .int .i64 0, .int .i64 0, .string ⟨#[]⟩, .string ⟨#[]⟩, .int .i64 0, .string ⟨#[]⟩, .slice none 0 0] 29)) := bel_alloc (bel_alloc (Below.refl _ _) _) _
   have hR2 := HR1.out.bel hbx
   have hM2 := HM1.out.bel hbx
   have hV2 := HV1.out.bel hbx
   have hG2 := grown_tr HG1.out (grown_of_bel hbx _)
   generalize ((w1.alloc (.cells #[.bool xn.up, .int .i64 xn.term, .bool xn.leads, .bool xn.alone, .slice C4 xn.ops.length c4] 25)).alloc (.cells #[.int .i64 0, .int .i64 0, .int .i64 0, .int .i64 0, .int .i64 0, .string ⟨#[]⟩, .string ⟨#[]⟩, .int .i64 0, .string ⟨#[]⟩, .slice none 0 0] 29)) = W2 at hX hY hbx hR2 hM2 hV2 hG2 ⊢
   obtain ⟨nb, hnb⟩ : ∃ nb, w1.heap.size = nb := ⟨_, rfl⟩
   have hlt := LH.out
   rw [hnb] at hX hY hlt ⊢
   have HX := Lib.hid hX
   have HY := Lib.hid hY
   clear hbx hX hY hnb HR1 HM1 HV1 HG1 LH
   have hq0 : w.heap.size + 1 + 1 ≠ nb := by omega
   have HXa := Lib.hid (HX.out.apart5 hq0 (.bool xn.up) (.int .i64 xn.term) (.bool xn.leads) (.bool xn.alone) (.slice C4 xn.ops.length c4))
   have hp0 : w.heap.size + 1 + 1 + 1 ≠ nb := by omega
   have HXb := Lib.hid (Blk.apartS hp0 [.int .i64 0, .int .i64 0, .int .i64 0, .int .i64 0, .int .i64 0, .string ⟨#[]⟩, .string ⟨#[]⟩, .int .i64 0, .string ⟨#[]⟩, .slice none 0 0] 0 HXa.out)
   have hq1 : w.heap.size + 1 + 1 ≠ nb + 1 := by omega
   have HYa := Lib.hid (HY.out.apart5 hq1 (.bool xn.up) (.int .i64 xn.term) (.bool xn.leads) (.bool xn.alone) (.slice C4 xn.ops.length c4))
   have hp1 : w.heap.size + 1 + 1 + 1 ≠ nb + 1 := by omega
   have HYb := Lib.hid (Blk.apartS hp1 [.int .i64 0, .int .i64 0, .int .i64 0, .int .i64 0, .int .i64 0, .string ⟨#[]⟩, .string ⟨#[]⟩, .int .i64 0, .string ⟨#[]⟩, .slice none 0 0] 0 HYa.out)
   have hr_ := hR2
   have hm_ := hM2
   have r0 := blkn hr_ 0 _ rfl
   have r1 := blkn hr_ 1 _ rfl
   have r2 := blkn hr_ 2 _ rfl
   have r3 := blkn hr_ 3 _ rfl
   have r4 := blkn hr_ 4 _ rfl
   have m0 := blkn hm_ 0 _ rfl
   have m1 := blkn hm_ 1 _ rfl
   have m2 := blkn hm_ 2 _ rfl
   have m3 := blkn hm_ 3 _ rfl
   have m4 := blkn hm_ 4 _ rfl
   have m5 := blkn hm_ 5 _ rfl
   have m6 := blkn hm_ 6 _ rfl
   have m7 := blkn hm_ 7 _ rfl
   have m8 := blkn hm_ 8 _ rfl
   have m9 := blkn hm_ 9 _ rfl
   have rf0 := hr_.free 0
   have rf1 := hr_.free 1
   have rf2 := hr_.free 2
   have rf3 := hr_.free 3
   have rf4 := hr_.free 4
   have mf0 := hm_.free 0
   have mf1 := hm_.free 1
   have mf2 := hm_.free 2
   have mf3 := hm_.free 3
   have mf4 := hm_.free 4
   have mf5 := hm_.free 5
   have mf6 := hm_.free 6
   have mf7 := hm_.free 7
   have mf8 := hm_.free 8
   have mf9 := hm_.free 9
   have ry := hr_.lt
   have my := hm_.lt
   refine start_ (n := 6) (S := fun w' => w'.cell? ⟨nb, 0, none⟩ = some (.bool xn.up) ∧ w'.cell? ⟨nb, 1, none⟩ = some (.int .i64 xn.term) ∧ w'.cell? ⟨nb, 2, none⟩ = some (.bool xn.leads) ∧ w'.cell? ⟨nb, 3, none⟩ = some (.bool xn.alone) ∧ w'.cell? ⟨nb, 4, none⟩ = some (.slice C4 xn.ops.length c4) ∧ w'.cell? ⟨nb + 1, 0, none⟩ = some (.int .i64 0) ∧ w'.cell? ⟨nb + 1, 1, none⟩ = some (.int .i64 0) ∧ w'.cell? ⟨nb + 1, 2, none⟩ = some (.int .i64 0) ∧ w'.cell? ⟨nb + 1, 3, none⟩ = some (.int .i64 0) ∧ w'.cell? ⟨nb + 1, 4, none⟩ = some (.int .i64 0) ∧ w'.cell? ⟨nb + 1, 5, none⟩ = some (.string ⟨#[]⟩) ∧ w'.cell? ⟨nb + 1, 6, none⟩ = some (.string ⟨#[]⟩) ∧ w'.cell? ⟨nb + 1, 7, none⟩ = some (.int .i64 0) ∧ w'.cell? ⟨nb + 1, 8, none⟩ = some (.string ⟨#[]⟩) ∧ w'.cell? ⟨nb + 1, 9, none⟩ = some (.slice none 0 0)) (ds := []) #[bF, bF, bF, bF, bF, bF] (by kernel_rfl) rfl rfl ⟨(blkn (HX.out.bel (Below.refl _ _).drew) 0 _ rfl), (blkn (HX.out.bel (Below.refl _ _).drew) 1 _ rfl), (blkn (HX.out.bel (Below.refl _ _).drew) 2 _ rfl), (blkn (HX.out.bel (Below.refl _ _).drew) 3 _ rfl), (blkn (HX.out.bel (Below.refl _ _).drew) 4 _ rfl), (blkn (HY.out.bel (Below.refl _ _).drew) 0 _ rfl), (blkn (HY.out.bel (Below.refl _ _).drew) 1 _ rfl), (blkn (HY.out.bel (Below.refl _ _).drew) 2 _ rfl), (blkn (HY.out.bel (Below.refl _ _).drew) 3 _ rfl), (blkn (HY.out.bel (Below.refl _ _).drew) 4 _ rfl), (blkn (HY.out.bel (Below.refl _ _).drew) 5 _ rfl), (blkn (HY.out.bel (Below.refl _ _).drew) 6 _ rfl), (blkn (HY.out.bel (Below.refl _ _).drew) 7 _ rfl), (blkn (HY.out.bel (Below.refl _ _).drew) 8 _ rfl), (blkn (HY.out.bel (Below.refl _ _).drew) 9 _ rfl)⟩ (fun hHeld => ?_)
   refine ppx (i := 2) (N := some 28) #[bF, bF, bT, bF, bF, bF] (h := ?_)
   refine tpx (i := 0) (N := some 26) #[bT, bF, bT, bF, bF, bF] (hy := (Or.inl ⟨by rfl, by rintro w' ⟨s0, s1, s2, s3, s4, s5, s6, s7, s8, s9, s10, s11, s12, s13, s14⟩; go_simp; with_reducible rfl⟩)) (hS := hHeld) (h := ?_)
   refine tpx (i := 1) (N := some 27) #[bT, bT, bT, bF, bF, bF] (hy := (Or.inl ⟨by rfl, by rintro w' ⟨s0, s1, s2, s3, s4, s5, s6, s7, s8, s9, s10, s11, s12, s13, s14⟩; go_simp; with_reducible rfl⟩)) (hS := hHeld) (h := ?_)
   refine one_ (i := 3) (N := none) #[bT, bT, bT, bT, bF, bF] rfl rfl (by kernel_rfl) (by decide) (fun K hK => ?_)
   refine skip_ (by rfl) rfl (by go_simp; rfl) ?_
   refine hK.out _ _ ⟨(blkn (HXa.out.bel (Below.refl _ _).drew) 0 _ rfl), (blkn (HXa.out.bel (Below.refl _ _).drew) 1 _ rfl), (blkn (HXa.out.bel (Below.refl _ _).drew) 2 _ rfl), (blkn (HXa.out.bel (Below.refl _ _).drew) 3 _ rfl), (blkn (HXa.out.bel (Below.refl _ _).drew) 4 _ rfl), (blkn (HYa.out.bel (Below.refl _ _).drew) 0 _ rfl), (blkn (HYa.out.bel (Below.refl _ _).drew) 1 _ rfl), (blkn (HYa.out.bel (Below.refl _ _).drew) 2 _ rfl), (blkn (HYa.out.bel (Below.refl _ _).drew) 3 _ rfl), (blkn (HYa.out.bel (Below.refl _ _).drew) 4 _ rfl), (blkn (HYa.out.bel (Below.refl _ _).drew) 5 _ rfl), (blkn (HYa.out.bel (Below.refl _ _).drew) 6 _ rfl), (blkn (HYa.out.bel (Below.refl _ _).drew) 7 _ rfl), (blkn (HYa.out.bel (Below.refl _ _).drew) 8 _ rfl), (blkn (HYa.out.bel (Below.refl _ _).drew) 9 _ rfl)⟩ (fun hHeld => ?_)
   clear hK K
   refine one_ (i := 4) (N := none) #[bT, bT, bT, bT, bT, bF] rfl rfl (by kernel_rfl) (by decide) (fun K hK => ?_)
   refine skip_ (by rfl) rfl (by go_simp; rfl) ?_
   refine hK.out _ _ ⟨(blkn (HXb.out.bel (Below.refl _ _).drew) 0 _ rfl), (blkn (HXb.out.bel (Below.refl _ _).drew) 1 _ rfl), (blkn (HXb.out.bel (Below.refl _ _).drew) 2 _ rfl), (blkn (HXb.out.bel (Below.refl _ _).drew) 3 _ rfl), (blkn (HXb.out.bel (Below.refl _ _).drew) 4 _ rfl), (blkn (HYb.out.bel (Below.refl _ _).drew) 0 _ rfl), (blkn (HYb.out.bel (Below.refl _ _).drew) 1 _ rfl), (blkn (HYb.out.bel (Below.refl _ _).drew) 2 _ rfl), (blkn (HYb.out.bel (Below.refl _ _).drew) 3 _ rfl), (blkn (HYb.out.bel (Below.refl _ _).drew) 4 _ rfl), (blkn (HYb.out.bel (Below.refl _ _).drew) 5 _ rfl), (blkn (HYb.out.bel (Below.refl _ _).drew) 6 _ rfl), (blkn (HYb.out.bel (Below.refl _ _).drew) 7 _ rfl), (blkn (HYb.out.bel (Below.refl _ _).drew) 8 _ rfl), (blkn (HYb.out.bel (Below.refl _ _).drew) 9 _ rfl)⟩ (fun hHeld => ?_)
   clear hK K
   refine ppx (i := 5) (N := some 8) #[bT, bT, bT, bT, bT, bT] (h := ?_)
   refine done_ (by kernel_rfl) ?_
   go_wp2
   have h2 := two_new (v1 := [.bool xn.up, .int .i64 xn.term, .bool xn.leads, .bool xn.alone, .slice C4 xn.ops.length c4]) (v2 := [.int .i64 0, .int .i64 0, .int .i64 0, .int .i64 0, .int .i64 0, .string ⟨#[]⟩, .string ⟨#[]⟩, .int .i64 0, .string ⟨#[]⟩, .slice none 0 0]) rfl hr_ hm_ (show w.heap.size + 1 + 1 ≠ w.heap.size + 1 + 1 + 1 by omega) rfl rfl (by decide) (by decide)
   refine bodyPost_ret (results_list (rs := [.cell 6 25, .cell 7 29, .tmp 8]) rfl (by simp) (.cell _ 25 _ (0, 0) _ rfl (h2.b1.bel bel_drew) Tryz.underlying25 rfl (by kernel_rfl) (.cell _ 29 _ (0, 0) _ rfl (h2.b2.bel bel_drew) Tryz.underlying29 rfl (by kernel_rfl) (.tmp .nil)))) rfl ?_
   exact ⟨_, rfl, (h2.ownT hV2).bel bel_drew, grown_tr (h2.grown hG2 (by omega) (by omega)) (grown_of_bel bel_drew _), HAT.out⟩
 ·have hkk : ∀ {α : Type} (a b : α), (if kind = 1 then a else b) = b := fun a b => if_neg k1
  obtain ⟨y, hy⟩ : ∃ y, nayB ⟨up, term, leads, alone, ops⟩ kind mt = y := ⟨_, rfl⟩
  cases y with
  | true =>
   have e1 : hearN ⟨up, term, leads, alone, ops⟩ ⟨kind, whom, mt, mn, op, mops⟩ = ⟨up, term, leads, alone, ops⟩ := by unfold hearN; simp only []; rw [hkk, hy]; rfl
   have e2 : hearB ⟨up, term, leads, alone, ops⟩ ⟨kind, whom, mt, mn, op, mops⟩ = false := by unfold hearB; simp only []; rw [hkk, hy]; rfl
   have e3 : hearM ⟨up, term, leads, alone, ops⟩ id ⟨kind, whom, mt, mn, op, mops⟩ = noM := by unfold hearM; simp only []; rw [hkk, hy]; rfl
   rw [e1, e2, e3]
   clear e1 e2 e3 hkk h hbase ho hso hC hid hr hmn
   by_cases k3 : kind = 3
   ·subst k3
    have hy2 : mt < term ∨ (mt = term ∧ leads = true) := by unfold nayB at hy; simpa using hy
    clear hy
    rcases hy2 with ht | ⟨rfl, rfl⟩
    ·go_enter Tryz.func91, Tryz.ntmps91
     go_wp2
     have hA := (allocs4 w #[.bool up, .int .i64 term, .bool leads, .bool alone, .slice A ops.length c] #[.int .i64 3, .int .i64 whom, .int .i64 mt, .int .i64 mn, .int .i64 op.kind, .string op.name, .string op.dest, .int .i64 op.n, .string op.text, .slice B mops.length bc] #[.bool up, .int .i64 term, .bool leads, .bool alone, .slice A ops.length c] #[.int .i64 0, .int .i64 0, .int .i64 0, .int .i64 0, .int .i64 0, .string ⟨#[]⟩, .string ⟨#[]⟩, .int .i64 0, .string ⟨#[]⟩, .slice none 0 0] 25 29 25 29)
     refine bodyPost_ret (results_list (rs := [.cell 6 25, .cell 7 29, .tmp 8]) rfl (by simp) (.cell (w.heap.size + 1 + 1) 25 #[.bool up, .int .i64 term, .bool leads, .bool alone, .slice A ops.length c] (0, 0) _ rfl hA.2.2.2.1 Tryz.underlying25 rfl (by kernel_rfl) (.cell (w.heap.size + 1 + 1 + 1) 29 #[.int .i64 0, .int .i64 0, .int .i64 0, .int .i64 0, .int .i64 0, .string ⟨#[]⟩, .string ⟨#[]⟩, .int .i64 0, .string ⟨#[]⟩, .slice none 0 0] (0, 0) _ rfl hA.2.2.2.2 Tryz.underlying29 rfl (by kernel_rfl) (.tmp .nil)))) rfl ?_
     exact ⟨_, rfl, HT.out.bel hA.1, grown_of_bel hA.1 _, fun k hk => .inl hk⟩
    ·go_enter Tryz.func91, Tryz.ntmps91
     go_wp2
     have hA := (allocs4 w #[.bool up, .int .i64 mt, .bool true, .bool alone, .slice A ops.length c] #[.int .i64 3, .int .i64 whom, .int .i64 mt, .int .i64 mn, .int .i64 op.kind, .string op.name, .string op.dest, .int .i64 op.n, .string op.text, .slice B mops.length bc] #[.bool up, .int .i64 mt, .bool true, .bool alone, .slice A ops.length c] #[.int .i64 0, .int .i64 0, .int .i64 0, .int .i64 0, .int .i64 0, .string ⟨#[]⟩, .string ⟨#[]⟩, .int .i64 0, .string ⟨#[]⟩, .slice none 0 0] 25 29 25 29)
     refine bodyPost_ret (results_list (rs := [.cell 6 25, .cell 7 29, .tmp 8]) rfl (by simp) (.cell (w.heap.size + 1 + 1) 25 #[.bool up, .int .i64 mt, .bool true, .bool alone, .slice A ops.length c] (0, 0) _ rfl hA.2.2.2.1 Tryz.underlying25 rfl (by kernel_rfl) (.cell (w.heap.size + 1 + 1 + 1) 29 #[.int .i64 0, .int .i64 0, .int .i64 0, .int .i64 0, .int .i64 0, .string ⟨#[]⟩, .string ⟨#[]⟩, .int .i64 0, .string ⟨#[]⟩, .slice none 0 0] (0, 0) _ rfl hA.2.2.2.2 Tryz.underlying29 rfl (by kernel_rfl) (.tmp .nil)))) rfl ?_
     exact ⟨_, rfl, HT.out.bel hA.1, grown_of_bel hA.1 _, fun k hk => .inl hk⟩
   ·clear hy
    go_enter Tryz.func91, Tryz.ntmps91
    go_wp2
    have hA := (allocs4 w #[.bool up, .int .i64 term, .bool leads, .bool alone, .slice A ops.length c] #[.int .i64 kind, .int .i64 whom, .int .i64 mt, .int .i64 mn, .int .i64 op.kind, .string op.name, .string op.dest, .int .i64 op.n, .string op.text, .slice B mops.length bc] #[.bool up, .int .i64 term, .bool leads, .bool alone, .slice A ops.length c] #[.int .i64 0, .int .i64 0, .int .i64 0, .int .i64 0, .int .i64 0, .string ⟨#[]⟩, .string ⟨#[]⟩, .int .i64 0, .string ⟨#[]⟩, .slice none 0 0] 25 29 25 29)
    refine bodyPost_ret (results_list (rs := [.cell 6 25, .cell 7 29, .tmp 8]) rfl (by simp) (.cell (w.heap.size + 1 + 1) 25 #[.bool up, .int .i64 term, .bool leads, .bool alone, .slice A ops.length c] (0, 0) _ rfl hA.2.2.2.1 Tryz.underlying25 rfl (by kernel_rfl) (.cell (w.heap.size + 1 + 1 + 1) 29 #[.int .i64 0, .int .i64 0, .int .i64 0, .int .i64 0, .int .i64 0, .string ⟨#[]⟩, .string ⟨#[]⟩, .int .i64 0, .string ⟨#[]⟩, .slice none 0 0] (0, 0) _ rfl hA.2.2.2.2 Tryz.underlying29 rfl (by kernel_rfl) (.tmp .nil)))) rfl ?_
    exact ⟨_, rfl, HT.out.bel hA.1, grown_of_bel hA.1 _, fun k hk => .inl hk⟩
  | false =>
   have hy3 : kind = 3 ∧ ¬ mt < term ∧ ¬ (mt = term ∧ leads = true) := by unfold nayB at hy; simp at hy; exact ⟨hy.1, by omega, fun ⟨a, b⟩ => by have := hy.2.2 a; rw [b] at this; cases this⟩
   have e2 : hearB ⟨up, term, leads, alone, ops⟩ ⟨kind, whom, mt, mn, op, mops⟩ = true := by unfold hearB; simp only []; rw [hkk, hy]; rfl
   by_cases ht : term < mt
   ·have e1 : hearN ⟨up, term, leads, alone, ops⟩ ⟨kind, whom, mt, mn, op, mops⟩ = ⟨up, mt, false, false, mops⟩ := by unfold hearN; simp only []; rw [hkk, hy]; simp [ht]
    have e3 : hearM ⟨up, term, leads, alone, ops⟩ id ⟨kind, whom, mt, mn, op, mops⟩ = ⟨4, 3 - id, mt, mops.length, noO, []⟩ := by unfold hearM; simp only []; rw [hkk, hy, e1]; rfl
    rw [e1, e2, e3]
    obtain ⟨rfl, hy4, hy5⟩ := hy3
    clear e1 e2 e3 hkk h hbase ho hso hC hid hr hmn hy k1 hy5
    go_enter Tryz.func91, Tryz.ntmps91
    go_wp2_with (
     at_builtin
     obtain ⟨hW, hN, hP, hR, hM⟩ := (allocs4 w #[.bool up, .int .i64 mt, .bool false, .bool false, .slice A ops.length c] #[.int .i64 3, .int .i64 whom, .int .i64 mt, .int .i64 mn, .int .i64 op.kind, .string op.name, .string op.dest, .int .i64 op.n, .string op.text, .slice B mops.length bc] #[.bool false, .int .i64 0, .bool false, .bool false, .slice none 0 0] #[.int .i64 0, .int .i64 0, .int .i64 0, .int .i64 0, .int .i64 0, .string ⟨#[]⟩, .string ⟨#[]⟩, .int .i64 0, .string ⟨#[]⟩, .slice none 0 0] 25 29 25 29)
     have hz : w.heap.size + 1 + 1 + 1 + 1 = (((((w.alloc (.cells #[.bool up, .int .i64 mt, .bool false, .bool false, .slice A ops.length c] 25)).alloc (.cells #[.int .i64 3, .int .i64 whom, .int .i64 mt, .int .i64 mn, .int .i64 op.kind, .string op.name, .string op.dest, .int .i64 op.n, .string op.text, .slice B mops.length bc] 29)).alloc (.cells #[.bool false, .int .i64 0, .bool false, .bool false, .slice none 0 0] 25)).alloc (.cells #[.int .i64 0, .int .i64 0, .int .i64 0, .int .i64 0, .int .i64 0, .string ⟨#[]⟩, .string ⟨#[]⟩, .int .i64 0, .string ⟨#[]⟩, .slice none 0 0] 29))).heap.size := by simp
     generalize ((((w.alloc (.cells #[.bool up, .int .i64 mt, .bool false, .bool false, .slice A ops.length c] 25)).alloc (.cells #[.int .i64 3, .int .i64 whom, .int .i64 mt, .int .i64 mn, .int .i64 op.kind, .string op.name, .string op.dest, .int .i64 op.n, .string op.text, .slice B mops.length bc] 29)).alloc (.cells #[.bool false, .int .i64 0, .bool false, .bool false, .slice none 0 0] 25)).alloc (.cells #[.int .i64 0, .int .i64 0, .int .i64 0, .int .i64 0, .int .i64 0, .string ⟨#[]⟩, .string ⟨#[]⟩, .int .i64 0, .string ⟨#[]⟩, .slice none 0 0] 29)) = W0 at hW hN hP hR hM hz ⊢
     rw [hz]
     refine Kd.R_append_rows kOp (w0 := W0) W0.heap.size rfl (.tmp 70) (.tmp 72) 23 27 (.agg #[.int .i64 0, .string ⟨#[]⟩, .string ⟨#[]⟩, .int .i64 0, .string ⟨#[]⟩]) 64 rfl Tryz.underlying23 info_opR rfl (by decide) (by decide) _ [] mops _ _ _ (fun _ => True) (fun _ => False) rfl rfl (R_emptyO W0 W0.heap.size (Nat.le_refl _)) (Kd.C_alloc (kOp_keep HMC.out hW) _) (fun x cs h => by obtain rfl := kOp_open h; exact kOp_mkM _ _ _ x) (fun _ h => h.elim) (fun _ _ => trivial) ?a2 ?a3 ?a4 ?_
     case a2 => exact bel_alloc (Below.refl _ _) _
     case a3 => simp
     case a4 => simp; omega
     intro v w1 hoR hb1 hg hat
     have ho : OwnO w1 W0.heap.size v mops := ownO_of_R hoR
     have hw1 := hW.tr hb1
     have HN1 := Lib.hid (hN.bel hb1)
     have HR1 := Lib.hid (hR.bel hb1)
     have HM1 := Lib.hid (hM.bel hb1)
     have HW1 := Lib.hid hw1
     have HBA := Lib.hid (show ∀ k, v.ownBlock = some k → w.heap.size ≤ k from fun k hk => Nat.le_trans hW.size (own_base ho k hk))
     have HV1 := Lib.hid (show OwnO w1 w.heap.size v mops from own_lower ho hW.size)
     obtain ⟨C4, c4, rfl, hd, hCd⟩ := ho.reads
     clear hW hN hP hR hM hz hoR hb1 hg hat ho hw1 hd hCd
     have b0 := blkn HN1.out 0 _ rfl
     have b1 := blkn HN1.out 1 _ rfl
     have b2 := blkn HN1.out 2 _ rfl
     have b3 := blkn HN1.out 3 _ rfl
     have b4 := blkn HN1.out 4 _ rfl
     have bf4 := HN1.out.free 4
     have by_ := HN1.out.lt)
    clear b0 b1 b2 b3 b4 bf4 by_
    have hN2 := HN1.out.set 4 (.slice C4 mops.length c4) (cs' := #[.bool up, .int .i64 mt, .bool false, .bool false, .slice C4 mops.length c4]) rfl
    have hR2 := HR1.out.apart (show ¬ w.heap.size = w.heap.size + 1 + 1 by omega) 4 (.slice C4 mops.length c4)
    have hM2 := HM1.out.apart (show ¬ w.heap.size = w.heap.size + 1 + 1 + 1 by omega) 4 (.slice C4 mops.length c4)
    have hV2 := (OwnO.tail (HV1.out.far HN1.out (by decide) 4 (.slice C4 mops.length c4))).lower HBS.out
    have hG2 := grown_of_bel (bel_set HW1.out (Nat.le_refl _) 4 (.slice C4 mops.length c4)) (Value.slice A ops.length c).ownBlock
    generalize (w1.setCell ⟨w.heap.size, 4, none⟩ (.slice C4 mops.length c4)) = W2 at hN2 hR2 hM2 hV2 hG2 ⊢
    have HN := Lib.hid hN2
    clear hN2 HN1 HR1 HM1 HW1 HV1
    have hq0 : w.heap.size + 1 + 1 ≠ w.heap.size := by omega
    have HNa := Lib.hid (HN.out.apart5 hq0 (.bool up) (.int .i64 mt) (.bool false) (.bool false) (.slice C4 mops.length c4))
    have hr_ := hR2
    have hm_ := hM2
    have r0 := blkn hr_ 0 _ rfl
    have r1 := blkn hr_ 1 _ rfl
    have r2 := blkn hr_ 2 _ rfl
    have r3 := blkn hr_ 3 _ rfl
    have r4 := blkn hr_ 4 _ rfl
    have m0 := blkn hm_ 0 _ rfl
    have m1 := blkn hm_ 1 _ rfl
    have m2 := blkn hm_ 2 _ rfl
    have m3 := blkn hm_ 3 _ rfl
    have m4 := blkn hm_ 4 _ rfl
    have m5 := blkn hm_ 5 _ rfl
    have m6 := blkn hm_ 6 _ rfl
    have m7 := blkn hm_ 7 _ rfl
    have m8 := blkn hm_ 8 _ rfl
    have m9 := blkn hm_ 9 _ rfl
    have rf0 := hr_.free 0
    have rf1 := hr_.free 1
    have rf2 := hr_.free 2
    have rf3 := hr_.free 3
    have rf4 := hr_.free 4
    have mf0 := hm_.free 0
    have mf1 := hm_.free 1
    have mf2 := hm_.free 2
    have mf3 := hm_.free 3
    have mf4 := hm_.free 4
    have mf5 := hm_.free 5
    have mf6 := hm_.free 6
    have mf7 := hm_.free 7
    have mf8 := hm_.free 8
    have mf9 := hm_.free 9
    have ry := hr_.lt
    have my := hm_.lt
    refine start_ (n := 12) (S := fun w' => w'.cell? ⟨w.heap.size, 0, none⟩ = some (.bool up) ∧ w'.cell? ⟨w.heap.size, 1, none⟩ = some (.int .i64 mt) ∧ w'.cell? ⟨w.heap.size, 2, none⟩ = some (.bool false) ∧ w'.cell? ⟨w.heap.size, 3, none⟩ = some (.bool false) ∧ w'.cell? ⟨w.heap.size, 4, none⟩ = some (.slice C4 mops.length c4)) (ds := [10]) #[bF, bF, bF, bF, bF, bF, bF, bF, bF, bF, bF, bF] (by kernel_rfl) rfl rfl ⟨(blkn (HN.out.bel (Below.refl _ _).drew) 0 _ rfl), (blkn (HN.out.bel (Below.refl _ _).drew) 1 _ rfl), (blkn (HN.out.bel (Below.refl _ _).drew) 2 _ rfl), (blkn (HN.out.bel (Below.refl _ _).drew) 3 _ rfl), (blkn (HN.out.bel (Below.refl _ _).drew) 4 _ rfl)⟩ (fun hHeld => ?_)
    refine ppx (i := 1) (N := some 76) #[bF, bT, bF, bF, bF, bF, bF, bF, bF, bF, bF, bF] (h := ?_)
    refine ppx (i := 2) (N := some 77) #[bF, bT, bT, bF, bF, bF, bF, bF, bF, bF, bF, bF] (h := ?_)
    refine ppx (i := 3) (N := some 78) #[bF, bT, bT, bT, bF, bF, bF, bF, bF, bF, bF, bF] (h := ?_)
    refine ppx (i := 5) (N := some 80) #[bF, bT, bT, bT, bF, bT, bF, bF, bF, bF, bF, bF] (h := ?_)
    refine tpx (i := 0) (N := some 75) #[bT, bT, bT, bT, bF, bT, bF, bF, bF, bF, bF, bF] (hy := (Or.inl ⟨by rfl, by rintro w' ⟨s0, s1, s2, s3, s4⟩; go_simp; with_reducible rfl⟩)) (hS := hHeld) (h := ?_)
    refine tpx (i := 4) (N := some 79) #[bT, bT, bT, bT, bT, bT, bF, bF, bF, bF, bF, bF] (hy := (Or.inl ⟨by rfl, by rintro w' ⟨s0, s1, s2, s3, s4⟩; go_simp; with_reducible rfl⟩)) (hS := hHeld) (h := ?_)
    refine tpx (i := 6) (N := some 81) #[bT, bT, bT, bT, bT, bT, bT, bF, bF, bF, bF, bF] (hy := (Or.inl ⟨by rfl, by rintro w' ⟨s0, s1, s2, s3, s4⟩; go_simp; with_reducible rfl⟩)) (hS := hHeld) (h := ?_)
    refine ppx (i := 7) (N := some 82) #[bT, bT, bT, bT, bT, bT, bT, bT, bF, bF, bF, bF] (h := ?_)
    refine ppx (i := 8) (N := some 83) #[bT, bT, bT, bT, bT, bT, bT, bT, bT, bF, bF, bF] (h := ?_)
    refine one_ (i := 9) (N := none) #[bT, bT, bT, bT, bT, bT, bT, bT, bT, bT, bF, bF] rfl rfl (by kernel_rfl) (by decide) (fun K hK => ?_)
    refine skip_ (by rfl) rfl (by go_simp; rfl) ?_
    refine hK.out _ _ ⟨(blkn (HNa.out.bel (Below.refl _ _).drew) 0 _ rfl), (blkn (HNa.out.bel (Below.refl _ _).drew) 1 _ rfl), (blkn (HNa.out.bel (Below.refl _ _).drew) 2 _ rfl), (blkn (HNa.out.bel (Below.refl _ _).drew) 3 _ rfl), (blkn (HNa.out.bel (Below.refl _ _).drew) 4 _ rfl)⟩ (fun hHeld => ?_)
    clear hK K
    refine last_ (i := 10) (N := none) #[bT, bT, bT, bT, bT, bT, bT, bT, bT, bT, bT, bF] rfl rfl (by kernel_rfl) (by decide) (fun K hK => ?_)
    refine skip_ (by rfl) rfl (by go_simp; rfl) ?_
    refine hK.out _ _ ?_
    clear hK K
    refine ppx (i := 11) (N := some 8) #[bT, bT, bT, bT, bT, bT, bT, bT, bT, bT, bT, bT] (h := ?_)
    refine done_ (by kernel_rfl) ?_
    go_wp2
    have h2 := two_new (v1 := [.bool up, .int .i64 mt, .bool false, .bool false, .slice C4 mops.length c4]) (v2 := [.int .i64 4, .int .i64 (3 - id), .int .i64 mt, .int .i64 mops.length, .int .i64 0, .string ⟨#[]⟩, .string ⟨#[]⟩, .int .i64 0, .string ⟨#[]⟩, .slice none 0 0]) rfl hr_ hm_ (show w.heap.size + 1 + 1 ≠ w.heap.size + 1 + 1 + 1 by omega) rfl rfl (by decide) (by decide)
    refine bodyPost_ret (results_list (rs := [.cell 6 25, .cell 7 29, .tmp 8]) rfl (by simp) (.cell _ 25 _ (0, 0) _ rfl (h2.b1.bel bel_drew) Tryz.underlying25 rfl (by kernel_rfl) (.cell _ 29 _ (0, 0) _ rfl (h2.b2.bel bel_drew) Tryz.underlying29 rfl (by kernel_rfl) (.tmp .nil)))) rfl ?_
    exact ⟨_, rfl, (h2.ownT hV2).bel bel_drew, grown_tr (h2.grown hG2 (by omega) (by omega)) (grown_of_bel bel_drew _), fun k hk => .inr (HBA.out k hk)⟩
   ·obtain ⟨rfl, hy4, hy5⟩ := hy3
    obtain rfl : mt = term := by omega
    obtain rfl : leads = false := by cases leads with | false => rfl | true => exact absurd ⟨rfl, rfl⟩ hy5
    by_cases ht2 : (ops.length : Int) < mn
    ·have e1 : hearN ⟨up, mt, false, alone, ops⟩ ⟨3, whom, mt, mn, op, mops⟩ = ⟨up, mt, false, false, mops⟩ := by unfold hearN; simp only []; rw [hkk, hy]; simp [ht2]
     have e3 : hearM ⟨up, mt, false, alone, ops⟩ id ⟨3, whom, mt, mn, op, mops⟩ = ⟨4, 3 - id, mt, mops.length, noO, []⟩ := by unfold hearM; simp only []; rw [hkk, hy, e1]; rfl
     rw [e1, e2, e3]
     clear e1 e2 e3 hkk h hbase ho hso hC hid hr hmn hy k1 hy5 hy4 ht
     go_enter Tryz.func91, Tryz.ntmps91
     go_wp2_with (
      at_builtin
      obtain ⟨hW, hN, hP, hR, hM⟩ := (allocs4 w #[.bool up, .int .i64 mt, .bool false, .bool false, .slice A ops.length c] #[.int .i64 3, .int .i64 whom, .int .i64 mt, .int .i64 mn, .int .i64 op.kind, .string op.name, .string op.dest, .int .i64 op.n, .string op.text, .slice B mops.length bc] #[.bool false, .int .i64 0, .bool false, .bool false, .slice none 0 0] #[.int .i64 0, .int .i64 0, .int .i64 0, .int .i64 0, .int .i64 0, .string ⟨#[]⟩, .string ⟨#[]⟩, .int .i64 0, .string ⟨#[]⟩, .slice none 0 0] 25 29 25 29)
      have hz : w.heap.size + 1 + 1 + 1 + 1 = (((((w.alloc (.cells #[.bool up, .int .i64 mt, .bool false, .bool false, .slice A ops.length c] 25)).alloc (.cells #[.int .i64 3, .int .i64 whom, .int .i64 mt, .int .i64 mn, .int .i64 op.kind, .string op.name, .string op.dest, .int .i64 op.n, .string op.text, .slice B mops.length bc] 29)).alloc (.cells #[.bool false, .int .i64 0, .bool false, .bool false, .slice none 0 0] 25)).alloc (.cells #[.int .i64 0, .int .i64 0, .int .i64 0, .int .i64 0, .int .i64 0, .string ⟨#[]⟩, .string ⟨#[]⟩, .int .i64 0, .string ⟨#[]⟩, .slice none 0 0] 29))).heap.size := by simp
      generalize ((((w.alloc (.cells #[.bool up, .int .i64 mt, .bool false, .bool false, .slice A ops.length c] 25)).alloc (.cells #[.int .i64 3, .int .i64 whom, .int .i64 mt, .int .i64 mn, .int .i64 op.kind, .string op.name, .string op.dest, .int .i64 op.n, .string op.text, .slice B mops.length bc] 29)).alloc (.cells #[.bool false, .int .i64 0, .bool false, .bool false, .slice none 0 0] 25)).alloc (.cells #[.int .i64 0, .int .i64 0, .int .i64 0, .int .i64 0, .int .i64 0, .string ⟨#[]⟩, .string ⟨#[]⟩, .int .i64 0, .string ⟨#[]⟩, .slice none 0 0] 29)) = W0 at hW hN hP hR hM hz ⊢
      rw [hz]
      refine Kd.R_append_rows kOp (w0 := W0) W0.heap.size rfl (.tmp 70) (.tmp 72) 23 27 (.agg #[.int .i64 0, .string ⟨#[]⟩, .string ⟨#[]⟩, .int .i64 0, .string ⟨#[]⟩]) 64 rfl Tryz.underlying23 info_opR rfl (by decide) (by decide) _ [] mops _ _ _ (fun _ => True) (fun _ => False) rfl rfl (R_emptyO W0 W0.heap.size (Nat.le_refl _)) (Kd.C_alloc (kOp_keep HMC.out hW) _) (fun x cs h => by obtain rfl := kOp_open h; exact kOp_mkM _ _ _ x) (fun _ h => h.elim) (fun _ _ => trivial) ?a2 ?a3 ?a4 ?_
      case a2 => exact bel_alloc (Below.refl _ _) _
      case a3 => simp
      case a4 => simp; omega
      intro v w1 hoR hb1 hg hat
      have ho : OwnO w1 W0.heap.size v mops := ownO_of_R hoR
      have hw1 := hW.tr hb1
      have HN1 := Lib.hid (hN.bel hb1)
      have HR1 := Lib.hid (hR.bel hb1)
      have HM1 := Lib.hid (hM.bel hb1)
      have HW1 := Lib.hid hw1
      have HBA := Lib.hid (show ∀ k, v.ownBlock = some k → w.heap.size ≤ k from fun k hk => Nat.le_trans hW.size (own_base ho k hk))
      have HV1 := Lib.hid (show OwnO w1 w.heap.size v mops from own_lower ho hW.size)
      obtain ⟨C4, c4, rfl, hd, hCd⟩ := ho.reads
      clear hW hN hP hR hM hz hoR hb1 hg hat ho hw1 hd hCd
      have b0 := blkn HN1.out 0 _ rfl
      have b1 := blkn HN1.out 1 _ rfl
      have b2 := blkn HN1.out 2 _ rfl
      have b3 := blkn HN1.out 3 _ rfl
      have b4 := blkn HN1.out 4 _ rfl
      have bf4 := HN1.out.free 4
      have by_ := HN1.out.lt)
     clear b0 b1 b2 b3 b4 bf4 by_
     have hN2 := HN1.out.set 4 (.slice C4 mops.length c4) (cs' := #[.bool up, .int .i64 mt, .bool false, .bool false, .slice C4 mops.length c4]) rfl
     have hR2 := HR1.out.apart (show ¬ w.heap.size = w.heap.size + 1 + 1 by omega) 4 (.slice C4 mops.length c4)
     have hM2 := HM1.out.apart (show ¬ w.heap.size = w.heap.size + 1 + 1 + 1 by omega) 4 (.slice C4 mops.length c4)
     have hV2 := (OwnO.tail (HV1.out.far HN1.out (by decide) 4 (.slice C4 mops.length c4))).lower HBS.out
     have hG2 := grown_of_bel (bel_set HW1.out (Nat.le_refl _) 4 (.slice C4 mops.length c4)) (Value.slice A ops.length c).ownBlock
     generalize (w1.setCell ⟨w.heap.size, 4, none⟩ (.slice C4 mops.length c4)) = W2 at hN2 hR2 hM2 hV2 hG2 ⊢
     have HN := Lib.hid hN2
     clear hN2 HN1 HR1 HM1 HW1 HV1
     have hq0 : w.heap.size + 1 + 1 ≠ w.heap.size := by omega
     have HNa := Lib.hid (HN.out.apart5 hq0 (.bool up) (.int .i64 mt) (.bool false) (.bool false) (.slice C4 mops.length c4))
     have hr_ := hR2
     have hm_ := hM2
     have r0 := blkn hr_ 0 _ rfl
     have r1 := blkn hr_ 1 _ rfl
     have r2 := blkn hr_ 2 _ rfl
     have r3 := blkn hr_ 3 _ rfl
     have r4 := blkn hr_ 4 _ rfl
     have m0 := blkn hm_ 0 _ rfl
     have m1 := blkn hm_ 1 _ rfl
     have m2 := blkn hm_ 2 _ rfl
     have m3 := blkn hm_ 3 _ rfl
     have m4 := blkn hm_ 4 _ rfl
     have m5 := blkn hm_ 5 _ rfl
     have m6 := blkn hm_ 6 _ rfl
     have m7 := blkn hm_ 7 _ rfl
     have m8 := blkn hm_ 8 _ rfl
     have m9 := blkn hm_ 9 _ rfl
     have rf0 := hr_.free 0
     have rf1 := hr_.free 1
     have rf2 := hr_.free 2
     have rf3 := hr_.free 3
     have rf4 := hr_.free 4
     have mf0 := hm_.free 0
     have mf1 := hm_.free 1
     have mf2 := hm_.free 2
     have mf3 := hm_.free 3
     have mf4 := hm_.free 4
     have mf5 := hm_.free 5
     have mf6 := hm_.free 6
     have mf7 := hm_.free 7
     have mf8 := hm_.free 8
     have mf9 := hm_.free 9
     have ry := hr_.lt
     have my := hm_.lt
     refine start_ (n := 12) (S := fun w' => w'.cell? ⟨w.heap.size, 0, none⟩ = some (.bool up) ∧ w'.cell? ⟨w.heap.size, 1, none⟩ = some (.int .i64 mt) ∧ w'.cell? ⟨w.heap.size, 2, none⟩ = some (.bool false) ∧ w'.cell? ⟨w.heap.size, 3, none⟩ = some (.bool false) ∧ w'.cell? ⟨w.heap.size, 4, none⟩ = some (.slice C4 mops.length c4)) (ds := [10]) #[bF, bF, bF, bF, bF, bF, bF, bF, bF, bF, bF, bF] (by kernel_rfl) rfl rfl ⟨(blkn (HN.out.bel (Below.refl _ _).drew) 0 _ rfl), (blkn (HN.out.bel (Below.refl _ _).drew) 1 _ rfl), (blkn (HN.out.bel (Below.refl _ _).drew) 2 _ rfl), (blkn (HN.out.bel (Below.refl _ _).drew) 3 _ rfl), (blkn (HN.out.bel (Below.refl _ _).drew) 4 _ rfl)⟩ (fun hHeld => ?_)
     refine ppx (i := 1) (N := some 76) #[bF, bT, bF, bF, bF, bF, bF, bF, bF, bF, bF, bF] (h := ?_)
     refine ppx (i := 2) (N := some 77) #[bF, bT, bT, bF, bF, bF, bF, bF, bF, bF, bF, bF] (h := ?_)
     refine ppx (i := 3) (N := some 78) #[bF, bT, bT, bT, bF, bF, bF, bF, bF, bF, bF, bF] (h := ?_)
     refine ppx (i := 5) (N := some 80) #[bF, bT, bT, bT, bF, bT, bF, bF, bF, bF, bF, bF] (h := ?_)
     refine tpx (i := 0) (N := some 75) #[bT, bT, bT, bT, bF, bT, bF, bF, bF, bF, bF, bF] (hy := (Or.inl ⟨by rfl, by rintro w' ⟨s0, s1, s2, s3, s4⟩; go_simp; with_reducible rfl⟩)) (hS := hHeld) (h := ?_)
     refine tpx (i := 4) (N := some 79) #[bT, bT, bT, bT, bT, bT, bF, bF, bF, bF, bF, bF] (hy := (Or.inl ⟨by rfl, by rintro w' ⟨s0, s1, s2, s3, s4⟩; go_simp; with_reducible rfl⟩)) (hS := hHeld) (h := ?_)
     refine tpx (i := 6) (N := some 81) #[bT, bT, bT, bT, bT, bT, bT, bF, bF, bF, bF, bF] (hy := (Or.inl ⟨by rfl, by rintro w' ⟨s0, s1, s2, s3, s4⟩; go_simp; with_reducible rfl⟩)) (hS := hHeld) (h := ?_)
     refine ppx (i := 7) (N := some 82) #[bT, bT, bT, bT, bT, bT, bT, bT, bF, bF, bF, bF] (h := ?_)
     refine ppx (i := 8) (N := some 83) #[bT, bT, bT, bT, bT, bT, bT, bT, bT, bF, bF, bF] (h := ?_)
     refine one_ (i := 9) (N := none) #[bT, bT, bT, bT, bT, bT, bT, bT, bT, bT, bF, bF] rfl rfl (by kernel_rfl) (by decide) (fun K hK => ?_)
     refine skip_ (by rfl) rfl (by go_simp; rfl) ?_
     refine hK.out _ _ ⟨(blkn (HNa.out.bel (Below.refl _ _).drew) 0 _ rfl), (blkn (HNa.out.bel (Below.refl _ _).drew) 1 _ rfl), (blkn (HNa.out.bel (Below.refl _ _).drew) 2 _ rfl), (blkn (HNa.out.bel (Below.refl _ _).drew) 3 _ rfl), (blkn (HNa.out.bel (Below.refl _ _).drew) 4 _ rfl)⟩ (fun hHeld => ?_)
     clear hK K
     refine last_ (i := 10) (N := none) #[bT, bT, bT, bT, bT, bT, bT, bT, bT, bT, bT, bF] rfl rfl (by kernel_rfl) (by decide) (fun K hK => ?_)
     refine skip_ (by rfl) rfl (by go_simp; rfl) ?_
     refine hK.out _ _ ?_
     clear hK K
     refine ppx (i := 11) (N := some 8) #[bT, bT, bT, bT, bT, bT, bT, bT, bT, bT, bT, bT] (h := ?_)
     refine done_ (by kernel_rfl) ?_
     go_wp2
     have h2 := two_new (v1 := [.bool up, .int .i64 mt, .bool false, .bool false, .slice C4 mops.length c4]) (v2 := [.int .i64 4, .int .i64 (3 - id), .int .i64 mt, .int .i64 mops.length, .int .i64 0, .string ⟨#[]⟩, .string ⟨#[]⟩, .int .i64 0, .string ⟨#[]⟩, .slice none 0 0]) rfl hr_ hm_ (show w.heap.size + 1 + 1 ≠ w.heap.size + 1 + 1 + 1 by omega) rfl rfl (by decide) (by decide)
     refine bodyPost_ret (results_list (rs := [.cell 6 25, .cell 7 29, .tmp 8]) rfl (by simp) (.cell _ 25 _ (0, 0) _ rfl (h2.b1.bel bel_drew) Tryz.underlying25 rfl (by kernel_rfl) (.cell _ 29 _ (0, 0) _ rfl (h2.b2.bel bel_drew) Tryz.underlying29 rfl (by kernel_rfl) (.tmp .nil)))) rfl ?_
     exact ⟨_, rfl, (h2.ownT hV2).bel bel_drew, grown_tr (h2.grown hG2 (by omega) (by omega)) (grown_of_bel bel_drew _), fun k hk => .inr (HBA.out k hk)⟩
    ·have e1 : hearN ⟨up, mt, false, alone, ops⟩ ⟨3, whom, mt, mn, op, mops⟩ = ⟨up, mt, false, alone, ops⟩ := by unfold hearN; simp only []; rw [hkk, hy]; simp [ht2]
     have e3 : hearM ⟨up, mt, false, alone, ops⟩ id ⟨3, whom, mt, mn, op, mops⟩ = ⟨4, 3 - id, mt, ops.length, noO, []⟩ := by unfold hearM; simp only []; rw [hkk, hy, e1]; rfl
     rw [e1, e2, e3]
     clear e1 e2 e3 hkk h hbase ho hso hC hid hr hmn hy k1 hy5 hy4 ht
     go_enter Tryz.func91, Tryz.ntmps91
     go_wp2
     obtain ⟨hW, hN, hP, hR, hM⟩ := (allocs4 w #[.bool up, .int .i64 mt, .bool false, .bool alone, .slice A ops.length c] #[.int .i64 3, .int .i64 whom, .int .i64 mt, .int .i64 mn, .int .i64 op.kind, .string op.name, .string op.dest, .int .i64 op.n, .string op.text, .slice B mops.length bc] #[.bool false, .int .i64 0, .bool false, .bool false, .slice none 0 0] #[.int .i64 0, .int .i64 0, .int .i64 0, .int .i64 0, .int .i64 0, .string ⟨#[]⟩, .string ⟨#[]⟩, .int .i64 0, .string ⟨#[]⟩, .slice none 0 0] 25 29 25 29)
     generalize ((((w.alloc (.cells #[.bool up, .int .i64 mt, .bool false, .bool alone, .slice A ops.length c] 25)).alloc (.cells #[.int .i64 3, .int .i64 whom, .int .i64 mt, .int .i64 mn, .int .i64 op.kind, .string op.name, .string op.dest, .int .i64 op.n, .string op.text, .slice B mops.length bc] 29)).alloc (.cells #[.bool false, .int .i64 0, .bool false, .bool false, .slice none 0 0] 25)).alloc (.cells #[.int .i64 0, .int .i64 0, .int .i64 0, .int .i64 0, .int .i64 0, .string ⟨#[]⟩, .string ⟨#[]⟩, .int .i64 0, .string ⟨#[]⟩, .slice none 0 0] 29)) = W0 at hW hN hP hR hM ⊢
     have hR2 := hR
     have hM2 := hM
     have hV2 := HT.out.bel hW
     have hG2 := grown_of_bel hW (Value.slice A ops.length c).ownBlock
     have HN := Lib.hid hN
     clear hN hP hR hM hW
     have hq0 : w.heap.size + 1 + 1 ≠ w.heap.size := by omega
     have HNa := Lib.hid (HN.out.apart5 hq0 (.bool up) (.int .i64 mt) (.bool false) (.bool alone) (.slice A ops.length c))
     have hr_ := hR2
     have hm_ := hM2
     have r0 := blkn hr_ 0 _ rfl
     have r1 := blkn hr_ 1 _ rfl
     have r2 := blkn hr_ 2 _ rfl
     have r3 := blkn hr_ 3 _ rfl
     have r4 := blkn hr_ 4 _ rfl
     have m0 := blkn hm_ 0 _ rfl
     have m1 := blkn hm_ 1 _ rfl
     have m2 := blkn hm_ 2 _ rfl
     have m3 := blkn hm_ 3 _ rfl
     have m4 := blkn hm_ 4 _ rfl
     have m5 := blkn hm_ 5 _ rfl
     have m6 := blkn hm_ 6 _ rfl
     have m7 := blkn hm_ 7 _ rfl
     have m8 := blkn hm_ 8 _ rfl
     have m9 := blkn hm_ 9 _ rfl
     have rf0 := hr_.free 0
     have rf1 := hr_.free 1
     have rf2 := hr_.free 2
     have rf3 := hr_.free 3
     have rf4 := hr_.free 4
     have mf0 := hm_.free 0
     have mf1 := hm_.free 1
     have mf2 := hm_.free 2
     have mf3 := hm_.free 3
     have mf4 := hm_.free 4
     have mf5 := hm_.free 5
     have mf6 := hm_.free 6
     have mf7 := hm_.free 7
     have mf8 := hm_.free 8
     have mf9 := hm_.free 9
     have ry := hr_.lt
     have my := hm_.lt
     refine start_ (n := 12) (S := fun w' => w'.cell? ⟨w.heap.size, 0, none⟩ = some (.bool up) ∧ w'.cell? ⟨w.heap.size, 1, none⟩ = some (.int .i64 mt) ∧ w'.cell? ⟨w.heap.size, 2, none⟩ = some (.bool false) ∧ w'.cell? ⟨w.heap.size, 3, none⟩ = some (.bool alone) ∧ w'.cell? ⟨w.heap.size, 4, none⟩ = some (.slice A ops.length c)) (ds := [10]) #[bF, bF, bF, bF, bF, bF, bF, bF, bF, bF, bF, bF] (by kernel_rfl) rfl rfl ⟨(blkn (HN.out.bel (Below.refl _ _).drew) 0 _ rfl), (blkn (HN.out.bel (Below.refl _ _).drew) 1 _ rfl), (blkn (HN.out.bel (Below.refl _ _).drew) 2 _ rfl), (blkn (HN.out.bel (Below.refl _ _).drew) 3 _ rfl), (blkn (HN.out.bel (Below.refl _ _).drew) 4 _ rfl)⟩ (fun hHeld => ?_)
     refine ppx (i := 1) (N := some 76) #[bF, bT, bF, bF, bF, bF, bF, bF, bF, bF, bF, bF] (h := ?_)
     refine ppx (i := 2) (N := some 77) #[bF, bT, bT, bF, bF, bF, bF, bF, bF, bF, bF, bF] (h := ?_)
     refine ppx (i := 3) (N := some 78) #[bF, bT, bT, bT, bF, bF, bF, bF, bF, bF, bF, bF] (h := ?_)
     refine ppx (i := 5) (N := some 80) #[bF, bT, bT, bT, bF, bT, bF, bF, bF, bF, bF, bF] (h := ?_)
     refine tpx (i := 0) (N := some 75) #[bT, bT, bT, bT, bF, bT, bF, bF, bF, bF, bF, bF] (hy := (Or.inl ⟨by rfl, by rintro w' ⟨s0, s1, s2, s3, s4⟩; go_simp; with_reducible rfl⟩)) (hS := hHeld) (h := ?_)
     refine tpx (i := 4) (N := some 79) #[bT, bT, bT, bT, bT, bT, bF, bF, bF, bF, bF, bF] (hy := (Or.inl ⟨by rfl, by rintro w' ⟨s0, s1, s2, s3, s4⟩; go_simp; with_reducible rfl⟩)) (hS := hHeld) (h := ?_)
     refine tpx (i := 6) (N := some 81) #[bT, bT, bT, bT, bT, bT, bT, bF, bF, bF, bF, bF] (hy := (Or.inl ⟨by rfl, by rintro w' ⟨s0, s1, s2, s3, s4⟩; go_simp; with_reducible rfl⟩)) (hS := hHeld) (h := ?_)
     refine ppx (i := 7) (N := some 82) #[bT, bT, bT, bT, bT, bT, bT, bT, bF, bF, bF, bF] (h := ?_)
     refine ppx (i := 8) (N := some 83) #[bT, bT, bT, bT, bT, bT, bT, bT, bT, bF, bF, bF] (h := ?_)
     refine one_ (i := 9) (N := none) #[bT, bT, bT, bT, bT, bT, bT, bT, bT, bT, bF, bF] rfl rfl (by kernel_rfl) (by decide) (fun K hK => ?_)
     refine skip_ (by rfl) rfl (by go_simp; rfl) ?_
     refine hK.out _ _ ⟨(blkn (HNa.out.bel (Below.refl _ _).drew) 0 _ rfl), (blkn (HNa.out.bel (Below.refl _ _).drew) 1 _ rfl), (blkn (HNa.out.bel (Below.refl _ _).drew) 2 _ rfl), (blkn (HNa.out.bel (Below.refl _ _).drew) 3 _ rfl), (blkn (HNa.out.bel (Below.refl _ _).drew) 4 _ rfl)⟩ (fun hHeld => ?_)
     clear hK K
     refine last_ (i := 10) (N := none) #[bT, bT, bT, bT, bT, bT, bT, bT, bT, bT, bT, bF] rfl rfl (by kernel_rfl) (by decide) (fun K hK => ?_)
     refine skip_ (by rfl) rfl (by go_simp; rfl) ?_
     refine hK.out _ _ ?_
     clear hK K
     refine ppx (i := 11) (N := some 8) #[bT, bT, bT, bT, bT, bT, bT, bT, bT, bT, bT, bT] (h := ?_)
     refine done_ (by kernel_rfl) ?_
     go_wp2
     have h2 := two_new (v1 := [.bool up, .int .i64 mt, .bool false, .bool alone, .slice A ops.length c]) (v2 := [.int .i64 4, .int .i64 (3 - id), .int .i64 mt, .int .i64 ops.length, .int .i64 0, .string ⟨#[]⟩, .string ⟨#[]⟩, .int .i64 0, .string ⟨#[]⟩, .slice none 0 0]) rfl hr_ hm_ (show w.heap.size + 1 + 1 ≠ w.heap.size + 1 + 1 + 1 by omega) rfl rfl (by decide) (by decide)
     refine bodyPost_ret (results_list (rs := [.cell 6 25, .cell 7 29, .tmp 8]) rfl (by simp) (.cell _ 25 _ (0, 0) _ rfl (h2.b1.bel bel_drew) Tryz.underlying25 rfl (by kernel_rfl) (.cell _ 29 _ (0, 0) _ rfl (h2.b2.bel bel_drew) Tryz.underlying29 rfl (by kernel_rfl) (.tmp .nil)))) rfl ?_
     exact ⟨_, rfl, (h2.ownT hV2).bel bel_drew, grown_tr (h2.grown hG2 (by omega) (by omega)) (grown_of_bel bel_drew _), fun k hk => .inl hk⟩
end
end Go.Proofs.YtccllgpaafgjaaaGreat

/- The values of the program as Lean data (slots, volumes, operations), how their cells read in memory, and small lemmas for the walks. -/
import Derived.Test.YtpobgjkmjlmafaaProg
import Derived.Below
import Derived.Deep.Draws
import Derived.Deep.AppendLies
import Derived.OwnWalk
import Derived.Laws.MakeOwn
import Derived.Laws.OwnMore
import Derived.Deep.OwnRows
import Derived.Tactics
import Derived.Laws.Slices
import Derived.WalkKit
import Derived.KernelRfl
import Derived.RowKit3
import Derived.Deep.LoopGhost
import Derived.Deep.QuietTactic
import Derived.BigQuiet
import Derived.WideLaws
import Derived.Deep.DeepCutAuto
import Derived.Deep.CutBlock
import Derived.Deep.RegionHeld3
import Derived.StillTailTactics
import Derived.Deep.RegionWith
import Derived.Deep.DeepFit
import Derived.Outline
import Derived.Says
import Derived.Laws.Rows
import Derived.RowKit
import Derived.Lib.Hide
import Derived.WalkLawsBesides
import Derived.Test.YtpobgjkmjlmafaaWWords
namespace Go.Proofs.Ytpobgjkmjlmafaa
open Go.RowKit Go.Proofs.YtpobgjkmjlmafaaW.PrintWords
set_option linter.unusedVariables false
set_option linter.unusedSimpArgs false

/-! ### data -/
structure Slot where
  text : ByteArray
  uses : Int
structure Vol where
  name : ByteArray
  blocks : List Int
structure Pool where
  slots : List Slot
  vols : List Vol
structure Op where
  kind : Int
  name : ByteArray
  dest : ByteArray
  n : Int
  text : ByteArray
def Slot.z : Slot := ⟨⟨#[]⟩, 0⟩
def Vol.z : Vol := ⟨⟨#[]⟩, []⟩
def Op.z : Op := ⟨0, ⟨#[]⟩, ⟨#[]⟩, 0, ⟨#[]⟩⟩
abbrev kInt : Kd Int := Kd.int .i64
def kSlot : Kd Slot := Kd.iso (Kd.pair Kd.string kInt) (fun x : Slot => (x.text, x.uses))
def kVol : Kd Vol := Kd.iso (Kd.pair Kd.string (Kd.slice 3 kInt)) (fun x : Vol => (x.name, x.blocks))
theorem kSlot_open {w : World} {x : Slot} {cs : List Value} (h : kSlot.K w x cs) : cs = [.string x.text, .int .i64 x.uses] := by
  obtain ⟨_, _, rfl, rfl, rfl⟩ := h
  exact rfl
theorem kVol_open {w : World} {x : Vol} {cs : List Value} (h : kVol.K w x cs) : ∃ A1 c1, cs = [.string x.name, .slice A1 x.blocks.length c1] ∧ x.blocks.length ≤ c1 ∧ kInt.C w A1 x.blocks.length x.blocks := by
  obtain ⟨_, _, rfl, rfl, ⟨A1, c1, rfl, l1, g1⟩⟩ := h
  exact ⟨A1, c1, rfl, l1, g1⟩
theorem getQ {α} {xs : List α} {k : Nat} (h : k < xs.length) : ∃ x, xs[k]? = some x := ⟨_, List.getElem?_eq_getElem h⟩
theorem ltQ {α} {xs : List α} {k : Nat} {x : α} (h : xs[k]? = some x) : k < xs.length := (List.getElem?_eq_some_iff.1 h).1
theorem take_snoc {α} {xs : List α} {d : α} {k : Nat} (h : xs[k]? = some d) : xs.take (k + 1) = xs.take k ++ [d] := by
  rw [List.take_add_one, h]; rfl
theorem take_all {α} {xs : List α} {k : Nat} (h : ¬ k < xs.length) : xs.take k = xs := List.take_of_length_le (Nat.le_of_not_lt h)
/-- Element number i of a row, as a walk reads it. -/
theorem at_slot {w : World} {A : Option Addr} {n : Nat} {xs : List Slot} (h : Kd.C kSlot w A n xs) {i : Nat} {x : Slot} (hx : xs[i]? = some x) : ∃ ad, A = some ad ∧ w.cell? (ad.add (i * 2)) = some (.string x.text) ∧ w.cell? ⟨(ad.add (i * 2)).block, (ad.add (i * 2)).off + 1, none⟩ = some (.int .i64 x.uses) := by
  have hl := h.1 ▸ ltQ hx
  obtain ⟨ad, c, e, _, hK, hc0⟩ := Kd.C_get h Slot.z i (by omega) (by omega)
  have hc : ∀ j u, c[j]? = some u → w.cell? (ad.add (i * 2 + j)) = some u := hc0
  have he : xs.getD (i : Int).toNat Slot.z = x := by rw [List.getD_eq_getElem?_getD, Int.toNat_natCast, hx]; rfl
  rw [he] at hK
  obtain rfl := kSlot_open hK
  exact ⟨ad, e, hc 0 _ rfl, by rw [← add_field _ _ 1 (by omega)]; exact hc 1 _ rfl⟩
theorem at_vol {w : World} {A : Option Addr} {n : Nat} {xs : List Vol} (h : Kd.C kVol w A n xs) {i : Nat} {x : Vol} (hx : xs[i]? = some x) : ∃ ad A1 c1, A = some ad ∧ w.cell? (ad.add (i * 2)) = some (.string x.name) ∧ w.cell? ⟨(ad.add (i * 2)).block, (ad.add (i * 2)).off + 1, none⟩ = some (.slice A1 x.blocks.length c1) ∧ x.blocks.length ≤ c1 ∧ kInt.C w A1 x.blocks.length x.blocks := by
  have hl := h.1 ▸ ltQ hx
  obtain ⟨ad, c, e, _, hK, hc0⟩ := Kd.C_get h Vol.z i (by omega) (by omega)
  have hc : ∀ j u, c[j]? = some u → w.cell? (ad.add (i * 2 + j)) = some u := hc0
  have he : xs.getD (i : Int).toNat Vol.z = x := by rw [List.getD_eq_getElem?_getD, Int.toNat_natCast, hx]; rfl
  rw [he] at hK
  obtain ⟨A1, c1, rfl, l1, g1⟩ := kVol_open hK
  exact ⟨ad, A1, c1, e, hc 0 _ rfl, by rw [← add_field _ _ 1 (by omega)]; exact hc 1 _ rfl, l1, g1⟩
theorem at_int {w : World} {A : Option Addr} {n : Nat} {xs : List Int} (h : kInt.C w A n xs) {i : Nat} {x : Int} (hx : xs[i]? = some x) : ∃ ad, A = some ad ∧ w.cell? (ad.add i) = some (.int .i64 x) := by
  have hl := h.1 ▸ ltQ hx
  obtain ⟨ad, e, hc⟩ := Kd.at_int h i (by omega) (by omega)
  have he : rd xs (i : Int) = x := by unfold rd; rw [List.getD_eq_getElem?_getD, Int.toNat_natCast, hx]; rfl
  rw [he] at hc
  exact ⟨ad, e, hc⟩
theorem C_take {α} {d : Kd α} {w : World} {A : Option Addr} {n : Nat} {xs : List α} (h : d.C w A n xs) (k : Nat) (hk : k ≤ n) : d.C w A k (xs.take k) :=
  ⟨by rw [List.length_take, h.1]; omega, Nat.le_trans hk h.2.1, fun h0 => by
    obtain ⟨ad, e, hc⟩ := h.2.2 (by omega)
    exact ⟨ad, e, fun j p hj => hc j p (by rw [List.getElem?_take] at hj; split at hj <;> simp_all)⟩⟩
/-- A call that hands back v and leaves all that lay in memory. -/
abbrev Bel (w w' : World) : Prop := Below w.heap.size w w'
def Ret (v : Value) (w : World) (e : Ending) (w' : World) : Prop := e = .returned v ∧ Bel w w'
/-- .. and makes nothing. -/
def Same (v : Value) (w : World) (e : Ending) (w' : World) : Prop := e = .returned v ∧ w = w'
theorem Bel.tr {a b c : World} (h : Bel a b) (k : Bel b c) : Bel a c := h.trans (k.mono h.size)
theorem bel_alloc {a b : World} (h : Bel a b) (o : Obj) : Bel a (b.alloc o) := h.alloc h.size o
theorem _root_.Go.Calls.ret {v : Value} {w : World} {P : Program} {f : FuncId} {args : Array Value} (h : Calls P f args w (Same v w)) : Calls P f args w (Ret v w) :=
  h.mono fun _ _ ⟨h1, h2⟩ => ⟨h1, h2 ▸ Below.refl _ _⟩
theorem ret_int {k : IntKind} {a b : Int} (h : a = b) : Ending.returned (.int k a) = .returned (.int k b) := by rw [h]
theorem ret_bool {a b : Bool} (h : a = b) : Ending.returned (.bool a) = .returned (.bool b) := by rw [h]
theorem int_eq {k : IntKind} {a b : Int} (h : a = b) : Value.int k a = .int k b := by rw [h]
theorem bcell {W w1 : World} (hb : Bel W w1) : (∀ b o, b < W.heap.size → w1.cell? ⟨b, o, none⟩ = W.cell? ⟨b, o, none⟩) ∧ (∀ b o, b < W.heap.size → w1.frozen? ⟨b, o, none⟩ = W.frozen? ⟨b, o, none⟩) :=
  ⟨fun b o h => hb.cell (p := ⟨b, o, none⟩) h, fun b o h => hb.frozen (p := ⟨b, o, none⟩) h⟩
/-- A block of one's own, told aside; kept over a call. -/
def Blk (w : World) (b : Nat) (cs : Array Value) (t : TypeId) : Prop := w.heap[b]? = some (.cells cs t (0, 0))
theorem Blk.bel {w w' : World} {b : Nat} {cs : Array Value} {t : TypeId} (h : Blk w b cs t) (hb : Bel w w') : Blk w' b cs t := (hb.block _ (blk_lt h)).trans h
theorem Blk.alloc {w : World} {b : Nat} {cs : Array Value} {t : TypeId} (h : Blk w b cs t) (o : Obj) : Blk (w.alloc o) b cs t := h.bel (bel_alloc (Below.refl _ _) o)
theorem Blk.new (w : World) (cs : Array Value) (t : TypeId) : Blk (w.alloc (.cells cs t)) w.heap.size cs t := heap_alloc_new w _
theorem Blk.cell {w : World} {b : Nat} {cs : Array Value} {t : TypeId} (h : Blk w b cs t) (i : Nat) : w.cell? ⟨b, i, none⟩ = cs[i]? := blk_cell h i
theorem Blk.free {w : World} {b : Nat} {cs : Array Value} {t : TypeId} (h : Blk w b cs t) (i : Nat) : w.frozen? ⟨b, i, none⟩ = false := blk_frozen h i
theorem Blk.lt {w : World} {b : Nat} {cs : Array Value} {t : TypeId} (h : Blk w b cs t) : b < w.heap.size := blk_lt h
/-- Worlds that have grown out of w: the class for regions that draw their order and whose callees lay blocks. -/
structure GB (w : World) where
  W : World
  h : Bel w W
instance (w : World) : Inhabited (GB w) := ⟨⟨w, Below.refl _ _⟩⟩
theorem wp_region_gb {P : Program} {id : Nat} {Q : Exit → Act → World → Prop} {a : Act} {w : World} {l : List Oper} (hm : P.follows .mixedOrders = true) (hB : Region.lexB .any l.toArray = true)
    (h : wpQuiet P l.toArray (fun w' => ∃ p : GB w, w' = p.W) (fun a' => ∀ w', (∃ p : GB w, w' = p.W) → Q .normal a' w') l a) : (Code.region id l.toArray true).wp P Q a w :=
  wp_region_quiet (C := fun w' => ∃ p : GB w, w' = p.W) hm hB ⟨⟨_, (Below.refl _ _).drew⟩, rfl⟩ (by simpa using h)
theorem gb_cell {w : World} {a : Addr} {v : Value} (h : w.cell? a = some v) (p : GB w) : p.W.cell? a = some v := (p.h.cell (World.block_lt_of_cell? w _ h)).trans h
theorem gb_call {P : Program} {f : FuncId} {args : Array Value} {w : World} {v : Value} {p : GB w} (h : Calls P f args p.W (Ret v p.W)) : Calls P f args p.W fun e w'' => e = .returned v ∧ ∃ q : GB w, w'' = q.W :=
  h.mono fun _ _ ⟨he, hb⟩ => ⟨he, ⟨⟨_, p.h.tr hb⟩, rfl⟩⟩
theorem gb_same {P : Program} {f : FuncId} {args : Array Value} {w : World} {v : Value} {p : GB w} (h : Calls P f args p.W (Same v p.W)) : Calls P f args p.W fun e w'' => e = .returned v ∧ ∃ q : GB w, w'' = q.W := gb_call h.ret
end Go.Proofs.Ytpobgjkmjlmafaa

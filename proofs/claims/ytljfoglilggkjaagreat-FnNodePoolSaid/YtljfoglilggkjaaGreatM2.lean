/- Contracts of the program's and the reference's functions, and the plain laws behind them: part 2 of 13. -/
import Derived.Test.YtljfoglilggkjaaGreatM1
import Derived.OrdersHeld
import Derived.Deep.RegionHeld3
import Derived.Laws.BitsLemmas
import Derived.RowKit
import Derived.Laws.IdiomCopy
import Derived.Deep.RegionLaw
import Derived.Shelf.RegionOpenPlain
import Derived.Lib.Overlaps
import Derived.Lib.AppendZerosOnto
import Derived.Lib.SliceRun
import Derived.Lib.Bytealg
import Derived.Laws.Externs
set_option linter.unusedVariables false
set_option linter.unusedSimpArgs false
set_option maxHeartbeats 64000000
set_option maxRecDepth 10000
/-
  PRINTED WORDS, second file: A REGION THAT DRAWS ITS ORDER, WALKED BY HAND, where its last store writes what its own loads read ('x.f = append(x.f, f(i))'). Plain theorems; no macro, no elab. A claim may hold it (turn the namespace's name).
  A load may be taken first in every world that meets S; behind the operations of ds nothing is shown; sound because each of ds waits for what is taken (Region.lastB). The kernel checks it.
  By an AI agent of Go's test side, Mon Nov 16 2026. No person has read it.
-/
namespace Go.Proofs.YtljfoglilggkjaaGreatW.PrintLast
section
variable {P : Program} {ops : Array Oper} {Q : Exit → Act → World → Prop} {md : Region.Mode} {S : World → Prop} {ds : List Nat}
def Region.reachB (md : Region.Mode) (ops : Array Oper) (i : Nat) : Nat → Nat → Bool
 | 0, _ => false
 | fuel + 1, d => match ops[d]? with
  | some o => o.after.any fun e => Region.binds md e && (e.on == i || Region.reachB md ops i fuel e.on)
  | none => false
def Region.closedB (md : Region.Mode) (ops : Array Oper) (listed : Array Bool) : Bool :=
 (List.range ops.size).all fun j => !listed.getD j false || match ops[j]? with
  | some o => o.after.all fun e => !Region.binds md e || listed.getD e.on false
  | none => true
def Region.lastB (md : Region.Mode) (ops : Array Oper) (listed : Array Bool) (ds : List Nat) (i : Nat) : Bool :=
 ds.all fun d => listed.getD d true || Region.reachB md ops i ops.size d
def ListedClosed (md : Region.Mode) (ops : Array Oper) (listed : Array Bool) : Prop :=
 ∀ j oj, ops[j]? = some oj → listed.getD j false = true → ∀ e ∈ oj.after, Region.binds md e = true → listed.getD e.on false = true
theorem Region.closedB_spec {listed : Array Bool} (h : Region.closedB md ops listed = true) : ListedClosed md ops listed := by
 intro j oj hj hl e he hb
 have hlt : j < ops.size := (Array.getElem?_eq_some_iff.1 hj).1
 have h1 := List.all_eq_true.1 h j (List.mem_range.2 hlt)
 simp only [hl, hj, Bool.not_true, Bool.false_or] at h1
 have h2 := Array.all_eq_true_iff_forall_mem.1 h1 e he
 simpa [hb] using h2
theorem ListedClosed.set {listed : Array Bool} {i : Nat} (h : ListedClosed md ops listed) (hi : i ∈ Region.ready md ops listed) : ListedClosed md ops (listed.setIfInBounds i true) := by
 obtain ⟨_, oi, hoi, hall⟩ := mem_ready.1 hi
 intro j oj hj hl e he hb
 by_cases hij : i = j
 ·subst hij
  have : oj = oi := Option.some.inj (hj.symm.trans hoi)
  subst this
  exact getD_set_true (hall e he hb)
 ·rw [getD_set_ne false hij] at hl
  exact getD_set_true (h j oj hj hl e he hb)
theorem Region.reach_listed {listed : Array Bool} {i : Nat} (hc : ListedClosed md ops listed) : ∀ (fuel d : Nat), Region.reachB md ops i fuel d = true → listed.getD d false = true → listed.getD i false = true
 | 0, _, h, _ => by simp [Region.reachB] at h
 | fuel + 1, d, h, hl => by
  unfold Region.reachB at h
  cases ho : ops[d]? with
  | none => rw [ho] at h; simp at h
  | some o =>
   rw [ho] at h
   obtain ⟨e, he, h1⟩ := Array.any_eq_true'.1 h
   simp only [Bool.and_eq_true, Bool.or_eq_true, beq_iff_eq] at h1
   have hle := hc d o ho hl e he h1.1
   rcases h1.2 with h2 | h2
   ·rw [← h2]; exact hle
   ·exact Region.reach_listed hc fuel e.on h2 hle
theorem Region.reach_not_ready {listed : Array Bool} {i d fuel : Nat} (hc : ListedClosed md ops listed) (hr : Region.reachB md ops i fuel d = true) (hun : listed.getD i true = false) : d ∉ Region.ready md ops listed := by
 intro hd
 obtain ⟨_, o, ho, hall⟩ := mem_ready.1 hd
 have hi : listed.getD i false = true := by
  cases fuel with
  | zero => simp [Region.reachB] at hr
  | succ n =>
   unfold Region.reachB at hr
   rw [ho] at hr
   obtain ⟨e, he, h1⟩ := Array.any_eq_true'.1 hr
   simp only [Bool.and_eq_true, Bool.or_eq_true, beq_iff_eq] at h1
   have hle := hall e he h1.1
   rcases h1.2 with h2 | h2
   ·rw [← h2]; exact hle
   ·exact Region.reach_listed hc n e.on h2 hle
 rcases Nat.lt_or_ge i listed.size with h' | h'
 ·simp [h'] at hun hi
  rw [hun] at hi
  cases hi
 ·simp [Array.getElem?_eq_none h'] at hun
def wpAnyLast (P : Program) (md : Region.Mode) (ops : Array Oper) (Q : Exit → Act → World → Prop) (S : World → Prop) (ds : List Nat) : Nat → Array Bool → Act → World → Prop
 | 0, listed, a, w => Region.ready md ops listed = [] ∧ Q .normal a w
 | fuel + 1, listed, a, w =>
  (Region.ready md ops listed = [] → Q .normal a w) ∧
  ∀ i ∈ Region.ready md ops listed, wpOp P ops Q i (fun a' w' => (i ∉ ds → S w → S w') ∧ wpAnyLast P md ops Q S ds fuel (listed.setIfInBounds i true) a' w') a w
theorem wpAny_of_last : ∀ (fuel : Nat) (listed : Array Bool) (a : Act) (w : World), wpAnyLast P md ops Q S ds fuel listed a w → wpAny P md ops Q fuel listed a w
 | 0, _, _, _, h => h
 | fuel + 1, _, _, _, h => ⟨h.1, fun i hi => wpOp_mono (fun a' w' h' => wpAny_of_last fuel _ a' w' h'.2) (h.2 i hi)⟩
theorem wpAnyLast_first {i : Nat} {oi : Oper} {v : Value} (hi : ops[i]? = some oi) (hsel : ∀ (j : Nat) (o : Oper) cs b, ops[j]? = some o → o.op ≠ .select cs b)
  (hQ : ∀ c a w, Q (.panic c) (a.put oi.dst v) w → Q (.panic c) a w) (n : Nat) :
  ∀ (fuel : Nat) (listed : Array Bool) (a : Act) (w : World),
   (∀ j oj, ops[j]? = some oj → j ≠ i → listed.getD j true = false → (∀ e ∈ oj.after, Region.binds md e = true → e.on ≠ i) → oi.apart ops oj = true) →
   ListedClosed md ops listed → (∀ d ∈ ds, listed.getD d true = false → Region.reachB md ops i n d = true) →
   i ∈ Region.ready md ops listed → YieldsIf P ops S oi v a → S w →
   wpAnyLast P md ops Q S ds fuel (listed.setIfInBounds i true) (a.put oi.dst v) w → wpAnyLast P md ops Q S ds (fuel + 1) listed a w := by
 intro fuel
 induction fuel with
 | zero =>
  intro listed a w _ _ _ hr hy hS H
  refine ⟨fun h => (by rw [h] at hr; cases hr), fun j hj => ?_⟩
  by_cases hji : j = i
  ·subst hji; exact hy.wpOp hi hS ⟨fun _ h => h, H⟩
  ·have := ready_mono hj hji
   rw [H.1] at this
   cases this
 | succ fuel ih =>
  intro listed a w hfree hc hd hr hy hS H
  refine ⟨fun h => (by rw [h] at hr; cases hr), fun j hj => ?_⟩
  by_cases hji : j = i
  ·subst hji; exact hy.wpOp hi hS ⟨fun _ h => h, H⟩
  ·have h1 := H.2 j (ready_mono hj hji)
   obtain ⟨hjun, oj, hoj, hall⟩ := mem_ready.1 hj
   have hiun := (mem_ready.1 hr).1
   have hnot : ∀ e ∈ oj.after, Region.binds md e = true → e.on ≠ i := fun e he hb heq => by
    have h1 := hall e he hb
    rw [heq] at h1
    rcases Nat.lt_or_ge i listed.size with h' | h'
    ·simp [h'] at hiun h1; rw [hiun] at h1; cases h1
    ·simp [Array.getElem?_eq_none h'] at h1
   have hjd : j ∉ ds := fun hm => Region.reach_not_ready hc (hd j hm hjun) hiun hj
   have h2 := wpOp_putIf hoj (hfree j oj hoj hji hjun hnot) (fun cs b => hsel i oi cs b hi) (fun cs b => hsel j oj cs b hoj) hQ hy h1
   have hfree' : ∀ k ok, ops[k]? = some ok → k ≠ i → (listed.setIfInBounds j true).getD k true = false →
     (∀ e ∈ ok.after, Region.binds md e = true → e.on ≠ i) → oi.apart ops ok = true := fun k ok hk hki hun hno => by
    refine hfree k ok hk hki ?_ hno
    by_cases hjk : j = k
    ·subst hjk; exact hjun
    ·rw [getD_set_ne true hjk] at hun; exact hun
   have hd' : ∀ d ∈ ds, (listed.setIfInBounds j true).getD d true = false → Region.reachB md ops i n d = true := fun d hm hun => by
    refine hd d hm ?_
    by_cases hjk : j = d
    ·subst hjk; exact hjun
    ·rw [getD_set_ne true hjk] at hun; exact hun
   refine wpOp_mono (fun a' w' h3 => ⟨h3.2.1, ih (listed.setIfInBounds j true) a' w' hfree' (hc.set hj) hd' (ready_mono hr (Ne.symm hji)) h3.1 (h3.2.1 hjd hS) ?_⟩) h2
   rw [Array.setIfInBounds_comm _ _ hji]
   exact h3.2.2
theorem wpAnyLast_any {i : Nat} {oi : Oper} {v : Value} (hi : ops[i]? = some oi) (hsel : ∀ (j : Nat) (o : Oper) cs b, ops[j]? = some o → o.op ≠ .select cs b)
  (hQ : ∀ c a w, Q (.panic c) (a.put oi.dst v) w → Q (.panic c) a w) :
  ∀ (fuel : Nat) (listed : Array Bool) (a : Act) (w : World),
   (∀ j oj, ops[j]? = some oj → j ≠ i → listed.getD j true = false → (∀ e ∈ oj.after, Region.binds md e = true → e.on ≠ i) → oi.apart ops oj = true) →
   i ∈ Region.ready md ops listed → Yields P ops oi v a →
   wpAnyLast P md ops Q S ds fuel (listed.setIfInBounds i true) (a.put oi.dst v) w → wpAnyLast P md ops Q S ds (fuel + 1) listed a w := by
 intro fuel
 induction fuel with
 | zero =>
  intro listed a w _ hr hy H
  refine ⟨fun h => (by rw [h] at hr; cases hr), fun j hj => ?_⟩
  by_cases hji : j = i
  ·subst hji; exact (hy.yieldsIf (S := fun _ => True)).wpOp hi trivial ⟨fun _ h => h, H⟩
  ·have := ready_mono hj hji
   rw [H.1] at this
   cases this
 | succ fuel ih =>
  intro listed a w hfree hr hy H
  refine ⟨fun h => (by rw [h] at hr; cases hr), fun j hj => ?_⟩
  by_cases hji : j = i
  ·subst hji; exact (hy.yieldsIf (S := fun _ => True)).wpOp hi trivial ⟨fun _ h => h, H⟩
  ·have h1 := H.2 j (ready_mono hj hji)
   obtain ⟨hjun, oj, hoj, hall⟩ := mem_ready.1 hj
   have hiun := (mem_ready.1 hr).1
   have hnot : ∀ e ∈ oj.after, Region.binds md e = true → e.on ≠ i := fun e he hb heq => by
    have h1 := hall e he hb
    rw [heq] at h1
    rcases Nat.lt_or_ge i listed.size with h' | h'
    ·simp [h'] at hiun h1; rw [hiun] at h1; cases h1
    ·simp [Array.getElem?_eq_none h'] at h1
   have h2 := wpOp_put hoj (hfree j oj hoj hji hjun hnot) (fun cs b => hsel i oi cs b hi) (fun cs b => hsel j oj cs b hoj) hQ hy h1
   have hfree' : ∀ k ok, ops[k]? = some ok → k ≠ i → (listed.setIfInBounds j true).getD k true = false →
     (∀ e ∈ ok.after, Region.binds md e = true → e.on ≠ i) → oi.apart ops ok = true := fun k ok hk hki hun hno => by
    refine hfree k ok hk hki ?_ hno
    by_cases hjk : j = k
    ·subst hjk; exact hjun
    ·rw [getD_set_ne true hjk] at hun; exact hun
   refine wpOp_mono (fun a' w' h3 => ⟨h3.2.1, ih (listed.setIfInBounds j true) a' w' hfree' (ready_mono hr (Ne.symm hji)) h3.1 ?_⟩) h2
   rw [Array.setIfInBounds_comm _ _ hji]
   exact h3.2.2
theorem wpAnyLast_take {i : Nat} {oi : Oper} {v : Value} {fuel : Nat} {listed : Array Bool} {a : Act} {w : World} (hi : ops[i]? = some oi)
  (hs : Region.noSelect ops = true) (hf : Region.free md ops listed i = true) (hr : (Region.ready md ops listed).contains i = true)
  (hc : Region.closedB md ops listed = true) (hl : Region.lastB md ops listed ds i = true)
  (hQ : ∀ c a w, Q (.panic c) (a.put oi.dst v) w → Q (.panic c) a w) (hy : YieldsIf P ops S oi v a) (hS : S w)
  (h : wpAnyLast P md ops Q S ds fuel (listed.setIfInBounds i true) (a.put oi.dst v) w) : wpAnyLast P md ops Q S ds (fuel + 1) listed a w :=
 wpAnyLast_first hi (Region.noSelect_spec hs) hQ ops.size fuel listed a w (Region.free_spec hi hf) (Region.closedB_spec hc)
  (fun d hm hun => by have := List.all_eq_true.1 hl d hm; rw [hun] at this; simpa using this) (by simpa using hr) hy hS h
theorem wpAnyLast_all {rs : List Nat} {fuel : Nat} {listed : Array Bool} {a : Act} {w : World} (hr : Region.ready md ops listed = rs) (hne : rs ≠ [])
  (h : ∀ i ∈ rs, wpOp P ops Q i (fun a' w' => (i ∉ ds → S w → S w') ∧ wpAnyLast P md ops Q S ds fuel (listed.setIfInBounds i true) a' w') a w) : wpAnyLast P md ops Q S ds (fuel + 1) listed a w :=
 ⟨fun h0 => absurd (hr ▸ h0) hne, hr ▸ h⟩
theorem wpAnyLast_done {listed : Array Bool} {a : Act} {w : World} (hr : Region.ready md ops listed = []) (h : Q .normal a w) :
  ∀ fuel, wpAnyLast P md ops Q S ds fuel listed a w
 | 0 => ⟨hr, h⟩
 | _ + 1 => ⟨fun _ => h, by rw [hr]; simp⟩
theorem wp_region_last {id : Nat} {a : Act} {w : World} (hm : P.follows .mixedOrders = true)
  (h : wpAnyLast P .any ops Q S ds ops.size (Array.replicate ops.size false) a { w with drawn := w.drawn + 1 }) : (Code.region id ops true).wp P Q a w :=
 wp_region_any hm (wpAny_of_last _ _ _ _ h)
end
section
variable {P : Program} {ops : Array Oper} {Q : Exit → Act → World → Prop} {md : Region.Mode} {S : World → Prop} {ds : List Nat}
def AllReadyL (P : Program) (md : Region.Mode) (ops : Array Oper) (Q : Exit → Act → World → Prop) (S : World → Prop) (ds : List Nat) (fuel : Nat) (listed : Array Bool) (a : Act) (w : World) (rs : List Nat) : Prop :=
 ∀ i ∈ rs, wpOp P ops Q i (fun a' w' => (i ∉ ds → S w → S w') ∧ wpAnyLast P md ops Q S ds fuel (listed.setIfInBounds i true) a' w') a w
theorem AllReadyL.nil {fuel : Nat} {listed : Array Bool} {a : Act} {w : World} : AllReadyL P md ops Q S ds fuel listed a w [] := fun _ h => by cases h
theorem AllReadyL.cons {fuel : Nat} {listed : Array Bool} {a : Act} {w : World} {i : Nat} {o : Oper} {rs : List Nat} (ho : ops[i]? = some o) (hd : i ∉ ds)
  (h : ∀ K' : Act → World → Prop, Shut (∀ a w, S w → (S w → wpAnyLast P md ops Q S ds fuel (listed.setIfInBounds i true) a w) → K' a w) → if Region.wanted o (yielded ops a.tmps) = true then Oper.wp P o a w K' Q else K' (a.put o.dst undef) w)
  (hs : AllReadyL P md ops Q S ds fuel listed a w rs) : AllReadyL P md ops Q S ds fuel listed a w (i :: rs) := fun j hj => by
 rcases List.mem_cons.1 hj with rfl | hj
 ·exact wpOp_step ho (fun K' hK => h K' (fun a w hS hW => hK a w ⟨fun _ _ => hS, hW hS⟩))
 ·exact hs j hj
theorem AllReadyL.cons_last {fuel : Nat} {listed : Array Bool} {a : Act} {w : World} {i : Nat} {o : Oper} {rs : List Nat} (ho : ops[i]? = some o) (hd : i ∈ ds)
  (h : ∀ K' : Act → World → Prop, Shut (∀ a w, wpAnyLast P md ops Q S ds fuel (listed.setIfInBounds i true) a w → K' a w) → if Region.wanted o (yielded ops a.tmps) = true then Oper.wp P o a w K' Q else K' (a.put o.dst undef) w)
  (hs : AllReadyL P md ops Q S ds fuel listed a w rs) : AllReadyL P md ops Q S ds fuel listed a w (i :: rs) := fun j hj => by
 rcases List.mem_cons.1 hj with rfl | hj
 ·exact wpOp_step ho (fun K' hK => h K' (fun a w hW => hK a w ⟨fun hn => absurd hd hn, hW⟩))
 ·exact hs j hj
theorem wpAnyLast_ready {rs : List Nat} {fuel : Nat} {listed : Array Bool} {a : Act} {w : World} (hr : Region.ready md ops listed = rs) (hne : rs ≠ [])
  (h : AllReadyL P md ops Q S ds fuel listed a w rs) : wpAnyLast P md ops Q S ds (fuel + 1) listed a w := wpAnyLast_all hr hne h
theorem start_ {id n : Nat} {a : Act} {w : World} (l : Array Bool) (hm : P.follows .mixedOrders = true) (hn : ops.size = n) (hl : Array.replicate n false = l) (hS : S w.drew)
  (h : S w.drew → wpAnyLast P .any ops Q S ds n l a w.drew) : (Code.region id ops true).wp P Q a w := by
 subst hn
 subst hl
 exact wp_region_last hm (h hS)
def takeB (md : Region.Mode) (ops : Array Oper) (ds : List Nat) (l l' : Array Bool) (i : Nat) : Bool :=
 Region.noSelect ops && Region.free md ops l i && (Region.ready md ops l).contains i && Region.closedB md ops l && Region.lastB md ops l ds i && (l.setIfInBounds i true == l')
theorem take_ {i : Nat} {N : Option Tmp} {oi : Oper} {v : Value} {fuel : Nat} {l : Array Bool} {a : Act} {w : World} (l' : Array Bool) (hi : ops[i]? = some oi) (hN : oi.dst = N) (hc : takeB md ops ds l l' i = true)
  (hQ : ∀ c a w, Q (.panic c) (a.put oi.dst v) w → Q (.panic c) a w) (hy : YieldsIf P ops S oi v a) (hS : S w) {a' : Act} (ha : a.put N v = a')
  (h : wpAnyLast P md ops Q S ds fuel l' a' w) : wpAnyLast P md ops Q S ds (fuel + 1) l a w := by
 subst ha
 subst hN
 simp only [takeB, Bool.and_eq_true, beq_iff_eq] at hc
 obtain ⟨⟨⟨⟨⟨h1, h2⟩, h3⟩, h4⟩, h5⟩, h6⟩ := hc
 subst h6
 exact wpAnyLast_take hi h1 h2 h3 h4 h5 hQ hy hS h
def anyB (md : Region.Mode) (ops : Array Oper) (l l' : Array Bool) (i : Nat) : Bool :=
 Region.noSelect ops && Region.free md ops l i && (Region.ready md ops l).contains i && (l.setIfInBounds i true == l')
theorem pure_ {i : Nat} {N : Option Tmp} {oi : Oper} {v : Value} {fuel : Nat} {l : Array Bool} {a : Act} {w : World} (l' : Array Bool) (hi : ops[i]? = some oi) (hN : oi.dst = N) (hc : anyB md ops l l' i = true)
  (hQ : ∀ c a w, Q (.panic c) (a.put oi.dst v) w → Q (.panic c) a w) (hy : Yields P ops oi v a) {a' : Act} (ha : a.put N v = a')
  (h : wpAnyLast P md ops Q S ds fuel l' a' w) : wpAnyLast P md ops Q S ds (fuel + 1) l a w := by
 subst ha
 subst hN
 simp only [anyB, Bool.and_eq_true, beq_iff_eq] at hc
 obtain ⟨⟨⟨h1, h2⟩, h3⟩, h6⟩ := hc
 subst h6
 exact wpAnyLast_any hi (Region.noSelect_spec h1) hQ fuel l a w (Region.free_spec hi h2) (by simpa using h3) hy h
def readyB (md : Region.Mode) (ops : Array Oper) (l l' : Array Bool) (i : Nat) : Bool := (Region.ready md ops l == [i]) && (l.setIfInBounds i true == l')
theorem one_ {i : Nat} {N : Option Tmp} {oi : Oper} {fuel : Nat} {l : Array Bool} {a : Act} {w : World} (l' : Array Bool) (hi : ops[i]? = some oi) (hN : oi.dst = N) (hc : readyB md ops l l' i = true) (hd : i ∉ ds)
  (h : ∀ K : Act → World → Prop, Shut (∀ a' w', S w' → (S w' → wpAnyLast P md ops Q S ds fuel l' a' w') → K a' w') → if Region.wanted oi (yielded ops a.tmps) = true then Oper.wp P oi a w K Q else K (a.put N undef) w) :
  wpAnyLast P md ops Q S ds (fuel + 1) l a w := by
 subst hN
 simp only [readyB, Bool.and_eq_true, beq_iff_eq] at hc
 obtain ⟨h1, h2⟩ := hc
 subst h2
 exact wpAnyLast_ready h1 (by simp) (AllReadyL.cons hi hd (fun K hK => h K hK) AllReadyL.nil)
theorem last_ {i : Nat} {N : Option Tmp} {oi : Oper} {fuel : Nat} {l : Array Bool} {a : Act} {w : World} (l' : Array Bool) (hi : ops[i]? = some oi) (hN : oi.dst = N) (hc : readyB md ops l l' i = true) (hd : i ∈ ds)
  (h : ∀ K : Act → World → Prop, Shut (∀ a' w', wpAnyLast P md ops Q S ds fuel l' a' w' → K a' w') → if Region.wanted oi (yielded ops a.tmps) = true then Oper.wp P oi a w K Q else K (a.put N undef) w) :
  wpAnyLast P md ops Q S ds (fuel + 1) l a w := by
 subst hN
 simp only [readyB, Bool.and_eq_true, beq_iff_eq] at hc
 obtain ⟨h1, h2⟩ := hc
 subst h2
 exact wpAnyLast_ready h1 (by simp) (AllReadyL.cons_last hi hd (fun K hK => h K hK) AllReadyL.nil)
theorem done_ {l : Array Bool} {a : Act} {w : World} {n : Nat} (hr : (Region.ready md ops l == []) = true) (h : Q .normal a w) : wpAnyLast P md ops Q S ds n l a w := wpAnyLast_done (by simpa using hr) h n
theorem two_ {i j : Nat} {Ni Nj : Option Tmp} {oi oj : Oper} {fuel : Nat} {l : Array Bool} {a : Act} {w : World} (li lj : Array Bool) (hi : ops[i]? = some oi) (hj : ops[j]? = some oj) (hNi : oi.dst = Ni) (hNj : oj.dst = Nj)
  (hc : (Region.ready md ops l == [i, j] && l.setIfInBounds i true == li && l.setIfInBounds j true == lj) = true) (hdi : i ∉ ds) (hdj : j ∉ ds)
  (h1 : ∀ K : Act → World → Prop, Shut (∀ a' w', S w' → (S w' → wpAnyLast P md ops Q S ds fuel li a' w') → K a' w') → if Region.wanted oi (yielded ops a.tmps) = true then Oper.wp P oi a w K Q else K (a.put Ni undef) w)
  (h2 : ∀ K : Act → World → Prop, Shut (∀ a' w', S w' → (S w' → wpAnyLast P md ops Q S ds fuel lj a' w') → K a' w') → if Region.wanted oj (yielded ops a.tmps) = true then Oper.wp P oj a w K Q else K (a.put Nj undef) w) :
  wpAnyLast P md ops Q S ds (fuel + 1) l a w := by
 subst hNi
 subst hNj
 simp only [Bool.and_eq_true, beq_iff_eq] at hc
 obtain ⟨⟨h3, h4⟩, h5⟩ := hc
 subst h4
 subst h5
 exact wpAnyLast_ready h3 (by simp) (AllReadyL.cons hi hdi (fun K hK => h1 K hK) (AllReadyL.cons hj hdj (fun K hK => h2 K hK) AllReadyL.nil))
theorem three_ {i j k : Nat} {Ni Nj Nk : Option Tmp} {oi oj ok : Oper} {fuel : Nat} {l : Array Bool} {a : Act} {w : World} (li lj lk : Array Bool) (hi : ops[i]? = some oi) (hj : ops[j]? = some oj) (hk : ops[k]? = some ok) (hNi : oi.dst = Ni) (hNj : oj.dst = Nj) (hNk : ok.dst = Nk)
  (hc : (Region.ready md ops l == [i, j, k] && l.setIfInBounds i true == li && l.setIfInBounds j true == lj && l.setIfInBounds k true == lk) = true) (hdi : i ∉ ds) (hdj : j ∉ ds) (hdk : k ∉ ds)
  (h1 : ∀ K : Act → World → Prop, Shut (∀ a' w', S w' → (S w' → wpAnyLast P md ops Q S ds fuel li a' w') → K a' w') → if Region.wanted oi (yielded ops a.tmps) = true then Oper.wp P oi a w K Q else K (a.put Ni undef) w)
  (h2 : ∀ K : Act → World → Prop, Shut (∀ a' w', S w' → (S w' → wpAnyLast P md ops Q S ds fuel lj a' w') → K a' w') → if Region.wanted oj (yielded ops a.tmps) = true then Oper.wp P oj a w K Q else K (a.put Nj undef) w)
  (h3 : ∀ K : Act → World → Prop, Shut (∀ a' w', S w' → (S w' → wpAnyLast P md ops Q S ds fuel lk a' w') → K a' w') → if Region.wanted ok (yielded ops a.tmps) = true then Oper.wp P ok a w K Q else K (a.put Nk undef) w) :
  wpAnyLast P md ops Q S ds (fuel + 1) l a w := by
 subst hNi
 subst hNj
 subst hNk
 simp only [Bool.and_eq_true, beq_iff_eq] at hc
 obtain ⟨⟨⟨h4, h5⟩, h6⟩, h7⟩ := hc
 subst h5
 subst h6
 subst h7
 exact wpAnyLast_ready h4 (by simp) (AllReadyL.cons hi hdi (fun K hK => h1 K hK) (AllReadyL.cons hj hdj (fun K hK => h2 K hK) (AllReadyL.cons hk hdk (fun K hK => h3 K hK) AllReadyL.nil)))
def putAll : Act → List (Tmp × Value) → Act
 | a, [] => a
 | a, (n, v) :: r => putAll (a.put (some n) v) r
theorem join_ {σ : Type} {fuel : Nat} {l : Array Bool} {a : Act} {w : World} (fuel' : Nat) (l' : Array Bool) (ns : σ → List (Tmp × Value)) (F : σ → World → Prop)
  (hcont : ∀ s w', F s w' → wpAnyLast P md ops Q S ds fuel' l' (putAll a (ns s)) w')
  (h : (∀ s w', F s w' → wpAnyLast P md ops Q S ds fuel' l' (putAll a (ns s)) w') → wpAnyLast P md ops Q S ds fuel l a w) : wpAnyLast P md ops Q S ds fuel l a w := h hcont
theorem norm_ {fuel : Nat} {l : Array Bool} {a a' : Act} {w : World} (ha : a = a') (h : wpAnyLast P md ops Q S ds fuel l a' w) : wpAnyLast P md ops Q S ds fuel l a w := by
 subst ha
 exact h
theorem call_ {oi : Oper} {N : Option Tmp} {a : Act} {w : World} {K : Act → World → Prop} (f : FuncId) (args : Array Value) (hw : Region.wanted oi (yielded ops a.tmps) = true) (hN : oi.dst = N) (hrun : (execOp a.eval oi).run P w = .ok (.enter f args) w)
  (h : Calls P f args w fun e w' => ∃ v, e = .returned v ∧ K (a.put N v) w') : if Region.wanted oi (yielded ops a.tmps) = true then Oper.wp P oi a w K Q else K (a.put N undef) w := by
 rw [if_pos hw]
 subst hN
 unfold Oper.wp
 rw [hrun, Oper.upon_enter]
 refine h.mono fun e w'' hh => ?_
 obtain ⟨v, rfl, hk⟩ := hh
 exact hk
theorem enters_ {f : FuncId} {fn : Func} (hf : P.funcs[f]? = some fn) (hname : (fn.name == "runtime.NumGoroutine") = false) (hb : fn.body.isSome = true) (args : Array Value) (w : World) : (callFunc f args).run P w = .ok (.enter f args) w := by
 have h1 : fn.name ≠ "runtime.NumGoroutine" := by simpa using hname
 obtain ⟨c, hc⟩ := Option.isSome_iff_exists.1 hb
 simp [callFunc, hf, h1, hc]
theorem goes_ {oi : Oper} {N : Option Tmp} {a : Act} {w : World} {K : Act → World → Prop} {f : FuncId} {fn : Func} {asx : Array Operand} {ts : Array TypeId} (hf : P.funcs[f]? = some fn) (hname : (fn.name == "runtime.NumGoroutine") = false) (hb : fn.body.isSome = true) (args : Array Value)
  (hw : Region.wanted oi (yielded ops a.tmps) = true) (hN : oi.dst = N) (hop : oi.op = .call { callee := .value (.func f), args := asx, argTypes := ts }) (hargs : asx.map a.eval = args)
  (h : Calls P f args w fun e w' => ∃ v, e = .returned v ∧ K (a.put N v) w') : if Region.wanted oi (yielded ops a.tmps) = true then Oper.wp P oi a w K Q else K (a.put N undef) w := by
 refine call_ f args hw hN ?_ h
 have he := enters_ hf hname hb args w
 unfold execOp
 simp [hop, resolve, Deferred.ofValue, invoke, Act.eval, hargs, he]
theorem value_ {oi : Oper} {N : Option Tmp} {a : Act} {w w1 : World} {v : Value} {K : Act → World → Prop} (hw : Region.wanted oi (yielded ops a.tmps) = true) (hN : oi.dst = N) (hrun : (execOp a.eval oi).run P w = .ok (.value v) w1)
  (h : K (a.put N v) w1) : if Region.wanted oi (yielded ops a.tmps) = true then Oper.wp P oi a w K Q else K (a.put N undef) w := by
 rw [if_pos hw]
 subst hN
 unfold Oper.wp
 rw [hrun]
 exact h
theorem skip_ {oi : Oper} {a : Act} {w w1 : World} {K : Act → World → Prop} (hw : Region.wanted oi (yielded ops a.tmps) = true) (hN : oi.dst = none) (hrun : (execOp a.eval oi).run P w = .ok .skip w1)
  (h : K a w1) : if Region.wanted oi (yielded ops a.tmps) = true then Oper.wp P oi a w K Q else K (a.put none undef) w := by
 rw [if_pos hw]
 unfold Oper.wp
 rw [hrun]
 show K (a.put oi.dst undef) w1
 rw [hN]
 exact h
theorem i64_w (n : Int) : IntKind.i64.wrap n = Go.RowKit.wrap64 n := by unfold Go.RowKit.wrap64; exact IntKind.wrap_i64 n
theorem i32_w (n : Int) : IntKind.i32.wrap n = Go.RowKit.wrap32 n := by unfold Go.RowKit.wrap32; exact IntKind.wrap_i32 n
end
end Go.Proofs.YtljfoglilggkjaaGreatW.PrintLast
namespace Go.Proofs.YtljfoglilggkjaaGreat
open Go.RowKit Go.Proofs.YtljfoglilggkjaaGreatW.PrintWords Go.Proofs.YtljfoglilggkjaaGreatW.PrintLast
theorem ppx {P : Program} {ops : Array Oper} {Q : Exit → Act → World → Prop} {md : Region.Mode} {S : World → Prop} {ds : List Nat} {i : Nat} {N : Option Tmp} {oi : Oper} {v : Value} {fuel : Nat} {l : Array Bool} {a : Act} {w : World} (l' : Array Bool) (hi : ops[i]? = some oi := by rfl) (hN : oi.dst = N := by rfl) (hc : anyB md ops l l' i = true := by kernel_rfl)
  (hQ : ∀ c a w, Q (.panic c) (a.put oi.dst v) w → Q (.panic c) a w := by exact fun _ _ _ h => h) (hy : Yields P ops oi v a := by exact Or.inl ⟨by rfl, by intro w'; go_simp; with_reducible rfl⟩) {a' : Act} (ha : a.put N v = a' := by simp only [Act.put, lA, lB, lC, i64_w, i32_w]; rfl)
  (h : wpAnyLast P md ops Q S ds fuel l' a' w) : wpAnyLast P md ops Q S ds (fuel + 1) l a w := pure_ l' hi hN hc hQ hy ha h
theorem nox {P : Program} {ops : Array Oper} {Q : Exit → Act → World → Prop} {md : Region.Mode} {S : World → Prop} {ds : List Nat} {fuel : Nat} {l : Array Bool} {a a' : Act} {v : Value} {w : World} (d : Tmp) (ha : Act.put a (some d) v = a' := by simp only [Act.put, lA, lB, lC, i64_w, i32_w]; rfl) (h : wpAnyLast P md ops Q S ds fuel l a' w) : wpAnyLast P md ops Q S ds fuel l (Act.put a (some d) v) w := norm_ ha h
theorem nof {P : Program} {ops : Array Oper} {Q : Exit → Act → World → Prop} {md : Region.Mode} {S : World → Prop} {ds : List Nat} {fuel : Nat} {l : Array Bool} {a a' : Act} {w : World} (h : wpAnyLast P md ops Q S ds fuel l a' w) (ha : a = a' := by first | (simp only [putAll, Act.put, lA, lB, lC]; done) | (simp only [putAll, Act.put, lA, lB, lC]; rfl)) : wpAnyLast P md ops Q S ds fuel l a w := norm_ ha h
theorem tpx {P : Program} {ops : Array Oper} {Q : Exit → Act → World → Prop} {md : Region.Mode} {S : World → Prop} {ds : List Nat} {i : Nat} {N : Option Tmp} {oi : Oper} {v : Value} {fuel : Nat} {l : Array Bool} {a : Act} {w : World} (l' : Array Bool) (hi : ops[i]? = some oi := by rfl) (hN : oi.dst = N := by rfl) (hc : takeB md ops ds l l' i = true := by kernel_rfl)
  (hQ : ∀ c a w, Q (.panic c) (a.put oi.dst v) w → Q (.panic c) a w := by exact fun _ _ _ h => h) (hy : YieldsIf P ops S oi v a) (hS : S w) {a' : Act} (ha : a.put N v = a' := by simp only [Act.put, lA, lB, lC, i64_w, i32_w]; rfl)
  (h : wpAnyLast P md ops Q S ds fuel l' a' w) : wpAnyLast P md ops Q S ds (fuel + 1) l a w := take_ l' hi hN hc hQ hy hS ha h
theorem py {P : Program} {ops : Array Oper} {Q : Exit → Act → World → Prop} {md : Region.Mode} {S : World → Prop} {ds : List Nat} (i : Nat) (N : Option Tmp) {oi : Oper} {v : Value} {fuel : Nat} {l : Array Bool} {a : Act} {w : World} (l' : Array Bool) {a' : Act}
  (h : wpAnyLast P md ops Q S ds fuel l' a' w) (hi : ops[i]? = some oi := by rfl) (hN : oi.dst = N := by rfl) (hc : anyB md ops l l' i = true := by kernel_rfl)
  (hQ : ∀ c a w, Q (.panic c) (a.put oi.dst v) w → Q (.panic c) a w := by exact fun _ _ _ h => h) (hy : Yields P ops oi v a := by exact Or.inl ⟨by rfl, by intro w'; go_simp; with_reducible rfl⟩) (ha : a.put N v = a' := by simp only [Act.put, lA, lB, lC, i64_w, i32_w]; rfl)
  : wpAnyLast P md ops Q S ds (fuel + 1) l a w := pure_ l' hi hN hc hQ hy ha h
theorem ty {P : Program} {ops : Array Oper} {Q : Exit → Act → World → Prop} {md : Region.Mode} {S : World → Prop} {ds : List Nat} (i : Nat) (N : Option Tmp) {oi : Oper} {v : Value} {fuel : Nat} {l : Array Bool} {a : Act} {w : World} (l' : Array Bool)
  (hi : ops[i]? = some oi := by rfl) (hN : oi.dst = N := by rfl) (hc : takeB md ops ds l l' i = true := by kernel_rfl) (hQ : ∀ c a w, Q (.panic c) (a.put oi.dst v) w → Q (.panic c) a w := by exact fun _ _ _ h => h)
  (hw : Region.wanted oi (yielded ops a.tmps) = true := by rfl) (hz : ∀ w, S w → (execOp a.eval oi).run P w = .ok (.value v) w) (hS : S w) {a' : Act} (ha : a.put N v = a' := by simp only [Act.put, lA, lB, lC, i64_w, i32_w]; rfl)
  (h : wpAnyLast P md ops Q S ds fuel l' a' w) : wpAnyLast P md ops Q S ds (fuel + 1) l a w := take_ l' hi hN hc hQ (Or.inl ⟨hw, hz⟩) hS ha h
theorem gox {P : Program} {ops : Array Oper} {oi : Oper} {N : Option Tmp} {a : Act} {w : World} {K : Act → World → Prop} {Q : Exit → Act → World → Prop} {f : FuncId} {fn : Func} {asx : Array Operand} {ts : Array TypeId} (hf : P.funcs[f]? = some fn) (args : Array Value)
  (h : Calls P f args w fun e w' => ∃ v, e = .returned v ∧ K (a.put N v) w') (hname : (fn.name == "runtime.NumGoroutine") = false := by kernel_rfl) (hb : fn.body.isSome = true := by rfl)
  (hw : Region.wanted oi (yielded ops a.tmps) = true := by rfl) (hN : oi.dst = N := by rfl) (hop : oi.op = .call { callee := .value (.func f), args := asx, argTypes := ts } := by rfl) (hargs : asx.map a.eval = args := by simp only [List.map_toArray, List.map_cons, List.map_nil]; rfl)
  : if Region.wanted oi (yielded ops a.tmps) = true then Oper.wp P oi a w K Q else K (a.put N undef) w := goes_ hf hname hb args hw hN hop hargs h
theorem vx {P : Program} {ops : Array Oper} {Q : Exit → Act → World → Prop} {oi : Oper} {N : Option Tmp} {a : Act} {w w1 : World} {v : Value} {K : Act → World → Prop} (h : K (a.put N v) w1) (hw : Region.wanted oi (yielded ops a.tmps) = true := by rfl) (hN : oi.dst = N := by rfl) (hrun : (execOp a.eval oi).run P w = .ok (.value v) w1 := by go_simp; constructor <;> rfl)
  : if Region.wanted oi (yielded ops a.tmps) = true then Oper.wp P oi a w K Q else K (a.put N undef) w := value_ hw hN hrun h
theorem sx {P : Program} {ops : Array Oper} {Q : Exit → Act → World → Prop} {oi : Oper} {a : Act} {w w1 : World} {K : Act → World → Prop} (h : K a w1) (hw : Region.wanted oi (yielded ops a.tmps) = true := by rfl) (hN : oi.dst = none := by rfl) (hrun : (execOp a.eval oi).run P w = .ok .skip w1 := by go_simp; rfl)
  : if Region.wanted oi (yielded ops a.tmps) = true then Oper.wp P oi a w K Q else K (a.put none undef) w := skip_ hw hN hrun h
theorem ox {P : Program} {ops : Array Oper} {Q : Exit → Act → World → Prop} {md : Region.Mode} {S : World → Prop} {ds : List Nat} (i : Nat) (N : Option Tmp) {oi : Oper} {fuel : Nat} {l : Array Bool} {a : Act} {w : World} (l' : Array Bool)
  (h : ∀ K : Act → World → Prop, Shut (∀ a' w', S w' → (S w' → wpAnyLast P md ops Q S ds fuel l' a' w') → K a' w') → if Region.wanted oi (yielded ops a.tmps) = true then Oper.wp P oi a w K Q else K (a.put N undef) w)
  (hi : ops[i]? = some oi := by rfl) (hN : oi.dst = N := by rfl) (hc : readyB md ops l l' i = true := by kernel_rfl) (hd : i ∉ ds := by decide) : wpAnyLast P md ops Q S ds (fuel + 1) l a w := one_ l' hi hN hc hd h
theorem lx {P : Program} {ops : Array Oper} {Q : Exit → Act → World → Prop} {md : Region.Mode} {S : World → Prop} {ds : List Nat} (i : Nat) (N : Option Tmp) {oi : Oper} {fuel : Nat} {l : Array Bool} {a : Act} {w : World} (l' : Array Bool)
  (h : ∀ K : Act → World → Prop, Shut (∀ a' w', wpAnyLast P md ops Q S ds fuel l' a' w' → K a' w') → if Region.wanted oi (yielded ops a.tmps) = true then Oper.wp P oi a w K Q else K (a.put N undef) w)
  (hi : ops[i]? = some oi := by rfl) (hN : oi.dst = N := by rfl) (hc : readyB md ops l l' i = true := by kernel_rfl) (hd : i ∈ ds := by decide) : wpAnyLast P md ops Q S ds (fuel + 1) l a w := last_ l' hi hN hc hd h
def MadeV1 (w : World) (v : Vol) (e : Ending) (w' : World) : Prop := ∃ b, e = .returned (.agg #[.string v.name, b]) ∧ OwnI w' w.heap.size b v.blocks ∧ Bel w w'
theorem l3Copy_c {w : World} {A : Option Addr} {c : Nat} {v : Vol} (hC : kInt.C w A v.blocks.length v.blocks) (hl : v.blocks.length ≤ 1048576) :
  Calls Tryz.prog 152 #[.agg #[.string v.name, .slice A v.blocks.length c]] w (MadeV1 w v) := by
 have H := Lib.hid hC
 clear hC
 go_enter Tryz.func152, Tryz.ntmps152
 go_wp2
 have hB : Blk ((w.alloc (.cells #[.string v.name, .slice A v.blocks.length c] 84)).alloc (.cells #[.string ⟨#[]⟩, .slice none 0 0] 84)) w.heap.size #[.string v.name, .slice A v.blocks.length c] 84 := (Blk.new _ _ _).alloc _
 have hR : Blk ((w.alloc (.cells #[.string v.name, .slice A v.blocks.length c] 84)).alloc (.cells #[.string ⟨#[]⟩, .slice none 0 0] 84)) (w.heap.size + 1) #[.string ⟨#[]⟩, .slice none 0 0] 84 := Blk.nw2 _ _ _ _
 have hW : Bel w ((w.alloc (.cells #[.string v.name, .slice A v.blocks.length c] 84)).alloc (.cells #[.string ⟨#[]⟩, .slice none 0 0] 84)) := bel_alloc (bel_alloc (Below.refl _ _) _) _
 generalize ((w.alloc (.cells #[.string v.name, .slice A v.blocks.length c] 84)).alloc (.cells #[.string ⟨#[]⟩, .slice none 0 0] 84)) = W at hB hR hW ⊢
 have q0 := hB.cell 0
 have q1 := hB.cell 1
 simp at q0 q1
 have HB := Lib.hid hB
 have HR := Lib.hid hR
 have HC := Lib.hid (Kd.C_below H.out hW)
 clear hB hR
 refine start_ (n := 8) (S := fun w' => w'.cell? ⟨w.heap.size, 0, none⟩ = some (.string v.name) ∧ w'.cell? ⟨w.heap.size, 1, none⟩ = some (.slice A v.blocks.length c)) (ds := [7]) #[F, F, F, F, F, F, F, F] (by kernel_rfl) rfl rfl ⟨q0, q1⟩ (fun hHeld => ?_)
 refine py 0 (some 3) #[T, F, F, F, F, F, F, F] ?_
 refine py 3 (some 6) #[T, F, F, T, F, F, F, F] ?_
 refine ty 1 (some 4) #[T, T, F, T, F, F, F, F] (hS := hHeld) (hz := by rintro w' ⟨s0, s1⟩; go_simp; with_reducible rfl) (h := ?_)
 refine ty 4 (some 7) #[T, T, F, T, T, F, F, F] (hS := hHeld) (hz := by rintro w' ⟨s0, s1⟩; go_simp; with_reducible rfl) (h := ?_)
 refine ox 2 (some 5) #[T, T, T, T, T, F, F, F] fun K hK => ?_
 refine vx ?_
 have hB1 := HB.out.alloc (.cells #[] 3)
 have hR1 := HR.out.alloc (.cells #[] 3)
 have u0 := hB1.cell 0
 have u1 := hB1.cell 1
 simp at u0 u1
 refine hK.out _ _ ⟨u0, u1⟩ (fun hHeld => ?_)
 clear hK K
 refine nox 5 (h := ?_)
 refine ox 5 (some 8) #[T, T, T, T, T, T, F, F] fun K hK => ?_
 refine Kd.R_append_rows_step kInt (w0 := W.drew) W.drew.heap.size (by rfl) (.tmp 5) (.tmp 7) 82 3 (.int .i64 0) 8 rfl Tryz.underlying82 info_int rfl (by decide) (by decide) _ [] v.blocks _ _ _ (fun _ => True) (fun _ => False) rfl rfl (R_emptyI W.drew W.drew.heap.size (Nat.le_refl _)) (Kd.C_alloc (Kd.C_drew HC.out) _) (fun _ _ h => h) (fun _ h => h.elim) (fun _ _ => trivial) ?a2 ?a3 ?a4 ?_
 case a2 => exact bel_alloc (Below.refl _ _) _
 case a3 => simp
 case a4 => simp; omega
 intro v1 w1 ho hb hg hat
 clear hg hat
 have ho2 : OwnI w1 W.drew.heap.size v1 v.blocks := ownI_of_R ho
 obtain ⟨A1, c1, rfl, hc1, hC1⟩ := ho2.reads
 have hB2 : Blk w1 w.heap.size #[.string v.name, .slice A v.blocks.length c] 84 := Blk.bel (w := W.drew) HB.out hb
 have hR2 : Blk w1 (w.heap.size + 1) #[.string ⟨#[]⟩, .slice none 0 0] 84 := Blk.bel (w := W.drew) HR.out hb
 obtain ⟨r0, r1, f0, f1, -⟩ := k2f hR2
 refine hK.out _ _ ⟨hB2.cell 0, hB2.cell 1⟩ (fun hHeld => ?_)
 clear hK K
 refine nox 8 (h := ?_)
 refine py 6 (some 9) #[T, T, T, T, T, T, T, F] ?_
 refine lx 7 none #[T, T, T, T, T, T, T, T] fun K hK => ?_
 refine sx ?_
 refine hK.out _ _ ?_
 clear hK K
 refine done_ (by kernel_rfl) ?_
 have hR3 := hR2.set 0 (.string v.name) (cs' := #[.string v.name, .slice none 0 0]) rfl
 have hR4 := hR3.set 1 (.slice A1 v.blocks.length c1) (cs' := #[.string v.name, .slice A1 v.blocks.length c1]) rfl
 have hl2 : w.heap.size + 2 ≤ W.heap.size := HR.out.lt
 have hos : OwnI w1 (w.heap.size + 2) (.slice A1 v.blocks.length c1) v.blocks := own_lower ho2 hl2
 have hos4 := (hos.far hR2 (by decide) 0 (.string v.name)).far hR3 (by decide) 1 (.slice A1 v.blocks.length c1)
 have hb4 := bel_set (bel_set (Bel.tr (b := W.drew) hW.drew hb) (Nat.le_succ _) 0 (.string v.name)) (Nat.le_succ _) 1 (.slice A1 v.blocks.length c1)
 go_wp2
 refine bodyPost_ret (results_cell_row rfl _ _ (w.heap.size + 1) 84 #[.string v.name, .slice A1 v.blocks.length c1] (0, 0) _ rfl hR4 Tryz.underlying84 rfl (by kernel_rfl)) rfl ?_
 exact ⟨_, rfl, own_lower hos4 (by omega), hb4⟩
theorem own_block_lt {w : World} {base : Nat} {e : TypeId} {sz n k : Nat} {v : Value} {xs : List Value} (h : w.ownsRow base e sz v n xs) (hk : v.ownBlock = some k) : k < w.heap.size := by
 obtain ⟨cs, hc⟩ := own_type h hk
 exact (Array.getElem?_eq_some_iff.1 hc).1
theorem own_block_ge {w : World} {base : Nat} {e : TypeId} {sz n k : Nat} {v : Value} {xs : List Value} (h : w.ownsRow base e sz v n xs) (hk : v.ownBlock = some k) : base ≤ k := own_base h k hk
theorem OwnV.push {W w1 : World} {base : Nat} {v v1 : Value} {vs : List Vol} {bvs : List Value} {x : Vol} {b : Value} (h : OwnV W base v vs bvs) (hb : OwnI W base b x.blocks)
  (hap : ∀ (m : Nat) (b' : Value) (k : Nat), bvs[m]? = some b' → b'.ownBlock = some k → b.ownBlock ≠ some k) (hg : W.grownBy w1 v.ownBlock)
  (hr : w1.ownsRow base 84 2 v1 (vs.length + 1) ((vs.zip bvs).flatMap encV ++ encV (x, b))) : OwnV w1 base v1 (vs ++ [x]) (bvs ++ [b]) := by
 refine ⟨⟨by simp [h.row.len], ?_⟩, ?_, ?_⟩
 ·rw [List.zip_append h.row.len.symm, List.flatMap_append, List.length_append]
  simpa using hr
 ·intro m y c hy hc
  rcases Nat.lt_trichotomy m vs.length with hm | hm | hm
  ·rw [List.getElem?_append_left hm] at hy
   rw [List.getElem?_append_left (by rw [h.row.len]; exact hm)] at hc
   exact own_other_type (h.inner m y c hy hc) h.row.row (by decide) hg
  ·subst hm
   rw [List.getElem?_append_right (Nat.le_refl _), Nat.sub_self] at hy
   rw [List.getElem?_append_right (Nat.le_of_eq h.row.len), h.row.len, Nat.sub_self] at hc
   obtain rfl := Option.some.inj hy
   obtain rfl := Option.some.inj hc
   exact own_other_type hb h.row.row (by decide) hg
  ·rw [List.getElem?_eq_none (by simp; omega)] at hy
   cases hy
 ·have hl := h.row.len
  have key : ∀ (i j : Nat) (c c' : Value) (k : Nat), i < j → (bvs ++ [b])[i]? = some c → (bvs ++ [b])[j]? = some c' → c.ownBlock = some k → c'.ownBlock ≠ some k := by
   intro i j c c' k hij hc hc' hk
   have hj := ltQ hc'
   rw [List.length_append, List.length_singleton] at hj
   rw [List.getElem?_append_left (by omega)] at hc
   by_cases hj' : j < bvs.length
   ·rw [List.getElem?_append_left hj'] at hc'
    exact h.apart i j c c' k (by omega) hc hc' hk
   ·rw [List.getElem?_append_right (by omega), show j - bvs.length = 0 by omega] at hc'
    obtain rfl := Option.some.inj hc'
    exact hap i c k hc hk
  intro i j c c' k hne hc hc' hk hk'
  rcases Nat.lt_or_gt_of_ne hne with h1 | h1
  ·exact key i j c c' k h1 hc hc' hk hk'
  ·exact key j i c' c k h1 hc' hc hk' hk
theorem OwnV.inner_lt {w : World} {base : Nat} {v : Value} {vs : List Vol} {bvs : List Value} (h : OwnV w base v vs bvs) {m : Nat} {b : Value} {k : Nat} (hb : bvs[m]? = some b) (hk : b.ownBlock = some k) : k < w.heap.size := by
 obtain ⟨x, hx⟩ := getQ (show m < vs.length by rw [← h.row.len]; exact ltQ hb)
 exact own_block_lt (h.inner m x b hx hb) hk
theorem l11Copy_c {w : World} {A0 A1 : Option Addr} {c0 c1 : Nat} {p : Pool} (h : PoolIn w A0 A1 c0 c1 p) (hs : SmallP p) :
  Calls Tryz.prog 135 #[.agg #[.slice A0 p.slots.length c0, .slice A1 p.vols.length c1]] w (MadeP w p) := by
 have HS := Lib.hid hs
 have HP := Lib.hid h
 have hlv : p.vols.length ≤ 1048576 := hs.vols.len
 have hls : p.slots.length ≤ 1048576 := hs.slots.len
 clear h hs
 go_enter Tryz.func135, Tryz.ntmps135
 go_wp2
 have hB : Blk ((w.alloc (.cells #[.slice A0 p.slots.length c0, .slice A1 p.vols.length c1] 44)).alloc (.cells #[.slice none 0 0, .slice none 0 0] 44)) w.heap.size #[.slice A0 p.slots.length c0, .slice A1 p.vols.length c1] 44 := (Blk.new _ _ _).alloc _
 have hR : Blk ((w.alloc (.cells #[.slice A0 p.slots.length c0, .slice A1 p.vols.length c1] 44)).alloc (.cells #[.slice none 0 0, .slice none 0 0] 44)) (w.heap.size + 1) #[.slice none 0 0, .slice none 0 0] 44 := Blk.nw2 _ _ _ _
 have hW : Bel w ((w.alloc (.cells #[.slice A0 p.slots.length c0, .slice A1 p.vols.length c1] 44)).alloc (.cells #[.slice none 0 0, .slice none 0 0] 44)) := bel_alloc (bel_alloc (Below.refl _ _) _) _
 have hz : w.heap.size + 1 + 1 = ((w.alloc (.cells #[.slice A0 p.slots.length c0, .slice A1 p.vols.length c1] 44)).alloc (.cells #[.slice none 0 0, .slice none 0 0] 44)).heap.size := by simp
 have hl2 : w.heap.size + 2 ≤ ((w.alloc (.cells #[.slice A0 p.slots.length c0, .slice A1 p.vols.length c1] 44)).alloc (.cells #[.slice none 0 0, .slice none 0 0] 44)).heap.size := by simp
 generalize ((w.alloc (.cells #[.slice A0 p.slots.length c0, .slice A1 p.vols.length c1] 44)).alloc (.cells #[.slice none 0 0, .slice none 0 0] 44)) = W0 at hB hR hW hl2 hz ⊢
 rw [show w.heap.size + 1 + 1 = W0.heap.size from hz]
 have HB := Lib.hid hB
 have HR := Lib.hid hR
 have HP0 := Lib.hid (HP.out.bel hW)
 have HE := Lib.hid (OwnV.empty W0 W0.heap.size (Nat.le_refl _))
 clear hB hR hz
 go_loopg [3, 4] p.vols.length (fun g v3 v4 W => ∃ k : Nat, g + k = p.vols.length ∧ v4 = .int .i64 k ∧ (∃ bvs, OwnV W W0.heap.size v3 (p.vols.take k) bvs) ∧ Bel W0 W)
 case atStart => exact ⟨0, rfl, rfl, ⟨[], HE.out⟩, bel_alloc (Below.refl _ _) _⟩
 case round =>
  obtain ⟨k, hk, rfl, ⟨bvs, hv⟩, hb⟩ := hrel
  have q0 := (HB.out.bel hb).cell 0
  have q1 := (HB.out.bel hb).cell 1
  have r0 := (HR.out.bel hb).cell 0
  have r1 := (HR.out.bel hb).cell 1
  have f0 := (HR.out.bel hb).free 0
  have f1 := (HR.out.bel hb).free 1
  simp at q0 q1 r0 r1
  have HV := Lib.hid hv
  clear hv
  by_cases hlt : k < p.vols.length
  ·obtain ⟨x, hx⟩ := getQ hlt
   obtain ⟨ad, A2, n2, rfl, hc, hc', hn, hC⟩ := at_vol (HP0.out.bel hb).v hx
   have hx1 : x.blocks.length ≤ 1048576 := HS.out.vols.blocks x (List.mem_of_getElem? hx)
   have HT := Lib.hid (take_snoc hx)
   have hlk : (p.vols.take k).length = k := by rw [List.length_take]; omega
   have HL := Lib.hid hlk
   clear hx hlk
   go_wp2_with (first
    | (go_at_call 152; refine (l3Copy_c hC hx1).mono ?_; rintro e w1 ⟨b, rfl, ho, hb1⟩; obtain ⟨A3, c3, rfl, hc3, hC3⟩ := ho.reads; have HO := Lib.hid ho; clear ho)
    | (at_builtin; refine print_append_cells (w0 := W0) W0.heap.size rfl (.tmp 13) (.tmp 20) 42 84 (.agg #[.string ⟨#[]⟩, .slice none 0 0]) 2 40 rfl Tryz.underlying42 info_vol rfl (by decide) (by decide) _ (p.vols.take k).length (((p.vols.take k).zip bvs).flatMap encV) (encV (x, .slice A3 x.blocks.length c3)) rfl rfl rfl (by intro u hu; simp [encV] at hu; rcases hu with rfl | rfl <;> rfl) (HV.out.bel hb1).row.row (hb.tr hb1) (hb.tr hb1).size (by rw [HL.out]; omega) ?_; intro v2 w2 hr2 hb2 hg2 hat2; clear hat2))
   go_roundg (p.vols.length - (k + 1))
   case rel =>
    refine ⟨k + 1, by omega, int_eq (by omega), ⟨bvs ++ [.slice A3 x.blocks.length c3], ?_⟩, hb2⟩
    rw [HT.out]
    refine OwnV.push (HV.out.bel hb1) (own_lower HO.out hb.size) (fun m b' j hm hj hj2 => ?_) hg2 hr2
    have h1 := HV.out.inner_lt hm hj
    have h2 := own_block_ge HO.out hj2
    omega
   case measure => omega
  ·have hkl : k = p.vols.length := by omega
   have HT := Lib.hid (show p.vols.take k = p.vols by rw [hkl, List.take_length])
   have hs0 := (HP0.out.bel hb).s
   have hrv := HV.out.reads
   rw [HT.out] at hrv
   obtain ⟨A5, c5, rfl, hc5, hC5⟩ := hrv
   go_wp2_with fail
   refine (l2Copy_c hs0 hls).mono ?_
   rintro e w1 ⟨v0, rfl, ho, hb1⟩
   have hb2 := hb.tr hb1
   have hR2 := HR.out.bel hb2
   obtain ⟨A6, c6, rfl, hc6, hC6⟩ := ho.reads
   have hv2 := HV.out.bel hb1
   rw [HT.out] at hv2
   have HV2 := Lib.hid hv2
   have HO := Lib.hid ho
   obtain ⟨r0, r1, f0, f1, -⟩ := k2f hR2
   clear hv2 ho
   go_wp2
   have hR3 := hR2.set 0 (.slice A6 p.slots.length c6) (cs' := #[.slice A6 p.slots.length c6, .slice none 0 0]) rfl
   have hR4 := hR3.set 1 (.slice A5 p.vols.length c5) (cs' := #[.slice A6 p.slots.length c6, .slice A5 p.vols.length c5]) rfl
   have hop : OwnP w1 W0.heap.size (.slice A6 p.slots.length c6) (.slice A5 p.vols.length c5) p bvs := ⟨own_lower HO.out hb.size, HV2.out⟩
   have hop4 := (hop.far hR2 (by decide) (by decide) (by decide) 0 (.slice A6 p.slots.length c6)).far hR3 (by decide) (by decide) (by decide) 1 (.slice A5 p.vols.length c5)
   have hb4 := bel_set (bel_set (hW.tr hb2) (Nat.le_succ _) 0 (.slice A6 p.slots.length c6)) (Nat.le_succ _) 1 (.slice A5 p.vols.length c5)
   refine bodyPost_ret (results_cell_row rfl _ _ (w.heap.size + 1) 44 #[.slice A6 p.slots.length c6, .slice A5 p.vols.length c5] (0, 0) _ rfl hR4 Tryz.underlying44 rfl (by kernel_rfl)) rfl ?_
   exact ⟨_, _, _, rfl, hop4.lower (by omega), hb4⟩
structure HalfV (W0 w : World) (base : Nat) (v : Value) (vs : List Vol) (bvs : List Value) (k : Nat) : Prop where
  row : VRow w base v vs bvs
  inner : ∀ (m : Nat) (x : Vol) (b : Value), m < k → vs[m]? = some x → bvs[m]? = some b → OwnI w base b x.blocks
  apart : ∀ (i j : Nat) (b b' : Value) (q : Nat), i < j → j < k → bvs[i]? = some b → bvs[j]? = some b' → b.ownBlock = some q → b'.ownBlock ≠ some q
  old : ∀ (m : Nat) (x : Vol) (b : Value), k ≤ m → vs[m]? = some x → bvs[m]? = some b → ∃ A c, b = .slice A x.blocks.length c ∧ x.blocks.length ≤ c ∧ kInt.C W0 A x.blocks.length x.blocks
theorem HalfV.bel {W0 w w' : World} {base : Nat} {v : Value} {vs : List Vol} {bvs : List Value} {k : Nat} (h : HalfV W0 w base v vs bvs k) (hb : Bel w w') : HalfV W0 w' base v vs bvs k :=
 ⟨h.row.bel hb, fun m x b hm hx hbb => (h.inner m x b hm hx hbb).bel hb, h.apart, h.old⟩
theorem HalfV.step {W0 w : World} {base g cap k : Nat} {vs : List Vol} {bvs : List Value} {x : Vol} {b : Value} (h : HalfV W0 w base (.slice (some ⟨g, 0, none⟩) vs.length cap) vs bvs k) (hx : vs[k]? = some x) (hb : OwnI w base b x.blocks)
  (hap : ∀ (m : Nat) (b' : Value) (q : Nat), m < k → bvs[m]? = some b' → b'.ownBlock = some q → b.ownBlock ≠ some q) :
  HalfV W0 (w.setCell ⟨g, k * 2 + 1, none⟩ b) base (.slice (some ⟨g, 0, none⟩) vs.length cap) vs (bvs.set k b) (k + 1) := by
 have hs := h.row.setB hx b
 have hgr : w.grownBy (w.setCell ⟨g, k * 2 + 1, none⟩ b) (Value.slice (some ⟨g, 0, none⟩) vs.length cap).ownBlock := hs.2
 have hk : k < bvs.length := by rw [h.row.len]; exact ltQ hx
 refine ⟨hs.1, ?_, ?_, ?_⟩
 ·intro m y c hm hy hc
  by_cases hmk : m = k
  ·subst hmk
   rw [List.getElem?_set_self hk] at hc
   obtain rfl := Option.some.inj hc
   obtain rfl := Option.some.inj (hx.symm.trans hy)
   exact own_other_type hb h.row.row (by decide) hgr
  ·rw [List.getElem?_set_ne (by omega)] at hc
   exact own_other_type (h.inner m y c (by omega) hy hc) h.row.row (by decide) hgr
 ·intro i j c c' q hij hj hc hc' hq
  rw [List.getElem?_set_ne (by omega)] at hc
  by_cases hjk : j = k
  ·subst hjk
   rw [List.getElem?_set_self hk] at hc'
   obtain rfl := Option.some.inj hc'
   exact hap i c q hij hc hq
  ·rw [List.getElem?_set_ne (by omega)] at hc'
   exact h.apart i j c c' q hij (by omega) hc hc' hq
 ·intro m y c hm hy hc
  rw [List.getElem?_set_ne (by omega)] at hc
  exact h.old m y c (by omega) hy hc
theorem HalfV.full {W0 w : World} {base : Nat} {v : Value} {vs : List Vol} {bvs : List Value} (h : HalfV W0 w base v vs bvs vs.length) : OwnV w base v vs bvs :=
 ⟨h.row, fun m x b hx hb => h.inner m x b (ltQ hx) hx hb, fun i j b b' q hne hb hb' hq hq' => by
  have hi := ltQ hb
  have hj := ltQ hb'
  rw [h.row.len] at hi hj
  rcases Nat.lt_or_gt_of_ne hne with h1 | h1
  ·exact h.apart i j b b' q h1 hj hb hb' hq hq'
  ·exact h.apart j i b' b q h1 hi hb' hb hq' hq⟩
theorem HalfV.far {W0 w : World} {base k : Nat} {v : Value} {vs : List Vol} {bvs : List Value} (h : HalfV W0 w base v vs bvs k) {b : Nat} {cs : Array Value} {t : TypeId} (hB : Blk w b cs t) (ht : 84 ≠ t) (ht2 : 3 ≠ t) (i : Nat) (u : Value) : HalfV W0 (w.setCell ⟨b, i, none⟩ u) base v vs bvs k :=
 ⟨h.row.far hB ht i u, fun m x c hm hx hc => (h.inner m x c hm hx hc).far hB ht2 i u, h.apart, h.old⟩
theorem HalfV.inner_lt {W0 w : World} {base k : Nat} {v : Value} {vs : List Vol} {bvs : List Value} (h : HalfV W0 w base v vs bvs k) {m : Nat} {b : Value} {q : Nat} (hm : m < k) (hb : bvs[m]? = some b) (hk : b.ownBlock = some q) : q < w.heap.size := by
 obtain ⟨x, hx⟩ := getQ (show m < vs.length by rw [← h.row.len]; exact ltQ hb)
 exact own_block_lt (h.inner m x b hm hx hb) hk
theorem Blk.rowset {w : World} {base g n cap j b : Nat} {e : TypeId} {sz : Nat} {xs : List Value} {cs : Array Value} {t : TypeId} (hB : Blk w b cs t) (h : w.ownsRow base e sz (.slice (some ⟨g, 0, none⟩) n cap) n xs) (hne : e ≠ t) (u : Value) :
  Blk (w.setCell ⟨g, j, none⟩ u) b cs t := by
 have hgb : g ≠ b := by
  intro hgb
  obtain ⟨c2, hc2⟩ := own_type h (k := g) rfl
  rw [hgb, show w.heap[b]? = some (.cells cs t (0, 0)) from hB] at hc2
  injection hc2 with hc2
  injection hc2 with _ ht
  exact hne ht.symm
 show (w.setCell ⟨g, j, none⟩ u).heap[b]? = _
 rw [Below.heap_setCell w ⟨g, j, none⟩ u b (fun hh => hgb hh.symm)]
 exact hB
theorem Blk.apart {w : World} {b c : Nat} {cs : Array Value} {t : TypeId} (h : Blk w b cs t) (hne : c ≠ b) (i : Nat) (u : Value) : Blk (w.setCell ⟨c, i, none⟩ u) b cs t := by
 show (w.setCell ⟨c, i, none⟩ u).heap[b]? = _
 rw [Below.heap_setCell w ⟨c, i, none⟩ u b (fun hh => hne hh.symm)]
 exact h
theorem poolClone_c {w : World} {A0 A1 : Option Addr} {c0 c1 : Nat} {p : Pool} (h : PoolIn w A0 A1 c0 c1 p) (hs : SmallP p) :
  Calls Tryz.prog 113 #[.agg #[.slice A0 p.slots.length c0, .slice A1 p.vols.length c1]] w (MadeP w p) := by
 have HS := Lib.hid hs
 have HP := Lib.hid h
 have hlv : p.vols.length ≤ 1048576 := hs.vols.len
 have hls : p.slots.length ≤ 1048576 := hs.slots.len
 clear h hs
 go_enter Tryz.func113, Tryz.ntmps113
 go_wp2
 have hB : Blk ((w.alloc (.cells #[.slice A0 p.slots.length c0, .slice A1 p.vols.length c1] 44)).alloc (.cells #[.slice none 0 0, .slice none 0 0] 44)) w.heap.size #[.slice A0 p.slots.length c0, .slice A1 p.vols.length c1] 44 := (Blk.new _ _ _).alloc _
 have hR : Blk ((w.alloc (.cells #[.slice A0 p.slots.length c0, .slice A1 p.vols.length c1] 44)).alloc (.cells #[.slice none 0 0, .slice none 0 0] 44)) (w.heap.size + 1) #[.slice none 0 0, .slice none 0 0] 44 := Blk.nw2 _ _ _ _
 have hW : Bel w ((w.alloc (.cells #[.slice A0 p.slots.length c0, .slice A1 p.vols.length c1] 44)).alloc (.cells #[.slice none 0 0, .slice none 0 0] 44)) := bel_alloc (bel_alloc (Below.refl _ _) _) _
 have hl2 : w.heap.size + 2 ≤ ((w.alloc (.cells #[.slice A0 p.slots.length c0, .slice A1 p.vols.length c1] 44)).alloc (.cells #[.slice none 0 0, .slice none 0 0] 44)).heap.size := by simp
 generalize ((w.alloc (.cells #[.slice A0 p.slots.length c0, .slice A1 p.vols.length c1] 44)).alloc (.cells #[.slice none 0 0, .slice none 0 0] 44)) = W0 at hB hR hW hl2 ⊢
 have q0 := hB.cell 0
 have q1 := hB.cell 1
 simp at q0 q1
 have B0 := Lib.hid (show Blk W0.drew w.heap.size #[.slice A0 p.slots.length c0, .slice A1 p.vols.length c1] 44 from hB)
 have R0 := Lib.hid (show Blk W0.drew (w.heap.size + 1) #[.slice none 0 0, .slice none 0 0] 44 from hR)
 have P0 := Lib.hid (HP.out.bel (hW.drew))
 have D0 := Lib.hid (show Bel W0.drew W0.drew from Below.refl _ _)
 have HW := Lib.hid hW
 clear hB hR hW
 refine start_ (n := 9) (S := fun w' => w'.cell? ⟨w.heap.size, 0, none⟩ = some (.slice A0 p.slots.length c0) ∧ w'.cell? ⟨w.heap.size, 1, none⟩ = some (.slice A1 p.vols.length c1)) (ds := [8]) #[F, F, F, F, F, F, F, F, F] (by kernel_rfl) rfl rfl ⟨q0, q1⟩ (fun hHeld => ?_)
 refine py 0 (some 5) #[T, F, F, F, F, F, F, F, F] ?_
 refine py 3 (some 8) #[T, F, F, T, F, F, F, F, F] ?_
 refine ty 1 (some 6) #[T, T, F, T, F, F, F, F, F] (hS := hHeld) (hz := by rintro w' ⟨s0, s1⟩; go_simp; with_reducible rfl) (h := ?_)
 refine ty 4 (some 9) #[T, T, F, T, T, F, F, F, F] (hS := hHeld) (hz := by rintro w' ⟨s0, s1⟩; go_simp; with_reducible rfl) (h := ?_)
 refine join_ (σ := Option Addr × Nat × Option Addr × Nat × List Value × Nat) 1 #[T, T, T, T, T, T, T, T, F] (fun s => [(7, .slice s.1 p.slots.length s.2.1), (10, .slice s.2.2.1 p.vols.length s.2.2.2.1), (3, .pointer (some ⟨s.2.2.2.2.2, 0, none⟩)), (11, .agg #[.slice s.1 p.slots.length s.2.1, .slice s.2.2.1 p.vols.length s.2.2.2.1])]) (fun s w' => (w'.cell? ⟨w.heap.size, 0, none⟩ = some (.slice A0 p.slots.length c0) ∧ w'.cell? ⟨w.heap.size, 1, none⟩ = some (.slice A1 p.vols.length c1)) ∧ OwnS w' W0.drew.heap.size (.slice s.1 p.slots.length s.2.1) p.slots ∧ HalfV W0.drew w' W0.drew.heap.size (.slice s.2.2.1 p.vols.length s.2.2.2.1) p.vols s.2.2.2.2.1 0 ∧ Blk w' s.2.2.2.2.2 #[.slice none 0 0, .slice none 0 0] 44 ∧ W0.drew.heap.size ≤ s.2.2.2.2.2 ∧ Blk w' (w.heap.size + 1) #[.slice none 0 0, .slice none 0 0] 44 ∧ Bel W0.drew w') ?_ ?_
 rotate_left
 ·intro hCont
  refine two_ (i := 2) (j := 7) (Ni := some 7) (Nj := some 3) #[T, T, T, T, T, F, F, F, F] #[T, T, F, T, T, F, F, T, F] rfl rfl rfl rfl (by kernel_rfl) (by decide) (by decide) (fun K hK => ?_) (fun K hK => ?_)
  ·skip
   refine gox Tryz.func130 #[.slice A0 p.slots.length c0] ?_
   with_reducible refine (cloneS_c (P0.out.bel D0.out).s hls).mono ?_
   rintro e w1 ⟨v0, rfl, ho, X1⟩
   have B1 := Lib.hid (Blk.bel B0.out X1)
   have R1 := Lib.hid (Blk.bel R0.out X1)
   have D1 := Lib.hid (Bel.tr D0.out X1)
   have S1 : Hid (OwnS w1 W0.drew.heap.size v0 p.slots) := Lib.hid (own_lower ho D0.out.size)
   clear ho
   obtain ⟨A2, k2, rfl, hc2, hC2⟩ := S1.out.reads
   refine ⟨_, rfl, ?_⟩
   refine hK.out _ _ ⟨B1.out.cell 0, B1.out.cell 1⟩ (fun hHeld => ?_)
   clear hK K
   refine nox 7 (h := ?_)
   refine two_ (i := 5) (j := 7) (Ni := some 10) (Nj := some 3) #[T, T, T, T, T, T, F, F, F] #[T, T, T, T, T, F, F, T, F] rfl rfl rfl rfl (by kernel_rfl) (by decide) (by decide) (fun K hK => ?_) (fun K hK => ?_)
   ·skip
    refine gox Tryz.func131 #[.slice A1 p.vols.length c1] ?_
    with_reducible refine (cloneV_c P0.out.v D1.out hlv).mono ?_
    rintro e w2 ⟨v1, bvs, rfl, ho, hi, X2⟩
    have B2 := Lib.hid (Blk.bel B1.out X2)
    have R2 := Lib.hid (Blk.bel R1.out X2)
    have D2 := Lib.hid (Bel.tr D1.out X2)
    have S2 := Lib.hid (OwnS.bel S1.out X2)
    have V2 := Lib.hid (⟨ho.len, own_lower ho.row D1.out.size⟩ : VRow w2 W0.drew.heap.size v1 p.vols bvs)
    have hi := Lib.hid hi
    clear ho
    obtain ⟨A3, k3, rfl, hc3⟩ := own_cap V2.out.row
    refine ⟨_, rfl, ?_⟩
    refine hK.out _ _ ⟨B2.out.cell 0, B2.out.cell 1⟩ (fun hHeld => ?_)
    clear hK K
    refine nox 10 (h := ?_)
    refine py 6 (some 11) #[T, T, T, T, T, T, T, F, F] ?_
    refine ox 7 (some 3) #[T, T, T, T, T, T, T, T, F] fun K hK => ?_
    refine vx ?_
    have B3 : Hid (Blk (w2.alloc (.cells #[.slice none 0 0, .slice none 0 0] 44)) w.heap.size #[.slice A0 p.slots.length c0, .slice A1 p.vols.length c1] 44) := Lib.hid (B2.out.alloc (.cells #[.slice none 0 0, .slice none 0 0] 44))
    have R3 : Hid (Blk (w2.alloc (.cells #[.slice none 0 0, .slice none 0 0] 44)) (w.heap.size + 1) #[.slice none 0 0, .slice none 0 0] 44) := Lib.hid (R2.out.alloc (.cells #[.slice none 0 0, .slice none 0 0] 44))
    have D3 : Hid (Bel W0.drew (w2.alloc (.cells #[.slice none 0 0, .slice none 0 0] 44))) := Lib.hid (bel_alloc D2.out (.cells #[.slice none 0 0, .slice none 0 0] 44))
    have S3 := Lib.hid (OwnS.bel S2.out (bel_alloc (Below.refl _ _) (.cells #[.slice none 0 0, .slice none 0 0] 44)))
    have V3 := Lib.hid (VRow.bel V2.out (bel_alloc (Below.refl _ _) (.cells #[.slice none 0 0, .slice none 0 0] 44)))
    have O3 : Hid (Blk (w2.alloc (.cells #[.slice none 0 0, .slice none 0 0] 44)) w2.heap.size #[.slice none 0 0, .slice none 0 0] 44) := Lib.hid (Blk.new w2 #[.slice none 0 0, .slice none 0 0] 44)
    have L3 := D2.out.size
    refine hK.out _ _ ⟨B3.out.cell 0, B3.out.cell 1⟩ (fun hHeld => ?_)
    clear hK K
    refine nox 3 (h := ?_)
    exact nof (hCont (A2, k2, A3, k3, bvs, w2.heap.size) _ ⟨hHeld, S3.out, ⟨V3.out, fun m x b h0 => absurd h0 (Nat.not_lt_zero _), fun i j b b2 q _ h0 => absurd h0 (Nat.not_lt_zero _), fun m x b _ => hi.out m x b⟩, O3.out, L3, R3.out, D3.out⟩)
   ·skip
    refine vx ?_
    have B2 : Hid (Blk (w1.alloc (.cells #[.slice none 0 0, .slice none 0 0] 44)) w.heap.size #[.slice A0 p.slots.length c0, .slice A1 p.vols.length c1] 44) := Lib.hid (B1.out.alloc (.cells #[.slice none 0 0, .slice none 0 0] 44))
    have R2 : Hid (Blk (w1.alloc (.cells #[.slice none 0 0, .slice none 0 0] 44)) (w.heap.size + 1) #[.slice none 0 0, .slice none 0 0] 44) := Lib.hid (R1.out.alloc (.cells #[.slice none 0 0, .slice none 0 0] 44))
    have D2 : Hid (Bel W0.drew (w1.alloc (.cells #[.slice none 0 0, .slice none 0 0] 44))) := Lib.hid (bel_alloc D1.out (.cells #[.slice none 0 0, .slice none 0 0] 44))
    have S2 := Lib.hid (OwnS.bel S1.out (bel_alloc (Below.refl _ _) (.cells #[.slice none 0 0, .slice none 0 0] 44)))
    have O2 : Hid (Blk (w1.alloc (.cells #[.slice none 0 0, .slice none 0 0] 44)) w1.heap.size #[.slice none 0 0, .slice none 0 0] 44) := Lib.hid (Blk.new w1 #[.slice none 0 0, .slice none 0 0] 44)
    have L2 := D1.out.size
    refine hK.out _ _ ⟨B2.out.cell 0, B2.out.cell 1⟩ (fun hHeld => ?_)
    clear hK K
    refine nox 3 (h := ?_)
    refine ox 5 (some 10) #[T, T, T, T, T, T, F, T, F] fun K hK => ?_
    refine gox Tryz.func131 #[.slice A1 p.vols.length c1] ?_
    with_reducible refine (cloneV_c P0.out.v D2.out hlv).mono ?_
    rintro e w3 ⟨v1, bvs, rfl, ho, hi, X3⟩
    have B3 := Lib.hid (Blk.bel B2.out X3)
    have R3 := Lib.hid (Blk.bel R2.out X3)
    have D3 := Lib.hid (Bel.tr D2.out X3)
    have S3 := Lib.hid (OwnS.bel S2.out X3)
    have O3 := Lib.hid (Blk.bel O2.out X3)
    have V3 := Lib.hid (⟨ho.len, own_lower ho.row D2.out.size⟩ : VRow w3 W0.drew.heap.size v1 p.vols bvs)
    have hi := Lib.hid hi
    clear ho
    obtain ⟨A3, k3, rfl, hc3⟩ := own_cap V3.out.row
    refine ⟨_, rfl, ?_⟩
    refine hK.out _ _ ⟨B3.out.cell 0, B3.out.cell 1⟩ (fun hHeld => ?_)
    clear hK K
    refine nox 10 (h := ?_)
    refine py 6 (some 11) #[T, T, T, T, T, T, T, T, F] ?_
    exact nof (hCont (A2, k2, A3, k3, bvs, w1.heap.size) _ ⟨hHeld, S3.out, ⟨V3.out, fun m x b h0 => absurd h0 (Nat.not_lt_zero _), fun i j b b2 q _ h0 => absurd h0 (Nat.not_lt_zero _), fun m x b _ => hi.out m x b⟩, O3.out, L2, R3.out, D3.out⟩)
  ·skip
   refine vx ?_
   have B1 : Hid (Blk (W0.alloc (.cells #[.slice none 0 0, .slice none 0 0] 44)).drew w.heap.size #[.slice A0 p.slots.length c0, .slice A1 p.vols.length c1] 44) := Lib.hid (B0.out.alloc (.cells #[.slice none 0 0, .slice none 0 0] 44))
   have R1 : Hid (Blk (W0.alloc (.cells #[.slice none 0 0, .slice none 0 0] 44)).drew (w.heap.size + 1) #[.slice none 0 0, .slice none 0 0] 44) := Lib.hid (R0.out.alloc (.cells #[.slice none 0 0, .slice none 0 0] 44))
   have D1 : Hid (Bel W0.drew (W0.alloc (.cells #[.slice none 0 0, .slice none 0 0] 44)).drew) := Lib.hid (bel_alloc D0.out (.cells #[.slice none 0 0, .slice none 0 0] 44))
   have O1 : Hid (Blk (W0.alloc (.cells #[.slice none 0 0, .slice none 0 0] 44)).drew W0.drew.heap.size #[.slice none 0 0, .slice none 0 0] 44) := Lib.hid (Blk.new W0.drew #[.slice none 0 0, .slice none 0 0] 44)
   have L1 := D0.out.size
   refine hK.out _ _ ⟨B1.out.cell 0, B1.out.cell 1⟩ (fun hHeld => ?_)
   clear hK K
   refine nox 3 (h := ?_)
   refine ox 2 (some 7) #[T, T, T, T, T, F, F, T, F] fun K hK => ?_
   refine gox Tryz.func130 #[.slice A0 p.slots.length c0] ?_
   with_reducible refine (cloneS_c (P0.out.bel D1.out).s hls).mono ?_
   rintro e w2 ⟨v0, rfl, ho, X2⟩
   have B2 := Lib.hid (Blk.bel B1.out X2)
   have R2 := Lib.hid (Blk.bel R1.out X2)
   have D2 := Lib.hid (Bel.tr D1.out X2)
   have O2 := Lib.hid (Blk.bel O1.out X2)
   have S2 : Hid (OwnS w2 W0.drew.heap.size v0 p.slots) := Lib.hid (own_lower ho D1.out.size)
   clear ho
   obtain ⟨A2, k2, rfl, hc2, hC2⟩ := S2.out.reads
   refine ⟨_, rfl, ?_⟩
   refine hK.out _ _ ⟨B2.out.cell 0, B2.out.cell 1⟩ (fun hHeld => ?_)
   clear hK K
   refine nox 7 (h := ?_)
   refine ox 5 (some 10) #[T, T, T, T, T, T, F, T, F] fun K hK => ?_
   refine gox Tryz.func131 #[.slice A1 p.vols.length c1] ?_
   with_reducible refine (cloneV_c P0.out.v D2.out hlv).mono ?_
   rintro e w3 ⟨v1, bvs, rfl, ho, hi, X3⟩
   have B3 := Lib.hid (Blk.bel B2.out X3)
   have R3 := Lib.hid (Blk.bel R2.out X3)
   have D3 := Lib.hid (Bel.tr D2.out X3)
   have S3 := Lib.hid (OwnS.bel S2.out X3)
   have O3 := Lib.hid (Blk.bel O2.out X3)
   have V3 := Lib.hid (⟨ho.len, own_lower ho.row D2.out.size⟩ : VRow w3 W0.drew.heap.size v1 p.vols bvs)
   have hi := Lib.hid hi
   clear ho
   obtain ⟨A3, k3, rfl, hc3⟩ := own_cap V3.out.row
   refine ⟨_, rfl, ?_⟩
   refine hK.out _ _ ⟨B3.out.cell 0, B3.out.cell 1⟩ (fun hHeld => ?_)
   clear hK K
   refine nox 10 (h := ?_)
   refine py 6 (some 11) #[T, T, T, T, T, T, T, T, F] ?_
   exact nof (hCont (A2, k2, A3, k3, bvs, W0.heap.size) _ ⟨hHeld, S3.out, ⟨V3.out, fun m x b h0 => absurd h0 (Nat.not_lt_zero _), fun i j b b2 q _ h0 => absurd h0 (Nat.not_lt_zero _), fun m x b _ => hi.out m x b⟩, O3.out, L1, R3.out, D3.out⟩)
 rintro ⟨A2, k2, A3, k3, bvs, b⟩ w3 ⟨hHeld, hS, hV, hO, hL, hR, hD⟩
 dsimp only at hS hV hO hL
 obtain ⟨r0, r1, f0, f1, -⟩ := k2f hO
 refine norm_ (a' := ?_) ?_ ?_
 rotate_left
 ·simp only [putAll, Act.put, lA, lB, lC]
  rfl
 refine lx 8 none #[T, T, T, T, T, T, T, T, T] fun K hK => ?_
 refine sx ?_
 refine hK.out _ _ ?_
 clear hK K
 refine done_ (by kernel_rfl) ?_
 have hO4 := (hO.set 0 (.slice A2 p.slots.length k2) (cs' := #[.slice A2 p.slots.length k2, .slice none 0 0]) rfl)
 have hO5 := hO4.set 1 (.slice A3 p.vols.length k3) (cs' := #[.slice A2 p.slots.length k2, .slice A3 p.vols.length k3]) rfl
 have hne : b ≠ w.heap.size + 1 := fun h => by have : W0.drew.heap.size = W0.heap.size := rfl; omega
 have HR5 : Blk ((w3.setCell ⟨b, 0, none⟩ (.slice A2 p.slots.length k2)).setCell ⟨b, 1, none⟩ (.slice A3 p.vols.length k3)) (w.heap.size + 1) #[.slice none 0 0, .slice none 0 0] 44 := (hR.apart hne 0 _).apart hne 1 _
 have hS5 := (hS.far hO (by decide) 0 (.slice A2 p.slots.length k2)).far hO4 (by decide) 1 (.slice A3 p.vols.length k3)
 have hV5 := (hV.far hO (by decide) (by decide) 0 (.slice A2 p.slots.length k2)).far hO4 (by decide) (by decide) 1 (.slice A3 p.vols.length k3)
 have hD5 := bel_set (bel_set hD hL 0 (.slice A2 p.slots.length k2)) hL 1 (.slice A3 p.vols.length k3)
 generalize ((w3.setCell ⟨b, 0, none⟩ (.slice A2 p.slots.length k2)).setCell ⟨b, 1, none⟩ (.slice A3 p.vols.length k3)) = w5 at hO5 HR5 hS5 hV5 hD5 ⊢
 clear hO hO4 hR hS hV hD r0 r1 f0 f1 hHeld q0 q1
 have u0 := hO5.cell 0
 have u1 := hO5.cell 1
 simp at u0 u1
 have K5 := Lib.hid hO5
 have KR5 := Lib.hid HR5
 have KS5 := Lib.hid hS5
 have KV5 := Lib.hid hV5
 have KD5 := Lib.hid hD5
 clear hO5 HR5 hS5 hV5 hD5
 go_wp2
 go_loopg [15] p.vols.length (fun g v15 W => ∃ k : Nat, g + k = p.vols.length ∧ v15 = .int .i64 k ∧ (∃ bvs, HalfV W0.drew W W0.drew.heap.size (.slice A3 p.vols.length k3) p.vols bvs k) ∧ Blk W b #[.slice A2 p.slots.length k2, .slice A3 p.vols.length k3] 44 ∧ Blk W (w.heap.size + 1) #[.slice none 0 0, .slice none 0 0] 44 ∧ OwnS W W0.drew.heap.size (.slice A2 p.slots.length k2) p.slots ∧ Bel W0.drew W)
 case atStart => exact ⟨0, rfl, rfl, ⟨_, KV5.out⟩, K5.out, KR5.out, KS5.out, KD5.out⟩
 case round =>
  obtain ⟨k, hk, rfl, ⟨bvs, hv⟩, hO, hR, hS, hD⟩ := hrel
  have q0 := hO.cell 0
  have q1 := hO.cell 1
  obtain ⟨r0, r1, f0, f1, -⟩ := k2f hR
  simp at q0 q1
  clear u0 u1
  have HV := Lib.hid hv
  have HO := Lib.hid hO
  have HR := Lib.hid hR
  have HS2 := Lib.hid hS
  have HD := Lib.hid hD
  clear hO hR hS hD
  by_cases hlt : k < p.vols.length
  ·obtain ⟨x, hx⟩ := getQ hlt
   obtain ⟨g, cap, bv, hbv, ev, hg1, hg2, hcap, hc, hc', hf, hf'⟩ := hv.row.at hx
   obtain ⟨rfl, -, rfl⟩ := by simpa using ev
   obtain ⟨A4, k4, rfl, hk4, hC4⟩ := hv.old k x bv (Nat.le_refl _) hx hbv
   have hx1 : x.blocks.length ≤ 1048576 := HS.out.vols.blocks x (List.mem_of_getElem? hx)
   have HX := Lib.hid hx
   have HC4 := Lib.hid (Kd.C_below hC4 HD.out)
   clear hv ev hx hC4 hbv
   go_wp2
   refine start_ (n := 13) (S := fun w' => w'.cell? ⟨b, 1, none⟩ = some (.slice (some ⟨g, 0, none⟩) p.vols.length k3) ∧ w'.cell? ⟨g, k * 2 + 1, none⟩ = some (.slice A4 x.blocks.length k4)) (ds := [12]) #[F, F, F, F, F, F, F, F, F, F, F, F, F] (by kernel_rfl) rfl rfl ⟨q1, hc'⟩ (fun hHeld => ?_)
   refine py 0 (some 18) #[T, F, F, F, F, F, F, F, F, F, F, F, F] ?_
   refine py 2 (some 20) #[T, F, T, F, F, F, F, F, F, F, F, F, F] ?_
   refine py 3 (some 21) #[T, F, T, T, F, F, F, F, F, F, F, F, F] ?_
   refine py 5 (some 23) #[T, F, T, T, F, T, F, F, F, F, F, F, F] ?_
   refine ty 1 (some 19) #[T, T, T, T, F, T, F, F, F, F, F, F, F] (hS := hHeld) (hz := by rintro w' ⟨s0, s1⟩; go_simp; with_reducible rfl) (h := ?_)
   refine ty 4 (some 22) #[T, T, T, T, T, T, F, F, F, F, F, F, F] (hS := hHeld) (hz := by rintro w' ⟨s0, s1⟩; go_simp; with_reducible rfl) (h := ?_)
   refine py 6 (some 24) #[T, T, T, T, T, T, T, F, F, F, F, F, F] ?_
   refine py 7 (some 25) #[T, T, T, T, T, T, T, T, F, F, F, F, F] ?_
   refine ty 8 (some 26) #[T, T, T, T, T, T, T, T, T, F, F, F, F] (hS := hHeld) (hz := by rintro w' ⟨s0, s1⟩; go_simp; with_reducible rfl) (h := ?_)
   refine ox 9 (some 27) #[T, T, T, T, T, T, T, T, T, T, F, F, F] fun K hK => ?_
   refine gox Tryz.func132 #[.slice A4 x.blocks.length k4] ?_
   with_reducible refine (cloneI_c (Kd.C_drew HC4.out) hx1).mono ?_
   rintro e w6 ⟨v6, rfl, ho, hb6⟩
   obtain ⟨A6, k6, rfl, hk6, hC6⟩ := ho.reads
   have hO6 := HO.out.bel (w := wr.drew) hb6
   have HV6 := Lib.hid (HalfV.bel (w := wr.drew) (HV.out.bel (Below.refl _ _).drew) hb6)
   have HO6 := Lib.hid hO6
   have HI6 := Lib.hid ho
   have d1 := (Below.cell hb6 hg2).trans hc'
   have d0 := hO6.cell 1
   have e0 := World.ownsRow.frozenAt HV6.out.row.row (k * 2 + 1)
   simp at d0
   clear hO6 ho
   refine ⟨_, rfl, ?_⟩
   refine hK.out _ _ ⟨d0, d1⟩ (fun hHeld => ?_)
   clear hK K
   refine nox 27 (h := ?_)
   refine py 10 (some 28) #[T, T, T, T, T, T, T, T, T, T, T, F, F] ?_
   refine py 11 (some 29) #[T, T, T, T, T, T, T, T, T, T, T, T, F] ?_
   refine lx 12 none #[T, T, T, T, T, T, T, T, T, T, T, T, T] fun K hK => ?_
   refine sx ?_
   refine hK.out _ _ ?_
   clear hK K
   refine done_ (by kernel_rfl) ?_
   have hst := HalfV.step HV6.out HX.out (own_lower HI6.out HD.out.drew.size) (fun m b' q hm hb' hq hq2 => by
    have h1 := HV.out.inner_lt hm hb' hq
    have h2 := own_block_ge HI6.out hq2
    have h3 : wr.drew.heap.size = wr.heap.size := rfl
    omega)
   have hO7 := HO6.out.rowset HV6.out.row.row (by decide) (j := k * 2 + 1) (.slice A6 x.blocks.length k6)
   have hR7 := (HR.out.bel (w := wr.drew) hb6).rowset HV6.out.row.row (by decide) (j := k * 2 + 1) (.slice A6 x.blocks.length k6)
   have hS7 := own_other_type (HS2.out.bel (w := wr.drew) hb6) HV6.out.row.row (by decide) (HV6.out.row.setB HX.out (.slice A6 x.blocks.length k6)).2
   have hD7 := bel_set (Bel.tr (b := wr.drew) HD.out.drew hb6) hg1 (k * 2 + 1) (.slice A6 x.blocks.length k6)
   have H7 := Lib.hid (And.intro (And.intro hO7 hR7) (And.intro hS7 (And.intro hD7 hst)))
   clear hst hO7 hR7 hS7 hD7
   go_wp2
   go_roundg (p.vols.length - (k + 1))
   case rel => exact ⟨k + 1, by omega, int_eq (by omega), ⟨_, H7.out.2.2.2⟩, H7.out.1.1, H7.out.1.2, H7.out.2.1, H7.out.2.2.1⟩
   case measure => omega
  ·have hkl : k = p.vols.length := by omega
   subst hkl
   have hop : OwnP wr W0.drew.heap.size (.slice A2 p.slots.length k2) (.slice A3 p.vols.length k3) p bvs := ⟨HS2.out, HV.out.full⟩
   have HOP := Lib.hid hop
   clear hv hop
   go_wp2
   have hR3 := HR.out.set 0 (.slice A2 p.slots.length k2) (cs' := #[.slice A2 p.slots.length k2, .slice none 0 0]) rfl
   have hR4 := hR3.set 1 (.slice A3 p.vols.length k3) (cs' := #[.slice A2 p.slots.length k2, .slice A3 p.vols.length k3]) rfl
   have hop4 := (HOP.out.far HR.out (by decide) (by decide) (by decide) 0 (.slice A2 p.slots.length k2)).far hR3 (by decide) (by decide) (by decide) 1 (.slice A3 p.vols.length k3)
   have hb4 := bel_set (bel_set (Bel.tr (b := W0.drew) HW.out.drew HD.out) (Nat.le_succ _) 0 (.slice A2 p.slots.length k2)) (Nat.le_succ _) 1 (.slice A3 p.vols.length k3)
   refine bodyPost_ret (results_cell_row rfl _ _ (w.heap.size + 1) 44 #[.slice A2 p.slots.length k2, .slice A3 p.vols.length k3] (0, 0) _ rfl hR4 Tryz.underlying44 rfl (by kernel_rfl)) rfl ?_
   exact ⟨_, _, _, rfl, hop4.lower (by have : W0.drew.heap.size = W0.heap.size := rfl; omega), hb4⟩
open Go.RowKit Go.Proofs.YtljfoglilggkjaaGreatW.PrintWords
structure Only (w w' : World) (S : Nat → Prop) : Prop where
  os : w'.os = w.os
  tape : w'.tape = w.tape
  output : w'.output = w.output
  size : w.heap.size ≤ w'.heap.size
  block : ∀ k, k < w.heap.size → ¬ S k → w'.heap[k]? = w.heap[k]?
theorem Only.refl (w : World) (S : Nat → Prop) : Only w w S := ⟨rfl, rfl, rfl, Nat.le_refl _, fun _ _ _ => rfl⟩
theorem Only.trans {a b c : World} {S : Nat → Prop} (h : Only a b S) (k : Only b c S) : Only a c S :=
 ⟨k.os.trans h.os, k.tape.trans h.tape, k.output.trans h.output, Nat.le_trans h.size k.size, fun i hi hS => (k.block i (Nat.lt_of_lt_of_le hi h.size) hS).trans (h.block i hi hS)⟩
theorem Only.of_bel {w w' : World} {S : Nat → Prop} (h : Bel w w') : Only w w' S := ⟨h.os, h.tape, h.output, h.size, fun k hk _ => h.block k hk⟩
theorem Only.mono {w w' : World} {S T : Nat → Prop} (h : Only w w' S) (hS : ∀ k, S k → T k) : Only w w' T := ⟨h.os, h.tape, h.output, h.size, fun k hk hT => h.block k hk fun e => hT (hS k e)⟩
theorem Only.below {w w' : World} {S : Nat → Prop} {b : Nat} (h : Only w w' S) (hb : b ≤ w.heap.size) (hS : ∀ k, S k → b ≤ k) : Below b w w' :=
 ⟨h.os, h.tape, h.output, h.size, fun k hk => h.block k (by omega) fun e => by have := hS k e; omega⟩
def InV (v : Value) (bvs : List Value) (k : Nat) : Prop := v.ownBlock = some k ∨ ∃ b ∈ bvs, b.ownBlock = some k
theorem flat_same {α β} {enc : α → List β} {xs : List α} {m : Nat} {x y : α} (hx : xs[m]? = some x) (he : enc y = enc x) : (xs.set m y).flatMap enc = xs.flatMap enc := by
 induction xs generalizing m with
 | nil => simp at hx
 | cons a xs ih =>
  cases m with
  | zero => simp at hx; subst hx; simp [he]
  | succ m => simp at hx; simp [ih hx]
theorem OwnV.setI {w w' : World} {base : Nat} {v : Value} {vs : List Vol} {bvs : List Value} (h : OwnV w base v vs bvs) {m : Nat} {x : Vol} {b : Value} (hx : vs[m]? = some x) (hb : bvs[m]? = some b) {s : List Int} (ho : OwnI w' base b s) (hg : w.grownBy w' b.ownBlock) :
  OwnV w' base v (vs.set m ⟨x.name, s⟩) bvs := by
 refine ⟨⟨by rw [List.length_set]; exact h.row.len, ?_⟩, ?_, h.apart⟩
 ·have hz : (((vs.set m ⟨x.name, s⟩).zip bvs).flatMap encV) = ((vs.zip bvs).flatMap encV) := by
   rw [← zip_setL hb]
   exact flat_same (zip_get hx hb) rfl
  rw [hz, List.length_set]
  exact own_other_type h.row.row (h.inner m x b hx hb) (by decide) hg
 ·intro i y c hy hc
  by_cases e : i = m
  ·subst e
   rw [List.getElem?_set_self (ltQ hx)] at hy
   obtain rfl := Option.some.inj hy
   obtain rfl := Option.some.inj (hc.symm.trans hb)
   exact ho
  ·rw [List.getElem?_set_ne (fun h => e h.symm)] at hy
   refine (h.inner i y c hy hc).kept hg ?_
   cases hk : c.ownBlock with
   | none => exact .inl rfl
   | some q => exact .inr fun h2 => h.apart i m c b q e hc hb hk h2.symm
def MarkedV (k : Int) (w : World) (base : Nat) (v : Value) (vs : List Vol) (bvs : List Value) (e : Ending) (w' : World) : Prop :=
 e = .returned (.int .i64 (nxV k vs)) ∧ (∃ vs', vs'.map (fun x => x.blocks.length) = vs.map (fun x => x.blocks.length) ∧ OwnV w' base v vs' bvs ∧ MkV k vs') ∧ Only w w' (InV v bvs)
end Go.Proofs.YtljfoglilggkjaaGreat
namespace Go.Proofs.YtljfoglilggkjaaGreatW.PrintWords
open Go.RowKit
namespace Kd
def tag {α : Type} (f : Nat → Nat) (d : Kd α) : Kd (α × Nat) where
 sz := d.sz
 E := d.E
 K := fun w x cs => d.K w x.1 cs
 M := fun w base ok x cs => d.M w base (fun k => ok k ∧ f k = x.2) x.1 cs
 K_len := fun h => d.K_len h
 K_one := fun h => d.K_one h
 K_below := fun hb h => d.K_below hb h
 K_of_M := fun h => d.K_of_M h
 M_mono := fun hok h => d.M_mono (fun k hk => ⟨hok k hk.1, hk.2⟩) h
 M_bound := fun h => d.M_mono (fun _ hk => ⟨⟨hk.1.1, hk.2⟩, hk.1.2⟩) (d.M_bound h)
 M_move := fun hm h => d.M_move (fun k hk => hm k hk.1) h
 M_lower := fun hb h => d.M_lower hb h
def bare {α : Type} (d : Kd α) : Kd α where
 sz := d.sz
 E := d.E
 K := d.K
 M := fun w base _ x cs => d.M w base (fun _ => False) x cs
 K_len := fun h => d.K_len h
 K_one := fun h => d.K_one h
 K_below := fun hb h => d.K_below hb h
 K_of_M := fun h => d.K_of_M h
 M_mono := fun _ h => h
 M_bound := fun h => h
 M_move := fun _ h => d.M_move (fun _ hk => hk.elim) h
 M_lower := fun hb h => d.M_lower hb h
def raw (sz : Nat) : Kd (List Value) where
 sz := sz
 E := []
 K := fun _ x cs => cs = x ∧ cs.length = sz ∧ ∀ u ∈ cs, u.oneCell' = true
 M := fun _ _ _ x cs => cs = x ∧ cs.length = sz ∧ ∀ u ∈ cs, u.oneCell' = true
 K_len := fun h => h.2.1
 K_one := fun h => h.2.2
 K_below := fun _ h => h
 K_of_M := fun h => h
 M_mono := fun _ h => h
 M_bound := fun h => h
 M_move := fun _ h => h
 M_lower := fun _ h => h
def S {α : Type} (d : Kd α) (e : Nat) (w : World) (base : Nat) (ok : Nat → Prop) (v : Value) (xs : List α) : Prop := ∃ f, (tag f d).R e w base ok v xs.zipIdx
section
variable {α β : Type} {d : Kd α} {d' : Kd β} {e e' : Nat} {w w1 W : World} {base b : Nat} {ok ok' okv oku : Nat → Prop} {u v : Value} {xs : List α} {ys : List β}
end
section
variable {α β : Type} {d : Kd α} {d' : Kd β} {e e' g : Nat} {w w1 W : World} {base b : Nat} {ok ok' okv oku : Nat → Prop} {u v : Value} {xs : List α} {ys : List β}
end
section
open Classical in
variable {P : Program} {ops : Array Oper} {rest : List Oper} {o : Oper} {a : Act} {Q : Exit → Act → World → Prop} {Kc : Act → World → Prop} {α : Type}
end
def gap {α : Type} (f : Nat → Nat) (d : Kd α) (i : Nat) (c : List Value) : Kd (α × Nat) where
 sz := d.sz
 E := d.E
 K := fun w x cs => (x.2 = i → cs = c ∧ cs.length = d.sz ∧ ∀ u ∈ cs, u.oneCell' = true) ∧ (x.2 ≠ i → d.K w x.1 cs)
 M := fun w base ok x cs => (x.2 = i → cs = c ∧ cs.length = d.sz ∧ ∀ u ∈ cs, u.oneCell' = true) ∧ (x.2 ≠ i → d.M w base (fun k => ok k ∧ f k = x.2) x.1 cs)
 K_len := fun {w x cs} h => by
  by_cases hx : x.2 = i
  ·exact (h.1 hx).2.1
  ·exact d.K_len (h.2 hx)
 K_one := fun {w x cs} h => by
  by_cases hx : x.2 = i
  ·exact (h.1 hx).2.2
  ·exact d.K_one (h.2 hx)
 K_below := fun hb h => ⟨h.1, fun hx => d.K_below hb (h.2 hx)⟩
 K_of_M := fun h => ⟨h.1, fun hx => d.K_of_M (h.2 hx)⟩
 M_mono := fun hok h => ⟨h.1, fun hx => d.M_mono (fun k hk => ⟨hok k hk.1, hk.2⟩) (h.2 hx)⟩
 M_bound := fun h => ⟨h.1, fun hx => d.M_mono (fun _ hk => ⟨⟨hk.1.1, hk.2⟩, hk.1.2⟩) (d.M_bound (h.2 hx))⟩
 M_move := fun hm h => ⟨h.1, fun hx => d.M_move (fun k hk => hm k hk.1) (h.2 hx)⟩
 M_lower := fun hb h => ⟨h.1, fun hx => d.M_lower hb (h.2 hx)⟩
def H {α : Type} (d : Kd α) (e : Nat) (w : World) (base : Nat) (ok : Nat → Prop) (v : Value) (xs : List α) (i : Int) (oki : Nat → Prop) (c : List Value) : Prop :=
 (∀ k, oki k → ok k) ∧ ∃ f, (gap f d i.toNat c).R e w base (fun k => ok k ∧ ¬ oki k) v xs.zipIdx
section
variable {α β : Type} {d : Kd α} {e e' g n cap : Nat} {w w1 W : World} {base : Nat} {ok ok' oki okp : Nat → Prop} {u v : Value} {xs : List α} {i : Int} {c : List Value}
end
section
variable {P : Program} {ops : Array Oper} {rest : List Oper} {o : Oper} {a : Act} {Q : Exit → Act → World → Prop} {α : Type}
end
end Kd
end Go.Proofs.YtljfoglilggkjaaGreatW.PrintWords
namespace Go.Proofs.YtljfoglilggkjaaGreat
open Go.RowKit Go.Proofs.YtljfoglilggkjaaGreatW.PrintWords
def layL (L : List Value) (o : Nat) (vs : List Value) : List Value := L.take o ++ (vs ++ L.drop (o + vs.length))
theorem layL_len {L : List Value} {o : Nat} {vs : List Value} (h : o + vs.length ≤ L.length) : (layL L o vs).length = L.length := by simp [layL]; omega
theorem layL_nil (L : List Value) (o : Nat) : layL L o [] = L := by simp [layL]
theorem layL_cons {L : List Value} {o : Nat} {v : Value} {vs : List Value} (h : o + (vs.length + 1) ≤ L.length) : layL (L.set o v) (o + 1) vs = layL L o (v :: vs) := by
 have := list_seg_step L o v vs h
 simpa [layL, List.append_assoc] using this
theorem layL_get {L : List Value} {o : Nat} {vs : List Value} (h : o + vs.length ≤ L.length) (k : Nat) : (layL L o vs)[k]? = if k < o then L[k]? else if k < o + vs.length then vs[k - o]? else L[k]? := by
 have h1 : (L.take o).length = o := by rw [List.length_take]; omega
 unfold layL
 by_cases hk : k < o
 ·rw [if_pos hk, List.getElem?_append_left (by omega), List.getElem?_take, if_pos hk]
 ·rw [if_neg hk, List.getElem?_append_right (by omega), h1]
  by_cases hk2 : k < o + vs.length
  ·rw [if_pos hk2, List.getElem?_append_left (by omega)]
  ·rw [if_neg hk2, List.getElem?_append_right (by omega), List.getElem?_drop]
   congr 1; omega
theorem setCells_heap {b : Nat} {t : TypeId} : ∀ (vs : List Value) (o : Nat) (cur : List Value) (w : World), w.heap[b]? = some (.cells cur.toArray t (0, 0)) → o + vs.length ≤ cur.length → (w.setCells b o vs).heap[b]? = some (.cells (layL cur o vs).toArray t (0, 0))
 | [], o, cur, w, h, _ => by rw [World.setCells, layL_nil]; exact h
 | v :: vs, o, cur, w, h, hl => by
  rw [World.setCells, ← layL_cons (by simpa using hl)]
  refine setCells_heap vs (o + 1) (cur.set o v) _ ?_ (by simp at hl ⊢; omega)
  have := blk_set (show Blk w b cur.toArray t from h) o v
  simpa [Blk] using this
theorem grown_setCell (w : World) (b i : Nat) (u : Value) : w.grownBy (w.setCell ⟨b, i, none⟩ u) (some b) :=
 ⟨rfl, rfl, rfl, by simp [World.setCell], fun k hk hne => Below.heap_setCell w ⟨b, i, none⟩ u k (fun e => hne (by rw [e]))⟩
theorem grown_setCells (b : Nat) : ∀ (vs : List Value) (o : Nat) (w : World), w.grownBy (w.setCells b o vs) (some b)
 | [], _, w => grown_refl w _
 | v :: vs, o, w => grown_tr (grown_setCell w b o v) (grown_setCells b vs (o + 1) _)
theorem grown_drew (w : World) (r : Option Nat) : w.grownBy w.drew r := grown_of_bel (Below.refl _ _).drew r
theorem own_open {w : World} {base g n cap : Nat} {e : TypeId} {sz : Nat} {xs : List Value} (h : w.ownsRow base e sz (.slice (some ⟨g, 0, none⟩) n cap) n xs) :
  base ≤ g ∧ n ≤ cap ∧ cap ≤ 9223372036854775807 ∧ xs.length = n * sz ∧ ∃ rest : List Value, rest.length + n * sz = cap * sz ∧ w.heap[g]? = some (.cells (xs ++ rest).toArray e (0, 0)) := by
 rcases h.2 with ⟨h0, _⟩ | ⟨g', cap', cur, e1, hb, hg, hc, hm, hs, ht⟩
 ·cases h0
 ·obtain ⟨rfl, rfl⟩ : g = g' ∧ cap = cap' := by simpa using e1
  refine ⟨hb, hc, by simpa [maxLen] using hm, h.1, cur.toList.drop (n * sz), ?_, ?_⟩
  ·rw [List.length_drop, Array.length_toList, hs]
   have := Nat.mul_le_mul_right sz hc
   omega
  ·rw [← ht, List.take_append_drop]; exact hg
theorem own_close {w : World} {base g n cap : Nat} {e : TypeId} {sz : Nat} {xs rest : List Value} (hb : base ≤ g) (hc : n ≤ cap) (hm : cap ≤ 9223372036854775807) (hl : xs.length = n * sz) (hr : rest.length + n * sz = cap * sz)
  (hg : w.heap[g]? = some (.cells (xs ++ rest).toArray e (0, 0))) : w.ownsRow base e sz (.slice (some ⟨g, 0, none⟩) n cap) n xs :=
 ⟨hl, .inr ⟨g, cap, (xs ++ rest).toArray, rfl, hb, hg, hc, by simpa [maxLen] using hm, by simp; omega, by simp [← hl]⟩⟩
theorem cell_of_row {w : World} {g : Nat} {cs : List Value} {e : TypeId} (hg : w.heap[g]? = some (.cells cs.toArray e (0, 0))) (k : Nat) : w.cell? ⟨g, k, none⟩ = cs[k]? := by simp [World.cell?, hg]
theorem free_of_row {w : World} {g : Nat} {cs : List Value} {e : TypeId} (hg : w.heap[g]? = some (.cells cs.toArray e (0, 0))) (k : Nat) : w.frozen? ⟨g, k, none⟩ = false := by simp [World.frozen?, hg]
theorem run_copy_rows {P : Program} (w : World) (dT sT ty elem : TypeId) (size : Nat) (b o dLen dCap : Nat) (a : Addr) (sLen sCap : Nat) (cs : List Value)
  (hu : P.underlying dT = some (.slice elem)) (hs : (P.info? elem).map (·.size) = some size) (hn : cs.length = Nat.min sLen dLen * size)
  (hsrc : ∀ j v, cs[j]? = some v → w.cell? (a.add j) = some v) (hc : ∀ j, j < cs.length → (w.cell? ⟨b, o + j, none⟩).isSome = true) (hf : ∀ j, j < cs.length → w.frozen? ⟨b, o + j, none⟩ = false) (h1 : ∀ v ∈ cs, v.oneCell' = true) :
  (Builtin.copy_ #[dT, sT] ty #[.slice (some ⟨b, o, none⟩) dLen dCap, .slice (some a) sLen sCap]).run P w = .ok (goInt (Nat.min sLen dLen)) (w.setCells b o cs) := by
 have hl := run_loadCells_list (P := P) w a cs hsrc
 have hst := run_storeCells_cells (P := P) b o cs 0 w (by simpa using hc) (by simpa using hf) h1
 cases hq : P.info? elem with
 | none => simp [hq] at hs
 | some i =>
  have hi : i.size = size := by simpa [hq] using hs
  simp [Builtin.copy_, run_underlying hu, Builtin.lenOf, Builtin.firstCells, sizeOf, typeInfo, hq, hi, ← hn, hl, hst]
theorem run_clear_rows {P : Program} (w : World) (t e ty : TypeId) (z : Value) (ht : P.underlying t = some (.slice e)) (hv : ∀ w, (zeroValue e).run P w = .ok z w) (b o n c : Nat) (zs : List Value) (hz : (Builtin.zeroCells z.cells n).toList = zs) (h1 : ∀ v ∈ zs, v.oneCell' = true) (hn : 0 < n)
  (hc : ∀ j, j < zs.length → (w.cell? ⟨b, o + j, none⟩).isSome = true) (hf : ∀ j, j < zs.length → w.frozen? ⟨b, o + j, none⟩ = false) :
  (Builtin.clear_ #[t] ty #[.slice (some ⟨b, o, none⟩) n c]).run P w = .ok (.tuple #[]) (w.setCells b o zs) := by
 have hst := run_storeCells_cells (P := P) b o zs 0 w (by simpa using hc) (by simpa using hf) h1
 simp only [Nat.add_zero] at hst
 obtain ⟨m, rfl⟩ : ∃ m, n = m + 1 := ⟨n - 1, by omega⟩
 simp [Builtin.clear_, run_underlying ht, hv, hz, hst]
theorem wpList_copy_rows {P : Program} (w : World) {ops : Array Oper} {rest : List Oper} {o : Oper} {a : Act} {Q : Exit → Act → World → Prop} (hgd : o.guard = none) (d s : Operand) (t t' : TypeId)
  (ho : o.op = .call { callee := .builtin .copy, args := #[d, s], argTypes := #[t, t'] }) (v u : Value) (hd : a.eval d = v) (hs : a.eval s = u) {v' : Value} {w' : World}
  (hr : (Builtin.copy_ #[t, t'] o.type #[v, u]).run P w = .ok v' w') (h : wpList P ops Q rest (a.put o.dst v') w') : wpList P ops Q (o :: rest) a w := by
 refine wpList_plain hgd fun K hK => ?_
 unfold Oper.wp execOp
 simp only [ho, resolve, invoke, builtin, Sem.run_bind, Sem.run_pure, Result.andThen_ok, List.map_toArray, List.map_cons, List.map_nil, hd, hs, hr]
 exact hK _ _ h
theorem step_copy_rows {P : Program} {ops : Array Oper} {o : Oper} {a : Act} {w : World} {K : Act → World → Prop} {Q : Exit → Act → World → Prop} {E : Prop}
  (hg : o.guard = none) (d x : Operand) (dT sT : TypeId) (hop : o.op = Op.call { callee := Callee.builtin Builtin.copy, args := #[d, x], argTypes := #[dT, sT] })
  (v u : Value) (hd : a.eval d = v) (hx : a.eval x = u) {v' : Value} {w' : World} (hr : (Builtin.copy_ #[dT, sT] o.type #[v, u]).run P w = .ok v' w') (hK : K (a.put o.dst v') w') :
  if Region.wanted o (yielded ops a.tmps) = true then Oper.wp P o a w K Q else E := by
 have hw : Region.wanted o (yielded ops a.tmps) = true := by simp [Region.wanted, hg]
 rw [if_pos hw]
 unfold Oper.wp
 simp [execOp, hop, resolve, invoke, builtin, hd, hx, hr, Result.andThen]
 exact hK
theorem flat_take {α β} {enc : α → List β} {sz : Nat} (hl : ∀ x, (enc x).length = sz) (xs : List α) (k : Nat) : (xs.take k).flatMap enc = (xs.flatMap enc).take (k * sz) := by
 induction xs generalizing k with
 | nil => simp
 | cons y ys ih =>
  cases k with
  | zero => simp
  | succ k => rw [List.take_succ_cons, List.flatMap_cons, List.flatMap_cons, ih, List.take_append, hl, show (k + 1) * sz - sz = k * sz by rw [Nat.succ_mul]; omega, List.take_of_length_le (l := enc y) (by rw [hl, Nat.succ_mul]; omega)]
theorem flat_drop {α β} {enc : α → List β} {sz : Nat} (hl : ∀ x, (enc x).length = sz) (xs : List α) (k : Nat) : (xs.drop k).flatMap enc = (xs.flatMap enc).drop (k * sz) := by
 induction xs generalizing k with
 | nil => simp
 | cons y ys ih =>
  cases k with
  | zero => simp
  | succ k => rw [List.drop_succ_cons, List.flatMap_cons, ih, List.drop_append, hl, show (k + 1) * sz - sz = k * sz by rw [Nat.succ_mul]; omega, List.drop_of_length_le (l := enc y) (by rw [hl, Nat.succ_mul]; omega), List.nil_append]
open Go.RowKit Go.Proofs.YtljfoglilggkjaaGreatW.PrintWords Go.Proofs.YtljfoglilggkjaaGreatW.PrintLast
theorem zip_eraseIdx {α β} (xs : List α) (ys : List β) (i : Nat) (h : ys.length = xs.length) : (xs.eraseIdx i).zip (ys.eraseIdx i) = (xs.zip ys).eraseIdx i := by
 induction xs generalizing ys i with
 | nil => simp
 | cons x xs ih =>
  cases ys with
  | nil => simp at h
  | cons y ys =>
   cases i with
   | zero => rfl
   | succ i => simp [ih ys i (by simpa using h)]
theorem flat_erase {α β} {enc : α → List β} {sz : Nat} (hl : ∀ x, (enc x).length = sz) (xs : List α) (i : Nat) : (xs.eraseIdx i).flatMap enc = (xs.flatMap enc).take (i * sz) ++ (xs.flatMap enc).drop ((i + 1) * sz) := by
 rw [List.eraseIdx_eq_take_drop_succ, List.flatMap_append, flat_take hl, flat_drop hl]
theorem one_flatV {zs : List (Vol × Value)} (h : ∀ z ∈ zs, z.2.oneCell' = true) : ∀ u ∈ zs.flatMap encV, u.oneCell' = true := by
 intro u hu
 obtain ⟨z, hz, hu⟩ := List.mem_flatMap.1 hu
 simp [encV] at hu
 rcases hu with rfl | rfl
 ·rfl
 ·exact h z hz
theorem vol_zero (w : World) : (zeroValue 84).run Tryz.prog w = .ok (.agg #[.string ⟨#[]⟩, .slice none 0 0]) w := by
 have h := info_vol
 obtain ⟨i, hi, hz⟩ := Option.map_eq_some_iff.1 h
 simp only [Prod.mk.injEq] at hz
 simp [zeroValue, typeInfo, hi, hz.1]
def Gone1 (w : World) (base g cap : Nat) (vs : List Vol) (bvs : List Value) (i : Nat) (e : Ending) (w' : World) : Prop :=
 e = .returned (.slice (some ⟨g, 0, none⟩) (vs.length - 1) cap) ∧ VRow w' base (.slice (some ⟨g, 0, none⟩) (vs.length - 1) cap) (vs.eraseIdx i) (bvs.eraseIdx i) ∧ w.grownBy w' (some g)
theorem gone_cells {L rest : List Value} {n i cap : Nat} (hL : L.length = n * 2) (hi : i < n) (hr : rest.length + n * 2 = cap * 2) :
  layL (layL (L ++ rest) (i * 2) (L.drop ((i + 1) * 2))) ((n - 1) * 2) [.string ⟨#[]⟩, .slice none 0 0] = (L.take (i * 2) ++ L.drop ((i + 1) * 2)) ++ (.string ⟨#[]⟩ :: .slice none 0 0 :: rest) := by
 have hd : (L.drop ((i + 1) * 2)).length = (n - 1 - i) * 2 := by rw [List.length_drop, hL]; omega
 apply List.ext_getElem?
 intro k
 rw [layL_get (by rw [layL_len (by rw [List.length_append, hd]; omega)]; simp; omega), layL_get (by rw [List.length_append, hd]; omega), hd]
 have ht : (L.take (i * 2)).length = i * 2 := by rw [List.length_take]; omega
 by_cases h1 : k < i * 2
 ·rw [if_pos (by omega), if_pos h1, List.append_assoc, List.getElem?_append_left (by omega), List.getElem?_append_left (by omega), List.getElem?_take, if_pos h1]
 ·by_cases h2 : k < (n - 1) * 2
  ·rw [if_pos h2, if_neg h1, if_pos (by omega), List.append_assoc, List.getElem?_append_right (by omega), List.getElem?_append_left (by rw [hd]; omega), ht]
  ·rw [if_neg h2, List.getElem?_append_right (show (L.take (i * 2) ++ L.drop ((i + 1) * 2)).length ≤ k by rw [List.length_append, ht, hd]; omega), List.length_append, ht, hd]
   by_cases h3 : k < (n - 1) * 2 + 2
   ·rw [if_pos (by simpa using h3)]
    rcases (show k = (n - 1) * 2 ∨ k = (n - 1) * 2 + 1 by omega) with rfl | rfl
    ·rw [show (n - 1) * 2 - (n - 1) * 2 = 0 by omega, show (n - 1) * 2 - (i * 2 + (n - 1 - i) * 2) = 0 by omega]; rfl
    ·rw [show (n - 1) * 2 + 1 - (n - 1) * 2 = 1 by omega, show (n - 1) * 2 + 1 - (i * 2 + (n - 1 - i) * 2) = 1 by omega]; rfl
   ·rw [if_neg (by simpa using h3), if_neg h1, if_neg (by omega), List.getElem?_append_right (by omega), show k - (i * 2 + (n - 1 - i) * 2) = (k - n * 2) + 2 by omega, hL]
    rfl
set_option maxRecDepth 100000 in
theorem delete_c {w : World} {base g cap : Nat} {vs : List Vol} {bvs : List Value} {i : Nat} (h : VRow w base (.slice (some ⟨g, 0, none⟩) vs.length cap) vs bvs) (h1 : ∀ b ∈ bvs, b.oneCell' = true) (hi : i < vs.length) :
  Calls Tryz.prog 151 #[.slice (some ⟨g, 0, none⟩) vs.length cap, .int .i64 i, .int .i64 ((i : Int) + 1)] w (Gone1 w base g cap vs bvs i) := by
 obtain ⟨hbg, hnc, hmax, hL, rest, hrl, hg⟩ := own_open h.row
 have hone : ∀ u ∈ (vs.zip bvs).flatMap encV, u.oneCell' = true := one_flatV fun z hz => h1 z.2 (List.of_mem_zip hz).2
 have hlen := h.len
 generalize hn : vs.length = n at *
 have HL : ((vs.zip bvs).flatMap encV).length = n * 2 := hL
 obtain ⟨L, hLe⟩ : ∃ L, L = (vs.zip bvs).flatMap encV := ⟨_, rfl⟩
 rw [← hLe] at hg hone HL
 have hcur : (L ++ rest).length = cap * 2 := by rw [List.length_append, HL]; omega
 obtain ⟨news, hnews⟩ : ∃ news, news = L.drop ((i + 1) * 2) := ⟨_, rfl⟩
 have hlenN : news.length = (n - (i + 1)) * 2 := by rw [hnews, List.length_drop, HL]; omega
 have hgd : w.drew.heap[g]? = some (.cells (L ++ rest).toArray 84 (0, 0)) := hg
 obtain ⟨A, hA, hsrc⟩ : ∃ A : Addr, (if cap = i + 1 then some (⟨g, 0, none⟩ : Addr) else some ⟨g, (i + 1) * 2, none⟩) = some A ∧ (∀ t u, news[t]? = some u → w.drew.cell? (A.add t) = some u) := by
  by_cases hc : cap = i + 1
  ·refine ⟨⟨g, 0, none⟩, by simp [hc], fun t u hu => ?_⟩
   have h0 : news.length = 0 := by rw [hlenN]; omega
   rw [List.length_eq_zero_iff.1 h0] at hu
   simp at hu
  ·refine ⟨⟨g, (i + 1) * 2, none⟩, by simp [hc], fun t u hu => ?_⟩
   rw [Addr.add_lit, cell_of_row hgd, List.getElem?_append_left (by have := ltQ hu; omega)]
   rwa [hnews, List.getElem?_drop] at hu
 have s2 : ∀ u ∈ news, u.oneCell' = true := fun u hu => hone u (List.mem_of_mem_drop (hnews ▸ hu))
 have s3 : ∀ t, t < news.length → (w.drew.cell? ⟨g, 0 + i * 2 + t, none⟩).isSome = true ∧ w.drew.frozen? ⟨g, 0 + i * 2 + t, none⟩ = false := fun t ht => by
  refine ⟨?_, free_of_row hgd _⟩
  rw [cell_of_row hgd]
  rw [List.getElem?_eq_getElem (by rw [hcur]; omega)]; rfl
 obtain ⟨W1, hW1⟩ : ∃ W1, W1 = w.drew.setCells g (0 + i * 2) news := ⟨_, rfl⟩
 have hh1 : W1.heap[g]? = some (.cells (layL (L ++ rest) (i * 2) news).toArray 84 (0, 0)) := by
  rw [hW1, Nat.zero_add]; exact setCells_heap news (i * 2) (L ++ rest) w.drew hgd (by rw [hcur, hlenN]; omega)
 have hl1 : (layL (L ++ rest) (i * 2) news).length = cap * 2 := by rw [layL_len (by rw [hcur, hlenN]; omega), hcur]
 have hcl : ∀ ty c, (Builtin.clear_ #[42] ty #[.slice (some ⟨g, (n - 1) * 2, none⟩) 1 c]).run Tryz.prog W1 = .ok (.tuple #[]) (W1.setCells g ((n - 1) * 2) [.string ⟨#[]⟩, .slice none 0 0]) := fun ty c =>
  run_clear_rows W1 _ 84 ty _ Tryz.underlying42 vol_zero g ((n - 1) * 2) 1 c [.string ⟨#[]⟩, .slice none 0 0] (by kernel_rfl) (by intro v hv; simp at hv; rcases hv with rfl | rfl <;> rfl) (by omega)
   (fun j hj => by rw [cell_of_row hh1, List.getElem?_eq_getElem (by rw [hl1]; simp at hj; omega)]; rfl) (fun j hj => free_of_row hh1 _)
 have hfin : (W1.setCells g ((n - 1) * 2) [.string ⟨#[]⟩, .slice none 0 0]).heap[g]? = some (.cells ((L.take (i * 2) ++ L.drop ((i + 1) * 2)) ++ (.string ⟨#[]⟩ :: .slice none 0 0 :: rest)).toArray 84 (0, 0)) := by
  rw [← gone_cells HL hi hrl, ← hnews]
  exact setCells_heap _ _ _ _ hh1 (by rw [hl1]; simp; omega)
 have hgr : w.grownBy (W1.setCells g ((n - 1) * 2) [.string ⟨#[]⟩, .slice none 0 0]) (some g) := grown_tr (by rw [hW1]; exact grown_tr (grown_drew w _) (grown_setCells g _ _ _)) (grown_setCells g _ _ _)
 have hgone : VRow (W1.setCells g ((n - 1) * 2) [.string ⟨#[]⟩, .slice none 0 0]) base (.slice (some ⟨g, 0, none⟩) (n - 1) cap) (vs.eraseIdx i) (bvs.eraseIdx i) := by
  have e1 : (vs.eraseIdx i).length = n - 1 := by rw [List.length_eraseIdx_of_lt (by omega), hn]
  refine ⟨by rw [e1, List.length_eraseIdx_of_lt (by omega), hlen], ?_⟩
  rw [e1, zip_eraseIdx _ _ _ (by rw [hlen, hn]), flat_erase encV_len, ← hLe]
  exact own_close hbg (by omega) hmax (by rw [List.length_append, List.length_take, List.length_drop, HL]; omega) (by simp; omega) hfin
 obtain ⟨i0, hi0, hz⟩ := Option.map_eq_some_iff.1 info_vol
 simp only [Prod.mk.injEq] at hz
 have G1 := Lib.hid (And.intro hgone hgr)
 have I0 := Lib.hid hi0
 have I1 := Lib.hid hz.2.1
 have HS := Lib.hid hsrc
 have S1 := Lib.hid hlenN
 have S2 := Lib.hid s2
 have S3 := Lib.hid s3
 have HW := Lib.hid hW1
 have HC := Lib.hid hcl
 clear hcl hW1 s2 s3 hlenN hsrc hi0 hz hgone hgr hfin hl1 hh1 hgd hnews hcur HL hg hone hLe hrl hL h1 h hlen
 go_enter Tryz.func151, Tryz.ntmps151
 go_wp2_with fail
 have hic : i ≤ cap := by omega
 have hjc : i + 1 ≤ cap := by omega
 have mixed : Tryz.prog.follows .mixedOrders = true := by kernel_rfl
 have hi1 : (0 : Int) ≤ (i : Int) + 1 := by omega
 have hi2 : (i : Int) + 1 ≤ (n : Int) := by omega
 have hi3 : ((i : Int) + 1).toNat = i + 1 := by omega
 go_region_law_o (refine step_append_room rfl (.tmp 22) (.tmp 25) 42 rfl 84 i0 2 Tryz.underlying42 I0.out I1.out g 0 i cap (by simp [Act.eval, Act.put]) A (n - (i + 1)) (cap - (i + 1)) news (by simp [Act.eval, Act.put]) S1.out HS.out S2.out (by omega) S3.out ?_; rw [← HW.out])
 have hq1 : i + (n - (i + 1)) = n - 1 := by omega
 have hq2 : n - (n - 1) = 1 := by omega
 have hq3 : ¬ cap = n - 1 := by omega
 have hq4 : n - 1 ≤ n := by omega
 rw [hq1]
 have hcl := HC.out
 go_wp2
 go_ret
 subst hn
 exact ⟨rfl, G1.out.1, G1.out.2⟩
def insAt {α} (i : Nat) (x : α) (xs : List α) : List α := xs.take i ++ x :: xs.drop i
theorem insAt_len {α} {i : Nat} {x : α} {xs : List α} (h : i ≤ xs.length) : (insAt i x xs).length = xs.length + 1 := by simp [insAt]; omega
theorem insAt_end {α} (x : α) (xs : List α) : insAt xs.length x xs = xs ++ [x] := by simp [insAt]
theorem zip_insAt {α β} (xs : List α) (ys : List β) (i : Nat) (x : α) (y : β) (h : ys.length = xs.length) (hi : i ≤ xs.length) : (insAt i x xs).zip (insAt i y ys) = insAt i (x, y) (xs.zip ys) := by
 unfold insAt
 rw [List.zip_append (by simp; omega), List.zip_cons_cons, List.zip_eq_zipWith, List.zip_eq_zipWith, List.zip_eq_zipWith, List.take_zipWith, List.drop_zipWith]
theorem flat_insAt {α β} {enc : α → List β} {sz : Nat} (hl : ∀ x, (enc x).length = sz) (xs : List α) (x : α) (i : Nat) : (insAt i x xs).flatMap enc = (xs.flatMap enc).take (i * sz) ++ (enc x ++ (xs.flatMap enc).drop (i * sz)) := by
 unfold insAt
 rw [List.flatMap_append, List.flatMap_cons, flat_take hl, flat_drop hl]
def Ins1 (w : World) (base : Nat) (v : Value) (vs : List Vol) (bvs : List Value) (i : Nat) (x : Vol) (b : Value) (e : Ending) (w' : World) : Prop :=
 ∃ v', e = .returned v' ∧ VRow w' base v' (insAt i x vs) (insAt i b bvs) ∧ w.grownBy w' v.ownBlock
theorem row_end {w : World} {base : Nat} {v' : Value} {vs : List Vol} {bvs : List Value} {x : Vol} {b : Value} (hlen : bvs.length = vs.length) (h : w.ownsRow base 84 2 v' (vs.length + 1) ((vs.zip bvs).flatMap encV ++ encV (x, b))) : VRow w base v' (insAt vs.length x vs) (insAt vs.length b bvs) := by
 rw [insAt_end, show vs.length = bvs.length from hlen.symm, insAt_end]
 refine ⟨by simp [hlen], ?_⟩
 rw [List.zip_append hlen.symm, List.flatMap_append, List.length_append]
 simpa using h
set_option maxRecDepth 100000 in
theorem insert_end_c {W : World} {base : Nat} {v : Value} {vs : List Vol} {bvs : List Value} {x : Vol} {b : Value} (h : VRow W base v vs bvs) (hbase : base ≤ W.heap.size) (hb : b.oneCell' = true) (hl : vs.length ≤ 1048576) :
  Calls Tryz.prog 160 #[v, .int .i64 vs.length, .slice (some ⟨W.heap.size, 0, none⟩) 1 1] (W.alloc (.cells #[.string x.name, b] 84)) (Ins1 W base v vs bvs vs.length x b) := by
 obtain ⟨A, c, rfl, hc⟩ := own_cap h.row
 have H := Lib.hid h
 clear h
 have h1 : ∀ u ∈ encV (x, b), u.oneCell' = true := by intro u hu; simp [encV] at hu; rcases hu with rfl | rfl; rfl; exact hb
 have H1 := Lib.hid h1
 clear h1
 generalize hn : vs.length = n at hc hl ⊢
 have HN := Lib.hid hn
 clear hn
 have hres : ∃ A2 n2 c2, (if c = n then A else A.map (·.add (n * 2))) = A2 := ⟨_, 0, 0, rfl⟩
 cases A with
 | none =>
  have hn0 : n = 0 := by
   rcases H.out.row.2 with ⟨_, h0⟩ | ⟨g, cap, cur, e, _⟩
   ·rw [← HN.out]; exact h0
   ·cases e
  subst hn0
  obtain rfl : c = 0 := by
   rcases H.out.row.2 with ⟨e, h0⟩ | ⟨g, cap, cur, e, _⟩
   ·injection e
   ·cases e
  go_enter Tryz.func160, Tryz.ntmps160
  go_wp2_with (at_builtin; refine print_append_cells (w0 := W) base rfl (.tmp 23) (.tmp 24) 42 84 (.agg #[.string ⟨#[]⟩, .slice none 0 0]) 2 40 rfl Tryz.underlying42 info_vol rfl (by decide) (by decide) _ 0 ((vs.zip bvs).flatMap encV) (encV (x, b)) rfl rfl rfl H1.out (HN.out ▸ H.out.row) ((Below.refl _ W).mono hbase) hbase (by omega) ?_; intro v2 w2 hr2 hb2 hg2 hat2; clear hat2)
  go_ret
  refine ⟨_, rfl, ?_, hg2⟩
  have := row_end (x := x) (b := b) (v' := v2) H.out.len (by rw [HN.out]; exact hr2)
  rwa [HN.out] at this
 | some ad =>
  go_enter Tryz.func160, Tryz.ntmps160
  go_wp2_with (at_builtin; refine print_append_cells (w0 := W) base rfl (.tmp 23) (.tmp 24) 42 84 (.agg #[.string ⟨#[]⟩, .slice none 0 0]) 2 40 rfl Tryz.underlying42 info_vol rfl (by decide) (by decide) _ n ((vs.zip bvs).flatMap encV) (encV (x, b)) rfl rfl rfl H1.out (HN.out ▸ H.out.row) ((Below.refl _ W).mono hbase) hbase (by omega) ?_; intro v2 w2 hr2 hb2 hg2 hat2; clear hat2)
  all_goals
   go_ret
   refine ⟨_, rfl, ?_, hg2⟩
   have := row_end (x := x) (b := b) (v' := v2) H.out.len (by rw [HN.out]; exact hr2)
   rwa [HN.out] at this
theorem room_cells {L rest E : List Value} {n i cap : Nat} (hL : L.length = n * 2) (hE : E.length = 2) (hi : i ≤ n) (hc : n + 1 ≤ cap) (hr : rest.length + n * 2 = cap * 2) :
  layL (layL (L ++ rest) ((i + 1) * 2) (L.drop (i * 2))) (i * 2) E = (L.take (i * 2) ++ (E ++ L.drop (i * 2))) ++ rest.drop 2 := by
 have hd : (L.drop (i * 2)).length = (n - i) * 2 := by rw [List.length_drop, hL]; omega
 have ht : (L.take (i * 2)).length = i * 2 := by rw [List.length_take]; omega
 apply List.ext_getElem?
 intro k
 rw [layL_get (by rw [layL_len (by rw [List.length_append, hd]; omega)]; simp; omega), layL_get (by rw [List.length_append, hd]; omega), hd, hE, List.append_assoc, List.append_assoc]
 by_cases h1 : k < i * 2
 ·rw [if_pos h1, if_pos (by omega), List.getElem?_append_left (by omega), List.getElem?_append_left (by omega), List.getElem?_take, if_pos h1]
 ·rw [if_neg h1]
  by_cases h2 : k < i * 2 + 2
  ·rw [if_pos h2, List.getElem?_append_right (by omega), List.getElem?_append_left (by omega), ht]
  ·rw [if_neg h2, if_neg (by omega), List.getElem?_append_right (show (L.take (i * 2)).length ≤ k by omega), List.getElem?_append_right (show E.length ≤ k - (L.take (i * 2)).length by omega), ht, hE]
   by_cases h3 : k < (i + 1) * 2 + (n - i) * 2
   ·rw [if_pos h3, List.getElem?_append_left (by rw [hd]; omega)]
    congr 1
    omega
   ·rw [if_neg h3, List.getElem?_append_right (by omega), List.getElem?_append_right (by rw [hd]; omega), List.getElem?_drop, hd, hL]
    congr 1
    omega
theorem size_vol : (Tryz.prog.info? 84).map (·.size) = some 2 := by kernel_rfl
set_option maxRecDepth 100000 in
theorem insert_room_c {W : World} {base g cap : Nat} {vs : List Vol} {bvs : List Value} {x : Vol} {b : Value} {i : Nat} (h : VRow W base (.slice (some ⟨g, 0, none⟩) vs.length cap) vs bvs) (hbase : base ≤ W.heap.size) (h1 : ∀ b ∈ bvs, b.oneCell' = true) (hb : b.oneCell' = true) (hi : i < vs.length) (hroom : vs.length + 1 ≤ cap) :
  Calls Tryz.prog 160 #[.slice (some ⟨g, 0, none⟩) vs.length cap, .int .i64 i, .slice (some ⟨W.heap.size, 0, none⟩) 1 1] (W.alloc (.cells #[.string x.name, b] 84)) (Ins1 W base (.slice (some ⟨g, 0, none⟩) vs.length cap) vs bvs i x b) := by
 obtain ⟨hbg, hnc, hmax, hL, rest, hrl, hg⟩ := own_open h.row
 have hone : ∀ u ∈ (vs.zip bvs).flatMap encV, u.oneCell' = true := one_flatV fun z hz => h1 z.2 (List.of_mem_zip hz).2
 have hlen := h.len
 have hgW : g < W.heap.size := (Array.getElem?_eq_some_iff.1 hg).1
 obtain ⟨w, hw⟩ : ∃ w, w = W.alloc (.cells #[.string x.name, b] 84) := ⟨_, rfl⟩
 have hgw : w.heap[g]? = some (.cells (((vs.zip bvs).flatMap encV) ++ rest).toArray 84 (0, 0)) := by rw [hw]; exact Blk.alloc (show Blk W g _ _ from hg) _
 have hvw : w.heap[W.heap.size]? = some (.cells [.string x.name, b].toArray 84 (0, 0)) := by rw [hw]; exact Blk.new W _ _
 have hgrw : W.grownBy w (some g) := by rw [hw]; exact World.grownBy_alloc W _ _
 obtain ⟨vb, hvb⟩ : ∃ vb, vb = W.heap.size := ⟨_, rfl⟩
 rw [← hw, ← hvb]
 rw [← hvb] at hvw
 have hne : vb ≠ g := by omega
 generalize hn : vs.length = n at *
 have HL : ((vs.zip bvs).flatMap encV).length = n * 2 := hL
 obtain ⟨L, hLe⟩ : ∃ L, L = (vs.zip bvs).flatMap encV := ⟨_, rfl⟩
 rw [← hLe] at hgw hone HL
 have hcur : (L ++ rest).length = cap * 2 := by rw [List.length_append, HL]; omega
 have hdl : (L.drop (i * 2)).length = (n - i) * 2 := by rw [List.length_drop, HL]; omega
 have hgd : w.drew.heap[g]? = some (.cells (L ++ rest).toArray 84 (0, 0)) := hgw
 have hov : ∀ lb cb, (callFunc 167 #[.slice (some ⟨vb, 0, none⟩) 1 1, .slice (some ⟨g, (i + 1) * 2, none⟩) lb cb]).run Tryz.prog w = .ok (.value (.bool false)) w := fun lb cb => by
  rw [run_callFunc_extern Tryz.func167 (by kernel_rfl) (by kernel_rfl) (by kernel_rfl) (e := Extern.SlicesOverlaps.overlaps #[42, 42] #[4]) (by kernel_rfl),
   Lib.run_overlaps_apart w 42 4 84 Tryz.underlying42 2 (fun w => by
    obtain ⟨i0, hi0, hz⟩ := Option.map_eq_some_iff.1 info_vol
    simp only [Prod.mk.injEq] at hz
    simp [sizeOf, typeInfo, hi0, hz.2.1]) ⟨vb, 0, none⟩ ⟨g, (i + 1) * 2, none⟩ 1 1 lb cb hne 84 84 2 (cap * 2) (by simp [World.shape?, hvw]) (by simp [World.shape?, hgw, ← hcur]) (by omega) (free_of_row hvw 0) (free_of_row hvw 2)]
  rfl
 have hcp1 : ∀ ty dc sc, (Builtin.copy_ #[42, 42] ty #[.slice (some ⟨g, (i + 1) * 2, none⟩) (n - i) dc, .slice (some ⟨g, i * 2, none⟩) (n + 1 - i) sc]).run Tryz.prog w.drew = .ok (goInt (Nat.min (n + 1 - i) (n - i))) (w.drew.setCells g ((i + 1) * 2) (L.drop (i * 2))) := fun ty dc sc =>
  run_copy_rows w.drew _ _ ty 84 2 g ((i + 1) * 2) _ dc ⟨g, i * 2, none⟩ _ sc (L.drop (i * 2)) Tryz.underlying42 size_vol (by rw [hdl]; simp only [Nat.min_def]; split <;> omega)
   (fun j v hj => by
    rw [Addr.add_lit, cell_of_row hgd, List.getElem?_append_left (by have := ltQ hj; omega)]
    rwa [List.getElem?_drop] at hj)
   (fun j hj => by rw [cell_of_row hgd, List.getElem?_eq_getElem (by rw [hcur]; omega)]; rfl) (fun j hj => free_of_row hgd _) (fun v hv => hone v (List.mem_of_mem_drop hv))
 obtain ⟨W1, hW1⟩ : ∃ W1, W1 = w.drew.setCells g ((i + 1) * 2) (L.drop (i * 2)) := ⟨_, rfl⟩
 rw [← hW1] at hcp1
 have hh1 : W1.heap[g]? = some (.cells (layL (L ++ rest) ((i + 1) * 2) (L.drop (i * 2))).toArray 84 (0, 0)) := by
  rw [hW1]; exact setCells_heap _ _ (L ++ rest) w.drew hgd (by rw [hcur, hdl]; omega)
 have hl1 : (layL (L ++ rest) ((i + 1) * 2) (L.drop (i * 2))).length = cap * 2 := by rw [layL_len (by rw [hcur, hdl]; omega), hcur]
 have hv1 : W1.heap[vb]? = some (.cells [.string x.name, b].toArray 84 (0, 0)) := by
  rw [hW1]; exact ((grown_setCells g (L.drop (i * 2)) ((i + 1) * 2) w.drew).block vb (Array.getElem?_eq_some_iff.1 hvw).1 (by simpa using hne)).trans hvw
 have hcp2 : ∀ ty dc, (Builtin.copy_ #[42, 42] ty #[.slice (some ⟨g, i * 2, none⟩) (n + 1 - i) dc, .slice (some ⟨vb, 0, none⟩) 1 1]).run Tryz.prog W1 = .ok (goInt 1) (W1.setCells g (i * 2) [.string x.name, b]) := fun ty dc => by
  have := run_copy_rows (P := Tryz.prog) W1 42 42 ty 84 2 g (i * 2) (n + 1 - i) dc ⟨vb, 0, none⟩ 1 1 [.string x.name, b] Tryz.underlying42 size_vol (by simp only [Nat.min_def]; split <;> simp <;> omega)
   (fun j v hj => by rw [Addr.add_lit, Nat.zero_add, cell_of_row hv1]; exact hj)
   (fun j hj => by rw [cell_of_row hh1, List.getElem?_eq_getElem (by rw [hl1]; simp at hj; omega)]; rfl) (fun j hj => free_of_row hh1 _) (by intro v hv; simp at hv; rcases hv with rfl | rfl; rfl; exact hb)
  rwa [show Nat.min 1 (n + 1 - i) = 1 by simp only [Nat.min_def]; split <;> omega] at this
 have hfin : (W1.setCells g (i * 2) [.string x.name, b]).heap[g]? = some (.cells ((L.take (i * 2) ++ ([.string x.name, b] ++ L.drop (i * 2))) ++ rest.drop 2).toArray 84 (0, 0)) := by
  rw [← room_cells HL rfl (Nat.le_of_lt hi) hroom hrl]
  exact setCells_heap _ _ _ _ hh1 (by rw [hl1]; simp; omega)
 have hgr : W.grownBy (W1.setCells g (i * 2) [.string x.name, b]) (some g) := grown_tr hgrw (grown_tr (by rw [hW1]; exact grown_tr (grown_drew w _) (grown_setCells g _ _ _)) (grown_setCells g _ _ _))
 have hins : VRow (W1.setCells g (i * 2) [.string x.name, b]) base (.slice (some ⟨g, 0, none⟩) (n + 1) cap) (insAt i x vs) (insAt i b bvs) := by
  have e1 : (insAt i x vs).length = n + 1 := by rw [insAt_len (by omega), hn]
  refine ⟨by rw [e1, insAt_len (by omega), hlen], ?_⟩
  rw [e1, zip_insAt _ _ _ _ _ (by rw [hlen, hn]) (by omega), flat_insAt encV_len, ← hLe]
  exact own_close hbg (by omega) hmax (by simp [encV, HL]; omega) (by simp; omega) hfin
 have G1 := Lib.hid (And.intro hins hgr)
 have HN := Lib.hid hn
 have w1 : IntKind.i64.wrap ((i : Int) + 1) = (i : Int) + 1 := by rw [IntKind.wrap_i64]; omega
 clear hins hgr hfin hv1 hl1 hh1 hW1 hgd hdl hcur HL hone hgrw hvw hgw hg hw hvb hL hlen hLe hrl h1 h hgW
 have hin : i ≤ n := by omega
 have hz2 : ¬ ((i : Int) = (n : Int)) := by omega
 have hb1 : (0 : Int) ≤ (i : Int) + 1 := by omega
 have htn : ((i : Int) + 1).toNat = i + 1 := by omega
 have htn2 : ((n : Int) + 1).toNat = n + 1 := by omega
 have hb2 : ¬ (cap = i + 1) := by omega
 have hb3 : (i : Int) ≤ (n : Int) + 1 := by omega
 have hb4 : ¬ (cap = i) := by omega
 have hb5 : (n : Int) + 1 ≤ (cap : Int) := by omega
 have hb6 : ¬ ((cap : Int) < (n : Int) + 1) := by omega
 have hb7 : (0 : Int) ≤ (n : Int) + 1 := by omega
 have mixed : Tryz.prog.follows .mixedOrders = true := by kernel_rfl
 go_enter Tryz.func160, Tryz.ntmps160
 go_wp2_with (simp only [hov])
 go_region_law_o (refine step_copy_rows rfl _ _ 42 42 rfl _ _ (by simp [Act.eval, Act.put]) (by simp [Act.eval, Act.put]) (hcp1 _ _ _) ?_)
 go_wp2_with (at_builtin; refine wpList_copy_rows _ rfl _ _ 42 42 rfl _ _ rfl rfl (hcp2 _ _) ?_)
 go_ret
 exact ⟨_, rfl, G1.out.1, G1.out.2⟩
theorem grow_cells {L Z E : List Value} {n i cap : Nat} (hL : L.length = n * 2) (hE : E.length = 2) (hi : i ≤ n) (hc : n + 1 ≤ cap) (hr : Z.length + i * 2 = cap * 2) :
  layL (layL (L.take (i * 2) ++ Z) (i * 2) E) ((i + 1) * 2) (L.drop (i * 2)) = (L.take (i * 2) ++ (E ++ L.drop (i * 2))) ++ Z.drop ((n + 1 - i) * 2) := by
 have hd : (L.drop (i * 2)).length = (n - i) * 2 := by rw [List.length_drop, hL]; omega
 have ht : (L.take (i * 2)).length = i * 2 := by rw [List.length_take]; omega
 apply List.ext_getElem?
 intro k
 rw [layL_get (by rw [layL_len (by rw [List.length_append, ht, hE]; omega)]; simp; omega), layL_get (by rw [List.length_append, ht, hE]; omega), hd, hE, List.append_assoc, List.append_assoc]
 by_cases h1 : k < i * 2
 ·rw [if_pos h1, if_pos (by omega), List.getElem?_append_left (by omega), List.getElem?_append_left (by omega)]
 ·rw [if_neg h1]
  by_cases h2 : k < i * 2 + 2
  ·rw [if_pos h2, if_pos (by omega), List.getElem?_append_right (by omega), List.getElem?_append_left (by omega), ht]
  ·rw [if_neg h2, if_neg (by omega), List.getElem?_append_right (show (L.take (i * 2)).length ≤ k by omega), List.getElem?_append_right (show (L.take (i * 2)).length ≤ k by omega), List.getElem?_append_right (show E.length ≤ k - (L.take (i * 2)).length by omega), ht, hE]
   by_cases h3 : k < (i + 1) * 2 + (n - i) * 2
   ·rw [if_pos h3, List.getElem?_append_left (by rw [hd]; omega)]
    congr 1
    omega
   ·rw [if_neg h3, List.getElem?_append_right (by rw [hd]; omega), List.getElem?_drop, hd]
    congr 1
    omega
theorem wpList_append_run {P : Program} (w : World) {ops : Array Oper} {rest : List Oper} {o : Oper} {a : Act} {Q : Exit → Act → World → Prop} (hgd : o.guard = none) (d s : Operand) (t t' : TypeId)
  (ho : o.op = .call { callee := .builtin .append, args := #[d, s], argTypes := #[t, t'] }) (v u : Value) (hd : a.eval d = v) (hs : a.eval s = u) {v' : Value} {w' : World}
  (hr : (Builtin.append_ #[t, t'] o.type #[v, u]).run P w = .ok v' w') (h : wpList P ops Q rest (a.put o.dst v') w') : wpList P ops Q (o :: rest) a w := by
 refine wpList_plain hgd fun K hK => ?_
 unfold Oper.wp execOp
 simp only [ho, resolve, invoke, builtin, Sem.run_bind, Sem.run_pure, Result.andThen_ok, List.map_toArray, List.map_cons, List.map_nil, hd, hs, hr]
 exact hK _ _ h
set_option maxRecDepth 100000 in
theorem insert_grow_c {W : World} {base g cap : Nat} {vs : List Vol} {bvs : List Value} {x : Vol} {b : Value} {i : Nat} (h : VRow W base (.slice (some ⟨g, 0, none⟩) vs.length cap) vs bvs) (hbase : base ≤ W.heap.size) (h1 : ∀ b ∈ bvs, b.oneCell' = true) (hb : b.oneCell' = true) (hi : i < vs.length) (hroom : cap < vs.length + 1) (hl : vs.length ≤ 1048576) :
  Calls Tryz.prog 160 #[.slice (some ⟨g, 0, none⟩) vs.length cap, .int .i64 i, .slice (some ⟨W.heap.size, 0, none⟩) 1 1] (W.alloc (.cells #[.string x.name, b] 84)) (Ins1 W base (.slice (some ⟨g, 0, none⟩) vs.length cap) vs bvs i x b) := by
 obtain ⟨hbg, hnc, hmax, hL, rest, hrl, hg⟩ := own_open h.row
 have hone : ∀ u ∈ (vs.zip bvs).flatMap encV, u.oneCell' = true := one_flatV fun z hz => h1 z.2 (List.of_mem_zip hz).2
 have hlen := h.len
 have hgW : g < W.heap.size := (Array.getElem?_eq_some_iff.1 hg).1
 obtain ⟨w, hw⟩ : ∃ w, w = W.alloc (.cells #[.string x.name, b] 84) := ⟨_, rfl⟩
 have hgw : w.heap[g]? = some (.cells (((vs.zip bvs).flatMap encV) ++ rest).toArray 84 (0, 0)) := by rw [hw]; exact Blk.alloc (show Blk W g _ _ from hg) _
 have hvw : w.heap[W.heap.size]? = some (.cells [.string x.name, b].toArray 84 (0, 0)) := by rw [hw]; exact Blk.new W _ _
 have hgrw : W.grownBy w (some g) := by rw [hw]; exact World.grownBy_alloc W _ _
 have hWw : W.heap.size < w.heap.size := by rw [hw]; simp
 obtain ⟨vb, hvb⟩ : ∃ vb, vb = W.heap.size := ⟨_, rfl⟩
 rw [← hw, ← hvb]
 rw [← hvb] at hvw hWw
 generalize hn : vs.length = n at *
 have HL : ((vs.zip bvs).flatMap encV).length = n * 2 := hL
 obtain ⟨L, hLe⟩ : ∃ L, L = (vs.zip bvs).flatMap encV := ⟨_, rfl⟩
 rw [← hLe] at hgw hone HL
 have hdl : (L.drop (i * 2)).length = (n - i) * 2 := by rw [List.length_drop, HL]; omega
 have htl : (L.take (i * 2)).length = i * 2 := by rw [List.length_take, HL]; omega
 have hgd : w.drew.heap[g]? = some (.cells (L ++ rest).toArray 84 (0, 0)) := hgw
 obtain ⟨i0, hi0, hz⟩ := Option.map_eq_some_iff.1 info_vol
 simp only [Prod.mk.injEq] at hz
 obtain ⟨hz0, hzs, hzb⟩ := hz
 have hkk : (n : Int) + 1 - (i : Int) = ((n + 1 - i : Nat) : Int) := by omega
 have hik : i + (n + 1 - i) = n + 1 := by omega
 have hold : (Builtin.firstCells i0.size i (.slice (some ⟨g, 0, none⟩) i cap)).run Tryz.prog w.drew = .ok (L.take (i * 2)).toArray w.drew := by
  rw [hzs]
  exact run_firstCells_some w.drew 2 i ⟨g, 0, none⟩ i cap (L.take (i * 2)) htl (fun j v hj => by
   rw [Addr.add_lit, Nat.zero_add, cell_of_row hgd]
   have hjl := ltQ hj
   rw [List.getElem?_append_left (by omega)]
   rwa [List.getElem?_take, if_pos (by omega)] at hj)
 have hrz : ∀ ty, (Builtin.append_ #[42, 3] ty #[.slice (some ⟨g, 0, none⟩) i cap, .int .i64 ((n : Int) + 1 - (i : Int))]).run Tryz.prog w =
   .ok (.slice (some ⟨w.heap.size, 0, none⟩) (n + 1) (grownCap w (n + 1) cap 84)) (w.drew.alloc (.cells ((L.take (i * 2)).toArray ++ Builtin.zeroCells (Value.agg #[.string ⟨#[]⟩, .slice none 0 0]).cells (n + 1 - i) ++ Builtin.zeroCells (Value.agg #[.string ⟨#[]⟩, .slice none 0 0]).cells (grownCap w (n + 1) cap 84 - (n + 1))) 84)) := fun ty => by
  have h := Lib.run_append_grow_zeros w 42 3 ty 84 i0 _ .i64 .i64 Tryz.underlying42 Tryz.underlying3 hi0 hz0 (some ⟨g, 0, none⟩) i cap (L.take (i * 2)) hold (n + 1 - i) (by omega) (by omega) (by omega) (by omega) (by rw [hzb]; omega) (by rw [hzb, hik]; exact growslice_fits hroom (by omega))
  rw [hik] at h
  rw [hkk]
  exact h
 have hGn : n + 1 ≤ grownCap w (n + 1) cap 84 := grownCap_ge w _ _ _
 have hG63 : grownCap w (n + 1) cap 84 ≤ 9223372036854775807 := by
  have := grownCap_le_maxLen w (n + 1) cap 84 (by unfold maxLen; omega)
  unfold maxLen at this
  omega
 generalize grownCap w (n + 1) cap 84 = G at hrz hGn hG63
 obtain ⟨Z, hZ⟩ : ∃ Z, Z = (Builtin.zeroCells (Value.agg #[.string ⟨#[]⟩, .slice none 0 0]).cells (n + 1 - i)).toList ++ (Builtin.zeroCells (Value.agg #[.string ⟨#[]⟩, .slice none 0 0]).cells (G - (n + 1))).toList := ⟨_, rfl⟩
 have hZl : Z.length + i * 2 = G * 2 := by rw [hZ]; simp [Builtin.zeroCells, Value.cells]; omega
 have hROW : ((L.take (i * 2)).toArray ++ Builtin.zeroCells (Value.agg #[.string ⟨#[]⟩, .slice none 0 0]).cells (n + 1 - i) ++ Builtin.zeroCells (Value.agg #[.string ⟨#[]⟩, .slice none 0 0]).cells (G - (n + 1))) = (L.take (i * 2) ++ Z).toArray := by
  rw [hZ]; apply Array.ext'; simp
 rw [hROW] at hrz
 have hrowl : (L.take (i * 2) ++ Z).length = G * 2 := by rw [List.length_append, htl]; omega
 obtain ⟨N, hN⟩ : ∃ N, N = w.heap.size := ⟨_, rfl⟩
 rw [← hN] at hrz hWw
 have hgN : g ≠ N := by have := (Array.getElem?_eq_some_iff.1 hgw).1; omega
 have hvN : vb ≠ N := by omega
 have hcpA : ∀ (W0 : World), W0.heap = (w.alloc (.cells (L.take (i * 2) ++ Z).toArray 84)).heap → ∀ ty dc, (Builtin.copy_ #[42, 42] ty #[.slice (some ⟨N, i * 2, none⟩) (n + 1 - i) dc, .slice (some ⟨vb, 0, none⟩) 1 1]).run Tryz.prog W0 = .ok (goInt 1) (W0.setCells N (i * 2) [.string x.name, b]) := fun W0 hW0 ty dc => by
  have e1 : W0.heap[N]? = some (.cells (L.take (i * 2) ++ Z).toArray 84 (0, 0)) := by rw [hW0, hN]; exact Blk.new w _ _
  have e2 : W0.heap[vb]? = some (.cells [.string x.name, b].toArray 84 (0, 0)) := by rw [hW0]; exact Blk.alloc (show Blk w vb _ _ from hvw) _
  have := run_copy_rows (P := Tryz.prog) W0 42 42 ty 84 2 N (i * 2) (n + 1 - i) dc ⟨vb, 0, none⟩ 1 1 [.string x.name, b] Tryz.underlying42 size_vol (by simp only [Nat.min_def]; split <;> simp <;> omega)
   (fun j v hj => by rw [Addr.add_lit, Nat.zero_add, cell_of_row e2]; exact hj)
   (fun j hj => by rw [cell_of_row e1, List.getElem?_eq_getElem (by rw [hrowl]; simp at hj; omega)]; rfl) (fun j hj => free_of_row e1 _) (by intro v hv; simp at hv; rcases hv with rfl | rfl; rfl; exact hb)
  rwa [show Nat.min 1 (n + 1 - i) = 1 by simp only [Nat.min_def]; split <;> omega] at this
 have hcpB : ∀ (W0 : World), W0.heap = ((w.alloc (.cells (L.take (i * 2) ++ Z).toArray 84)).setCells N (i * 2) [.string x.name, b]).heap → ∀ ty dc sc, (Builtin.copy_ #[42, 42] ty #[.slice (some ⟨N, (i + 1) * 2, none⟩) (n - i) dc, .slice (some ⟨g, i * 2, none⟩) (n - i) sc]).run Tryz.prog W0 = .ok (goInt (Nat.min (n - i) (n - i))) (W0.setCells N ((i + 1) * 2) (L.drop (i * 2))) := fun W0 hW0 ty dc sc => by
  have e1 : W0.heap[N]? = some (.cells (layL (L.take (i * 2) ++ Z) (i * 2) [.string x.name, b]).toArray 84 (0, 0)) := by
   rw [hW0]; exact setCells_heap _ _ _ _ (by rw [hN]; exact Blk.new w _ _) (by rw [hrowl]; simp; omega)
  have e2 : W0.heap[g]? = some (.cells (L ++ rest).toArray 84 (0, 0)) := by
   rw [hW0, (grown_setCells N [.string x.name, b] (i * 2) (w.alloc (.cells (L.take (i * 2) ++ Z).toArray 84))).block g (by have := (Array.getElem?_eq_some_iff.1 hgw).1; simp; omega) (by simpa using hgN)]
   exact Blk.alloc (show Blk w g _ _ from hgw) _
  have el : (layL (L.take (i * 2) ++ Z) (i * 2) [.string x.name, b]).length = G * 2 := by rw [layL_len (by rw [hrowl]; simp; omega), hrowl]
  exact run_copy_rows (P := Tryz.prog) W0 42 42 ty 84 2 N ((i + 1) * 2) _ dc ⟨g, i * 2, none⟩ _ sc (L.drop (i * 2)) Tryz.underlying42 size_vol (by rw [hdl]; simp only [Nat.min_def]; split <;> omega)
   (fun j v hj => by
    rw [Addr.add_lit, cell_of_row e2, List.getElem?_append_left (by have := ltQ hj; omega)]
    rwa [List.getElem?_drop] at hj)
   (fun j hj => by rw [cell_of_row e1, List.getElem?_eq_getElem (by rw [el]; omega)]; rfl) (fun j hj => free_of_row e1 _) (fun v hv => hone v (List.mem_of_mem_drop hv))
 have hins : ∀ W0 : World, W0.heap = ((w.alloc (.cells (L.take (i * 2) ++ Z).toArray 84)).setCells N (i * 2) [.string x.name, b]).heap → W0.os = w.os → W0.tape = w.tape → W0.output = w.output → VRow (W0.setCells N ((i + 1) * 2) (L.drop (i * 2))) base (.slice (some ⟨N, 0, none⟩) (n + 1) G) (insAt i x vs) (insAt i b bvs) ∧ W.grownBy (W0.setCells N ((i + 1) * 2) (L.drop (i * 2))) (some g) := fun W0 hW0 ho1 ho2 ho3 => by
  have e1 : W0.heap[N]? = some (.cells (layL (L.take (i * 2) ++ Z) (i * 2) [.string x.name, b]).toArray 84 (0, 0)) := by
   rw [hW0]; exact setCells_heap _ _ _ _ (by rw [hN]; exact Blk.new w _ _) (by rw [hrowl]; simp; omega)
  have el : (layL (L.take (i * 2) ++ Z) (i * 2) [.string x.name, b]).length = G * 2 := by rw [layL_len (by rw [hrowl]; simp; omega), hrowl]
  have hfin := setCells_heap (L.drop (i * 2)) ((i + 1) * 2) _ W0 e1 (by rw [el, hdl]; omega)
  rw [grow_cells HL rfl (Nat.le_of_lt hi) hGn hZl] at hfin
  have e0 : (insAt i x vs).length = n + 1 := by rw [insAt_len (by omega), hn]
  refine ⟨⟨by rw [e0, insAt_len (by omega), hlen], ?_⟩, ?_⟩
  ·rw [e0, zip_insAt _ _ _ _ _ (by rw [hlen, hn]) (by omega), flat_insAt encV_len, ← hLe]
   exact own_close (by omega) (by omega) hG63 (by simp [encV, HL]; omega) (by simp; omega) hfin
  ·have g0 : w.grownBy W0 none := by
    have g1 := grown_setCells N [.string x.name, b] (i * 2) (w.alloc (.cells (L.take (i * 2) ++ Z).toArray 84))
    refine ⟨ho1, ho2, ho3, ?_, fun k hk _ => ?_⟩
    ·rw [hW0]; have := g1.size; simp at this; omega
    ·rw [hW0, g1.block k (by simp; omega) (by simp; omega)]
     exact (bel_alloc (Below.refl _ _) _ : Bel w (w.alloc (.cells (L.take (i * 2) ++ Z).toArray 84))).block k hk
   have g2 := grown_setCells N (L.drop (i * 2)) ((i + 1) * 2) W0
   refine ⟨by rw [g2.os, g0.os, hgrw.os], by rw [g2.tape, g0.tape, hgrw.tape], by rw [g2.output, g0.output, hgrw.output], by have := g2.size; have := g0.size; have := hgrw.size; omega, fun k hk hne => ?_⟩
   have hkw : k < w.heap.size := Nat.lt_of_lt_of_le hk hgrw.size
   rw [g2.block k (Nat.lt_of_lt_of_le hkw g0.size) (by simp; omega), g0.block k hkw (by simp), hgrw.block k hk hne]
 have G1 := Lib.hid hins
 have HN := Lib.hid hn
 have HZ := Lib.hid hrz
 clear hrz
 have HA := Lib.hid hcpA
 have HB := Lib.hid hcpB
 have hSz := Lib.hid hN
 have w1 : IntKind.i64.wrap ((i : Int) + 1) = (i : Int) + 1 := by rw [IntKind.wrap_i64]; omega
 clear hins hcpA hcpB hrowl hROW hZl hZ hold hgd hdl htl HL hone hgrw hvw hgw hg hw hvb hL hlen hLe hrl h1 h hgW hi0 hz0 hzs hzb hkk hik hN
 have hin : i ≤ n := by omega
 have hz2 : ¬ ((i : Int) = (n : Int)) := by omega
 have hz3 : (cap : Int) < (n : Int) + 1 := by omega
 have hb1 : (0 : Int) ≤ (i : Int) + 1 := by omega
 have htn : ((i : Int) + 1).toNat = i + 1 := by omega
 have hb3 : (i : Int) ≤ (n : Int) + 1 := by omega
 have hb4 : ¬ (cap = i) := by omega
 have hGi : ¬ (G = i) := by omega
 have hGim : ¬ (G = i + 1) := by omega
 have hlast : n - i + (i + 1) = n + 1 := by omega
 have hic : i ≤ cap := by omega
 have mixed : Tryz.prog.follows .mixedOrders = true := by kernel_rfl
 go_enter Tryz.func160, Tryz.ntmps160
 have hA := HA.out (w.alloc (.cells (L.take (i * 2) ++ Z).toArray 84)).drew rfl
 go_wp2_with (at_builtin; refine wpList_append_run _ rfl _ _ 42 3 rfl _ _ rfl rfl (HZ.out _) ?_)
 have hB2 := HB.out ((w.alloc (.cells (L.take (i * 2) ++ Z).toArray 84)).drew.setCells N (i * 2) [.string x.name, b]).drew rfl
 go_region_law_o (fail)
 go_wp2
 go_ret
 have hG := G1.out ((w.alloc (.cells (L.take (i * 2) ++ Z).toArray 84)).drew.setCells N (i * 2) [.string x.name, b]).drew rfl rfl rfl rfl
 exact ⟨_, rfl, hG.1, hG.2⟩
theorem insert_c {W : World} {base : Nat} {v : Value} {vs : List Vol} {bvs : List Value} {x : Vol} {b : Value} {i : Nat} (h : VRow W base v vs bvs) (hbase : base ≤ W.heap.size) (h1 : ∀ b ∈ bvs, b.oneCell' = true) (hb : b.oneCell' = true) (hi : i ≤ vs.length) (hl : vs.length ≤ 1048576) :
  Calls Tryz.prog 160 #[v, .int .i64 i, .slice (some ⟨W.heap.size, 0, none⟩) 1 1] (W.alloc (.cells #[.string x.name, b] 84)) (Ins1 W base v vs bvs i x b) := by
 by_cases hin : i = vs.length
 ·subst hin; exact insert_end_c h hbase hb hl
 ·obtain ⟨g, cap, rfl, _, _, hc⟩ := own_form h.row (by omega)
  by_cases hr : vs.length + 1 ≤ cap
  ·exact insert_room_c h hbase h1 hb (by omega) hr
  ·exact insert_grow_c h hbase h1 hb (by omega) (by omega) hl
def cmpS (a b : ByteArray) : Int := Lib.compareBytes a.data.toList b.data.toList
theorem run_cmpS (a b : ByteArray) (w : World) : (callFunc 171 #[.string a, .string b]).run Tryz.prog w = .ok (.value (.int .i64 (cmpS a b))) w := by
 rw [run_callFunc_extern Tryz.func171 (by kernel_rfl) (by kernel_rfl) (by kernel_rfl) (e := Extern.BytealgCompare.compare) (by kernel_rfl), Lib.run_compareString]
 rfl
theorem compareString_c (a b : ByteArray) (w : World) : Calls Tryz.prog 166 #[.string a, .string b] w (Same (.int .i64 (cmpS a b)) w) := by
 have hc := run_cmpS a b
 go_enter Tryz.func166, Tryz.ntmps166
 go_wp2
 go_ret
 exact ⟨rfl, rfl⟩
theorem compare_c (a b : ByteArray) (w : World) : Calls Tryz.prog 159 #[.string a, .string b] w (Same (.int .i64 (cmpS a b)) w) := by
 go_enter Tryz.func159, Tryz.ntmps159
 go_wp2_with (go_at_call 166; refine (compareString_c a b _).mono ?_; rintro e w' ⟨rfl, rfl⟩)
 go_ret
 exact ⟨rfl, rfl⟩
theorem insertClo_c (x : Vol) (bv : Value) (t : ByteArray) (w : World) : Calls Tryz.prog 158 #[.agg #[.string x.name, bv], .string t] w (Ret (.int .i64 (cmpS x.name t)) w) := by
 go_enter Tryz.func158, Tryz.ntmps158
 go_wp2_with (go_at_call 159; refine (compare_c _ _ _).mono ?_; rintro e w' ⟨rfl, rfl⟩)
 go_ret
 exact ⟨rfl, bel_alloc (Below.refl _ _) _⟩
def Found (q : Nat) (w : World) (e : Ending) (w' : World) : Prop := ∃ f : Bool, e = .returned (.tuple #[.int .i64 q, .bool f]) ∧ Bel w w'
set_option maxRecDepth 100000 in
theorem search_c {w : World} {A : Option Addr} {c q : Nat} {vs : List Vol} {t : ByteArray} (hC : kVol.C w A vs.length vs) (hq : q ≤ vs.length) (hl : vs.length ≤ 1048576) (hm : ∀ (m : Nat) (x : Vol), vs[m]? = some x → (m < q ↔ cmpS x.name t < 0)) :
  Calls Tryz.prog 157 #[.slice A vs.length c, .string t, .func (.func 158) #[] #[]] w (Found q w) := by
 have H := Lib.hid hC
 have HM := Lib.hid hm
 clear hC hm
 go_enter Tryz.func157, Tryz.ntmps157
 go_wp2
 go_loopg [9, 10] vs.length (fun g v9 v10 W => ∃ i j : Nat, i ≤ q ∧ q ≤ j ∧ j ≤ vs.length ∧ j - i = g ∧ v9 = .int .i64 i ∧ v10 = .int .i64 j ∧ Bel w W)
 case atStart => exact ⟨0, vs.length, by omega, hq, Nat.le_refl _, rfl, rfl, rfl, Below.refl _ _⟩
 case round =>
  obtain ⟨i, j, hi, hj, hjn, hg, rfl, rfl, hW⟩ := hrel
  by_cases hlt : i < j
  ·have hk : (i + j) / 2 < vs.length := by omega
   obtain ⟨x, hx⟩ := getQ hk
   obtain ⟨ad, A1, n1, rfl, hc, hc', hn, hC1⟩ := at_vol (Kd.C_below H.out hW) hx
   have HX := Lib.hid hx
   clear hx
   have hiff := HM.out _ _ HX.out
   by_cases hcm : cmpS x.name t < 0
   ·have hkq : (i + j) / 2 < q := hiff.2 hcm
    clear hiff
    go_wp2_with (go_at_call 158; refine (insertClo_c x _ t _).mono ?_; rintro e w1 ⟨rfl, hb1⟩)
    go_roundg (j - ((i + j) / 2 + 1))
    case rel => exact ⟨(i + j) / 2 + 1, j, by omega, hj, hjn, rfl, int_eq (by omega), rfl, hW.tr hb1⟩
    case measure => omega
   ·have hkq : q ≤ (i + j) / 2 := Nat.le_of_not_lt fun h => hcm (hiff.1 h)
    clear hiff
    go_wp2_with (go_at_call 158; refine (insertClo_c x _ t _).mono ?_; rintro e w1 ⟨rfl, hb1⟩)
    go_roundg ((i + j) / 2 - i)
    case rel => exact ⟨i, (i + j) / 2, hi, hkq, by omega, rfl, rfl, int_eq (by omega), hW.tr hb1⟩
    case measure => omega
  ·obtain rfl : i = q := by omega
   by_cases hqn : i < vs.length
   ·obtain ⟨x, hx⟩ := getQ hqn
    obtain ⟨ad, A1, n1, rfl, hc, hc', hn, hC1⟩ := at_vol (Kd.C_below H.out hW) hx
    clear hx
    go_wp2_with (go_at_call 158; refine (insertClo_c x _ t _).mono ?_; rintro e w1 ⟨rfl, hb1⟩)
    all_goals
     go_ret2
     exact ⟨_, rfl, hW.tr hb1⟩
   ·have hqe : i = vs.length := by omega
    go_wp2
    go_ret2
    exact ⟨_, rfl, hW⟩
structure PV (w : World) (b base : Nat) (p : Pool) : Prop where
  h : ∃ v0 v1 bvs, Blk w b #[v0, v1] 44 ∧ OwnP w base v0 v1 p bvs
  lo : base ≤ b
theorem PV.bel {w w' : World} {b base : Nat} {p : Pool} (h : PV w b base p) (hb : Bel w w') : PV w' b base p := by
 obtain ⟨⟨v0, v1, bvs, h1, h2⟩, h3⟩ := h
 exact ⟨⟨v0, v1, bvs, h1.bel hb, h2.bel hb⟩, h3⟩
def PVStep (b base : Nat) (q : Pool) (r : Value) (w : World) (e : Ending) (w' : World) : Prop := e = .returned r ∧ PV w' b base q ∧ Below base w w'
theorem own_one {w : World} {base : Nat} {e : TypeId} {sz n : Nat} {v : Value} {xs : List Value} (h : w.ownsRow base e sz v n xs) : v.oneCell' = true := by
 obtain ⟨A, c, rfl, _⟩ := own_cap h; rfl
theorem OwnV.one {w : World} {base : Nat} {v : Value} {vs : List Vol} {bvs : List Value} (h : OwnV w base v vs bvs) : ∀ b ∈ bvs, b.oneCell' = true := by
 intro b hb
 obtain ⟨m, hm⟩ := List.getElem?_of_mem hb
 obtain ⟨x, hx⟩ := getQ (show m < vs.length by rw [← h.row.len]; exact ltQ hm)
 exact own_one (h.inner m x b hx hm)
theorem insAt_get {α} {i : Nat} {x : α} {xs : List α} (hi : i ≤ xs.length) (k : Nat) : (insAt i x xs)[k]? = if k < i then xs[k]? else if k = i then some x else xs[k - 1]? := by
 unfold insAt
 have ht : (xs.take i).length = i := by rw [List.length_take]; omega
 by_cases h1 : k < i
 ·rw [if_pos h1, List.getElem?_append_left (by omega), List.getElem?_take, if_pos h1]
 ·rw [if_neg h1, List.getElem?_append_right (by omega), ht]
  by_cases h2 : k = i
  ·rw [if_pos h2, h2, Nat.sub_self]; rfl
  ·rw [if_neg h2, show k - i = (k - 1 - i) + 1 by omega, List.getElem?_cons_succ, List.getElem?_drop]
   congr 1; omega
theorem OwnV.ins {W w1 : World} {base i : Nat} {v v1 : Value} {vs : List Vol} {bvs : List Value} {x : Vol} {b : Value} (h : OwnV W base v vs bvs) (hb : OwnI W base b x.blocks) (hi : i ≤ vs.length)
  (hap : ∀ (m : Nat) (b' : Value) (k : Nat), bvs[m]? = some b' → b'.ownBlock = some k → b.ownBlock ≠ some k) (hg : W.grownBy w1 v.ownBlock)
  (hr : VRow w1 base v1 (insAt i x vs) (insAt i b bvs)) : OwnV w1 base v1 (insAt i x vs) (insAt i b bvs) := by
 have hl := h.row.len
 refine ⟨hr, ?_, ?_⟩
 ·intro m y c hy hc
  rw [insAt_get (by omega)] at hy hc
  by_cases h1 : m < i
  ·rw [if_pos h1] at hy hc
   exact own_other_type (h.inner m y c hy hc) h.row.row (by decide) hg
  ·rw [if_neg h1] at hy hc
   by_cases h2 : m = i
   ·rw [if_pos h2] at hy hc
    obtain rfl := Option.some.inj hy
    obtain rfl := Option.some.inj hc
    exact own_other_type hb h.row.row (by decide) hg
   ·rw [if_neg h2] at hy hc
    exact own_other_type (h.inner (m - 1) y c hy hc) h.row.row (by decide) hg
 ·have hne : ∀ m c k, m ≠ i → (insAt i b bvs)[m]? = some c → c.ownBlock = some k → b.ownBlock ≠ some k := by
   intro m c k hm hc hk
   rw [insAt_get (by omega)] at hc
   by_cases h1 : m < i
   ·rw [if_pos h1] at hc; exact hap m c k hc hk
   ·rw [if_neg h1, if_neg hm] at hc; exact hap (m - 1) c k hc hk
  intro m j c c' k hmj hc hc' hk hk'
  by_cases h1 : m = i
  ·subst h1
   rw [insAt_get (by omega), if_neg (by omega), if_pos rfl] at hc
   obtain rfl := Option.some.inj hc
   exact hne j c' k (by omega) hc' hk' hk
  ·by_cases h2 : j = i
   ·subst h2
    rw [insAt_get (by omega), if_neg (by omega), if_pos rfl] at hc'
    obtain rfl := Option.some.inj hc'
    exact hne m c k h1 hc hk hk'
   ·rw [insAt_get (by omega)] at hc hc'
    have key : ∀ m : Nat, m ≠ i → ∀ c, (if m < i then bvs[m]? else if m = i then some b else bvs[m - 1]?) = some c → bvs[if m < i then m else m - 1]? = some c := by
     intro m hm c hc
     by_cases h3 : m < i
     ·rwa [if_pos h3] at hc ⊢
     ·rw [if_neg h3, if_neg hm] at hc; rwa [if_neg h3]
    refine h.apart _ _ c c' k ?_ (key m h1 c hc) (key j h2 c' hc') hk hk'
    split <;> split <;> omega
theorem Blk.grown {w w' : World} {b : Nat} {cs : Array Value} {t : TypeId} {r : Option Nat} (h : Blk w b cs t) (hg : w.grownBy w' r) (hne : some b ≠ r) : Blk w' b cs t := (hg.block b (Blk.lt h) hne).trans h
theorem own_blk_ne {w : World} {base : Nat} {e : TypeId} {sz n : Nat} {v : Value} {xs : List Value} (h : w.ownsRow base e sz v n xs) {b : Nat} {cs : Array Value} {t : TypeId} (hB : Blk w b cs t) (hne : e ≠ t) : some b ≠ v.ownBlock := by
 intro hk
 obtain ⟨c2, hc2⟩ := own_type h hk.symm
 rw [show w.heap[b]? = some (.cells cs t (0, 0)) from hB] at hc2
 injection hc2 with hc2
 injection hc2 with _ ht
 exact hne ht.symm
theorem own_old {w : World} {base : Nat} {e : TypeId} {sz n : Nat} {v : Value} {xs : List Value} (h : w.ownsRow base e sz v n xs) : some w.heap.size ≠ v.ownBlock := fun hk => by
 have := own_block_lt h hk.symm
 omega
theorem insert2_c {w w0 : World} {b base q : Nat} {p : Pool} {x : Vol} {bx : Value} (hp : PV w0 b base p) (hb : Bel w0 w) (hx : OwnI w w0.heap.size bx x.blocks) (hq : q ≤ p.vols.length) (hl : p.vols.length ≤ 1048576) (hm : ∀ (m : Nat) (y : Vol), p.vols[m]? = some y → (m < q ↔ cmpS y.name x.name < 0)) :
  Calls Tryz.prog 144 #[.pointer (some ⟨b, 0, none⟩), .agg #[.string x.name, bx]] w (PVStep b base ⟨p.slots, insAt q x p.vols⟩ (.tuple #[]) w) := by
 obtain ⟨⟨v0, v1, bvs, hB0, hP0⟩, hlo⟩ := hp
 have hbW : b < w0.heap.size := hB0.lt
 have hB := hB0.bel hb
 have hP := hP0.bel hb
 have hrow := hP.v.row
 obtain ⟨A1, c1, rfl, hc1, hC1⟩ := hP.v.reads
 obtain ⟨A0, c0, rfl, hc0, hC0⟩ := hP.s.reads
 obtain ⟨Ax, cx, rfl, hcx, hCx⟩ := hx.reads
 have hap : ∀ (m : Nat) (b' : Value) (k : Nat), bvs[m]? = some b' → b'.ownBlock = some k → Value.ownBlock (.slice Ax x.blocks.length cx) ≠ some k := fun m b' k hm hk h2 => by
  have e1 := hP0.v.inner_lt hm hk
  have e2 := own_block_ge hx h2
  omega
 have hbase : base ≤ w.heap.size := by have := hb.size; omega
 have HX := Lib.hid (own_lower hx (by have := hb.size; omega) : OwnI w base (.slice Ax x.blocks.length cx) x.blocks)
 have HP := Lib.hid hP
 have HB := Lib.hid hB
 have HAP := Lib.hid hap
 have HM := Lib.hid hm
 have HC1 := Lib.hid hC1
 clear hm hap hP hP0 hB0 hx hC1 hC0 hCx hrow
 have q1 := HB.out.cell 1
 have hbw : b < w.heap.size := HB.out.lt
 simp at q1
 clear hB
 go_enter Tryz.func144, Tryz.ntmps144
 go_wp2
 have hT : Blk (w.alloc (.cells #[.string x.name, .slice Ax x.blocks.length cx] 84)) w.heap.size #[.string x.name, .slice Ax x.blocks.length cx] 84 := Blk.new _ _ _
 have hW : Bel w (w.alloc (.cells #[.string x.name, .slice Ax x.blocks.length cx] 84)) := bel_alloc (Below.refl _ _) _
 have hwt : w.heap.size < (w.alloc (.cells #[.string x.name, .slice Ax x.blocks.length cx] 84)).heap.size := by simp
 generalize (w.alloc (.cells #[.string x.name, .slice Ax x.blocks.length cx] 84)) = W at hT hW hwt ⊢
 have HT := Lib.hid hT
 have HW := Lib.hid hW
 have u1 := (HB.out.bel HW.out).cell 1
 have t0 := HT.out.cell 0
 have t1 := HT.out.cell 1
 simp at u1 t0 t1
 clear hT hW q1
 refine start_ (n := 12) (S := fun w' => w'.cell? ⟨b, 1, none⟩ = some (.slice A1 p.vols.length c1) ∧ w'.cell? ⟨w.heap.size, 0, none⟩ = some (.string x.name)) (ds := []) #[F, F, F, F, F, F, F, F, F, F, F, F] (by kernel_rfl) rfl rfl ⟨u1, t0⟩ (fun hHeld => ?_)
 refine py 0 (some 7) #[T, F, F, F, F, F, F, F, F, F, F, F] ?_
 refine py 1 (some 8) #[T, T, F, F, F, F, F, F, F, F, F, F] ?_
 refine py 2 (some 9) #[T, T, T, F, F, F, F, F, F, F, F, F] ?_
 refine py 4 (some 11) #[T, T, T, F, T, F, F, F, F, F, F, F] ?_
 refine ty 3 (some 10) #[T, T, T, T, T, F, F, F, F, F, F, F] (hS := hHeld) (hz := by rintro w' ⟨s0, s1⟩; go_simp; with_reducible rfl) (h := ?_)
 refine ty 5 (some 12) #[T, T, T, T, T, T, F, F, F, F, F, F] (hS := hHeld) (hz := by rintro w' ⟨s0, s1⟩; go_simp; with_reducible rfl) (h := ?_)
 refine ox 6 (some 13) #[T, T, T, T, T, T, T, F, F, F, F, F] fun K hK => ?_
 refine gox Tryz.func157 #[.slice A1 p.vols.length c1, .string x.name, .func (.func 158) #[] #[]] ?_
 with_reducible refine (search_c (Kd.C_below HC1.out HW.out.drew) hq hl HM.out).mono ?_
 rintro e w1 ⟨f, rfl, hb1⟩
 refine ⟨_, rfl, ?_⟩
 refine hK.out _ _ ⟨(HB.out.bel (Bel.tr (b := W.drew) HW.out.drew hb1)).cell 1, (Blk.bel (w := W.drew) HT.out hb1).cell 0⟩ (fun hHeld => ?_)
 clear hK K
 refine nox 13 (h := ?_)
 refine py 7 (some 6) #[T, T, T, T, T, T, T, T, F, F, F, F] ?_
 refine py 8 (some 14) #[T, T, T, T, T, T, T, T, T, F, F, F] ?_
 refine py 9 (some 15) #[T, T, T, T, T, T, T, T, T, T, F, F] ?_
 refine py 10 (some 4) #[T, T, T, T, T, T, T, T, T, T, T, F] ?_
 refine py 11 (some 5) #[T, T, T, T, T, T, T, T, T, T, T, T] ?_
 refine done_ (by kernel_rfl) ?_
 have hD1 := Bel.tr (b := W.drew) HW.out.drew hb1
 have hT1 := Blk.bel (w := W.drew) HT.out hb1
 clear u1 t0 t1 hHeld
 have u1 := (HB.out.bel hD1).cell 1
 have t0 := hT1.cell 0
 have t1 := hT1.cell 1
 simp at u1 t0 t1
 have HT1 := Lib.hid hT1
 have HD1 := Lib.hid hD1
 have hI : Calls Tryz.prog 160 #[.slice A1 p.vols.length c1, .int .i64 q, .slice (some ⟨w1.heap.size, 0, none⟩) 1 1] ((w1.alloc (.cells #[.string x.name, .slice Ax x.blocks.length cx] 84)).drew) (Ins1 w1.drew base (.slice A1 p.vols.length c1) p.vols bvs q x (.slice Ax x.blocks.length cx)) :=
  insert_c (W := w1.drew) ((HP.out.v.row).bel hD1.drew) (by have := hD1.size; show base ≤ w1.heap.size; omega) HP.out.v.one rfl hq hl
 have HI := Lib.hid hI
 clear hT1 hD1 hI hb1
 go_wp2
 refine start_ (n := 12) (S := fun w' => w'.cell? ⟨b, 1, none⟩ = some (.slice A1 p.vols.length c1) ∧ w'.cell? ⟨w.heap.size, 0, none⟩ = some (.string x.name) ∧ w'.cell? ⟨w.heap.size, 1, none⟩ = some (.slice Ax x.blocks.length cx)) (ds := [11]) #[F, F, F, F, F, F, F, F, F, F, F, F] (by kernel_rfl) rfl rfl ⟨u1, t0, t1⟩ (fun hHeld => ?_)
 refine py 0 (some 16) #[T, F, F, F, F, F, F, F, F, F, F, F] ?_
 refine py 1 (some 17) #[T, T, F, F, F, F, F, F, F, F, F, F] ?_
 refine py 2 (some 18) #[T, T, T, F, F, F, F, F, F, F, F, F] ?_
 refine py 3 (some 19) #[T, T, T, T, F, F, F, F, F, F, F, F] ?_
 refine py 5 (some 21) #[T, T, T, T, F, T, F, F, F, F, F, F] ?_
 refine ty 4 (some 20) #[T, T, T, T, T, T, F, F, F, F, F, F] (hS := hHeld) (hz := by rintro w' ⟨s0, s1, s2⟩; go_simp; with_reducible rfl) (h := ?_)
 refine ty 6 (some 22) #[T, T, T, T, T, T, T, F, F, F, F, F] (hS := hHeld) (hz := by rintro w' ⟨s0, s1, s2⟩; go_simp; with_reducible rfl) (h := ?_)
 refine ox 7 (some 23) #[T, T, T, T, T, T, T, T, F, F, F, F] fun K hK => ?_
 refine vx ?_
 have hB2 := (HB.out.bel HD1.out).alloc (.cells #[.string x.name, .slice Ax x.blocks.length cx] 84)
 have hT2 := HT1.out.alloc (.cells #[.string x.name, .slice Ax x.blocks.length cx] 84)
 refine hK.out _ _ ⟨hB2.cell 1, hT2.cell 0, hT2.cell 1⟩ (fun hHeld => ?_)
 clear hK K
 refine nox 23 (h := ?_)
 refine ox 8 (some 24) #[T, T, T, T, T, T, T, T, T, F, F, F] fun K hK => ?_
 refine gox Tryz.func160 #[.slice A1 p.vols.length c1, .int .i64 q, .slice (some ⟨w1.heap.size, 0, none⟩) 1 1] ?_
 with_reducible refine (HI.out).mono ?_
 rintro e w2 ⟨v2, rfl, hr2, hg2⟩
 obtain ⟨A2, c2, rfl, hc2⟩ := own_cap hr2.row
 have hB2 : Blk w2 b _ _ := (HB.out.bel HD1.out.drew).grown hg2 (own_blk_ne (HP.out.v.row.row) HB.out (by decide))
 have hT2 : Blk w2 w.heap.size _ _ := Blk.grown (w := w1.drew) HT1.out hg2 (own_old HP.out.v.row.row)
 have z1 := hB2.cell 1
 have f1 := hB2.free 1
 simp at z1
 refine ⟨_, rfl, ?_⟩
 refine hK.out _ _ ⟨hB2.cell 1, hT2.cell 0, hT2.cell 1⟩ (fun hHeld => ?_)
 clear hK K
 refine nox 24 (h := ?_)
 refine py 9 (some 25) #[T, T, T, T, T, T, T, T, T, T, F, F] ?_
 refine py 10 (some 26) #[T, T, T, T, T, T, T, T, T, T, T, F] ?_
 refine lx 11 none #[T, T, T, T, T, T, T, T, T, T, T, T] fun K hK => ?_
 refine sx ?_
 refine hK.out _ _ ?_
 clear hK K
 refine done_ (by kernel_rfl) ?_
 have hD2 := HD1.out.drew
 have hrowv := (HP.out.v.row).bel hD2
 have hov := (HP.out.v.bel hD2).ins (OwnI.bel HX.out hD2) hq HAP.out hg2 hr2
 have hos : OwnS w2 base (.slice A0 p.slots.length c0) p.slots := own_other_type (HP.out.s.bel hD2) hrowv.row (by decide) hg2
 have hB3 := hB2.set 1 (.slice A2 (insAt q x p.vols).length c2) (cs' := #[.slice A0 p.slots.length c0, .slice A2 (insAt q x p.vols).length c2]) rfl
 have hsz : w.heap.size ≤ w1.heap.size := HD1.out.size
 have hbel : Below base w w2 := (hD2.mono hbase).grown hg2 (by show base ≤ w1.heap.size; omega) (own_base hrowv.row)
 go_end0
 exact ⟨rfl, ⟨⟨_, _, _, hB3, hos.far hB2 (by decide) _ _, hov.far hB2 (by decide) (by decide) _ _⟩, hlo⟩, hbel.setCell hlo _⟩
theorem kInt_mkM (w : World) (base : Nat) (ok : Nat → Prop) (x : Int) : kInt.M w base ok x [.int .i64 x] := rfl
theorem OwnI.get {w : World} {base g n cap : Nat} {s : List Int} (h : OwnI w base (.slice (some ⟨g, 0, none⟩) n cap) s) (hn : n = s.length) : OwnI w base (.slice (some ⟨g, 0, none⟩) s.length cap) s := hn ▸ h
theorem Blk.nw3 (w : World) (o o' : Obj) (cs : Array Value) (t : TypeId) : Blk (((w.alloc o).alloc o').alloc (.cells cs t)) (w.heap.size + 1 + 1) cs t := by
 have := Blk.nw2 (w.alloc o) o' cs t
 rwa [show (w.alloc o).heap.size = w.heap.size + 1 by simp] at this
theorem OwnV.put {w : World} {base g cap : Nat} {vs : List Vol} {bvs : List Value} (h : OwnV w base (.slice (some ⟨g, 0, none⟩) vs.length cap) vs bvs) {m : Nat} {y : Vol} (hy : vs[m]? = some y) (x : Vol) {b : Value} (hb : OwnI w base b x.blocks)
  (hap : ∀ (i : Nat) (b' : Value) (k : Nat), bvs[i]? = some b' → b'.ownBlock = some k → b.ownBlock ≠ some k) :
  OwnV ((w.setCell ⟨g, m * 2, none⟩ (.string x.name)).setCell ⟨g, m * 2 + 1, none⟩ b) base (.slice (some ⟨g, 0, none⟩) vs.length cap) (vs.set m x) (bvs.set m b) ∧ w.grownBy ((w.setCell ⟨g, m * 2, none⟩ (.string x.name)).setCell ⟨g, m * 2 + 1, none⟩ b) (some g) := by
 obtain ⟨h1, g1⟩ := h.row.setN hy x.name
 have hm := ltQ hy
 have hy1 : (vs.set m ⟨x.name, y.blocks⟩)[m]? = some ⟨x.name, y.blocks⟩ := List.getElem?_set_self hm
 have h1' : VRow (w.setCell ⟨g, m * 2, none⟩ (.string x.name)) base (.slice (some ⟨g, 0, none⟩) (vs.set m ⟨x.name, y.blocks⟩).length cap) (vs.set m ⟨x.name, y.blocks⟩) bvs := by rw [List.length_set]; exact h1
 obtain ⟨h2, g2⟩ := h1'.setB hy1 b
 have hbm : m < bvs.length := by rw [h.row.len]; exact hm
 have hg := grown_tr g1 g2
 have hz : ((vs.set m x).zip (bvs.set m b)).flatMap encV = ((vs.set m ⟨x.name, y.blocks⟩).zip (bvs.set m b)).flatMap encV := by
  rw [show vs.set m x = (vs.set m ⟨x.name, y.blocks⟩).set m x by rw [List.set_set], ← zip_setL (List.getElem?_set_self hbm)]
  exact flat_same (zip_get hy1 (List.getElem?_set_self hbm)) rfl
 refine ⟨⟨⟨by rw [List.length_set, List.length_set]; exact h.row.len, ?_⟩, ?_, ?_⟩, hg⟩
 ·have h5 := h2.row
  rw [hz, List.length_set]
  rw [List.length_set] at h5
  exact h5
 ·intro i z c hz2 hc
  by_cases e : i = m
  ·subst e
   rw [List.getElem?_set_self hm] at hz2
   rw [List.getElem?_set_self hbm] at hc
   obtain rfl := Option.some.inj hz2
   obtain rfl := Option.some.inj hc
   exact own_other_type hb h.row.row (by decide) hg
  ·rw [List.getElem?_set_ne (fun h => e h.symm)] at hz2 hc
   exact own_other_type (h.inner i z c hz2 hc) h.row.row (by decide) hg
 ·intro i j c c' k hij hc hc' hk hk'
  by_cases e : i = m
  ·subst e
   rw [List.getElem?_set_self hbm] at hc
   rw [List.getElem?_set_ne hij] at hc'
   obtain rfl := Option.some.inj hc
   exact hap j c' k hc' hk' hk
  ·rw [List.getElem?_set_ne (fun h => e h.symm)] at hc
   by_cases e2 : j = m
   ·subst e2
    rw [List.getElem?_set_self hbm] at hc'
    obtain rfl := Option.some.inj hc'
    exact hap i c k hc hk hk'
   ·rw [List.getElem?_set_ne (fun h => e2 h.symm)] at hc'
    exact h.apart i j c c' k hij hc hc' hk hk'
def kZ (Z : List Value) : Kd Unit := Kd.iso (Kd.raw Z.length) (fun _ => Z)
def MadeV (w : World) (vs : List Vol) (e : Ending) (w' : World) : Prop := ∃ v bvs, e = .returned v ∧ OwnV w' w.heap.size v vs bvs ∧ Bel w w'
def MadePB (w : World) (q : Pool) (ok : Bool) (e : Ending) (w' : World) : Prop := ∃ v0 v1 bvs, e = .returned (.tuple #[.agg #[v0, v1], .bool ok]) ∧ OwnP w' w.heap.size v0 v1 q bvs ∧ Bel w w'
def noP : Pool := ⟨[], []⟩
theorem OwnP.none (w : World) (base : Nat) : OwnP w base (.slice none 0 0) (.slice none 0 0) noP [] := ⟨World.ownsRow_nil _ _ _ _, OwnV.nil _ _⟩
def Changes (r : Option Pool) (b base : Nat) (w : World) (e : Ending) (w' : World) : Prop := e = .returned (.bool r.isSome) ∧ (∃ q, PV w' b base q ∧ ∀ q', r = some q' → q = q') ∧ Below base w w'
def chP (p : Pool) (r : Option Pool) : Pool := if poolOk p then r.getD p else noP
def chB (p : Pool) (r : Option Pool) : Bool := poolOk p && r.isSome
theorem changed_c {w : World} {A0 A1 : Option Addr} {c0 c1 : Nat} {p : Pool} (h : PoolIn w A0 A1 c0 c1 p) (hs : SmallP p) (F : FuncId) (caps : Array Value) (r : Option Pool)
  (hen : ∀ (args : Array Value) (W : World), (callFunc F args).run Tryz.prog W = .ok (.enter F args) W)
  (hch : poolOk p = true → ∀ (W : World) (b base : Nat), Bel w W → w.heap.size ≤ base → base ≤ W.heap.size → PV W b base p → Calls Tryz.prog F (#[.pointer (some ⟨b, 0, none⟩)] ++ caps) W (Changes r b base W)) :
  Calls Tryz.prog 141 #[.agg #[.slice A0 p.slots.length c0, .slice A1 p.vols.length c1], .func (.func F) #[] caps] w (MadePB w (chP p r) (chB p r)) := by
 have HS := Lib.hid hs
 have HP := Lib.hid h
 have HC := Lib.hid hch
 clear h hs hch
 go_enter Tryz.func141, Tryz.ntmps141
 go_wp2_with fail
 have hB : Blk ((w.alloc (.cells #[.slice A0 p.slots.length c0, .slice A1 p.vols.length c1] 44)).alloc (.cells #[.slice none 0 0, .slice none 0 0] 44)) w.heap.size #[.slice A0 p.slots.length c0, .slice A1 p.vols.length c1] 44 := (Blk.new _ _ _).alloc _
 have hR : Blk ((w.alloc (.cells #[.slice A0 p.slots.length c0, .slice A1 p.vols.length c1] 44)).alloc (.cells #[.slice none 0 0, .slice none 0 0] 44)) (w.heap.size + 1) #[.slice none 0 0, .slice none 0 0] 44 := Blk.nw2 _ _ _ _
 have hW : Bel w ((w.alloc (.cells #[.slice A0 p.slots.length c0, .slice A1 p.vols.length c1] 44)).alloc (.cells #[.slice none 0 0, .slice none 0 0] 44)) := bel_alloc (bel_alloc (Below.refl _ _) _) _
 have hl2 : w.heap.size + 2 ≤ ((w.alloc (.cells #[.slice A0 p.slots.length c0, .slice A1 p.vols.length c1] 44)).alloc (.cells #[.slice none 0 0, .slice none 0 0] 44)).heap.size := by simp
 generalize ((w.alloc (.cells #[.slice A0 p.slots.length c0, .slice A1 p.vols.length c1] 44)).alloc (.cells #[.slice none 0 0, .slice none 0 0] 44)) = W0 at hB hR hW hl2 ⊢
 have HB := Lib.hid hB
 have HR := Lib.hid hR
 have HW := Lib.hid hW
 clear hB hR hW
 refine (implPoolOk_in (HP.out.bel HW.out) HS.out).mono ?_
 rintro e w1 ⟨rfl, hb1⟩
 have HB1 := Lib.hid hb1
 have q0 := (HB.out.bel HB1.out).cell 0
 have q1 := (HB.out.bel HB1.out).cell 1
 have r0 := (HR.out.bel HB1.out).cell 0
 have r1 := (HR.out.bel HB1.out).cell 1
 have f0 := (HR.out.bel HB1.out).free 0
 have f1 := (HR.out.bel HB1.out).free 1
 simp at q0 q1 r0 r1
 clear hb1
 cases hok : poolOk p with
 | false =>
  have E1 := Lib.hid (show chP p r = noP by unfold chP; rw [hok]; rfl)
  have E2 := Lib.hid (show chB p r = false by unfold chB; rw [hok]; rfl)
  clear hok
  go_wp2
  have hR3 := (HR.out.bel HB1.out).set 0 (.slice none 0 0) (cs' := #[.slice none 0 0, .slice none 0 0]) rfl
  have hR4 := hR3.set 1 (.slice none 0 0) (cs' := #[.slice none 0 0, .slice none 0 0]) rfl
  have hb4 := bel_set (bel_set (HW.out.tr HB1.out) (Nat.le_succ _) 0 (.slice none 0 0)) (Nat.le_succ _) 1 (.slice none 0 0)
  refine bodyPost_ret (results_ct rfl _ _ (w.heap.size + 1) 44 #[.slice none 0 0, .slice none 0 0] (0, 0) _ rfl hR4 Tryz.underlying44 rfl (by kernel_rfl)) rfl ?_
  rw [E1.out, E2.out]
  exact ⟨_, _, _, rfl, OwnP.none _ _, hb4⟩
 | true =>
  have E1 := Lib.hid (show chP p r = r.getD p by unfold chP; rw [if_pos hok])
  have E2 := Lib.hid (show chB p r = r.isSome by unfold chB; rw [hok]; rfl)
  have HK := Lib.hid (HC.out hok)
  clear hok
  go_wp2_with fail
  refine (poolClone_c (HP.out.bel (HW.out.tr HB1.out)) HS.out).mono ?_
  rintro e w2 ⟨v0, v1, bvs, rfl, ho, hb2⟩
  have HO := Lib.hid ho
  have HB2 := Lib.hid hb2
  clear q0 q1 r0 r1 f0 f1 ho hb2
  obtain ⟨A2, A3, c2, c3, rfl, rfl, hpi⟩ := HO.out.reads
  clear hpi
  go_wp2_with fail
  have hpv : PV (w2.alloc (.cells #[.slice A2 p.slots.length c2, .slice A3 p.vols.length c3] 44)) w2.heap.size w1.heap.size p := ⟨⟨_, _, _, Blk.new _ _ _, HO.out.bel (bel_alloc (Below.refl _ _) _)⟩, HB2.out.size⟩
  have hb01 : Bel W0 w2 := HB1.out.tr HB2.out
  refine (HK.out _ w2.heap.size w1.heap.size (HW.out.tr (bel_alloc hb01 _)) (HW.out.tr HB1.out).size (by have := HB2.out.size; simp; omega) hpv).mono ?_
  rintro e w3 ⟨rfl, ⟨q, hq, hqr⟩, hb3⟩
  have hb13 : Below w1.heap.size w1 w3 := (bel_alloc HB2.out _).trans hb3
  have hb03 : Bel W0 w3 := HB1.out.tr hb13
  have HB3 := Lib.hid hb03
  have HB13 := Lib.hid hb13
  have HQ := Lib.hid hq
  have HQR := Lib.hid hqr
  clear hpv hb01 hb13 hb03 hb3 hq hqr
  have q0 := (HB.out.bel HB3.out).cell 0
  have q1 := (HB.out.bel HB3.out).cell 1
  have r0 := (HR.out.bel HB3.out).cell 0
  have r1 := (HR.out.bel HB3.out).cell 1
  have f0 := (HR.out.bel HB3.out).free 0
  have f1 := (HR.out.bel HB3.out).free 1
  simp at q0 q1 r0 r1
  cases hr : r with
  | none =>
   have E3 := Lib.hid (show chP p r = p by rw [E1.out, hr]; rfl)
   have E4 := Lib.hid (show chB p r = false by rw [E2.out, hr]; rfl)
   clear hr
   go_wp2_with fail
   refine (poolClone_c (HP.out.bel (HW.out.tr HB3.out)) HS.out).mono ?_
   rintro e w4 ⟨v0, v1, bvs, rfl, ho, hb4⟩
   have HO4 := Lib.hid ho
   have HB4 := Lib.hid hb4
   obtain ⟨A2, A3, c2, c3, rfl, rfl, hpi⟩ := ho.reads
   clear q0 q1 r0 r1 f0 f1 ho hb4 hpi
   have r0 := (HR.out.bel (HB3.out.tr HB4.out)).cell 0
   have r1 := (HR.out.bel (HB3.out.tr HB4.out)).cell 1
   have f0 := (HR.out.bel (HB3.out.tr HB4.out)).free 0
   have f1 := (HR.out.bel (HB3.out.tr HB4.out)).free 1
   simp at r0 r1
   go_wp2
   have hR2 := HR.out.bel (HB3.out.tr HB4.out)
   have hR3 := hR2.set 0 (.slice A2 p.slots.length c2) (cs' := #[.slice A2 p.slots.length c2, .slice none 0 0]) rfl
   have hR4 := hR3.set 1 (.slice A3 p.vols.length c3) (cs' := #[.slice A2 p.slots.length c2, .slice A3 p.vols.length c3]) rfl
   have hb5 := bel_set (bel_set (HW.out.tr (HB3.out.tr HB4.out)) (Nat.le_succ _) 0 (.slice A2 p.slots.length c2)) (Nat.le_succ _) 1 (.slice A3 p.vols.length c3)
   have hop4 := (HO4.out.far hR2 (by decide) (by decide) (by decide) 0 (.slice A2 p.slots.length c2)).far hR3 (by decide) (by decide) (by decide) 1 (.slice A3 p.vols.length c3)
   refine bodyPost_ret (results_ct rfl _ _ (w.heap.size + 1) 44 #[.slice A2 p.slots.length c2, .slice A3 p.vols.length c3] (0, 0) _ rfl hR4 Tryz.underlying44 rfl (by kernel_rfl)) rfl ?_
   rw [E3.out, E4.out]
   exact ⟨_, _, _, rfl, hop4.lower (by have := (HW.out.tr HB3.out).size; omega), hb5⟩
  | some q' =>
   have E3 := Lib.hid (show chP p r = q by rw [E1.out, HQR.out q' hr, hr]; rfl)
   have E4 := Lib.hid (show chB p r = true by rw [E2.out, hr]; rfl)
   clear hr
   obtain ⟨⟨v0, v1, bvs, hq1, hq2⟩, hlo⟩ := HQ.out
   obtain ⟨A4, A5, c4, c5, rfl, rfl, hpi⟩ := hq2.reads
   have HQ1 := Lib.hid hq1
   have HQ2 := Lib.hid hq2
   have s0 := HQ1.out.cell 0
   have s1 := HQ1.out.cell 1
   simp at s0 s1
   clear hq1 hq2 hpi
   go_wp2
   have hR2 := HR.out.bel HB3.out
   have hR3 := hR2.set 0 (.slice A4 q.slots.length c4) (cs' := #[.slice A4 q.slots.length c4, .slice none 0 0]) rfl
   have hR4 := hR3.set 1 (.slice A5 q.vols.length c5) (cs' := #[.slice A4 q.slots.length c4, .slice A5 q.vols.length c5]) rfl
   have hb5 := bel_set (bel_set (HW.out.tr HB3.out) (Nat.le_succ _) 0 (.slice A4 q.slots.length c4)) (Nat.le_succ _) 1 (.slice A5 q.vols.length c5)
   have hop4 := (HQ2.out.far hR2 (by decide) (by decide) (by decide) 0 (.slice A4 q.slots.length c4)).far hR3 (by decide) (by decide) (by decide) 1 (.slice A5 q.vols.length c5)
   refine bodyPost_ret (results_ct rfl _ _ (w.heap.size + 1) 44 #[.slice A4 q.slots.length c4, .slice A5 q.vols.length c5] (0, 0) _ rfl hR4 Tryz.underlying44 rfl (by kernel_rfl)) rfl ?_
   rw [E3.out, E4.out]
   exact ⟨_, _, _, rfl, hop4.lower (HW.out.tr HB1.out).size, hb5⟩
open Go.RowKit Go.Proofs.YtljfoglilggkjaaGreatW.PrintWords
def nmN (t : ByteArray) : Nat := (t.toList.headD 0).toNat
theorem isNm_one {t : ByteArray} (h : isNm t = true) : ∃ b : UInt8, t.toList = [b] ∧ 65 ≤ b.toNat ∧ b.toNat ≤ 68 := by
 simp [isNm] at h
 rcases h with h | h | h | h <;> exact ⟨_, h, by decide, by decide⟩
theorem nm_bd {a : ByteArray} (h : isNm a = true) : 65 ≤ nmN a ∧ nmN a ≤ 68 := by
 obtain ⟨b, hb, h1, h2⟩ := isNm_one h
 simp [nmN, hb, h1, h2]
theorem nm_lt {a b : ByteArray} (ha : isNm a = true) (hb : isNm b = true) : Op.bytesLess a.toList b.toList = decide (nmN a < nmN b) := by
 obtain ⟨x, hx, _⟩ := isNm_one ha
 obtain ⟨y, hy, _⟩ := isNm_one hb
 simp [nmN, hx, hy, Op.bytesLess, UInt8.lt_iff_toNat_lt]
theorem nm_eq {a b : ByteArray} (ha : isNm a = true) (hb : isNm b = true) : a = b ↔ nmN a = nmN b := by
 obtain ⟨x, hx, _⟩ := isNm_one ha
 obtain ⟨y, hy, _⟩ := isNm_one hb
 constructor
 ·rintro rfl; rfl
 ·intro h
  refine str_eq ?_
  rw [hx, hy]
  simp [nmN, hx, hy] at h
  rw [UInt8.toNat_inj.1 h]
def cmpN (a b : ByteArray) : Int := Lib.compareBytes a.data.toList b.data.toList
theorem nm_cmp {a b : ByteArray} (ha : isNm a = true) (hb : isNm b = true) : cmpN a b < 0 ↔ nmN a < nmN b := by
 obtain ⟨x, hx, _⟩ := isNm_one ha
 obtain ⟨y, hy, _⟩ := isNm_one hb
 have e1 : a.data.toList = [x] := by rw [← hx, ByteArray.toList_eq]
 have e2 : b.data.toList = [y] := by rw [← hy, ByteArray.toList_eq]
 have h1 := UInt8.lt_iff_toNat_lt (a := x) (b := y)
 have h2 := UInt8.lt_iff_toNat_lt (a := y) (b := x)
 simp only [nmN, hx, hy, cmpN, e1, e2, Lib.compareBytes, List.headD_cons]
 split
 ·rename_i h; simp [h1.1 h]
 ·rename_i h
  split
  ·rename_i h3; have := h2.1 h3; simp; omega
  ·simp; rw [h1] at h; omega
structure StoreP (s : List Slot) : Prop where
  len : s.length = 8
  ok : ∀ (m : Nat) (x : Slot), s[m]? = some x → tOk x.text = true ∧ 0 ≤ x.uses ∧ x.uses ≤ 99 ∧ (x.text = e0 ↔ x.uses = 0)
  uniq : ∀ (i j : Nat) (x y : Slot), s[i]? = some x → s[j]? = some y → x.text = y.text → x.text ≠ e0 → i = j
theorem slotOk_iff {x : Slot} : slotOk x = true ↔ tOk x.text = true ∧ 0 ≤ x.uses ∧ x.uses ≤ 99 ∧ (x.text = e0 ↔ x.uses = 0) := by
 unfold slotOk
 rw [Bool.and_eq_true, Bool.and_eq_true, inR_iff]
 have : ((x.text.toList == []) == (x.uses == 0)) = true ↔ (x.text = e0 ↔ x.uses = 0) := by
  rw [← toList_nil (s := x.text)]
  cases h1 : (x.text.toList == []) <;> cases h2 : (x.uses == 0) <;> simp_all
 rw [this, and_assoc, and_assoc]
theorem dupIn_no {x : Slot} {pre : List Slot} : dupIn x pre = false ↔ (x.text = e0 ∨ ∀ o ∈ pre, o.text ≠ x.text) := by
 unfold dupIn hasText
 rw [← toList_nil (s := x.text)]
 cases h1 : (x.text.toList == [])
 ·have hn : x.text.toList ≠ [] := by simpa using h1
  simp only [Bool.not_false, Bool.true_and, hn, false_or, List.any_eq_false]
  exact ⟨fun h o ho e => by simpa [e] using h o ho, fun h o ho => by simpa using fun e => h o ho (str_eq e)⟩
 ·have hn : x.text.toList = [] := by simpa using h1
  simp [hn]
theorem storeOk_iff {s : List Slot} : storeOk s = true ↔ StoreP s := by
 unfold storeOk
 rw [Bool.and_eq_true, allN_iff, decide_eq_true_eq]
 have key : ∀ i x, s[i]? = some x → (storeAt s i = true ↔ (tOk x.text = true ∧ 0 ≤ x.uses ∧ x.uses ≤ 99 ∧ (x.text = e0 ↔ x.uses = 0)) ∧ (x.text = e0 ∨ ∀ o ∈ s.take i, o.text ≠ x.text)) := by
  intro i x hx
  rw [storeAt_eq hx, Bool.and_eq_true, slotOk_iff, Bool.not_eq_true', dupIn_no]
 constructor
 ·rintro ⟨h, hl⟩
  refine ⟨hl, fun m x hx => ((key m x hx).1 (h m (ltQ hx))).1, ?_⟩
  have aux : ∀ (i j : Nat) (x y : Slot), i < j → s[i]? = some x → s[j]? = some y → x.text = y.text → x.text ≠ e0 → False := by
   intro i j x y hij hx hy he hne
   rcases ((key j y hy).1 (h j (ltQ hy))).2 with h2 | h2
   ·exact hne (he.trans h2)
   ·refine h2 x ?_ he
    exact List.mem_of_getElem? (show (s.take j)[i]? = some x by rw [List.getElem?_take, if_pos hij]; exact hx)
  intro i j x y hx hy he hne
  rcases Nat.lt_trichotomy i j with h1 | h1 | h1
  ·exact (aux i j x y h1 hx hy he hne).elim
  ·exact h1
  ·exact (aux j i y x h1 hy hx he.symm (he ▸ hne)).elim
 ·rintro ⟨hl, h1, h2⟩
  refine ⟨fun i hi => ?_, hl⟩
  obtain ⟨x, hx⟩ := getQ hi
  refine (key i x hx).2 ⟨h1 i x hx, ?_⟩
  by_cases he : x.text = e0
  ·exact .inl he
  ·refine .inr fun o ho e => ?_
   obtain ⟨j, hj⟩ := List.getElem?_of_mem ho
   have hji : j < i := by have := ltQ hj; rw [List.length_take] at this; omega
   rw [List.getElem?_take, if_pos hji] at hj
   have := h2 j i o x hj hx e (e ▸ he)
   omega
theorem StoreP.set {s : List Slot} (h : StoreP s) {m : Nat} {x y : Slot} (hx : s[m]? = some x) (hy : tOk y.text = true ∧ 0 ≤ y.uses ∧ y.uses ≤ 99 ∧ (y.text = e0 ↔ y.uses = 0))
  (hu : y.text = e0 ∨ y.text = x.text ∨ ∀ (j : Nat) (z : Slot), s[j]? = some z → z.text ≠ y.text) : StoreP (s.set m y) := by
 have hm := ltQ hx
 have get : ∀ (j : Nat) (z : Slot), (s.set m y)[j]? = some z → (j = m ∧ z = y) ∨ (j ≠ m ∧ s[j]? = some z) := by
  intro j z hz
  by_cases e : j = m
  ·subst e; rw [List.getElem?_set_self hm] at hz; exact .inl ⟨rfl, (Option.some.inj hz).symm⟩
  ·rw [List.getElem?_set_ne (fun h => e h.symm)] at hz; exact .inr ⟨e, hz⟩
 have clash : ∀ (j : Nat) (z : Slot), j ≠ m → s[j]? = some z → z.text = y.text → y.text ≠ e0 → False := by
  intro j z hj hz e hne
  rcases hu with h1 | h1 | h1
  ·exact hne h1
  ·exact hj (h.uniq j m z x hz hx (e.trans h1) (e ▸ hne))
  ·exact h1 j z hz e
 refine ⟨by rw [List.length_set]; exact h.len, ?_, ?_⟩
 ·intro j z hz
  rcases get j z hz with ⟨_, rfl⟩ | ⟨_, hz⟩
  ·exact hy
  ·exact h.ok j z hz
 ·intro i j a b ha hb e hne
  rcases get i a ha with ⟨e1, e2⟩ | ⟨hi, ha2⟩ <;> rcases get j b hb with ⟨e3, e4⟩ | ⟨hj, hb2⟩
  ·rw [e1, e3]
  ·exact (clash j b hj hb2 (by rw [← e, e2]) (by rw [← e2]; exact hne)).elim
  ·exact (clash i a hi ha2 (by rw [e, e4]) (by rw [← e4, ← e]; exact hne)).elim
  ·exact h.uniq i j a b ha2 hb2 e hne
theorem lessS_uses {x : Slot} (h : 1 ≤ x.uses) : (lessS x).uses = x.uses - 1 := by unfold lessS; split <;> simp <;> omega
theorem lessS_text (x : Slot) : (lessS x).text = x.text ∨ (lessS x).uses = 0 := by unfold lessS; split <;> simp
theorem tOk_e0 : tOk e0 = true := by unfold tOk; rw [toList_nil.2 rfl]; rfl
theorem StoreP.drop {s : List Slot} (h : StoreP s) {m : Nat} {x : Slot} (hx : s[m]? = some x) (h1 : 1 ≤ x.uses) : StoreP (dropS s m) := by
 rw [dropS_eq hx]
 obtain ⟨a, b, c, d⟩ := h.ok m x hx
 refine h.set hx ?_ ?_
 ·unfold lessS
  split
  ·exact ⟨tOk_e0, by simp, by simp, by simp⟩
  ·refine ⟨a, by simp; omega, by simp; omega, ?_⟩
   rw [d]; simp; omega
 ·unfold lessS; split <;> simp
def incS (s : List Slot) (m : Nat) : List Slot := s.set m ⟨(s.getD m Slot.z).text, (s.getD m Slot.z).uses + 1⟩
theorem incS_eq {s : List Slot} {m : Nat} {x : Slot} (h : s[m]? = some x) : incS s m = s.set m ⟨x.text, x.uses + 1⟩ := by unfold incS; rw [getD_of h]
theorem StoreP.inc {s : List Slot} (h : StoreP s) {m : Nat} {x : Slot} (hx : s[m]? = some x) (h1 : 1 ≤ x.uses) (h2 : x.uses ≤ 98) : StoreP (incS s m) := by
 rw [incS_eq hx]
 obtain ⟨a, b, c, d⟩ := h.ok m x hx
 exact h.set hx ⟨a, by simp; omega, by simp; omega, by rw [d]; simp; omega⟩ (.inr (.inl rfl))
def dropAll (s : List Slot) : List Int → List Slot
 | [] => s
 | x :: xs => dropAll (if 0 < x then dropS s (x - 1).toNat else s) xs
def incAll (s : List Slot) : List Int → List Slot
 | [] => s
 | x :: xs => incAll (if 0 < x then incS s (x - 1).toNat else s) xs
theorem dropAll_snoc (s : List Slot) (xs : List Int) (x : Int) : dropAll s (xs ++ [x]) = if 0 < x then dropS (dropAll s xs) (x - 1).toNat else dropAll s xs := by
 induction xs generalizing s with
 | nil => rfl
 | cons y ys ih => exact ih _
theorem incAll_snoc (s : List Slot) (xs : List Int) (x : Int) : incAll s (xs ++ [x]) = if 0 < x then incS (incAll s xs) (x - 1).toNat else incAll s xs := by
 induction xs generalizing s with
 | nil => rfl
 | cons y ys ih => exact ih _
theorem dropS_len (s : List Slot) (m : Nat) : (dropS s m).length = s.length := by simp [dropS]
theorem incS_len (s : List Slot) (m : Nat) : (incS s m).length = s.length := by simp [incS]
theorem dropAll_len (s : List Slot) (xs : List Int) : (dropAll s xs).length = s.length := by
 induction xs generalizing s with
 | nil => rfl
 | cons y ys ih => simp only [dropAll, ih]; split <;> simp [dropS_len]
theorem incAll_len (s : List Slot) (xs : List Int) : (incAll s xs).length = s.length := by
 induction xs generalizing s with
 | nil => rfl
 | cons y ys ih => simp only [incAll, ih]; split <;> simp [incS_len]
theorem dropAll_get {xs : List Int} : ∀ {s : List Slot}, StoreP s → (∀ x ∈ xs, 0 ≤ x ∧ x ≤ 8) → (∀ (m : Nat) (x : Slot), s[m]? = some x → cnt (m + 1) xs ≤ x.uses) →
  StoreP (dropAll s xs) ∧ ∀ (m : Nat) (x : Slot), s[m]? = some x → ∃ y, (dropAll s xs)[m]? = some y ∧ y.uses = x.uses - cnt (m + 1) xs ∧ (y.text = x.text ∨ y.uses = 0) := by
 induction xs with
 | nil => intro s h _ _; exact ⟨h, fun m x hx => ⟨x, hx, by simp [cnt], .inl rfl⟩⟩
 | cons a xs ih =>
  intro s h hr hc
  have ha := hr a List.mem_cons_self
  have hr' : ∀ x ∈ xs, 0 ≤ x ∧ x ≤ 8 := fun x hx => hr x (List.mem_cons_of_mem _ hx)
  simp only [dropAll]
  by_cases h0 : 0 < a
  ·rw [if_pos h0]
   obtain ⟨x0, hx0⟩ := getQ (show (a - 1).toNat < s.length by rw [h.len]; omega)
   have hca := hc _ _ hx0
   simp only [cnt, show (((a - 1).toNat : Nat) : Int) + 1 = a by omega, if_pos] at hca
   have hcn := cnt_le a xs
   have h1 : 1 ≤ x0.uses := by omega
   have hd := h.drop hx0 h1
   have get : ∀ (m : Nat) (x : Slot), s[m]? = some x → ∃ y, (dropS s (a - 1).toNat)[m]? = some y ∧ y.uses = x.uses - (if a = (m : Int) + 1 then 1 else 0) ∧ (y.text = x.text ∨ y.uses = 0) := by
    intro m x hx
    by_cases e : m = (a - 1).toNat
    ·subst e
     obtain rfl := Option.some.inj (hx.symm.trans hx0)
     refine ⟨lessS x, by rw [dropS_eq hx, List.getElem?_set_self (ltQ hx)], ?_, lessS_text x⟩
     rw [lessS_uses h1, if_pos (by omega)]
    ·refine ⟨x, by unfold dropS; rw [List.getElem?_set_ne (fun h => e h.symm)]; exact hx, ?_, .inl rfl⟩
     rw [if_neg (by omega)]; omega
   obtain ⟨r1, r2⟩ := ih hd hr' (fun m y hy => by
    obtain ⟨x, hx⟩ := getQ (show m < s.length by have := ltQ hy; rwa [dropS_len] at this)
    obtain ⟨y', hy', hu, _⟩ := get m x hx
    obtain rfl := Option.some.inj (hy.symm.trans hy')
    have := hc m x hx
    simp only [cnt] at this
    omega)
   refine ⟨r1, fun m x hx => ?_⟩
   obtain ⟨y, hy, hu, ht⟩ := get m x hx
   obtain ⟨z, hz, hu2, ht2⟩ := r2 m y hy
   refine ⟨z, hz, by simp only [cnt]; omega, ?_⟩
   have hcm := cnt_le ((m : Int) + 1) xs
   have hz0 := ((r1.ok m z hz).2.1)
   rcases ht2 with ht2 | ht2
   ·rcases ht with ht | ht
    ·exact .inl (ht2.trans ht)
    ·exact .inr (by omega)
   ·exact .inr ht2
  ·rw [if_neg h0]
   obtain ⟨r1, r2⟩ := ih h hr' (fun m x hx => by have := hc m x hx; simp only [cnt] at this; rw [if_neg (by omega)] at this; omega)
   refine ⟨r1, fun m x hx => ?_⟩
   obtain ⟨z, hz, hu2, ht2⟩ := r2 m x hx
   exact ⟨z, hz, by simp only [cnt]; rw [if_neg (by omega)]; omega, ht2⟩
theorem incAll_get {xs : List Int} : ∀ {s : List Slot}, StoreP s → (∀ x ∈ xs, 0 ≤ x ∧ x ≤ 8) → (∀ (m : Nat) (x : Slot), s[m]? = some x → x.uses + cnt (m + 1) xs ≤ 99 ∧ (0 < cnt (m + 1) xs → 1 ≤ x.uses)) →
  StoreP (incAll s xs) ∧ ∀ (m : Nat) (x : Slot), s[m]? = some x → (incAll s xs)[m]? = some ⟨x.text, x.uses + cnt (m + 1) xs⟩ := by
 induction xs with
 | nil => intro s h _ _; exact ⟨h, fun m x hx => by simpa [cnt, incAll] using hx⟩
 | cons a xs ih =>
  intro s h hr hc
  have ha := hr a List.mem_cons_self
  have hr' : ∀ x ∈ xs, 0 ≤ x ∧ x ≤ 8 := fun x hx => hr x (List.mem_cons_of_mem _ hx)
  simp only [incAll]
  by_cases h0 : 0 < a
  ·rw [if_pos h0]
   obtain ⟨x0, hx0⟩ := getQ (show (a - 1).toNat < s.length by rw [h.len]; omega)
   have hca := hc _ _ hx0
   simp only [cnt, show (((a - 1).toNat : Nat) : Int) + 1 = a by omega, if_pos] at hca
   have hcn := cnt_le a xs
   have h1 : 1 ≤ x0.uses := hca.2 (by omega)
   have h2 : x0.uses ≤ 98 := by have := hca.1; omega
   have hd := h.inc hx0 h1 h2
   have get : ∀ (m : Nat) (x : Slot), s[m]? = some x → (incS s (a - 1).toNat)[m]? = some ⟨x.text, x.uses + (if a = (m : Int) + 1 then 1 else 0)⟩ := by
    intro m x hx
    by_cases e : m = (a - 1).toNat
    ·subst e
     rw [incS_eq hx, List.getElem?_set_self (ltQ hx), if_pos (by omega)]
    ·unfold incS; rw [List.getElem?_set_ne (fun h => e h.symm), hx, if_neg (by omega)]; simp
   obtain ⟨r1, r2⟩ := ih hd hr' (fun m y hy => by
    obtain ⟨x, hx⟩ := getQ (show m < s.length by have := ltQ hy; rwa [incS_len] at this)
    obtain rfl := Option.some.inj (hy.symm.trans (get m x hx))
    have := hc m x hx
    simp only [cnt] at this
    have h3 := h.ok m x hx
    have h4 := cnt_le ((m : Int) + 1) xs
    refine ⟨by simp only; omega, fun h5 => ?_⟩
    simp only
    have := this.2 (by omega)
    split <;> omega)
   refine ⟨r1, fun m x hx => ?_⟩
   rw [r2 m _ (get m x hx)]
   simp only [cnt]
   congr 2; omega
  ·rw [if_neg h0]
   obtain ⟨r1, r2⟩ := ih h hr' (fun m x hx => by have := hc m x hx; simp only [cnt] at this; rw [if_neg (by omega)] at this; simpa using this)
   refine ⟨r1, fun m x hx => ?_⟩
   rw [r2 m x hx]
   simp only [cnt]
   rw [if_neg (by omega)]
   congr 2; omega
theorem textB {a b : ByteArray} : (a.toList == b.toList) = true ↔ a = b := ⟨fun h => str_eq (by simpa using h), fun h => by simp [h]⟩
def goRound (d : Nat) (p : Int) : Int := (p - 1 + d) % 8 + 1
theorem goRound_succ {d : Nat} {p : Int} : goRound d (p % 8 + 1) = goRound (d + 1) p := by unfold goRound; omega
theorem scan_hit {s : List Slot} {t : ByteArray} {m : Nat} {x : Slot} (hx : s[m]? = some x) (ht : x.text = t) (hu : ∀ (j : Nat) (y : Slot), s[j]? = some y → y.text = t → j = m) (hl : s.length = 8) :
  ∀ (n d : Nat) (p free : Int), 1 ≤ p → p ≤ 8 → d < n → goRound d p = (m : Int) + 1 → scan s t n p free = ((m : Int) + 1, true) := by
 intro n
 induction n with
 | zero => intro d p free h1 h8 hd; omega
 | succ n ih =>
  intro d p free h1 h8 hd hg
  obtain ⟨y, hy⟩ := getQ (show (p - 1).toNat < s.length by rw [hl]; omega)
  unfold scan
  rw [getD_of hy]
  cases hb : (y.text.toList == t.toList)
  ·simp only [Bool.false_eq_true, if_false]
   cases d with
   | zero =>
    exfalso
    unfold goRound at hg
    have : (p - 1).toNat = m := by omega
    rw [this] at hy
    obtain rfl := Option.some.inj (hy.symm.trans hx)
    rw [ht] at hb
    simp at hb
   | succ d => exact ih d _ _ (by omega) (by omega) (by omega) (by rw [goRound_succ]; exact hg)
  ·simp only [if_true]
   have := hu _ y hy (textB.1 hb)
   rw [show p = (m : Int) + 1 by omega]
theorem probe_free {s : List Slot} (hl : s.length = 8) : ∀ (n : Nat) (p : Int), 1 ≤ p → p ≤ 8 → probe s n p ≠ 0 → ∃ (m : Nat) (x : Slot), probe s n p = (m : Int) + 1 ∧ s[m]? = some x ∧ x.uses = 0 := by
 intro n
 induction n with
 | zero => intro p _ _ h; exact absurd rfl h
 | succ n ih =>
  intro p h1 h8 h
  obtain ⟨y, hy⟩ := getQ (show (p - 1).toNat < s.length by rw [hl]; omega)
  unfold probe at h ⊢
  rw [getD_of hy] at h ⊢
  by_cases h0 : y.uses = 0
  ·rw [if_pos h0]; exact ⟨(p - 1).toNat, y, by omega, hy, h0⟩
  ·rw [if_neg h0] at h ⊢; exact ih _ (by omega) (by omega) h
theorem scan_miss {s : List Slot} {t : ByteArray} (hn : ∀ (j : Nat) (y : Slot), s[j]? = some y → y.text ≠ t) (hl : s.length = 8) :
  ∀ (n : Nat) (p free : Int), 1 ≤ p → p ≤ 8 → scan s t n p free = (if free = 0 then probe s n p else free, false) := by
 intro n
 induction n with
 | zero => intro p free _ _; unfold scan probe; split <;> simp_all
 | succ n ih =>
  intro p free h1 h8
  obtain ⟨y, hy⟩ := getQ (show (p - 1).toNat < s.length by rw [hl]; omega)
  have hb : (y.text.toList == t.toList) = false := by
   cases hb : (y.text.toList == t.toList)
   ·rfl
   ·exact absurd (textB.1 hb) (hn _ y hy)
  unfold scan probe
  rw [getD_of hy, hb]
  simp only [Bool.false_eq_true, if_false]
  rw [ih _ _ (by omega) (by omega)]
  by_cases h0 : y.uses = 0
  ·by_cases hf : free = 0
   ·rw [if_pos (show y.uses = 0 ∧ free = 0 from ⟨h0, hf⟩), if_neg (by omega), if_pos hf, if_pos h0]
   ·rw [if_neg (show ¬ (y.uses = 0 ∧ free = 0) from fun h => hf h.2), if_neg hf, if_neg hf]
  ·rw [if_neg (show ¬ (y.uses = 0 ∧ free = 0) from fun h => h0 h.1), if_neg h0]
inductive PutAt (s : List Slot) (t : ByteArray) (r : Int) : Prop where
  | no (h : r = 0)
  | old (m : Nat) (x : Slot) (h : r = (m : Int) + 1) (hx : s[m]? = some x) (ht : x.text = t) (hu : x.uses < 99)
  | fresh (m : Nat) (x : Slot) (h : r = (m : Int) + 1) (hx : s[m]? = some x) (hu : x.uses = 0) (hn : ∀ (j : Nat) (y : Slot), s[j]? = some y → y.text ≠ t)
theorem find_cases (s : List Slot) (t : ByteArray) : (idx (fun o : Slot => o.text.toList == t.toList) s = -1 ∧ ∀ (j : Nat) (y : Slot), s[j]? = some y → y.text ≠ t) ∨
  ∃ (m : Nat) (x : Slot), idx (fun o : Slot => o.text.toList == t.toList) s = m ∧ s[m]? = some x ∧ x.text = t := by
 have hb := idx_bd (fun o : Slot => o.text.toList == t.toList) s
 by_cases h : 0 ≤ idx (fun o : Slot => o.text.toList == t.toList) s
 ·obtain ⟨x, hx, ht⟩ := idx_get h
  exact .inr ⟨_, x, by omega, hx, textB.1 ht⟩
 ·refine .inl ⟨by omega, fun j y hy he => h (hb.2.2.2 ?_)⟩
  rw [List.any_eq_true]
  exact ⟨y, List.mem_of_getElem? hy, textB.2 he⟩
theorem putAt_cases {s : List Slot} (h : StoreP s) {t : ByteArray} (ht : t ≠ e0) : PutAt s t (putAt s t) ∧ putAt2 s t = putAt s t := by
 rcases find_cases s t with ⟨hi, hn⟩ | ⟨m, x, hi, hx, he⟩
 ·have e1 : putAt s t = probe s 8 (placeOf t) := by unfold putAt; rw [if_pos hi]
  have e2 : scanS s t = (probe s 8 (placeOf t), false) := by unfold scanS; rw [scan_miss hn h.len 8 _ 0 placeOf_bd.1 placeOf_bd.2]; simp
  by_cases h0 : probe s 8 (placeOf t) = 0
  ·refine ⟨.no (by rw [e1, h0]), ?_⟩
   unfold putAt2; rw [e2]; simp [h0, e1]
  ·obtain ⟨m, x, e3, hx, hu⟩ := probe_free h.len 8 _ placeOf_bd.1 placeOf_bd.2 h0
   refine ⟨.fresh m x (by rw [e1, e3]) hx hu hn, ?_⟩
   unfold putAt2
   rw [e2, e1, e3]
   simp only [show ((m : Int) + 1 - 1).toNat = m by omega, getD_of hx, hu]
   rw [if_neg (by omega)]
 ·have hok := h.ok m x hx
  have e2 : scanS s t = ((m : Int) + 1, true) := by
   unfold scanS
   have hm : m < 8 := by have := ltQ hx; rw [h.len] at this; exact this
   have hp := placeOf_bd (s := t)
   refine scan_hit hx he (fun j y hy hyt => h.uniq j m y x hy hx (hyt.trans he.symm) (hyt ▸ ht)) h.len 8 (((m : Int) + 1 - placeOf t) % 8).toNat _ 0 hp.1 hp.2 (by omega) ?_
   unfold goRound; omega
  have e1 : putAt s t = if x.uses = 99 then 0 else (m : Int) + 1 := by
   unfold putAt; rw [if_neg (by omega), hi, Int.toNat_natCast, getD_of hx]
  have e3 : putAt2 s t = if x.uses = 99 then 0 else (m : Int) + 1 := by
   unfold putAt2
   rw [e2]
   simp only [show ((m : Int) + 1 - 1).toNat = m by omega, getD_of hx]
   by_cases h9 : x.uses = 99
   ·rw [if_pos (by omega), if_pos h9]
   ·rw [if_neg (by omega), if_neg h9]
  refine ⟨?_, e3.trans e1.symm⟩
  by_cases h9 : x.uses = 99
  ·exact .no (by rw [e1, if_pos h9])
  ·exact .old m x (by rw [e1, if_neg h9]) hx he (by omega)
theorem StoreP.more {s : List Slot} (h : StoreP s) {t : ByteArray} (ht : t ≠ e0) (hk : tOk t = true) {r : Int} (hr : PutAt s t r) : StoreP (moreS s t r) := by
 unfold moreS
 cases hr with
 | no h0 => rw [if_pos h0]; exact h
 | old m x e hx he hu =>
  have hok := h.ok m x hx
  rw [if_neg (by omega), e, show ((m : Int) + 1 - 1).toNat = m by omega, getD_of hx]
  refine h.set hx ⟨hk, by simp; omega, by simp; omega, ?_⟩ (.inr (.inl he.symm))
  constructor
  ·intro h5; exact absurd h5 ht
  ·intro h5; simp at h5; omega
 | fresh m x e hx hu hn =>
  rw [if_neg (by omega), e, show ((m : Int) + 1 - 1).toNat = m by omega, getD_of hx, hu]
  refine h.set hx ⟨hk, by simp, by simp, ?_⟩ (.inr (.inr hn))
  constructor
  ·intro h5; exact absurd h5 ht
  ·intro h5; simp at h5
def SortV (vs : List Vol) : Prop := ∀ (i j : Nat) (x y : Vol), i < j → vs[i]? = some x → vs[j]? = some y → nmN x.name < nmN y.name
structure VolsP (vs : List Vol) : Prop where
  v : ∀ (m : Nat) (x : Vol), vs[m]? = some x → volOk x = true
  sort : SortV vs
theorem VolsP.nm {vs : List Vol} (h : VolsP vs) {m : Nat} {x : Vol} (hx : vs[m]? = some x) : isNm x.name = true := (volOk_parts (h.v m x hx)).2.1
theorem VolsP.low {vs : List Vol} (h : VolsP vs) : ∀ (m : Nat) (x : Vol), vs[m]? = some x → 65 + m ≤ nmN x.name := by
 intro m
 induction m with
 | zero => intro x hx; exact (nm_bd (h.nm hx)).1
 | succ m ih =>
  intro x hx
  obtain ⟨y, hy⟩ := getQ (show m < vs.length by have := ltQ hx; omega)
  have h1 := ih y hy
  have h2 := h.sort m (m + 1) y x (by omega) hy hx
  omega
theorem VolsP.len {vs : List Vol} (h : VolsP vs) : vs.length ≤ 4 := by
 by_cases hl : vs.length ≤ 4
 ·exact hl
 ·obtain ⟨x, hx⟩ := getQ (show 4 < vs.length by omega)
  have h1 := h.low 4 x hx
  have h2 := (nm_bd (h.nm hx)).2
  omega
theorem VolsP.uniq {vs : List Vol} (h : VolsP vs) {i j : Nat} {x y : Vol} (hx : vs[i]? = some x) (hy : vs[j]? = some y) (he : x.name = y.name) : i = j := by
 rcases Nat.lt_trichotomy i j with h1 | h1 | h1
 ·have := h.sort i j x y h1 hx hy; rw [he] at this; omega
 ·exact h1
 ·have := h.sort j i y x h1 hy hx; rw [he] at this; omega
structure PoolP (p : Pool) : Prop where
  s : StoreP p.slots
  v : VolsP p.vols
  uses : ∀ (m : Nat) (x : Slot), p.slots[m]? = some x → x.uses = uses (m + 1) p.vols
theorem volsOk_iff {vs : List Vol} : (allN (volsAt vs) vs.length = true) ↔ VolsP vs := by
 rw [allN_iff]
 have key : ∀ i x, vs[i]? = some x → (volsAt vs i = true ↔ volOk x = true ∧ (0 < i → Op.bytesLess (vs.getD (i - 1) Vol.z).name.toList x.name.toList = true)) := by
  intro i x hx
  unfold volsAt
  rw [getD_of hx]
  simp
  intro _
  by_cases h0 : i = 0
  ·subst h0; simp
  ·simp [Nat.pos_of_ne_zero h0]
   exact fun h => absurd h h0
 constructor
 ·intro h
  have hv : ∀ (m : Nat) (x : Vol), vs[m]? = some x → volOk x = true := fun m x hx => ((key m x hx).1 (h m (ltQ hx))).1
  have hs : ∀ (d i : Nat) (x y : Vol), vs[i]? = some x → vs[i + d + 1]? = some y → nmN x.name < nmN y.name := by
   intro d
   induction d with
   | zero =>
    intro i x y hx hy
    have h1 := ((key _ y hy).1 (h _ (ltQ hy))).2 (by omega)
    rw [show i + 0 + 1 - 1 = i by omega, getD_of hx, nm_lt (volOk_parts (hv _ _ hx)).2.1 (volOk_parts (hv _ _ hy)).2.1] at h1
    simpa using h1
   | succ d ih =>
    intro i x y hx hy
    obtain ⟨z, hz⟩ := getQ (show i + d + 1 < vs.length by have := ltQ hy; omega)
    have h1 := ((key _ y hy).1 (h _ (ltQ hy))).2 (by omega)
    rw [show i + (d + 1) + 1 - 1 = i + d + 1 by omega, getD_of hz, nm_lt (volOk_parts (hv _ _ hz)).2.1 (volOk_parts (hv _ _ hy)).2.1] at h1
    have h2 := ih i x z hx hz
    simp at h1; omega
  exact ⟨hv, fun i j x y hij hx hy => hs (j - i - 1) i x y hx (by rw [show i + (j - i - 1) + 1 = j by omega]; exact hy)⟩
 ·intro h i hi
  obtain ⟨x, hx⟩ := getQ hi
  refine (key i x hx).2 ⟨h.v i x hx, fun h0 => ?_⟩
  obtain ⟨y, hy⟩ := getQ (show i - 1 < vs.length by omega)
  rw [getD_of hy, nm_lt (h.nm hy) (h.nm hx)]
  simpa using h.sort (i - 1) i y x (by omega) hy hx
theorem poolOk_iff {p : Pool} : poolOk p = true ↔ PoolP p := by
 unfold poolOk
 rw [Bool.and_eq_true, Bool.and_eq_true, Bool.and_eq_true, storeOk_iff, volsOk_iff, decide_eq_true_eq, allN_iff]
 constructor
 ·rintro ⟨⟨⟨h1, h2⟩, h3⟩, h4⟩
  refine ⟨h1, h3, fun m x hx => ?_⟩
  have := h4 m (by have := ltQ hx; rwa [h1.len] at this)
  unfold usesAt at this; rw [getD_of hx] at this
  simpa using this
 ·rintro ⟨h1, h2, h3⟩
  refine ⟨⟨⟨h1, h2.len⟩, h2⟩, fun m hm => ?_⟩
  obtain ⟨x, hx⟩ := getQ (show m < p.slots.length by rw [h1.len]; exact hm)
  unfold usesAt; rw [getD_of hx]
  simpa using h3 m x hx
theorem uses_append (p : Int) (xs ys : List Vol) : uses p (xs ++ ys) = uses p xs + uses p ys := by
 induction xs with
 | nil => simp [uses]
 | cons a xs ih => simp only [List.cons_append, uses, ih]; omega
theorem uses_insAt (p : Int) (vs : List Vol) (x : Vol) (i : Nat) : uses p (insAt i x vs) = uses p vs + cnt p x.blocks := by
 unfold insAt
 rw [uses_append, uses]
 have := uses_append p (vs.take i) (vs.drop i)
 rw [List.take_append_drop] at this
 omega
theorem uses_erase {p : Int} {vs : List Vol} {x : Vol} {i : Nat} (hx : vs[i]? = some x) : uses p (vs.eraseIdx i) = uses p vs - cnt p x.blocks := by
 induction vs generalizing i with
 | nil => simp at hx
 | cons a vs ih =>
  cases i with
  | zero => simp at hx; subst hx; simp [uses]; omega
  | succ i => simp at hx; simp only [List.eraseIdx_cons_succ, uses, ih hx]; omega
theorem uses_set {p : Int} {vs : List Vol} {x y : Vol} {i : Nat} (hx : vs[i]? = some x) : uses p (vs.set i y) = uses p vs - cnt p x.blocks + cnt p y.blocks := by
 induction vs generalizing i with
 | nil => simp at hx
 | cons a vs ih =>
  cases i with
  | zero => simp at hx; subst hx; simp [uses]; omega
  | succ i => simp at hx; simp only [List.set_cons_succ, uses, ih hx]; omega
theorem cnt_set {p : Int} {bs : List Int} {x y : Int} {i : Nat} (hx : bs[i]? = some x) : cnt p (bs.set i y) = cnt p bs - (if x = p then 1 else 0) + (if y = p then 1 else 0) := by
 induction bs generalizing i with
 | nil => simp at hx
 | cons a bs ih =>
  cases i with
  | zero => simp at hx; subst hx; simp [cnt]; omega
  | succ i => simp at hx; simp only [List.set_cons_succ, cnt, ih hx]; omega
theorem uses_nonneg (p : Int) (vs : List Vol) : 0 ≤ uses p vs := by
 induction vs with
 | nil => simp [uses]
 | cons a vs ih => have := cnt_le p a.blocks; simp only [uses]; omega
theorem uses_mem {p : Int} {vs : List Vol} {x : Vol} {i : Nat} (hx : vs[i]? = some x) : cnt p x.blocks ≤ uses p vs := by
 have h1 := uses_erase (p := p) hx
 have h2 := uses_nonneg p (vs.eraseIdx i)
 omega
theorem cnt_pos {p : Int} {bs : List Int} (h : p ∈ bs) : 1 ≤ cnt p bs := by
 induction bs with
 | nil => simp at h
 | cons a bs ih =>
  have := cnt_le p bs
  simp only [cnt]
  rcases List.mem_cons.1 h with h | h
  ·rw [if_pos h.symm]; omega
  ·have := ih h; split <;> omega
theorem uses_bd {p : Int} {vs : List Vol} (h : ∀ x ∈ vs, volOk x = true) : uses p vs ≤ 6 * vs.length := by
 induction vs with
 | nil => simp [uses]
 | cons a vs ih =>
  have h1 := ih (fun x hx => h x (List.mem_cons_of_mem _ hx))
  have h2 := (volOk_parts (h a List.mem_cons_self)).2.2.2
  have h3 := cnt_le p a.blocks
  simp only [uses, List.length_cons]; omega
theorem VolsP.uses_le {vs : List Vol} (h : VolsP vs) (p : Int) : uses p vs ≤ 24 := by
 have h1 := uses_bd (p := p) (vs := vs) (fun x hx => by obtain ⟨m, hm⟩ := List.getElem?_of_mem hx; exact h.v m x hm)
 have h2 := h.len
 omega
def posOf (t : ByteArray) : List Vol → Nat
 | [] => 0
 | v :: vs => if Op.bytesLess t.toList v.name.toList then 0 else posOf t vs + 1
theorem posOf_le (t : ByteArray) (vs : List Vol) : posOf t vs ≤ vs.length := by
 induction vs with
 | nil => simp [posOf]
 | cons v vs ih => unfold posOf; split <;> simp; omega
theorem posOf_lt {t : ByteArray} {vs : List Vol} {m : Nat} {x : Vol} (hm : m < posOf t vs) (hx : vs[m]? = some x) : Op.bytesLess t.toList x.name.toList = false := by
 induction vs generalizing m with
 | nil => simp at hx
 | cons v vs ih =>
  unfold posOf at hm
  split at hm
  ·omega
  ·rename_i h
   cases m with
   | zero => simp at hx; subst hx; simpa using h
   | succ m => exact ih (m := m) (by omega) (by simpa using hx)
theorem posOf_at {t : ByteArray} {vs : List Vol} {x : Vol} (hx : vs[posOf t vs]? = some x) : Op.bytesLess t.toList x.name.toList = true := by
 induction vs with
 | nil => simp at hx
 | cons v vs ih =>
  unfold posOf at hx
  split at hx
  ·rename_i h; simp at hx; subst hx; exact h
  ·exact ih (by simpa using hx)
theorem volIdx_no {vs : List Vol} {t : ByteArray} : volIdx vs t < 0 ↔ ∀ (m : Nat) (x : Vol), vs[m]? = some x → x.name ≠ t := by
 have hb := idx_bd (fun v : Vol => v.name.toList == t.toList) vs
 have hv : volIdx vs t = idx (fun v : Vol => v.name.toList == t.toList) vs := rfl
 rw [hv]
 constructor
 ·intro h m x hx he
  have : vs.any (fun v : Vol => v.name.toList == t.toList) = true := by rw [List.any_eq_true]; exact ⟨x, List.mem_of_getElem? hx, textB.2 he⟩
  have := hb.2.2.2 this
  omega
 ·intro h
  by_cases h0 : 0 ≤ idx (fun v : Vol => v.name.toList == t.toList) vs
  ·obtain ⟨x, hx, hf⟩ := idx_get h0
   exact absurd (textB.1 hf) (h _ x hx)
  ·omega
theorem volIdx_yes {vs : List Vol} {t : ByteArray} (h : ¬ volIdx vs t < 0) : ∃ (m : Nat) (x : Vol), volIdx vs t = m ∧ vs[m]? = some x ∧ x.name = t := by
 have h0 : 0 ≤ idx (fun v : Vol => v.name.toList == t.toList) vs := by have : volIdx vs t = idx (fun v : Vol => v.name.toList == t.toList) vs := rfl; omega
 obtain ⟨x, hx, hf⟩ := idx_get h0
 exact ⟨_, x, (Int.toNat_of_nonneg h0).symm, hx, textB.1 hf⟩
theorem VolsP.idx {vs : List Vol} (h : VolsP vs) {m : Nat} {x : Vol} (hx : vs[m]? = some x) : volIdx vs x.name = m := by
 by_cases h0 : volIdx vs x.name < 0
 ·exact absurd rfl (volIdx_no.1 h0 m x hx)
 ·obtain ⟨k, y, e, hy, hn⟩ := volIdx_yes h0
  rw [e, h.uniq hx hy hn.symm]
theorem VolsP.pos {vs : List Vol} (h : VolsP vs) {t : ByteArray} (ht : isNm t = true) (hn : volIdx vs t < 0) (m : Nat) (x : Vol) (hx : vs[m]? = some x) : m < posOf t vs ↔ nmN x.name < nmN t := by
 have hne : nmN x.name ≠ nmN t := fun e => volIdx_no.1 hn m x hx ((nm_eq (h.nm hx) ht).2 e)
 constructor
 ·intro hm
  have := posOf_lt hm hx
  rw [nm_lt ht (h.nm hx)] at this
  simp at this; omega
 ·intro hm
  by_cases h1 : m < posOf t vs
  ·exact h1
  ·exfalso
   obtain ⟨y, hy⟩ := getQ (show posOf t vs < vs.length by have := ltQ hx; omega)
   have h2 := posOf_at hy
   rw [nm_lt ht (h.nm hy)] at h2
   simp at h2
   by_cases h3 : m = posOf t vs
   ·subst h3; obtain rfl := Option.some.inj (hx.symm.trans hy); omega
   ·have := h.sort _ m y x (by omega) hy hx; omega
theorem VolsP.ins {vs : List Vol} (h : VolsP vs) {v : Vol} (hv : volOk v = true) (hn : volIdx vs v.name < 0) : VolsP (insAt (posOf v.name vs) v vs) := by
 have hq := posOf_le v.name vs
 have hnm := (volOk_parts hv).2.1
 have hp := h.pos hnm hn
 have get : ∀ (m : Nat) (x : Vol), (insAt (posOf v.name vs) v vs)[m]? = some x → (m < posOf v.name vs ∧ vs[m]? = some x) ∨ (m = posOf v.name vs ∧ x = v) ∨ (posOf v.name vs < m ∧ vs[m - 1]? = some x) := by
  intro m x hx
  rw [insAt_get hq] at hx
  by_cases h1 : m < posOf v.name vs
  ·rw [if_pos h1] at hx; exact .inl ⟨h1, hx⟩
  ·rw [if_neg h1] at hx
   by_cases h2 : m = posOf v.name vs
   ·rw [if_pos h2] at hx; exact .inr (.inl ⟨h2, (Option.some.inj hx).symm⟩)
   ·rw [if_neg h2] at hx; exact .inr (.inr ⟨by omega, hx⟩)
 have hgt : ∀ (m : Nat) (x : Vol), posOf v.name vs ≤ m → vs[m]? = some x → nmN v.name < nmN x.name := by
  intro m x hm hx
  have h1 := (hp m x hx).2
  have h2 : nmN x.name ≠ nmN v.name := fun e => volIdx_no.1 hn m x hx ((nm_eq (h.nm hx) hnm).2 e)
  by_cases h3 : nmN x.name < nmN v.name
  ·have := h1 h3; omega
  ·omega
 refine ⟨fun m x hx => ?_, fun i j x y hij hx hy => ?_⟩
 ·rcases get m x hx with ⟨_, hx⟩ | ⟨_, rfl⟩ | ⟨_, hx⟩
  ·exact h.v _ _ hx
  ·exact hv
  ·exact h.v _ _ hx
 ·rcases get i x hx with ⟨hi, hx⟩ | ⟨hi, hxv⟩ | ⟨hi, hx⟩ <;> rcases get j y hy with ⟨hj, hy⟩ | ⟨hj, hyv⟩ | ⟨hj, hy⟩
  ·exact h.sort i j x y hij hx hy
  ·rw [hyv]; exact (hp i x hx).1 hi
  ·exact h.sort i (j - 1) x y (by omega) hx hy
  ·omega
  ·omega
  ·rw [hxv]; exact hgt (j - 1) y (by omega) hy
  ·omega
  ·omega
  ·exact h.sort (i - 1) (j - 1) x y (by omega) hx hy
theorem erase_get {α} {xs : List α} {i m : Nat} {x : α} (h : (xs.eraseIdx i)[m]? = some x) : xs[if m < i then m else m + 1]? = some x := by
 rw [List.getElem?_eraseIdx] at h
 split at h
 ·rename_i h1; rwa [if_pos h1]
 ·rename_i h1; rwa [if_neg h1]
theorem VolsP.erase {vs : List Vol} (h : VolsP vs) (i : Nat) : VolsP (vs.eraseIdx i) :=
 ⟨fun m x hx => h.v _ _ (erase_get hx), fun a b x y hab hx hy => h.sort _ _ x y (by split <;> split <;> omega) (erase_get hx) (erase_get hy)⟩
theorem VolsP.set {vs : List Vol} (h : VolsP vs) {i : Nat} {x y : Vol} (hx : vs[i]? = some x) (hn : y.name = x.name) (hy : volOk y = true) : VolsP (vs.set i y) := by
 have get : ∀ (m : Nat) (z : Vol), (vs.set i y)[m]? = some z → (m = i ∧ z = y) ∨ (m ≠ i ∧ vs[m]? = some z) := by
  intro m z hz
  by_cases e : m = i
  ·subst e; rw [List.getElem?_set_self (ltQ hx)] at hz; exact .inl ⟨rfl, (Option.some.inj hz).symm⟩
  ·rw [List.getElem?_set_ne (fun h => e h.symm)] at hz; exact .inr ⟨e, hz⟩
 refine ⟨fun m z hz => ?_, fun a b z u hab hz hu => ?_⟩
 ·rcases get m z hz with ⟨_, rfl⟩ | ⟨_, hz⟩
  ·exact hy
  ·exact h.v _ _ hz
 ·rcases get a z hz with ⟨ha, hzy⟩ | ⟨ha, hz⟩ <;> rcases get b u hu with ⟨hb, huy⟩ | ⟨hb, hu⟩
  ·omega
  ·rw [hzy, hn]; exact h.sort i b x u (by omega) hx hu
  ·rw [huy, hn]; exact h.sort a i z x (by omega) hz hx
  ·exact h.sort a b z u hab hz hu
def goneF (p : Pool) (name : ByteArray) : Option Pool :=
 if volIdx p.vols name < 0 then none else some ⟨dropAll p.slots (volAt p.vols (volIdx p.vols name)).blocks, p.vols.eraseIdx (volIdx p.vols name).toNat⟩
def makeF (p : Pool) (name : ByteArray) (size : Int) : Option Pool :=
 if isNm name = true ∧ volIdx p.vols name < 0 ∧ inR size 1 6 = true then some ⟨p.slots, insAt (posOf name p.vols) ⟨name, List.replicate size.toNat 0⟩ p.vols⟩ else none
def cloneF (p : Pool) (fr dst : ByteArray) : Option Pool :=
 if 0 ≤ volIdx p.vols fr ∧ isNm dst = true ∧ volIdx p.vols dst < 0 then some ⟨incAll p.slots (volAt p.vols (volIdx p.vols fr)).blocks, insAt (posOf dst p.vols) ⟨dst, (volAt p.vols (volIdx p.vols fr)).blocks⟩ p.vols⟩ else none
def setBlk (vs : List Vol) (i : Nat) (b : Nat) (pl : Int) : List Vol := vs.set i ⟨(vs.getD i Vol.z).name, (vs.getD i Vol.z).blocks.set b pl⟩
def backS (p : Pool) (name : ByteArray) (b : Int) : List Slot := dropAll p.slots [placeAt p.vols name b]
def writeF (p : Pool) (name : ByteArray) (b : Int) (text : ByteArray) : Option Pool :=
  if 0 ≤ hasBlk p.vols name b ∧ tOk text = true then
    (if text = e0 then some ⟨backS p name b, setBlk p.vols (volIdx p.vols name).toNat b.toNat 0⟩
     else if putAt (backS p name b) text = 0 then none else some ⟨putS (backS p name b) text, setBlk p.vols (volIdx p.vols name).toNat b.toNat (putAt (backS p name b) text)⟩)
  else none
open Go.RowKit Go.Proofs.YtljfoglilggkjaaGreatW.PrintWords Go.Proofs.YtljfoglilggkjaaGreatW.PrintLast
theorem OwnV.erase {W w1 : World} {base i : Nat} {v v1 : Value} {vs : List Vol} {bvs : List Value} (h : OwnV W base v vs bvs) (hg : W.grownBy w1 v.ownBlock) (hr : VRow w1 base v1 (vs.eraseIdx i) (bvs.eraseIdx i)) : OwnV w1 base v1 (vs.eraseIdx i) (bvs.eraseIdx i) :=
 ⟨hr, fun m x b hx hb => own_other_type (h.inner _ x b (erase_get hx) (erase_get hb)) h.row.row (by decide) hg, fun a c b b' k hne hb hb' => h.apart _ _ b b' k (by split <;> split <;> omega) (erase_get hb) (erase_get hb')⟩
theorem drop_at {p : Pool} (hp : PoolP p) {i : Nat} {v : Vol} (hv : p.vols[i]? = some v) {k m : Nat} (hx : v.blocks[k]? = some ((m : Int) + 1)) : ∃ y, (dropAll p.slots (v.blocks.take k))[m]? = some y ∧ 1 ≤ y.uses ∧ y.uses ≤ 99 := by
 have hr := (volOk_parts (hp.v.v i v hv)).1
 have hr' : ∀ x ∈ v.blocks.take k, 0 ≤ x ∧ x ≤ 8 := fun x hx => hr x (List.mem_of_mem_take hx)
 have hcl : ∀ q : Int, cnt q (v.blocks.take k) ≤ cnt q v.blocks := fun q => by
  have : ∀ (xs : List Int) (k : Nat), cnt q (xs.take k) ≤ cnt q xs := by
   intro xs
   induction xs with
   | nil => intro k; simp
   | cons a xs ih => intro k; cases k with
    | zero => have := cnt_le q (a :: xs); simp [cnt] at this ⊢; exact this.1
    | succ k => have := ih k; simp only [List.take_succ_cons, cnt]; omega
  exact this _ _
 have hc : ∀ (j : Nat) (x : Slot), p.slots[j]? = some x → cnt (j + 1) (v.blocks.take k) ≤ x.uses := fun j x hx => by
  have h1 := hp.uses j x hx
  have h2 := uses_mem (p := (j : Int) + 1) hv
  have := hcl ((j : Int) + 1)
  omega
 obtain ⟨h1, h2⟩ := dropAll_get hp.s hr' hc
 have hm := hr _ (List.mem_of_getElem? hx)
 obtain ⟨x, hxs⟩ := getQ (show m < p.slots.length by rw [hp.s.len]; omega)
 obtain ⟨y, hy, hu, _⟩ := h2 m x hxs
 have h3 := uses_mem (p := (m : Int) + 1) hv
 have h4 := hp.uses m x hxs
 have h5 : cnt ((m : Int) + 1) (v.blocks.take (k + 1)) = cnt ((m : Int) + 1) (v.blocks.take k) + 1 := by rw [take_snoc hx, cnt_snoc, if_pos rfl]
 have h6 : cnt ((m : Int) + 1) (v.blocks.take (k + 1)) ≤ cnt ((m : Int) + 1) v.blocks := by
  have : ∀ (xs : List Int) (k : Nat), cnt ((m : Int) + 1) (xs.take k) ≤ cnt ((m : Int) + 1) xs := by
   intro xs
   induction xs with
   | nil => intro k; simp
   | cons a xs ih => intro k; cases k with
    | zero => have := cnt_le ((m : Int) + 1) (a :: xs); simp [cnt] at this ⊢; exact this.1
    | succ k => have := ih k; simp only [List.take_succ_cons, cnt]; omega
  exact this _ _
 exact ⟨y, hy, by omega, (h1.ok m y hy).2.2.1⟩
theorem goneClo_c {w : World} {A0 A1 : Option Addr} {c0 c1 bp bn : Nat} {p : Pool} {name : ByteArray} (h : PoolIn w A0 A1 c0 c1 p) (hs : SmallP p) (hB : Blk w bp #[.slice A0 p.slots.length c0, .slice A1 p.vols.length c1] 44) (hN : Blk w bn #[.string name] 9) (hok : poolOk p = true)
  (W : World) (b base : Nat) (hW : Bel w W) (hb1 : w.heap.size ≤ base) (hb2 : base ≤ W.heap.size) (hpv : PV W b base p) :
  Calls Tryz.prog 150 #[.pointer (some ⟨b, 0, none⟩), .pointer (some ⟨bp, 0, none⟩), .pointer (some ⟨bn, 0, none⟩)] W (Changes (goneF p name) b base W) := by
 have HS := Lib.hid hs
 have HP := Lib.hid h
 have HK := Lib.hid (poolOk_iff.1 hok)
 have HV := Lib.hid hpv
 have HW := Lib.hid hW
 have HB := Lib.hid hB
 have HN := Lib.hid hN
 have q0 := (HB.out.bel HW.out).cell 0
 have q1 := (HB.out.bel HW.out).cell 1
 have q2 := (HN.out.bel HW.out).cell 0
 simp at q0 q1 q2
 clear h hs hok hpv hW hB hN
 have hlv := HS.out.vols.len
 by_cases hn : volIdx p.vols name < 0
 ·have HG := Lib.hid (show goneF p name = none by unfold goneF; rw [if_pos hn])
  go_enter Tryz.func150, Tryz.ntmps150
  go_wp2_with (go_at_call 143; refine (vol_c _ p.vols A1 c1 name _ (HP.out.bel HW.out).v hlv).mono ?_; rintro e w1 ⟨rfl, hb1⟩)
  go_ret
  rw [HG.out]
  exact ⟨rfl, ⟨p, HV.out.bel hb1, fun q' h => by cases h⟩, hb1.mono hb2⟩
 ·obtain ⟨i, v, hi, hv, hvn⟩ := volIdx_yes hn
  have HG := Lib.hid (show goneF p name = some ⟨dropAll p.slots v.blocks, p.vols.eraseIdx i⟩ by unfold goneF; rw [if_neg hn, hi, Int.toNat_natCast]; unfold volAt; rw [Int.toNat_natCast, getD_of hv])
  have HI := Lib.hid hv
  have hil := ltQ hv
  clear hn hvn hv
  have hin : ¬ ((i : Int) < 0) := by omega
  go_enter Tryz.func150, Tryz.ntmps150
  go_wp2_with fail
  refine (vol_c _ p.vols A1 c1 name _ (HP.out.bel HW.out).v hlv).mono ?_
  rintro e w1 ⟨rfl, hb1⟩
  rw [hi]
  have hW1 := HW.out.tr hb1
  obtain ⟨ad, A2, n2, rfl, hc0, hc0', hn2, hC⟩ := at_vol HP.out.v HI.out
  have hc := (hW1.cell (World.block_lt_of_cell? w _ hc0)).trans hc0
  have hc' := (hW1.cell (World.block_lt_of_cell? w _ hc0')).trans hc0'
  clear hc0 hc0'
  have hx1 : v.blocks.length ≤ 1048576 := HS.out.vols.blocks v (List.mem_of_getElem? HI.out)
  have HW1 := Lib.hid hW1
  have HB1 := Lib.hid hb1
  have HC := Lib.hid hC
  clear q0 q1 q2 hW1 hb1 hC
  have q1 := (HB.out.bel HW1.out).cell 1
  simp at q1
  go_wp2
  obtain ⟨⟨v0, v1, bvs, hb, ho⟩, hlo⟩ := HV.out.bel HB1.out
  have HO := Lib.hid (And.intro hb ho)
  clear hb ho q1
  go_loopg [20] v.blocks.length (fun g v20 W' => ∃ k : Nat, g + k = v.blocks.length ∧ v20 = .int .i64 k ∧ Blk W' b #[v0, v1] 44 ∧ OwnS W' base v0 (dropAll p.slots (v.blocks.take k)) ∧ OwnV W' base v1 p.vols bvs ∧ Below base w1 W')
  case atStart => exact ⟨0, rfl, rfl, HO.out.1, HO.out.2.s, HO.out.2.v, Below.refl _ _⟩
  case round =>
   obtain ⟨k, hk, rfl, hb, hos, hov, hbel⟩ := hrel
   have hWw : Bel w wr := HW1.out.trans (hbel.mono hb1)
   by_cases hlt : k < v.blocks.length
   ·obtain ⟨x, hx⟩ := getQ hlt
    have hxr := (volOk_parts (HK.out.v.v i v HI.out)).1 x (List.mem_of_getElem? hx)
    obtain ⟨ad2, rfl, hcx⟩ := at_int (Kd.C_below HC.out hWw) hx
    have r0 := hb.cell 0
    simp at r0
    have HR := Lib.hid (And.intro (And.intro hb hos) (And.intro hov (And.intro hbel hWw)))
    clear hb hov hbel hWw hc hc'
    by_cases h0 : 0 < x
    ·obtain ⟨m, rfl⟩ : ∃ m : Nat, x = (m : Int) + 1 := ⟨(x - 1).toNat, by omega⟩
     obtain ⟨y, hy, hy1, hy2⟩ := drop_at HK.out HI.out hx
     have HT := Lib.hid (show dropAll p.slots (v.blocks.take (k + 1)) = dropS (dropAll p.slots (v.blocks.take k)) m by rw [take_snoc hx, dropAll_snoc, if_pos h0]; congr 1; omega)
     have hdl : (dropAll p.slots (v.blocks.take k)).length ≤ 1048576 := by rw [dropAll_len]; exact HS.out.slots.len
     have HY := Lib.hid hy
     have HD := Lib.hid hdl
     obtain ⟨A3, c3, rfl, hc3, hC3⟩ := hos.reads
     clear hx hy hdl hos hC3 hc3
     go_wp2_with (go_at_call 147; refine (drop_c HR.out.1.2 HY.out HD.out hy1 hy2).mono ?_; rintro e w2 ⟨rfl, ho2, hg2⟩)
     go_roundg (v.blocks.length - (k + 1))
     case rel =>
      obtain ⟨⟨hb, hos⟩, hov, hbel, hWw⟩ := HR.out
      refine ⟨k + 1, by omega, int_eq (by omega), hb.grown hg2 (own_blk_ne hos hb (by decide)), ?_, hov.otherS hos hg2, hbel.grown hg2 (by have := hb.lt; omega) (own_base hos)⟩
      rw [HT.out]
      exact ho2
     case measure => omega
    ·have HT := Lib.hid (show dropAll p.slots (v.blocks.take (k + 1)) = dropAll p.slots (v.blocks.take k) by rw [take_snoc hx, dropAll_snoc, if_neg h0])
     clear hx hos
     go_wp2
     go_roundg (v.blocks.length - (k + 1))
     case rel =>
      obtain ⟨⟨hb, hos⟩, hov, hbel, hWw⟩ := HR.out
      exact ⟨k + 1, by omega, int_eq (by omega), hb, by rw [HT.out]; exact hos, hov, hbel⟩
     case measure => omega
   ·have hkl : k = v.blocks.length := by omega
    rw [hkl, List.take_length] at hos
    obtain ⟨g, cap, rfl, hg1, hg2, hcap⟩ := own_form hov.row.row (by omega)
    have r1 := hb.cell 1
    have f1 := hb.free 1
    simp at r1
    have HR := Lib.hid (And.intro (And.intro hb hos) (And.intro hov (And.intro hbel hWw)))
    clear hos hov hb hbel hWw
    go_wp2_with fail
    refine (delete_c HR.out.2.1.row HR.out.2.1.one hil).mono ?_
    rintro e w2 ⟨rfl, hr2, hg2⟩
    have hb2' : Blk w2 b #[v0, .slice (some ⟨g, 0, none⟩) p.vols.length cap] 44 := HR.out.1.1.grown hg2 (own_blk_ne HR.out.2.1.row.row HR.out.1.1 (by decide))
    have hos2 : OwnS w2 base v0 (dropAll p.slots v.blocks) := own_other_type HR.out.1.2 HR.out.2.1.row.row (by decide) hg2
    have hov2 := HR.out.2.1.erase hg2 hr2
    have hbel2 : Below base w1 w2 := HR.out.2.2.1.grown hg2 (by have := HR.out.1.1.lt; omega) (fun k hk => by cases hk; exact hg1)
    have r1 := hb2'.cell 1
    have f1 := hb2'.free 1
    simp at r1
    have HQ := Lib.hid (And.intro (And.intro hb2' hos2) (And.intro hov2 hbel2))
    clear hb2' hos2 hov2 hbel2 hr2 hg2
    go_wp2
    go_ret
    rw [HG.out]
    have hb3 := HQ.out.1.1.set 1 (.slice (some ⟨g, 0, none⟩) (p.vols.length - 1) cap) (cs' := #[v0, .slice (some ⟨g, 0, none⟩) (p.vols.length - 1) cap]) rfl
    refine ⟨rfl, ⟨⟨dropAll p.slots v.blocks, p.vols.eraseIdx i⟩, ⟨⟨_, _, _, hb3, HQ.out.1.2.far HQ.out.1.1 (by decide) _ _, HQ.out.2.1.far HQ.out.1.1 (by decide) (by decide) _ _⟩, hlo⟩, fun q' h => by cases h; rfl⟩, ?_⟩
    exact ((HB1.out.mono hb2).trans HQ.out.2.2).setCell hlo _
theorem Blk.at (w : World) (o : Obj) (cs : Array Value) (t : TypeId) (h : o = .cells cs t (0, 0)) : Blk (w.alloc o) w.heap.size cs t := h ▸ Blk.new w cs t
theorem enters {f : FuncId} {fn : Func} (hf : Tryz.prog.funcs[f]? = some fn) (hname : (fn.name == "runtime.NumGoroutine") = false) (hb : fn.body.isSome = true) (args : Array Value) (w : World) : (callFunc f args).run Tryz.prog w = .ok (.enter f args) w := enters_ hf hname hb args w
theorem implPoolGone_c {w : World} {A0 A1 : Option Addr} {c0 c1 : Nat} {p : Pool} {name : ByteArray} (h : PoolIn w A0 A1 c0 c1 p) (hs : SmallP p) :
  Calls Tryz.prog 129 #[.agg #[.slice A0 p.slots.length c0, .slice A1 p.vols.length c1], .string name] w (MadePB w (chP p (goneF p name)) (chB p (goneF p name))) := by
 have HS := Lib.hid hs
 have HP := Lib.hid h
 clear h hs
 go_enter Tryz.func129, Tryz.ntmps129
 go_wp2_with fail
 have hB : Blk (((w.alloc (.cells #[.slice A0 p.slots.length c0, .slice A1 p.vols.length c1] 44)).alloc (.cells #[.string name] 9)).alloc (.cells #[.slice none 0 0, .slice none 0 0] 44)) w.heap.size #[.slice A0 p.slots.length c0, .slice A1 p.vols.length c1] 44 := ((Blk.new _ _ _).alloc _).alloc _
 have hN : Blk (((w.alloc (.cells #[.slice A0 p.slots.length c0, .slice A1 p.vols.length c1] 44)).alloc (.cells #[.string name] 9)).alloc (.cells #[.slice none 0 0, .slice none 0 0] 44)) (w.heap.size + 1) #[.string name] 9 := (Blk.nw2 _ _ _ _).alloc _
 have hR : Blk (((w.alloc (.cells #[.slice A0 p.slots.length c0, .slice A1 p.vols.length c1] 44)).alloc (.cells #[.string name] 9)).alloc (.cells #[.slice none 0 0, .slice none 0 0] 44)) (w.heap.size + 1 + 1) #[.slice none 0 0, .slice none 0 0] 44 := by
  have := Blk.new ((w.alloc (.cells #[.slice A0 p.slots.length c0, .slice A1 p.vols.length c1] 44)).alloc (.cells #[.string name] 9)) #[.slice none 0 0, .slice none 0 0] 44
  simpa using this
 have hW : Bel w (((w.alloc (.cells #[.slice A0 p.slots.length c0, .slice A1 p.vols.length c1] 44)).alloc (.cells #[.string name] 9)).alloc (.cells #[.slice none 0 0, .slice none 0 0] 44)) := bel_alloc (bel_alloc (bel_alloc (Below.refl _ _) _) _) _
 generalize (((w.alloc (.cells #[.slice A0 p.slots.length c0, .slice A1 p.vols.length c1] 44)).alloc (.cells #[.string name] 9)).alloc (.cells #[.slice none 0 0, .slice none 0 0] 44)) = W0 at hB hN hR hW ⊢
 have HB := Lib.hid hB
 have HN := Lib.hid hN
 have HR := Lib.hid hR
 have HW := Lib.hid hW
 clear hB hN hR hW
 refine (changed_c (HP.out.bel HW.out) HS.out 150 #[.pointer (some ⟨w.heap.size, 0, none⟩), .pointer (some ⟨w.heap.size + 1, 0, none⟩)] (goneF p name) (enters Tryz.func150 (by kernel_rfl) (by kernel_rfl))
  (fun hok W b base h1 h2 h3 h4 => goneClo_c (HP.out.bel HW.out) HS.out HB.out HN.out hok W b base h1 h2 h3 h4)).mono ?_
 rintro e w1 ⟨v0, v1, bvs, rfl, ho, hb1⟩
 obtain ⟨q, hq⟩ : ∃ q, chP p (goneF p name) = q := ⟨_, rfl⟩
 obtain ⟨ok, hok⟩ : ∃ ok, chB p (goneF p name) = ok := ⟨_, rfl⟩
 rw [hq] at ho
 rw [hok]
 have HQ := Lib.hid hq
 have HK := Lib.hid hok
 clear hq hok
 have HO := Lib.hid ho
 have HB1 := Lib.hid hb1
 have r0 := (HR.out.bel HB1.out).cell 0
 have r1 := (HR.out.bel HB1.out).cell 1
 have f0 := (HR.out.bel HB1.out).free 0
 have f1 := (HR.out.bel HB1.out).free 1
 simp at r0 r1
 clear ho hb1
 obtain ⟨A2, A3, c2, c3, rfl, rfl, hpi⟩ := HO.out.reads
 clear hpi
 go_wp2
 have hR2 := HR.out.bel HB1.out
 have hR3 := hR2.set 0 (.slice A2 q.slots.length c2) (cs' := #[.slice A2 q.slots.length c2, .slice none 0 0]) rfl
 have hR4 := hR3.set 1 (.slice A3 q.vols.length c3) (cs' := #[.slice A2 q.slots.length c2, .slice A3 q.vols.length c3]) rfl
 have hb5 := bel_set (bel_set (HW.out.tr HB1.out) (show w.heap.size ≤ w.heap.size + 1 + 1 by omega) 0 (.slice A2 q.slots.length c2)) (show w.heap.size ≤ w.heap.size + 1 + 1 by omega) 1 (.slice A3 q.vols.length c3)
 have hop4 := (HO.out.far hR2 (by decide) (by decide) (by decide) 0 (.slice A2 q.slots.length c2)).far hR3 (by decide) (by decide) (by decide) 1 (.slice A3 q.vols.length c3)
 refine bodyPost_ret (results_ct rfl _ _ (w.heap.size + 1 + 1) 44 #[.slice A2 q.slots.length c2, .slice A3 q.vols.length c3] (0, 0) _ rfl hR4 Tryz.underlying44 rfl (by kernel_rfl)) rfl ?_
 rw [HQ.out, HK.out]
 exact ⟨_, _, _, rfl, hop4.lower HW.out.size, hb5⟩
theorem step_append_own {P : Program} {ops : Array Oper} {o : Oper} {a : Act} {Q : Exit → Act → World → Prop} {Kc : Act → World → Prop} {W : World} (base : Nat) (hw : Region.wanted o (yielded ops a.tmps) = true) (s x : Operand) (t e : TypeId) (z : Value) (size bytes : Nat)
  (ho : o.op = .call { callee := .builtin .append, args := #[s, x], argTypes := #[t, t] })
  (ht : P.underlying t = some (.slice e)) (hinfo : (P.info? e).map (fun i => (i.zero, i.size, i.bytes)) = some (some z, size, bytes)) (hz : z.cells.size = size) (hs0 : 0 < size) (hb0 : 0 < bytes)
  (v : Value) (n : Nat) (xs : List Value) (A : Option Addr) (m c : Nat) (news : List Value) (hs : a.eval s = v) (hx : a.eval x = .slice A m c) (hm : news.length = m * size)
  (hsrc : 0 < m → ∃ ad, A = some ad ∧ ∀ j u, news[j]? = some u → W.cell? (ad.add j) = some u) (h1 : ∀ u ∈ news, u.oneCell' = true)
  (HO : W.ownsRow base e size v n xs) (hbase : base ≤ W.heap.size) (hl : (n + m) * bytes ≤ 140737488355328)
  (h : ∀ v1 w1, w1.ownsRow base e size v1 (n + m) (xs ++ news) → W.grownBy w1 v.ownBlock → (v1.ownBlock = v.ownBlock ∨ ∃ b, v1.ownBlock = some b ∧ W.heap.size ≤ b) → Kc (a.put o.dst v1) w1) :
  if Region.wanted o (yielded ops a.tmps) = true then Oper.wp P o a W Kc Q else Kc (a.put o.dst undef) W := by
 obtain ⟨i0, hi, hzz⟩ := Option.map_eq_some_iff.1 hinfo
 simp only [Prod.mk.injEq] at hzz
 obtain ⟨hz0, hz1, hz2⟩ := hzz
 have hlen : n + m ≤ 140737488355328 := Nat.le_trans (Nat.le_mul_of_pos_right _ hb0) hl
 have hrun : ∃ v1 w1, (Builtin.append_ #[t, t] o.type #[v, .slice A m c]).run P W = .ok v1 w1 ∧ w1.ownsRow base e size v1 (n + m) (xs ++ news) ∧ W.grownBy w1 v.ownBlock ∧ (v1.ownBlock = v.ownBlock ∨ ∃ b, v1.ownBlock = some b ∧ W.heap.size ≤ b) := by
  rcases A with _ | ad
  ·have h0 : m = 0 := by
    rcases Nat.eq_zero_or_pos m with h0 | h0
    ·exact h0
    ·obtain ⟨ad, h, _⟩ := hsrc h0
     cases h
   subst h0
   obtain rfl : news = [] := List.eq_nil_of_length_eq_zero (by simpa using hm)
   refine ⟨v, W, ?_, by rw [List.append_nil]; exact HO, World.grownBy.refl W _, .inl rfl⟩
   rcases HO.2 with ⟨rfl, hn⟩ | ⟨g, cap, cur, rfl, _, _, hnc, _⟩
   ·simp [Builtin.append_, run_underlying ht, sizeOf, typeInfo, hi, Builtin.lenOf, Builtin.firstCells]
   ·simp [Builtin.append_, run_underlying ht, sizeOf, typeInfo, hi, Builtin.lenOf, Builtin.firstCells, hnc, storeCells]
  ·have hnc : ∀ j u, news[j]? = some u → W.cell? (ad.add j) = some u := by
    intro j u hu
    have hj := ltQ hu
    rcases Nat.eq_zero_or_pos m with h0 | h0
    ·rw [hm, h0] at hj; omega
    ·obtain ⟨ad', e, h⟩ := hsrc h0
     cases e
     exact h j u hu
   obtain ⟨v1, w1, hrun, h2, hg, _, hat⟩ := run_append_own_at (P := P) W base t o.type e i0 z size bytes ht hi hz0 hz1 hz2 hz hs0 v n xs HO ad m c news hm hnc h1 (by simp only [maxLen]; omega) hl hbase
   refine ⟨v1, w1, hrun, h2, hg, ?_⟩
   rcases hat with hat | hat
   ·exact .inl hat
   ·exact .inr ⟨_, hat, Nat.le_refl _⟩
 obtain ⟨v1, w1, hr1, h2, hg, hat⟩ := hrun
 rw [if_pos hw]
 unfold Oper.wp execOp
 simp only [ho, resolve, invoke, builtin, Sem.run_bind, Sem.run_pure, Result.andThen_ok, List.map_toArray, List.map_cons, List.map_nil, hs, hx, hr1]
 exact h v1 w1 h2 hg hat
theorem own_slice_eq {g g' n n' c c' : Nat} (h : Value.slice (some ⟨g, 0, none⟩) n c = Value.slice (some ⟨g', 0, none⟩) n' c') : g = g' ∧ n = n' ∧ c = c' := by simpa using h
theorem slice_eq {A A' : Option Addr} {n n' c c' : Nat} (h : Value.slice A n c = Value.slice A' n' c') : A = A' ∧ n = n' ∧ c = c' := by simpa using h
theorem ar_gone {i n : Nat} (h : i < n) : 0 + i + (n - (i + 1)) = n - 1 := by omega
theorem ar_if {i a c : Nat} (h : a ≠ c) : (if a < i then a else a + 1) ≠ (if c < i then c else c + 1) := by split <;> split <;> omega
structure Fr (base : Nat) (w W : World) : Prop where
  b : Below base w W
  k : ∀ (g : Nat) (cs : Array Value) (t : TypeId), 90 ≠ t → 84 ≠ t → 3 ≠ t → Blk w g cs t → Blk W g cs t
theorem Fr.ofBel {base : Nat} {w W : World} (h : Bel w W) (hb : base ≤ w.heap.size) : Fr base w W := ⟨h.mono hb, fun g cs t _ _ _ hB => hB.bel h⟩
theorem Fr.bel {base : Nat} {w W W' : World} (h : Fr base w W) (hb : Bel W W') (hbase : base ≤ w.heap.size) : Fr base w W' := ⟨h.b.trans (hb.mono (Nat.le_trans hbase h.b.size)), fun g cs t h1 h2 h3 hB => (h.k g cs t h1 h2 h3 hB).bel hb⟩
theorem Fr.set {base : Nat} {w W : World} (h : Fr base w W) {b : Nat} (hb : w.heap.size ≤ b) (hbase : base ≤ w.heap.size) (i : Nat) (u : Value) : Fr base w (W.setCell ⟨b, i, none⟩ u) :=
 ⟨h.b.setCell (p := ⟨b, i, none⟩) (Nat.le_trans hbase hb) u, fun g cs t h1 h2 h3 hB => (h.k g cs t h1 h2 h3 hB).apart (by have := hB.lt; omega) i u⟩
theorem Fr.drew {base : Nat} {w W : World} (h : Fr base w W) : Fr base w W.drew := ⟨h.b.drew, fun g cs t h1 h2 h3 hB => (h.k g cs t h1 h2 h3 hB).bel (Below.refl _ _).drew⟩
theorem Fr.slots {base : Nat} {w W W' : World} (h : Fr base w W) {v : Value} {s : List Slot} (hos : OwnS W base v s) (hg : W.grownBy W' v.ownBlock) (hbase : base ≤ w.heap.size) : Fr base w W' :=
 ⟨h.b.grown hg (Nat.le_trans hbase h.b.size) (own_base hos), fun g cs t h1 h2 h3 hB => (h.k g cs t h1 h2 h3 hB).grown hg (own_blk_ne hos (h.k g cs t h1 h2 h3 hB) h1)⟩
def TurnsP (base : Nat) (p : Pool) (r : Option Pool) (w : World) (e : Ending) (w' : World) : Prop := ∃ v0 v1 bvs, e = .returned (.tuple #[.agg #[v0, v1], .bool r.isSome]) ∧ OwnP w' base v0 v1 (r.getD p) bvs ∧ Fr base w w'
theorem l11Gone_c {w : World} {base : Nat} {v0 v1 : Value} {bvs : List Value} {p : Pool} {name : ByteArray} (h : OwnP w base v0 v1 p bvs) (hs : SmallP p) (hp : PoolP p) (hbase : base ≤ w.heap.size) :
  Calls Tryz.prog 117 #[.agg #[v0, v1], .string name] w (TurnsP base p (goneF p name) w) := by
 have HS := Lib.hid hs
 have HK := Lib.hid hp
 obtain ⟨A0, A1, c0, c1, rfl, rfl, hpi⟩ := h.reads
 have HP := Lib.hid h
 have HI := Lib.hid hpi
 have hlv := HS.out.vols.len
 clear h hs hp hpi
 go_enter Tryz.func117, Tryz.ntmps117
 go_wp2_with fail
 have hB : Blk ((w.alloc (.cells #[.slice A0 p.slots.length c0, .slice A1 p.vols.length c1] 44)).alloc (.cells #[.slice none 0 0, .slice none 0 0] 44)) w.heap.size #[.slice A0 p.slots.length c0, .slice A1 p.vols.length c1] 44 := (Blk.new _ _ _).alloc _
 have hR : Blk ((w.alloc (.cells #[.slice A0 p.slots.length c0, .slice A1 p.vols.length c1] 44)).alloc (.cells #[.slice none 0 0, .slice none 0 0] 44)) (w.heap.size + 1) #[.slice none 0 0, .slice none 0 0] 44 := Blk.nw2 _ _ _ _
 have hW : Bel w ((w.alloc (.cells #[.slice A0 p.slots.length c0, .slice A1 p.vols.length c1] 44)).alloc (.cells #[.slice none 0 0, .slice none 0 0] 44)) := bel_alloc (bel_alloc (Below.refl _ _) _) _
 generalize ((w.alloc (.cells #[.slice A0 p.slots.length c0, .slice A1 p.vols.length c1] 44)).alloc (.cells #[.slice none 0 0, .slice none 0 0] 44)) = W0 at hB hR hW ⊢
 refine (l11At_c _ p.vols A1 c1 name _ (HI.out.bel hW).v hlv).mono ?_
 rintro e w1 ⟨rfl, hb1⟩
 have HB := Lib.hid (hB.bel hb1)
 have HR := Lib.hid (hR.bel hb1)
 have HW := Lib.hid (hW.tr hb1)
 have HO := Lib.hid (HP.out.bel (hW.tr hb1))
 have q0 := HB.out.cell 0
 have q1 := HB.out.cell 1
 obtain ⟨r0, r1, f0, f1, -⟩ := k2f HR.out
 simp at q0 q1
 clear hB hR hW hb1
 by_cases hn : volIdx p.vols name < 0
 ·have HG := Lib.hid (show goneF p name = none by unfold goneF; rw [if_pos hn])
  go_wp2
  have hR3 := HR.out.set 0 (.slice A0 p.slots.length c0) (cs' := #[.slice A0 p.slots.length c0, .slice none 0 0]) rfl
  have hR4 := hR3.set 1 (.slice A1 p.vols.length c1) (cs' := #[.slice A0 p.slots.length c0, .slice A1 p.vols.length c1]) rfl
  have hb5 := bel_set (bel_set HW.out (Nat.le_succ _) 0 (.slice A0 p.slots.length c0)) (Nat.le_succ _) 1 (.slice A1 p.vols.length c1)
  have hop4 := (HO.out.far HR.out (by decide) (by decide) (by decide) 0 (.slice A0 p.slots.length c0)).far hR3 (by decide) (by decide) (by decide) 1 (.slice A1 p.vols.length c1)
  refine bodyPost_ret (results_ct rfl _ _ (w.heap.size + 1) 44 #[.slice A0 p.slots.length c0, .slice A1 p.vols.length c1] (0, 0) _ rfl hR4 Tryz.underlying44 rfl (by kernel_rfl)) rfl ?_
  rw [HG.out]
  exact ⟨_, _, _, rfl, hop4, Fr.ofBel hb5 hbase⟩
 ·obtain ⟨i, v, hi, hv, hvn⟩ := volIdx_yes hn
  have HG := Lib.hid (show goneF p name = some ⟨dropAll p.slots v.blocks, p.vols.eraseIdx i⟩ by unfold goneF; rw [if_neg hn, hi, Int.toNat_natCast]; unfold volAt; rw [Int.toNat_natCast, getD_of hv])
  have HV := Lib.hid hv
  have hil := ltQ hv
  have hx1 : v.blocks.length ≤ 1048576 := HS.out.vols.blocks v (List.mem_of_getElem? HV.out)
  clear hn hvn hv
  have hin : ¬ ((i : Int) < 0) := by omega
  rw [hi]
  have hbw : base ≤ w.heap.size := hbase
  clear q0 q1 r0 r1 f0 f1
  go_wp2
  go_loopg [7] v.blocks.length (fun g v7 W => ∃ k : Nat, g + k = v.blocks.length ∧ v7 = .int .i64 k ∧ Blk W w.heap.size #[.slice A0 p.slots.length c0, .slice A1 p.vols.length c1] 44 ∧ Blk W (w.heap.size + 1) #[.slice none 0 0, .slice none 0 0] 44 ∧ OwnS W base (.slice A0 p.slots.length c0) (dropAll p.slots (v.blocks.take k)) ∧ OwnV W base (.slice A1 p.vols.length c1) p.vols bvs ∧ Fr base w W)
  case atStart => exact ⟨0, rfl, rfl, HB.out, HR.out, HO.out.s, HO.out.v, Fr.ofBel HW.out hbase⟩
  case round =>
   obtain ⟨k, hk, rfl, hB, hR, hos, hov, hbel⟩ := hrel
   obtain ⟨g, cap, bv, hbv, ev, hg1, hg2, hcap, hc, hc', hf, hf'⟩ := hov.row.at HV.out
   obtain ⟨rfl, -, rfl⟩ := by simpa using ev
   obtain ⟨Ab, cb, rfl, hcb, hCb⟩ := (hov.inner i v bv HV.out hbv).reads
   obtain ⟨q0, q1, fq0, fq1, -⟩ := k2f hB
   by_cases hlt : k < v.blocks.length
   ·obtain ⟨x, hx⟩ := getQ hlt
    have hxr := (volOk_parts (HK.out.v.v i v HV.out)).1 x (List.mem_of_getElem? hx)
    obtain ⟨ad2, rfl, hcx⟩ := at_int hCb hx
    have HQ := Lib.hid (And.intro (And.intro hB hR) (And.intro hos (And.intro hov hbel)))
    have HBV := Lib.hid hbv
    clear hB hR hov hbel hCb ev hbv
    by_cases h0 : 0 < x
    ·obtain ⟨m, rfl⟩ : ∃ m : Nat, x = (m : Int) + 1 := ⟨(x - 1).toNat, by omega⟩
     obtain ⟨y, hy, hy1, hy2⟩ := drop_at HK.out HV.out hx
     have HT := Lib.hid (show dropAll p.slots (v.blocks.take (k + 1)) = dropS (dropAll p.slots (v.blocks.take k)) m by rw [take_snoc hx, dropAll_snoc, if_pos h0]; congr 1; omega)
     have hdl : (dropAll p.slots (v.blocks.take k)).length ≤ 1048576 := by rw [dropAll_len]; exact HS.out.slots.len
     have HY := Lib.hid hy
     have HX := Lib.hid hx
     have HD := Lib.hid hdl
     have HOS := Lib.hid (show OwnS wr.drew base (.slice A0 p.slots.length c0) (dropAll p.slots (v.blocks.take k)) from hos)
     clear hx hy hdl hos
     go_wp2
     refine start_ (n := 14) (S := fun w' => w'.cell? ⟨w.heap.size, 0, none⟩ = some (.slice A0 p.slots.length c0) ∧ w'.cell? ⟨w.heap.size, 1, none⟩ = some (.slice (some ⟨g, 0, none⟩) p.vols.length c1) ∧ w'.cell? ⟨g, i * 2 + 1, none⟩ = some (.slice (some ad2) v.blocks.length cb) ∧ w'.cell? (ad2.add k) = some (.int .i64 ((m : Int) + 1))) (ds := [13]) #[F, F, F, F, F, F, F, F, F, F, F, F, F, F] (by kernel_rfl) rfl rfl ⟨q0, q1, hc', hcx⟩ (fun hHeld => ?_)
     refine py 0 (some 35) #[T, F, F, F, F, F, F, F, F, F, F, F, F, F] ?_
     refine py 2 (some 37) #[T, F, T, F, F, F, F, F, F, F, F, F, F, F] ?_
     refine py 4 (some 39) #[T, F, T, F, T, F, F, F, F, F, F, F, F, F] ?_
     refine py 8 (some 43) #[T, F, T, F, T, F, F, F, T, F, F, F, F, F] ?_
     refine ty 1 (some 36) #[T, T, T, F, T, F, F, F, T, F, F, F, F, F] (hS := hHeld) (hz := by rintro w' ⟨s0, s1, s2, s3⟩; go_simp; with_reducible rfl) (h := ?_)
     refine ty 3 (some 38) #[T, T, T, T, T, F, F, F, T, F, F, F, F, F] (hS := hHeld) (hz := by rintro w' ⟨s0, s1, s2, s3⟩; go_simp; with_reducible rfl) (h := ?_)
     refine py 5 (some 40) #[T, T, T, T, T, T, F, F, T, F, F, F, F, F] ?_
     refine py 6 (some 41) #[T, T, T, T, T, T, T, F, T, F, F, F, F, F] ?_
     refine ty 7 (some 42) #[T, T, T, T, T, T, T, T, T, F, F, F, F, F] (hS := hHeld) (hz := by rintro w' ⟨s0, s1, s2, s3⟩; go_simp; with_reducible rfl) (h := ?_)
     refine py 9 (some 44) #[T, T, T, T, T, T, T, T, T, T, F, F, F, F] ?_
     refine ty 10 (some 45) #[T, T, T, T, T, T, T, T, T, T, T, F, F, F] (hS := hHeld) (hz := by rintro w' ⟨s0, s1, s2, s3⟩; go_simp; with_reducible rfl) (h := ?_)
     refine ox 11 (some 46) #[T, T, T, T, T, T, T, T, T, T, T, T, F, F] fun K hK => ?_
     refine gox Tryz.func136 #[.slice A0 p.slots.length c0, .int .i64 ((m : Int) + 1)] ?_
     with_reducible refine (l2Drop_c HOS.out HY.out HD.out hy1 hy2).mono ?_
     rintro e w2 ⟨rfl, ho2, hg2⟩
     obtain ⟨⟨hB, hR⟩, hos, hov, hbel⟩ := HQ.out
     have hB2 := Blk.grown (w := wr.drew) hB hg2 (own_blk_ne hos hB (by decide))
     have hR2 := Blk.grown (w := wr.drew) hR hg2 (own_blk_ne hos hR (by decide))
     have hov2 := OwnV.otherS (w := wr.drew) (hov.bel (Below.refl _ _).drew) hos hg2
     have hbel2 := Fr.slots (W := wr.drew) hbel.drew hos hg2 hbase
     obtain ⟨q0', q1', fq0', fq1', -⟩ := k2f hB2
     have d1 : w2.cell? ⟨g, i * 2 + 1, none⟩ = some (.slice (some ad2) v.blocks.length cb) := by obtain ⟨g', cap', bv', e1, e2, _, _, _, _, e3, _⟩ := hov2.row.at HV.out; have e2 := own_slice_eq e2; obtain ⟨rfl, -, rfl⟩ := e2; obtain rfl := Option.some.inj (HBV.out.symm.trans e1); exact e3
     have d2 : w2.cell? (ad2.add k) = some (.int .i64 ((m : Int) + 1)) := by obtain ⟨A', c', e1, _, hC'⟩ := (hov2.inner i v _ HV.out HBV.out).reads; have e1 := slice_eq e1; obtain ⟨rfl, -⟩ := e1; obtain ⟨ad', e2, e3⟩ := at_int hC' HX.out; obtain rfl := Option.some.inj e2; exact e3
     have HQ2 := Lib.hid (And.intro (And.intro hB2 hR2) (And.intro ho2 (And.intro hov2 hbel2)))
     clear hB hR hos hov hbel hB2 hR2 hov2 hbel2 ho2 hg2
     refine ⟨_, rfl, ?_⟩
     refine hK.out _ _ ⟨q0', q1', d1, d2⟩ (fun hHeld => ?_)
     clear hK K
     refine nox 46 (h := ?_)
     refine py 12 (some 47) #[T, T, T, T, T, T, T, T, T, T, T, T, T, F] ?_
     refine lx 13 none #[T, T, T, T, T, T, T, T, T, T, T, T, T, T] fun K hK => ?_
     refine sx ?_
     refine hK.out _ _ ?_
     clear hK K
     refine done_ (by kernel_rfl) ?_
     have H3 := Lib.hid (And.intro (HQ2.out.1.1.set 0 (.slice A0 p.slots.length c0) (cs' := #[.slice A0 p.slots.length c0, .slice (some ⟨g, 0, none⟩) p.vols.length c1]) rfl) (And.intro (HQ2.out.1.2.apart (show w.heap.size ≠ w.heap.size + 1 by omega) 0 (.slice A0 p.slots.length c0))
      (And.intro (OwnS.far HQ2.out.2.1 HQ2.out.1.1 (by decide) 0 (.slice A0 p.slots.length c0)) (And.intro (HQ2.out.2.2.1.far HQ2.out.1.1 (by decide) (by decide) 0 (.slice A0 p.slots.length c0)) (HQ2.out.2.2.2.set (Nat.le_refl _) hbase 0 (.slice A0 p.slots.length c0))))))
     clear d1 d2 q0' q1' fq0' fq1' q0 q1 fq0 fq1 hc hc' hf hf' hcx hHeld
     go_wp2
     go_roundg (v.blocks.length - (k + 1))
     case rel =>
      refine ⟨k + 1, by omega, int_eq (by omega), H3.out.1, H3.out.2.1, ?_, H3.out.2.2.2.1, H3.out.2.2.2.2⟩
      rw [HT.out]
      have h5 := H3.out.2.2.1
      unfold OwnS at h5 ⊢
      exact h5
     case measure => omega
    ·have HT := Lib.hid (show dropAll p.slots (v.blocks.take (k + 1)) = dropAll p.slots (v.blocks.take k) by rw [take_snoc hx, dropAll_snoc, if_neg h0])
     have HOS := Lib.hid hos
     clear hx hos
     go_wp2
     go_roundg (v.blocks.length - (k + 1))
     case rel =>
      obtain ⟨⟨hB, hR⟩, _, hov, hbel⟩ := HQ.out
      exact ⟨k + 1, by omega, int_eq (by omega), hB, hR, by rw [HT.out]; exact HOS.out, hov, hbel⟩
     case measure => omega
   ·have hkl : k = v.blocks.length := by omega
    rw [hkl, List.take_length] at hos
    have hone := one_flatV (zs := p.vols.zip bvs) fun z hz => hov.one z.2 (List.of_mem_zip hz).2
    obtain ⟨_, hnc, hmax, hL, rest, hrl, hg⟩ := own_open hov.row.row
    have hlen := hov.row.len
    obtain ⟨L, hLe⟩ : ∃ L, L = (p.vols.zip bvs).flatMap encV := ⟨_, rfl⟩
    rw [← hLe] at hg hone hL
    have hz : (p.vols.eraseIdx i).length = p.vols.length - 1 := List.length_eraseIdx_of_lt hil
    have hzb : (bvs.eraseIdx i).length = p.vols.length - 1 := by rw [List.length_eraseIdx_of_lt (by omega), hlen]
    have HF := Lib.hid (show ((p.vols.eraseIdx i).zip (bvs.eraseIdx i)).flatMap encV = L.take (i * 2) ++ L.drop ((i + 1) * 2) by rw [zip_eraseIdx _ _ _ hlen, flat_erase encV_len, hLe])
    have hgd : wr.drew.heap[g]? = some (.cells (L ++ rest).toArray 84 (0, 0)) := hg
    obtain ⟨Ad, hA, hsrc⟩ : ∃ A : Addr, (if c1 = i + 1 then some (⟨g, 0, none⟩ : Addr) else some ⟨g, (i + 1) * 2, none⟩) = some A ∧ (∀ w' : World, w'.heap[g]? = some (.cells (L ++ rest).toArray 84 (0, 0)) → ∀ t u, (L.drop ((i + 1) * 2))[t]? = some u → w'.cell? (A.add t) = some u) := by
     by_cases hc : c1 = i + 1
     ·refine ⟨⟨g, 0, none⟩, by simp [hc], fun w' hw' t u hu => ?_⟩
      have h0 := ltQ hu
      rw [List.length_drop, hL] at h0
      omega
     ·refine ⟨⟨g, (i + 1) * 2, none⟩, by simp [hc], fun w' hw' t u hu => ?_⟩
      rw [Addr.add_lit, cell_of_row hw']
      have h0 := ltQ hu
      rw [List.length_drop] at h0
      rw [List.getElem?_append_left (by omega)]
      rwa [List.getElem?_drop] at hu
    have hq := hgd
    have HQ := Lib.hid (And.intro (And.intro hB hR) (And.intro hos (And.intro hov hbel)))
    have HG2 := Lib.hid hg
    have HSR := Lib.hid hsrc
    have HO1 := Lib.hid hone
    have HL := Lib.hid hL
    have HZ := Lib.hid (And.intro hz hzb)
    have n1 := Lib.hid (show (L.take (i * 2)).length = i * 2 by rw [List.length_take, hL]; omega)
    have n2 := Lib.hid (show (L.drop ((i + 1) * 2)).length = (p.vols.length - (i + 1)) * 2 by rw [List.length_drop, hL]; omega)
    have n3 := Lib.hid (show (0 + i) * 40 ≤ 140737488355328 by omega)
    have n4 := Lib.hid (show (0 + i + (p.vols.length - (i + 1))) * 40 ≤ 140737488355328 by omega)
    have n5 : Hid (∀ t u, (L.take (i * 2))[t]? = some u → (L ++ rest)[t]? = some u) := fun t u hu => by
     have h9 := ltQ hu
     rw [List.length_take] at h9
     rw [List.getElem?_append_left (by omega)]
     rwa [List.getElem?_take, if_pos (by omega)] at hu
    have hmin := hbel.b.size
    clear hB hR hos hov hbel hCb ev hbv hone hg hgd hq hsrc hL hLe hz hzb hrl hlen hc hf hf'
    have hic : i ≤ c1 := by omega
    have hjc : i + 1 ≤ c1 := by omega
    have hi1 : (0 : Int) ≤ (i : Int) + 1 := by omega
    have hi2 : (i : Int) + 1 ≤ (p.vols.length : Int) := by omega
    have hi3 : ((i : Int) + 1).toNat = i + 1 := by omega
    have hw64 : wrap64 ((i : Int) + 1) = (i : Int) + 1 := by unfold wrap64; omega
    go_wp2
    refine start_ (n := 14) (S := fun w' => w'.cell? ⟨w.heap.size, 1, none⟩ = some (.slice (some ⟨g, 0, none⟩) p.vols.length c1)) (ds := [13]) #[F, F, F, F, F, F, F, F, F, F, F, F, F, F] (by kernel_rfl) rfl rfl (q1) (fun hHeld => ?_)
    refine py 1 (some 49) #[F, T, F, F, F, F, F, F, F, F, F, F, F, F] ?_
    refine py 3 (some 51) #[F, T, F, T, F, F, F, F, F, F, F, F, F, F] ?_
    refine py 6 (some 54) #[F, T, F, T, F, F, T, F, F, F, F, F, F, F] ?_
    refine py 8 (some 56) #[F, T, F, T, F, F, T, F, T, F, F, F, F, F] ?_
    refine py 9 (some 57) #[F, T, F, T, F, F, T, F, T, T, F, F, F, F] ?_
    refine ty 2 (some 50) #[F, T, T, T, F, F, T, F, T, T, F, F, F, F] (hS := hHeld) (hz := by intro w' s0; go_simp; with_reducible rfl) (h := ?_)
    refine py 4 (some 52) #[F, T, T, T, T, F, T, F, T, T, F, F, F, F] ?_
    refine ty 7 (some 55) #[F, T, T, T, T, F, T, T, T, T, F, F, F, F] (hS := hHeld) (hz := by intro w' s0; go_simp; with_reducible rfl) (h := ?_)
    refine py 10 (some 58) #[F, T, T, T, T, F, T, T, T, T, T, F, F, F] ?_
    refine ox 0 (some 48) #[T, T, T, T, T, F, T, T, T, T, T, F, F, F] fun K hK => ?_
    refine vx ?_
    have x0 : Bel wr ((wr.alloc (.cells #[] 84)).drew) := (bel_alloc (Below.refl _ _) _ : Bel wr (wr.alloc (.cells #[] 84))).drew
    have b0 := (HQ.out.1.1.bel x0).cell 1
    have X0 := Lib.hid x0
    clear x0
    refine hK.out _ _ (b0) (fun hHeld => ?_)
    clear hK K
    refine nox 48 (h := ?_)
    refine ox 5 (some 53) #[T, T, T, T, T, T, T, T, T, T, T, F, F, F] fun K hK => ?_
    refine step_append_own (W := (wr.alloc (.cells #[] 84)).drew) wr.heap.size (by rfl) (.tmp 48) (.tmp 52) 42 84 (.agg #[.string ⟨#[]⟩, .slice none 0 0]) 2 40 rfl Tryz.underlying42 info_vol rfl (by decide) (by decide) _ 0 [] (some ⟨g, 0, none⟩) i c1 (L.take (i * 2)) rfl rfl n1.out (fun _ => ⟨_, rfl, fun t u hu => ?a1⟩) (fun u hu => HO1.out u (List.mem_of_mem_take hu)) (own_empty wr wr.heap.size _ _ (Nat.le_refl _)) X0.out.size n3.out ?_
    case a1 => rw [Addr.add_lit, Nat.zero_add, cell_of_row ((X0.out.block g hg2).trans HG2.out)]; exact n5.out t u hu
    intro v2 w2 ho2 hgr2 hat2
    have x2 : Bel wr w2 := X0.out.grown hgr2 X0.out.size (fun k hk => by cases hk; exact Nat.le_refl _)
    obtain ⟨A2, c2, rfl, hc2⟩ := own_cap ho2
    have b2 := (HQ.out.1.1.bel x2).cell 1
    have X2 := Lib.hid x2
    have O2 := Lib.hid ho2
    clear x2 ho2 hgr2 hat2
    refine hK.out _ _ (b2) (fun hHeld => ?_)
    clear hK K
    refine nox 53 (h := ?_)
    refine ox 11 (some 59) #[T, T, T, T, T, T, T, T, T, T, T, T, F, F] fun K hK => ?_
    refine step_append_own (W := w2) wr.heap.size (by rfl) (.tmp 53) (.tmp 58) 42 84 (.agg #[.string ⟨#[]⟩, .slice none 0 0]) 2 40 rfl Tryz.underlying42 info_vol rfl (by decide) (by decide) _ (0 + i) ([] ++ L.take (i * 2)) (some Ad) (p.vols.length - (i + 1)) (c1 - (i + 1)) (L.drop ((i + 1) * 2)) rfl rfl n2.out (fun _ => ⟨_, rfl, HSR.out w2 ((X2.out.block g hg2).trans HG2.out)⟩) (fun u hu => HO1.out u (List.mem_of_mem_drop hu)) O2.out X2.out.size n4.out ?_
    intro v3 w3 ho3 hgr3 hat3
    have x3 : Bel wr w3 := X2.out.grown hgr3 X2.out.size (own_base O2.out)
    obtain ⟨A3, c3, rfl, hc3⟩ := own_cap ho3
    have hB3 := HQ.out.1.1.bel x3
    have b3 := hB3.cell 1
    have b30 := hB3.cell 0
    have f3 := hB3.free 1
    have b4 := (HQ.out.1.2.bel x3).cell 0
    have b5 := (HQ.out.1.2.bel x3).cell 1
    have f4 := (HQ.out.1.2.bel x3).free 0
    have f5 := (HQ.out.1.2.bel x3).free 1
    simp at b3 b30 b4 b5
    have X3 := Lib.hid x3
    have O3 := Lib.hid ho3
    clear x3 ho3 hgr3 hat3 hB3
    refine hK.out _ _ (b3) (fun hHeld => ?_)
    clear hK K
    refine nox 59 (h := ?_)
    refine py 12 (some 60) #[T, T, T, T, T, T, T, T, T, T, T, T, T, F] ?_
    refine lx 13 none #[T, T, T, T, T, T, T, T, T, T, T, T, T, T] fun K hK => ?_
    refine sx ?_
    refine hK.out _ _ ?_
    clear hK K
    refine done_ (by kernel_rfl) ?_
    have hB3 := HQ.out.1.1.bel X3.out
    have hR3 := HQ.out.1.2.bel X3.out
    have hv3 : VRow w3 wr.heap.size (.slice A3 (0 + i + (p.vols.length - (i + 1))) c3) (p.vols.eraseIdx i) (bvs.eraseIdx i) := by
     refine ⟨HZ.out.2.trans HZ.out.1.symm, ?_⟩
     have h5 := O3.out
     rw [List.nil_append, ← HF.out] at h5
     rw [HZ.out.1]
     have e5 : 0 + i + (p.vols.length - (i + 1)) = p.vols.length - 1 := ar_gone hil
     rw [e5] at h5 ⊢
     exact h5
    have hov3 : OwnV w3 base (.slice A3 (0 + i + (p.vols.length - (i + 1))) c3) (p.vols.eraseIdx i) (bvs.eraseIdx i) :=
     ⟨⟨hv3.len, own_lower hv3.row (Nat.le_trans hbase hmin)⟩, fun m x b hx hb => (HQ.out.2.2.1.inner _ x b (erase_get hx) (erase_get hb)).bel X3.out, fun a c b b' k hne hb hb' => HQ.out.2.2.1.apart _ _ b b' k (ar_if hne) (erase_get hb) (erase_get hb')⟩
    have hos3 := HQ.out.2.1.bel X3.out
    have hbel3 : Fr base w w3 := HQ.out.2.2.2.bel X3.out hbase
    have hB4 := hB3.set 1 (.slice A3 (0 + i + (p.vols.length - (i + 1))) c3) (cs' := #[.slice A0 p.slots.length c0, .slice A3 (0 + i + (p.vols.length - (i + 1))) c3]) rfl
    have hR4 := hR3.apart (show w.heap.size ≠ w.heap.size + 1 by omega) 1 (.slice A3 (0 + i + (p.vols.length - (i + 1))) c3)
    have hos4 := hos3.far hB3 (by decide) 1 (.slice A3 (0 + i + (p.vols.length - (i + 1))) c3)
    have hov4 := hov3.far hB3 (by decide) (by decide) 1 (.slice A3 (0 + i + (p.vols.length - (i + 1))) c3)
    have hbel4 := hbel3.set (Nat.le_refl _) hbase 1 (.slice A3 (0 + i + (p.vols.length - (i + 1))) c3)
    have HF4 := Lib.hid (And.intro (And.intro hB4 hR4) (And.intro (And.intro hos4 hov4) hbel4))
    clear hB3 hR3 hv3 hov3 hos3 hbel3 hB4 hR4 hos4 hov4 hbel4
    rw [show 0 + i = i from Nat.zero_add i] at HF4
    go_wp2
    have hR5 := HF4.out.1.2.set 0 (.slice A0 p.slots.length c0) (cs' := #[.slice A0 p.slots.length c0, .slice none 0 0]) rfl
    have hR6 := hR5.set 1 (.slice A3 (i + (p.vols.length - (i + 1))) c3) (cs' := #[.slice A0 p.slots.length c0, .slice A3 (i + (p.vols.length - (i + 1))) c3]) rfl
    have hop6 : OwnP _ base _ _ ⟨dropAll p.slots v.blocks, p.vols.eraseIdx i⟩ (bvs.eraseIdx i) := ⟨(HF4.out.2.1.1.far HF4.out.1.2 (by decide) 0 (.slice A0 p.slots.length c0)).far hR5 (by decide) 1 (.slice A3 (i + (p.vols.length - (i + 1))) c3), (HF4.out.2.1.2.far HF4.out.1.2 (by decide) (by decide) 0 (.slice A0 p.slots.length c0)).far hR5 (by decide) (by decide) 1 (.slice A3 (i + (p.vols.length - (i + 1))) c3)⟩
    have hb6 := (HF4.out.2.2.set (Nat.le_succ _) hbase 0 (.slice A0 p.slots.length c0)).set (Nat.le_succ _) hbase 1 (.slice A3 (i + (p.vols.length - (i + 1))) c3)
    refine bodyPost_ret (results_ct rfl _ _ (w.heap.size + 1) 44 #[.slice A0 p.slots.length c0, .slice A3 (i + (p.vols.length - (i + 1))) c3] (0, 0) _ rfl hR6 Tryz.underlying44 rfl (by kernel_rfl)) rfl ?_
    rw [HG.out]
    exact ⟨_, _, _, rfl, hop6, hb6⟩
end Go.Proofs.YtljfoglilggkjaaGreat

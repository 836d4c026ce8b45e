/- Contracts of the program's and the reference's functions, and the plain laws behind them: part 2 of 5. -/
import Derived.Test.YtpobgjkmjlmafaaY1
import Derived.OrdersHeld
import Derived.Deep.RegionHeld3
import Derived.Laws.BitsLemmas
import Derived.RowKit
import Derived.Laws.IdiomCopy
import Derived.Deep.RegionLaw
import Derived.Shelf.RegionOpenPlain
import Derived.Lib.Overlaps
import Derived.Lib.AppendZerosOnto
import Derived.Lib.SliceRun
import Derived.Lib.Bytealg
import Derived.Laws.Externs
/-
  PRINTED WORDS, second file: A REGION THAT DRAWS ITS ORDER, WALKED BY HAND, where its last store writes what its own loads read ('x.f = append(x.f, f(i))'). Plain theorems; no macro, no elab. A claim may hold it (turn the namespace's name).
  A load may be taken first in every world that meets S; behind the operations of ds nothing is shown; sound because each of ds waits for what is taken (Region.lastB). The kernel checks it.
  By an AI agent of Go's test side, Mon Nov 16 2026. No person has read it.
-/




namespace Go.Proofs.YtpobgjkmjlmafaaW.PrintLast

section
variable {P : Program} {ops : Array Oper} {Q : Exit → Act → World → Prop} {md : Region.Mode} {S : World → Prop} {ds : List Nat}

/-- Operation d waits for operation i, by a chain of at most 'fuel' edges. -/
def Region.reachB (md : Region.Mode) (ops : Array Oper) (i : Nat) : Nat → Nat → Bool
  | 0, _ => false
  | fuel + 1, d => match ops[d]? with
    | some o => o.after.any fun e => Region.binds md e && (e.on == i || Region.reachB md ops i fuel e.on)
    | none => false

/-- What is listed is closed under the edges. -/
def Region.closedB (md : Region.Mode) (ops : Array Oper) (listed : Array Bool) : Bool :=
  (List.range ops.size).all fun j => !listed.getD j false || match ops[j]? with
    | some o => o.after.all fun e => !Region.binds md e || listed.getD e.on false
    | none => true

/-- Each of ds that has not come up yet waits for number i. -/
def Region.lastB (md : Region.Mode) (ops : Array Oper) (listed : Array Bool) (ds : List Nat) (i : Nat) : Bool :=
  ds.all fun d => listed.getD d true || Region.reachB md ops i ops.size d

def ListedClosed (md : Region.Mode) (ops : Array Oper) (listed : Array Bool) : Prop :=
  ∀ j oj, ops[j]? = some oj → listed.getD j false = true → ∀ e ∈ oj.after, Region.binds md e = true → listed.getD e.on false = true

theorem Region.closedB_spec {listed : Array Bool} (h : Region.closedB md ops listed = true) : ListedClosed md ops listed := by
  intro j oj hj hl e he hb
  have hlt : j < ops.size := (Array.getElem?_eq_some_iff.1 hj).1
  have h1 := List.all_eq_true.1 h j (List.mem_range.2 hlt)
  simp only [hl, hj, Bool.not_true, Bool.false_or] at h1
  have h2 := Array.all_eq_true_iff_forall_mem.1 h1 e he
  simpa [hb] using h2

theorem ListedClosed.set {listed : Array Bool} {i : Nat} (h : ListedClosed md ops listed) (hi : i ∈ Region.ready md ops listed) : ListedClosed md ops (listed.setIfInBounds i true) := by
  obtain ⟨_, oi, hoi, hall⟩ := mem_ready.1 hi
  intro j oj hj hl e he hb
  by_cases hij : i = j
  · subst hij
    have : oj = oi := Option.some.inj (hj.symm.trans hoi)
    subst this
    exact getD_set_true (hall e he hb)
  · rw [getD_set_ne false hij] at hl
    exact getD_set_true (h j oj hj hl e he hb)

theorem Region.reach_listed {listed : Array Bool} {i : Nat} (hc : ListedClosed md ops listed) : ∀ (fuel d : Nat), Region.reachB md ops i fuel d = true → listed.getD d false = true → listed.getD i false = true
  | 0, _, h, _ => by simp [Region.reachB] at h
  | fuel + 1, d, h, hl => by
    unfold Region.reachB at h
    cases ho : ops[d]? with
    | none => rw [ho] at h; simp at h
    | some o =>
      rw [ho] at h
      obtain ⟨e, he, h1⟩ := Array.any_eq_true'.1 h
      simp only [Bool.and_eq_true, Bool.or_eq_true, beq_iff_eq] at h1
      have hle := hc d o ho hl e he h1.1
      rcases h1.2 with h2 | h2
      · rw [← h2]; exact hle
      · exact Region.reach_listed hc fuel e.on h2 hle

/-- What waits for i cannot come up before i is listed. -/
theorem Region.reach_not_ready {listed : Array Bool} {i d fuel : Nat} (hc : ListedClosed md ops listed) (hr : Region.reachB md ops i fuel d = true) (hun : listed.getD i true = false) : d ∉ Region.ready md ops listed := by
  intro hd
  obtain ⟨_, o, ho, hall⟩ := mem_ready.1 hd
  have hi : listed.getD i false = true := by
    cases fuel with
    | zero => simp [Region.reachB] at hr
    | succ n =>
      unfold Region.reachB at hr
      rw [ho] at hr
      obtain ⟨e, he, h1⟩ := Array.any_eq_true'.1 hr
      simp only [Bool.and_eq_true, Bool.or_eq_true, beq_iff_eq] at h1
      have hle := hall e he h1.1
      rcases h1.2 with h2 | h2
      · rw [← h2]; exact hle
      · exact Region.reach_listed hc n e.on h2 hle
  rcases Nat.lt_or_ge i listed.size with h' | h'
  · simp [h'] at hun hi
    rw [hun] at hi
    cases hi
  · simp [Array.getElem?_eq_none h'] at hun

/-- Whatever order is picked from here on, AND 'S' HOLDS BEHIND EVERY OPERATION THAT IS CARRIED OUT, those of ds apart. -/
def wpAnyLast (P : Program) (md : Region.Mode) (ops : Array Oper) (Q : Exit → Act → World → Prop) (S : World → Prop) (ds : List Nat) : Nat → Array Bool → Act → World → Prop
  | 0, listed, a, w => Region.ready md ops listed = [] ∧ Q .normal a w
  | fuel + 1, listed, a, w =>
    (Region.ready md ops listed = [] → Q .normal a w) ∧
    ∀ i ∈ Region.ready md ops listed, wpOp P ops Q i (fun a' w' => (i ∉ ds → S w → S w') ∧ wpAnyLast P md ops Q S ds fuel (listed.setIfInBounds i true) a' w') a w

theorem wpAny_of_last : ∀ (fuel : Nat) (listed : Array Bool) (a : Act) (w : World), wpAnyLast P md ops Q S ds fuel listed a w → wpAny P md ops Q fuel listed a w
  | 0, _, _, _, h => h
  | fuel + 1, _, _, _, h => ⟨h.1, fun i hi => wpOp_mono (fun a' w' h' => wpAny_of_last fuel _ a' w' h'.2) (h.2 i hi)⟩

theorem wpAnyLast_first {i : Nat} {oi : Oper} {v : Value} (hi : ops[i]? = some oi) (hsel : ∀ (j : Nat) (o : Oper) cs b, ops[j]? = some o → o.op ≠ .select cs b)
    (hQ : ∀ c a w, Q (.panic c) (a.put oi.dst v) w → Q (.panic c) a w) (n : Nat) :
    ∀ (fuel : Nat) (listed : Array Bool) (a : Act) (w : World),
      (∀ j oj, ops[j]? = some oj → j ≠ i → listed.getD j true = false → (∀ e ∈ oj.after, Region.binds md e = true → e.on ≠ i) → oi.apart ops oj = true) →
      ListedClosed md ops listed → (∀ d ∈ ds, listed.getD d true = false → Region.reachB md ops i n d = true) →
      i ∈ Region.ready md ops listed → YieldsIf P ops S oi v a → S w →
      wpAnyLast P md ops Q S ds fuel (listed.setIfInBounds i true) (a.put oi.dst v) w → wpAnyLast P md ops Q S ds (fuel + 1) listed a w := by
  intro fuel
  induction fuel with
  | zero =>
    intro listed a w _ _ _ hr hy hS H
    refine ⟨fun h => (by rw [h] at hr; cases hr), fun j hj => ?_⟩
    by_cases hji : j = i
    · subst hji; exact hy.wpOp hi hS ⟨fun _ h => h, H⟩
    · have := ready_mono hj hji
      rw [H.1] at this
      cases this
  | succ fuel ih =>
    intro listed a w hfree hc hd hr hy hS H
    refine ⟨fun h => (by rw [h] at hr; cases hr), fun j hj => ?_⟩
    by_cases hji : j = i
    · subst hji; exact hy.wpOp hi hS ⟨fun _ h => h, H⟩
    · have h1 := H.2 j (ready_mono hj hji)
      obtain ⟨hjun, oj, hoj, hall⟩ := mem_ready.1 hj
      have hiun := (mem_ready.1 hr).1
      have hnot : ∀ e ∈ oj.after, Region.binds md e = true → e.on ≠ i := fun e he hb heq => by
        have h1 := hall e he hb
        rw [heq] at h1
        rcases Nat.lt_or_ge i listed.size with h' | h'
        · simp [h'] at hiun h1; rw [hiun] at h1; cases h1
        · simp [Array.getElem?_eq_none h'] at h1
      have hjd : j ∉ ds := fun hm => Region.reach_not_ready hc (hd j hm hjun) hiun hj
      have h2 := wpOp_putIf hoj (hfree j oj hoj hji hjun hnot) (fun cs b => hsel i oi cs b hi) (fun cs b => hsel j oj cs b hoj) hQ hy h1
      have hfree' : ∀ k ok, ops[k]? = some ok → k ≠ i → (listed.setIfInBounds j true).getD k true = false →
          (∀ e ∈ ok.after, Region.binds md e = true → e.on ≠ i) → oi.apart ops ok = true := fun k ok hk hki hun hno => by
        refine hfree k ok hk hki ?_ hno
        by_cases hjk : j = k
        · subst hjk; exact hjun
        · rw [getD_set_ne true hjk] at hun; exact hun
      have hd' : ∀ d ∈ ds, (listed.setIfInBounds j true).getD d true = false → Region.reachB md ops i n d = true := fun d hm hun => by
        refine hd d hm ?_
        by_cases hjk : j = d
        · subst hjk; exact hjun
        · rw [getD_set_ne true hjk] at hun; exact hun
      refine wpOp_mono (fun a' w' h3 => ⟨h3.2.1, ih (listed.setIfInBounds j true) a' w' hfree' (hc.set hj) hd' (ready_mono hr (Ne.symm hji)) h3.1 (h3.2.1 hjd hS) ?_⟩) h2
      rw [Array.setIfInBounds_comm _ _ hji]
      exact h3.2.2

/-- Take number 'i' first, which yields whatever the world: no S is asked for, nor that anything waits for it. -/
theorem wpAnyLast_any {i : Nat} {oi : Oper} {v : Value} (hi : ops[i]? = some oi) (hsel : ∀ (j : Nat) (o : Oper) cs b, ops[j]? = some o → o.op ≠ .select cs b)
    (hQ : ∀ c a w, Q (.panic c) (a.put oi.dst v) w → Q (.panic c) a w) :
    ∀ (fuel : Nat) (listed : Array Bool) (a : Act) (w : World),
      (∀ j oj, ops[j]? = some oj → j ≠ i → listed.getD j true = false → (∀ e ∈ oj.after, Region.binds md e = true → e.on ≠ i) → oi.apart ops oj = true) →
      i ∈ Region.ready md ops listed → Yields P ops oi v a →
      wpAnyLast P md ops Q S ds fuel (listed.setIfInBounds i true) (a.put oi.dst v) w → wpAnyLast P md ops Q S ds (fuel + 1) listed a w := by
  intro fuel
  induction fuel with
  | zero =>
    intro listed a w _ hr hy H
    refine ⟨fun h => (by rw [h] at hr; cases hr), fun j hj => ?_⟩
    by_cases hji : j = i
    · subst hji; exact (hy.yieldsIf (S := fun _ => True)).wpOp hi trivial ⟨fun _ h => h, H⟩
    · have := ready_mono hj hji
      rw [H.1] at this
      cases this
  | succ fuel ih =>
    intro listed a w hfree hr hy H
    refine ⟨fun h => (by rw [h] at hr; cases hr), fun j hj => ?_⟩
    by_cases hji : j = i
    · subst hji; exact (hy.yieldsIf (S := fun _ => True)).wpOp hi trivial ⟨fun _ h => h, H⟩
    · have h1 := H.2 j (ready_mono hj hji)
      obtain ⟨hjun, oj, hoj, hall⟩ := mem_ready.1 hj
      have hiun := (mem_ready.1 hr).1
      have hnot : ∀ e ∈ oj.after, Region.binds md e = true → e.on ≠ i := fun e he hb heq => by
        have h1 := hall e he hb
        rw [heq] at h1
        rcases Nat.lt_or_ge i listed.size with h' | h'
        · simp [h'] at hiun h1; rw [hiun] at h1; cases h1
        · simp [Array.getElem?_eq_none h'] at h1
      have h2 := wpOp_put hoj (hfree j oj hoj hji hjun hnot) (fun cs b => hsel i oi cs b hi) (fun cs b => hsel j oj cs b hoj) hQ hy h1
      have hfree' : ∀ k ok, ops[k]? = some ok → k ≠ i → (listed.setIfInBounds j true).getD k true = false →
          (∀ e ∈ ok.after, Region.binds md e = true → e.on ≠ i) → oi.apart ops ok = true := fun k ok hk hki hun hno => by
        refine hfree k ok hk hki ?_ hno
        by_cases hjk : j = k
        · subst hjk; exact hjun
        · rw [getD_set_ne true hjk] at hun; exact hun
      refine wpOp_mono (fun a' w' h3 => ⟨h3.2.1, ih (listed.setIfInBounds j true) a' w' hfree' (ready_mono hr (Ne.symm hji)) h3.1 ?_⟩) h2
      rw [Array.setIfInBounds_comm _ _ hji]
      exact h3.2.2

/-- Take number 'i' first. -/
theorem wpAnyLast_take {i : Nat} {oi : Oper} {v : Value} {fuel : Nat} {listed : Array Bool} {a : Act} {w : World} (hi : ops[i]? = some oi)
    (hs : Region.noSelect ops = true) (hf : Region.free md ops listed i = true) (hr : (Region.ready md ops listed).contains i = true)
    (hc : Region.closedB md ops listed = true) (hl : Region.lastB md ops listed ds i = true)
    (hQ : ∀ c a w, Q (.panic c) (a.put oi.dst v) w → Q (.panic c) a w) (hy : YieldsIf P ops S oi v a) (hS : S w)
    (h : wpAnyLast P md ops Q S ds fuel (listed.setIfInBounds i true) (a.put oi.dst v) w) : wpAnyLast P md ops Q S ds (fuel + 1) listed a w :=
  wpAnyLast_first hi (Region.noSelect_spec hs) hQ ops.size fuel listed a w (Region.free_spec hi hf) (Region.closedB_spec hc)
    (fun d hm hun => by have := List.all_eq_true.1 hl d hm; rw [hun] at this; simpa using this) (by simpa using hr) hy hS h

theorem wpAnyLast_all {rs : List Nat} {fuel : Nat} {listed : Array Bool} {a : Act} {w : World} (hr : Region.ready md ops listed = rs) (hne : rs ≠ [])
    (h : ∀ i ∈ rs, wpOp P ops Q i (fun a' w' => (i ∉ ds → S w → S w') ∧ wpAnyLast P md ops Q S ds fuel (listed.setIfInBounds i true) a' w') a w) : wpAnyLast P md ops Q S ds (fuel + 1) listed a w :=
  ⟨fun h0 => absurd (hr ▸ h0) hne, hr ▸ h⟩

theorem wpAnyLast_done {listed : Array Bool} {a : Act} {w : World} (hr : Region.ready md ops listed = []) (h : Q .normal a w) :
    ∀ fuel, wpAnyLast P md ops Q S ds fuel listed a w
  | 0 => ⟨hr, h⟩
  | _ + 1 => ⟨fun _ => h, by rw [hr]; simp⟩

theorem wp_region_last {id : Nat} {a : Act} {w : World} (hm : P.follows .mixedOrders = true)
    (h : wpAnyLast P .any ops Q S ds ops.size (Array.replicate ops.size false) a { w with drawn := w.drawn + 1 }) : (Code.region id ops true).wp P Q a w :=
  wp_region_any hm (wpAny_of_last _ _ _ _ h)

end

section
variable {P : Program} {ops : Array Oper} {Q : Exit → Act → World → Prop} {md : Region.Mode} {S : World → Prop} {ds : List Nat}

def AllReadyL (P : Program) (md : Region.Mode) (ops : Array Oper) (Q : Exit → Act → World → Prop) (S : World → Prop) (ds : List Nat) (fuel : Nat) (listed : Array Bool) (a : Act) (w : World) (rs : List Nat) : Prop :=
  ∀ i ∈ rs, wpOp P ops Q i (fun a' w' => (i ∉ ds → S w → S w') ∧ wpAnyLast P md ops Q S ds fuel (listed.setIfInBounds i true) a' w') a w
theorem AllReadyL.nil {fuel : Nat} {listed : Array Bool} {a : Act} {w : World} : AllReadyL P md ops Q S ds fuel listed a w [] := fun _ h => by cases h
theorem AllReadyL.cons {fuel : Nat} {listed : Array Bool} {a : Act} {w : World} {i : Nat} {o : Oper} {rs : List Nat} (ho : ops[i]? = some o) (hd : i ∉ ds)
    (h : ∀ K' : Act → World → Prop, Shut (∀ a w, S w → (S w → wpAnyLast P md ops Q S ds fuel (listed.setIfInBounds i true) a w) → K' a w) → if Region.wanted o (yielded ops a.tmps) = true then Oper.wp P o a w K' Q else K' (a.put o.dst undef) w)
    (hs : AllReadyL P md ops Q S ds fuel listed a w rs) : AllReadyL P md ops Q S ds fuel listed a w (i :: rs) := fun j hj => by
  rcases List.mem_cons.1 hj with rfl | hj
  · exact wpOp_step ho (fun K' hK => h K' (fun a w hS hW => hK a w ⟨fun _ _ => hS, hW hS⟩))
  · exact hs j hj
/-- Behind an operation of ds nothing is shown. -/
theorem AllReadyL.cons_last {fuel : Nat} {listed : Array Bool} {a : Act} {w : World} {i : Nat} {o : Oper} {rs : List Nat} (ho : ops[i]? = some o) (hd : i ∈ ds)
    (h : ∀ K' : Act → World → Prop, Shut (∀ a w, wpAnyLast P md ops Q S ds fuel (listed.setIfInBounds i true) a w → K' a w) → if Region.wanted o (yielded ops a.tmps) = true then Oper.wp P o a w K' Q else K' (a.put o.dst undef) w)
    (hs : AllReadyL P md ops Q S ds fuel listed a w rs) : AllReadyL P md ops Q S ds fuel listed a w (i :: rs) := fun j hj => by
  rcases List.mem_cons.1 hj with rfl | hj
  · exact wpOp_step ho (fun K' hK => h K' (fun a w hW => hK a w ⟨fun hn => absurd hd hn, hW⟩))
  · exact hs j hj
theorem wpAnyLast_ready {rs : List Nat} {fuel : Nat} {listed : Array Bool} {a : Act} {w : World} (hr : Region.ready md ops listed = rs) (hne : rs ≠ [])
    (h : AllReadyL P md ops Q S ds fuel listed a w rs) : wpAnyLast P md ops Q S ds (fuel + 1) listed a w := wpAnyLast_all hr hne h
/-- THE SAME STEPS WITH WHAT HAS COME UP WRITTEN OUT (a literal array of Bools) and one check a step: quicker, and what is printed stays short. -/
theorem start_ {id n : Nat} {a : Act} {w : World} (l : Array Bool) (hm : P.follows .mixedOrders = true) (hn : ops.size = n) (hl : Array.replicate n false = l) (hS : S w.drew)
    (h : S w.drew → wpAnyLast P .any ops Q S ds n l a w.drew) : (Code.region id ops true).wp P Q a w := by
  subst hn
  subst hl
  exact wp_region_last hm (h hS)
def takeB (md : Region.Mode) (ops : Array Oper) (ds : List Nat) (l l' : Array Bool) (i : Nat) : Bool :=
  Region.noSelect ops && Region.free md ops l i && (Region.ready md ops l).contains i && Region.closedB md ops l && Region.lastB md ops l ds i && (l.setIfInBounds i true == l')
theorem take_ {i : Nat} {N : Option Tmp} {oi : Oper} {v : Value} {fuel : Nat} {l : Array Bool} {a : Act} {w : World} (l' : Array Bool) (hi : ops[i]? = some oi) (hN : oi.dst = N) (hc : takeB md ops ds l l' i = true)
    (hQ : ∀ c a w, Q (.panic c) (a.put oi.dst v) w → Q (.panic c) a w) (hy : YieldsIf P ops S oi v a) (hS : S w) {a' : Act} (ha : a.put N v = a')
    (h : wpAnyLast P md ops Q S ds fuel l' a' w) : wpAnyLast P md ops Q S ds (fuel + 1) l a w := by
  subst ha
  subst hN
  simp only [takeB, Bool.and_eq_true, beq_iff_eq] at hc
  obtain ⟨⟨⟨⟨⟨h1, h2⟩, h3⟩, h4⟩, h5⟩, h6⟩ := hc
  subst h6
  exact wpAnyLast_take hi h1 h2 h3 h4 h5 hQ hy hS h
def anyB (md : Region.Mode) (ops : Array Oper) (l l' : Array Bool) (i : Nat) : Bool :=
  Region.noSelect ops && Region.free md ops l i && (Region.ready md ops l).contains i && (l.setIfInBounds i true == l')
/-- An operation that yields in every world (a move, a number, an address): taken first wherever it may come up, behind a store too. -/
theorem pure_ {i : Nat} {N : Option Tmp} {oi : Oper} {v : Value} {fuel : Nat} {l : Array Bool} {a : Act} {w : World} (l' : Array Bool) (hi : ops[i]? = some oi) (hN : oi.dst = N) (hc : anyB md ops l l' i = true)
    (hQ : ∀ c a w, Q (.panic c) (a.put oi.dst v) w → Q (.panic c) a w) (hy : Yields P ops oi v a) {a' : Act} (ha : a.put N v = a')
    (h : wpAnyLast P md ops Q S ds fuel l' a' w) : wpAnyLast P md ops Q S ds (fuel + 1) l a w := by
  subst ha
  subst hN
  simp only [anyB, Bool.and_eq_true, beq_iff_eq] at hc
  obtain ⟨⟨⟨h1, h2⟩, h3⟩, h6⟩ := hc
  subst h6
  exact wpAnyLast_any hi (Region.noSelect_spec h1) hQ fuel l a w (Region.free_spec hi h2) (by simpa using h3) hy h
def readyB (md : Region.Mode) (ops : Array Oper) (l l' : Array Bool) (i : Nat) : Bool := (Region.ready md ops l == [i]) && (l.setIfInBounds i true == l')
/-- One operation alone may come up now (a call, a build, an append ..): it is run, S is shown behind it. -/
theorem one_ {i : Nat} {N : Option Tmp} {oi : Oper} {fuel : Nat} {l : Array Bool} {a : Act} {w : World} (l' : Array Bool) (hi : ops[i]? = some oi) (hN : oi.dst = N) (hc : readyB md ops l l' i = true) (hd : i ∉ ds)
    (h : ∀ K : Act → World → Prop, Shut (∀ a' w', S w' → (S w' → wpAnyLast P md ops Q S ds fuel l' a' w') → K a' w') → if Region.wanted oi (yielded ops a.tmps) = true then Oper.wp P oi a w K Q else K (a.put N undef) w) :
    wpAnyLast P md ops Q S ds (fuel + 1) l a w := by
  subst hN
  simp only [readyB, Bool.and_eq_true, beq_iff_eq] at hc
  obtain ⟨h1, h2⟩ := hc
  subst h2
  exact wpAnyLast_ready h1 (by simp) (AllReadyL.cons hi hd (fun K hK => h K hK) AllReadyL.nil)
/-- The same for one of ds: nothing is shown behind it. -/
theorem last_ {i : Nat} {N : Option Tmp} {oi : Oper} {fuel : Nat} {l : Array Bool} {a : Act} {w : World} (l' : Array Bool) (hi : ops[i]? = some oi) (hN : oi.dst = N) (hc : readyB md ops l l' i = true) (hd : i ∈ ds)
    (h : ∀ K : Act → World → Prop, Shut (∀ a' w', wpAnyLast P md ops Q S ds fuel l' a' w' → K a' w') → if Region.wanted oi (yielded ops a.tmps) = true then Oper.wp P oi a w K Q else K (a.put N undef) w) :
    wpAnyLast P md ops Q S ds (fuel + 1) l a w := by
  subst hN
  simp only [readyB, Bool.and_eq_true, beq_iff_eq] at hc
  obtain ⟨h1, h2⟩ := hc
  subst h2
  exact wpAnyLast_ready h1 (by simp) (AllReadyL.cons_last hi hd (fun K hK => h K hK) AllReadyL.nil)
theorem done_ {l : Array Bool} {a : Act} {w : World} {n : Nat} (hr : (Region.ready md ops l == []) = true) (h : Q .normal a w) : wpAnyLast P md ops Q S ds n l a w := wpAnyLast_done (by simpa using hr) h n
/-! ### Several operations that write or call may come up: each order is walked, what follows is shown once (join_) -/
theorem two_ {i j : Nat} {Ni Nj : Option Tmp} {oi oj : Oper} {fuel : Nat} {l : Array Bool} {a : Act} {w : World} (li lj : Array Bool) (hi : ops[i]? = some oi) (hj : ops[j]? = some oj) (hNi : oi.dst = Ni) (hNj : oj.dst = Nj)
    (hc : (Region.ready md ops l == [i, j] && l.setIfInBounds i true == li && l.setIfInBounds j true == lj) = true) (hdi : i ∉ ds) (hdj : j ∉ ds)
    (h1 : ∀ K : Act → World → Prop, Shut (∀ a' w', S w' → (S w' → wpAnyLast P md ops Q S ds fuel li a' w') → K a' w') → if Region.wanted oi (yielded ops a.tmps) = true then Oper.wp P oi a w K Q else K (a.put Ni undef) w)
    (h2 : ∀ K : Act → World → Prop, Shut (∀ a' w', S w' → (S w' → wpAnyLast P md ops Q S ds fuel lj a' w') → K a' w') → if Region.wanted oj (yielded ops a.tmps) = true then Oper.wp P oj a w K Q else K (a.put Nj undef) w) :
    wpAnyLast P md ops Q S ds (fuel + 1) l a w := by
  subst hNi
  subst hNj
  simp only [Bool.and_eq_true, beq_iff_eq] at hc
  obtain ⟨⟨h3, h4⟩, h5⟩ := hc
  subst h4
  subst h5
  exact wpAnyLast_ready h3 (by simp) (AllReadyL.cons hi hdi (fun K hK => h1 K hK) (AllReadyL.cons hj hdj (fun K hK => h2 K hK) AllReadyL.nil))
theorem three_ {i j k : Nat} {Ni Nj Nk : Option Tmp} {oi oj ok : Oper} {fuel : Nat} {l : Array Bool} {a : Act} {w : World} (li lj lk : Array Bool) (hi : ops[i]? = some oi) (hj : ops[j]? = some oj) (hk : ops[k]? = some ok) (hNi : oi.dst = Ni) (hNj : oj.dst = Nj) (hNk : ok.dst = Nk)
    (hc : (Region.ready md ops l == [i, j, k] && l.setIfInBounds i true == li && l.setIfInBounds j true == lj && l.setIfInBounds k true == lk) = true) (hdi : i ∉ ds) (hdj : j ∉ ds) (hdk : k ∉ ds)
    (h1 : ∀ K : Act → World → Prop, Shut (∀ a' w', S w' → (S w' → wpAnyLast P md ops Q S ds fuel li a' w') → K a' w') → if Region.wanted oi (yielded ops a.tmps) = true then Oper.wp P oi a w K Q else K (a.put Ni undef) w)
    (h2 : ∀ K : Act → World → Prop, Shut (∀ a' w', S w' → (S w' → wpAnyLast P md ops Q S ds fuel lj a' w') → K a' w') → if Region.wanted oj (yielded ops a.tmps) = true then Oper.wp P oj a w K Q else K (a.put Nj undef) w)
    (h3 : ∀ K : Act → World → Prop, Shut (∀ a' w', S w' → (S w' → wpAnyLast P md ops Q S ds fuel lk a' w') → K a' w') → if Region.wanted ok (yielded ops a.tmps) = true then Oper.wp P ok a w K Q else K (a.put Nk undef) w) :
    wpAnyLast P md ops Q S ds (fuel + 1) l a w := by
  subst hNi
  subst hNj
  subst hNk
  simp only [Bool.and_eq_true, beq_iff_eq] at hc
  obtain ⟨⟨⟨h4, h5⟩, h6⟩, h7⟩ := hc
  subst h5
  subst h6
  subst h7
  exact wpAnyLast_ready h4 (by simp) (AllReadyL.cons hi hdi (fun K hK => h1 K hK) (AllReadyL.cons hj hdj (fun K hK => h2 K hK) (AllReadyL.cons hk hdk (fun K hK => h3 K hK) AllReadyL.nil)))
/-- The act with some destinations filled. -/
def putAll : Act → List (Tmp × Value) → Act
  | a, [] => a
  | a, (n, v) :: r => putAll (a.put (some n) v) r
/-- What follows, once: s the values that the orders leave, F what is known of them and of the world. -/
theorem join_ {σ : Type} {fuel : Nat} {l : Array Bool} {a : Act} {w : World} (fuel' : Nat) (l' : Array Bool) (ns : σ → List (Tmp × Value)) (F : σ → World → Prop)
    (hcont : ∀ s w', F s w' → wpAnyLast P md ops Q S ds fuel' l' (putAll a (ns s)) w')
    (h : (∀ s w', F s w' → wpAnyLast P md ops Q S ds fuel' l' (putAll a (ns s)) w') → wpAnyLast P md ops Q S ds fuel l a w) : wpAnyLast P md ops Q S ds fuel l a w := h hcont
/-- The act written out. -/
theorem norm_ {fuel : Nat} {l : Array Bool} {a a' : Act} {w : World} (ha : a = a') (h : wpAnyLast P md ops Q S ds fuel l a' w) : wpAnyLast P md ops Q S ds fuel l a w := by
  subst ha
  exact h
/-- A call of a Go function, by its contract. -/
theorem call_ {oi : Oper} {N : Option Tmp} {a : Act} {w : World} {K : Act → World → Prop} (f : FuncId) (args : Array Value) (hw : Region.wanted oi (yielded ops a.tmps) = true) (hN : oi.dst = N) (hrun : (execOp a.eval oi).run P w = .ok (.enter f args) w)
    (h : Calls P f args w fun e w' => ∃ v, e = .returned v ∧ K (a.put N v) w') : if Region.wanted oi (yielded ops a.tmps) = true then Oper.wp P oi a w K Q else K (a.put N undef) w := by
  rw [if_pos hw]
  subst hN
  unfold Oper.wp
  rw [hrun, Oper.upon_enter]
  refine h.mono fun e w'' hh => ?_
  obtain ⟨v, rfl, hk⟩ := hh
  exact hk
theorem enters_ {f : FuncId} {fn : Func} (hf : P.funcs[f]? = some fn) (hname : (fn.name == "runtime.NumGoroutine") = false) (hb : fn.body.isSome = true) (args : Array Value) (w : World) : (callFunc f args).run P w = .ok (.enter f args) w := by
  have h1 : fn.name ≠ "runtime.NumGoroutine" := by simpa using hname
  obtain ⟨c, hc⟩ := Option.isSome_iff_exists.1 hb
  simp [callFunc, hf, h1, hc]
/-- The same, the operation's run shown here: 'goes_ A.func3 (by kernel_rfl) rfl #[..] (by rfl) rfl rfl (by rfl) ?_'. -/
theorem goes_ {oi : Oper} {N : Option Tmp} {a : Act} {w : World} {K : Act → World → Prop} {f : FuncId} {fn : Func} {asx : Array Operand} {ts : Array TypeId} (hf : P.funcs[f]? = some fn) (hname : (fn.name == "runtime.NumGoroutine") = false) (hb : fn.body.isSome = true) (args : Array Value)
    (hw : Region.wanted oi (yielded ops a.tmps) = true) (hN : oi.dst = N) (hop : oi.op = .call { callee := .value (.func f), args := asx, argTypes := ts }) (hargs : asx.map a.eval = args)
    (h : Calls P f args w fun e w' => ∃ v, e = .returned v ∧ K (a.put N v) w') : if Region.wanted oi (yielded ops a.tmps) = true then Oper.wp P oi a w K Q else K (a.put N undef) w := by
  refine call_ f args hw hN ?_ h
  have he := enters_ hf hname hb args w
  unfold execOp
  simp [hop, resolve, Deferred.ofValue, invoke, Act.eval, hargs, he]
/-- An operation that yields a value (and may make memory). -/
theorem value_ {oi : Oper} {N : Option Tmp} {a : Act} {w w1 : World} {v : Value} {K : Act → World → Prop} (hw : Region.wanted oi (yielded ops a.tmps) = true) (hN : oi.dst = N) (hrun : (execOp a.eval oi).run P w = .ok (.value v) w1)
    (h : K (a.put N v) w1) : if Region.wanted oi (yielded ops a.tmps) = true then Oper.wp P oi a w K Q else K (a.put N undef) w := by
  rw [if_pos hw]
  subst hN
  unfold Oper.wp
  rw [hrun]
  exact h
/-- A store. -/
theorem skip_ {oi : Oper} {a : Act} {w w1 : World} {K : Act → World → Prop} (hw : Region.wanted oi (yielded ops a.tmps) = true) (hN : oi.dst = none) (hrun : (execOp a.eval oi).run P w = .ok .skip w1)
    (h : K a w1) : if Region.wanted oi (yielded ops a.tmps) = true then Oper.wp P oi a w K Q else K (a.put none undef) w := by
  rw [if_pos hw]
  unfold Oper.wp
  rw [hrun]
  show K (a.put oi.dst undef) w1
  rw [hN]
  exact h
theorem i64_w (n : Int) : IntKind.i64.wrap n = Go.RowKit.wrap64 n := by unfold Go.RowKit.wrap64; exact IntKind.wrap_i64 n
theorem i32_w (n : Int) : IntKind.i32.wrap n = Go.RowKit.wrap32 n := by unfold Go.RowKit.wrap32; exact IntKind.wrap_i32 n
end
end Go.Proofs.YtpobgjkmjlmafaaW.PrintLast
/- Copies of volumes and pools. -/


namespace Go.Proofs.Ytpobgjkmjlmafaa
open Go.RowKit Go.Proofs.YtpobgjkmjlmafaaW.PrintWords Go.Proofs.YtpobgjkmjlmafaaW.PrintLast
set_option linter.unusedVariables false
set_option linter.unusedSimpArgs false

/-- What a maker of a volume leaves. -/
def MadeV1 (w : World) (v : Vol) (e : Ending) (w' : World) : Prop := ∃ b, e = .returned (.agg #[.string v.name, b]) ∧ OwnI w' w.heap.size b v.blocks ∧ Bel w w'
set_option maxRecDepth 10000 in
set_option maxHeartbeats 2000000 in
theorem l3Copy_c {w : World} {A : Option Addr} {c : Nat} {v : Vol} (hC : kInt.C w A v.blocks.length v.blocks) (hl : v.blocks.length ≤ 1048576) :
    Calls Try.prog 119 #[.agg #[.string v.name, .slice A v.blocks.length c]] w (MadeV1 w v) := by
  have H := Lib.hid hC
  clear hC
  go_enter Try.func119, Try.ntmps119
  go_wp2
  have hB : Blk ((w.alloc (.cells #[.string v.name, .slice A v.blocks.length c] 43)).alloc (.cells #[.string ⟨#[]⟩, .slice none 0 0] 43)) w.heap.size #[.string v.name, .slice A v.blocks.length c] 43 := (Blk.new _ _ _).alloc _
  have hR : Blk ((w.alloc (.cells #[.string v.name, .slice A v.blocks.length c] 43)).alloc (.cells #[.string ⟨#[]⟩, .slice none 0 0] 43)) (w.heap.size + 1) #[.string ⟨#[]⟩, .slice none 0 0] 43 := Blk.nw2 _ _ _ _
  have hW : Bel w ((w.alloc (.cells #[.string v.name, .slice A v.blocks.length c] 43)).alloc (.cells #[.string ⟨#[]⟩, .slice none 0 0] 43)) := bel_alloc (bel_alloc (Below.refl _ _) _) _
  generalize ((w.alloc (.cells #[.string v.name, .slice A v.blocks.length c] 43)).alloc (.cells #[.string ⟨#[]⟩, .slice none 0 0] 43)) = W at hB hR hW ⊢
  have q0 := hB.cell 0
  have q1 := hB.cell 1
  simp at q0 q1
  have HB := Lib.hid hB
  have HR := Lib.hid hR
  have HC := Lib.hid (Kd.C_below H.out hW)
  clear hB hR
  refine start_ (n := 8) (S := fun w' => w'.cell? ⟨w.heap.size, 0, none⟩ = some (.string v.name) ∧ w'.cell? ⟨w.heap.size, 1, none⟩ = some (.slice A v.blocks.length c)) (ds := [7]) #[false, false, false, false, false, false, false, false] (by kernel_rfl) rfl rfl ⟨q0, q1⟩ (fun hHeld => ?_)
  refine pure_ (i := 0) (N := some 3) (v := ?_) (a' := ?_) #[true, false, false, false, false, false, false, false] rfl rfl (by kernel_rfl) (fun _ _ _ h => h) (Or.inl ⟨by rfl, ?_⟩) ?_ ?_
  rotate_left
  · intro w'
    go_simp
    with_reducible rfl
  rotate_left
  · simp only [Act.put, List.setIfInBounds_toArray, List.set_cons_zero, List.set_cons_succ, i64_w, i32_w]
    rfl
  refine pure_ (i := 3) (N := some 6) (v := ?_) (a' := ?_) #[true, false, false, true, false, false, false, false] rfl rfl (by kernel_rfl) (fun _ _ _ h => h) (Or.inl ⟨by rfl, ?_⟩) ?_ ?_
  rotate_left
  · intro w'
    go_simp
    with_reducible rfl
  rotate_left
  · simp only [Act.put, List.setIfInBounds_toArray, List.set_cons_zero, List.set_cons_succ, i64_w, i32_w]
    rfl
  refine take_ (i := 1) (N := some 4) (v := ?_) (a' := ?_) #[true, true, false, true, false, false, false, false] rfl rfl (by kernel_rfl) (fun _ _ _ h => h) (Or.inl ⟨by rfl, ?_⟩) hHeld ?_ ?_
  rotate_left
  · rintro w' ⟨s0, s1⟩
    go_simp
    with_reducible rfl
  rotate_left
  · simp only [Act.put, List.setIfInBounds_toArray, List.set_cons_zero, List.set_cons_succ, i64_w, i32_w]
    rfl
  refine take_ (i := 4) (N := some 7) (v := ?_) (a' := ?_) #[true, true, false, true, true, false, false, false] rfl rfl (by kernel_rfl) (fun _ _ _ h => h) (Or.inl ⟨by rfl, ?_⟩) hHeld ?_ ?_
  rotate_left
  · rintro w' ⟨s0, s1⟩
    go_simp
    with_reducible rfl
  rotate_left
  · simp only [Act.put, List.setIfInBounds_toArray, List.set_cons_zero, List.set_cons_succ, i64_w, i32_w]
    rfl
  refine one_ (i := 2) (N := some 5) #[true, true, true, true, true, false, false, false] rfl rfl (by kernel_rfl) (by decide) (fun K hK => ?_)
  refine value_ (w1 := ?_) (v := ?_) (by rfl) rfl ?_ ?_
  rotate_left 2
  · go_simp
    constructor
    · rfl
    · rfl
  have hB1 := HB.out.alloc (.cells #[] 3)
  have hR1 := HR.out.alloc (.cells #[] 3)
  have u0 := hB1.cell 0
  have u1 := hB1.cell 1
  simp at u0 u1
  refine hK.out _ _ ⟨u0, u1⟩ (fun hHeld => ?_)
  clear hK K
  refine norm_ (a' := ?_) ?_ ?_
  rotate_left
  · show Act.put _ (some 5) _ = _
    simp only [Act.put, List.setIfInBounds_toArray, List.set_cons_zero, List.set_cons_succ, i64_w, i32_w]
    rfl
  refine one_ (i := 5) (N := some 8) #[true, true, true, true, true, true, false, false] rfl rfl (by kernel_rfl) (by decide) (fun K hK => ?_)
  refine Kd.R_append_rows_step kInt (w0 := W.drew) W.drew.heap.size (by rfl) (.tmp 5) (.tmp 7) 41 3 (.int .i64 0) 8 rfl Try.underlying41 info_int rfl (by decide) (by decide) _ [] v.blocks _ _ _ (fun _ => True) (fun _ => False) rfl rfl (R_emptyI W.drew W.drew.heap.size (Nat.le_refl _)) (Kd.C_alloc (Kd.C_drew HC.out) _) (fun _ _ h => h) (fun _ h => h.elim) (fun _ _ => trivial) ?a2 ?a3 ?a4 ?_
  case a2 => exact bel_alloc (Below.refl _ _) _
  case a3 => simp
  case a4 => simp; omega
  intro v1 w1 ho hb hg hat
  clear hg hat
  have ho2 : OwnI w1 W.drew.heap.size v1 v.blocks := ownI_of_R ho
  obtain ⟨A1, c1, rfl, hc1, hC1⟩ := ho2.reads
  have hB2 : Blk w1 w.heap.size #[.string v.name, .slice A v.blocks.length c] 43 := Blk.bel (w := W.drew) HB.out hb
  have hR2 : Blk w1 (w.heap.size + 1) #[.string ⟨#[]⟩, .slice none 0 0] 43 := Blk.bel (w := W.drew) HR.out hb
  have r0 := hR2.cell 0
  have r1 := hR2.cell 1
  have f0 := hR2.free 0
  have f1 := hR2.free 1
  simp at r0 r1
  refine hK.out _ _ ⟨hB2.cell 0, hB2.cell 1⟩ (fun hHeld => ?_)
  clear hK K
  refine norm_ (a' := ?_) ?_ ?_
  rotate_left
  · show Act.put _ (some 8) _ = _
    simp only [Act.put, List.setIfInBounds_toArray, List.set_cons_zero, List.set_cons_succ, i64_w, i32_w]
    rfl
  refine pure_ (i := 6) (N := some 9) (v := ?_) (a' := ?_) #[true, true, true, true, true, true, true, false] rfl rfl (by kernel_rfl) (fun _ _ _ h => h) (Or.inl ⟨by rfl, ?_⟩) ?_ ?_
  rotate_left
  · intro w'
    go_simp
    with_reducible rfl
  rotate_left
  · simp only [Act.put, List.setIfInBounds_toArray, List.set_cons_zero, List.set_cons_succ, i64_w, i32_w]
    rfl
  refine last_ (i := 7) (N := none) #[true, true, true, true, true, true, true, true] rfl rfl (by kernel_rfl) (by decide) (fun K hK => ?_)
  refine skip_ (w1 := ?_) (by rfl) rfl ?_ ?_
  rotate_left
  · go_simp
    rfl
  refine hK.out _ _ ?_
  clear hK K
  refine done_ (by kernel_rfl) ?_
  have hR3 := hR2.set 0 (.string v.name) (cs' := #[.string v.name, .slice none 0 0]) rfl
  have hR4 := hR3.set 1 (.slice A1 v.blocks.length c1) (cs' := #[.string v.name, .slice A1 v.blocks.length c1]) rfl
  have hl2 : w.heap.size + 2 ≤ W.heap.size := HR.out.lt
  have hos : OwnI w1 (w.heap.size + 2) (.slice A1 v.blocks.length c1) v.blocks := own_lower ho2 hl2
  have hos4 := (hos.far hR2 (by decide) 0 (.string v.name)).far hR3 (by decide) 1 (.slice A1 v.blocks.length c1)
  have hb4 := bel_set (bel_set (Bel.tr (b := W.drew) hW.drew hb) (Nat.le_succ _) 0 (.string v.name)) (Nat.le_succ _) 1 (.slice A1 v.blocks.length c1)
  go_wp2
  refine bodyPost_ret (results_cell_row rfl _ _ (w.heap.size + 1) 43 #[.string v.name, .slice A1 v.blocks.length c1] (0, 0) _ rfl hR4 Try.underlying43 rfl (by kernel_rfl)) rfl ?_
  exact ⟨_, rfl, own_lower hos4 (by omega), hb4⟩
theorem own_block_lt {w : World} {base : Nat} {e : TypeId} {sz n k : Nat} {v : Value} {xs : List Value} (h : w.ownsRow base e sz v n xs) (hk : v.ownBlock = some k) : k < w.heap.size := by
  obtain ⟨cs, hc⟩ := own_type h hk
  exact (Array.getElem?_eq_some_iff.1 hc).1
theorem own_block_ge {w : World} {base : Nat} {e : TypeId} {sz n k : Nat} {v : Value} {xs : List Value} (h : w.ownsRow base e sz v n xs) (hk : v.ownBlock = some k) : base ≤ k := own_base h k hk
/-- One volume more, behind the last. -/
theorem OwnV.push {W w1 : World} {base : Nat} {v v1 : Value} {vs : List Vol} {bvs : List Value} {x : Vol} {b : Value} (h : OwnV W base v vs bvs) (hb : OwnI W base b x.blocks)
    (hap : ∀ (m : Nat) (b' : Value) (k : Nat), bvs[m]? = some b' → b'.ownBlock = some k → b.ownBlock ≠ some k) (hg : W.grownBy w1 v.ownBlock)
    (hr : w1.ownsRow base 43 2 v1 (vs.length + 1) ((vs.zip bvs).flatMap encV ++ encV (x, b))) : OwnV w1 base v1 (vs ++ [x]) (bvs ++ [b]) := by
  refine ⟨⟨by simp [h.row.len], ?_⟩, ?_, ?_⟩
  · rw [List.zip_append h.row.len.symm, List.flatMap_append, List.length_append]
    simpa using hr
  · intro m y c hy hc
    rcases Nat.lt_trichotomy m vs.length with hm | hm | hm
    · rw [List.getElem?_append_left hm] at hy
      rw [List.getElem?_append_left (by rw [h.row.len]; exact hm)] at hc
      exact own_other_type (h.inner m y c hy hc) h.row.row (by decide) hg
    · subst hm
      rw [List.getElem?_append_right (Nat.le_refl _), Nat.sub_self] at hy
      rw [List.getElem?_append_right (Nat.le_of_eq h.row.len), h.row.len, Nat.sub_self] at hc
      obtain rfl := Option.some.inj hy
      obtain rfl := Option.some.inj hc
      exact own_other_type hb h.row.row (by decide) hg
    · rw [List.getElem?_eq_none (by simp; omega)] at hy
      cases hy
  · have hl := h.row.len
    have key : ∀ (i j : Nat) (c c' : Value) (k : Nat), i < j → (bvs ++ [b])[i]? = some c → (bvs ++ [b])[j]? = some c' → c.ownBlock = some k → c'.ownBlock ≠ some k := by
      intro i j c c' k hij hc hc' hk
      have hj := ltQ hc'
      rw [List.length_append, List.length_singleton] at hj
      rw [List.getElem?_append_left (by omega)] at hc
      by_cases hj' : j < bvs.length
      · rw [List.getElem?_append_left hj'] at hc'
        exact h.apart i j c c' k (by omega) hc hc' hk
      · rw [List.getElem?_append_right (by omega), show j - bvs.length = 0 by omega] at hc'
        obtain rfl := Option.some.inj hc'
        exact hap i c k hc hk
    intro i j c c' k hne hc hc' hk hk'
    rcases Nat.lt_or_gt_of_ne hne with h1 | h1
    · exact key i j c c' k h1 hc hc' hk hk'
    · exact key j i c' c k h1 hc' hc hk' hk
theorem OwnV.inner_lt {w : World} {base : Nat} {v : Value} {vs : List Vol} {bvs : List Value} (h : OwnV w base v vs bvs) {m : Nat} {b : Value} {k : Nat} (hb : bvs[m]? = some b) (hk : b.ownBlock = some k) : k < w.heap.size := by
  obtain ⟨x, hx⟩ := getQ (show m < vs.length by rw [← h.row.len]; exact ltQ hb)
  exact own_block_lt (h.inner m x b hx hb) hk

set_option maxHeartbeats 2000000 in
theorem l11Copy_c {w : World} {A0 A1 : Option Addr} {c0 c1 : Nat} {p : Pool} (h : PoolIn w A0 A1 c0 c1 p) (hs : SmallP p) :
    Calls Try.prog 64 #[.agg #[.slice A0 p.slots.length c0, .slice A1 p.vols.length c1]] w (MadeP w p) := by
  have HS := Lib.hid hs
  have HP := Lib.hid h
  have hlv : p.vols.length ≤ 1048576 := hs.vols.len
  have hls : p.slots.length ≤ 1048576 := hs.slots.len
  clear h hs
  go_enter Try.func64, Try.ntmps64
  go_wp2
  have hB : Blk ((w.alloc (.cells #[.slice A0 p.slots.length c0, .slice A1 p.vols.length c1] 30)).alloc (.cells #[.slice none 0 0, .slice none 0 0] 30)) w.heap.size #[.slice A0 p.slots.length c0, .slice A1 p.vols.length c1] 30 := (Blk.new _ _ _).alloc _
  have hR : Blk ((w.alloc (.cells #[.slice A0 p.slots.length c0, .slice A1 p.vols.length c1] 30)).alloc (.cells #[.slice none 0 0, .slice none 0 0] 30)) (w.heap.size + 1) #[.slice none 0 0, .slice none 0 0] 30 := Blk.nw2 _ _ _ _
  have hW : Bel w ((w.alloc (.cells #[.slice A0 p.slots.length c0, .slice A1 p.vols.length c1] 30)).alloc (.cells #[.slice none 0 0, .slice none 0 0] 30)) := bel_alloc (bel_alloc (Below.refl _ _) _) _
  have hz : w.heap.size + 1 + 1 = ((w.alloc (.cells #[.slice A0 p.slots.length c0, .slice A1 p.vols.length c1] 30)).alloc (.cells #[.slice none 0 0, .slice none 0 0] 30)).heap.size := by simp
  have hl2 : w.heap.size + 2 ≤ ((w.alloc (.cells #[.slice A0 p.slots.length c0, .slice A1 p.vols.length c1] 30)).alloc (.cells #[.slice none 0 0, .slice none 0 0] 30)).heap.size := by simp
  generalize ((w.alloc (.cells #[.slice A0 p.slots.length c0, .slice A1 p.vols.length c1] 30)).alloc (.cells #[.slice none 0 0, .slice none 0 0] 30)) = W0 at hB hR hW hl2 hz ⊢
  rw [show w.heap.size + 1 + 1 = W0.heap.size from hz]
  have HB := Lib.hid hB
  have HR := Lib.hid hR
  have HP0 := Lib.hid (HP.out.bel hW)
  have HE := Lib.hid (OwnV.empty W0 W0.heap.size (Nat.le_refl _))
  clear hB hR hz
  go_loopg [3, 4] p.vols.length (fun g v3 v4 W => ∃ k : Nat, g + k = p.vols.length ∧ v4 = .int .i64 k ∧ (∃ bvs, OwnV W W0.heap.size v3 (p.vols.take k) bvs) ∧ Bel W0 W)
  case atStart => exact ⟨0, rfl, rfl, ⟨[], HE.out⟩, bel_alloc (Below.refl _ _) _⟩
  case round =>
    obtain ⟨k, hk, rfl, ⟨bvs, hv⟩, hb⟩ := hrel
    have q0 := (HB.out.bel hb).cell 0
    have q1 := (HB.out.bel hb).cell 1
    have r0 := (HR.out.bel hb).cell 0
    have r1 := (HR.out.bel hb).cell 1
    have f0 := (HR.out.bel hb).free 0
    have f1 := (HR.out.bel hb).free 1
    simp at q0 q1 r0 r1
    have HV := Lib.hid hv
    clear hv
    by_cases hlt : k < p.vols.length
    · obtain ⟨x, hx⟩ := getQ hlt
      obtain ⟨ad, A2, n2, rfl, hc, hc', hn, hC⟩ := at_vol (HP0.out.bel hb).v hx
      have hx1 : x.blocks.length ≤ 1048576 := HS.out.vols.blocks x (List.mem_of_getElem? hx)
      have HT := Lib.hid (take_snoc hx)
      have hlk : (p.vols.take k).length = k := by rw [List.length_take]; omega
      have HL := Lib.hid hlk
      clear hx hlk
      go_wp2_with (first
        | (go_at_call 119; refine (l3Copy_c hC hx1).mono ?_; rintro e w1 ⟨b, rfl, ho, hb1⟩; obtain ⟨A3, c3, rfl, hc3, hC3⟩ := ho.reads; have HO := Lib.hid ho; clear ho)
        | (at_builtin; refine print_append_cells (w0 := W0) W0.heap.size rfl (.tmp 13) (.tmp 20) 28 43 (.agg #[.string ⟨#[]⟩, .slice none 0 0]) 2 40 rfl Try.underlying28 info_vol rfl (by decide) (by decide) _ (p.vols.take k).length (((p.vols.take k).zip bvs).flatMap encV) (encV (x, .slice A3 x.blocks.length c3)) rfl rfl rfl (by intro u hu; simp [encV] at hu; rcases hu with rfl | rfl <;> rfl) (HV.out.bel hb1).row.row (hb.tr hb1) (hb.tr hb1).size (by rw [HL.out]; omega) ?_; intro v2 w2 hr2 hb2 hg2 hat2; clear hat2))
      go_roundg (p.vols.length - (k + 1))
      case rel =>
        refine ⟨k + 1, by omega, int_eq (by omega), ⟨bvs ++ [.slice A3 x.blocks.length c3], ?_⟩, hb2⟩
        rw [HT.out]
        refine OwnV.push (HV.out.bel hb1) (own_lower HO.out hb.size) (fun m b' j hm hj hj2 => ?_) hg2 hr2
        have h1 := HV.out.inner_lt hm hj
        have h2 := own_block_ge HO.out hj2
        omega
      case measure => omega
    · have hkl : k = p.vols.length := by omega
      have HT := Lib.hid (show p.vols.take k = p.vols by rw [hkl, List.take_length])
      have hs0 := (HP0.out.bel hb).s
      have hrv := HV.out.reads
      rw [HT.out] at hrv
      obtain ⟨A5, c5, rfl, hc5, hC5⟩ := hrv
      go_wp2_with fail
      refine (l2Copy_c hs0 hls).mono ?_
      rintro e w1 ⟨v0, rfl, ho, hb1⟩
      have hb2 := hb.tr hb1
      have hR2 := HR.out.bel hb2
      obtain ⟨A6, c6, rfl, hc6, hC6⟩ := ho.reads
      have hv2 := HV.out.bel hb1
      rw [HT.out] at hv2
      have HV2 := Lib.hid hv2
      have HO := Lib.hid ho
      have r0 := hR2.cell 0
      have r1 := hR2.cell 1
      have f0 := hR2.free 0
      have f1 := hR2.free 1
      simp at r0 r1
      clear hv2 ho
      go_wp2
      have hR3 := hR2.set 0 (.slice A6 p.slots.length c6) (cs' := #[.slice A6 p.slots.length c6, .slice none 0 0]) rfl
      have hR4 := hR3.set 1 (.slice A5 p.vols.length c5) (cs' := #[.slice A6 p.slots.length c6, .slice A5 p.vols.length c5]) rfl
      have hop : OwnP w1 W0.heap.size (.slice A6 p.slots.length c6) (.slice A5 p.vols.length c5) p bvs := ⟨own_lower HO.out hb.size, HV2.out⟩
      have hop4 := (hop.far hR2 (by decide) (by decide) (by decide) 0 (.slice A6 p.slots.length c6)).far hR3 (by decide) (by decide) (by decide) 1 (.slice A5 p.vols.length c5)
      have hb4 := bel_set (bel_set (hW.tr hb2) (Nat.le_succ _) 0 (.slice A6 p.slots.length c6)) (Nat.le_succ _) 1 (.slice A5 p.vols.length c5)
      refine bodyPost_ret (results_cell_row rfl _ _ (w.heap.size + 1) 30 #[.slice A6 p.slots.length c6, .slice A5 p.vols.length c5] (0, 0) _ rfl hR4 Try.underlying30 rfl (by kernel_rfl)) rfl ?_
      exact ⟨_, _, _, rfl, hop4.lower (by omega), hb4⟩
end Go.Proofs.Ytpobgjkmjlmafaa
/- Rows that are copied over, cleared, shifted: what the cells hold behind it. -/









namespace Go.Proofs.Ytpobgjkmjlmafaa
open Go.RowKit Go.Proofs.YtpobgjkmjlmafaaW.PrintWords
set_option linter.unusedVariables false
set_option linter.unusedSimpArgs false

/-- vs laid over L from place o on. -/
def layL (L : List Value) (o : Nat) (vs : List Value) : List Value := L.take o ++ (vs ++ L.drop (o + vs.length))
theorem layL_len {L : List Value} {o : Nat} {vs : List Value} (h : o + vs.length ≤ L.length) : (layL L o vs).length = L.length := by simp [layL]; omega
theorem layL_nil (L : List Value) (o : Nat) : layL L o [] = L := by simp [layL]
theorem layL_cons {L : List Value} {o : Nat} {v : Value} {vs : List Value} (h : o + (vs.length + 1) ≤ L.length) : layL (L.set o v) (o + 1) vs = layL L o (v :: vs) := by
  have := list_seg_step L o v vs h
  simpa [layL, List.append_assoc] using this
theorem layL_get {L : List Value} {o : Nat} {vs : List Value} (h : o + vs.length ≤ L.length) (k : Nat) : (layL L o vs)[k]? = if k < o then L[k]? else if k < o + vs.length then vs[k - o]? else L[k]? := by
  have h1 : (L.take o).length = o := by rw [List.length_take]; omega
  unfold layL
  by_cases hk : k < o
  · rw [if_pos hk, List.getElem?_append_left (by omega), List.getElem?_take, if_pos hk]
  · rw [if_neg hk, List.getElem?_append_right (by omega), h1]
    by_cases hk2 : k < o + vs.length
    · rw [if_pos hk2, List.getElem?_append_left (by omega)]
    · rw [if_neg hk2, List.getElem?_append_right (by omega), List.getElem?_drop]
      congr 1; omega
theorem setCells_heap {b : Nat} {t : TypeId} : ∀ (vs : List Value) (o : Nat) (cur : List Value) (w : World), w.heap[b]? = some (.cells cur.toArray t (0, 0)) → o + vs.length ≤ cur.length → (w.setCells b o vs).heap[b]? = some (.cells (layL cur o vs).toArray t (0, 0))
  | [], o, cur, w, h, _ => by rw [World.setCells, layL_nil]; exact h
  | v :: vs, o, cur, w, h, hl => by
    rw [World.setCells, ← layL_cons (by simpa using hl)]
    refine setCells_heap vs (o + 1) (cur.set o v) _ ?_ (by simp at hl ⊢; omega)
    have := blk_set (show Blk w b cur.toArray t from h) o v
    simpa [Blk] using this
theorem grown_setCell (w : World) (b i : Nat) (u : Value) : w.grownBy (w.setCell ⟨b, i, none⟩ u) (some b) :=
  ⟨rfl, rfl, rfl, by simp [World.setCell], fun k hk hne => Below.heap_setCell w ⟨b, i, none⟩ u k (fun e => hne (by rw [e]))⟩
theorem grown_setCells (b : Nat) : ∀ (vs : List Value) (o : Nat) (w : World), w.grownBy (w.setCells b o vs) (some b)
  | [], _, w => grown_refl w _
  | v :: vs, o, w => grown_tr (grown_setCell w b o v) (grown_setCells b vs (o + 1) _)
theorem grown_drew (w : World) (r : Option Nat) : w.grownBy w.drew r := grown_of_bel (Below.refl _ _).drew r

/-- A row of one's own that is not nil, laid open. -/
theorem own_open {w : World} {base g n cap : Nat} {e : TypeId} {sz : Nat} {xs : List Value} (h : w.ownsRow base e sz (.slice (some ⟨g, 0, none⟩) n cap) n xs) :
    base ≤ g ∧ n ≤ cap ∧ cap ≤ 9223372036854775807 ∧ xs.length = n * sz ∧ ∃ rest : List Value, rest.length + n * sz = cap * sz ∧ w.heap[g]? = some (.cells (xs ++ rest).toArray e (0, 0)) := by
  rcases h.2 with ⟨h0, _⟩ | ⟨g', cap', cur, e1, hb, hg, hc, hm, hs, ht⟩
  · cases h0
  · obtain ⟨rfl, rfl⟩ : g = g' ∧ cap = cap' := by simpa using e1
    refine ⟨hb, hc, by simpa [maxLen] using hm, h.1, cur.toList.drop (n * sz), ?_, ?_⟩
    · rw [List.length_drop, Array.length_toList, hs]
      have := Nat.mul_le_mul_right sz hc
      omega
    · rw [← ht, List.take_append_drop]; exact hg
theorem own_close {w : World} {base g n cap : Nat} {e : TypeId} {sz : Nat} {xs rest : List Value} (hb : base ≤ g) (hc : n ≤ cap) (hm : cap ≤ 9223372036854775807) (hl : xs.length = n * sz) (hr : rest.length + n * sz = cap * sz)
    (hg : w.heap[g]? = some (.cells (xs ++ rest).toArray e (0, 0))) : w.ownsRow base e sz (.slice (some ⟨g, 0, none⟩) n cap) n xs :=
  ⟨hl, .inr ⟨g, cap, (xs ++ rest).toArray, rfl, hb, hg, hc, by simpa [maxLen] using hm, by simp; omega, by simp [← hl]⟩⟩
theorem cell_of_row {w : World} {g : Nat} {cs : List Value} {e : TypeId} (hg : w.heap[g]? = some (.cells cs.toArray e (0, 0))) (k : Nat) : w.cell? ⟨g, k, none⟩ = cs[k]? := by simp [World.cell?, hg]
theorem free_of_row {w : World} {g : Nat} {cs : List Value} {e : TypeId} (hg : w.heap[g]? = some (.cells cs.toArray e (0, 0))) (k : Nat) : w.frozen? ⟨g, k, none⟩ = false := by simp [World.frozen?, hg]

/-- clear at elements of any number of cells. -/
theorem run_clear_rows {P : Program} (w : World) (t e ty : TypeId) (z : Value) (ht : P.underlying t = some (.slice e)) (hv : ∀ w, (zeroValue e).run P w = .ok z w) (b o n c : Nat) (zs : List Value) (hz : (Builtin.zeroCells z.cells n).toList = zs) (h1 : ∀ v ∈ zs, v.oneCell' = true) (hn : 0 < n)
    (hc : ∀ j, j < zs.length → (w.cell? ⟨b, o + j, none⟩).isSome = true) (hf : ∀ j, j < zs.length → w.frozen? ⟨b, o + j, none⟩ = false) :
    (Builtin.clear_ #[t] ty #[.slice (some ⟨b, o, none⟩) n c]).run P w = .ok (.tuple #[]) (w.setCells b o zs) := by
  have hst := run_storeCells_cells (P := P) b o zs 0 w (by simpa using hc) (by simpa using hf) h1
  simp only [Nat.add_zero] at hst
  obtain ⟨m, rfl⟩ : ∃ m, n = m + 1 := ⟨n - 1, by omega⟩
  simp [Builtin.clear_, run_underlying ht, hv, hz, hst]
/-! ### lists of cells -/
theorem flat_take {α β} {enc : α → List β} {sz : Nat} (hl : ∀ x, (enc x).length = sz) (xs : List α) (k : Nat) : (xs.take k).flatMap enc = (xs.flatMap enc).take (k * sz) := by
  induction xs generalizing k with
  | nil => simp
  | cons y ys ih =>
    cases k with
    | zero => simp
    | succ k => rw [List.take_succ_cons, List.flatMap_cons, List.flatMap_cons, ih, List.take_append, hl, show (k + 1) * sz - sz = k * sz by rw [Nat.succ_mul]; omega, List.take_of_length_le (l := enc y) (by rw [hl, Nat.succ_mul]; omega)]
theorem flat_drop {α β} {enc : α → List β} {sz : Nat} (hl : ∀ x, (enc x).length = sz) (xs : List α) (k : Nat) : (xs.drop k).flatMap enc = (xs.flatMap enc).drop (k * sz) := by
  induction xs generalizing k with
  | nil => simp
  | cons y ys ih =>
    cases k with
    | zero => simp
    | succ k => rw [List.drop_succ_cons, List.flatMap_cons, ih, List.drop_append, hl, show (k + 1) * sz - sz = k * sz by rw [Nat.succ_mul]; omega, List.drop_of_length_le (l := enc y) (by rw [hl, Nat.succ_mul]; omega), List.nil_append]
end Go.Proofs.Ytpobgjkmjlmafaa
/- Taking a volume out of a row. -/

namespace Go.Proofs.Ytpobgjkmjlmafaa
open Go.RowKit Go.Proofs.YtpobgjkmjlmafaaW.PrintWords Go.Proofs.YtpobgjkmjlmafaaW.PrintLast
set_option linter.unusedVariables false
set_option linter.unusedSimpArgs false

theorem zip_eraseIdx {α β} (xs : List α) (ys : List β) (i : Nat) (h : ys.length = xs.length) : (xs.eraseIdx i).zip (ys.eraseIdx i) = (xs.zip ys).eraseIdx i := by
  induction xs generalizing ys i with
  | nil => simp
  | cons x xs ih =>
    cases ys with
    | nil => simp at h
    | cons y ys =>
      cases i with
      | zero => rfl
      | succ i => simp [ih ys i (by simpa using h)]
theorem flat_erase {α β} {enc : α → List β} {sz : Nat} (hl : ∀ x, (enc x).length = sz) (xs : List α) (i : Nat) : (xs.eraseIdx i).flatMap enc = (xs.flatMap enc).take (i * sz) ++ (xs.flatMap enc).drop ((i + 1) * sz) := by
  rw [List.eraseIdx_eq_take_drop_succ, List.flatMap_append, flat_take hl, flat_drop hl]
theorem one_flatV {zs : List (Vol × Value)} (h : ∀ z ∈ zs, z.2.oneCell' = true) : ∀ u ∈ zs.flatMap encV, u.oneCell' = true := by
  intro u hu
  obtain ⟨z, hz, hu⟩ := List.mem_flatMap.1 hu
  simp [encV] at hu
  rcases hu with rfl | rfl
  · rfl
  · exact h z hz
theorem vol_zero (w : World) : (zeroValue 43).run Try.prog w = .ok (.agg #[.string ⟨#[]⟩, .slice none 0 0]) w := by
  have h := info_vol
  obtain ⟨i, hi, hz⟩ := Option.map_eq_some_iff.1 h
  simp only [Prod.mk.injEq] at hz
  simp [zeroValue, typeInfo, hi, hz.1]
/-- What a row of volumes is behind the deletion of one. -/
def Gone1 (w : World) (base g cap : Nat) (vs : List Vol) (bvs : List Value) (i : Nat) (e : Ending) (w' : World) : Prop :=
  e = .returned (.slice (some ⟨g, 0, none⟩) (vs.length - 1) cap) ∧ VRow w' base (.slice (some ⟨g, 0, none⟩) (vs.length - 1) cap) (vs.eraseIdx i) (bvs.eraseIdx i) ∧ w.grownBy w' (some g)
theorem gone_cells {L rest : List Value} {n i cap : Nat} (hL : L.length = n * 2) (hi : i < n) (hr : rest.length + n * 2 = cap * 2) :
    layL (layL (L ++ rest) (i * 2) (L.drop ((i + 1) * 2))) ((n - 1) * 2) [.string ⟨#[]⟩, .slice none 0 0] = (L.take (i * 2) ++ L.drop ((i + 1) * 2)) ++ (.string ⟨#[]⟩ :: .slice none 0 0 :: rest) := by
  have hd : (L.drop ((i + 1) * 2)).length = (n - 1 - i) * 2 := by rw [List.length_drop, hL]; omega
  apply List.ext_getElem?
  intro k
  rw [layL_get (by rw [layL_len (by rw [List.length_append, hd]; omega)]; simp; omega), layL_get (by rw [List.length_append, hd]; omega), hd]
  have ht : (L.take (i * 2)).length = i * 2 := by rw [List.length_take]; omega
  by_cases h1 : k < i * 2
  · rw [if_pos (by omega), if_pos h1, List.append_assoc, List.getElem?_append_left (by omega), List.getElem?_append_left (by omega), List.getElem?_take, if_pos h1]
  · by_cases h2 : k < (n - 1) * 2
    · rw [if_pos h2, if_neg h1, if_pos (by omega), List.append_assoc, List.getElem?_append_right (by omega), List.getElem?_append_left (by rw [hd]; omega), ht]
    · rw [if_neg h2, List.getElem?_append_right (show (L.take (i * 2) ++ L.drop ((i + 1) * 2)).length ≤ k by rw [List.length_append, ht, hd]; omega), List.length_append, ht, hd]
      by_cases h3 : k < (n - 1) * 2 + 2
      · rw [if_pos (by simpa using h3)]
        rcases (show k = (n - 1) * 2 ∨ k = (n - 1) * 2 + 1 by omega) with rfl | rfl
        · rw [show (n - 1) * 2 - (n - 1) * 2 = 0 by omega, show (n - 1) * 2 - (i * 2 + (n - 1 - i) * 2) = 0 by omega]; rfl
        · rw [show (n - 1) * 2 + 1 - (n - 1) * 2 = 1 by omega, show (n - 1) * 2 + 1 - (i * 2 + (n - 1 - i) * 2) = 1 by omega]; rfl
      · rw [if_neg (by simpa using h3), if_neg h1, if_neg (by omega), List.getElem?_append_right (by omega), show k - (i * 2 + (n - 1 - i) * 2) = (k - n * 2) + 2 by omega, hL]
        rfl

set_option maxHeartbeats 4000000 in
set_option maxRecDepth 100000 in
theorem delete_c {w : World} {base g cap : Nat} {vs : List Vol} {bvs : List Value} {i : Nat} (h : VRow w base (.slice (some ⟨g, 0, none⟩) vs.length cap) vs bvs) (h1 : ∀ b ∈ bvs, b.oneCell' = true) (hi : i < vs.length) :
    Calls Try.prog 71 #[.slice (some ⟨g, 0, none⟩) vs.length cap, .int .i64 i, .int .i64 ((i : Int) + 1)] w (Gone1 w base g cap vs bvs i) := by
  obtain ⟨hbg, hnc, hmax, hL, rest, hrl, hg⟩ := own_open h.row
  have hone : ∀ u ∈ (vs.zip bvs).flatMap encV, u.oneCell' = true := one_flatV fun z hz => h1 z.2 (List.of_mem_zip hz).2
  have hlen := h.len
  generalize hn : vs.length = n at *
  have HL : ((vs.zip bvs).flatMap encV).length = n * 2 := hL
  obtain ⟨L, hLe⟩ : ∃ L, L = (vs.zip bvs).flatMap encV := ⟨_, rfl⟩
  rw [← hLe] at hg hone HL
  have hcur : (L ++ rest).length = cap * 2 := by rw [List.length_append, HL]; omega
  obtain ⟨news, hnews⟩ : ∃ news, news = L.drop ((i + 1) * 2) := ⟨_, rfl⟩
  have hlenN : news.length = (n - (i + 1)) * 2 := by rw [hnews, List.length_drop, HL]; omega
  have hgd : w.drew.heap[g]? = some (.cells (L ++ rest).toArray 43 (0, 0)) := hg
  obtain ⟨A, hA, hsrc⟩ : ∃ A : Addr, (if cap = i + 1 then some (⟨g, 0, none⟩ : Addr) else some ⟨g, (i + 1) * 2, none⟩) = some A ∧ (∀ t u, news[t]? = some u → w.drew.cell? (A.add t) = some u) := by
    by_cases hc : cap = i + 1
    · refine ⟨⟨g, 0, none⟩, by simp [hc], fun t u hu => ?_⟩
      have h0 : news.length = 0 := by rw [hlenN]; omega
      rw [List.length_eq_zero_iff.1 h0] at hu
      simp at hu
    · refine ⟨⟨g, (i + 1) * 2, none⟩, by simp [hc], fun t u hu => ?_⟩
      rw [Addr.add_lit, cell_of_row hgd, List.getElem?_append_left (by have := ltQ hu; omega)]
      rwa [hnews, List.getElem?_drop] at hu
  have s2 : ∀ u ∈ news, u.oneCell' = true := fun u hu => hone u (List.mem_of_mem_drop (hnews ▸ hu))
  have s3 : ∀ t, t < news.length → (w.drew.cell? ⟨g, 0 + i * 2 + t, none⟩).isSome = true ∧ w.drew.frozen? ⟨g, 0 + i * 2 + t, none⟩ = false := fun t ht => by
    refine ⟨?_, free_of_row hgd _⟩
    rw [cell_of_row hgd]
    rw [List.getElem?_eq_getElem (by rw [hcur]; omega)]; rfl
  obtain ⟨W1, hW1⟩ : ∃ W1, W1 = w.drew.setCells g (0 + i * 2) news := ⟨_, rfl⟩
  have hh1 : W1.heap[g]? = some (.cells (layL (L ++ rest) (i * 2) news).toArray 43 (0, 0)) := by
    rw [hW1, Nat.zero_add]; exact setCells_heap news (i * 2) (L ++ rest) w.drew hgd (by rw [hcur, hlenN]; omega)
  have hl1 : (layL (L ++ rest) (i * 2) news).length = cap * 2 := by rw [layL_len (by rw [hcur, hlenN]; omega), hcur]
  have hcl : ∀ ty c, (Builtin.clear_ #[28] ty #[.slice (some ⟨g, (n - 1) * 2, none⟩) 1 c]).run Try.prog W1 = .ok (.tuple #[]) (W1.setCells g ((n - 1) * 2) [.string ⟨#[]⟩, .slice none 0 0]) := fun ty c =>
    run_clear_rows W1 _ 43 ty _ Try.underlying28 vol_zero g ((n - 1) * 2) 1 c [.string ⟨#[]⟩, .slice none 0 0] (by kernel_rfl) (by intro v hv; simp at hv; rcases hv with rfl | rfl <;> rfl) (by omega)
      (fun j hj => by rw [cell_of_row hh1, List.getElem?_eq_getElem (by rw [hl1]; simp at hj; omega)]; rfl) (fun j hj => free_of_row hh1 _)
  have hfin : (W1.setCells g ((n - 1) * 2) [.string ⟨#[]⟩, .slice none 0 0]).heap[g]? = some (.cells ((L.take (i * 2) ++ L.drop ((i + 1) * 2)) ++ (.string ⟨#[]⟩ :: .slice none 0 0 :: rest)).toArray 43 (0, 0)) := by
    rw [← gone_cells HL hi hrl, ← hnews]
    exact setCells_heap _ _ _ _ hh1 (by rw [hl1]; simp; omega)
  have hgr : w.grownBy (W1.setCells g ((n - 1) * 2) [.string ⟨#[]⟩, .slice none 0 0]) (some g) := grown_tr (by rw [hW1]; exact grown_tr (grown_drew w _) (grown_setCells g _ _ _)) (grown_setCells g _ _ _)
  have hgone : VRow (W1.setCells g ((n - 1) * 2) [.string ⟨#[]⟩, .slice none 0 0]) base (.slice (some ⟨g, 0, none⟩) (n - 1) cap) (vs.eraseIdx i) (bvs.eraseIdx i) := by
    have e1 : (vs.eraseIdx i).length = n - 1 := by rw [List.length_eraseIdx_of_lt (by omega), hn]
    refine ⟨by rw [e1, List.length_eraseIdx_of_lt (by omega), hlen], ?_⟩
    rw [e1, zip_eraseIdx _ _ _ (by rw [hlen, hn]), flat_erase encV_len, ← hLe]
    exact own_close hbg (by omega) hmax (by rw [List.length_append, List.length_take, List.length_drop, HL]; omega) (by simp; omega) hfin
  obtain ⟨i0, hi0, hz⟩ := Option.map_eq_some_iff.1 info_vol
  simp only [Prod.mk.injEq] at hz
  have G1 := Lib.hid (And.intro hgone hgr)
  have I0 := Lib.hid hi0
  have I1 := Lib.hid hz.2.1
  have HS := Lib.hid hsrc
  have S1 := Lib.hid hlenN
  have S2 := Lib.hid s2
  have S3 := Lib.hid s3
  have HW := Lib.hid hW1
  have HC := Lib.hid hcl
  clear hcl hW1 s2 s3 hlenN hsrc hi0 hz hgone hgr hfin hl1 hh1 hgd hnews hcur HL hg hone hLe hrl hL h1 h hlen
  go_enter Try.func71, Try.ntmps71
  go_wp2_with fail
  have hic : i ≤ cap := by omega
  have hjc : i + 1 ≤ cap := by omega
  have mixed : Try.prog.follows .mixedOrders = true := by kernel_rfl
  have hi1 : (0 : Int) ≤ (i : Int) + 1 := by omega
  have hi2 : (i : Int) + 1 ≤ (n : Int) := by omega
  have hi3 : ((i : Int) + 1).toNat = i + 1 := by omega
  go_region_law_o (refine step_append_room rfl (.tmp 22) (.tmp 25) 28 rfl 43 i0 2 Try.underlying28 I0.out I1.out g 0 i cap (by simp [Act.eval, Act.put]) A (n - (i + 1)) (cap - (i + 1)) news (by simp [Act.eval, Act.put]) S1.out HS.out S2.out (by omega) S3.out ?_; rw [← HW.out])
  have hq1 : i + (n - (i + 1)) = n - 1 := by omega
  have hq2 : n - (n - 1) = 1 := by omega
  have hq3 : ¬ cap = n - 1 := by omega
  have hq4 : n - 1 ≤ n := by omega
  rw [hq1]
  have hcl := HC.out
  go_wp2
  go_ret
  subst hn
  exact ⟨rfl, G1.out.1, G1.out.2⟩
end Go.Proofs.Ytpobgjkmjlmafaa
/- Putting a volume into a row. -/

namespace Go.Proofs.Ytpobgjkmjlmafaa
open Go.RowKit Go.Proofs.YtpobgjkmjlmafaaW.PrintWords Go.Proofs.YtpobgjkmjlmafaaW.PrintLast
set_option linter.unusedVariables false
set_option linter.unusedSimpArgs false

def insAt {α} (i : Nat) (x : α) (xs : List α) : List α := xs.take i ++ x :: xs.drop i
theorem insAt_len {α} {i : Nat} {x : α} {xs : List α} (h : i ≤ xs.length) : (insAt i x xs).length = xs.length + 1 := by simp [insAt]; omega
theorem insAt_end {α} (x : α) (xs : List α) : insAt xs.length x xs = xs ++ [x] := by simp [insAt]
theorem zip_insAt {α β} (xs : List α) (ys : List β) (i : Nat) (x : α) (y : β) (h : ys.length = xs.length) (hi : i ≤ xs.length) : (insAt i x xs).zip (insAt i y ys) = insAt i (x, y) (xs.zip ys) := by
  unfold insAt
  rw [List.zip_append (by simp; omega), List.zip_cons_cons, List.zip_eq_zipWith, List.zip_eq_zipWith, List.zip_eq_zipWith, List.take_zipWith, List.drop_zipWith]
/-- What a row of volumes is behind the insertion of one. -/
def Ins1 (w : World) (base : Nat) (v : Value) (vs : List Vol) (bvs : List Value) (i : Nat) (x : Vol) (b : Value) (e : Ending) (w' : World) : Prop :=
  ∃ v', e = .returned v' ∧ VRow w' base v' (insAt i x vs) (insAt i b bvs) ∧ w.grownBy w' v.ownBlock
end Go.Proofs.Ytpobgjkmjlmafaa
/- Putting a volume into a row that has no room: a new row. -/

namespace Go.Proofs.Ytpobgjkmjlmafaa
open Go.RowKit Go.Proofs.YtpobgjkmjlmafaaW.PrintWords Go.Proofs.YtpobgjkmjlmafaaW.PrintLast
set_option linter.unusedVariables false
set_option linter.unusedSimpArgs false

end Go.Proofs.Ytpobgjkmjlmafaa
/- Comparing strings; searching a sorted row of volumes. -/

namespace Go.Proofs.Ytpobgjkmjlmafaa
open Go.RowKit Go.Proofs.YtpobgjkmjlmafaaW.PrintWords Go.Proofs.YtpobgjkmjlmafaaW.PrintLast
set_option linter.unusedVariables false
set_option linter.unusedSimpArgs false

def cmpS (a b : ByteArray) : Int := Lib.compareBytes a.data.toList b.data.toList
/-- What a search leaves: the place, and whether it is met there. -/
def Found (q : Nat) (w : World) (e : Ending) (w' : World) : Prop := ∃ f : Bool, e = .returned (.tuple #[.int .i64 q, .bool f]) ∧ Bel w w'
end Go.Proofs.Ytpobgjkmjlmafaa
/- The copy that the program itself makes of a pool. -/

namespace Go.Proofs.Ytpobgjkmjlmafaa
open Go.RowKit Go.Proofs.YtpobgjkmjlmafaaW.PrintWords Go.Proofs.YtpobgjkmjlmafaaW.PrintLast
set_option linter.unusedVariables false
set_option linter.unusedSimpArgs false

/-- A row of volumes whose first k have blocks of their own; the others' are those of the world W0. -/
structure HalfV (W0 w : World) (base : Nat) (v : Value) (vs : List Vol) (bvs : List Value) (k : Nat) : Prop where
  row : VRow w base v vs bvs
  inner : ∀ (m : Nat) (x : Vol) (b : Value), m < k → vs[m]? = some x → bvs[m]? = some b → OwnI w base b x.blocks
  apart : ∀ (i j : Nat) (b b' : Value) (q : Nat), i < j → j < k → bvs[i]? = some b → bvs[j]? = some b' → b.ownBlock = some q → b'.ownBlock ≠ some q
  old : ∀ (m : Nat) (x : Vol) (b : Value), k ≤ m → vs[m]? = some x → bvs[m]? = some b → ∃ A c, b = .slice A x.blocks.length c ∧ x.blocks.length ≤ c ∧ kInt.C W0 A x.blocks.length x.blocks
theorem HalfV.bel {W0 w w' : World} {base : Nat} {v : Value} {vs : List Vol} {bvs : List Value} {k : Nat} (h : HalfV W0 w base v vs bvs k) (hb : Bel w w') : HalfV W0 w' base v vs bvs k :=
  ⟨h.row.bel hb, fun m x b hm hx hbb => (h.inner m x b hm hx hbb).bel hb, h.apart, h.old⟩
theorem HalfV.step {W0 w : World} {base g cap k : Nat} {vs : List Vol} {bvs : List Value} {x : Vol} {b : Value} (h : HalfV W0 w base (.slice (some ⟨g, 0, none⟩) vs.length cap) vs bvs k) (hx : vs[k]? = some x) (hb : OwnI w base b x.blocks)
    (hap : ∀ (m : Nat) (b' : Value) (q : Nat), m < k → bvs[m]? = some b' → b'.ownBlock = some q → b.ownBlock ≠ some q) :
    HalfV W0 (w.setCell ⟨g, k * 2 + 1, none⟩ b) base (.slice (some ⟨g, 0, none⟩) vs.length cap) vs (bvs.set k b) (k + 1) := by
  have hs := h.row.setB hx b
  have hgr : w.grownBy (w.setCell ⟨g, k * 2 + 1, none⟩ b) (Value.slice (some ⟨g, 0, none⟩) vs.length cap).ownBlock := hs.2
  have hk : k < bvs.length := by rw [h.row.len]; exact ltQ hx
  refine ⟨hs.1, ?_, ?_, ?_⟩
  · intro m y c hm hy hc
    by_cases hmk : m = k
    · subst hmk
      rw [List.getElem?_set_self hk] at hc
      obtain rfl := Option.some.inj hc
      obtain rfl := Option.some.inj (hx.symm.trans hy)
      exact own_other_type hb h.row.row (by decide) hgr
    · rw [List.getElem?_set_ne (by omega)] at hc
      exact own_other_type (h.inner m y c (by omega) hy hc) h.row.row (by decide) hgr
  · intro i j c c' q hij hj hc hc' hq
    rw [List.getElem?_set_ne (by omega)] at hc
    by_cases hjk : j = k
    · subst hjk
      rw [List.getElem?_set_self hk] at hc'
      obtain rfl := Option.some.inj hc'
      exact hap i c q hij hc hq
    · rw [List.getElem?_set_ne (by omega)] at hc'
      exact h.apart i j c c' q hij (by omega) hc hc' hq
  · intro m y c hm hy hc
    rw [List.getElem?_set_ne (by omega)] at hc
    exact h.old m y c (by omega) hy hc
theorem HalfV.full {W0 w : World} {base : Nat} {v : Value} {vs : List Vol} {bvs : List Value} (h : HalfV W0 w base v vs bvs vs.length) : OwnV w base v vs bvs :=
  ⟨h.row, fun m x b hx hb => h.inner m x b (ltQ hx) hx hb, fun i j b b' q hne hb hb' hq hq' => by
    have hi := ltQ hb
    have hj := ltQ hb'
    rw [h.row.len] at hi hj
    rcases Nat.lt_or_gt_of_ne hne with h1 | h1
    · exact h.apart i j b b' q h1 hj hb hb' hq hq'
    · exact h.apart j i b' b q h1 hi hb' hb hq' hq⟩
theorem HalfV.far {W0 w : World} {base k : Nat} {v : Value} {vs : List Vol} {bvs : List Value} (h : HalfV W0 w base v vs bvs k) {b : Nat} {cs : Array Value} {t : TypeId} (hB : Blk w b cs t) (ht : 43 ≠ t) (ht2 : 3 ≠ t) (i : Nat) (u : Value) : HalfV W0 (w.setCell ⟨b, i, none⟩ u) base v vs bvs k :=
  ⟨h.row.far hB ht i u, fun m x c hm hx hc => (h.inner m x c hm hx hc).far hB ht2 i u, h.apart, h.old⟩
theorem HalfV.inner_lt {W0 w : World} {base k : Nat} {v : Value} {vs : List Vol} {bvs : List Value} (h : HalfV W0 w base v vs bvs k) {m : Nat} {b : Value} {q : Nat} (hm : m < k) (hb : bvs[m]? = some b) (hk : b.ownBlock = some q) : q < w.heap.size := by
  obtain ⟨x, hx⟩ := getQ (show m < vs.length by rw [← h.row.len]; exact ltQ hb)
  exact own_block_lt (h.inner m x b hm hx hb) hk
/-- The block of a row of volumes is no other block's. -/
theorem Blk.rowset {w : World} {base g n cap j b : Nat} {e : TypeId} {sz : Nat} {xs : List Value} {cs : Array Value} {t : TypeId} (hB : Blk w b cs t) (h : w.ownsRow base e sz (.slice (some ⟨g, 0, none⟩) n cap) n xs) (hne : e ≠ t) (u : Value) :
    Blk (w.setCell ⟨g, j, none⟩ u) b cs t := by
  have hgb : g ≠ b := by
    intro hgb
    obtain ⟨c2, hc2⟩ := own_type h (k := g) rfl
    rw [hgb, show w.heap[b]? = some (.cells cs t (0, 0)) from hB] at hc2
    injection hc2 with hc2
    injection hc2 with _ ht
    exact hne ht.symm
  show (w.setCell ⟨g, j, none⟩ u).heap[b]? = _
  rw [Below.heap_setCell w ⟨g, j, none⟩ u b (fun hh => hgb hh.symm)]
  exact hB

theorem Blk.apart {w : World} {b c : Nat} {cs : Array Value} {t : TypeId} (h : Blk w b cs t) (hne : c ≠ b) (i : Nat) (u : Value) : Blk (w.setCell ⟨c, i, none⟩ u) b cs t := by
  show (w.setCell ⟨c, i, none⟩ u).heap[b]? = _
  rw [Below.heap_setCell w ⟨c, i, none⟩ u b (fun hh => hne hh.symm)]
  exact h

set_option maxHeartbeats 4000000 in
set_option maxRecDepth 10000 in
theorem poolClone_c {w : World} {A0 A1 : Option Addr} {c0 c1 : Nat} {p : Pool} (h : PoolIn w A0 A1 c0 c1 p) (hs : SmallP p) :
    Calls Try.prog 123 #[.agg #[.slice A0 p.slots.length c0, .slice A1 p.vols.length c1]] w (MadeP w p) := by
  have HS := Lib.hid hs
  have HP := Lib.hid h
  have hlv : p.vols.length ≤ 1048576 := hs.vols.len
  have hls : p.slots.length ≤ 1048576 := hs.slots.len
  clear h hs
  go_enter Try.func123, Try.ntmps123
  go_wp2
  have hB : Blk ((w.alloc (.cells #[.slice A0 p.slots.length c0, .slice A1 p.vols.length c1] 30)).alloc (.cells #[.slice none 0 0, .slice none 0 0] 30)) w.heap.size #[.slice A0 p.slots.length c0, .slice A1 p.vols.length c1] 30 := (Blk.new _ _ _).alloc _
  have hR : Blk ((w.alloc (.cells #[.slice A0 p.slots.length c0, .slice A1 p.vols.length c1] 30)).alloc (.cells #[.slice none 0 0, .slice none 0 0] 30)) (w.heap.size + 1) #[.slice none 0 0, .slice none 0 0] 30 := Blk.nw2 _ _ _ _
  have hW : Bel w ((w.alloc (.cells #[.slice A0 p.slots.length c0, .slice A1 p.vols.length c1] 30)).alloc (.cells #[.slice none 0 0, .slice none 0 0] 30)) := bel_alloc (bel_alloc (Below.refl _ _) _) _
  have hl2 : w.heap.size + 2 ≤ ((w.alloc (.cells #[.slice A0 p.slots.length c0, .slice A1 p.vols.length c1] 30)).alloc (.cells #[.slice none 0 0, .slice none 0 0] 30)).heap.size := by simp
  generalize ((w.alloc (.cells #[.slice A0 p.slots.length c0, .slice A1 p.vols.length c1] 30)).alloc (.cells #[.slice none 0 0, .slice none 0 0] 30)) = W0 at hB hR hW hl2 ⊢
  have q0 := hB.cell 0
  have q1 := hB.cell 1
  simp at q0 q1
  have B0 := Lib.hid (show Blk W0.drew w.heap.size #[.slice A0 p.slots.length c0, .slice A1 p.vols.length c1] 30 from hB)
  have R0 := Lib.hid (show Blk W0.drew (w.heap.size + 1) #[.slice none 0 0, .slice none 0 0] 30 from hR)
  have P0 := Lib.hid (HP.out.bel (hW.drew))
  have D0 := Lib.hid (show Bel W0.drew W0.drew from Below.refl _ _)
  have HW := Lib.hid hW
  clear hB hR hW
  refine start_ (n := 9) (S := fun w' => w'.cell? ⟨w.heap.size, 0, none⟩ = some (.slice A0 p.slots.length c0) ∧ w'.cell? ⟨w.heap.size, 1, none⟩ = some (.slice A1 p.vols.length c1)) (ds := [8]) #[false, false, false, false, false, false, false, false, false] (by kernel_rfl) rfl rfl ⟨q0, q1⟩ (fun hHeld => ?_)
  refine pure_ (i := 0) (N := some 5) (v := ?_) (a' := ?_) #[true, false, false, false, false, false, false, false, false] rfl rfl (by kernel_rfl) (fun _ _ _ h => h) (Or.inl ⟨by rfl, ?_⟩) ?_ ?_
  rotate_left
  · intro w'
    go_simp
    with_reducible rfl
  rotate_left
  · simp only [Act.put, List.setIfInBounds_toArray, List.set_cons_zero, List.set_cons_succ, i64_w, i32_w]
    rfl
  refine pure_ (i := 3) (N := some 8) (v := ?_) (a' := ?_) #[true, false, false, true, false, false, false, false, false] rfl rfl (by kernel_rfl) (fun _ _ _ h => h) (Or.inl ⟨by rfl, ?_⟩) ?_ ?_
  rotate_left
  · intro w'
    go_simp
    with_reducible rfl
  rotate_left
  · simp only [Act.put, List.setIfInBounds_toArray, List.set_cons_zero, List.set_cons_succ, i64_w, i32_w]
    rfl
  refine take_ (i := 1) (N := some 6) (v := ?_) (a' := ?_) #[true, true, false, true, false, false, false, false, false] rfl rfl (by kernel_rfl) (fun _ _ _ h => h) (Or.inl ⟨by rfl, ?_⟩) hHeld ?_ ?_
  rotate_left
  · rintro w' ⟨s0, s1⟩
    go_simp
    with_reducible rfl
  rotate_left
  · simp only [Act.put, List.setIfInBounds_toArray, List.set_cons_zero, List.set_cons_succ, i64_w, i32_w]
    rfl
  refine take_ (i := 4) (N := some 9) (v := ?_) (a' := ?_) #[true, true, false, true, true, false, false, false, false] rfl rfl (by kernel_rfl) (fun _ _ _ h => h) (Or.inl ⟨by rfl, ?_⟩) hHeld ?_ ?_
  rotate_left
  · rintro w' ⟨s0, s1⟩
    go_simp
    with_reducible rfl
  rotate_left
  · simp only [Act.put, List.setIfInBounds_toArray, List.set_cons_zero, List.set_cons_succ, i64_w, i32_w]
    rfl
  refine join_ (σ := Option Addr × Nat × Option Addr × Nat × List Value × Nat) 1 #[true, true, true, true, true, true, true, true, false] (fun s => [(7, .slice s.1 p.slots.length s.2.1), (10, .slice s.2.2.1 p.vols.length s.2.2.2.1), (3, .pointer (some ⟨s.2.2.2.2.2, 0, none⟩)), (11, .agg #[.slice s.1 p.slots.length s.2.1, .slice s.2.2.1 p.vols.length s.2.2.2.1])]) (fun s w' => (w'.cell? ⟨w.heap.size, 0, none⟩ = some (.slice A0 p.slots.length c0) ∧ w'.cell? ⟨w.heap.size, 1, none⟩ = some (.slice A1 p.vols.length c1)) ∧ OwnS w' W0.drew.heap.size (.slice s.1 p.slots.length s.2.1) p.slots ∧ HalfV W0.drew w' W0.drew.heap.size (.slice s.2.2.1 p.vols.length s.2.2.2.1) p.vols s.2.2.2.2.1 0 ∧ Blk w' s.2.2.2.2.2 #[.slice none 0 0, .slice none 0 0] 30 ∧ W0.drew.heap.size ≤ s.2.2.2.2.2 ∧ Blk w' (w.heap.size + 1) #[.slice none 0 0, .slice none 0 0] 30 ∧ Bel W0.drew w') ?_ ?_
  rotate_left
  · intro hCont
    refine two_ (i := 2) (j := 7) (Ni := some 7) (Nj := some 3) #[true, true, true, true, true, false, false, false, false] #[true, true, false, true, true, false, false, true, false] rfl rfl rfl rfl (by kernel_rfl) (by decide) (by decide) (fun K hK => ?_) (fun K hK => ?_)
    · skip
      refine goes_ Try.func148 (by kernel_rfl) rfl #[.slice A0 p.slots.length c0] (by rfl) rfl rfl (by simp only [List.map_toArray, List.map_cons, List.map_nil]; rfl) ?_
      with_reducible refine (cloneS_c (P0.out.bel D0.out).s hls).mono ?_
      rintro e w1 ⟨v0, rfl, ho, X1⟩
      have B1 := Lib.hid (Blk.bel B0.out X1)
      have R1 := Lib.hid (Blk.bel R0.out X1)
      have D1 := Lib.hid (Bel.tr D0.out X1)
      have S1 : Hid (OwnS w1 W0.drew.heap.size v0 p.slots) := Lib.hid (own_lower ho D0.out.size)
      clear ho
      obtain ⟨A2, k2, rfl, hc2, hC2⟩ := S1.out.reads
      refine ⟨_, rfl, ?_⟩
      refine hK.out _ _ ⟨B1.out.cell 0, B1.out.cell 1⟩ (fun hHeld => ?_)
      clear hK K
      refine norm_ (a' := ?_) ?_ ?_
      rotate_left
      · show Act.put _ (some 7) _ = _
        simp only [Act.put, List.setIfInBounds_toArray, List.set_cons_zero, List.set_cons_succ, i64_w, i32_w]
        rfl
      refine two_ (i := 5) (j := 7) (Ni := some 10) (Nj := some 3) #[true, true, true, true, true, true, false, false, false] #[true, true, true, true, true, false, false, true, false] rfl rfl rfl rfl (by kernel_rfl) (by decide) (by decide) (fun K hK => ?_) (fun K hK => ?_)
      · skip
        refine goes_ Try.func149 (by kernel_rfl) rfl #[.slice A1 p.vols.length c1] (by rfl) rfl rfl (by simp only [List.map_toArray, List.map_cons, List.map_nil]; rfl) ?_
        with_reducible refine (cloneV_c P0.out.v D1.out hlv).mono ?_
        rintro e w2 ⟨v1, bvs, rfl, ho, hi, X2⟩
        have B2 := Lib.hid (Blk.bel B1.out X2)
        have R2 := Lib.hid (Blk.bel R1.out X2)
        have D2 := Lib.hid (Bel.tr D1.out X2)
        have S2 := Lib.hid (OwnS.bel S1.out X2)
        have V2 := Lib.hid (⟨ho.len, own_lower ho.row D1.out.size⟩ : VRow w2 W0.drew.heap.size v1 p.vols bvs)
        have hi := Lib.hid hi
        clear ho
        obtain ⟨A3, k3, rfl, hc3⟩ := own_cap V2.out.row
        refine ⟨_, rfl, ?_⟩
        refine hK.out _ _ ⟨B2.out.cell 0, B2.out.cell 1⟩ (fun hHeld => ?_)
        clear hK K
        refine norm_ (a' := ?_) ?_ ?_
        rotate_left
        · show Act.put _ (some 10) _ = _
          simp only [Act.put, List.setIfInBounds_toArray, List.set_cons_zero, List.set_cons_succ, i64_w, i32_w]
          rfl
        refine pure_ (i := 6) (N := some 11) (v := ?_) (a' := ?_) #[true, true, true, true, true, true, true, false, false] rfl rfl (by kernel_rfl) (fun _ _ _ h => h) (Or.inl ⟨by rfl, ?_⟩) ?_ ?_
        rotate_left
        · intro w'
          go_simp
          with_reducible rfl
        rotate_left
        · simp only [Act.put, List.setIfInBounds_toArray, List.set_cons_zero, List.set_cons_succ, i64_w, i32_w]
          rfl
        refine one_ (i := 7) (N := some 3) #[true, true, true, true, true, true, true, true, false] rfl rfl (by kernel_rfl) (by decide) (fun K hK => ?_)
        refine value_ (w1 := ?_) (v := ?_) (by rfl) rfl ?_ ?_
        rotate_left 2
        · go_simp
          constructor
          · rfl
          · rfl
        have B3 : Hid (Blk (w2.alloc (.cells #[.slice none 0 0, .slice none 0 0] 30)) w.heap.size #[.slice A0 p.slots.length c0, .slice A1 p.vols.length c1] 30) := Lib.hid (B2.out.alloc (.cells #[.slice none 0 0, .slice none 0 0] 30))
        have R3 : Hid (Blk (w2.alloc (.cells #[.slice none 0 0, .slice none 0 0] 30)) (w.heap.size + 1) #[.slice none 0 0, .slice none 0 0] 30) := Lib.hid (R2.out.alloc (.cells #[.slice none 0 0, .slice none 0 0] 30))
        have D3 : Hid (Bel W0.drew (w2.alloc (.cells #[.slice none 0 0, .slice none 0 0] 30))) := Lib.hid (bel_alloc D2.out (.cells #[.slice none 0 0, .slice none 0 0] 30))
        have S3 := Lib.hid (OwnS.bel S2.out (bel_alloc (Below.refl _ _) (.cells #[.slice none 0 0, .slice none 0 0] 30)))
        have V3 := Lib.hid (VRow.bel V2.out (bel_alloc (Below.refl _ _) (.cells #[.slice none 0 0, .slice none 0 0] 30)))
        have O3 : Hid (Blk (w2.alloc (.cells #[.slice none 0 0, .slice none 0 0] 30)) w2.heap.size #[.slice none 0 0, .slice none 0 0] 30) := Lib.hid (Blk.new w2 #[.slice none 0 0, .slice none 0 0] 30)
        have L3 := D2.out.size
        refine hK.out _ _ ⟨B3.out.cell 0, B3.out.cell 1⟩ (fun hHeld => ?_)
        clear hK K
        refine norm_ (a' := ?_) ?_ ?_
        rotate_left
        · show Act.put _ (some 3) _ = _
          simp only [Act.put, List.setIfInBounds_toArray, List.set_cons_zero, List.set_cons_succ, i64_w, i32_w]
          rfl
        exact norm_ (by simp only [putAll, Act.put, List.setIfInBounds_toArray, List.set_cons_zero, List.set_cons_succ]) (hCont (A2, k2, A3, k3, bvs, w2.heap.size) _ ⟨hHeld, S3.out, ⟨V3.out, fun m x b h0 => absurd h0 (Nat.not_lt_zero _), fun i j b b2 q _ h0 => absurd h0 (Nat.not_lt_zero _), fun m x b _ => hi.out m x b⟩, O3.out, L3, R3.out, D3.out⟩)
      · skip
        refine value_ (w1 := ?_) (v := ?_) (by rfl) rfl ?_ ?_
        rotate_left 2
        · go_simp
          constructor
          · rfl
          · rfl
        have B2 : Hid (Blk (w1.alloc (.cells #[.slice none 0 0, .slice none 0 0] 30)) w.heap.size #[.slice A0 p.slots.length c0, .slice A1 p.vols.length c1] 30) := Lib.hid (B1.out.alloc (.cells #[.slice none 0 0, .slice none 0 0] 30))
        have R2 : Hid (Blk (w1.alloc (.cells #[.slice none 0 0, .slice none 0 0] 30)) (w.heap.size + 1) #[.slice none 0 0, .slice none 0 0] 30) := Lib.hid (R1.out.alloc (.cells #[.slice none 0 0, .slice none 0 0] 30))
        have D2 : Hid (Bel W0.drew (w1.alloc (.cells #[.slice none 0 0, .slice none 0 0] 30))) := Lib.hid (bel_alloc D1.out (.cells #[.slice none 0 0, .slice none 0 0] 30))
        have S2 := Lib.hid (OwnS.bel S1.out (bel_alloc (Below.refl _ _) (.cells #[.slice none 0 0, .slice none 0 0] 30)))
        have O2 : Hid (Blk (w1.alloc (.cells #[.slice none 0 0, .slice none 0 0] 30)) w1.heap.size #[.slice none 0 0, .slice none 0 0] 30) := Lib.hid (Blk.new w1 #[.slice none 0 0, .slice none 0 0] 30)
        have L2 := D1.out.size
        refine hK.out _ _ ⟨B2.out.cell 0, B2.out.cell 1⟩ (fun hHeld => ?_)
        clear hK K
        refine norm_ (a' := ?_) ?_ ?_
        rotate_left
        · show Act.put _ (some 3) _ = _
          simp only [Act.put, List.setIfInBounds_toArray, List.set_cons_zero, List.set_cons_succ, i64_w, i32_w]
          rfl
        refine one_ (i := 5) (N := some 10) #[true, true, true, true, true, true, false, true, false] rfl rfl (by kernel_rfl) (by decide) (fun K hK => ?_)
        refine goes_ Try.func149 (by kernel_rfl) rfl #[.slice A1 p.vols.length c1] (by rfl) rfl rfl (by simp only [List.map_toArray, List.map_cons, List.map_nil]; rfl) ?_
        with_reducible refine (cloneV_c P0.out.v D2.out hlv).mono ?_
        rintro e w3 ⟨v1, bvs, rfl, ho, hi, X3⟩
        have B3 := Lib.hid (Blk.bel B2.out X3)
        have R3 := Lib.hid (Blk.bel R2.out X3)
        have D3 := Lib.hid (Bel.tr D2.out X3)
        have S3 := Lib.hid (OwnS.bel S2.out X3)
        have O3 := Lib.hid (Blk.bel O2.out X3)
        have V3 := Lib.hid (⟨ho.len, own_lower ho.row D2.out.size⟩ : VRow w3 W0.drew.heap.size v1 p.vols bvs)
        have hi := Lib.hid hi
        clear ho
        obtain ⟨A3, k3, rfl, hc3⟩ := own_cap V3.out.row
        refine ⟨_, rfl, ?_⟩
        refine hK.out _ _ ⟨B3.out.cell 0, B3.out.cell 1⟩ (fun hHeld => ?_)
        clear hK K
        refine norm_ (a' := ?_) ?_ ?_
        rotate_left
        · show Act.put _ (some 10) _ = _
          simp only [Act.put, List.setIfInBounds_toArray, List.set_cons_zero, List.set_cons_succ, i64_w, i32_w]
          rfl
        refine pure_ (i := 6) (N := some 11) (v := ?_) (a' := ?_) #[true, true, true, true, true, true, true, true, false] rfl rfl (by kernel_rfl) (fun _ _ _ h => h) (Or.inl ⟨by rfl, ?_⟩) ?_ ?_
        rotate_left
        · intro w'
          go_simp
          with_reducible rfl
        rotate_left
        · simp only [Act.put, List.setIfInBounds_toArray, List.set_cons_zero, List.set_cons_succ, i64_w, i32_w]
          rfl
        exact norm_ (by simp only [putAll, Act.put, List.setIfInBounds_toArray, List.set_cons_zero, List.set_cons_succ]) (hCont (A2, k2, A3, k3, bvs, w1.heap.size) _ ⟨hHeld, S3.out, ⟨V3.out, fun m x b h0 => absurd h0 (Nat.not_lt_zero _), fun i j b b2 q _ h0 => absurd h0 (Nat.not_lt_zero _), fun m x b _ => hi.out m x b⟩, O3.out, L2, R3.out, D3.out⟩)
    · skip
      refine value_ (w1 := ?_) (v := ?_) (by rfl) rfl ?_ ?_
      rotate_left 2
      · go_simp
        constructor
        · rfl
        · rfl
      have B1 : Hid (Blk (W0.alloc (.cells #[.slice none 0 0, .slice none 0 0] 30)).drew w.heap.size #[.slice A0 p.slots.length c0, .slice A1 p.vols.length c1] 30) := Lib.hid (B0.out.alloc (.cells #[.slice none 0 0, .slice none 0 0] 30))
      have R1 : Hid (Blk (W0.alloc (.cells #[.slice none 0 0, .slice none 0 0] 30)).drew (w.heap.size + 1) #[.slice none 0 0, .slice none 0 0] 30) := Lib.hid (R0.out.alloc (.cells #[.slice none 0 0, .slice none 0 0] 30))
      have D1 : Hid (Bel W0.drew (W0.alloc (.cells #[.slice none 0 0, .slice none 0 0] 30)).drew) := Lib.hid (bel_alloc D0.out (.cells #[.slice none 0 0, .slice none 0 0] 30))
      have O1 : Hid (Blk (W0.alloc (.cells #[.slice none 0 0, .slice none 0 0] 30)).drew W0.drew.heap.size #[.slice none 0 0, .slice none 0 0] 30) := Lib.hid (Blk.new W0.drew #[.slice none 0 0, .slice none 0 0] 30)
      have L1 := D0.out.size
      refine hK.out _ _ ⟨B1.out.cell 0, B1.out.cell 1⟩ (fun hHeld => ?_)
      clear hK K
      refine norm_ (a' := ?_) ?_ ?_
      rotate_left
      · show Act.put _ (some 3) _ = _
        simp only [Act.put, List.setIfInBounds_toArray, List.set_cons_zero, List.set_cons_succ, i64_w, i32_w]
        rfl
      refine one_ (i := 2) (N := some 7) #[true, true, true, true, true, false, false, true, false] rfl rfl (by kernel_rfl) (by decide) (fun K hK => ?_)
      refine goes_ Try.func148 (by kernel_rfl) rfl #[.slice A0 p.slots.length c0] (by rfl) rfl rfl (by simp only [List.map_toArray, List.map_cons, List.map_nil]; rfl) ?_
      with_reducible refine (cloneS_c (P0.out.bel D1.out).s hls).mono ?_
      rintro e w2 ⟨v0, rfl, ho, X2⟩
      have B2 := Lib.hid (Blk.bel B1.out X2)
      have R2 := Lib.hid (Blk.bel R1.out X2)
      have D2 := Lib.hid (Bel.tr D1.out X2)
      have O2 := Lib.hid (Blk.bel O1.out X2)
      have S2 : Hid (OwnS w2 W0.drew.heap.size v0 p.slots) := Lib.hid (own_lower ho D1.out.size)
      clear ho
      obtain ⟨A2, k2, rfl, hc2, hC2⟩ := S2.out.reads
      refine ⟨_, rfl, ?_⟩
      refine hK.out _ _ ⟨B2.out.cell 0, B2.out.cell 1⟩ (fun hHeld => ?_)
      clear hK K
      refine norm_ (a' := ?_) ?_ ?_
      rotate_left
      · show Act.put _ (some 7) _ = _
        simp only [Act.put, List.setIfInBounds_toArray, List.set_cons_zero, List.set_cons_succ, i64_w, i32_w]
        rfl
      refine one_ (i := 5) (N := some 10) #[true, true, true, true, true, true, false, true, false] rfl rfl (by kernel_rfl) (by decide) (fun K hK => ?_)
      refine goes_ Try.func149 (by kernel_rfl) rfl #[.slice A1 p.vols.length c1] (by rfl) rfl rfl (by simp only [List.map_toArray, List.map_cons, List.map_nil]; rfl) ?_
      with_reducible refine (cloneV_c P0.out.v D2.out hlv).mono ?_
      rintro e w3 ⟨v1, bvs, rfl, ho, hi, X3⟩
      have B3 := Lib.hid (Blk.bel B2.out X3)
      have R3 := Lib.hid (Blk.bel R2.out X3)
      have D3 := Lib.hid (Bel.tr D2.out X3)
      have S3 := Lib.hid (OwnS.bel S2.out X3)
      have O3 := Lib.hid (Blk.bel O2.out X3)
      have V3 := Lib.hid (⟨ho.len, own_lower ho.row D2.out.size⟩ : VRow w3 W0.drew.heap.size v1 p.vols bvs)
      have hi := Lib.hid hi
      clear ho
      obtain ⟨A3, k3, rfl, hc3⟩ := own_cap V3.out.row
      refine ⟨_, rfl, ?_⟩
      refine hK.out _ _ ⟨B3.out.cell 0, B3.out.cell 1⟩ (fun hHeld => ?_)
      clear hK K
      refine norm_ (a' := ?_) ?_ ?_
      rotate_left
      · show Act.put _ (some 10) _ = _
        simp only [Act.put, List.setIfInBounds_toArray, List.set_cons_zero, List.set_cons_succ, i64_w, i32_w]
        rfl
      refine pure_ (i := 6) (N := some 11) (v := ?_) (a' := ?_) #[true, true, true, true, true, true, true, true, false] rfl rfl (by kernel_rfl) (fun _ _ _ h => h) (Or.inl ⟨by rfl, ?_⟩) ?_ ?_
      rotate_left
      · intro w'
        go_simp
        with_reducible rfl
      rotate_left
      · simp only [Act.put, List.setIfInBounds_toArray, List.set_cons_zero, List.set_cons_succ, i64_w, i32_w]
        rfl
      exact norm_ (by simp only [putAll, Act.put, List.setIfInBounds_toArray, List.set_cons_zero, List.set_cons_succ]) (hCont (A2, k2, A3, k3, bvs, W0.heap.size) _ ⟨hHeld, S3.out, ⟨V3.out, fun m x b h0 => absurd h0 (Nat.not_lt_zero _), fun i j b b2 q _ h0 => absurd h0 (Nat.not_lt_zero _), fun m x b _ => hi.out m x b⟩, O3.out, L1, R3.out, D3.out⟩)
  rintro ⟨A2, k2, A3, k3, bvs, b⟩ w3 ⟨hHeld, hS, hV, hO, hL, hR, hD⟩
  dsimp only at hS hV hO hL
  have r0 := hO.cell 0
  have r1 := hO.cell 1
  have f0 := hO.free 0
  have f1 := hO.free 1
  simp at r0 r1
  refine norm_ (a' := ?_) ?_ ?_
  rotate_left
  · simp only [putAll, Act.put, List.setIfInBounds_toArray, List.set_cons_zero, List.set_cons_succ]
    rfl
  refine last_ (i := 8) (N := none) #[true, true, true, true, true, true, true, true, true] rfl rfl (by kernel_rfl) (by decide) (fun K hK => ?_)
  refine skip_ (w1 := ?_) (by rfl) rfl ?_ ?_
  rotate_left
  · go_simp
    rfl
  refine hK.out _ _ ?_
  clear hK K
  refine done_ (by kernel_rfl) ?_
  have hO4 := (hO.set 0 (.slice A2 p.slots.length k2) (cs' := #[.slice A2 p.slots.length k2, .slice none 0 0]) rfl)
  have hO5 := hO4.set 1 (.slice A3 p.vols.length k3) (cs' := #[.slice A2 p.slots.length k2, .slice A3 p.vols.length k3]) rfl
  have hne : b ≠ w.heap.size + 1 := fun h => by have : W0.drew.heap.size = W0.heap.size := rfl; omega
  have HR5 : Blk ((w3.setCell ⟨b, 0, none⟩ (.slice A2 p.slots.length k2)).setCell ⟨b, 1, none⟩ (.slice A3 p.vols.length k3)) (w.heap.size + 1) #[.slice none 0 0, .slice none 0 0] 30 := (hR.apart hne 0 _).apart hne 1 _
  have hS5 := (hS.far hO (by decide) 0 (.slice A2 p.slots.length k2)).far hO4 (by decide) 1 (.slice A3 p.vols.length k3)
  have hV5 := (hV.far hO (by decide) (by decide) 0 (.slice A2 p.slots.length k2)).far hO4 (by decide) (by decide) 1 (.slice A3 p.vols.length k3)
  have hD5 := bel_set (bel_set hD hL 0 (.slice A2 p.slots.length k2)) hL 1 (.slice A3 p.vols.length k3)
  generalize ((w3.setCell ⟨b, 0, none⟩ (.slice A2 p.slots.length k2)).setCell ⟨b, 1, none⟩ (.slice A3 p.vols.length k3)) = w5 at hO5 HR5 hS5 hV5 hD5 ⊢
  clear hO hO4 hR hS hV hD r0 r1 f0 f1 hHeld q0 q1
  have u0 := hO5.cell 0
  have u1 := hO5.cell 1
  simp at u0 u1
  have K5 := Lib.hid hO5
  have KR5 := Lib.hid HR5
  have KS5 := Lib.hid hS5
  have KV5 := Lib.hid hV5
  have KD5 := Lib.hid hD5
  clear hO5 HR5 hS5 hV5 hD5
  go_wp2
  go_loopg [15] p.vols.length (fun g v15 W => ∃ k : Nat, g + k = p.vols.length ∧ v15 = .int .i64 k ∧ (∃ bvs, HalfV W0.drew W W0.drew.heap.size (.slice A3 p.vols.length k3) p.vols bvs k) ∧ Blk W b #[.slice A2 p.slots.length k2, .slice A3 p.vols.length k3] 30 ∧ Blk W (w.heap.size + 1) #[.slice none 0 0, .slice none 0 0] 30 ∧ OwnS W W0.drew.heap.size (.slice A2 p.slots.length k2) p.slots ∧ Bel W0.drew W)
  case atStart => exact ⟨0, rfl, rfl, ⟨_, KV5.out⟩, K5.out, KR5.out, KS5.out, KD5.out⟩
  case round =>
    obtain ⟨k, hk, rfl, ⟨bvs, hv⟩, hO, hR, hS, hD⟩ := hrel
    have q0 := hO.cell 0
    have q1 := hO.cell 1
    have r0 := hR.cell 0
    have r1 := hR.cell 1
    have f0 := hR.free 0
    have f1 := hR.free 1
    simp at q0 q1 r0 r1
    clear u0 u1
    have HV := Lib.hid hv
    have HO := Lib.hid hO
    have HR := Lib.hid hR
    have HS2 := Lib.hid hS
    have HD := Lib.hid hD
    clear hO hR hS hD
    by_cases hlt : k < p.vols.length
    · obtain ⟨x, hx⟩ := getQ hlt
      obtain ⟨g, cap, bv, hbv, ev, hg1, hg2, hcap, hc, hc', hf, hf'⟩ := hv.row.at hx
      obtain ⟨rfl, -, rfl⟩ := by simpa using ev
      obtain ⟨A4, k4, rfl, hk4, hC4⟩ := hv.old k x bv (Nat.le_refl _) hx hbv
      have hx1 : x.blocks.length ≤ 1048576 := HS.out.vols.blocks x (List.mem_of_getElem? hx)
      have HX := Lib.hid hx
      have HC4 := Lib.hid (Kd.C_below hC4 HD.out)
      clear hv ev hx hC4 hbv
      go_wp2
      refine start_ (n := 13) (S := fun w' => w'.cell? ⟨b, 1, none⟩ = some (.slice (some ⟨g, 0, none⟩) p.vols.length k3) ∧ w'.cell? ⟨g, k * 2 + 1, none⟩ = some (.slice A4 x.blocks.length k4)) (ds := [12]) #[false, false, false, false, false, false, false, false, false, false, false, false, false] (by kernel_rfl) rfl rfl ⟨q1, hc'⟩ (fun hHeld => ?_)
      refine pure_ (i := 0) (N := some 18) (v := ?_) (a' := ?_) #[true, false, false, false, false, false, false, false, false, false, false, false, false] rfl rfl (by kernel_rfl) (fun _ _ _ h => h) (Or.inl ⟨by rfl, ?_⟩) ?_ ?_
      rotate_left
      · intro w'
        go_simp
        with_reducible rfl
      rotate_left
      · simp only [Act.put, List.setIfInBounds_toArray, List.set_cons_zero, List.set_cons_succ, i64_w, i32_w]
        rfl
      refine pure_ (i := 2) (N := some 20) (v := ?_) (a' := ?_) #[true, false, true, false, false, false, false, false, false, false, false, false, false] rfl rfl (by kernel_rfl) (fun _ _ _ h => h) (Or.inl ⟨by rfl, ?_⟩) ?_ ?_
      rotate_left
      · intro w'
        go_simp
        with_reducible rfl
      rotate_left
      · simp only [Act.put, List.setIfInBounds_toArray, List.set_cons_zero, List.set_cons_succ, i64_w, i32_w]
        rfl
      refine pure_ (i := 3) (N := some 21) (v := ?_) (a' := ?_) #[true, false, true, true, false, false, false, false, false, false, false, false, false] rfl rfl (by kernel_rfl) (fun _ _ _ h => h) (Or.inl ⟨by rfl, ?_⟩) ?_ ?_
      rotate_left
      · intro w'
        go_simp
        with_reducible rfl
      rotate_left
      · simp only [Act.put, List.setIfInBounds_toArray, List.set_cons_zero, List.set_cons_succ, i64_w, i32_w]
        rfl
      refine pure_ (i := 5) (N := some 23) (v := ?_) (a' := ?_) #[true, false, true, true, false, true, false, false, false, false, false, false, false] rfl rfl (by kernel_rfl) (fun _ _ _ h => h) (Or.inl ⟨by rfl, ?_⟩) ?_ ?_
      rotate_left
      · intro w'
        go_simp
        with_reducible rfl
      rotate_left
      · simp only [Act.put, List.setIfInBounds_toArray, List.set_cons_zero, List.set_cons_succ, i64_w, i32_w]
        rfl
      refine take_ (i := 1) (N := some 19) (v := ?_) (a' := ?_) #[true, true, true, true, false, true, false, false, false, false, false, false, false] rfl rfl (by kernel_rfl) (fun _ _ _ h => h) (Or.inl ⟨by rfl, ?_⟩) hHeld ?_ ?_
      rotate_left
      · rintro w' ⟨s0, s1⟩
        go_simp
        with_reducible rfl
      rotate_left
      · simp only [Act.put, List.setIfInBounds_toArray, List.set_cons_zero, List.set_cons_succ, i64_w, i32_w]
        rfl
      refine take_ (i := 4) (N := some 22) (v := ?_) (a' := ?_) #[true, true, true, true, true, true, false, false, false, false, false, false, false] rfl rfl (by kernel_rfl) (fun _ _ _ h => h) (Or.inl ⟨by rfl, ?_⟩) hHeld ?_ ?_
      rotate_left
      · rintro w' ⟨s0, s1⟩
        go_simp
        with_reducible rfl
      rotate_left
      · simp only [Act.put, List.setIfInBounds_toArray, List.set_cons_zero, List.set_cons_succ, i64_w, i32_w]
        rfl
      refine pure_ (i := 6) (N := some 24) (v := ?_) (a' := ?_) #[true, true, true, true, true, true, true, false, false, false, false, false, false] rfl rfl (by kernel_rfl) (fun _ _ _ h => h) (Or.inl ⟨by rfl, ?_⟩) ?_ ?_
      rotate_left
      · intro w'
        go_simp
        with_reducible rfl
      rotate_left
      · simp only [Act.put, List.setIfInBounds_toArray, List.set_cons_zero, List.set_cons_succ, i64_w, i32_w]
        rfl
      refine pure_ (i := 7) (N := some 25) (v := ?_) (a' := ?_) #[true, true, true, true, true, true, true, true, false, false, false, false, false] rfl rfl (by kernel_rfl) (fun _ _ _ h => h) (Or.inl ⟨by rfl, ?_⟩) ?_ ?_
      rotate_left
      · intro w'
        go_simp
        with_reducible rfl
      rotate_left
      · simp only [Act.put, List.setIfInBounds_toArray, List.set_cons_zero, List.set_cons_succ, i64_w, i32_w]
        rfl
      refine take_ (i := 8) (N := some 26) (v := ?_) (a' := ?_) #[true, true, true, true, true, true, true, true, true, false, false, false, false] rfl rfl (by kernel_rfl) (fun _ _ _ h => h) (Or.inl ⟨by rfl, ?_⟩) hHeld ?_ ?_
      rotate_left
      · rintro w' ⟨s0, s1⟩
        go_simp
        with_reducible rfl
      rotate_left
      · simp only [Act.put, List.setIfInBounds_toArray, List.set_cons_zero, List.set_cons_succ, i64_w, i32_w]
        rfl
      refine one_ (i := 9) (N := some 27) #[true, true, true, true, true, true, true, true, true, true, false, false, false] rfl rfl (by kernel_rfl) (by decide) (fun K hK => ?_)
      refine goes_ Try.func109 (by kernel_rfl) rfl #[.slice A4 x.blocks.length k4] (by rfl) rfl rfl (by simp only [List.map_toArray, List.map_cons, List.map_nil]; rfl) ?_
      with_reducible refine (cloneI_c (Kd.C_drew HC4.out) hx1).mono ?_
      rintro e w6 ⟨v6, rfl, ho, hb6⟩
      obtain ⟨A6, k6, rfl, hk6, hC6⟩ := ho.reads
      have hO6 := HO.out.bel (w := wr.drew) hb6
      have HV6 := Lib.hid (HalfV.bel (w := wr.drew) (HV.out.bel (Below.refl _ _).drew) hb6)
      have HO6 := Lib.hid hO6
      have HI6 := Lib.hid ho
      have d1 := (Below.cell hb6 hg2).trans hc'
      have d0 := hO6.cell 1
      have e0 := World.ownsRow.frozenAt HV6.out.row.row (k * 2 + 1)
      simp at d0
      clear hO6 ho
      refine ⟨_, rfl, ?_⟩
      refine hK.out _ _ ⟨d0, d1⟩ (fun hHeld => ?_)
      clear hK K
      refine norm_ (a' := ?_) ?_ ?_
      rotate_left
      · show Act.put _ (some 27) _ = _
        simp only [Act.put, List.setIfInBounds_toArray, List.set_cons_zero, List.set_cons_succ, i64_w, i32_w]
        rfl
      refine pure_ (i := 10) (N := some 28) (v := ?_) (a' := ?_) #[true, true, true, true, true, true, true, true, true, true, true, false, false] rfl rfl (by kernel_rfl) (fun _ _ _ h => h) (Or.inl ⟨by rfl, ?_⟩) ?_ ?_
      rotate_left
      · intro w'
        go_simp
        with_reducible rfl
      rotate_left
      · simp only [Act.put, List.setIfInBounds_toArray, List.set_cons_zero, List.set_cons_succ, i64_w, i32_w]
        rfl
      refine pure_ (i := 11) (N := some 29) (v := ?_) (a' := ?_) #[true, true, true, true, true, true, true, true, true, true, true, true, false] rfl rfl (by kernel_rfl) (fun _ _ _ h => h) (Or.inl ⟨by rfl, ?_⟩) ?_ ?_
      rotate_left
      · intro w'
        go_simp
        with_reducible rfl
      rotate_left
      · simp only [Act.put, List.setIfInBounds_toArray, List.set_cons_zero, List.set_cons_succ, i64_w, i32_w]
        rfl
      refine last_ (i := 12) (N := none) #[true, true, true, true, true, true, true, true, true, true, true, true, true] rfl rfl (by kernel_rfl) (by decide) (fun K hK => ?_)
      refine skip_ (w1 := ?_) (by rfl) rfl ?_ ?_
      rotate_left
      · go_simp
        rfl
      refine hK.out _ _ ?_
      clear hK K
      refine done_ (by kernel_rfl) ?_
      have hst := HalfV.step HV6.out HX.out (own_lower HI6.out HD.out.drew.size) (fun m b' q hm hb' hq hq2 => by
        have h1 := HV.out.inner_lt hm hb' hq
        have h2 := own_block_ge HI6.out hq2
        have h3 : wr.drew.heap.size = wr.heap.size := rfl
        omega)
      have hO7 := HO6.out.rowset HV6.out.row.row (by decide) (j := k * 2 + 1) (.slice A6 x.blocks.length k6)
      have hR7 := (HR.out.bel (w := wr.drew) hb6).rowset HV6.out.row.row (by decide) (j := k * 2 + 1) (.slice A6 x.blocks.length k6)
      have hS7 := own_other_type (HS2.out.bel (w := wr.drew) hb6) HV6.out.row.row (by decide) (HV6.out.row.setB HX.out (.slice A6 x.blocks.length k6)).2
      have hD7 := bel_set (Bel.tr (b := wr.drew) HD.out.drew hb6) hg1 (k * 2 + 1) (.slice A6 x.blocks.length k6)
      have H7 := Lib.hid (And.intro (And.intro hO7 hR7) (And.intro hS7 (And.intro hD7 hst)))
      clear hst hO7 hR7 hS7 hD7
      go_wp2
      go_roundg (p.vols.length - (k + 1))
      case rel => exact ⟨k + 1, by omega, int_eq (by omega), ⟨_, H7.out.2.2.2⟩, H7.out.1.1, H7.out.1.2, H7.out.2.1, H7.out.2.2.1⟩
      case measure => omega
    · have hkl : k = p.vols.length := by omega
      subst hkl
      have hop : OwnP wr W0.drew.heap.size (.slice A2 p.slots.length k2) (.slice A3 p.vols.length k3) p bvs := ⟨HS2.out, HV.out.full⟩
      have HOP := Lib.hid hop
      clear hv hop
      go_wp2
      have hR3 := HR.out.set 0 (.slice A2 p.slots.length k2) (cs' := #[.slice A2 p.slots.length k2, .slice none 0 0]) rfl
      have hR4 := hR3.set 1 (.slice A3 p.vols.length k3) (cs' := #[.slice A2 p.slots.length k2, .slice A3 p.vols.length k3]) rfl
      have hop4 := (HOP.out.far HR.out (by decide) (by decide) (by decide) 0 (.slice A2 p.slots.length k2)).far hR3 (by decide) (by decide) (by decide) 1 (.slice A3 p.vols.length k3)
      have hb4 := bel_set (bel_set (Bel.tr (b := W0.drew) HW.out.drew HD.out) (Nat.le_succ _) 0 (.slice A2 p.slots.length k2)) (Nat.le_succ _) 1 (.slice A3 p.vols.length k3)
      refine bodyPost_ret (results_cell_row rfl _ _ (w.heap.size + 1) 30 #[.slice A2 p.slots.length k2, .slice A3 p.vols.length k3] (0, 0) _ rfl hR4 Try.underlying30 rfl (by kernel_rfl)) rfl ?_
      exact ⟨_, _, _, rfl, hop4.lower (by have : W0.drew.heap.size = W0.heap.size := rfl; omega), hb4⟩
end Go.Proofs.Ytpobgjkmjlmafaa
/- A pool that is a variable of one's own; a volume put into it. -/


namespace Go.Proofs.Ytpobgjkmjlmafaa
open Go.RowKit Go.Proofs.YtpobgjkmjlmafaaW.PrintWords Go.Proofs.YtpobgjkmjlmafaaW.PrintLast
set_option linter.unusedVariables false
set_option linter.unusedSimpArgs false

/-- Block b is a variable that holds the pool p; all that p has is of one's own, behind base. -/
structure PV (w : World) (b base : Nat) (p : Pool) : Prop where
  h : ∃ v0 v1 bvs, Blk w b #[v0, v1] 30 ∧ OwnP w base v0 v1 p bvs
  lo : base ≤ b
theorem PV.bel {w w' : World} {b base : Nat} {p : Pool} (h : PV w b base p) (hb : Bel w w') : PV w' b base p := by
  obtain ⟨⟨v0, v1, bvs, h1, h2⟩, h3⟩ := h
  exact ⟨⟨v0, v1, bvs, h1.bel hb, h2.bel hb⟩, h3⟩
/-- A step on such a variable: p becomes q, what lies below base is as it was. -/
def PVStep (b base : Nat) (q : Pool) (r : Value) (w : World) (e : Ending) (w' : World) : Prop := e = .returned r ∧ PV w' b base q ∧ Below base w w'
theorem own_one {w : World} {base : Nat} {e : TypeId} {sz n : Nat} {v : Value} {xs : List Value} (h : w.ownsRow base e sz v n xs) : v.oneCell' = true := by
  obtain ⟨A, c, rfl, _⟩ := own_cap h; rfl
theorem OwnV.one {w : World} {base : Nat} {v : Value} {vs : List Vol} {bvs : List Value} (h : OwnV w base v vs bvs) : ∀ b ∈ bvs, b.oneCell' = true := by
  intro b hb
  obtain ⟨m, hm⟩ := List.getElem?_of_mem hb
  obtain ⟨x, hx⟩ := getQ (show m < vs.length by rw [← h.row.len]; exact ltQ hm)
  exact own_one (h.inner m x b hx hm)
theorem insAt_get {α} {i : Nat} {x : α} {xs : List α} (hi : i ≤ xs.length) (k : Nat) : (insAt i x xs)[k]? = if k < i then xs[k]? else if k = i then some x else xs[k - 1]? := by
  unfold insAt
  have ht : (xs.take i).length = i := by rw [List.length_take]; omega
  by_cases h1 : k < i
  · rw [if_pos h1, List.getElem?_append_left (by omega), List.getElem?_take, if_pos h1]
  · rw [if_neg h1, List.getElem?_append_right (by omega), ht]
    by_cases h2 : k = i
    · rw [if_pos h2, h2, Nat.sub_self]; rfl
    · rw [if_neg h2, show k - i = (k - 1 - i) + 1 by omega, List.getElem?_cons_succ, List.getElem?_drop]
      congr 1; omega
/-- One volume more, in its place. -/
theorem OwnV.ins {W w1 : World} {base i : Nat} {v v1 : Value} {vs : List Vol} {bvs : List Value} {x : Vol} {b : Value} (h : OwnV W base v vs bvs) (hb : OwnI W base b x.blocks) (hi : i ≤ vs.length)
    (hap : ∀ (m : Nat) (b' : Value) (k : Nat), bvs[m]? = some b' → b'.ownBlock = some k → b.ownBlock ≠ some k) (hg : W.grownBy w1 v.ownBlock)
    (hr : VRow w1 base v1 (insAt i x vs) (insAt i b bvs)) : OwnV w1 base v1 (insAt i x vs) (insAt i b bvs) := by
  have hl := h.row.len
  refine ⟨hr, ?_, ?_⟩
  · intro m y c hy hc
    rw [insAt_get (by omega)] at hy hc
    by_cases h1 : m < i
    · rw [if_pos h1] at hy hc
      exact own_other_type (h.inner m y c hy hc) h.row.row (by decide) hg
    · rw [if_neg h1] at hy hc
      by_cases h2 : m = i
      · rw [if_pos h2] at hy hc
        obtain rfl := Option.some.inj hy
        obtain rfl := Option.some.inj hc
        exact own_other_type hb h.row.row (by decide) hg
      · rw [if_neg h2] at hy hc
        exact own_other_type (h.inner (m - 1) y c hy hc) h.row.row (by decide) hg
  · have hne : ∀ m c k, m ≠ i → (insAt i b bvs)[m]? = some c → c.ownBlock = some k → b.ownBlock ≠ some k := by
      intro m c k hm hc hk
      rw [insAt_get (by omega)] at hc
      by_cases h1 : m < i
      · rw [if_pos h1] at hc; exact hap m c k hc hk
      · rw [if_neg h1, if_neg hm] at hc; exact hap (m - 1) c k hc hk
    intro m j c c' k hmj hc hc' hk hk'
    by_cases h1 : m = i
    · subst h1
      rw [insAt_get (by omega), if_neg (by omega), if_pos rfl] at hc
      obtain rfl := Option.some.inj hc
      exact hne j c' k (by omega) hc' hk' hk
    · by_cases h2 : j = i
      · subst h2
        rw [insAt_get (by omega), if_neg (by omega), if_pos rfl] at hc'
        obtain rfl := Option.some.inj hc'
        exact hne m c k h1 hc hk hk'
      · rw [insAt_get (by omega)] at hc hc'
        have key : ∀ m : Nat, m ≠ i → ∀ c, (if m < i then bvs[m]? else if m = i then some b else bvs[m - 1]?) = some c → bvs[if m < i then m else m - 1]? = some c := by
          intro m hm c hc
          by_cases h3 : m < i
          · rwa [if_pos h3] at hc ⊢
          · rw [if_neg h3, if_neg hm] at hc; rwa [if_neg h3]
        refine h.apart _ _ c c' k ?_ (key m h1 c hc) (key j h2 c' hc') hk hk'
        split <;> split <;> omega

theorem Blk.grown {w w' : World} {b : Nat} {cs : Array Value} {t : TypeId} {r : Option Nat} (h : Blk w b cs t) (hg : w.grownBy w' r) (hne : some b ≠ r) : Blk w' b cs t := (hg.block b (Blk.lt h) hne).trans h
theorem own_blk_ne {w : World} {base : Nat} {e : TypeId} {sz n : Nat} {v : Value} {xs : List Value} (h : w.ownsRow base e sz v n xs) {b : Nat} {cs : Array Value} {t : TypeId} (hB : Blk w b cs t) (hne : e ≠ t) : some b ≠ v.ownBlock := by
  intro hk
  obtain ⟨c2, hc2⟩ := own_type h hk.symm
  rw [show w.heap[b]? = some (.cells cs t (0, 0)) from hB] at hc2
  injection hc2 with hc2
  injection hc2 with _ ht
  exact hne ht.symm
end Go.Proofs.Ytpobgjkmjlmafaa
/- Plain Lean: valid pools; what making, writing, cloning, and doing away with a volume make of one. -/


namespace Go.Proofs.Ytpobgjkmjlmafaa
open Go.RowKit Go.Proofs.YtpobgjkmjlmafaaW.PrintWords
set_option linter.unusedVariables false
set_option linter.unusedSimpArgs false

/-- Volumes by name. -/
def SortV (vs : List Vol) : Prop := ∀ (i j : Nat) (x y : Vol), i < j → vs[i]? = some x → vs[j]? = some y → nmN x.name < nmN y.name
structure VolsP (vs : List Vol) : Prop where
  v : ∀ (m : Nat) (x : Vol), vs[m]? = some x → volOk x = true
  sort : SortV vs
theorem VolsP.nm {vs : List Vol} (h : VolsP vs) {m : Nat} {x : Vol} (hx : vs[m]? = some x) : isNm x.name = true := (volOk_parts (h.v m x hx)).2.1
theorem VolsP.low {vs : List Vol} (h : VolsP vs) : ∀ (m : Nat) (x : Vol), vs[m]? = some x → 65 + m ≤ nmN x.name := by
  intro m
  induction m with
  | zero => intro x hx; exact (nm_bd (h.nm hx)).1
  | succ m ih =>
    intro x hx
    obtain ⟨y, hy⟩ := getQ (show m < vs.length by have := ltQ hx; omega)
    have h1 := ih y hy
    have h2 := h.sort m (m + 1) y x (by omega) hy hx
    omega
theorem VolsP.len {vs : List Vol} (h : VolsP vs) : vs.length ≤ 4 := by
  by_cases hl : vs.length ≤ 4
  · exact hl
  · obtain ⟨x, hx⟩ := getQ (show 4 < vs.length by omega)
    have h1 := h.low 4 x hx
    have h2 := (nm_bd (h.nm hx)).2
    omega
theorem VolsP.uniq {vs : List Vol} (h : VolsP vs) {i j : Nat} {x y : Vol} (hx : vs[i]? = some x) (hy : vs[j]? = some y) (he : x.name = y.name) : i = j := by
  rcases Nat.lt_trichotomy i j with h1 | h1 | h1
  · have := h.sort i j x y h1 hx hy; rw [he] at this; omega
  · exact h1
  · have := h.sort j i y x h1 hy hx; rw [he] at this; omega
structure PoolP (p : Pool) : Prop where
  s : StoreP p.slots
  v : VolsP p.vols
  uses : ∀ (m : Nat) (x : Slot), p.slots[m]? = some x → x.uses = uses (m + 1) p.vols
theorem volsOk_iff {vs : List Vol} : (allN (volsAt vs) vs.length = true) ↔ VolsP vs := by
  rw [allN_iff]
  have key : ∀ i x, vs[i]? = some x → (volsAt vs i = true ↔ volOk x = true ∧ (0 < i → Op.bytesLess (vs.getD (i - 1) Vol.z).name.toList x.name.toList = true)) := by
    intro i x hx
    unfold volsAt
    rw [getD_of hx]
    simp
    intro _
    by_cases h0 : i = 0
    · subst h0; simp
    · simp [Nat.pos_of_ne_zero h0]
      exact fun h => absurd h h0
  constructor
  · intro h
    have hv : ∀ (m : Nat) (x : Vol), vs[m]? = some x → volOk x = true := fun m x hx => ((key m x hx).1 (h m (ltQ hx))).1
    have hs : ∀ (d i : Nat) (x y : Vol), vs[i]? = some x → vs[i + d + 1]? = some y → nmN x.name < nmN y.name := by
      intro d
      induction d with
      | zero =>
        intro i x y hx hy
        have h1 := ((key _ y hy).1 (h _ (ltQ hy))).2 (by omega)
        rw [show i + 0 + 1 - 1 = i by omega, getD_of hx, nm_lt (volOk_parts (hv _ _ hx)).2.1 (volOk_parts (hv _ _ hy)).2.1] at h1
        simpa using h1
      | succ d ih =>
        intro i x y hx hy
        obtain ⟨z, hz⟩ := getQ (show i + d + 1 < vs.length by have := ltQ hy; omega)
        have h1 := ((key _ y hy).1 (h _ (ltQ hy))).2 (by omega)
        rw [show i + (d + 1) + 1 - 1 = i + d + 1 by omega, getD_of hz, nm_lt (volOk_parts (hv _ _ hz)).2.1 (volOk_parts (hv _ _ hy)).2.1] at h1
        have h2 := ih i x z hx hz
        simp at h1; omega
    exact ⟨hv, fun i j x y hij hx hy => hs (j - i - 1) i x y hx (by rw [show i + (j - i - 1) + 1 = j by omega]; exact hy)⟩
  · intro h i hi
    obtain ⟨x, hx⟩ := getQ hi
    refine (key i x hx).2 ⟨h.v i x hx, fun h0 => ?_⟩
    obtain ⟨y, hy⟩ := getQ (show i - 1 < vs.length by omega)
    rw [getD_of hy, nm_lt (h.nm hy) (h.nm hx)]
    simpa using h.sort (i - 1) i y x (by omega) hy hx
theorem poolOk_iff {p : Pool} : poolOk p = true ↔ PoolP p := by
  unfold poolOk
  rw [Bool.and_eq_true, Bool.and_eq_true, Bool.and_eq_true, storeOk_iff, volsOk_iff, decide_eq_true_eq, allN_iff]
  constructor
  · rintro ⟨⟨⟨h1, h2⟩, h3⟩, h4⟩
    refine ⟨h1, h3, fun m x hx => ?_⟩
    have := h4 m (by have := ltQ hx; rwa [h1.len] at this)
    unfold usesAt at this; rw [getD_of hx] at this
    simpa using this
  · rintro ⟨h1, h2, h3⟩
    refine ⟨⟨⟨h1, h2.len⟩, h2⟩, fun m hm => ?_⟩
    obtain ⟨x, hx⟩ := getQ (show m < p.slots.length by rw [h1.len]; exact hm)
    unfold usesAt; rw [getD_of hx]
    simpa using h3 m x hx

/-! ### counting -/
theorem uses_append (p : Int) (xs ys : List Vol) : uses p (xs ++ ys) = uses p xs + uses p ys := by
  induction xs with
  | nil => simp [uses]
  | cons a xs ih => simp only [List.cons_append, uses, ih]; omega
theorem uses_insAt (p : Int) (vs : List Vol) (x : Vol) (i : Nat) : uses p (insAt i x vs) = uses p vs + cnt p x.blocks := by
  unfold insAt
  rw [uses_append, uses]
  have := uses_append p (vs.take i) (vs.drop i)
  rw [List.take_append_drop] at this
  omega
theorem uses_erase {p : Int} {vs : List Vol} {x : Vol} {i : Nat} (hx : vs[i]? = some x) : uses p (vs.eraseIdx i) = uses p vs - cnt p x.blocks := by
  induction vs generalizing i with
  | nil => simp at hx
  | cons a vs ih =>
    cases i with
    | zero => simp at hx; subst hx; simp [uses]; omega
    | succ i => simp at hx; simp only [List.eraseIdx_cons_succ, uses, ih hx]; omega
theorem uses_set {p : Int} {vs : List Vol} {x y : Vol} {i : Nat} (hx : vs[i]? = some x) : uses p (vs.set i y) = uses p vs - cnt p x.blocks + cnt p y.blocks := by
  induction vs generalizing i with
  | nil => simp at hx
  | cons a vs ih =>
    cases i with
    | zero => simp at hx; subst hx; simp [uses]; omega
    | succ i => simp at hx; simp only [List.set_cons_succ, uses, ih hx]; omega
theorem cnt_set {p : Int} {bs : List Int} {x y : Int} {i : Nat} (hx : bs[i]? = some x) : cnt p (bs.set i y) = cnt p bs - (if x = p then 1 else 0) + (if y = p then 1 else 0) := by
  induction bs generalizing i with
  | nil => simp at hx
  | cons a bs ih =>
    cases i with
    | zero => simp at hx; subst hx; simp [cnt]; omega
    | succ i => simp at hx; simp only [List.set_cons_succ, cnt, ih hx]; omega
theorem uses_nonneg (p : Int) (vs : List Vol) : 0 ≤ uses p vs := by
  induction vs with
  | nil => simp [uses]
  | cons a vs ih => have := cnt_le p a.blocks; simp only [uses]; omega
theorem uses_mem {p : Int} {vs : List Vol} {x : Vol} {i : Nat} (hx : vs[i]? = some x) : cnt p x.blocks ≤ uses p vs := by
  have h1 := uses_erase (p := p) hx
  have h2 := uses_nonneg p (vs.eraseIdx i)
  omega
theorem cnt_pos {p : Int} {bs : List Int} (h : p ∈ bs) : 1 ≤ cnt p bs := by
  induction bs with
  | nil => simp at h
  | cons a bs ih =>
    have := cnt_le p bs
    simp only [cnt]
    rcases List.mem_cons.1 h with h | h
    · rw [if_pos h.symm]; omega
    · have := ih h; split <;> omega
theorem uses_bd {p : Int} {vs : List Vol} (h : ∀ x ∈ vs, volOk x = true) : uses p vs ≤ 6 * vs.length := by
  induction vs with
  | nil => simp [uses]
  | cons a vs ih =>
    have h1 := ih (fun x hx => h x (List.mem_cons_of_mem _ hx))
    have h2 := (volOk_parts (h a List.mem_cons_self)).2.2.2
    have h3 := cnt_le p a.blocks
    simp only [uses, List.length_cons]; omega
theorem VolsP.uses_le {vs : List Vol} (h : VolsP vs) (p : Int) : uses p vs ≤ 24 := by
  have h1 := uses_bd (p := p) (vs := vs) (fun x hx => by obtain ⟨m, hm⟩ := List.getElem?_of_mem hx; exact h.v m x hm)
  have h2 := h.len
  omega

/-! ### where a name stands -/
def posOf (t : ByteArray) : List Vol → Nat
  | [] => 0
  | v :: vs => if Op.bytesLess t.toList v.name.toList then 0 else posOf t vs + 1
theorem posOf_le (t : ByteArray) (vs : List Vol) : posOf t vs ≤ vs.length := by
  induction vs with
  | nil => simp [posOf]
  | cons v vs ih => unfold posOf; split <;> simp; omega
theorem posOf_lt {t : ByteArray} {vs : List Vol} {m : Nat} {x : Vol} (hm : m < posOf t vs) (hx : vs[m]? = some x) : Op.bytesLess t.toList x.name.toList = false := by
  induction vs generalizing m with
  | nil => simp at hx
  | cons v vs ih =>
    unfold posOf at hm
    split at hm
    · omega
    · rename_i h
      cases m with
      | zero => simp at hx; subst hx; simpa using h
      | succ m => exact ih (m := m) (by omega) (by simpa using hx)
theorem posOf_at {t : ByteArray} {vs : List Vol} {x : Vol} (hx : vs[posOf t vs]? = some x) : Op.bytesLess t.toList x.name.toList = true := by
  induction vs with
  | nil => simp at hx
  | cons v vs ih =>
    unfold posOf at hx
    split at hx
    · rename_i h; simp at hx; subst hx; exact h
    · exact ih (by simpa using hx)
theorem volIdx_no {vs : List Vol} {t : ByteArray} : volIdx vs t < 0 ↔ ∀ (m : Nat) (x : Vol), vs[m]? = some x → x.name ≠ t := by
  have hb := idx_bd (fun v : Vol => v.name.toList == t.toList) vs
  have hv : volIdx vs t = idx (fun v : Vol => v.name.toList == t.toList) vs := rfl
  rw [hv]
  constructor
  · intro h m x hx he
    have : vs.any (fun v : Vol => v.name.toList == t.toList) = true := by rw [List.any_eq_true]; exact ⟨x, List.mem_of_getElem? hx, textB.2 he⟩
    have := hb.2.2.2 this
    omega
  · intro h
    by_cases h0 : 0 ≤ idx (fun v : Vol => v.name.toList == t.toList) vs
    · obtain ⟨x, hx, hf⟩ := idx_get h0
      exact absurd (textB.1 hf) (h _ x hx)
    · omega
theorem volIdx_yes {vs : List Vol} {t : ByteArray} (h : ¬ volIdx vs t < 0) : ∃ (m : Nat) (x : Vol), volIdx vs t = m ∧ vs[m]? = some x ∧ x.name = t := by
  have h0 : 0 ≤ idx (fun v : Vol => v.name.toList == t.toList) vs := by have : volIdx vs t = idx (fun v : Vol => v.name.toList == t.toList) vs := rfl; omega
  obtain ⟨x, hx, hf⟩ := idx_get h0
  exact ⟨_, x, (Int.toNat_of_nonneg h0).symm, hx, textB.1 hf⟩
theorem VolsP.idx {vs : List Vol} (h : VolsP vs) {m : Nat} {x : Vol} (hx : vs[m]? = some x) : volIdx vs x.name = m := by
  by_cases h0 : volIdx vs x.name < 0
  · exact absurd rfl (volIdx_no.1 h0 m x hx)
  · obtain ⟨k, y, e, hy, hn⟩ := volIdx_yes h0
    rw [e, h.uniq hx hy hn.symm]
/-- In a row by name a new name's place parts the lesser ones from the greater ones. -/
theorem VolsP.pos {vs : List Vol} (h : VolsP vs) {t : ByteArray} (ht : isNm t = true) (hn : volIdx vs t < 0) (m : Nat) (x : Vol) (hx : vs[m]? = some x) : m < posOf t vs ↔ nmN x.name < nmN t := by
  have hne : nmN x.name ≠ nmN t := fun e => volIdx_no.1 hn m x hx ((nm_eq (h.nm hx) ht).2 e)
  constructor
  · intro hm
    have := posOf_lt hm hx
    rw [nm_lt ht (h.nm hx)] at this
    simp at this; omega
  · intro hm
    by_cases h1 : m < posOf t vs
    · exact h1
    · exfalso
      obtain ⟨y, hy⟩ := getQ (show posOf t vs < vs.length by have := ltQ hx; omega)
      have h2 := posOf_at hy
      rw [nm_lt ht (h.nm hy)] at h2
      simp at h2
      by_cases h3 : m = posOf t vs
      · subst h3; obtain rfl := Option.some.inj (hx.symm.trans hy); omega
      · have := h.sort _ m y x (by omega) hy hx; omega
theorem VolsP.ins {vs : List Vol} (h : VolsP vs) {v : Vol} (hv : volOk v = true) (hn : volIdx vs v.name < 0) : VolsP (insAt (posOf v.name vs) v vs) := by
  have hq := posOf_le v.name vs
  have hnm := (volOk_parts hv).2.1
  have hp := h.pos hnm hn
  have get : ∀ (m : Nat) (x : Vol), (insAt (posOf v.name vs) v vs)[m]? = some x → (m < posOf v.name vs ∧ vs[m]? = some x) ∨ (m = posOf v.name vs ∧ x = v) ∨ (posOf v.name vs < m ∧ vs[m - 1]? = some x) := by
    intro m x hx
    rw [insAt_get hq] at hx
    by_cases h1 : m < posOf v.name vs
    · rw [if_pos h1] at hx; exact .inl ⟨h1, hx⟩
    · rw [if_neg h1] at hx
      by_cases h2 : m = posOf v.name vs
      · rw [if_pos h2] at hx; exact .inr (.inl ⟨h2, (Option.some.inj hx).symm⟩)
      · rw [if_neg h2] at hx; exact .inr (.inr ⟨by omega, hx⟩)
  have hgt : ∀ (m : Nat) (x : Vol), posOf v.name vs ≤ m → vs[m]? = some x → nmN v.name < nmN x.name := by
    intro m x hm hx
    have h1 := (hp m x hx).2
    have h2 : nmN x.name ≠ nmN v.name := fun e => volIdx_no.1 hn m x hx ((nm_eq (h.nm hx) hnm).2 e)
    by_cases h3 : nmN x.name < nmN v.name
    · have := h1 h3; omega
    · omega
  refine ⟨fun m x hx => ?_, fun i j x y hij hx hy => ?_⟩
  · rcases get m x hx with ⟨_, hx⟩ | ⟨_, rfl⟩ | ⟨_, hx⟩
    · exact h.v _ _ hx
    · exact hv
    · exact h.v _ _ hx
  · rcases get i x hx with ⟨hi, hx⟩ | ⟨hi, hxv⟩ | ⟨hi, hx⟩ <;> rcases get j y hy with ⟨hj, hy⟩ | ⟨hj, hyv⟩ | ⟨hj, hy⟩
    · exact h.sort i j x y hij hx hy
    · rw [hyv]; exact (hp i x hx).1 hi
    · exact h.sort i (j - 1) x y (by omega) hx hy
    · omega
    · omega
    · rw [hxv]; exact hgt (j - 1) y (by omega) hy
    · omega
    · omega
    · exact h.sort (i - 1) (j - 1) x y (by omega) hx hy
theorem erase_get {α} {xs : List α} {i m : Nat} {x : α} (h : (xs.eraseIdx i)[m]? = some x) : xs[if m < i then m else m + 1]? = some x := by
  rw [List.getElem?_eraseIdx] at h
  split at h
  · rename_i h1; rwa [if_pos h1]
  · rename_i h1; rwa [if_neg h1]
theorem VolsP.erase {vs : List Vol} (h : VolsP vs) (i : Nat) : VolsP (vs.eraseIdx i) :=
  ⟨fun m x hx => h.v _ _ (erase_get hx), fun a b x y hab hx hy => h.sort _ _ x y (by split <;> split <;> omega) (erase_get hx) (erase_get hy)⟩
theorem VolsP.set {vs : List Vol} (h : VolsP vs) {i : Nat} {x y : Vol} (hx : vs[i]? = some x) (hn : y.name = x.name) (hy : volOk y = true) : VolsP (vs.set i y) := by
  have get : ∀ (m : Nat) (z : Vol), (vs.set i y)[m]? = some z → (m = i ∧ z = y) ∨ (m ≠ i ∧ vs[m]? = some z) := by
    intro m z hz
    by_cases e : m = i
    · subst e; rw [List.getElem?_set_self (ltQ hx)] at hz; exact .inl ⟨rfl, (Option.some.inj hz).symm⟩
    · rw [List.getElem?_set_ne (fun h => e h.symm)] at hz; exact .inr ⟨e, hz⟩
  refine ⟨fun m z hz => ?_, fun a b z u hab hz hu => ?_⟩
  · rcases get m z hz with ⟨_, rfl⟩ | ⟨_, hz⟩
    · exact hy
    · exact h.v _ _ hz
  · rcases get a z hz with ⟨ha, hzy⟩ | ⟨ha, hz⟩ <;> rcases get b u hu with ⟨hb, huy⟩ | ⟨hb, hu⟩
    · omega
    · rw [hzy, hn]; exact h.sort i b x u (by omega) hx hu
    · rw [huy, hn]; exact h.sort a i z x (by omega) hz hx
    · exact h.sort a b z u hab hz hu

/-! ### the four changes -/
def goneF (p : Pool) (name : ByteArray) : Option Pool :=
  if volIdx p.vols name < 0 then none else some ⟨dropAll p.slots (volAt p.vols (volIdx p.vols name)).blocks, p.vols.eraseIdx (volIdx p.vols name).toNat⟩
def makeF (p : Pool) (name : ByteArray) (size : Int) : Option Pool :=
  if isNm name = true ∧ volIdx p.vols name < 0 ∧ inR size 1 6 = true then some ⟨p.slots, insAt (posOf name p.vols) ⟨name, List.replicate size.toNat 0⟩ p.vols⟩ else none
def cloneF (p : Pool) (fr dst : ByteArray) : Option Pool :=
  if 0 ≤ volIdx p.vols fr ∧ isNm dst = true ∧ volIdx p.vols dst < 0 then some ⟨incAll p.slots (volAt p.vols (volIdx p.vols fr)).blocks, insAt (posOf dst p.vols) ⟨dst, (volAt p.vols (volIdx p.vols fr)).blocks⟩ p.vols⟩ else none
def setBlk (vs : List Vol) (i : Nat) (b : Nat) (pl : Int) : List Vol := vs.set i ⟨(vs.getD i Vol.z).name, (vs.getD i Vol.z).blocks.set b pl⟩
/-- The slots behind a block's piece given back. -/
def backS (p : Pool) (name : ByteArray) (b : Int) : List Slot := dropAll p.slots [placeAt p.vols name b]
def writeF (p : Pool) (name : ByteArray) (b : Int) (text : ByteArray) : Option Pool :=
  if 0 ≤ hasBlk p.vols name b ∧ tOk text = true then
    (if text = e0 then some ⟨backS p name b, setBlk p.vols (volIdx p.vols name).toNat b.toNat 0⟩
     else if putAt (backS p name b) text = 0 then none else some ⟨putS (backS p name b) text, setBlk p.vols (volIdx p.vols name).toNat b.toNat (putAt (backS p name b) text)⟩)
  else none
end Go.Proofs.Ytpobgjkmjlmafaa
/- Plain law: the four changes of a pool keep it valid, and what they keep of its slots. -/

namespace Go.Proofs.Ytpobgjkmjlmafaa
open Go.RowKit Go.Proofs.YtpobgjkmjlmafaaW.PrintWords
set_option linter.unusedVariables false
set_option linter.unusedSimpArgs false

theorem PoolP.slot {p : Pool} (h : PoolP p) {m : Nat} (hm : m < 8) : ∃ x, p.slots[m]? = some x := getQ (by rw [h.s.len]; exact hm)
theorem PoolP.blk {p : Pool} (h : PoolP p) {i : Nat} {v : Vol} (hv : p.vols[i]? = some v) {k : Nat} {x : Int} (hx : v.blocks[k]? = some x) : 0 ≤ x ∧ x ≤ 8 := (volOk_parts (h.v.v i v hv)).1 x (List.mem_of_getElem? hx)
theorem PoolP.drops {p : Pool} (h : PoolP p) {i : Nat} {v : Vol} (hv : p.vols[i]? = some v) {bs : List Int} (hb : ∀ x ∈ bs, 0 ≤ x ∧ x ≤ 8) (hc : ∀ m : Nat, cnt ((m : Int) + 1) bs ≤ cnt (m + 1) v.blocks) :
    StoreP (dropAll p.slots bs) ∧ ∀ (m : Nat) (x : Slot), p.slots[m]? = some x → ∃ y, (dropAll p.slots bs)[m]? = some y ∧ y.uses = x.uses - cnt (m + 1) bs ∧ (y.text = x.text ∨ y.uses = 0) :=
  dropAll_get h.s hb fun m x hx => by rw [h.uses m x hx]; exact Int.le_trans (hc m) (uses_mem hv)
theorem goneF_some {p q : Pool} {name : ByteArray} (h : goneF p name = some q) : ∃ (i : Nat) (v : Vol), volIdx p.vols name = i ∧ p.vols[i]? = some v ∧ v.name = name ∧ q = ⟨dropAll p.slots v.blocks, p.vols.eraseIdx i⟩ := by
  unfold goneF at h
  by_cases hn : volIdx p.vols name < 0
  · rw [if_pos hn] at h; cases h
  · rw [if_neg hn] at h
    obtain ⟨i, v, hi, hv, hvn⟩ := volIdx_yes hn
    rw [hi, Int.toNat_natCast] at h
    unfold volAt at h
    rw [Int.toNat_natCast, getD_of hv] at h
    exact ⟨i, v, hi, hv, hvn, (Option.some.inj h).symm⟩
theorem slot_back {s t : List Slot} {f : Nat → Slot → Slot → Prop} (hl : t.length = s.length) (h : ∀ (m : Nat) (x : Slot), s[m]? = some x → ∃ y, t[m]? = some y ∧ f m x y) {m : Nat} {y : Slot} (hy : t[m]? = some y) : ∃ x, s[m]? = some x ∧ f m x y := by
  obtain ⟨x, hx⟩ := getQ (show m < s.length by rw [← hl]; exact ltQ hy)
  obtain ⟨z, hz, hf⟩ := h m x hx
  obtain rfl := Option.some.inj (hy.symm.trans hz)
  exact ⟨x, hx, hf⟩
theorem goneF_ok {p q : Pool} {name : ByteArray} (hp : PoolP p) (h : goneF p name = some q) : PoolP q := by
  obtain ⟨i, v, hi, hv, hvn, rfl⟩ := goneF_some h
  obtain ⟨h1, h2⟩ := hp.drops hv (volOk_parts (hp.v.v i v hv)).1 (fun m => Int.le_refl _)
  refine ⟨h1, hp.v.erase i, fun m y hy => ?_⟩
  obtain ⟨x, hx, hu, _⟩ := slot_back (dropAll_len _ _) h2 hy
  rw [hu, uses_erase hv, hp.uses m x hx]
theorem makeF_some {p q : Pool} {name : ByteArray} {size : Int} (h : makeF p name size = some q) : isNm name = true ∧ volIdx p.vols name < 0 ∧ 1 ≤ size ∧ size ≤ 6 ∧ q = ⟨p.slots, insAt (posOf name p.vols) ⟨name, List.replicate size.toNat 0⟩ p.vols⟩ := by
  unfold makeF at h
  split at h
  · rename_i hc
    have := inR_iff.1 hc.2.2
    exact ⟨hc.1, hc.2.1, this.1, this.2, (Option.some.inj h).symm⟩
  · cases h
theorem cnt_rep (p x : Int) (n : Nat) (h : x ≠ p) : cnt p (List.replicate n x) = 0 := by
  induction n with
  | zero => rfl
  | succ n ih => rw [List.replicate_succ]; unfold cnt; rw [if_neg h, ih]; rfl
theorem makeV_ok {name : ByteArray} {size : Int} (hn : isNm name = true) (h1 : 1 ≤ size) (h6 : size ≤ 6) : volOk ⟨name, List.replicate size.toNat 0⟩ = true := by
  unfold volOk
  rw [hn]
  have : inR ((List.replicate size.toNat (0 : Int)).length : Int) 1 6 = true := by rw [inR_iff, List.length_replicate]; omega
  simp only [this, Bool.and_true, List.all_eq_true]
  intro x hx
  obtain ⟨_, rfl⟩ := List.mem_replicate.1 hx
  rfl
theorem makeF_ok {p q : Pool} {name : ByteArray} {size : Int} (hp : PoolP p) (h : makeF p name size = some q) : PoolP q := by
  obtain ⟨hn, hi, h1, h6, rfl⟩ := makeF_some h
  refine ⟨hp.s, hp.v.ins (makeV_ok hn h1 h6) hi, fun m x hx => ?_⟩
  rw [uses_insAt, hp.uses m x hx]
  show _ = _ + cnt _ (List.replicate _ _)
  rw [cnt_rep _ _ _ (by omega)]; omega
theorem cloneF_some {p q : Pool} {fr dst : ByteArray} (h : cloneF p fr dst = some q) : ∃ (i : Nat) (v : Vol), volIdx p.vols fr = i ∧ p.vols[i]? = some v ∧ v.name = fr ∧ isNm dst = true ∧ volIdx p.vols dst < 0 ∧ q = ⟨incAll p.slots v.blocks, insAt (posOf dst p.vols) ⟨dst, v.blocks⟩ p.vols⟩ := by
  unfold cloneF at h
  split at h
  · rename_i hc
    obtain ⟨i, v, hi, hv, hvn⟩ := volIdx_yes (show ¬ volIdx p.vols fr < 0 by omega)
    rw [hi] at h
    unfold volAt at h
    rw [Int.toNat_natCast, getD_of hv] at h
    exact ⟨i, v, hi, hv, hvn, hc.2.1, hc.2.2, (Option.some.inj h).symm⟩
  · cases h
theorem PoolP.incs {p : Pool} (h : PoolP p) {i : Nat} {v : Vol} (hv : p.vols[i]? = some v) :
    StoreP (incAll p.slots v.blocks) ∧ ∀ (m : Nat) (x : Slot), p.slots[m]? = some x → (incAll p.slots v.blocks)[m]? = some ⟨x.text, x.uses + cnt (m + 1) v.blocks⟩ := by
  have hb := volOk_parts (h.v.v i v hv)
  refine incAll_get h.s hb.1 fun m x hx => ?_
  have h1 := h.uses m x hx
  have h2 := uses_mem (p := (m : Int) + 1) hv
  have h3 := h.v.uses_le ((m : Int) + 1)
  have h4 := cnt_le ((m : Int) + 1) v.blocks
  constructor
  · omega
  · omega
theorem volOk_name {v : Vol} {t : ByteArray} (h : volOk v = true) (ht : isNm t = true) : volOk ⟨t, v.blocks⟩ = true := by
  unfold volOk at h ⊢
  simp only [Bool.and_eq_true] at h ⊢
  exact ⟨h.1, ht, h.2.2⟩
theorem cloneF_ok {p q : Pool} {fr dst : ByteArray} (hp : PoolP p) (h : cloneF p fr dst = some q) : PoolP q := by
  obtain ⟨i, v, hi, hv, hvn, hd, hdn, rfl⟩ := cloneF_some h
  obtain ⟨h1, h2⟩ := hp.incs hv
  refine ⟨h1, hp.v.ins (volOk_name (hp.v.v i v hv) hd) hdn, fun m y hy => ?_⟩
  obtain ⟨x, hx⟩ := getQ (show m < p.slots.length by rw [← incAll_len p.slots v.blocks]; exact ltQ hy)
  obtain rfl := Option.some.inj (hy.symm.trans (h2 m x hx))
  rw [uses_insAt, hp.uses m x hx]
/-! writing -/
theorem cnt_one (p x : Int) : cnt p [x] = if x = p then 1 else 0 := by simp [cnt]
theorem cnt_one_le {p x : Int} {bs : List Int} {k : Nat} (h : bs[k]? = some x) : cnt p [x] ≤ cnt p bs := by
  rw [cnt_one]
  split
  · rename_i e; subst e; exact cnt_pos (List.mem_of_getElem? h)
  · exact (cnt_le p bs).1
/-- What a write has in hand: the volume, its block, the slots behind the piece given back. -/
structure Wr (p : Pool) (name : ByteArray) (b : Int) (i : Nat) (v : Vol) (x : Int) : Prop where
  idx : volIdx p.vols name = i
  has : hasBlk p.vols name b = i
  vol : p.vols[i]? = some v
  nm : v.name = name
  b0 : 0 ≤ b
  blk : v.blocks[b.toNat]? = some x
  place : placeAt p.vols name b = x
theorem hasBlk_wr {p : Pool} {name : ByteArray} {b : Int} (h : 0 ≤ hasBlk p.vols name b) : ∃ i v x, Wr p name b i v x := by
  obtain ⟨h1, h2, v, x, hv, hn, _, hb, hx, hp⟩ := hasBlk_yes h
  refine ⟨_, v, x, (Int.toNat_of_nonneg h2).symm, ?_, hv, hn, hb, hx, hp⟩
  rw [h1, Int.toNat_of_nonneg h2]
theorem Wr.back {p : Pool} {name : ByteArray} {b : Int} {i : Nat} {v : Vol} {x : Int} (hp : PoolP p) (h : Wr p name b i v x) :
    StoreP (backS p name b) ∧ ∀ (m : Nat) (y : Slot), p.slots[m]? = some y → ∃ z, (backS p name b)[m]? = some z ∧ z.uses = y.uses - cnt (m + 1) [x] ∧ (z.text = y.text ∨ z.uses = 0) := by
  unfold backS
  rw [h.place]
  refine hp.drops h.vol (fun y hy => ?_) (fun m => cnt_one_le h.blk)
  rw [List.mem_singleton.1 hy]; exact hp.blk h.vol h.blk
theorem Wr.set {p : Pool} {name : ByteArray} {b : Int} {i : Nat} {v : Vol} {x : Int} (h : Wr p name b i v x) (pl : Int) :
    setBlk p.vols (volIdx p.vols name).toNat b.toNat pl = p.vols.set i ⟨name, v.blocks.set b.toNat pl⟩ := by
  unfold setBlk
  rw [h.idx, Int.toNat_natCast, getD_of h.vol, h.nm]
theorem Wr.uses {p : Pool} {name : ByteArray} {b : Int} {i : Nat} {v : Vol} {x : Int} (h : Wr p name b i v x) (pl q : Int) :
    Go.Proofs.Ytpobgjkmjlmafaa.uses q (p.vols.set i ⟨name, v.blocks.set b.toNat pl⟩) = Go.Proofs.Ytpobgjkmjlmafaa.uses q p.vols - (if x = q then 1 else 0) + (if pl = q then 1 else 0) := by
  rw [uses_set h.vol, cnt_set h.blk]
  omega
theorem volOk_set {v : Vol} {k : Nat} {pl : Int} (h : volOk v = true) (h0 : 0 ≤ pl) (h8 : pl ≤ 8) : volOk ⟨v.name, v.blocks.set k pl⟩ = true := by
  unfold volOk at h ⊢
  simp only [Bool.and_eq_true, List.all_eq_true] at h ⊢
  refine ⟨fun y hy => ?_, h.2.1, ?_⟩
  · rcases List.mem_or_eq_of_mem_set hy with h1 | rfl
    · exact h.1 y h1
    · rw [inR_iff]; omega
  · rw [List.length_set]; exact h.2.2
inductive WriteOut (p : Pool) (name : ByteArray) (b : Int) (text : ByteArray) (i : Nat) (v : Vol) (x : Int) : Pool → Prop where
  | free (h : text = e0) : WriteOut p name b text i v x ⟨backS p name b, p.vols.set i ⟨name, v.blocks.set b.toNat 0⟩⟩
  | put (m : Nat) (z : Slot) (h : text ≠ e0) (ht : tOk text = true) (hz : (backS p name b)[m]? = some z) (hpa : PutAt (backS p name b) text ((m : Int) + 1)) (hz2 : z.text = text ∧ z.uses < 99 ∨ z.uses = 0 ∧ ∀ (j : Nat) (y : Slot), (backS p name b)[j]? = some y → y.text ≠ text) :
      WriteOut p name b text i v x ⟨(backS p name b).set m ⟨text, z.uses + 1⟩, p.vols.set i ⟨name, v.blocks.set b.toNat ((m : Int) + 1)⟩⟩
theorem writeF_some {p q : Pool} {name : ByteArray} {b : Int} {text : ByteArray} (hp : PoolP p) (h : writeF p name b text = some q) : ∃ i v x, Wr p name b i v x ∧ tOk text = true ∧ WriteOut p name b text i v x q := by
  unfold writeF at h
  split at h
  · rename_i hc
    obtain ⟨i, v, x, hw⟩ := hasBlk_wr hc.1
    refine ⟨i, v, x, hw, hc.2, ?_⟩
    rw [hw.set, hw.set] at h
    by_cases he : text = e0
    · rw [if_pos he] at h
      obtain rfl := Option.some.inj h
      exact .free he
    · rw [if_neg he] at h
      by_cases h0 : putAt (backS p name b) text = 0
      · rw [if_pos h0] at h; cases h
      · rw [if_neg h0] at h
        obtain rfl := Option.some.inj h
        have hpa := (putAt_cases (hw.back hp).1 he).1
        have key : ∀ (m : Nat) (z : Slot), putAt (backS p name b) text = (m : Int) + 1 → (backS p name b)[m]? = some z → putS (backS p name b) text = (backS p name b).set m ⟨text, z.uses + 1⟩ := by
          intro m z e hz
          unfold putS moreS
          rw [e, if_neg (by omega), show ((m : Int) + 1 - 1).toNat = m by omega, getD_of hz]
        cases hpa with
        | no h1 => exact absurd h1 h0
        | old m z h1 hz ht hu => rw [key m z h1 hz, h1]; exact .put m z he hc.2 hz (.old m z rfl hz ht hu) (.inl ⟨ht, hu⟩)
        | fresh m z h1 hz hu hn => rw [key m z h1 hz, h1]; exact .put m z he hc.2 hz (.fresh m z rfl hz hu hn) (.inr ⟨hu, hn⟩)
  · cases h
theorem writeF_ok {p q : Pool} {name : ByteArray} {b : Int} {text : ByteArray} (hp : PoolP p) (h : writeF p name b text = some q) : PoolP q := by
  obtain ⟨i, v, x, hw, htk, ho⟩ := writeF_some hp h
  obtain ⟨h1, h2⟩ := hw.back hp
  have hbl : (backS p name b).length = p.slots.length := by rw [h1.len, hp.s.len]
  have hvol : ∀ pl : Int, 0 ≤ pl → pl ≤ 8 → VolsP (p.vols.set i ⟨name, v.blocks.set b.toNat pl⟩) := fun pl h0 h8 => by
    have := volOk_set (k := b.toNat) (hp.v.v i v hw.vol) h0 h8
    rw [hw.nm] at this
    exact hp.v.set hw.vol hw.nm.symm this
  cases ho with
  | free he =>
    refine ⟨h1, hvol 0 (by omega) (by omega), fun m y hy => ?_⟩
    obtain ⟨y0, hy0, hu, _⟩ := slot_back hbl h2 hy
    rw [hw.uses, hu, hp.uses m y0 hy0, cnt_one, if_neg (show ¬ (0 : Int) = (m : Int) + 1 by omega)]; omega
  | put j z he ht hz hpa hz2 =>
    have hj8 : j < 8 := by have := ltQ hz; rw [h1.len] at this; exact this
    have hms : moreS (backS p name b) text ((j : Int) + 1) = (backS p name b).set j ⟨text, z.uses + 1⟩ := by
      unfold moreS
      rw [if_neg (by omega), show ((j : Int) + 1 - 1).toNat = j by omega, getD_of hz]
    refine ⟨?_, hvol _ (by omega) (by omega), fun m y hy => ?_⟩
    · rw [← hms]; exact h1.more he htk hpa
    · rw [hw.uses]
      by_cases e : m = j
      · subst e
        rw [List.getElem?_set_self (ltQ hz)] at hy
        obtain rfl := Option.some.inj hy
        obtain ⟨y0, hy0, hu, _⟩ := slot_back hbl h2 hz
        rw [if_pos rfl]
        show z.uses + 1 = _
        rw [hu, hp.uses m y0 hy0, cnt_one]
      · rw [List.getElem?_set_ne (fun h => e h.symm)] at hy
        obtain ⟨y0, hy0, hu, _⟩ := slot_back hbl h2 hy
        rw [hu, hp.uses m y0 hy0, cnt_one, if_neg (show ¬ ((j : Int) + 1) = (m : Int) + 1 by omega)]; omega
end Go.Proofs.Ytpobgjkmjlmafaa
/- Plain Lean: the pieces of a volume; what the four changes make of the pieces. -/


namespace Go.Proofs.Ytpobgjkmjlmafaa
open Go.RowKit Go.Proofs.YtpobgjkmjlmafaaW.PrintWords
set_option linter.unusedVariables false
set_option linter.unusedSimpArgs false

def blksOf (vs : List Vol) (t : ByteArray) : List Int := if volIdx vs t < 0 then [] else (volAt vs (volIdx vs t)).blocks
theorem lgBlks_len (vs : List Vol) (t : ByteArray) : lgBlks vs t = (blksOf vs t).length := by unfold lgBlks blksOf; split <;> rfl
theorem blksOf_none {vs : List Vol} {t : ByteArray} (h : ∀ x ∈ vs, x.name ≠ t) : blksOf vs t = [] := by
  unfold blksOf
  rw [if_pos (volIdx_no.2 fun m x hx => h x (List.mem_of_getElem? hx))]
theorem blksOf_at {vs : List Vol} {t : ByteArray} {i : Nat} {v : Vol} (hi : volIdx vs t = i) (hv : vs[i]? = some v) : blksOf vs t = v.blocks := by
  unfold blksOf volAt
  rw [hi, if_neg (by omega), Int.toNat_natCast, getD_of hv]
theorem blksOf_mem {vs : List Vol} (h : VolsP vs) {x : Vol} (hx : x ∈ vs) : blksOf vs x.name = x.blocks := by
  obtain ⟨m, hm⟩ := List.getElem?_of_mem hx
  exact blksOf_at (h.idx hm) hm
theorem VolsP.okM {vs : List Vol} (h : VolsP vs) {x : Vol} (hx : x ∈ vs) : volOk x = true := by
  obtain ⟨m, hm⟩ := List.getElem?_of_mem hx
  exact h.v m x hm
theorem blksOf_congr {vs ws : List Vol} (h1 : VolsP vs) (h2 : VolsP ws) {t : ByteArray} (H : ∀ x : Vol, x.name = t → (x ∈ vs ↔ x ∈ ws)) : blksOf vs t = blksOf ws t := by
  by_cases he : ∃ x ∈ vs, x.name = t
  · obtain ⟨x, hx, rfl⟩ := he
    rw [blksOf_mem h1 hx, blksOf_mem h2 ((H x rfl).1 hx)]
  · have he2 : ∀ x ∈ ws, x.name ≠ t := fun x hx e => he ⟨x, (H x e).2 hx, e⟩
    rw [blksOf_none (fun x hx e => he ⟨x, hx, e⟩), blksOf_none he2]
theorem blksOf_cases {vs : List Vol} (h : VolsP vs) (t : ByteArray) : (blksOf vs t = [] ∧ ∀ x ∈ vs, x.name ≠ t) ∨ ∃ x ∈ vs, x.name = t ∧ blksOf vs t = x.blocks ∧ volOk x = true := by
  by_cases he : ∃ x ∈ vs, x.name = t
  · obtain ⟨x, hx, rfl⟩ := he
    exact .inr ⟨x, hx, rfl, blksOf_mem h hx, h.okM hx⟩
  · exact .inl ⟨blksOf_none fun x hx e => he ⟨x, hx, e⟩, fun x hx e => he ⟨x, hx, e⟩⟩
theorem volIdx_blks {vs : List Vol} (h : VolsP vs) {t : ByteArray} : volIdx vs t < 0 ↔ blksOf vs t = [] := by
  constructor
  · intro hi; unfold blksOf; rw [if_pos hi]
  · intro hb
    refine volIdx_no.2 fun m x hx e => ?_
    subst e
    have h1 := blksOf_mem h (List.mem_of_getElem? hx)
    have h2 := (volOk_parts (h.v m x hx)).2.2.1
    rw [← h1, hb] at h2
    simp at h2
theorem VolsP.mem_set {vs : List Vol} (h : VolsP vs) {i : Nat} {v y x : Vol} (hv : vs[i]? = some v) (hn : y.name = v.name) : x ∈ vs.set i y ↔ x = y ∨ (x ∈ vs ∧ x.name ≠ y.name) := by
  constructor
  · intro hx
    obtain ⟨m, hm⟩ := List.getElem?_of_mem hx
    by_cases e : m = i
    · subst e; rw [List.getElem?_set_self (ltQ hv)] at hm; exact .inl (Option.some.inj hm).symm
    · rw [List.getElem?_set_ne (fun h => e h.symm)] at hm
      exact .inr ⟨List.mem_of_getElem? hm, fun e2 => e (h.uniq hm hv (e2.trans hn))⟩
  · rintro (rfl | ⟨hx, hne⟩)
    · exact List.mem_of_getElem? (i := i) (List.getElem?_set_self (ltQ hv))
    · obtain ⟨m, hm⟩ := List.getElem?_of_mem hx
      have e : m ≠ i := fun e => by subst e; obtain rfl := Option.some.inj (hm.symm.trans hv); exact hne hn.symm
      exact List.mem_of_getElem? (i := m) (by rw [List.getElem?_set_ne (fun h => e h.symm)]; exact hm)

/-! ### pieces -/
def pc (s : List Slot) (pl : Int) : ByteArray := if 0 < pl then slotText s pl else e0
def pieces (p : Pool) (t : ByteArray) : List ByteArray := (blksOf p.vols t).map (pc p.slots)
theorem pieces_len (p : Pool) (t : ByteArray) : lgBlks p.vols t = (pieces p t).length := by rw [lgBlks_len, pieces, List.length_map]
theorem slotText_at {s : List Slot} {pl : Int} {x : Slot} (h : s[(pl - 1).toNat]? = some x) : slotText s pl = x.text := by unfold slotText; rw [getD_of h]
/-- A block of a valid pool: free, or at a slot that is used. -/
theorem PoolP.blkM {p : Pool} (h : PoolP p) {x : Vol} (hx : x ∈ p.vols) {pl : Int} (hpl : pl ∈ x.blocks) (h0 : 0 < pl) : ∃ y, p.slots[(pl - 1).toNat]? = some y ∧ 1 ≤ y.uses ∧ y.text ≠ e0 ∧ pc p.slots pl = y.text := by
  have h8 := (volOk_parts (h.v.okM hx)).1 pl hpl
  obtain ⟨y, hy⟩ := h.slot (show (pl - 1).toNat < 8 by omega)
  obtain ⟨m, hm⟩ := List.getElem?_of_mem hx
  have h1 := h.uses _ y hy
  have h2 := uses_mem (p := pl) hm
  have h3 := cnt_pos hpl
  rw [show (((pl - 1).toNat : Nat) : Int) + 1 = pl by omega] at h1
  have h4 := h.s.ok _ y hy
  refine ⟨y, hy, by omega, fun e => ?_, ?_⟩
  · have := h4.2.2.2.1 e; omega
  · unfold pc; rw [if_pos h0, slotText_at hy]
/-- The slots of q say what p's say, where they are used. -/
def Keeps (s t : List Slot) : Prop := ∀ (m : Nat) (y : Slot), t[m]? = some y → ∃ x, s[m]? = some x ∧ (y.text = x.text ∨ y.uses = 0)
theorem Keeps.refl (s : List Slot) : Keeps s s := fun m y hy => ⟨y, hy, .inl rfl⟩
theorem pc_keep {p q : Pool} (hq : PoolP q) (hk : Keeps p.slots q.slots) {x : Vol} (hx : x ∈ q.vols) {pl : Int} (hpl : pl ∈ x.blocks) : pc q.slots pl = pc p.slots pl := by
  by_cases h0 : 0 < pl
  · obtain ⟨y, hy, h1, _, h2⟩ := hq.blkM hx hpl h0
    obtain ⟨z, hz, h3⟩ := hk _ y hy
    rw [h2]
    unfold pc
    rw [if_pos h0, slotText_at hz]
    rcases h3 with h3 | h3
    · exact h3
    · omega
  · unfold pc; rw [if_neg h0, if_neg h0]
theorem map_pc {p q : Pool} (hq : PoolP q) (hk : Keeps p.slots q.slots) (t : ByteArray) : (blksOf q.vols t).map (pc q.slots) = (blksOf q.vols t).map (pc p.slots) := by
  rcases blksOf_cases hq.v t with ⟨h, _⟩ | ⟨x, hx, _, h, _⟩
  · rw [h]; rfl
  · rw [h]
    exact List.map_congr_left fun pl hpl => pc_keep hq hk hx hpl
/-! ### the four changes -/
/-- A block set to a place, in a volume of a name. -/
theorem blksOf_set {vs : List Vol} (h : VolsP vs) {i : Nat} {v : Vol} {name : ByteArray} (hv : vs[i]? = some v) (hn : v.name = name) {bs : List Int} (h2 : VolsP (vs.set i ⟨name, bs⟩)) (t : ByteArray) :
    blksOf (vs.set i ⟨name, bs⟩) t = if t = name then bs else blksOf vs t := by
  by_cases e : t = name
  · subst e
    rw [if_pos rfl]
    exact blksOf_mem h2 ((h.mem_set (y := ⟨t, bs⟩) hv hn.symm).2 (.inl rfl))
  · rw [if_neg e]
    refine blksOf_congr h2 h fun x hx => ?_
    rw [h.mem_set (y := ⟨name, bs⟩) hv hn.symm]
    exact ⟨fun h => (h.resolve_left fun e2 => e (by rw [← hx, e2])).1, fun h => .inr ⟨h, by rw [hx]; exact e⟩⟩
/-- The pool behind a write of the empty piece. -/
def freeP (p : Pool) (name : ByteArray) (b : Int) (i : Nat) (v : Vol) : Pool := ⟨backS p name b, p.vols.set i ⟨name, v.blocks.set b.toNat 0⟩⟩
theorem free_eq {p : Pool} {name : ByteArray} {b : Int} {i : Nat} {v : Vol} {x : Int} (h : Wr p name b i v x) : writeF p name b e0 = some (freeP p name b i v) := by
  unfold writeF
  rw [h.set, h.has, if_pos ⟨by omega, tOk_e0⟩, if_pos rfl]
  rfl
theorem free_pieces {p : Pool} {name : ByteArray} {b : Int} {i : Nat} {v : Vol} {x : Int} (hp : PoolP p) (h : Wr p name b i v x) (t : ByteArray) : pieces (freeP p name b i v) t = if t = name then (pieces p name).set b.toNat e0 else pieces p t := by
  have hq := writeF_ok hp (free_eq h)
  have h2 := (h.back hp).2
  have hbl : (backS p name b).length = p.slots.length := by rw [(h.back hp).1.len, hp.s.len]
  have hk : Keeps p.slots (backS p name b) := fun m y hy => by
    obtain ⟨x, hx, _, ht⟩ := slot_back hbl h2 hy
    exact ⟨x, hx, ht⟩
  unfold pieces
  rw [map_pc hq hk]
  have hb := blksOf_set hp.v h.vol h.nm hq.v t
  show List.map _ (blksOf (p.vols.set i ⟨name, v.blocks.set b.toNat 0⟩) t) = _
  rw [hb]
  by_cases e : t = name
  · subst e
    rw [if_pos rfl, if_pos rfl, List.map_set, blksOf_at h.idx h.vol]
    rfl
  · rw [if_neg e, if_neg e]
theorem write_pieces {p q : Pool} {name : ByteArray} {b : Int} {text : ByteArray} (hp : PoolP p) (h : writeF p name b text = some q) (t : ByteArray) : pieces q t = if t = name then (pieces p name).set b.toNat text else pieces p t := by
  have hq := writeF_ok hp h
  obtain ⟨i, v, x, hw, htk, ho⟩ := writeF_some hp h
  cases ho with
  | free he => rw [he]; exact free_pieces hp hw t
  | put m z he ht hz hpa hz2 =>
    have hr := writeF_ok hp (free_eq hw)
    have hfp := free_pieces hp hw
    have hb := blksOf_set hp.v hw.vol hw.nm hq.v
    have hb2 := blksOf_set hp.v hw.vol hw.nm hr.v
    have hm8 : m < 8 := by have := ltQ hz; rw [(hw.back hp).1.len] at this; exact this
    -- what the free pool's blocks read as is kept
    have hpc : ∀ x ∈ (freeP p name b i v).vols, ∀ pl ∈ x.blocks, pc ((backS p name b).set m ⟨text, z.uses + 1⟩) pl = pc (freeP p name b i v).slots pl := by
      intro x hx pl hpl
      by_cases h0 : 0 < pl
      · obtain ⟨y, hy, h1, h2, h3⟩ := hr.blkM hx hpl h0
        rw [h3]
        unfold pc
        rw [if_pos h0]
        by_cases e : (pl - 1).toNat = m
        · rw [e] at hy
          have hyz : y = z := Option.some.inj (hy.symm.trans hz)
          rw [slotText_at (x := ⟨text, z.uses + 1⟩) (by rw [e]; exact List.getElem?_set_self (ltQ hz)), hyz]
          rcases hz2 with ⟨h4, _⟩ | ⟨h4, _⟩
          · exact h4.symm
          · rw [hyz] at h1; omega
        · rw [slotText_at (x := y) (by rw [List.getElem?_set_ne (fun h => e h.symm)]; exact hy)]
      · unfold pc; rw [if_neg h0, if_neg h0]
    have hmap : ∀ u, (blksOf (freeP p name b i v).vols u).map (pc ((backS p name b).set m ⟨text, z.uses + 1⟩)) = pieces (freeP p name b i v) u := by
      intro u
      unfold pieces
      rcases blksOf_cases hr.v u with ⟨h, _⟩ | ⟨x, hx, _, h, _⟩
      · rw [h]; rfl
      · rw [h]; exact List.map_congr_left fun pl hpl => hpc x hx pl hpl
    show List.map (pc ((backS p name b).set m ⟨text, z.uses + 1⟩)) (blksOf (p.vols.set i ⟨name, v.blocks.set b.toNat ((m : Int) + 1)⟩) t) = _
    rw [hb t]
    by_cases e : t = name
    · subst e
      rw [if_pos rfl, if_pos rfl]
      have h5 := hmap t
      rw [hfp t, if_pos rfl] at h5
      have h6 : blksOf (freeP p t b i v).vols t = v.blocks.set b.toNat 0 := by
        have := hb2 t
        rw [if_pos rfl] at this
        exact this
      rw [h6] at h5
      have h7 : pc ((backS p t b).set m ⟨text, z.uses + 1⟩) ((m : Int) + 1) = text := by
        unfold pc
        rw [if_pos (by omega), slotText_at (x := ⟨text, z.uses + 1⟩) (by rw [show ((m : Int) + 1 - 1).toNat = m by omega]; exact List.getElem?_set_self (ltQ hz))]
      have h8 : v.blocks.set b.toNat ((m : Int) + 1) = (v.blocks.set b.toNat 0).set b.toNat ((m : Int) + 1) := by rw [List.set_set]
      rw [h8, List.map_set, h5, h7, List.set_set]
    · rw [if_neg e, if_neg e]
      have h5 := hmap t
      rw [hfp t, if_neg e] at h5
      have h6 : blksOf (freeP p name b i v).vols t = blksOf p.vols t := by
        have := hb2 t
        rw [if_neg e] at this
        exact this
      rw [h6] at h5
      exact h5

/-! ### reading -/
theorem readV_pieces {p : Pool} (hp : PoolP p) {t : ByteArray} {i : Nat} (hi : i < (pieces p t).length) : readOk p t i = true ∧ some (readV p t i) = (pieces p t)[i]? := by
  have hl : i < (blksOf p.vols t).length := by rw [pieces, List.length_map] at hi; exact hi
  have hn : ¬ volIdx p.vols t < 0 := fun h => by rw [(volIdx_blks hp.v).1 h] at hl; simp at hl
  obtain ⟨k, v, hk, hv, hvn⟩ := volIdx_yes hn
  have hb := blksOf_at hk hv
  rw [hb] at hl
  have hva : volAt p.vols (volIdx p.vols t) = v := by unfold volAt; rw [hk, Int.toNat_natCast, getD_of hv]
  have hh : hasBlk p.vols t i = k := by
    unfold hasBlk
    rw [if_neg hn, hva, if_pos (inR_iff.2 (by omega)), hk]
  have hok : readOk p t i = true := by unfold readOk; rw [hh, poolOk_iff.2 hp]; simp
  refine ⟨hok, ?_⟩
  obtain ⟨x, hx⟩ := getQ hl
  have hpa : placeAt p.vols t i = x := by unfold placeAt; rw [hva, Int.toNat_natCast, getD_of hx]
  unfold readV pieces
  rw [hok, if_pos rfl, hb, List.getElem?_map, hx]
  unfold readOf pc
  rw [hpa]
  rfl
/-- A volume of one pool reads as one of another pool does. -/
def RdEq (a : Pool) (x : ByteArray) (b : Pool) (y : ByteArray) : Prop := lgBlks a.vols x = lgBlks b.vols y ∧ ∀ i : Nat, (i : Int) < lgBlks a.vols x → readOk a x i = true ∧ readOk b y i = true ∧ readV a x i = readV b y i
/-- All volumes but one read as they did. -/
def OthEq (a b : Pool) (n : ByteArray) : Prop := ∀ x ∈ a.vols, x.name ≠ n → RdEq a x.name b x.name
end Go.Proofs.Ytpobgjkmjlmafaa
/- Plain Lean: how many places are free behind the four changes; a clone that is gone; two volumes made in any order; what is written again. -/

namespace Go.Proofs.Ytpobgjkmjlmafaa
open Go.RowKit Go.Proofs.YtpobgjkmjlmafaaW.PrintWords
set_option linter.unusedVariables false
set_option linter.unusedSimpArgs false

/-! ### free places -/
theorem freeN_set {s : List Slot} {m : Nat} {x y : Slot} (hx : s[m]? = some x) : freeN (s.set m y) = freeN s - (if x.uses = 0 then 1 else 0) + (if y.uses = 0 then 1 else 0) := by
  induction s generalizing m with
  | nil => simp at hx
  | cons a s ih =>
    cases m with
    | zero => simp at hx; subst hx; simp only [List.set_cons_zero, freeN]; omega
    | succ m => simp at hx; simp only [List.set_cons_succ, freeN, ih hx]; omega
theorem freeN_pos {s : List Slot} {m : Nat} {x : Slot} (hx : s[m]? = some x) (h : x.uses = 0) : 0 < freeN s := by
  have h1 := freeN_set (y := (⟨e0, 1⟩ : Slot)) hx
  have h2 := (freeN_le (s.set m ⟨e0, 1⟩)).1
  rw [if_pos h, if_neg (by simp)] at h1
  omega
theorem freeN_zero {s : List Slot} (h : ∀ (m : Nat) (x : Slot), s[m]? = some x → x.uses ≠ 0) : freeN s = 0 := by
  induction s with
  | nil => rfl
  | cons a s ih =>
    have h0 := h 0 a rfl
    have := ih fun m x hx => h (m + 1) x (by simpa using hx)
    simp only [freeN]
    rw [if_neg h0, this]; rfl
theorem PoolP.free {p : Pool} (h : PoolP p) : storeFree p.slots = freeN p.slots := storeFree_yes (storeOk_iff.2 h.s)
/-! ### a clone that is gone -/
/-- .. and one can do away with the other one. -/
theorem goneF_yes {p : Pool} {name : ByteArray} (h : 0 ≤ volIdx p.vols name) : ∃ q, goneF p name = some q := by
  unfold goneF
  rw [if_neg (by omega)]
  exact ⟨_, rfl⟩
/-! ### rows by name -/
/-! ### two volumes made -/
theorem volIdx_mem {vs : List Vol} {t : ByteArray} : 0 ≤ volIdx vs t ↔ ∃ x ∈ vs, x.name = t := by
  constructor
  · intro h
    obtain ⟨m, x, _, hx, hn⟩ := volIdx_yes (show ¬ volIdx vs t < 0 by omega)
    exact ⟨x, List.mem_of_getElem? hx, hn⟩
  · rintro ⟨x, hx, hn⟩
    by_cases h : volIdx vs t < 0
    · obtain ⟨m, hm⟩ := List.getElem?_of_mem hx
      exact absurd hn (volIdx_no.1 h m x hm)
    · omega
/-! ### all gone -/
theorem gone_head {x : Pool} (hp : PoolP x) {v : Vol} {vs : List Vol} (h : x.vols = v :: vs) : ∃ q, goneF x v.name = some q ∧ PoolP q ∧ q.vols = vs := by
  have hx : x.vols[0]? = some v := by rw [h]; rfl
  obtain ⟨q, hq⟩ := goneF_yes (p := x) (name := v.name) (by rw [hp.v.idx hx]; simp)
  refine ⟨q, hq, goneF_ok hp hq, ?_⟩
  obtain ⟨i, u, hi, hu, hun, rfl⟩ := goneF_some hq
  have h0 := hp.v.idx hx
  rw [hi] at h0
  obtain rfl : i = 0 := by omega
  show x.vols.eraseIdx 0 = vs
  rw [h]; rfl
theorem pool_empty {x : Pool} (hp : PoolP x) (h : x.vols = []) : x = newP := by
  have hs : x.slots = newS := by
    apply List.ext_getElem?
    intro m
    unfold newS
    by_cases hm : m < 8
    · obtain ⟨y, hy⟩ := hp.slot hm
      have h1 := hp.uses m y hy
      rw [h] at h1
      have h2 := (hp.s.ok m y hy).2.2.2.2 h1
      rw [hy, List.getElem?_replicate, if_pos hm]
      cases y
      simp only [uses] at h1 h2
      rw [h1, h2]; rfl
    · rw [List.getElem?_eq_none (by rw [hp.s.len]; omega), List.getElem?_eq_none (by simp; omega)]
  cases x
  simp only at hs h
  rw [hs, h]; rfl

/-! ### room for a piece -/
theorem hasBlk_iff {vs : List Vol} (h : VolsP vs) {t : ByteArray} {b : Int} : 0 ≤ hasBlk vs t b ↔ 0 ≤ b ∧ b < (blksOf vs t).length := by
  unfold hasBlk blksOf
  by_cases hv : volIdx vs t < 0
  · rw [if_pos hv, if_pos hv]; simp
  · rw [if_neg hv, if_neg hv]
    cases hr : inR b 0 ((volAt vs (volIdx vs t)).blocks.length - 1)
    · rw [inR_no] at hr
      simp only [Bool.false_eq_true, if_false]
      omega
    · rw [inR_iff] at hr
      rw [if_pos rfl]
      omega
theorem PoolP.wr {p : Pool} (h : PoolP p) {t : ByteArray} {b : Int} (h0 : 0 ≤ b) (h1 : b < lgBlks p.vols t) : ∃ i v x, Wr p t b i v x :=
  hasBlk_wr ((hasBlk_iff h.v).2 ⟨h0, by rw [lgBlks_len] at h1; exact h1⟩)
theorem probe_hit {s : List Slot} {m : Nat} {x : Slot} (hx : s[m]? = some x) (hu : x.uses = 0) (hl : s.length = 8) : ∀ (n d : Nat) (p : Int), 1 ≤ p → p ≤ 8 → d < n → goRound d p = (m : Int) + 1 → probe s n p ≠ 0 := by
  intro n
  induction n with
  | zero => intro d p h1 h8 hd; omega
  | succ n ih =>
    intro d p h1 h8 hd hg
    obtain ⟨y, hy⟩ := getQ (show (p - 1).toNat < s.length by rw [hl]; omega)
    unfold probe
    rw [getD_of hy]
    by_cases h0 : y.uses = 0
    · rw [if_pos h0]; omega
    · rw [if_neg h0]
      cases d with
      | zero =>
        exfalso
        unfold goRound at hg
        have : (p - 1).toNat = m := by omega
        rw [this] at hy
        obtain rfl := Option.some.inj (hy.symm.trans hx)
        exact h0 hu
      | succ d => exact ih d _ (by omega) (by omega) (by omega) (by rw [goRound_succ]; exact hg)
theorem probe_any {s : List Slot} (hl : s.length = 8) {m : Nat} {x : Slot} (hx : s[m]? = some x) (hu : x.uses = 0) (t : ByteArray) : probe s 8 (placeOf t) ≠ 0 := by
  have hm : m < 8 := by have := ltQ hx; omega
  have hp := placeOf_bd (s := t)
  exact probe_hit hx hu hl 8 (((m : Int) + 1 - placeOf t) % 8).toNat _ hp.1 hp.2 (by omega) (by unfold goRound; omega)
/-- Is a piece at some place? -/
def there (s : List Slot) (t : ByteArray) : Bool := decide (0 ≤ idx (fun o : Slot => o.text.toList == t.toList) s)
theorem there_iff {s : List Slot} {t : ByteArray} : there s t = true ↔ ∃ (m : Nat) (x : Slot), s[m]? = some x ∧ x.text = t := by
  unfold there
  rw [decide_eq_true_eq]
  rcases find_cases s t with ⟨hi, hn⟩ | ⟨m, x, hi, hx, he⟩
  · rw [hi]
    exact ⟨fun h => by omega, fun ⟨m, x, hx, he⟩ => absurd he (hn m x hx)⟩
  · rw [hi]
    exact ⟨fun _ => ⟨m, x, hx, he⟩, fun _ => by omega⟩
theorem putAt_ne {s : List Slot} {t : ByteArray} (h : StoreP s) (h24 : ∀ (m : Nat) (x : Slot), s[m]? = some x → x.uses ≤ 24) : putAt s t ≠ 0 ↔ (there s t = true ∨ 0 < freeN s) := by
  unfold putAt
  rcases find_cases s t with ⟨hi, hn⟩ | ⟨m, x, hi, hx, he⟩
  · rw [if_pos hi]
    have hth : there s t = false := by
      cases ht : there s t
      · rfl
      · obtain ⟨m, x, hx, he⟩ := there_iff.1 ht
        exact absurd he (hn m x hx)
    rw [hth]
    simp only [Bool.false_eq_true, false_or]
    constructor
    · intro h0
      have hp := placeOf_bd (s := t)
      obtain ⟨m, x, _, hx, hu⟩ := probe_free h.len 8 _ hp.1 hp.2 h0
      exact freeN_pos hx hu
    · intro h0
      by_cases hex : ∃ (m : Nat) (x : Slot), s[m]? = some x ∧ x.uses = 0
      · obtain ⟨m, x, hx, hu⟩ := hex
        exact probe_any h.len hx hu t
      · have := freeN_zero (s := s) fun m x hx hu => hex ⟨m, x, hx, hu⟩
        omega
  · rw [if_neg (by omega), hi, Int.toNat_natCast, getD_of hx]
    have h1 := h24 m x hx
    rw [if_neg (by omega)]
    exact ⟨fun _ => .inl (there_iff.2 ⟨m, x, hx, he⟩), fun _ => by omega⟩
theorem Wr.back24 {p : Pool} {name : ByteArray} {b : Int} {i : Nat} {v : Vol} {x : Int} (hp : PoolP p) (h : Wr p name b i v x) : ∀ (m : Nat) (z : Slot), (backS p name b)[m]? = some z → z.uses ≤ 24 := by
  intro m z hz
  obtain ⟨h1, h2⟩ := h.back hp
  obtain ⟨y, hy, hu, _⟩ := slot_back (show (backS p name b).length = p.slots.length by rw [h1.len, hp.s.len]) h2 hz
  have h3 := hp.uses m y hy
  have h4 := hp.v.uses_le ((m : Int) + 1)
  have h5 := (cnt_le ((m : Int) + 1) [x]).1
  omega
/-- One can write as long as there is room. -/
theorem write_room {p : Pool} {name : ByteArray} {b : Int} {text : ByteArray} {i : Nat} {v : Vol} {x : Int} (hp : PoolP p) (hw : Wr p name b i v x) (ht : tOk text = true) :
    (writeF p name b text).isSome = (eqS text e0 || (there (backS p name b) text || decide (0 < freeN (backS p name b)))) := by
  have h1 := putAt_ne (t := text) (hw.back hp).1 (hw.back24 hp)
  unfold writeF
  rw [if_pos ⟨by rw [hw.has]; omega, ht⟩]
  by_cases he : text = e0
  · rw [if_pos he, eqS_iff.2 he]; rfl
  · rw [if_neg he, eqS_no.2 he]
    by_cases h0 : putAt (backS p name b) text = 0
    · rw [if_pos h0]
      have : ¬ (there (backS p name b) text = true ∨ 0 < freeN (backS p name b)) := fun h => h1.2 h h0
      rw [not_or] at this
      simp only [Bool.not_eq_true] at this
      rw [this.1, decide_eq_false this.2]; rfl
    · rw [if_neg h0]
      rcases h1.1 h0 with h | h
      · rw [h]; simp
      · rw [decide_eq_true h]; simp
/-! the places behind a block's piece given back -/
theorem Wr.backEq {p : Pool} {name : ByteArray} {b : Int} {i : Nat} {v : Vol} {x : Int} (h : Wr p name b i v x) : backS p name b = if 0 < x then dropS p.slots (x - 1).toNat else p.slots := by
  unfold backS
  rw [h.place]
  rfl
theorem back_free {p : Pool} {name : ByteArray} {b : Int} {i : Nat} {v : Vol} {x : Int} (hp : PoolP p) (hw : Wr p name b i v x) : freeN p.slots ≤ freeN (backS p name b) ∧ freeN (backS p name b) ≤ freeN p.slots + 1 := by
  rw [hw.backEq]
  by_cases h0 : 0 < x
  · rw [if_pos h0]
    obtain ⟨y, hy, h1, _, _⟩ := hp.blkM (List.mem_of_getElem? hw.vol) (List.mem_of_getElem? hw.blk) h0
    rw [dropS_eq hy, freeN_set hy, if_neg (by omega)]
    split <;> omega
  · rw [if_neg h0]; omega
/-- A piece that is there can be written anywhere, and costs nothing. -/
theorem write_there {p : Pool} {name : ByteArray} {b : Int} {text : ByteArray} {i : Nat} {v : Vol} {x : Int} (hp : PoolP p) (hw : Wr p name b i v x) (ht : tOk text = true) (hne : text ≠ e0) {j : Nat} {y : Slot} (hy : p.slots[j]? = some y) (hyt : y.text = text) :
    ∃ q, writeF p name b text = some q ∧ freeN p.slots ≤ freeN q.slots ∧ (x = (j : Int) + 1 → freeN q.slots = freeN p.slots) := by
  have hyo := hp.s.ok j y hy
  have hy1 : 1 ≤ y.uses := by
    have : y.uses ≠ 0 := fun e => hne (hyt ▸ hyo.2.2.2.2 e)
    omega
  obtain ⟨hb1, hb2⟩ := hw.back hp
  have hf := back_free hp hw
  have hj8 : j < 8 := by have := ltQ hy; rw [hp.s.len] at this; exact this
  obtain ⟨z, hz, hzu, hzt⟩ := hb2 j y hy
  rw [cnt_one] at hzu
  -- the slot's own place in the pool behind the piece given back
  have hfz : z.uses = 0 → x = (j : Int) + 1 ∧ freeN (backS p name b) = freeN p.slots + 1 := by
    intro hz0
    have hx : x = (j : Int) + 1 := by
      by_cases hx : x = (j : Int) + 1
      · exact hx
      · rw [if_neg hx] at hzu; omega
    refine ⟨hx, ?_⟩
    rw [hw.backEq, if_pos (by omega), hx, show ((j : Int) + 1 - 1).toNat = j by omega, dropS_eq hy, freeN_set hy, if_neg (by omega)]
    rw [if_pos hx] at hzu
    have : (lessS y).uses = 0 := by rw [lessS_uses hy1]; omega
    rw [if_pos this]; omega
  have hfs : z.uses ≠ 0 → x = (j : Int) + 1 → freeN (backS p name b) = freeN p.slots := by
    intro hz0 hx
    rw [hw.backEq, if_pos (by omega), hx, show ((j : Int) + 1 - 1).toNat = j by omega, dropS_eq hy, freeN_set hy, if_neg (by omega)]
    rw [if_pos hx] at hzu
    have : (lessS y).uses ≠ 0 := by rw [lessS_uses hy1]; omega
    rw [if_neg this]; omega
  have hroom := write_room hp hw ht
  have hsome : (writeF p name b text).isSome = true := by
    rw [hroom]
    by_cases hz0 : z.uses = 0
    · have := freeN_pos hz hz0
      rw [decide_eq_true this]; simp
    · have : there (backS p name b) text = true := there_iff.2 ⟨j, z, hz, by rcases hzt with h | h; exact h.trans hyt; exact absurd h hz0⟩
      rw [this]; simp
  obtain ⟨q, hq⟩ := Option.isSome_iff_exists.1 hsome
  refine ⟨q, hq, ?_⟩
  obtain ⟨i', v', x', hw', _, ho⟩ := writeF_some hp hq
  have hfree : freeN q.slots = if z.uses = 0 then freeN (backS p name b) - 1 else freeN (backS p name b) := by
    cases ho with
    | free he => exact absurd he hne
    | put m u he _ hu hpa hz2 =>
      show freeN ((backS p name b).set m ⟨text, u.uses + 1⟩) = _
      have huo := hb1.ok m u hu
      rw [freeN_set hu, if_neg (show ¬ (⟨text, u.uses + 1⟩ : Slot).uses = 0 by simp only; omega)]
      by_cases hz0 : z.uses = 0
      · rw [if_pos hz0]
        have : u.uses = 0 := by
          rcases hz2 with ⟨h1, _⟩ | ⟨h1, _⟩
          · by_cases hu0 : u.uses = 0
            · exact hu0
            · exfalso
              obtain ⟨u0, hu0', hu1, hu2⟩ := slot_back (show (backS p name b).length = p.slots.length by rw [hb1.len, hp.s.len]) hb2 hu
              have hut : u0.text = text := by rcases hu2 with h | h; exact h.symm.trans h1; exact absurd h hu0
              have hmj := hp.s.uniq m j u0 y hu0' hy (hut.trans hyt.symm) (by rw [hut]; exact hne)
              subst hmj
              obtain rfl := Option.some.inj (hu.symm.trans hz)
              exact hu0 hz0
          · exact h1
        rw [if_pos this]; omega
      · rw [if_neg hz0]
        have hztx : z.text = text := by rcases hzt with h | h; exact h.trans hyt; exact absurd h hz0
        have : u.uses ≠ 0 := by
          rcases hz2 with ⟨h1, _⟩ | ⟨h1, h2⟩
          · intro e; exact hne (h1 ▸ huo.2.2.2.2 e)
          · exact absurd hztx (h2 j z hz)
        rw [if_neg this]; omega
  rw [hfree]
  by_cases hz0 : z.uses = 0
  · rw [if_pos hz0]
    have := hfz hz0
    exact ⟨by omega, fun _ => by omega⟩
  · rw [if_neg hz0]
    exact ⟨hf.1, hfs hz0⟩
end Go.Proofs.Ytpobgjkmjlmafaa
/- lgReads, lgOthers: true where volumes read the same. -/



namespace Go.Proofs.Ytpobgjkmjlmafaa
open Go.RowKit Go.Proofs.YtpobgjkmjlmafaaW.PrintWords
set_option linter.unusedVariables false
set_option linter.unusedSimpArgs false

end Go.Proofs.Ytpobgjkmjlmafaa
/- markText: the letter m and a number's figures. -/

namespace Go.Proofs.Ytpobgjkmjlmafaa
open Go.RowKit Go.Proofs.YtpobgjkmjlmafaaW.PrintWords
set_option linter.unusedVariables false
set_option linter.unusedSimpArgs false

def digN (n : Nat) : List UInt8 := if h : n = 0 then [] else digN (n / 10) ++ [UInt8.ofNat (48 + n % 10)]
termination_by n
decreasing_by omega
def mkT (k : Int) : ByteArray := ⟨(109 :: digN k.toNat).toArray⟩
end Go.Proofs.Ytpobgjkmjlmafaa
/- heldIntS, heldSlotS, heldVolS, heldPool at values that hold the marks. -/

namespace Go.Proofs.Ytpobgjkmjlmafaa
open Go.RowKit Go.Proofs.YtpobgjkmjlmafaaW.PrintWords
set_option linter.unusedVariables false
set_option linter.unusedSimpArgs false

def MkI (k : Int) (xs : List Int) : Prop := ∀ (i : Nat) (x : Int), xs[i]? = some x → x = k + i
def MkS (k : Int) (s : List Slot) : Prop := ∀ (i : Nat) (x : Slot), s[i]? = some x → x.text = mkT (k + 2 * i) ∧ x.uses = k + 2 * i + 1
def nxV (k : Int) : List Vol → Int
  | [] => k
  | v :: vs => nxV (k + 1 + v.blocks.length) vs
theorem nxV_le {vs : List Vol} (h : ∀ v ∈ vs, v.blocks.length ≤ 1048576) (k : Int) : k ≤ nxV k vs ∧ nxV k vs ≤ k + vs.length * 1048577 := by
  induction vs generalizing k with
  | nil => simp [nxV]
  | cons a vs ih =>
    have h1 := ih (fun v hv => h v (List.mem_cons_of_mem _ hv)) (k + 1 + a.blocks.length)
    have h2 := h a List.mem_cons_self
    simp only [nxV, List.length_cons]
    omega
def MkV (k : Int) (vs : List Vol) : Prop := ∀ (i : Nat) (v : Vol), vs[i]? = some v → v.name = mkT (nxV k (vs.take i)) ∧ MkI (nxV k (vs.take i) + 1) v.blocks
def nxP (k : Int) (p : Pool) : Int := nxV (k + 2 * p.slots.length) p.vols
structure MkP (k : Int) (p : Pool) : Prop where
  s : MkS k p.slots
  v : MkV (k + 2 * p.slots.length) p.vols
end Go.Proofs.Ytpobgjkmjlmafaa
/- markIntS, markSlotS: a row of one's own filled with marks. -/



namespace Go.Proofs.Ytpobgjkmjlmafaa
open Go.RowKit Go.Proofs.YtpobgjkmjlmafaaW.PrintWords
set_option linter.unusedVariables false
set_option linter.unusedSimpArgs false

theorem OwnI.at {w : World} {base : Nat} {v : Value} {s : List Int} (h : OwnI w base v s) {m : Nat} {x : Int} (hx : s[m]? = some x) :
    ∃ g cap, v = .slice (some ⟨g, 0, none⟩) s.length cap ∧ base ≤ g ∧ g < w.heap.size ∧ s.length ≤ cap ∧ w.cell? ⟨g, m, none⟩ = some (.int .i64 x) ∧ w.frozen? ⟨g, m, none⟩ = false := by
  have hm := ltQ hx
  obtain ⟨g, cap, rfl, hb, hg, hc⟩ := own_form h (by omega)
  refine ⟨g, cap, rfl, hb, hg, hc, ?_, World.ownsRow.frozenAt h _⟩
  rw [World.ownsRow.cellAt h _ (by omega), show m = m * 1 + 0 by omega, flat_get encI_len hx (by omega)]; rfl
theorem OwnI.set {w : World} {base g cap : Nat} {s : List Int} (h : OwnI w base (.slice (some ⟨g, 0, none⟩) s.length cap) s) {m : Nat} {x : Int} (hx : s[m]? = some x) (u : Int) :
    OwnI (w.setCell ⟨g, m, none⟩ (.int .i64 u)) base (.slice (some ⟨g, 0, none⟩) s.length cap) (s.set m u) ∧ w.grownBy (w.setCell ⟨g, m, none⟩ (.int .i64 u)) (some g) := by
  have := World.ownsRow.stored h (m * 1 + 0) (.int .i64 u)
  rw [flat_set encI_len (y := u) hx (by omega) rfl, show m * 1 + 0 = m by omega] at this
  unfold OwnI
  rw [List.length_set]
  exact this
/-- What a marker of numbers leaves. -/
def MarkedI (k : Int) (w : World) (base : Nat) (v : Value) (n : Nat) (e : Ending) (w' : World) : Prop := e = .returned (.int .i64 (k + n)) ∧ (∃ s, s.length = n ∧ OwnI w' base v s ∧ MkI k s) ∧ w.grownBy w' v.ownBlock
/-- What a marker of slots leaves. -/
def MarkedS (k : Int) (w : World) (base : Nat) (v : Value) (n : Nat) (e : Ending) (w' : World) : Prop := e = .returned (.int .i64 (k + 2 * n)) ∧ (∃ s, s.length = n ∧ OwnS w' base v s ∧ MkS k s) ∧ w.grownBy w' v.ownBlock
end Go.Proofs.Ytpobgjkmjlmafaa
/- markVolS, markPool: a pool of one's own filled with marks. -/


namespace Go.Proofs.Ytpobgjkmjlmafaa
open Go.RowKit Go.Proofs.YtpobgjkmjlmafaaW.PrintWords
set_option linter.unusedVariables false
set_option linter.unusedSimpArgs false

/-- Of what was there only the blocks of S may have changed. -/
structure Only (w w' : World) (S : Nat → Prop) : Prop where
  os : w'.os = w.os
  tape : w'.tape = w.tape
  output : w'.output = w.output
  size : w.heap.size ≤ w'.heap.size
  block : ∀ k, k < w.heap.size → ¬ S k → w'.heap[k]? = w.heap[k]?
theorem Only.refl (w : World) (S : Nat → Prop) : Only w w S := ⟨rfl, rfl, rfl, Nat.le_refl _, fun _ _ _ => rfl⟩
theorem Only.trans {a b c : World} {S : Nat → Prop} (h : Only a b S) (k : Only b c S) : Only a c S :=
  ⟨k.os.trans h.os, k.tape.trans h.tape, k.output.trans h.output, Nat.le_trans h.size k.size, fun i hi hS => (k.block i (Nat.lt_of_lt_of_le hi h.size) hS).trans (h.block i hi hS)⟩
theorem Only.mono {w w' : World} {S T : Nat → Prop} (h : Only w w' S) (hS : ∀ k, S k → T k) : Only w w' T := ⟨h.os, h.tape, h.output, h.size, fun k hk hT => h.block k hk fun e => hT (hS k e)⟩
theorem Only.below {w w' : World} {S : Nat → Prop} {b : Nat} (h : Only w w' S) (hb : b ≤ w.heap.size) (hS : ∀ k, S k → b ≤ k) : Below b w w' :=
  ⟨h.os, h.tape, h.output, h.size, fun k hk => h.block k (by omega) fun e => by have := hS k e; omega⟩
/-- The blocks of a row of volumes. -/
def InV (v : Value) (bvs : List Value) (k : Nat) : Prop := v.ownBlock = some k ∨ ∃ b ∈ bvs, b.ownBlock = some k
theorem flat_same {α β} {enc : α → List β} {xs : List α} {m : Nat} {x y : α} (hx : xs[m]? = some x) (he : enc y = enc x) : (xs.set m y).flatMap enc = xs.flatMap enc := by
  induction xs generalizing m with
  | nil => simp at hx
  | cons a xs ih =>
    cases m with
    | zero => simp at hx; subst hx; simp [he]
    | succ m => simp at hx; simp [ih hx]
/-- One volume's name and blocks turned. -/
theorem OwnV.setI {w w' : World} {base : Nat} {v : Value} {vs : List Vol} {bvs : List Value} (h : OwnV w base v vs bvs) {m : Nat} {x : Vol} {b : Value} (hx : vs[m]? = some x) (hb : bvs[m]? = some b) {s : List Int} (ho : OwnI w' base b s) (hg : w.grownBy w' b.ownBlock) :
    OwnV w' base v (vs.set m ⟨x.name, s⟩) bvs := by
  refine ⟨⟨by rw [List.length_set]; exact h.row.len, ?_⟩, ?_, h.apart⟩
  · have hz : (((vs.set m ⟨x.name, s⟩).zip bvs).flatMap encV) = ((vs.zip bvs).flatMap encV) := by
      rw [← zip_setL hb]
      exact flat_same (zip_get hx hb) rfl
    rw [hz, List.length_set]
    exact own_other_type h.row.row (h.inner m x b hx hb) (by decide) hg
  · intro i y c hy hc
    by_cases e : i = m
    · subst e
      rw [List.getElem?_set_self (ltQ hx)] at hy
      obtain rfl := Option.some.inj hy
      obtain rfl := Option.some.inj (hc.symm.trans hb)
      exact ho
    · rw [List.getElem?_set_ne (fun h => e h.symm)] at hy
      refine (h.inner i y c hy hc).kept hg ?_
      cases hk : c.ownBlock with
      | none => exact .inl rfl
      | some q => exact .inr fun h2 => h.apart i m c b q e hc hb hk h2.symm
/-- What a marker of volumes leaves. -/
def MarkedV (k : Int) (w : World) (base : Nat) (v : Value) (vs : List Vol) (bvs : List Value) (e : Ending) (w' : World) : Prop :=
  e = .returned (.int .i64 (nxV k vs)) ∧ (∃ vs', vs'.map (fun x => x.blocks.length) = vs.map (fun x => x.blocks.length) ∧ OwnV w' base v vs' bvs ∧ MkV k vs') ∧ Only w w' (InV v bvs)
end Go.Proofs.Ytpobgjkmjlmafaa
/- markPool. -/

namespace Go.Proofs.Ytpobgjkmjlmafaa
open Go.RowKit Go.Proofs.YtpobgjkmjlmafaaW.PrintWords
set_option linter.unusedVariables false
set_option linter.unusedSimpArgs false

def InP (v0 v1 : Value) (bvs : List Value) (k : Nat) : Prop := v0.ownBlock = some k ∨ InV v1 bvs k
/-- What a marker of pools leaves. -/
def MarkedP (k : Int) (w : World) (base : Nat) (v0 v1 : Value) (p : Pool) (bvs : List Value) (e : Ending) (w' : World) : Prop :=
  e = .returned (.int .i64 (nxP k p)) ∧ (∃ p', p'.slots.length = p.slots.length ∧ p'.vols.map (fun x => x.blocks.length) = p.vols.map (fun x => x.blocks.length) ∧ OwnP w' base v0 v1 p' bvs ∧ MkP k p') ∧ Only w w' (InP v0 v1 bvs)
theorem own_move2 {w w1 : World} {base : Nat} {e : TypeId} {sz n : Nat} {v : Value} {xs : List Value} (h : w.ownsRow base e sz v n xs) (hm : ∀ k, v.ownBlock = some k → w1.heap[k]? = w.heap[k]?) : w1.ownsRow base e sz v n xs := by
  obtain ⟨h1, h2⟩ := h
  refine ⟨h1, ?_⟩
  rcases h2 with h2 | ⟨g, cap, cur, rfl, hg, hh, r⟩
  · exact .inl h2
  · exact .inr ⟨g, cap, cur, rfl, hg, (hm g (by simp [Value.ownBlock])).trans hh, r⟩
end Go.Proofs.Ytpobgjkmjlmafaa
/- szSlot, szIntS, szVol, szSlotS, szVolS, szPool: what is not too great is small. -/

namespace Go.Proofs.Ytpobgjkmjlmafaa
open Go.RowKit Go.Proofs.YtpobgjkmjlmafaaW.PrintWords
set_option linter.unusedVariables false
set_option linter.unusedSimpArgs false

/-- A number is returned; if it is not negative, C holds, and it is at most what was left. -/
def Left (C : Prop) (left : Int) (w : World) (e : Ending) (w' : World) : Prop := ∃ r : Int, e = .returned (.int .i64 r) ∧ Bel w w' ∧ (0 ≤ r → C ∧ r ≤ left) ∧ -1 ≤ r
/-- Lengths that a memory can bear. -/
structure RawS (s : List Slot) : Prop where
  len : s.length ≤ 9223372036854775807
  text : ∀ x ∈ s, x.text.size ≤ 9223372036854775807
structure RawV (vs : List Vol) : Prop where
  len : vs.length ≤ 9223372036854775807
  name : ∀ x ∈ vs, x.name.size ≤ 9223372036854775807
  blocks : ∀ x ∈ vs, x.blocks.length ≤ 9223372036854775807
end Go.Proofs.Ytpobgjkmjlmafaa
/-! ### 40. Elements whose inner rows lie apart: what is stored into one says nothing of the others.
   S: as R, with an owner function f (block to element's index). H: as S with a hole: of element i its cells alone are told, its blocks are oki. -/
namespace Go.Proofs.YtpobgjkmjlmafaaW.PrintWords
open Go.RowKit
namespace Kd
/-- An element with its index: its blocks are those that f gives to it. -/
def tag {α : Type} (f : Nat → Nat) (d : Kd α) : Kd (α × Nat) where
  sz := d.sz
  E := d.E
  K := fun w x cs => d.K w x.1 cs
  M := fun w base ok x cs => d.M w base (fun k => ok k ∧ f k = x.2) x.1 cs
  K_len := fun h => d.K_len h
  K_one := fun h => d.K_one h
  K_below := fun hb h => d.K_below hb h
  K_of_M := fun h => d.K_of_M h
  M_mono := fun hok h => d.M_mono (fun k hk => ⟨hok k hk.1, hk.2⟩) h
  M_bound := fun h => d.M_mono (fun _ hk => ⟨⟨hk.1.1, hk.2⟩, hk.1.2⟩) (d.M_bound h)
  M_move := fun hm h => d.M_move (fun k hk => hm k hk.1) h
  M_lower := fun hb h => d.M_lower hb h
/-- Nothing but its cells: no block is said of it. -/
def bare {α : Type} (d : Kd α) : Kd α where
  sz := d.sz
  E := d.E
  K := d.K
  M := fun w base _ x cs => d.M w base (fun _ => False) x cs
  K_len := fun h => d.K_len h
  K_one := fun h => d.K_one h
  K_below := fun hb h => d.K_below hb h
  K_of_M := fun h => d.K_of_M h
  M_mono := fun _ h => h
  M_bound := fun h => h
  M_move := fun _ h => d.M_move (fun _ hk => hk.elim) h
  M_lower := fun hb h => d.M_lower hb h
/-- The cells themselves. -/
def raw (sz : Nat) : Kd (List Value) where
  sz := sz
  E := []
  K := fun _ x cs => cs = x ∧ cs.length = sz ∧ ∀ u ∈ cs, u.oneCell' = true
  M := fun _ _ _ x cs => cs = x ∧ cs.length = sz ∧ ∀ u ∈ cs, u.oneCell' = true
  K_len := fun h => h.2.1
  K_one := fun h => h.2.2
  K_below := fun _ h => h
  K_of_M := fun h => h
  M_mono := fun _ h => h
  M_bound := fun h => h
  M_move := fun _ h => h
  M_lower := fun _ h => h
/-- A row of elements (type e) of the call's own, no two of which lead to one block. -/
def S {α : Type} (d : Kd α) (e : Nat) (w : World) (base : Nat) (ok : Nat → Prop) (v : Value) (xs : List α) : Prop := ∃ f, (tag f d).R e w base ok v xs.zipIdx
section
variable {α β : Type} {d : Kd α} {d' : Kd β} {e e' : Nat} {w w1 W : World} {base b : Nat} {ok ok' okv oku : Nat → Prop} {u v : Value} {xs : List α} {ys : List β}
end
section
variable {α β : Type} {d : Kd α} {d' : Kd β} {e e' g : Nat} {w w1 W : World} {base b : Nat} {ok ok' okv oku : Nat → Prop} {u v : Value} {xs : List α} {ys : List β}
end
/-! #### append, make, literals: the new element's blocks are none of the elder ones' -/
section
open Classical in
variable {P : Program} {ops : Array Oper} {rest : List Oper} {o : Oper} {a : Act} {Q : Exit → Act → World → Prop} {Kc : Act → World → Prop} {α : Type}
end
/-! #### a row with a hole: element i is lent, its blocks are oki; of it the row says its cells alone -/
/-- Element i is these cells; the others are d's. -/
def gap {α : Type} (f : Nat → Nat) (d : Kd α) (i : Nat) (c : List Value) : Kd (α × Nat) where
  sz := d.sz
  E := d.E
  K := fun w x cs => (x.2 = i → cs = c ∧ cs.length = d.sz ∧ ∀ u ∈ cs, u.oneCell' = true) ∧ (x.2 ≠ i → d.K w x.1 cs)
  M := fun w base ok x cs => (x.2 = i → cs = c ∧ cs.length = d.sz ∧ ∀ u ∈ cs, u.oneCell' = true) ∧ (x.2 ≠ i → d.M w base (fun k => ok k ∧ f k = x.2) x.1 cs)
  K_len := fun {w x cs} h => by
    by_cases hx : x.2 = i
    · exact (h.1 hx).2.1
    · exact d.K_len (h.2 hx)
  K_one := fun {w x cs} h => by
    by_cases hx : x.2 = i
    · exact (h.1 hx).2.2
    · exact d.K_one (h.2 hx)
  K_below := fun hb h => ⟨h.1, fun hx => d.K_below hb (h.2 hx)⟩
  K_of_M := fun h => ⟨h.1, fun hx => d.K_of_M (h.2 hx)⟩
  M_mono := fun hok h => ⟨h.1, fun hx => d.M_mono (fun k hk => ⟨hok k hk.1, hk.2⟩) (h.2 hx)⟩
  M_bound := fun h => ⟨h.1, fun hx => d.M_mono (fun _ hk => ⟨⟨hk.1.1, hk.2⟩, hk.1.2⟩) (d.M_bound (h.2 hx))⟩
  M_move := fun hm h => ⟨h.1, fun hx => d.M_move (fun k hk => hm k hk.1) (h.2 hx)⟩
  M_lower := fun hb h => ⟨h.1, fun hx => d.M_lower hb (h.2 hx)⟩
def H {α : Type} (d : Kd α) (e : Nat) (w : World) (base : Nat) (ok : Nat → Prop) (v : Value) (xs : List α) (i : Int) (oki : Nat → Prop) (c : List Value) : Prop :=
  (∀ k, oki k → ok k) ∧ ∃ f, (gap f d i.toNat c).R e w base (fun k => ok k ∧ ¬ oki k) v xs.zipIdx
section
variable {α β : Type} {d : Kd α} {e e' g n cap : Nat} {w w1 W : World} {base : Nat} {ok ok' oki okp : Nat → Prop} {u v : Value} {xs : List α} {i : Int} {c : List Value}
open Classical in
end
section
variable {P : Program} {ops : Array Oper} {rest : List Oper} {o : Oper} {a : Act} {Q : Exit → Act → World → Prop} {α : Type}
end
end Kd
end Go.Proofs.YtpobgjkmjlmafaaW.PrintWords
/- toIntS, toSlot, toVol, toSlotS, toVolS, toPool: copies of the laws' own values. -/







namespace Go.Proofs.Ytpobgjkmjlmafaa
open Go.RowKit Go.Proofs.YtpobgjkmjlmafaaW.PrintWords Go.Proofs.YtpobgjkmjlmafaaW.PrintLast
set_option linter.unusedVariables false
set_option linter.unusedSimpArgs false

theorem kInt_mkM (w : World) (base : Nat) (ok : Nat → Prop) (x : Int) : kInt.M w base ok x [.int .i64 x] := rfl
theorem OwnI.get {w : World} {base g n cap : Nat} {s : List Int} (h : OwnI w base (.slice (some ⟨g, 0, none⟩) n cap) s) (hn : n = s.length) : OwnI w base (.slice (some ⟨g, 0, none⟩) s.length cap) s := hn ▸ h
theorem Blk.nw3 (w : World) (o o' : Obj) (cs : Array Value) (t : TypeId) : Blk (((w.alloc o).alloc o').alloc (.cells cs t)) (w.heap.size + 1 + 1) cs t := by
  have := Blk.nw2 (w.alloc o) o' cs t
  rwa [show (w.alloc o).heap.size = w.heap.size + 1 by simp] at this
/-- One volume of one's own stored: its name, its blocks. -/
theorem OwnV.put {w : World} {base g cap : Nat} {vs : List Vol} {bvs : List Value} (h : OwnV w base (.slice (some ⟨g, 0, none⟩) vs.length cap) vs bvs) {m : Nat} {y : Vol} (hy : vs[m]? = some y) (x : Vol) {b : Value} (hb : OwnI w base b x.blocks)
    (hap : ∀ (i : Nat) (b' : Value) (k : Nat), bvs[i]? = some b' → b'.ownBlock = some k → b.ownBlock ≠ some k) :
    OwnV ((w.setCell ⟨g, m * 2, none⟩ (.string x.name)).setCell ⟨g, m * 2 + 1, none⟩ b) base (.slice (some ⟨g, 0, none⟩) vs.length cap) (vs.set m x) (bvs.set m b) ∧ w.grownBy ((w.setCell ⟨g, m * 2, none⟩ (.string x.name)).setCell ⟨g, m * 2 + 1, none⟩ b) (some g) := by
  obtain ⟨h1, g1⟩ := h.row.setN hy x.name
  have hm := ltQ hy
  have hy1 : (vs.set m ⟨x.name, y.blocks⟩)[m]? = some ⟨x.name, y.blocks⟩ := List.getElem?_set_self hm
  have h1' : VRow (w.setCell ⟨g, m * 2, none⟩ (.string x.name)) base (.slice (some ⟨g, 0, none⟩) (vs.set m ⟨x.name, y.blocks⟩).length cap) (vs.set m ⟨x.name, y.blocks⟩) bvs := by rw [List.length_set]; exact h1
  obtain ⟨h2, g2⟩ := h1'.setB hy1 b
  have hbm : m < bvs.length := by rw [h.row.len]; exact hm
  have hg := grown_tr g1 g2
  have hz : ((vs.set m x).zip (bvs.set m b)).flatMap encV = ((vs.set m ⟨x.name, y.blocks⟩).zip (bvs.set m b)).flatMap encV := by
    rw [show vs.set m x = (vs.set m ⟨x.name, y.blocks⟩).set m x by rw [List.set_set], ← zip_setL (List.getElem?_set_self hbm)]
    exact flat_same (zip_get hy1 (List.getElem?_set_self hbm)) rfl
  refine ⟨⟨⟨by rw [List.length_set, List.length_set]; exact h.row.len, ?_⟩, ?_, ?_⟩, hg⟩
  · have h5 := h2.row
    rw [hz, List.length_set]
    rw [List.length_set] at h5
    exact h5
  · intro i z c hz2 hc
    by_cases e : i = m
    · subst e
      rw [List.getElem?_set_self hm] at hz2
      rw [List.getElem?_set_self hbm] at hc
      obtain rfl := Option.some.inj hz2
      obtain rfl := Option.some.inj hc
      exact own_other_type hb h.row.row (by decide) hg
    · rw [List.getElem?_set_ne (fun h => e h.symm)] at hz2 hc
      exact own_other_type (h.inner i z c hz2 hc) h.row.row (by decide) hg
  · intro i j c c' k hij hc hc' hk hk'
    by_cases e : i = m
    · subst e
      rw [List.getElem?_set_self hbm] at hc
      rw [List.getElem?_set_ne hij] at hc'
      obtain rfl := Option.some.inj hc
      exact hap j c' k hc' hk' hk
    · rw [List.getElem?_set_ne (fun h => e h.symm)] at hc
      by_cases e2 : j = m
      · subst e2
        rw [List.getElem?_set_self hbm] at hc'
        obtain rfl := Option.some.inj hc'
        exact hap i c k hc hk hk'
      · rw [List.getElem?_set_ne (fun h => e2 h.symm)] at hc'
        exact h.apart i j c c' k hij hc hc' hk hk'
/-- A row whose elements are all zero. -/
def kZ (Z : List Value) : Kd Unit := Kd.iso (Kd.raw Z.length) (fun _ => Z)
def MadeV (w : World) (vs : List Vol) (e : Ending) (w' : World) : Prop := ∃ v bvs, e = .returned v ∧ OwnV w' w.heap.size v vs bvs ∧ Bel w w'
end Go.Proofs.Ytpobgjkmjlmafaa
/- What a change of a pool returns. -/


namespace Go.Proofs.Ytpobgjkmjlmafaa
open Go.RowKit Go.Proofs.YtpobgjkmjlmafaaW.PrintWords Go.Proofs.YtpobgjkmjlmafaaW.PrintLast
set_option linter.unusedVariables false
set_option linter.unusedSimpArgs false

/-- A pool of the callee's own, and a bool. -/
def MadePB (w : World) (q : Pool) (ok : Bool) (e : Ending) (w' : World) : Prop := ∃ v0 v1 bvs, e = .returned (.tuple #[.agg #[v0, v1], .bool ok]) ∧ OwnP w' w.heap.size v0 v1 q bvs ∧ Bel w w'
def noP : Pool := ⟨[], []⟩
theorem OwnP.none (w : World) (base : Nat) : OwnP w base (.slice none 0 0) (.slice none 0 0) noP [] := ⟨World.ownsRow_nil _ _ _ _, OwnV.nil _ _⟩
/-- What a closure handed to 'changed' does. -/
def Changes (r : Option Pool) (b base : Nat) (w : World) (e : Ending) (w' : World) : Prop := e = .returned (.bool r.isSome) ∧ (∃ q, PV w' b base q ∧ ∀ q', r = some q' → q = q') ∧ Below base w w'
/-- What 'changed' returns. -/
def chP (p : Pool) (r : Option Pool) : Pool := if poolOk p then r.getD p else noP
def chB (p : Pool) (r : Option Pool) : Bool := poolOk p && r.isSome
set_option maxHeartbeats 4000000 in
set_option maxRecDepth 10000 in
theorem changed_c {w : World} {A0 A1 : Option Addr} {c0 c1 : Nat} {p : Pool} (h : PoolIn w A0 A1 c0 c1 p) (hs : SmallP p) (F : FuncId) (caps : Array Value) (r : Option Pool)
    (hen : ∀ (args : Array Value) (W : World), (callFunc F args).run Try.prog W = .ok (.enter F args) W)
    (hch : poolOk p = true → ∀ (W : World) (b base : Nat), Bel w W → w.heap.size ≤ base → base ≤ W.heap.size → PV W b base p → Calls Try.prog F (#[.pointer (some ⟨b, 0, none⟩)] ++ caps) W (Changes r b base W)) :
    Calls Try.prog 67 #[.agg #[.slice A0 p.slots.length c0, .slice A1 p.vols.length c1], .func (.func F) #[] caps] w (MadePB w (chP p r) (chB p r)) := by
  have HS := Lib.hid hs
  have HP := Lib.hid h
  have HC := Lib.hid hch
  clear h hs hch
  go_enter Try.func67, Try.ntmps67
  go_wp2_with fail
  have hB : Blk ((w.alloc (.cells #[.slice A0 p.slots.length c0, .slice A1 p.vols.length c1] 30)).alloc (.cells #[.slice none 0 0, .slice none 0 0] 30)) w.heap.size #[.slice A0 p.slots.length c0, .slice A1 p.vols.length c1] 30 := (Blk.new _ _ _).alloc _
  have hR : Blk ((w.alloc (.cells #[.slice A0 p.slots.length c0, .slice A1 p.vols.length c1] 30)).alloc (.cells #[.slice none 0 0, .slice none 0 0] 30)) (w.heap.size + 1) #[.slice none 0 0, .slice none 0 0] 30 := Blk.nw2 _ _ _ _
  have hW : Bel w ((w.alloc (.cells #[.slice A0 p.slots.length c0, .slice A1 p.vols.length c1] 30)).alloc (.cells #[.slice none 0 0, .slice none 0 0] 30)) := bel_alloc (bel_alloc (Below.refl _ _) _) _
  have hl2 : w.heap.size + 2 ≤ ((w.alloc (.cells #[.slice A0 p.slots.length c0, .slice A1 p.vols.length c1] 30)).alloc (.cells #[.slice none 0 0, .slice none 0 0] 30)).heap.size := by simp
  generalize ((w.alloc (.cells #[.slice A0 p.slots.length c0, .slice A1 p.vols.length c1] 30)).alloc (.cells #[.slice none 0 0, .slice none 0 0] 30)) = W0 at hB hR hW hl2 ⊢
  have HB := Lib.hid hB
  have HR := Lib.hid hR
  have HW := Lib.hid hW
  clear hB hR hW
  refine (implPoolOk_in (HP.out.bel HW.out) HS.out).mono ?_
  rintro e w1 ⟨rfl, hb1⟩
  have HB1 := Lib.hid hb1
  have q0 := (HB.out.bel HB1.out).cell 0
  have q1 := (HB.out.bel HB1.out).cell 1
  have r0 := (HR.out.bel HB1.out).cell 0
  have r1 := (HR.out.bel HB1.out).cell 1
  have f0 := (HR.out.bel HB1.out).free 0
  have f1 := (HR.out.bel HB1.out).free 1
  simp at q0 q1 r0 r1
  clear hb1
  cases hok : poolOk p with
  | false =>
    have E1 := Lib.hid (show chP p r = noP by unfold chP; rw [hok]; rfl)
    have E2 := Lib.hid (show chB p r = false by unfold chB; rw [hok]; rfl)
    clear hok
    go_wp2
    have hR3 := (HR.out.bel HB1.out).set 0 (.slice none 0 0) (cs' := #[.slice none 0 0, .slice none 0 0]) rfl
    have hR4 := hR3.set 1 (.slice none 0 0) (cs' := #[.slice none 0 0, .slice none 0 0]) rfl
    have hb4 := bel_set (bel_set (HW.out.tr HB1.out) (Nat.le_succ _) 0 (.slice none 0 0)) (Nat.le_succ _) 1 (.slice none 0 0)
    refine bodyPost_ret (results_ct rfl _ _ (w.heap.size + 1) 30 #[.slice none 0 0, .slice none 0 0] (0, 0) _ rfl hR4 Try.underlying30 rfl (by kernel_rfl)) rfl ?_
    rw [E1.out, E2.out]
    exact ⟨_, _, _, rfl, OwnP.none _ _, hb4⟩
  | true =>
    have E1 := Lib.hid (show chP p r = r.getD p by unfold chP; rw [if_pos hok])
    have E2 := Lib.hid (show chB p r = r.isSome by unfold chB; rw [hok]; rfl)
    have HK := Lib.hid (HC.out hok)
    clear hok
    go_wp2_with fail
    refine (poolClone_c (HP.out.bel (HW.out.tr HB1.out)) HS.out).mono ?_
    rintro e w2 ⟨v0, v1, bvs, rfl, ho, hb2⟩
    have HO := Lib.hid ho
    have HB2 := Lib.hid hb2
    clear q0 q1 r0 r1 f0 f1 ho hb2
    obtain ⟨A2, A3, c2, c3, rfl, rfl, hpi⟩ := HO.out.reads
    clear hpi
    go_wp2_with fail
    have hpv : PV (w2.alloc (.cells #[.slice A2 p.slots.length c2, .slice A3 p.vols.length c3] 30)) w2.heap.size w1.heap.size p := ⟨⟨_, _, _, Blk.new _ _ _, HO.out.bel (bel_alloc (Below.refl _ _) _)⟩, HB2.out.size⟩
    have hb01 : Bel W0 w2 := HB1.out.tr HB2.out
    refine (HK.out _ w2.heap.size w1.heap.size (HW.out.tr (bel_alloc hb01 _)) (HW.out.tr HB1.out).size (by have := HB2.out.size; simp; omega) hpv).mono ?_
    rintro e w3 ⟨rfl, ⟨q, hq, hqr⟩, hb3⟩
    have hb13 : Below w1.heap.size w1 w3 := (bel_alloc HB2.out _).trans hb3
    have hb03 : Bel W0 w3 := HB1.out.tr hb13
    have HB3 := Lib.hid hb03
    have HB13 := Lib.hid hb13
    have HQ := Lib.hid hq
    have HQR := Lib.hid hqr
    clear hpv hb01 hb13 hb03 hb3 hq hqr
    have q0 := (HB.out.bel HB3.out).cell 0
    have q1 := (HB.out.bel HB3.out).cell 1
    have r0 := (HR.out.bel HB3.out).cell 0
    have r1 := (HR.out.bel HB3.out).cell 1
    have f0 := (HR.out.bel HB3.out).free 0
    have f1 := (HR.out.bel HB3.out).free 1
    simp at q0 q1 r0 r1
    cases hr : r with
    | none =>
      have E3 := Lib.hid (show chP p r = p by rw [E1.out, hr]; rfl)
      have E4 := Lib.hid (show chB p r = false by rw [E2.out, hr]; rfl)
      clear hr
      go_wp2_with fail
      refine (poolClone_c (HP.out.bel (HW.out.tr HB3.out)) HS.out).mono ?_
      rintro e w4 ⟨v0, v1, bvs, rfl, ho, hb4⟩
      have HO4 := Lib.hid ho
      have HB4 := Lib.hid hb4
      obtain ⟨A2, A3, c2, c3, rfl, rfl, hpi⟩ := ho.reads
      clear q0 q1 r0 r1 f0 f1 ho hb4 hpi
      have r0 := (HR.out.bel (HB3.out.tr HB4.out)).cell 0
      have r1 := (HR.out.bel (HB3.out.tr HB4.out)).cell 1
      have f0 := (HR.out.bel (HB3.out.tr HB4.out)).free 0
      have f1 := (HR.out.bel (HB3.out.tr HB4.out)).free 1
      simp at r0 r1
      go_wp2
      have hR2 := HR.out.bel (HB3.out.tr HB4.out)
      have hR3 := hR2.set 0 (.slice A2 p.slots.length c2) (cs' := #[.slice A2 p.slots.length c2, .slice none 0 0]) rfl
      have hR4 := hR3.set 1 (.slice A3 p.vols.length c3) (cs' := #[.slice A2 p.slots.length c2, .slice A3 p.vols.length c3]) rfl
      have hb5 := bel_set (bel_set (HW.out.tr (HB3.out.tr HB4.out)) (Nat.le_succ _) 0 (.slice A2 p.slots.length c2)) (Nat.le_succ _) 1 (.slice A3 p.vols.length c3)
      have hop4 := (HO4.out.far hR2 (by decide) (by decide) (by decide) 0 (.slice A2 p.slots.length c2)).far hR3 (by decide) (by decide) (by decide) 1 (.slice A3 p.vols.length c3)
      refine bodyPost_ret (results_ct rfl _ _ (w.heap.size + 1) 30 #[.slice A2 p.slots.length c2, .slice A3 p.vols.length c3] (0, 0) _ rfl hR4 Try.underlying30 rfl (by kernel_rfl)) rfl ?_
      rw [E3.out, E4.out]
      exact ⟨_, _, _, rfl, hop4.lower (by have := (HW.out.tr HB3.out).size; omega), hb5⟩
    | some q' =>
      have E3 := Lib.hid (show chP p r = q by rw [E1.out, HQR.out q' hr, hr]; rfl)
      have E4 := Lib.hid (show chB p r = true by rw [E2.out, hr]; rfl)
      clear hr
      obtain ⟨⟨v0, v1, bvs, hq1, hq2⟩, hlo⟩ := HQ.out
      obtain ⟨A4, A5, c4, c5, rfl, rfl, hpi⟩ := hq2.reads
      have HQ1 := Lib.hid hq1
      have HQ2 := Lib.hid hq2
      have s0 := HQ1.out.cell 0
      have s1 := HQ1.out.cell 1
      simp at s0 s1
      clear hq1 hq2 hpi
      go_wp2
      have hR2 := HR.out.bel HB3.out
      have hR3 := hR2.set 0 (.slice A4 q.slots.length c4) (cs' := #[.slice A4 q.slots.length c4, .slice none 0 0]) rfl
      have hR4 := hR3.set 1 (.slice A5 q.vols.length c5) (cs' := #[.slice A4 q.slots.length c4, .slice A5 q.vols.length c5]) rfl
      have hb5 := bel_set (bel_set (HW.out.tr HB3.out) (Nat.le_succ _) 0 (.slice A4 q.slots.length c4)) (Nat.le_succ _) 1 (.slice A5 q.vols.length c5)
      have hop4 := (HQ2.out.far hR2 (by decide) (by decide) (by decide) 0 (.slice A4 q.slots.length c4)).far hR3 (by decide) (by decide) (by decide) 1 (.slice A5 q.vols.length c5)
      refine bodyPost_ret (results_ct rfl _ _ (w.heap.size + 1) 30 #[.slice A4 q.slots.length c4, .slice A5 q.vols.length c5] (0, 0) _ rfl hR4 Try.underlying30 rfl (by kernel_rfl)) rfl ?_
      rw [E3.out, E4.out]
      exact ⟨_, _, _, rfl, hop4.lower (HW.out.tr HB1.out).size, hb5⟩
end Go.Proofs.Ytpobgjkmjlmafaa
/- A volume done away with: what the program's closure does. -/


namespace Go.Proofs.Ytpobgjkmjlmafaa
open Go.RowKit Go.Proofs.YtpobgjkmjlmafaaW.PrintWords Go.Proofs.YtpobgjkmjlmafaaW.PrintLast
set_option linter.unusedVariables false
set_option linter.unusedSimpArgs false

theorem OwnV.erase {W w1 : World} {base i : Nat} {v v1 : Value} {vs : List Vol} {bvs : List Value} (h : OwnV W base v vs bvs) (hg : W.grownBy w1 v.ownBlock) (hr : VRow w1 base v1 (vs.eraseIdx i) (bvs.eraseIdx i)) : OwnV w1 base v1 (vs.eraseIdx i) (bvs.eraseIdx i) :=
  ⟨hr, fun m x b hx hb => own_other_type (h.inner _ x b (erase_get hx) (erase_get hb)) h.row.row (by decide) hg, fun a c b b' k hne hb hb' => h.apart _ _ b b' k (by split <;> split <;> omega) (erase_get hb) (erase_get hb')⟩
/-- The store behind k references less of a volume of a valid pool. -/
theorem drop_at {p : Pool} (hp : PoolP p) {i : Nat} {v : Vol} (hv : p.vols[i]? = some v) {k m : Nat} (hx : v.blocks[k]? = some ((m : Int) + 1)) : ∃ y, (dropAll p.slots (v.blocks.take k))[m]? = some y ∧ 1 ≤ y.uses ∧ y.uses ≤ 99 := by
  have hr := (volOk_parts (hp.v.v i v hv)).1
  have hr' : ∀ x ∈ v.blocks.take k, 0 ≤ x ∧ x ≤ 8 := fun x hx => hr x (List.mem_of_mem_take hx)
  have hcl : ∀ q : Int, cnt q (v.blocks.take k) ≤ cnt q v.blocks := fun q => by
    have : ∀ (xs : List Int) (k : Nat), cnt q (xs.take k) ≤ cnt q xs := by
      intro xs
      induction xs with
      | nil => intro k; simp
      | cons a xs ih => intro k; cases k with
        | zero => have := cnt_le q (a :: xs); simp [cnt] at this ⊢; exact this.1
        | succ k => have := ih k; simp only [List.take_succ_cons, cnt]; omega
    exact this _ _
  have hc : ∀ (j : Nat) (x : Slot), p.slots[j]? = some x → cnt (j + 1) (v.blocks.take k) ≤ x.uses := fun j x hx => by
    have h1 := hp.uses j x hx
    have h2 := uses_mem (p := (j : Int) + 1) hv
    have := hcl ((j : Int) + 1)
    omega
  obtain ⟨h1, h2⟩ := dropAll_get hp.s hr' hc
  have hm := hr _ (List.mem_of_getElem? hx)
  obtain ⟨x, hxs⟩ := getQ (show m < p.slots.length by rw [hp.s.len]; omega)
  obtain ⟨y, hy, hu, _⟩ := h2 m x hxs
  have h3 := uses_mem (p := (m : Int) + 1) hv
  have h4 := hp.uses m x hxs
  have h5 : cnt ((m : Int) + 1) (v.blocks.take (k + 1)) = cnt ((m : Int) + 1) (v.blocks.take k) + 1 := by rw [take_snoc hx, cnt_snoc, if_pos rfl]
  have h6 : cnt ((m : Int) + 1) (v.blocks.take (k + 1)) ≤ cnt ((m : Int) + 1) v.blocks := by
    have : ∀ (xs : List Int) (k : Nat), cnt ((m : Int) + 1) (xs.take k) ≤ cnt ((m : Int) + 1) xs := by
      intro xs
      induction xs with
      | nil => intro k; simp
      | cons a xs ih => intro k; cases k with
        | zero => have := cnt_le ((m : Int) + 1) (a :: xs); simp [cnt] at this ⊢; exact this.1
        | succ k => have := ih k; simp only [List.take_succ_cons, cnt]; omega
    exact this _ _
  exact ⟨y, hy, by omega, (h1.ok m y hy).2.2.1⟩

set_option maxHeartbeats 4000000 in
set_option maxRecDepth 10000 in
theorem goneClo_c {w : World} {A0 A1 : Option Addr} {c0 c1 bp bn : Nat} {p : Pool} {name : ByteArray} (h : PoolIn w A0 A1 c0 c1 p) (hs : SmallP p) (hB : Blk w bp #[.slice A0 p.slots.length c0, .slice A1 p.vols.length c1] 30) (hN : Blk w bn #[.string name] 9) (hok : poolOk p = true)
    (W : World) (b base : Nat) (hW : Bel w W) (hb1 : w.heap.size ≤ base) (hb2 : base ≤ W.heap.size) (hpv : PV W b base p) :
    Calls Try.prog 68 #[.pointer (some ⟨b, 0, none⟩), .pointer (some ⟨bp, 0, none⟩), .pointer (some ⟨bn, 0, none⟩)] W (Changes (goneF p name) b base W) := by
  have HS := Lib.hid hs
  have HP := Lib.hid h
  have HK := Lib.hid (poolOk_iff.1 hok)
  have HV := Lib.hid hpv
  have HW := Lib.hid hW
  have HB := Lib.hid hB
  have HN := Lib.hid hN
  have q0 := (HB.out.bel HW.out).cell 0
  have q1 := (HB.out.bel HW.out).cell 1
  have q2 := (HN.out.bel HW.out).cell 0
  simp at q0 q1 q2
  clear h hs hok hpv hW hB hN
  have hlv := HS.out.vols.len
  by_cases hn : volIdx p.vols name < 0
  · have HG := Lib.hid (show goneF p name = none by unfold goneF; rw [if_pos hn])
    go_enter Try.func68, Try.ntmps68
    go_wp2_with (go_at_call 69; refine (vol_c _ p.vols A1 c1 name _ (HP.out.bel HW.out).v hlv).mono ?_; rintro e w1 ⟨rfl, hb1⟩)
    go_ret
    rw [HG.out]
    exact ⟨rfl, ⟨p, HV.out.bel hb1, fun q' h => by cases h⟩, hb1.mono hb2⟩
  · obtain ⟨i, v, hi, hv, hvn⟩ := volIdx_yes hn
    have HG := Lib.hid (show goneF p name = some ⟨dropAll p.slots v.blocks, p.vols.eraseIdx i⟩ by unfold goneF; rw [if_neg hn, hi, Int.toNat_natCast]; unfold volAt; rw [Int.toNat_natCast, getD_of hv])
    have HI := Lib.hid hv
    have hil := ltQ hv
    clear hn hvn hv
    have hin : ¬ ((i : Int) < 0) := by omega
    go_enter Try.func68, Try.ntmps68
    go_wp2_with fail
    refine (vol_c _ p.vols A1 c1 name _ (HP.out.bel HW.out).v hlv).mono ?_
    rintro e w1 ⟨rfl, hb1⟩
    rw [hi]
    have hW1 := HW.out.tr hb1
    obtain ⟨ad, A2, n2, rfl, hc0, hc0', hn2, hC⟩ := at_vol HP.out.v HI.out
    have hc := (hW1.cell (World.block_lt_of_cell? w _ hc0)).trans hc0
    have hc' := (hW1.cell (World.block_lt_of_cell? w _ hc0')).trans hc0'
    clear hc0 hc0'
    have hx1 : v.blocks.length ≤ 1048576 := HS.out.vols.blocks v (List.mem_of_getElem? HI.out)
    have HW1 := Lib.hid hW1
    have HB1 := Lib.hid hb1
    have HC := Lib.hid hC
    clear q0 q1 q2 hW1 hb1 hC
    have q1 := (HB.out.bel HW1.out).cell 1
    simp at q1
    go_wp2
    obtain ⟨⟨v0, v1, bvs, hb, ho⟩, hlo⟩ := HV.out.bel HB1.out
    have HO := Lib.hid (And.intro hb ho)
    clear hb ho q1
    go_loopg [20] v.blocks.length (fun g v20 W' => ∃ k : Nat, g + k = v.blocks.length ∧ v20 = .int .i64 k ∧ Blk W' b #[v0, v1] 30 ∧ OwnS W' base v0 (dropAll p.slots (v.blocks.take k)) ∧ OwnV W' base v1 p.vols bvs ∧ Below base w1 W')
    case atStart => exact ⟨0, rfl, rfl, HO.out.1, HO.out.2.s, HO.out.2.v, Below.refl _ _⟩
    case round =>
      obtain ⟨k, hk, rfl, hb, hos, hov, hbel⟩ := hrel
      have hWw : Bel w wr := HW1.out.trans (hbel.mono hb1)
      by_cases hlt : k < v.blocks.length
      · obtain ⟨x, hx⟩ := getQ hlt
        have hxr := (volOk_parts (HK.out.v.v i v HI.out)).1 x (List.mem_of_getElem? hx)
        obtain ⟨ad2, rfl, hcx⟩ := at_int (Kd.C_below HC.out hWw) hx
        have r0 := hb.cell 0
        simp at r0
        have HR := Lib.hid (And.intro (And.intro hb hos) (And.intro hov (And.intro hbel hWw)))
        clear hb hov hbel hWw hc hc'
        by_cases h0 : 0 < x
        · obtain ⟨m, rfl⟩ : ∃ m : Nat, x = (m : Int) + 1 := ⟨(x - 1).toNat, by omega⟩
          obtain ⟨y, hy, hy1, hy2⟩ := drop_at HK.out HI.out hx
          have HT := Lib.hid (show dropAll p.slots (v.blocks.take (k + 1)) = dropS (dropAll p.slots (v.blocks.take k)) m by rw [take_snoc hx, dropAll_snoc, if_pos h0]; congr 1; omega)
          have hdl : (dropAll p.slots (v.blocks.take k)).length ≤ 1048576 := by rw [dropAll_len]; exact HS.out.slots.len
          have HY := Lib.hid hy
          have HD := Lib.hid hdl
          obtain ⟨A3, c3, rfl, hc3, hC3⟩ := hos.reads
          clear hx hy hdl hos hC3 hc3
          go_wp2_with (go_at_call 70; refine (drop_c HR.out.1.2 HY.out HD.out hy1 hy2).mono ?_; rintro e w2 ⟨rfl, ho2, hg2⟩)
          go_roundg (v.blocks.length - (k + 1))
          case rel =>
            obtain ⟨⟨hb, hos⟩, hov, hbel, hWw⟩ := HR.out
            refine ⟨k + 1, by omega, int_eq (by omega), hb.grown hg2 (own_blk_ne hos hb (by decide)), ?_, hov.otherS hos hg2, hbel.grown hg2 (by have := hb.lt; omega) (own_base hos)⟩
            rw [HT.out]
            exact ho2
          case measure => omega
        · have HT := Lib.hid (show dropAll p.slots (v.blocks.take (k + 1)) = dropAll p.slots (v.blocks.take k) by rw [take_snoc hx, dropAll_snoc, if_neg h0])
          clear hx hos
          go_wp2
          go_roundg (v.blocks.length - (k + 1))
          case rel =>
            obtain ⟨⟨hb, hos⟩, hov, hbel, hWw⟩ := HR.out
            exact ⟨k + 1, by omega, int_eq (by omega), hb, by rw [HT.out]; exact hos, hov, hbel⟩
          case measure => omega
      · have hkl : k = v.blocks.length := by omega
        rw [hkl, List.take_length] at hos
        obtain ⟨g, cap, rfl, hg1, hg2, hcap⟩ := own_form hov.row.row (by omega)
        have r1 := hb.cell 1
        have f1 := hb.free 1
        simp at r1
        have HR := Lib.hid (And.intro (And.intro hb hos) (And.intro hov (And.intro hbel hWw)))
        clear hos hov hb hbel hWw
        go_wp2_with fail
        refine (delete_c HR.out.2.1.row HR.out.2.1.one hil).mono ?_
        rintro e w2 ⟨rfl, hr2, hg2⟩
        have hb2' : Blk w2 b #[v0, .slice (some ⟨g, 0, none⟩) p.vols.length cap] 30 := HR.out.1.1.grown hg2 (own_blk_ne HR.out.2.1.row.row HR.out.1.1 (by decide))
        have hos2 : OwnS w2 base v0 (dropAll p.slots v.blocks) := own_other_type HR.out.1.2 HR.out.2.1.row.row (by decide) hg2
        have hov2 := HR.out.2.1.erase hg2 hr2
        have hbel2 : Below base w1 w2 := HR.out.2.2.1.grown hg2 (by have := HR.out.1.1.lt; omega) (fun k hk => by cases hk; exact hg1)
        have r1 := hb2'.cell 1
        have f1 := hb2'.free 1
        simp at r1
        have HQ := Lib.hid (And.intro (And.intro hb2' hos2) (And.intro hov2 hbel2))
        clear hb2' hos2 hov2 hbel2 hr2 hg2
        go_wp2
        go_ret
        rw [HG.out]
        have hb3 := HQ.out.1.1.set 1 (.slice (some ⟨g, 0, none⟩) (p.vols.length - 1) cap) (cs' := #[v0, .slice (some ⟨g, 0, none⟩) (p.vols.length - 1) cap]) rfl
        refine ⟨rfl, ⟨⟨dropAll p.slots v.blocks, p.vols.eraseIdx i⟩, ⟨⟨_, _, _, hb3, HQ.out.1.2.far HQ.out.1.1 (by decide) _ _, HQ.out.2.1.far HQ.out.1.1 (by decide) (by decide) _ _⟩, hlo⟩, fun q' h => by cases h; rfl⟩, ?_⟩
        exact ((HB1.out.mono hb2).trans HQ.out.2.2).setCell hlo _
end Go.Proofs.Ytpobgjkmjlmafaa
/- PoolGone, as the program does it. -/

namespace Go.Proofs.Ytpobgjkmjlmafaa
open Go.RowKit Go.Proofs.YtpobgjkmjlmafaaW.PrintWords Go.Proofs.YtpobgjkmjlmafaaW.PrintLast
set_option linter.unusedVariables false
set_option linter.unusedSimpArgs false

theorem Blk.at (w : World) (o : Obj) (cs : Array Value) (t : TypeId) (h : o = .cells cs t (0, 0)) : Blk (w.alloc o) w.heap.size cs t := h ▸ Blk.new w cs t
theorem enters {f : FuncId} {fn : Func} (hf : Try.prog.funcs[f]? = some fn) (hname : (fn.name == "runtime.NumGoroutine") = false) (hb : fn.body.isSome = true) (args : Array Value) (w : World) : (callFunc f args).run Try.prog w = .ok (.enter f args) w := enters_ hf hname hb args w
set_option maxHeartbeats 4000000 in
set_option maxRecDepth 10000 in
theorem implPoolGone_c {w : World} {A0 A1 : Option Addr} {c0 c1 : Nat} {p : Pool} {name : ByteArray} (h : PoolIn w A0 A1 c0 c1 p) (hs : SmallP p) :
    Calls Try.prog 27 #[.agg #[.slice A0 p.slots.length c0, .slice A1 p.vols.length c1], .string name] w (MadePB w (chP p (goneF p name)) (chB p (goneF p name))) := by
  have HS := Lib.hid hs
  have HP := Lib.hid h
  clear h hs
  go_enter Try.func27, Try.ntmps27
  go_wp2_with fail
  have hB : Blk (((w.alloc (.cells #[.slice A0 p.slots.length c0, .slice A1 p.vols.length c1] 30)).alloc (.cells #[.string name] 9)).alloc (.cells #[.slice none 0 0, .slice none 0 0] 30)) w.heap.size #[.slice A0 p.slots.length c0, .slice A1 p.vols.length c1] 30 := ((Blk.new _ _ _).alloc _).alloc _
  have hN : Blk (((w.alloc (.cells #[.slice A0 p.slots.length c0, .slice A1 p.vols.length c1] 30)).alloc (.cells #[.string name] 9)).alloc (.cells #[.slice none 0 0, .slice none 0 0] 30)) (w.heap.size + 1) #[.string name] 9 := (Blk.nw2 _ _ _ _).alloc _
  have hR : Blk (((w.alloc (.cells #[.slice A0 p.slots.length c0, .slice A1 p.vols.length c1] 30)).alloc (.cells #[.string name] 9)).alloc (.cells #[.slice none 0 0, .slice none 0 0] 30)) (w.heap.size + 1 + 1) #[.slice none 0 0, .slice none 0 0] 30 := by
    have := Blk.new ((w.alloc (.cells #[.slice A0 p.slots.length c0, .slice A1 p.vols.length c1] 30)).alloc (.cells #[.string name] 9)) #[.slice none 0 0, .slice none 0 0] 30
    simpa using this
  have hW : Bel w (((w.alloc (.cells #[.slice A0 p.slots.length c0, .slice A1 p.vols.length c1] 30)).alloc (.cells #[.string name] 9)).alloc (.cells #[.slice none 0 0, .slice none 0 0] 30)) := bel_alloc (bel_alloc (bel_alloc (Below.refl _ _) _) _) _
  generalize (((w.alloc (.cells #[.slice A0 p.slots.length c0, .slice A1 p.vols.length c1] 30)).alloc (.cells #[.string name] 9)).alloc (.cells #[.slice none 0 0, .slice none 0 0] 30)) = W0 at hB hN hR hW ⊢
  have HB := Lib.hid hB
  have HN := Lib.hid hN
  have HR := Lib.hid hR
  have HW := Lib.hid hW
  clear hB hN hR hW
  refine (changed_c (HP.out.bel HW.out) HS.out 68 #[.pointer (some ⟨w.heap.size, 0, none⟩), .pointer (some ⟨w.heap.size + 1, 0, none⟩)] (goneF p name) (enters Try.func68 (by kernel_rfl) (by kernel_rfl))
    (fun hok W b base h1 h2 h3 h4 => goneClo_c (HP.out.bel HW.out) HS.out HB.out HN.out hok W b base h1 h2 h3 h4)).mono ?_
  rintro e w1 ⟨v0, v1, bvs, rfl, ho, hb1⟩
  obtain ⟨q, hq⟩ : ∃ q, chP p (goneF p name) = q := ⟨_, rfl⟩
  obtain ⟨ok, hok⟩ : ∃ ok, chB p (goneF p name) = ok := ⟨_, rfl⟩
  rw [hq] at ho
  rw [hok]
  have HQ := Lib.hid hq
  have HK := Lib.hid hok
  clear hq hok
  have HO := Lib.hid ho
  have HB1 := Lib.hid hb1
  have r0 := (HR.out.bel HB1.out).cell 0
  have r1 := (HR.out.bel HB1.out).cell 1
  have f0 := (HR.out.bel HB1.out).free 0
  have f1 := (HR.out.bel HB1.out).free 1
  simp at r0 r1
  clear ho hb1
  obtain ⟨A2, A3, c2, c3, rfl, rfl, hpi⟩ := HO.out.reads
  clear hpi
  go_wp2
  have hR2 := HR.out.bel HB1.out
  have hR3 := hR2.set 0 (.slice A2 q.slots.length c2) (cs' := #[.slice A2 q.slots.length c2, .slice none 0 0]) rfl
  have hR4 := hR3.set 1 (.slice A3 q.vols.length c3) (cs' := #[.slice A2 q.slots.length c2, .slice A3 q.vols.length c3]) rfl
  have hb5 := bel_set (bel_set (HW.out.tr HB1.out) (show w.heap.size ≤ w.heap.size + 1 + 1 by omega) 0 (.slice A2 q.slots.length c2)) (show w.heap.size ≤ w.heap.size + 1 + 1 by omega) 1 (.slice A3 q.vols.length c3)
  have hop4 := (HO.out.far hR2 (by decide) (by decide) (by decide) 0 (.slice A2 q.slots.length c2)).far hR3 (by decide) (by decide) (by decide) 1 (.slice A3 q.vols.length c3)
  refine bodyPost_ret (results_ct rfl _ _ (w.heap.size + 1 + 1) 30 #[.slice A2 q.slots.length c2, .slice A3 q.vols.length c3] (0, 0) _ rfl hR4 Try.underlying30 rfl (by kernel_rfl)) rfl ?_
  rw [HQ.out, HK.out]
  exact ⟨_, _, _, rfl, hop4.lower HW.out.size, hb5⟩
end Go.Proofs.Ytpobgjkmjlmafaa
/- A volume done away with: what the reference does. -/

namespace Go.Proofs.Ytpobgjkmjlmafaa
open Go.RowKit Go.Proofs.YtpobgjkmjlmafaaW.PrintWords Go.Proofs.YtpobgjkmjlmafaaW.PrintLast
set_option linter.unusedVariables false
set_option linter.unusedSimpArgs false

theorem step_append_own {P : Program} {ops : Array Oper} {o : Oper} {a : Act} {Q : Exit → Act → World → Prop} {Kc : Act → World → Prop} {W : World} (base : Nat) (hw : Region.wanted o (yielded ops a.tmps) = true) (s x : Operand) (t e : TypeId) (z : Value) (size bytes : Nat)
    (ho : o.op = .call { callee := .builtin .append, args := #[s, x], argTypes := #[t, t] })
    (ht : P.underlying t = some (.slice e)) (hinfo : (P.info? e).map (fun i => (i.zero, i.size, i.bytes)) = some (some z, size, bytes)) (hz : z.cells.size = size) (hs0 : 0 < size) (hb0 : 0 < bytes)
    (v : Value) (n : Nat) (xs : List Value) (A : Option Addr) (m c : Nat) (news : List Value) (hs : a.eval s = v) (hx : a.eval x = .slice A m c) (hm : news.length = m * size)
    (hsrc : 0 < m → ∃ ad, A = some ad ∧ ∀ j u, news[j]? = some u → W.cell? (ad.add j) = some u) (h1 : ∀ u ∈ news, u.oneCell' = true)
    (HO : W.ownsRow base e size v n xs) (hbase : base ≤ W.heap.size) (hl : (n + m) * bytes ≤ 140737488355328)
    (h : ∀ v1 w1, w1.ownsRow base e size v1 (n + m) (xs ++ news) → W.grownBy w1 v.ownBlock → (v1.ownBlock = v.ownBlock ∨ ∃ b, v1.ownBlock = some b ∧ W.heap.size ≤ b) → Kc (a.put o.dst v1) w1) :
    if Region.wanted o (yielded ops a.tmps) = true then Oper.wp P o a W Kc Q else Kc (a.put o.dst undef) W := by
  obtain ⟨i0, hi, hzz⟩ := Option.map_eq_some_iff.1 hinfo
  simp only [Prod.mk.injEq] at hzz
  obtain ⟨hz0, hz1, hz2⟩ := hzz
  have hlen : n + m ≤ 140737488355328 := Nat.le_trans (Nat.le_mul_of_pos_right _ hb0) hl
  have hrun : ∃ v1 w1, (Builtin.append_ #[t, t] o.type #[v, .slice A m c]).run P W = .ok v1 w1 ∧ w1.ownsRow base e size v1 (n + m) (xs ++ news) ∧ W.grownBy w1 v.ownBlock ∧ (v1.ownBlock = v.ownBlock ∨ ∃ b, v1.ownBlock = some b ∧ W.heap.size ≤ b) := by
    rcases A with _ | ad
    · have h0 : m = 0 := by
        rcases Nat.eq_zero_or_pos m with h0 | h0
        · exact h0
        · obtain ⟨ad, h, _⟩ := hsrc h0
          cases h
      subst h0
      obtain rfl : news = [] := List.eq_nil_of_length_eq_zero (by simpa using hm)
      refine ⟨v, W, ?_, by rw [List.append_nil]; exact HO, World.grownBy.refl W _, .inl rfl⟩
      rcases HO.2 with ⟨rfl, hn⟩ | ⟨g, cap, cur, rfl, _, _, hnc, _⟩
      · simp [Builtin.append_, run_underlying ht, sizeOf, typeInfo, hi, Builtin.lenOf, Builtin.firstCells]
      · simp [Builtin.append_, run_underlying ht, sizeOf, typeInfo, hi, Builtin.lenOf, Builtin.firstCells, hnc, storeCells]
    · have hnc : ∀ j u, news[j]? = some u → W.cell? (ad.add j) = some u := by
        intro j u hu
        have hj := ltQ hu
        rcases Nat.eq_zero_or_pos m with h0 | h0
        · rw [hm, h0] at hj; omega
        · obtain ⟨ad', e, h⟩ := hsrc h0
          cases e
          exact h j u hu
      obtain ⟨v1, w1, hrun, h2, hg, _, hat⟩ := run_append_own_at (P := P) W base t o.type e i0 z size bytes ht hi hz0 hz1 hz2 hz hs0 v n xs HO ad m c news hm hnc h1 (by simp only [maxLen]; omega) hl hbase
      refine ⟨v1, w1, hrun, h2, hg, ?_⟩
      rcases hat with hat | hat
      · exact .inl hat
      · exact .inr ⟨_, hat, Nat.le_refl _⟩
  obtain ⟨v1, w1, hr1, h2, hg, hat⟩ := hrun
  rw [if_pos hw]
  unfold Oper.wp execOp
  simp only [ho, resolve, invoke, builtin, Sem.run_bind, Sem.run_pure, Result.andThen_ok, List.map_toArray, List.map_cons, List.map_nil, hs, hx, hr1]
  exact h v1 w1 h2 hg hat

theorem own_slice_eq {g g' n n' c c' : Nat} (h : Value.slice (some ⟨g, 0, none⟩) n c = Value.slice (some ⟨g', 0, none⟩) n' c') : g = g' ∧ n = n' ∧ c = c' := by simpa using h
theorem slice_eq {A A' : Option Addr} {n n' c c' : Nat} (h : Value.slice A n c = Value.slice A' n' c') : A = A' ∧ n = n' ∧ c = c' := by simpa using h
theorem ar_gone {i n : Nat} (h : i < n) : 0 + i + (n - (i + 1)) = n - 1 := by omega
theorem ar_if {i a c : Nat} (h : a ≠ c) : (if a < i then a else a + 1) ≠ (if c < i then c else c + 1) := by split <;> split <;> omega
/-- What is kept while a pool of one's own is turned: what lies below base, and every block that holds no part of a pool. -/
structure Fr (base : Nat) (w W : World) : Prop where
  b : Below base w W
  k : ∀ (g : Nat) (cs : Array Value) (t : TypeId), 100 ≠ t → 43 ≠ t → 3 ≠ t → Blk w g cs t → Blk W g cs t
theorem Fr.ofBel {base : Nat} {w W : World} (h : Bel w W) (hb : base ≤ w.heap.size) : Fr base w W := ⟨h.mono hb, fun g cs t _ _ _ hB => hB.bel h⟩
theorem Fr.bel {base : Nat} {w W W' : World} (h : Fr base w W) (hb : Bel W W') (hbase : base ≤ w.heap.size) : Fr base w W' := ⟨h.b.trans (hb.mono (Nat.le_trans hbase h.b.size)), fun g cs t h1 h2 h3 hB => (h.k g cs t h1 h2 h3 hB).bel hb⟩
theorem Fr.set {base : Nat} {w W : World} (h : Fr base w W) {b : Nat} (hb : w.heap.size ≤ b) (hbase : base ≤ w.heap.size) (i : Nat) (u : Value) : Fr base w (W.setCell ⟨b, i, none⟩ u) :=
  ⟨h.b.setCell (p := ⟨b, i, none⟩) (Nat.le_trans hbase hb) u, fun g cs t h1 h2 h3 hB => (h.k g cs t h1 h2 h3 hB).apart (by have := hB.lt; omega) i u⟩
theorem Fr.drew {base : Nat} {w W : World} (h : Fr base w W) : Fr base w W.drew := ⟨h.b.drew, fun g cs t h1 h2 h3 hB => (h.k g cs t h1 h2 h3 hB).bel (Below.refl _ _).drew⟩
theorem Fr.slots {base : Nat} {w W W' : World} (h : Fr base w W) {v : Value} {s : List Slot} (hos : OwnS W base v s) (hg : W.grownBy W' v.ownBlock) (hbase : base ≤ w.heap.size) : Fr base w W' :=
  ⟨h.b.grown hg (Nat.le_trans hbase h.b.size) (own_base hos), fun g cs t h1 h2 h3 hB => (h.k g cs t h1 h2 h3 hB).grown hg (own_blk_ne hos (h.k g cs t h1 h2 h3 hB) h1)⟩
/-- What a change of a pool of one's own leaves: the pool turned, or as it was. -/
def TurnsP (base : Nat) (p : Pool) (r : Option Pool) (w : World) (e : Ending) (w' : World) : Prop := ∃ v0 v1 bvs, e = .returned (.tuple #[.agg #[v0, v1], .bool r.isSome]) ∧ OwnP w' base v0 v1 (r.getD p) bvs ∧ Fr base w w'

set_option maxHeartbeats 4000000 in
set_option maxRecDepth 10000 in
theorem l11Gone_c {w : World} {base : Nat} {v0 v1 : Value} {bvs : List Value} {p : Pool} {name : ByteArray} (h : OwnP w base v0 v1 p bvs) (hs : SmallP p) (hp : PoolP p) (hbase : base ≤ w.heap.size) :
    Calls Try.prog 63 #[.agg #[v0, v1], .string name] w (TurnsP base p (goneF p name) w) := by
  have HS := Lib.hid hs
  have HK := Lib.hid hp
  obtain ⟨A0, A1, c0, c1, rfl, rfl, hpi⟩ := h.reads
  have HP := Lib.hid h
  have HI := Lib.hid hpi
  have hlv := HS.out.vols.len
  clear h hs hp hpi
  go_enter Try.func63, Try.ntmps63
  go_wp2_with fail
  have hB : Blk ((w.alloc (.cells #[.slice A0 p.slots.length c0, .slice A1 p.vols.length c1] 30)).alloc (.cells #[.slice none 0 0, .slice none 0 0] 30)) w.heap.size #[.slice A0 p.slots.length c0, .slice A1 p.vols.length c1] 30 := (Blk.new _ _ _).alloc _
  have hR : Blk ((w.alloc (.cells #[.slice A0 p.slots.length c0, .slice A1 p.vols.length c1] 30)).alloc (.cells #[.slice none 0 0, .slice none 0 0] 30)) (w.heap.size + 1) #[.slice none 0 0, .slice none 0 0] 30 := Blk.nw2 _ _ _ _
  have hW : Bel w ((w.alloc (.cells #[.slice A0 p.slots.length c0, .slice A1 p.vols.length c1] 30)).alloc (.cells #[.slice none 0 0, .slice none 0 0] 30)) := bel_alloc (bel_alloc (Below.refl _ _) _) _
  generalize ((w.alloc (.cells #[.slice A0 p.slots.length c0, .slice A1 p.vols.length c1] 30)).alloc (.cells #[.slice none 0 0, .slice none 0 0] 30)) = W0 at hB hR hW ⊢
  refine (l11At_c _ p.vols A1 c1 name _ (HI.out.bel hW).v hlv).mono ?_
  rintro e w1 ⟨rfl, hb1⟩
  have HB := Lib.hid (hB.bel hb1)
  have HR := Lib.hid (hR.bel hb1)
  have HW := Lib.hid (hW.tr hb1)
  have HO := Lib.hid (HP.out.bel (hW.tr hb1))
  have q0 := HB.out.cell 0
  have q1 := HB.out.cell 1
  have r0 := HR.out.cell 0
  have r1 := HR.out.cell 1
  have f0 := HR.out.free 0
  have f1 := HR.out.free 1
  simp at q0 q1 r0 r1
  clear hB hR hW hb1
  by_cases hn : volIdx p.vols name < 0
  · have HG := Lib.hid (show goneF p name = none by unfold goneF; rw [if_pos hn])
    go_wp2
    have hR3 := HR.out.set 0 (.slice A0 p.slots.length c0) (cs' := #[.slice A0 p.slots.length c0, .slice none 0 0]) rfl
    have hR4 := hR3.set 1 (.slice A1 p.vols.length c1) (cs' := #[.slice A0 p.slots.length c0, .slice A1 p.vols.length c1]) rfl
    have hb5 := bel_set (bel_set HW.out (Nat.le_succ _) 0 (.slice A0 p.slots.length c0)) (Nat.le_succ _) 1 (.slice A1 p.vols.length c1)
    have hop4 := (HO.out.far HR.out (by decide) (by decide) (by decide) 0 (.slice A0 p.slots.length c0)).far hR3 (by decide) (by decide) (by decide) 1 (.slice A1 p.vols.length c1)
    refine bodyPost_ret (results_ct rfl _ _ (w.heap.size + 1) 30 #[.slice A0 p.slots.length c0, .slice A1 p.vols.length c1] (0, 0) _ rfl hR4 Try.underlying30 rfl (by kernel_rfl)) rfl ?_
    rw [HG.out]
    exact ⟨_, _, _, rfl, hop4, Fr.ofBel hb5 hbase⟩
  · obtain ⟨i, v, hi, hv, hvn⟩ := volIdx_yes hn
    have HG := Lib.hid (show goneF p name = some ⟨dropAll p.slots v.blocks, p.vols.eraseIdx i⟩ by unfold goneF; rw [if_neg hn, hi, Int.toNat_natCast]; unfold volAt; rw [Int.toNat_natCast, getD_of hv])
    have HV := Lib.hid hv
    have hil := ltQ hv
    have hx1 : v.blocks.length ≤ 1048576 := HS.out.vols.blocks v (List.mem_of_getElem? HV.out)
    clear hn hvn hv
    have hin : ¬ ((i : Int) < 0) := by omega
    rw [hi]
    have hbw : base ≤ w.heap.size := hbase
    clear q0 q1 r0 r1 f0 f1
    go_wp2
    go_loopg [7] v.blocks.length (fun g v7 W => ∃ k : Nat, g + k = v.blocks.length ∧ v7 = .int .i64 k ∧ Blk W w.heap.size #[.slice A0 p.slots.length c0, .slice A1 p.vols.length c1] 30 ∧ Blk W (w.heap.size + 1) #[.slice none 0 0, .slice none 0 0] 30 ∧ OwnS W base (.slice A0 p.slots.length c0) (dropAll p.slots (v.blocks.take k)) ∧ OwnV W base (.slice A1 p.vols.length c1) p.vols bvs ∧ Fr base w W)
    case atStart => exact ⟨0, rfl, rfl, HB.out, HR.out, HO.out.s, HO.out.v, Fr.ofBel HW.out hbase⟩
    case round =>
      obtain ⟨k, hk, rfl, hB, hR, hos, hov, hbel⟩ := hrel
      obtain ⟨g, cap, bv, hbv, ev, hg1, hg2, hcap, hc, hc', hf, hf'⟩ := hov.row.at HV.out
      obtain ⟨rfl, -, rfl⟩ := by simpa using ev
      obtain ⟨Ab, cb, rfl, hcb, hCb⟩ := (hov.inner i v bv HV.out hbv).reads
      have q0 := hB.cell 0
      have q1 := hB.cell 1
      have fq0 := hB.free 0
      have fq1 := hB.free 1
      simp at q0 q1
      by_cases hlt : k < v.blocks.length
      · obtain ⟨x, hx⟩ := getQ hlt
        have hxr := (volOk_parts (HK.out.v.v i v HV.out)).1 x (List.mem_of_getElem? hx)
        obtain ⟨ad2, rfl, hcx⟩ := at_int hCb hx
        have HQ := Lib.hid (And.intro (And.intro hB hR) (And.intro hos (And.intro hov hbel)))
        have HBV := Lib.hid hbv
        clear hB hR hov hbel hCb ev hbv
        by_cases h0 : 0 < x
        · obtain ⟨m, rfl⟩ : ∃ m : Nat, x = (m : Int) + 1 := ⟨(x - 1).toNat, by omega⟩
          obtain ⟨y, hy, hy1, hy2⟩ := drop_at HK.out HV.out hx
          have HT := Lib.hid (show dropAll p.slots (v.blocks.take (k + 1)) = dropS (dropAll p.slots (v.blocks.take k)) m by rw [take_snoc hx, dropAll_snoc, if_pos h0]; congr 1; omega)
          have hdl : (dropAll p.slots (v.blocks.take k)).length ≤ 1048576 := by rw [dropAll_len]; exact HS.out.slots.len
          have HY := Lib.hid hy
          have HX := Lib.hid hx
          have HD := Lib.hid hdl
          have HOS := Lib.hid (show OwnS wr.drew base (.slice A0 p.slots.length c0) (dropAll p.slots (v.blocks.take k)) from hos)
          clear hx hy hdl hos
          go_wp2
          refine start_ (n := 14) (S := fun w' => w'.cell? ⟨w.heap.size, 0, none⟩ = some (.slice A0 p.slots.length c0) ∧ w'.cell? ⟨w.heap.size, 1, none⟩ = some (.slice (some ⟨g, 0, none⟩) p.vols.length c1) ∧ w'.cell? ⟨g, i * 2 + 1, none⟩ = some (.slice (some ad2) v.blocks.length cb) ∧ w'.cell? (ad2.add k) = some (.int .i64 ((m : Int) + 1))) (ds := [13]) #[false, false, false, false, false, false, false, false, false, false, false, false, false, false] (by kernel_rfl) rfl rfl ⟨q0, q1, hc', hcx⟩ (fun hHeld => ?_)
          refine pure_ (i := 0) (N := some 35) (v := ?_) (a' := ?_) #[true, false, false, false, false, false, false, false, false, false, false, false, false, false] rfl rfl (by kernel_rfl) (fun _ _ _ h => h) (Or.inl ⟨by rfl, ?_⟩) ?_ ?_
          rotate_left
          · intro w'
            go_simp
            with_reducible rfl
          rotate_left
          · simp only [Act.put, List.setIfInBounds_toArray, List.set_cons_zero, List.set_cons_succ, i64_w, i32_w]
            rfl
          refine pure_ (i := 2) (N := some 37) (v := ?_) (a' := ?_) #[true, false, true, false, false, false, false, false, false, false, false, false, false, false] rfl rfl (by kernel_rfl) (fun _ _ _ h => h) (Or.inl ⟨by rfl, ?_⟩) ?_ ?_
          rotate_left
          · intro w'
            go_simp
            with_reducible rfl
          rotate_left
          · simp only [Act.put, List.setIfInBounds_toArray, List.set_cons_zero, List.set_cons_succ, i64_w, i32_w]
            rfl
          refine pure_ (i := 4) (N := some 39) (v := ?_) (a' := ?_) #[true, false, true, false, true, false, false, false, false, false, false, false, false, false] rfl rfl (by kernel_rfl) (fun _ _ _ h => h) (Or.inl ⟨by rfl, ?_⟩) ?_ ?_
          rotate_left
          · intro w'
            go_simp
            with_reducible rfl
          rotate_left
          · simp only [Act.put, List.setIfInBounds_toArray, List.set_cons_zero, List.set_cons_succ, i64_w, i32_w]
            rfl
          refine pure_ (i := 8) (N := some 43) (v := ?_) (a' := ?_) #[true, false, true, false, true, false, false, false, true, false, false, false, false, false] rfl rfl (by kernel_rfl) (fun _ _ _ h => h) (Or.inl ⟨by rfl, ?_⟩) ?_ ?_
          rotate_left
          · intro w'
            go_simp
            with_reducible rfl
          rotate_left
          · simp only [Act.put, List.setIfInBounds_toArray, List.set_cons_zero, List.set_cons_succ, i64_w, i32_w]
            rfl
          refine take_ (i := 1) (N := some 36) (v := ?_) (a' := ?_) #[true, true, true, false, true, false, false, false, true, false, false, false, false, false] rfl rfl (by kernel_rfl) (fun _ _ _ h => h) (Or.inl ⟨by rfl, ?_⟩) hHeld ?_ ?_
          rotate_left
          · rintro w' ⟨s0, s1, s2, s3⟩
            go_simp
            with_reducible rfl
          rotate_left
          · simp only [Act.put, List.setIfInBounds_toArray, List.set_cons_zero, List.set_cons_succ, i64_w, i32_w]
            rfl
          refine take_ (i := 3) (N := some 38) (v := ?_) (a' := ?_) #[true, true, true, true, true, false, false, false, true, false, false, false, false, false] rfl rfl (by kernel_rfl) (fun _ _ _ h => h) (Or.inl ⟨by rfl, ?_⟩) hHeld ?_ ?_
          rotate_left
          · rintro w' ⟨s0, s1, s2, s3⟩
            go_simp
            with_reducible rfl
          rotate_left
          · simp only [Act.put, List.setIfInBounds_toArray, List.set_cons_zero, List.set_cons_succ, i64_w, i32_w]
            rfl
          refine pure_ (i := 5) (N := some 40) (v := ?_) (a' := ?_) #[true, true, true, true, true, true, false, false, true, false, false, false, false, false] rfl rfl (by kernel_rfl) (fun _ _ _ h => h) (Or.inl ⟨by rfl, ?_⟩) ?_ ?_
          rotate_left
          · intro w'
            go_simp
            with_reducible rfl
          rotate_left
          · simp only [Act.put, List.setIfInBounds_toArray, List.set_cons_zero, List.set_cons_succ, i64_w, i32_w]
            rfl
          refine pure_ (i := 6) (N := some 41) (v := ?_) (a' := ?_) #[true, true, true, true, true, true, true, false, true, false, false, false, false, false] rfl rfl (by kernel_rfl) (fun _ _ _ h => h) (Or.inl ⟨by rfl, ?_⟩) ?_ ?_
          rotate_left
          · intro w'
            go_simp
            with_reducible rfl
          rotate_left
          · simp only [Act.put, List.setIfInBounds_toArray, List.set_cons_zero, List.set_cons_succ, i64_w, i32_w]
            rfl
          refine take_ (i := 7) (N := some 42) (v := ?_) (a' := ?_) #[true, true, true, true, true, true, true, true, true, false, false, false, false, false] rfl rfl (by kernel_rfl) (fun _ _ _ h => h) (Or.inl ⟨by rfl, ?_⟩) hHeld ?_ ?_
          rotate_left
          · rintro w' ⟨s0, s1, s2, s3⟩
            go_simp
            with_reducible rfl
          rotate_left
          · simp only [Act.put, List.setIfInBounds_toArray, List.set_cons_zero, List.set_cons_succ, i64_w, i32_w]
            rfl
          refine pure_ (i := 9) (N := some 44) (v := ?_) (a' := ?_) #[true, true, true, true, true, true, true, true, true, true, false, false, false, false] rfl rfl (by kernel_rfl) (fun _ _ _ h => h) (Or.inl ⟨by rfl, ?_⟩) ?_ ?_
          rotate_left
          · intro w'
            go_simp
            with_reducible rfl
          rotate_left
          · simp only [Act.put, List.setIfInBounds_toArray, List.set_cons_zero, List.set_cons_succ, i64_w, i32_w]
            rfl
          refine take_ (i := 10) (N := some 45) (v := ?_) (a' := ?_) #[true, true, true, true, true, true, true, true, true, true, true, false, false, false] rfl rfl (by kernel_rfl) (fun _ _ _ h => h) (Or.inl ⟨by rfl, ?_⟩) hHeld ?_ ?_
          rotate_left
          · rintro w' ⟨s0, s1, s2, s3⟩
            go_simp
            with_reducible rfl
          rotate_left
          · simp only [Act.put, List.setIfInBounds_toArray, List.set_cons_zero, List.set_cons_succ, i64_w, i32_w]
            rfl
          refine one_ (i := 11) (N := some 46) #[true, true, true, true, true, true, true, true, true, true, true, true, false, false] rfl rfl (by kernel_rfl) (by decide) (fun K hK => ?_)
          refine goes_ Try.func118 (by kernel_rfl) rfl #[.slice A0 p.slots.length c0, .int .i64 ((m : Int) + 1)] (by rfl) rfl rfl (by simp only [List.map_toArray, List.map_cons, List.map_nil]; rfl) ?_
          with_reducible refine (l2Drop_c HOS.out HY.out HD.out hy1 hy2).mono ?_
          rintro e w2 ⟨rfl, ho2, hg2⟩
          obtain ⟨⟨hB, hR⟩, hos, hov, hbel⟩ := HQ.out
          have hB2 := Blk.grown (w := wr.drew) hB hg2 (own_blk_ne hos hB (by decide))
          have hR2 := Blk.grown (w := wr.drew) hR hg2 (own_blk_ne hos hR (by decide))
          have hov2 := OwnV.otherS (w := wr.drew) (hov.bel (Below.refl _ _).drew) hos hg2
          have hbel2 := Fr.slots (W := wr.drew) hbel.drew hos hg2 hbase
          have q0' := hB2.cell 0
          have q1' := hB2.cell 1
          have fq0' := hB2.free 0
          have fq1' := hB2.free 1
          have d1 : w2.cell? ⟨g, i * 2 + 1, none⟩ = some (.slice (some ad2) v.blocks.length cb) := by obtain ⟨g', cap', bv', e1, e2, _, _, _, _, e3, _⟩ := hov2.row.at HV.out; have e2 := own_slice_eq e2; obtain ⟨rfl, -, rfl⟩ := e2; obtain rfl := Option.some.inj (HBV.out.symm.trans e1); exact e3
          have d2 : w2.cell? (ad2.add k) = some (.int .i64 ((m : Int) + 1)) := by obtain ⟨A', c', e1, _, hC'⟩ := (hov2.inner i v _ HV.out HBV.out).reads; have e1 := slice_eq e1; obtain ⟨rfl, -⟩ := e1; obtain ⟨ad', e2, e3⟩ := at_int hC' HX.out; obtain rfl := Option.some.inj e2; exact e3
          simp at q0' q1'
          have HQ2 := Lib.hid (And.intro (And.intro hB2 hR2) (And.intro ho2 (And.intro hov2 hbel2)))
          clear hB hR hos hov hbel hB2 hR2 hov2 hbel2 ho2 hg2
          refine ⟨_, rfl, ?_⟩
          refine hK.out _ _ ⟨q0', q1', d1, d2⟩ (fun hHeld => ?_)
          clear hK K
          refine norm_ (a' := ?_) ?_ ?_
          rotate_left
          · show Act.put _ (some 46) _ = _
            simp only [Act.put, List.setIfInBounds_toArray, List.set_cons_zero, List.set_cons_succ, i64_w, i32_w]
            rfl
          refine pure_ (i := 12) (N := some 47) (v := ?_) (a' := ?_) #[true, true, true, true, true, true, true, true, true, true, true, true, true, false] rfl rfl (by kernel_rfl) (fun _ _ _ h => h) (Or.inl ⟨by rfl, ?_⟩) ?_ ?_
          rotate_left
          · intro w'
            go_simp
            with_reducible rfl
          rotate_left
          · simp only [Act.put, List.setIfInBounds_toArray, List.set_cons_zero, List.set_cons_succ, i64_w, i32_w]
            rfl
          refine last_ (i := 13) (N := none) #[true, true, true, true, true, true, true, true, true, true, true, true, true, true] rfl rfl (by kernel_rfl) (by decide) (fun K hK => ?_)
          refine skip_ (w1 := ?_) (by rfl) rfl ?_ ?_
          rotate_left
          · go_simp
            rfl
          refine hK.out _ _ ?_
          clear hK K
          refine done_ (by kernel_rfl) ?_
          have H3 := Lib.hid (And.intro (HQ2.out.1.1.set 0 (.slice A0 p.slots.length c0) (cs' := #[.slice A0 p.slots.length c0, .slice (some ⟨g, 0, none⟩) p.vols.length c1]) rfl) (And.intro (HQ2.out.1.2.apart (show w.heap.size ≠ w.heap.size + 1 by omega) 0 (.slice A0 p.slots.length c0))
            (And.intro (OwnS.far HQ2.out.2.1 HQ2.out.1.1 (by decide) 0 (.slice A0 p.slots.length c0)) (And.intro (HQ2.out.2.2.1.far HQ2.out.1.1 (by decide) (by decide) 0 (.slice A0 p.slots.length c0)) (HQ2.out.2.2.2.set (Nat.le_refl _) hbase 0 (.slice A0 p.slots.length c0))))))
          clear d1 d2 q0' q1' fq0' fq1' q0 q1 fq0 fq1 hc hc' hf hf' hcx hHeld
          go_wp2
          go_roundg (v.blocks.length - (k + 1))
          case rel =>
            refine ⟨k + 1, by omega, int_eq (by omega), H3.out.1, H3.out.2.1, ?_, H3.out.2.2.2.1, H3.out.2.2.2.2⟩
            rw [HT.out]
            have h5 := H3.out.2.2.1
            unfold OwnS at h5 ⊢
            exact h5
          case measure => omega
        · have HT := Lib.hid (show dropAll p.slots (v.blocks.take (k + 1)) = dropAll p.slots (v.blocks.take k) by rw [take_snoc hx, dropAll_snoc, if_neg h0])
          have HOS := Lib.hid hos
          clear hx hos
          go_wp2
          go_roundg (v.blocks.length - (k + 1))
          case rel =>
            obtain ⟨⟨hB, hR⟩, _, hov, hbel⟩ := HQ.out
            exact ⟨k + 1, by omega, int_eq (by omega), hB, hR, by rw [HT.out]; exact HOS.out, hov, hbel⟩
          case measure => omega
      · have hkl : k = v.blocks.length := by omega
        rw [hkl, List.take_length] at hos
        have hone := one_flatV (zs := p.vols.zip bvs) fun z hz => hov.one z.2 (List.of_mem_zip hz).2
        obtain ⟨_, hnc, hmax, hL, rest, hrl, hg⟩ := own_open hov.row.row
        have hlen := hov.row.len
        obtain ⟨L, hLe⟩ : ∃ L, L = (p.vols.zip bvs).flatMap encV := ⟨_, rfl⟩
        rw [← hLe] at hg hone hL
        have hz : (p.vols.eraseIdx i).length = p.vols.length - 1 := List.length_eraseIdx_of_lt hil
        have hzb : (bvs.eraseIdx i).length = p.vols.length - 1 := by rw [List.length_eraseIdx_of_lt (by omega), hlen]
        have HF := Lib.hid (show ((p.vols.eraseIdx i).zip (bvs.eraseIdx i)).flatMap encV = L.take (i * 2) ++ L.drop ((i + 1) * 2) by rw [zip_eraseIdx _ _ _ hlen, flat_erase encV_len, hLe])
        have hgd : wr.drew.heap[g]? = some (.cells (L ++ rest).toArray 43 (0, 0)) := hg
        obtain ⟨Ad, hA, hsrc⟩ : ∃ A : Addr, (if c1 = i + 1 then some (⟨g, 0, none⟩ : Addr) else some ⟨g, (i + 1) * 2, none⟩) = some A ∧ (∀ w' : World, w'.heap[g]? = some (.cells (L ++ rest).toArray 43 (0, 0)) → ∀ t u, (L.drop ((i + 1) * 2))[t]? = some u → w'.cell? (A.add t) = some u) := by
          by_cases hc : c1 = i + 1
          · refine ⟨⟨g, 0, none⟩, by simp [hc], fun w' hw' t u hu => ?_⟩
            have h0 := ltQ hu
            rw [List.length_drop, hL] at h0
            omega
          · refine ⟨⟨g, (i + 1) * 2, none⟩, by simp [hc], fun w' hw' t u hu => ?_⟩
            rw [Addr.add_lit, cell_of_row hw']
            have h0 := ltQ hu
            rw [List.length_drop] at h0
            rw [List.getElem?_append_left (by omega)]
            rwa [List.getElem?_drop] at hu
        have hq := hgd
        have HQ := Lib.hid (And.intro (And.intro hB hR) (And.intro hos (And.intro hov hbel)))
        have HG2 := Lib.hid hg
        have HSR := Lib.hid hsrc
        have HO1 := Lib.hid hone
        have HL := Lib.hid hL
        have HZ := Lib.hid (And.intro hz hzb)
        have n1 := Lib.hid (show (L.take (i * 2)).length = i * 2 by rw [List.length_take, hL]; omega)
        have n2 := Lib.hid (show (L.drop ((i + 1) * 2)).length = (p.vols.length - (i + 1)) * 2 by rw [List.length_drop, hL]; omega)
        have n3 := Lib.hid (show (0 + i) * 40 ≤ 140737488355328 by omega)
        have n4 := Lib.hid (show (0 + i + (p.vols.length - (i + 1))) * 40 ≤ 140737488355328 by omega)
        have n5 : Hid (∀ t u, (L.take (i * 2))[t]? = some u → (L ++ rest)[t]? = some u) := fun t u hu => by
          have h9 := ltQ hu
          rw [List.length_take] at h9
          rw [List.getElem?_append_left (by omega)]
          rwa [List.getElem?_take, if_pos (by omega)] at hu
        have hmin := hbel.b.size
        clear hB hR hos hov hbel hCb ev hbv hone hg hgd hq hsrc hL hLe hz hzb hrl hlen hc hf hf'
        have hic : i ≤ c1 := by omega
        have hjc : i + 1 ≤ c1 := by omega
        have hi1 : (0 : Int) ≤ (i : Int) + 1 := by omega
        have hi2 : (i : Int) + 1 ≤ (p.vols.length : Int) := by omega
        have hi3 : ((i : Int) + 1).toNat = i + 1 := by omega
        have hw64 : wrap64 ((i : Int) + 1) = (i : Int) + 1 := by unfold wrap64; omega
        go_wp2
        refine start_ (n := 14) (S := fun w' => w'.cell? ⟨w.heap.size, 1, none⟩ = some (.slice (some ⟨g, 0, none⟩) p.vols.length c1)) (ds := [13]) #[false, false, false, false, false, false, false, false, false, false, false, false, false, false] (by kernel_rfl) rfl rfl (q1) (fun hHeld => ?_)
        refine pure_ (i := 1) (N := some 49) (v := ?_) (a' := ?_) #[false, true, false, false, false, false, false, false, false, false, false, false, false, false] rfl rfl (by kernel_rfl) (fun _ _ _ h => h) (Or.inl ⟨by rfl, ?_⟩) ?_ ?_
        rotate_left
        · intro w'
          go_simp
          with_reducible rfl
        rotate_left
        · simp only [Act.put, List.setIfInBounds_toArray, List.set_cons_zero, List.set_cons_succ, i64_w, i32_w]
          rfl
        refine pure_ (i := 3) (N := some 51) (v := ?_) (a' := ?_) #[false, true, false, true, false, false, false, false, false, false, false, false, false, false] rfl rfl (by kernel_rfl) (fun _ _ _ h => h) (Or.inl ⟨by rfl, ?_⟩) ?_ ?_
        rotate_left
        · intro w'
          go_simp
          with_reducible rfl
        rotate_left
        · simp only [Act.put, List.setIfInBounds_toArray, List.set_cons_zero, List.set_cons_succ, i64_w, i32_w]
          rfl
        refine pure_ (i := 6) (N := some 54) (v := ?_) (a' := ?_) #[false, true, false, true, false, false, true, false, false, false, false, false, false, false] rfl rfl (by kernel_rfl) (fun _ _ _ h => h) (Or.inl ⟨by rfl, ?_⟩) ?_ ?_
        rotate_left
        · intro w'
          go_simp
          with_reducible rfl
        rotate_left
        · simp only [Act.put, List.setIfInBounds_toArray, List.set_cons_zero, List.set_cons_succ, i64_w, i32_w]
          rfl
        refine pure_ (i := 8) (N := some 56) (v := ?_) (a' := ?_) #[false, true, false, true, false, false, true, false, true, false, false, false, false, false] rfl rfl (by kernel_rfl) (fun _ _ _ h => h) (Or.inl ⟨by rfl, ?_⟩) ?_ ?_
        rotate_left
        · intro w'
          go_simp
          with_reducible rfl
        rotate_left
        · simp only [Act.put, List.setIfInBounds_toArray, List.set_cons_zero, List.set_cons_succ, i64_w, i32_w]
          rfl
        refine pure_ (i := 9) (N := some 57) (v := ?_) (a' := ?_) #[false, true, false, true, false, false, true, false, true, true, false, false, false, false] rfl rfl (by kernel_rfl) (fun _ _ _ h => h) (Or.inl ⟨by rfl, ?_⟩) ?_ ?_
        rotate_left
        · intro w'
          go_simp
          with_reducible rfl
        rotate_left
        · simp only [Act.put, List.setIfInBounds_toArray, List.set_cons_zero, List.set_cons_succ, i64_w, i32_w]
          rfl
        refine take_ (i := 2) (N := some 50) (v := ?_) (a' := ?_) #[false, true, true, true, false, false, true, false, true, true, false, false, false, false] rfl rfl (by kernel_rfl) (fun _ _ _ h => h) (Or.inl ⟨by rfl, ?_⟩) hHeld ?_ ?_
        rotate_left
        · intro w' s0
          go_simp
          with_reducible rfl
        rotate_left
        · simp only [Act.put, List.setIfInBounds_toArray, List.set_cons_zero, List.set_cons_succ, i64_w, i32_w]
          rfl
        refine pure_ (i := 4) (N := some 52) (v := ?_) (a' := ?_) #[false, true, true, true, true, false, true, false, true, true, false, false, false, false] rfl rfl (by kernel_rfl) (fun _ _ _ h => h) (Or.inl ⟨by rfl, ?_⟩) ?_ ?_
        rotate_left
        · intro w'
          go_simp
          with_reducible rfl
        rotate_left
        · simp only [Act.put, List.setIfInBounds_toArray, List.set_cons_zero, List.set_cons_succ, i64_w, i32_w]
          rfl
        refine take_ (i := 7) (N := some 55) (v := ?_) (a' := ?_) #[false, true, true, true, true, false, true, true, true, true, false, false, false, false] rfl rfl (by kernel_rfl) (fun _ _ _ h => h) (Or.inl ⟨by rfl, ?_⟩) hHeld ?_ ?_
        rotate_left
        · intro w' s0
          go_simp
          with_reducible rfl
        rotate_left
        · simp only [Act.put, List.setIfInBounds_toArray, List.set_cons_zero, List.set_cons_succ, i64_w, i32_w]
          rfl
        refine pure_ (i := 10) (N := some 58) (v := ?_) (a' := ?_) #[false, true, true, true, true, false, true, true, true, true, true, false, false, false] rfl rfl (by kernel_rfl) (fun _ _ _ h => h) (Or.inl ⟨by rfl, ?_⟩) ?_ ?_
        rotate_left
        · intro w'
          go_simp
          with_reducible rfl
        rotate_left
        · simp only [Act.put, List.setIfInBounds_toArray, List.set_cons_zero, List.set_cons_succ, i64_w, i32_w]
          rfl
        refine one_ (i := 0) (N := some 48) #[true, true, true, true, true, false, true, true, true, true, true, false, false, false] rfl rfl (by kernel_rfl) (by decide) (fun K hK => ?_)
        refine value_ (w1 := ?_) (v := ?_) (by rfl) rfl ?_ ?_
        rotate_left 2
        · go_simp
          constructor
          · rfl
          · rfl
        have x0 : Bel wr ((wr.alloc (.cells #[] 43)).drew) := (bel_alloc (Below.refl _ _) _ : Bel wr (wr.alloc (.cells #[] 43))).drew
        have b0 := (HQ.out.1.1.bel x0).cell 1
        have X0 := Lib.hid x0
        clear x0
        refine hK.out _ _ (b0) (fun hHeld => ?_)
        clear hK K
        refine norm_ (a' := ?_) ?_ ?_
        rotate_left
        · show Act.put _ (some 48) _ = _
          simp only [Act.put, List.setIfInBounds_toArray, List.set_cons_zero, List.set_cons_succ, i64_w, i32_w]
          rfl
        refine one_ (i := 5) (N := some 53) #[true, true, true, true, true, true, true, true, true, true, true, false, false, false] rfl rfl (by kernel_rfl) (by decide) (fun K hK => ?_)
        refine step_append_own (W := (wr.alloc (.cells #[] 43)).drew) wr.heap.size (by rfl) (.tmp 48) (.tmp 52) 28 43 (.agg #[.string ⟨#[]⟩, .slice none 0 0]) 2 40 rfl Try.underlying28 info_vol rfl (by decide) (by decide) _ 0 [] (some ⟨g, 0, none⟩) i c1 (L.take (i * 2)) rfl rfl n1.out (fun _ => ⟨_, rfl, fun t u hu => ?a1⟩) (fun u hu => HO1.out u (List.mem_of_mem_take hu)) (own_empty wr wr.heap.size _ _ (Nat.le_refl _)) X0.out.size n3.out ?_
        case a1 => rw [Addr.add_lit, Nat.zero_add, cell_of_row ((X0.out.block g hg2).trans HG2.out)]; exact n5.out t u hu
        intro v2 w2 ho2 hgr2 hat2
        have x2 : Bel wr w2 := X0.out.grown hgr2 X0.out.size (fun k hk => by cases hk; exact Nat.le_refl _)
        obtain ⟨A2, c2, rfl, hc2⟩ := own_cap ho2
        have b2 := (HQ.out.1.1.bel x2).cell 1
        have X2 := Lib.hid x2
        have O2 := Lib.hid ho2
        clear x2 ho2 hgr2 hat2
        refine hK.out _ _ (b2) (fun hHeld => ?_)
        clear hK K
        refine norm_ (a' := ?_) ?_ ?_
        rotate_left
        · show Act.put _ (some 53) _ = _
          simp only [Act.put, List.setIfInBounds_toArray, List.set_cons_zero, List.set_cons_succ, i64_w, i32_w]
          rfl
        refine one_ (i := 11) (N := some 59) #[true, true, true, true, true, true, true, true, true, true, true, true, false, false] rfl rfl (by kernel_rfl) (by decide) (fun K hK => ?_)
        refine step_append_own (W := w2) wr.heap.size (by rfl) (.tmp 53) (.tmp 58) 28 43 (.agg #[.string ⟨#[]⟩, .slice none 0 0]) 2 40 rfl Try.underlying28 info_vol rfl (by decide) (by decide) _ (0 + i) ([] ++ L.take (i * 2)) (some Ad) (p.vols.length - (i + 1)) (c1 - (i + 1)) (L.drop ((i + 1) * 2)) rfl rfl n2.out (fun _ => ⟨_, rfl, HSR.out w2 ((X2.out.block g hg2).trans HG2.out)⟩) (fun u hu => HO1.out u (List.mem_of_mem_drop hu)) O2.out X2.out.size n4.out ?_
        intro v3 w3 ho3 hgr3 hat3
        have x3 : Bel wr w3 := X2.out.grown hgr3 X2.out.size (own_base O2.out)
        obtain ⟨A3, c3, rfl, hc3⟩ := own_cap ho3
        have hB3 := HQ.out.1.1.bel x3
        have b3 := hB3.cell 1
        have b30 := hB3.cell 0
        have f3 := hB3.free 1
        have b4 := (HQ.out.1.2.bel x3).cell 0
        have b5 := (HQ.out.1.2.bel x3).cell 1
        have f4 := (HQ.out.1.2.bel x3).free 0
        have f5 := (HQ.out.1.2.bel x3).free 1
        simp at b3 b30 b4 b5
        have X3 := Lib.hid x3
        have O3 := Lib.hid ho3
        clear x3 ho3 hgr3 hat3 hB3
        refine hK.out _ _ (b3) (fun hHeld => ?_)
        clear hK K
        refine norm_ (a' := ?_) ?_ ?_
        rotate_left
        · show Act.put _ (some 59) _ = _
          simp only [Act.put, List.setIfInBounds_toArray, List.set_cons_zero, List.set_cons_succ, i64_w, i32_w]
          rfl
        refine pure_ (i := 12) (N := some 60) (v := ?_) (a' := ?_) #[true, true, true, true, true, true, true, true, true, true, true, true, true, false] rfl rfl (by kernel_rfl) (fun _ _ _ h => h) (Or.inl ⟨by rfl, ?_⟩) ?_ ?_
        rotate_left
        · intro w'
          go_simp
          with_reducible rfl
        rotate_left
        · simp only [Act.put, List.setIfInBounds_toArray, List.set_cons_zero, List.set_cons_succ, i64_w, i32_w]
          rfl
        refine last_ (i := 13) (N := none) #[true, true, true, true, true, true, true, true, true, true, true, true, true, true] rfl rfl (by kernel_rfl) (by decide) (fun K hK => ?_)
        refine skip_ (w1 := ?_) (by rfl) rfl ?_ ?_
        rotate_left
        · go_simp
          rfl
        refine hK.out _ _ ?_
        clear hK K
        refine done_ (by kernel_rfl) ?_
        have hB3 := HQ.out.1.1.bel X3.out
        have hR3 := HQ.out.1.2.bel X3.out
        have hv3 : VRow w3 wr.heap.size (.slice A3 (0 + i + (p.vols.length - (i + 1))) c3) (p.vols.eraseIdx i) (bvs.eraseIdx i) := by
          refine ⟨HZ.out.2.trans HZ.out.1.symm, ?_⟩
          have h5 := O3.out
          rw [List.nil_append, ← HF.out] at h5
          rw [HZ.out.1]
          have e5 : 0 + i + (p.vols.length - (i + 1)) = p.vols.length - 1 := ar_gone hil
          rw [e5] at h5 ⊢
          exact h5
        have hov3 : OwnV w3 base (.slice A3 (0 + i + (p.vols.length - (i + 1))) c3) (p.vols.eraseIdx i) (bvs.eraseIdx i) :=
          ⟨⟨hv3.len, own_lower hv3.row (Nat.le_trans hbase hmin)⟩, fun m x b hx hb => (HQ.out.2.2.1.inner _ x b (erase_get hx) (erase_get hb)).bel X3.out, fun a c b b' k hne hb hb' => HQ.out.2.2.1.apart _ _ b b' k (ar_if hne) (erase_get hb) (erase_get hb')⟩
        have hos3 := HQ.out.2.1.bel X3.out
        have hbel3 : Fr base w w3 := HQ.out.2.2.2.bel X3.out hbase
        have hB4 := hB3.set 1 (.slice A3 (0 + i + (p.vols.length - (i + 1))) c3) (cs' := #[.slice A0 p.slots.length c0, .slice A3 (0 + i + (p.vols.length - (i + 1))) c3]) rfl
        have hR4 := hR3.apart (show w.heap.size ≠ w.heap.size + 1 by omega) 1 (.slice A3 (0 + i + (p.vols.length - (i + 1))) c3)
        have hos4 := hos3.far hB3 (by decide) 1 (.slice A3 (0 + i + (p.vols.length - (i + 1))) c3)
        have hov4 := hov3.far hB3 (by decide) (by decide) 1 (.slice A3 (0 + i + (p.vols.length - (i + 1))) c3)
        have hbel4 := hbel3.set (Nat.le_refl _) hbase 1 (.slice A3 (0 + i + (p.vols.length - (i + 1))) c3)
        have HF4 := Lib.hid (And.intro (And.intro hB4 hR4) (And.intro (And.intro hos4 hov4) hbel4))
        clear hB3 hR3 hv3 hov3 hos3 hbel3 hB4 hR4 hos4 hov4 hbel4
        rw [show 0 + i = i from Nat.zero_add i] at HF4
        go_wp2
        have hR5 := HF4.out.1.2.set 0 (.slice A0 p.slots.length c0) (cs' := #[.slice A0 p.slots.length c0, .slice none 0 0]) rfl
        have hR6 := hR5.set 1 (.slice A3 (i + (p.vols.length - (i + 1))) c3) (cs' := #[.slice A0 p.slots.length c0, .slice A3 (i + (p.vols.length - (i + 1))) c3]) rfl
        have hop6 : OwnP _ base _ _ ⟨dropAll p.slots v.blocks, p.vols.eraseIdx i⟩ (bvs.eraseIdx i) := ⟨(HF4.out.2.1.1.far HF4.out.1.2 (by decide) 0 (.slice A0 p.slots.length c0)).far hR5 (by decide) 1 (.slice A3 (i + (p.vols.length - (i + 1))) c3), (HF4.out.2.1.2.far HF4.out.1.2 (by decide) (by decide) 0 (.slice A0 p.slots.length c0)).far hR5 (by decide) (by decide) 1 (.slice A3 (i + (p.vols.length - (i + 1))) c3)⟩
        have hb6 := (HF4.out.2.2.set (Nat.le_succ _) hbase 0 (.slice A0 p.slots.length c0)).set (Nat.le_succ _) hbase 1 (.slice A3 (i + (p.vols.length - (i + 1))) c3)
        refine bodyPost_ret (results_ct rfl _ _ (w.heap.size + 1) 30 #[.slice A0 p.slots.length c0, .slice A3 (i + (p.vols.length - (i + 1))) c3] (0, 0) _ rfl hR6 Try.underlying30 rfl (by kernel_rfl)) rfl ?_
        rw [HG.out]
        exact ⟨_, _, _, rfl, hop6, hb6⟩
end Go.Proofs.Ytpobgjkmjlmafaa
/- PoolGone, as the reference does it. -/

namespace Go.Proofs.Ytpobgjkmjlmafaa
open Go.RowKit Go.Proofs.YtpobgjkmjlmafaaW.PrintWords Go.Proofs.YtpobgjkmjlmafaaW.PrintLast
set_option linter.unusedVariables false
set_option linter.unusedSimpArgs false

end Go.Proofs.Ytpobgjkmjlmafaa
/- Pools that lie in an interval of blocks; marks on one leave the others as they were. -/






namespace Go.Proofs.Ytpobgjkmjlmafaa
open Go.RowKit Go.Proofs.YtpobgjkmjlmafaaW.PrintWords Go.Proofs.YtpobgjkmjlmafaaW.PrintLast
set_option linter.unusedVariables false
set_option linter.unusedSimpArgs false

/-- Only blocks from lo up to hi may have changed. -/
def Within (lo hi : Nat) (w w' : World) : Prop := Only w w' (fun k => lo ≤ k ∧ k < hi)
/-- A pool whose blocks lie from lo up to hi. -/
structure At (w : World) (lo hi : Nat) (v0 v1 : Value) (p : Pool) (bvs : List Value) : Prop where
  own : OwnP w lo v0 v1 p bvs
  lt : ∀ k, InP v0 v1 bvs k → k < hi
theorem OwnP.in_ {w : World} {base : Nat} {v0 v1 : Value} {p : Pool} {bvs : List Value} (h : OwnP w base v0 v1 p bvs) {k : Nat} (hk : InP v0 v1 bvs k) : base ≤ k ∧ k < w.heap.size := by
  rcases hk with hk | hk | ⟨b, hb, hk⟩
  · exact ⟨own_block_ge h.s hk, own_block_lt h.s hk⟩
  · exact ⟨own_block_ge h.v.row.row hk, own_block_lt h.v.row.row hk⟩
  · obtain ⟨m, hm⟩ := List.getElem?_of_mem hb
    obtain ⟨x, hx⟩ := getQ (show m < p.vols.length by rw [← h.v.row.len]; exact ltQ hm)
    exact ⟨own_block_ge (h.v.inner m x b hx hm) hk, own_block_lt (h.v.inner m x b hx hm) hk⟩
theorem OwnP.only {w w' : World} {S : Nat → Prop} {base : Nat} {v0 v1 : Value} {p : Pool} {bvs : List Value} (h : OwnP w base v0 v1 p bvs) (ho : Only w w' S) (hS : ∀ k, InP v0 v1 bvs k → ¬ S k) : OwnP w' base v0 v1 p bvs := by
  have mv : ∀ k, InP v0 v1 bvs k → w'.heap[k]? = w.heap[k]? := fun k hk => ho.block k (h.in_ hk).2 (hS k hk)
  refine ⟨own_move2 h.s fun k hk => mv k (.inl hk), ⟨h.v.row.len, own_move2 h.v.row.row fun k hk => mv k (.inr (.inl hk))⟩, fun m x b hx hb => own_move2 (h.v.inner m x b hx hb) fun k hk => mv k (.inr (.inr ⟨b, List.mem_of_getElem? hb, hk⟩)), h.v.apart⟩
theorem OwnP.at {w : World} {lo : Nat} {v0 v1 : Value} {p : Pool} {bvs : List Value} (h : OwnP w lo v0 v1 p bvs) : At w lo w.heap.size v0 v1 p bvs := ⟨h, fun k hk => (h.in_ hk).2⟩
theorem At.bel {w w' : World} {lo hi : Nat} {v0 v1 : Value} {p : Pool} {bvs : List Value} (h : At w lo hi v0 v1 p bvs) (hb : Bel w w') : At w' lo hi v0 v1 p bvs := ⟨h.own.bel hb, h.lt⟩
theorem At.reads {w : World} {lo hi : Nat} {v0 v1 : Value} {p : Pool} {bvs : List Value} (h : At w lo hi v0 v1 p bvs) : ∃ A0 A1 c0 c1, v0 = .slice A0 p.slots.length c0 ∧ v1 = .slice A1 p.vols.length c1 ∧ PoolIn w A0 A1 c0 c1 p := h.own.reads
theorem Within.below {w w' : World} {lo hi b : Nat} (h : Within lo hi w w') (hb : b ≤ w.heap.size) (hl : b ≤ lo) : Below b w w' := Only.below h hb fun k hk => by omega
theorem Within.size {w w' : World} {lo hi : Nat} (h : Within lo hi w w') : w.heap.size ≤ w'.heap.size := Only.size h

/-! ### marks -/
theorem digN_len (d : Nat) : ∀ n : Nat, n < 10 ^ d → (digN n).length ≤ d := by
  induction d with
  | zero =>
    intro n hn
    obtain rfl : n = 0 := by omega
    unfold digN
    simp
  | succ d ih =>
    intro n hn
    unfold digN
    split
    · simp
    · have := ih (n / 10) (by rw [Nat.pow_succ] at hn; omega)
      rw [List.length_append, List.length_singleton]; omega
theorem mkT_size {k : Int} (h : k ≤ 1000000000000000000) : (mkT k).size ≤ 1048576 := by
  have := digN_len 19 k.toNat (by omega)
  unfold mkT ByteArray.size
  simp
  omega
theorem MkP.small {k : Int} {p q : Pool} (h : MkP k q) (hp : SmallP p) (hl : q.slots.length = p.slots.length) (hv : q.vols.map (fun x => x.blocks.length) = p.vols.map (fun x => x.blocks.length)) (h1 : k ≤ 1099511627776) : SmallP q := by
  have hlv : q.vols.length = p.vols.length := by simpa using congrArg List.length hv
  have hb : ∀ x ∈ q.vols, x.blocks.length ≤ 1048576 := by
    intro x hx
    have : x.blocks.length ∈ p.vols.map (fun x => x.blocks.length) := by rw [← hv]; exact List.mem_map.2 ⟨x, hx, rfl⟩
    obtain ⟨y, hy, e⟩ := List.mem_map.1 this
    rw [← e]; exact hp.vols.blocks y hy
  have h3 := hp.slots.len
  have h4 := hp.vols.len
  refine ⟨⟨by rw [hl]; exact hp.slots.len, fun x hx => ?_⟩, ⟨by rw [hlv]; exact hp.vols.len, hb, fun x hx => ?_⟩⟩
  · obtain ⟨i, hi⟩ := List.getElem?_of_mem hx
    rw [(h.s i x hi).1]
    have := ltQ hi
    exact mkT_size (by omega)
  · obtain ⟨i, hi⟩ := List.getElem?_of_mem hx
    rw [(h.v i x hi).1]
    have h5 := ltQ hi
    have h2 := nxV_le (vs := q.vols.take i) (fun v hv => hb v (List.mem_of_mem_take hv)) (k + 2 * q.slots.length)
    have h6 := List.length_take_le i q.vols
    exact mkT_size (by omega)
/-- What a marker leaves of a pool in its interval. -/
def MarkedA (k : Int) (w : World) (lo hi : Nat) (v0 v1 : Value) (p : Pool) (bvs : List Value) (e : Ending) (w' : World) : Prop :=
  e = .returned (.int .i64 (nxP k p)) ∧ (∃ q, SmallP q ∧ q.slots.length = p.slots.length ∧ q.vols.length = p.vols.length ∧ nxP k q = nxP k p ∧ MkP k q ∧ At w' lo hi v0 v1 q bvs) ∧ Within lo hi w w'
/-! ### what is valid is small -/
theorem tOk_size {t : ByteArray} (h : tOk t = true) : t.size ≤ 4 := by
  unfold tOk at h
  simp at h
  exact h.2
theorem PoolP.small {p : Pool} (h : PoolP p) : SmallP p := by
  refine ⟨⟨by have := h.s.len; omega, fun x hx => ?_⟩, ⟨by have := h.v.len; omega, fun v hv => ?_, fun v hv => ?_⟩⟩
  · obtain ⟨i, hi⟩ := List.getElem?_of_mem hx
    have := tOk_size (h.s.ok i x hi).1
    omega
  · obtain ⟨i, hi⟩ := List.getElem?_of_mem hv
    have := (volOk_parts (h.v.v i v hi)).2.2.2
    omega
  · obtain ⟨i, hi⟩ := List.getElem?_of_mem hv
    obtain ⟨b, hb, _⟩ := isNm_one (h.v.nm hi)
    have : v.name.size = 1 := by rw [← size_toList, hb]; rfl
    omega
theorem noP_small : SmallP noP := ⟨⟨by simp [noP], fun x hx => by simp [noP] at hx⟩, ⟨by simp [noP], fun x hx => by simp [noP] at hx, fun x hx => by simp [noP] at hx⟩⟩
end Go.Proofs.Ytpobgjkmjlmafaa

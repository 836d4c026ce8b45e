/- Rows of one's own: arrays that a call has made, told by the list that they hold; reading, storing, keeping. -/
import Derived.Test.YtpobgjkmjlmafaaPure
namespace Go.Proofs.Ytpobgjkmjlmafaa
open Go.RowKit Go.Proofs.YtpobgjkmjlmafaaW.PrintWords
set_option linter.unusedVariables false
set_option linter.unusedSimpArgs false

section flat
variable {α β : Type} {enc : α → List β} {sz : Nat}
theorem flat_len (hl : ∀ x, (enc x).length = sz) (xs : List α) : (xs.flatMap enc).length = xs.length * sz := by
  induction xs with
  | nil => simp
  | cons y ys ih => simp only [List.flatMap_cons, List.length_append, hl, ih, List.length_cons, Nat.add_mul]; omega
theorem flat_get (hl : ∀ x, (enc x).length = sz) {xs : List α} {i j : Nat} {x : α} (h : xs[i]? = some x) (hj : j < sz) : (xs.flatMap enc)[i * sz + j]? = (enc x)[j]? := by
  induction xs generalizing i with
  | nil => simp at h
  | cons y ys ih =>
    rw [List.flatMap_cons]
    cases i with
    | zero =>
      simp at h; subst h
      rw [Nat.zero_mul, Nat.zero_add, List.getElem?_append_left (by rw [hl]; exact hj)]
    | succ i =>
      rw [List.getElem?_append_right (by rw [hl, Nat.succ_mul]; omega), hl, show (i + 1) * sz + j - sz = i * sz + j by rw [Nat.succ_mul]; omega]
      exact ih (by simpa using h)
theorem flat_seg (hl : ∀ x, (enc x).length = sz) {xs : List α} {i : Nat} {x : α} (h : xs[i]? = some x) : ((xs.flatMap enc).drop (i * sz)).take sz = enc x := by
  apply List.ext_getElem?
  intro j
  rw [List.getElem?_take]
  split
  · rename_i hj; rw [List.getElem?_drop, flat_get hl h hj]
  · rename_i hj; rw [List.getElem?_eq_none]; rw [hl]; omega
theorem flat_set (hl : ∀ x, (enc x).length = sz) {xs : List α} {i j : Nat} {x y : α} {u : β} (h : xs[i]? = some x) (hj : j < sz) (he : enc y = (enc x).set j u) : (xs.flatMap enc).set (i * sz + j) u = (xs.set i y).flatMap enc := by
  induction xs generalizing i with
  | nil => simp at h
  | cons z zs ih =>
    cases i with
    | zero =>
      simp at h; subst h
      rw [List.flatMap_cons, Nat.zero_mul, Nat.zero_add, List.set_append, if_pos (by rw [hl]; exact hj), List.set_cons_zero, List.flatMap_cons, he]
    | succ i =>
      rw [List.flatMap_cons, List.set_append, if_neg (by rw [hl, Nat.succ_mul]; omega), hl, show (i + 1) * sz + j - sz = i * sz + j by rw [Nat.succ_mul]; omega, List.set_cons_succ, List.flatMap_cons, ih (by simpa using h)]
end flat

def encS (x : Slot) : List Value := [.string x.text, .int .i64 x.uses]
def encI (x : Int) : List Value := [.int .i64 x]
def encV (x : Vol × Value) : List Value := [.string x.1.name, x.2]
theorem encS_len (x : Slot) : (encS x).length = 2 := rfl
theorem encI_len (x : Int) : (encI x).length = 1 := rfl
theorem encV_len (x : Vol × Value) : (encV x).length = 2 := rfl

/-- Only this row may have changed; new blocks may have come. -/
abbrev Grown (w w' : World) (v : Value) : Prop := w.grownBy w' v.ownBlock
theorem grown_refl (w : World) (r : Option Nat) : w.grownBy w r := ⟨rfl, rfl, rfl, Nat.le_refl _, fun _ _ _ => rfl⟩
theorem grown_of_bel {w w' : World} (h : Bel w w') (r : Option Nat) : w.grownBy w' r := ⟨h.os, h.tape, h.output, h.size, fun k hk _ => h.block k hk⟩
theorem grown_tr {a b c : World} {r : Option Nat} (h : a.grownBy b r) (k : b.grownBy c r) : a.grownBy c r :=
  ⟨k.os.trans h.os, k.tape.trans h.tape, k.output.trans h.output, Nat.le_trans h.size k.size, fun i hi hr => (k.block i (Nat.lt_of_lt_of_le hi h.size) hr).trans (h.block i hi hr)⟩
/-- A row of one's own that is not empty lies at the head of a block. -/
theorem own_form {w : World} {base : Nat} {e : TypeId} {sz n : Nat} {v : Value} {xs : List Value} (h : w.ownsRow base e sz v n xs) (hn : 0 < n) : ∃ g cap, v = .slice (some ⟨g, 0, none⟩) n cap ∧ base ≤ g ∧ g < w.heap.size ∧ n ≤ cap := by
  rcases h.2 with ⟨_, h0⟩ | ⟨g, cap, cur, rfl, hb, hg, hc, _⟩
  · omega
  · exact ⟨g, cap, rfl, hb, (Array.getElem?_eq_some_iff.1 hg).1, hc⟩
theorem own_cap {w : World} {base : Nat} {e : TypeId} {sz n : Nat} {v : Value} {xs : List Value} (h : w.ownsRow base e sz v n xs) : ∃ A c, v = .slice A n c ∧ n ≤ c := by
  rcases h.2 with ⟨rfl, rfl⟩ | ⟨g, cap, cur, rfl, hb, hg, hc, _⟩
  · exact ⟨none, 0, rfl, Nat.le_refl _⟩
  · exact ⟨_, cap, rfl, hc⟩
theorem reps_flat {α : Type} {R : α → List Value → Prop} {enc : α → List Value} {sz : Nat} (hl : ∀ x, (enc x).length = sz) (xs : List α) (hR : ∀ x ∈ xs, R x (enc x)) : Reps R sz xs (xs.flatMap enc) :=
  ⟨flat_len hl xs, fun j p hp => by rw [flat_seg hl hp]; exact hR p (List.mem_of_getElem? hp)⟩
theorem kSlot_mk (w : World) (x : Slot) : kSlot.K w x (encS x) := ⟨[.string x.text], [.int .i64 x.uses], rfl, rfl, rfl⟩

/-- A row of slots of one's own. -/
def OwnS (w : World) (base : Nat) (v : Value) (s : List Slot) : Prop := w.ownsRow base 100 2 v s.length (s.flatMap encS)
theorem OwnS.reads {w : World} {base : Nat} {v : Value} {s : List Slot} (h : OwnS w base v s) : ∃ A c, v = .slice A s.length c ∧ s.length ≤ c ∧ kSlot.C w A s.length s := by
  obtain ⟨A, c, e, hr⟩ := own_reads_row h (reps_flat encS_len s fun x _ => kSlot_mk w x) rfl
  obtain ⟨A', c', e', hc⟩ := own_cap h
  rw [e] at e'
  injection e' with _ _ e3
  exact ⟨A, c, e, e3 ▸ hc, hr⟩
theorem OwnS.bel {w w' : World} {base : Nat} {v : Value} {s : List Slot} (h : OwnS w base v s) (hb : Bel w w') : OwnS w' base v s := pw_own_below h hb
theorem OwnS.kept {w w' : World} {base : Nat} {v : Value} {s : List Slot} {r : Option Nat} (h : OwnS w base v s) (hg : w.grownBy w' r) (hne : v.ownBlock = none ∨ v.ownBlock ≠ r) : OwnS w' base v s := World.ownsRow.kept h hg hne
/-- A row of numbers of one's own. -/
def OwnI (w : World) (base : Nat) (v : Value) (s : List Int) : Prop := w.ownsRow base 3 1 v s.length (s.flatMap encI)
theorem OwnI.reads {w : World} {base : Nat} {v : Value} {s : List Int} (h : OwnI w base v s) : ∃ A c, v = .slice A s.length c ∧ s.length ≤ c ∧ kInt.C w A s.length s := by
  obtain ⟨A, c, e, hr⟩ := own_reads_row h (reps_flat (R := kInt.K w) encI_len s fun x _ => rfl) rfl
  obtain ⟨A', c', e', hc⟩ := own_cap h
  rw [e] at e'
  injection e' with _ _ e3
  exact ⟨A, c, e, e3 ▸ hc, hr⟩

theorem reps_eq {α : Type} {R : α → List Value → Prop} {enc : α → List Value} {sz : Nat} (hl : ∀ x, (enc x).length = sz) {xs : List α} {cs : List Value} (h : Reps R sz xs cs) (hR : ∀ x c, R x c → c = enc x) : cs = xs.flatMap enc := by
  apply List.ext_getElem?
  intro k
  by_cases hs : sz = 0
  · have h1 := h.1
    have h2 := flat_len hl xs
    rw [hs, Nat.mul_zero] at h1 h2
    rw [List.length_eq_zero_iff.1 h1, List.length_eq_zero_iff.1 h2]
  · by_cases hk : k < xs.length * sz
    · obtain ⟨x, hx⟩ := getQ (show k / sz < xs.length by rw [Nat.div_lt_iff_lt_mul (by omega)]; exact hk)
      have hj : k % sz < sz := Nat.mod_lt _ (by omega)
      have e : k = k / sz * sz + k % sz := by rw [Nat.mul_comm]; exact (Nat.div_add_mod k sz).symm
      have hr := hR _ _ (h.2 _ _ hx)
      have h3 := flat_get hl hx hj
      rw [← e] at h3
      rw [h3, ← hr, List.getElem?_take, if_pos hj, List.getElem?_drop, ← e]
    · rw [List.getElem?_eq_none (by rw [h.1]; omega), List.getElem?_eq_none (by rw [flat_len hl]; omega)]
theorem ownS_of_R {w : World} {base : Nat} {ok : Nat → Prop} {v : Value} {s : List Slot} (h : kSlot.R 100 w base ok v s) : OwnS w base v s := by
  obtain ⟨_, inner, ho, hr⟩ := h
  have := reps_eq encS_len hr (fun x c hc => by obtain ⟨_, _, rfl, rfl, rfl⟩ := hc; rfl)
  rw [this] at ho
  exact ho
theorem ownI_of_R {w : World} {base : Nat} {ok : Nat → Prop} {v : Value} {s : List Int} (h : kInt.R 3 w base ok v s) : OwnI w base v s := by
  obtain ⟨_, inner, ho, hr⟩ := h
  have := reps_eq encI_len hr (fun x c hc => hc)
  rw [this] at ho
  exact ho
theorem R_ownS {w : World} {base : Nat} {v : Value} {s : List Slot} (h : OwnS w base v s) : kSlot.R 100 w base (fun _ => True) v s :=
  ⟨fun _ _ => trivial, _, h, reps_flat encS_len s fun x _ => ⟨[.string x.text], [.int .i64 x.uses], rfl, rfl, rfl⟩⟩
theorem R_ownI {w : World} {base : Nat} {v : Value} {s : List Int} (h : OwnI w base v s) : kInt.R 3 w base (fun _ => True) v s :=
  ⟨fun _ _ => trivial, _, h, reps_flat encI_len s fun x _ => rfl⟩
theorem own_empty (w : World) (base : Nat) (e : TypeId) (sz : Nat) (hb : base ≤ w.heap.size) : (w.alloc (.cells #[] e)).ownsRow base e sz (.slice (some ⟨w.heap.size, 0, none⟩) 0 0) 0 [] := by
  have := World.ownsRow_lit (base := base) (e := e) (size := sz) w #[] 0 hb (by simp) (by simp)
  exact this
theorem R_emptyS (w : World) (base : Nat) (hb : base ≤ w.heap.size) : kSlot.R 100 (w.alloc (.cells #[] 100)) base (fun _ => True) (.slice (some ⟨w.heap.size, 0, none⟩) 0 0) [] := R_ownS (own_empty w base _ _ hb)
theorem R_emptyI (w : World) (base : Nat) (hb : base ≤ w.heap.size) : kInt.R 3 (w.alloc (.cells #[] 3)) base (fun _ => True) (.slice (some ⟨w.heap.size, 0, none⟩) 0 0) [] := R_ownI (own_empty w base _ _ hb)
theorem info_int : (Try.prog.info? 3).map (fun i => (i.zero, i.size, i.bytes)) = some (some (.int .i64 0), 1, 8) := by kernel_rfl
theorem info_slot : (Try.prog.info? 100).map (fun i => (i.zero, i.size, i.bytes)) = some (some (.agg #[.string ⟨#[]⟩, .int .i64 0]), 2, 24) := by kernel_rfl
theorem info_vol : (Try.prog.info? 43).map (fun i => (i.zero, i.size, i.bytes)) = some (some (.agg #[.string ⟨#[]⟩, .slice none 0 0]), 2, 40) := by kernel_rfl
end Go.Proofs.Ytpobgjkmjlmafaa

/- Contracts of the program's and the reference's functions, and the plain laws behind them: part 6 of 12. -/
import Derived.Test.YtccllgpaafgjaaaGreatS1
import Derived.Test.YtccllgpaafgjaaaGreatS2
import Derived.Test.YtccllgpaafgjaaaGreatS3
import Derived.Test.YtccllgpaafgjaaaGreatS5
set_option linter.unusedVariables false
set_option linter.unusedSimpArgs false

namespace Go.Proofs.YtccllgpaafgjaaaGreat
open Go.RowKit Go.Proofs.YtccllgpaafgjaaaGreatW.PrintWords Go.Proofs.YtccllgpaafgjaaaGreatW.PrintLast
abbrev kByte : Kd Int := Kd.int .u8
structure Rd (w : World) (rb k : Nat) : Prop where
  h : ∃ (A : Option Addr) (c : Nat) (bs : List Int) (p : Nat), Blk w rb #[.slice A bs.length c, .int .i64 p] 164 ∧ kByte.C w A bs.length bs ∧ (∀ x ∈ bs, 0 ≤ x ∧ x ≤ 255) ∧ bs.length ≤ 2000 ∧ p ≤ k ∧ ∀ ad, A = some ad → ad.block < rb
theorem Rd.lt {w : World} {rb k : Nat} (h : Rd w rb k) : rb < w.heap.size := by
 obtain ⟨_, _, _, _, hb, _⟩ := h.h
 exact hb.lt
theorem Rd.more {w : World} {rb k k' : Nat} (h : Rd w rb k) (hk : k ≤ k') : Rd w rb k' := by
 obtain ⟨A, c, bs, p, h1, h2, h3, h4, h5, h6⟩ := h.h
 exact ⟨⟨A, c, bs, p, h1, h2, h3, h4, Nat.le_trans h5 hk, h6⟩⟩
theorem Rd.bel {w w' : World} {rb k : Nat} (h : Rd w rb k) (hb : Bel w w') : Rd w' rb k := by
 obtain ⟨A, c, bs, p, h1, h2, h3, h4, h5, h6⟩ := h.h
 exact ⟨⟨A, c, bs, p, h1.bel hb, Kd.C_below h2 hb, h3, h4, h5, h6⟩⟩
def Drawn (rb k d : Nat) (V : Value → Prop) (w : World) (e : Ending) (w' : World) : Prop := ∃ v, e = .returned v ∧ V v ∧ Rd w' rb (k + d) ∧ w.grownBy w' (some rb)
theorem add_block (ad : Addr) (n : Nat) : (ad.add n).block = ad.block := by unfold Addr.add; split <;> rfl
theorem byte_kept {w w' : World} {rb : Nat} {A : Option Addr} {n : Nat} {xs : List Int} (h : kByte.C w A n xs) (hg : w.grownBy w' (some rb)) (hA : ∀ ad, A = some ad → ad.block < rb) : kByte.C w' A n xs :=
 ⟨h.1, h.2.1, fun h0 => by
  obtain ⟨ad, e, hh⟩ := h.2.2 h0
  refine ⟨ad, e, fun j p hj => ?_⟩
  obtain ⟨c, h1, h2, h3⟩ := hh j p hj
  refine ⟨c, h1, h2, fun i u hu => ?_⟩
  refine World.grownBy.cell hg (h3 i u hu) ?_
  rw [add_block]
  intro he
  have := hA ad e
  injection he with he
  omega⟩
def PickV (n : Int) (v : Value) : Prop := ∃ r : Int, v = .int .i64 r ∧ 0 ≤ r ∧ (1 ≤ n → r < n) ∧ (n < 1 → r = 0)
end Go.Proofs.YtccllgpaafgjaaaGreat

/- Contracts of the program's and the reference's functions, and the plain laws behind them: part 6 of 13. -/
import Derived.Test.YtljfoglilggkjaaGreatM1
import Derived.Test.YtljfoglilggkjaaGreatM2
import Derived.Test.YtljfoglilggkjaaGreatM3
import Derived.Test.YtljfoglilggkjaaGreatM5
set_option linter.unusedVariables false
set_option linter.unusedSimpArgs false
set_option maxHeartbeats 64000000
set_option maxRecDepth 10000
namespace Go.Proofs.YtljfoglilggkjaaGreat
open Go.RowKit Go.Proofs.YtljfoglilggkjaaGreatW.PrintWords Go.Proofs.YtljfoglilggkjaaGreatW.PrintLast
abbrev kByte : Kd Int := Kd.int .u8
theorem at_byte {w : World} {A : Option Addr} {n : Nat} {xs : List Int} (h : kByte.C w A n xs) {i : Nat} {x : Int} (hx : xs[i]? = some x) : ∃ ad, A = some ad ∧ w.cell? (ad.add i) = some (.int .u8 x) := by
 have hl := h.1 ▸ ltQ hx
 obtain ⟨ad, e, hc⟩ := Kd.at_int h i (by omega) (by omega)
 have he : rd xs (i : Int) = x := by unfold rd; rw [List.getD_eq_getElem?_getD, Int.toNat_natCast, hx]; rfl
 rw [he] at hc
 exact ⟨ad, e, hc⟩
structure Rd (w : World) (rb k : Nat) : Prop where
  h : ∃ (A : Option Addr) (c : Nat) (bs : List Int) (p : Nat), Blk w rb #[.slice A bs.length c, .int .i64 p] 103 ∧ kByte.C w A bs.length bs ∧ (∀ x ∈ bs, 0 ≤ x ∧ x ≤ 255) ∧ bs.length ≤ 2000 ∧ p ≤ k ∧ ∀ ad, A = some ad → ad.block < rb
theorem Rd.lt {w : World} {rb k : Nat} (h : Rd w rb k) : rb < w.heap.size := by
 obtain ⟨_, _, _, _, hb, _⟩ := h.h
 exact hb.lt
theorem Rd.more {w : World} {rb k k' : Nat} (h : Rd w rb k) (hk : k ≤ k') : Rd w rb k' := by
 obtain ⟨A, c, bs, p, h1, h2, h3, h4, h5, h6⟩ := h.h
 exact ⟨⟨A, c, bs, p, h1, h2, h3, h4, Nat.le_trans h5 hk, h6⟩⟩
theorem Rd.bel {w w' : World} {rb k : Nat} (h : Rd w rb k) (hb : Bel w w') : Rd w' rb k := by
 obtain ⟨A, c, bs, p, h1, h2, h3, h4, h5, h6⟩ := h.h
 exact ⟨⟨A, c, bs, p, h1.bel hb, Kd.C_below h2 hb, h3, h4, h5, h6⟩⟩
def Drawn (rb k d : Nat) (V : Value → Prop) (w : World) (e : Ending) (w' : World) : Prop := ∃ v, e = .returned v ∧ V v ∧ Rd w' rb (k + d) ∧ w.grownBy w' (some rb)
theorem add_block (ad : Addr) (n : Nat) : (ad.add n).block = ad.block := by unfold Addr.add; split <;> rfl
theorem byte_kept {w w' : World} {rb : Nat} {A : Option Addr} {n : Nat} {xs : List Int} (h : kByte.C w A n xs) (hg : w.grownBy w' (some rb)) (hA : ∀ ad, A = some ad → ad.block < rb) : kByte.C w' A n xs :=
 ⟨h.1, h.2.1, fun h0 => by
  obtain ⟨ad, e, hh⟩ := h.2.2 h0
  refine ⟨ad, e, fun j p hj => ?_⟩
  obtain ⟨c, h1, h2, h3⟩ := hh j p hj
  refine ⟨c, h1, h2, fun i u hu => ?_⟩
  refine World.grownBy.cell hg (h3 i u hu) ?_
  rw [add_block]
  intro he
  have := hA ad e
  injection he with he
  omega⟩
def PickV (n : Int) (v : Value) : Prop := ∃ r : Int, v = .int .i64 r ∧ 0 ≤ r ∧ (1 ≤ n → r < n) ∧ (n < 1 → r = 0)
theorem pick_val (x n : Int) (h : 1 ≤ n) : PickV n (.int .i64 (x % n)) := ⟨_, rfl, Int.emod_nonneg _ (by omega), fun _ => Int.emod_lt_of_pos _ (by omega), fun h => by omega⟩
theorem wrap_nat {x : Int} (h0 : 0 ≤ x) (h1 : x ≤ 4611686018427387904) : ∃ m : Nat, wrap64 x = m ∧ (m : Int) = x := ⟨x.toNat, by unfold wrap64; omega, by omega⟩
theorem tmod_nat {a : Nat} {n : Nat} (hn : 0 < n) : ∃ m : Nat, (a : Int).tmod (n : Int) = m ∧ m < n := ⟨a % n, by rw [Int.tmod_eq_emod_of_nonneg (by omega)]; simp, Nat.mod_lt _ hn⟩
theorem tdiv_nat {a : Nat} {n : Nat} : ∃ m : Nat, (a : Int).tdiv (n : Int) = m ∧ m ≤ a := ⟨a / n, by rw [Int.tdiv_eq_ediv_of_nonneg (by omega)]; simp, Nat.div_le_self _ _⟩
theorem bits_xor_i64_nat (a b : Nat) (ha : a < 4611686018427387904) (hb : b < 4611686018427387904) :
  bits .xor .i64 (a : Int) (b : Int) = ((a ^^^ b : Nat) : Int) := by
 have hx : a ^^^ b < 2 ^ 62 := Nat.xor_lt_two_pow (by omega) (by omega)
 have h1 : (BitVec.ofInt 64 (a : Int)).toNat = a := by
  rw [BitVec.ofInt_natCast, BitVec.toNat_ofNat]; exact Nat.mod_eq_of_lt (by omega)
 have h2 : (BitVec.ofInt 64 (b : Int)).toNat = b := by
  rw [BitVec.ofInt_natCast, BitVec.toNat_ofNat]; exact Nat.mod_eq_of_lt (by omega)
 show IntKind.i64.wrap ((BitVec.ofInt 64 (a : Int) ^^^ BitVec.ofInt 64 (b : Int)).toNat : Int) = _
 rw [BitVec.toNat_xor, h1, h2]
 rw [IntKind.wrap_i64]
 omega
theorem pick_last (m : Nat) (n : Int) (h : 1 ≤ n) (hm : m < 4611686018427387904) : PickV n (.int .i64 ((bits BinOp.xor IntKind.i64 (m : Int) ((m : Int) / 64)).tmod n)) := by
 rw [show ((m : Int) / 64) = ((m / 64 : Nat) : Int) by simp, bits_xor_i64_nat _ _ hm (by omega), Int.tmod_eq_emod_of_nonneg (by omega)]
 exact pick_val _ n h
theorem wrap_id {x : Int} (h0 : 0 ≤ x) (h1 : x ≤ 4611686018427387904) : wrap64 x = x := by unfold wrap64; omega
theorem pick_c {w : World} {rb k : Nat} (h : Rd w rb k) (hk : k ≤ 1099511627776) (n : Int) (hn : n ≤ 1099511627776) :
  Calls Tryz.prog 36 #[.pointer (some ⟨rb, 0, none⟩), .int .i64 n] w (Drawn rb k 1 (PickV n) w) := by
 obtain ⟨A, c, bs, p, hB, hC, hb, hl, hp, hA⟩ := h.h
 obtain ⟨q0, q1, f0, f1, z⟩ := k2f hB
 have hB2 : Blk (w.setCell ⟨rb, 1, none⟩ (.int .i64 ((p : Int) + 1))) rb #[.slice A bs.length c, .int .i64 ((p : Int) + 1)] 103 := hB.set 1 (.int .i64 ((p : Int) + 1)) rfl
 have hg : w.grownBy (w.setCell ⟨rb, 1, none⟩ (.int .i64 ((p : Int) + 1))) (some rb) := grown_setCell w rb 1 _
 have hR : Rd (w.setCell ⟨rb, 1, none⟩ (.int .i64 ((p : Int) + 1))) rb (k + 1) := ⟨⟨A, c, bs, p + 1, hB2, byte_kept hC hg hA, hb, hl, by omega, hA⟩⟩
 have HR := Lib.hid (And.intro hR hg)
 have HQ := Lib.hid (And.intro (hB2.cell 0) (hB2.cell 1))
 have HC := Lib.hid (byte_kept hC hg hA)
 have HBB := Lib.hid hb
 have hp2 : (p : Int) ≤ 1099511627776 := by omega
 clear h hB hC hb hA hB2 hg hR
 by_cases h1 : n < 1
 ·go_enter Tryz.func36, Tryz.ntmps36
  go_wp2
  go_ret
  exact ⟨_, rfl, ⟨0, rfl, by omega, by omega, fun _ => rfl⟩, HR.out.1, HR.out.2⟩
 ·by_cases h2 : bs.length = 0
  ·have h2' : ((bs.length : Int) == 0) = true := beq_iff_eq.2 (by omega)
   go_enter Tryz.func36, Tryz.ntmps36
   go_wp2
   go_ret
   exact ⟨_, rfl, ⟨0, rfl, by omega, by omega, fun _ => rfl⟩, HR.out.1, HR.out.2⟩
  ·by_cases h3 : p < bs.length
   ·obtain ⟨x, hx⟩ := getQ h3
    have hxb := HBB.out x (List.mem_of_getElem? hx)
    have h2' : ((bs.length : Int) == 0) = false := beq_eq_false_iff_ne.2 (by omega)
    obtain ⟨ad, rfl, hc⟩ := at_byte HC.out hx
    clear hx
    go_enter Tryz.func36, Tryz.ntmps36
    go_wp2
    go_ret
    exact ⟨_, rfl, pick_val x n (by omega), HR.out.1, HR.out.2⟩
   ·have hl1 : 0 < bs.length := by omega
    have hl1' : (0 : Int) < (bs.length : Int) := by omega
    obtain ⟨i1, e1, hi1⟩ := tmod_nat (a := p) hl1
    obtain ⟨a1, e2, ha1⟩ := wrap_nat (x := (p : Int) * 7) (by omega) (by omega)
    obtain ⟨a2, e3, ha2⟩ := wrap_nat (x := (a1 : Int) + 3) (by omega) (by omega)
    obtain ⟨i2, e4, hi2⟩ := tmod_nat (a := a2) hl1
    obtain ⟨x, hx⟩ := getQ hi1
    obtain ⟨y, hy⟩ := getQ hi2
    have hxb := HBB.out x (List.mem_of_getElem? hx)
    have hyb := HBB.out y (List.mem_of_getElem? hy)
    obtain ⟨ad, rfl, hc⟩ := at_byte HC.out hx
    obtain ⟨ad', e', hd⟩ := at_byte HC.out hy
    obtain rfl := Option.some.inj e'
    have h2' : ((bs.length : Int) == 0) = false := beq_eq_false_iff_ne.2 (by omega)
    obtain ⟨b1, e5, hb1⟩ := wrap_nat (x := x * 131) (by omega) (by omega)
    obtain ⟨b2, e6, hb2⟩ := wrap_nat (x := y * 1117) (by omega) (by omega)
    obtain ⟨b3, e7, hb3⟩ := wrap_nat (x := (b1 : Int) + b2) (by omega) (by omega)
    obtain ⟨b4, e8, hb4⟩ := wrap_nat (x := (p : Int) * 29) (by omega) (by omega)
    obtain ⟨b5, e9, hb5⟩ := wrap_nat (x := (b3 : Int) + b4) (by omega) (by omega)
    obtain ⟨d1, e10, hd1⟩ := tdiv_nat (a := p) (n := bs.length)
    obtain ⟨d2, e11, hd2⟩ := wrap_nat (x := (d1 : Int) * 53) (by omega) (by omega)
    obtain ⟨b6, e12, hb6⟩ := wrap_nat (x := (b5 : Int) + d2) (by omega) (by omega)
    have hb6u : (b6 : Int) ≤ 1152921504606846976 := by omega
    have ed := wrap_id (x := (d1 : Int)) (by omega) (by omega)
    have HED := Lib.hid ed
    have ex := wrap_id (x := x) (by omega) (by omega)
    have ey := wrap_id (x := y) (by omega) (by omega)
    have HE1 := Lib.hid e1
    have HE2 := Lib.hid (And.intro e2 e3)
    have HE3 := Lib.hid (And.intro e4 (And.intro e5 e6))
    have HE4 := Lib.hid (And.intro e7 (And.intro e8 e9))
    have HE5 := Lib.hid (And.intro e10 (And.intro e11 e12))
    have HEX := Lib.hid (And.intro ex ey)
    have hi1' : (i1 : Int) < (bs.length : Int) := by omega
    have hi2' : (i2 : Int) < (bs.length : Int) := by omega
    clear hx hy e' e1 e2 e3 e4 e5 e6 e7 e8 e9 e10 e11 e12 ha1 ha2 hb1 hb2 hb3 hb4 hb5 hb6 hd1 hd2 ex ey ed
    go_enter Tryz.func36, Tryz.ntmps36
    go_wp2
    clear q0 q1
    obtain ⟨q0, q1⟩ := HQ.out
    simp at q0 q1
    have e1 := HE1.out
    obtain ⟨e2, e3⟩ := HE2.out
    obtain ⟨e4, e5, e6⟩ := HE3.out
    obtain ⟨e7, e8, e9⟩ := HE4.out
    obtain ⟨e10, e11, e12⟩ := HE5.out
    obtain ⟨ex, ey⟩ := HEX.out
    have ed := HED.out
    refine start_ (n := 46) (S := fun w' => w'.cell? ⟨rb, 0, none⟩ = some (.slice (some ad) bs.length c) ∧ w'.cell? (ad.add i1) = some (.int .u8 x) ∧ w'.cell? (ad.add i2) = some (.int .u8 y)) (ds := []) #[F, F, F, F, F, F, F, F, F, F, F, F, F, F, F, F, F, F, F, F, F, F, F, F, F, F, F, F, F, F, F, F, F, F, F, F, F, F, F, F, F, F, F, F, F, F] (by kernel_rfl) rfl rfl ⟨q0, hc, hd⟩ (fun hHeld => ?_)
    refine py 0 (some 47) #[T, F, F, F, F, F, F, F, F, F, F, F, F, F, F, F, F, F, F, F, F, F, F, F, F, F, F, F, F, F, F, F, F, F, F, F, F, F, F, F, F, F, F, F, F, F] ?_
    refine py 1 (some 48) #[T, T, F, F, F, F, F, F, F, F, F, F, F, F, F, F, F, F, F, F, F, F, F, F, F, F, F, F, F, F, F, F, F, F, F, F, F, F, F, F, F, F, F, F, F, F] ?_
    refine py 2 (some 49) #[T, T, T, F, F, F, F, F, F, F, F, F, F, F, F, F, F, F, F, F, F, F, F, F, F, F, F, F, F, F, F, F, F, F, F, F, F, F, F, F, F, F, F, F, F, F] ?_
    refine py 4 (some 51) #[T, T, T, F, T, F, F, F, F, F, F, F, F, F, F, F, F, F, F, F, F, F, F, F, F, F, F, F, F, F, F, F, F, F, F, F, F, F, F, F, F, F, F, F, F, F] ?_
    refine py 5 (some 52) #[T, T, T, F, T, T, F, F, F, F, F, F, F, F, F, F, F, F, F, F, F, F, F, F, F, F, F, F, F, F, F, F, F, F, F, F, F, F, F, F, F, F, F, F, F, F] ?_
    refine py 6 (some 53) #[T, T, T, F, T, T, T, F, F, F, F, F, F, F, F, F, F, F, F, F, F, F, F, F, F, F, F, F, F, F, F, F, F, F, F, F, F, F, F, F, F, F, F, F, F, F] ?_
    refine py 7 (some 54) #[T, T, T, F, T, T, T, T, F, F, F, F, F, F, F, F, F, F, F, F, F, F, F, F, F, F, F, F, F, F, F, F, F, F, F, F, F, F, F, F, F, F, F, F, F, F] ?_
    refine py 15 (some 62) #[T, T, T, F, T, T, T, T, F, F, F, F, F, F, F, T, F, F, F, F, F, F, F, F, F, F, F, F, F, F, F, F, F, F, F, F, F, F, F, F, F, F, F, F, F, F] ?_
    refine py 16 (some 63) #[T, T, T, F, T, T, T, T, F, F, F, F, F, F, F, T, T, F, F, F, F, F, F, F, F, F, F, F, F, F, F, F, F, F, F, F, F, F, F, F, F, F, F, F, F, F] ?_
    refine py 17 (some 64) #[T, T, T, F, T, T, T, T, F, F, F, F, F, F, F, T, T, T, F, F, F, F, F, F, F, F, F, F, F, F, F, F, F, F, F, F, F, F, F, F, F, F, F, F, F, F] ?_
    refine py 19 (some 66) #[T, T, T, F, T, T, T, T, F, F, F, F, F, F, F, T, T, T, F, T, F, F, F, F, F, F, F, F, F, F, F, F, F, F, F, F, F, F, F, F, F, F, F, F, F, F] ?_
    refine py 20 (some 67) #[T, T, T, F, T, T, T, T, F, F, F, F, F, F, F, T, T, T, F, T, T, F, F, F, F, F, F, F, F, F, F, F, F, F, F, F, F, F, F, F, F, F, F, F, F, F] ?_
    refine py 21 (some 68) #[T, T, T, F, T, T, T, T, F, F, F, F, F, F, F, T, T, T, F, T, T, T, F, F, F, F, F, F, F, F, F, F, F, F, F, F, F, F, F, F, F, F, F, F, F, F] ?_
    refine py 22 (some 69) #[T, T, T, F, T, T, T, T, F, F, F, F, F, F, F, T, T, T, F, T, T, T, T, F, F, F, F, F, F, F, F, F, F, F, F, F, F, F, F, F, F, F, F, F, F, F] ?_
    refine py 23 (some 70) #[T, T, T, F, T, T, T, T, F, F, F, F, F, F, F, T, T, T, F, T, T, T, T, T, F, F, F, F, F, F, F, F, F, F, F, F, F, F, F, F, F, F, F, F, F, F] ?_
    refine py 24 (some 71) #[T, T, T, F, T, T, T, T, F, F, F, F, F, F, F, T, T, T, F, T, T, T, T, T, T, F, F, F, F, F, F, F, F, F, F, F, F, F, F, F, F, F, F, F, F, F] ?_
    refine py 33 (some 80) #[T, T, T, F, T, T, T, T, F, F, F, F, F, F, F, T, T, T, F, T, T, T, T, T, T, F, F, F, F, F, F, F, F, T, F, F, F, F, F, F, F, F, F, F, F, F] ?_
    refine py 34 (some 81) #[T, T, T, F, T, T, T, T, F, F, F, F, F, F, F, T, T, T, F, T, T, T, T, T, T, F, F, F, F, F, F, F, F, T, T, F, F, F, F, F, F, F, F, F, F, F] ?_
    refine py 36 (some 83) #[T, T, T, F, T, T, T, T, F, F, F, F, F, F, F, T, T, T, F, T, T, T, T, T, T, F, F, F, F, F, F, F, F, T, T, F, T, F, F, F, F, F, F, F, F, F] ?_
    refine py 37 (some 84) #[T, T, T, F, T, T, T, T, F, F, F, F, F, F, F, T, T, T, F, T, T, T, T, T, T, F, F, F, F, F, F, F, F, T, T, F, T, T, F, F, F, F, F, F, F, F] ?_
    refine py 38 (some 85) #[T, T, T, F, T, T, T, T, F, F, F, F, F, F, F, T, T, T, F, T, T, T, T, T, T, F, F, F, F, F, F, F, F, T, T, F, T, T, T, F, F, F, F, F, F, F] ?_
    refine py 39 (some 86) #[T, T, T, F, T, T, T, T, F, F, F, F, F, F, F, T, T, T, F, T, T, T, T, T, T, F, F, F, F, F, F, F, F, T, T, F, T, T, T, T, F, F, F, F, F, F] ?_
    refine ty 3 (some 50) #[T, T, T, T, T, T, T, T, F, F, F, F, F, F, F, T, T, T, F, T, T, T, T, T, T, F, F, F, F, F, F, F, F, T, T, F, T, T, T, T, F, F, F, F, F, F] (hS := hHeld) (hz := by rintro w' ⟨s0, s1, s2⟩; go_simp; with_reducible rfl) (h := ?_)
    refine ty 8 (some 55) #[T, T, T, T, T, T, T, T, T, F, F, F, F, F, F, T, T, T, F, T, T, T, T, T, T, F, F, F, F, F, F, F, F, T, T, F, T, T, T, T, F, F, F, F, F, F] (hS := hHeld) (hz := by rintro w' ⟨s0, s1, s2⟩; go_simp; with_reducible rfl) (h := ?_)
    refine py 9 (some 56) #[T, T, T, T, T, T, T, T, T, T, F, F, F, F, F, T, T, T, F, T, T, T, T, T, T, F, F, F, F, F, F, F, F, T, T, F, T, T, T, T, F, F, F, F, F, F] ?_
    refine py 10 (some 57) #[T, T, T, T, T, T, T, T, T, T, T, F, F, F, F, T, T, T, F, T, T, T, T, T, T, F, F, F, F, F, F, F, F, T, T, F, T, T, T, T, F, F, F, F, F, F] ?_
    refine py 11 (some 58) #[T, T, T, T, T, T, T, T, T, T, T, T, F, F, F, T, T, T, F, T, T, T, T, T, T, F, F, F, F, F, F, F, F, T, T, F, T, T, T, T, F, F, F, F, F, F] ?_
    refine ty 12 (some 59) #[T, T, T, T, T, T, T, T, T, T, T, T, T, F, F, T, T, T, F, T, T, T, T, T, T, F, F, F, F, F, F, F, F, T, T, F, T, T, T, T, F, F, F, F, F, F] (hS := hHeld) (hz := by rintro w' ⟨s0, s1, s2⟩; go_simp; with_reducible rfl) (h := ?_)
    refine py 13 (some 60) #[T, T, T, T, T, T, T, T, T, T, T, T, T, T, F, T, T, T, F, T, T, T, T, T, T, F, F, F, F, F, F, F, F, T, T, F, T, T, T, T, F, F, F, F, F, F] ?_
    refine py 14 (some 61) #[T, T, T, T, T, T, T, T, T, T, T, T, T, T, T, T, T, T, F, T, T, T, T, T, T, F, F, F, F, F, F, F, F, T, T, F, T, T, T, T, F, F, F, F, F, F] ?_
    refine ty 18 (some 65) #[T, T, T, T, T, T, T, T, T, T, T, T, T, T, T, T, T, T, T, T, T, T, T, T, T, F, F, F, F, F, F, F, F, T, T, F, T, T, T, T, F, F, F, F, F, F] (hS := hHeld) (hz := by rintro w' ⟨s0, s1, s2⟩; go_simp; with_reducible rfl) (h := ?_)
    refine ty 25 (some 72) #[T, T, T, T, T, T, T, T, T, T, T, T, T, T, T, T, T, T, T, T, T, T, T, T, T, T, F, F, F, F, F, F, F, T, T, F, T, T, T, T, F, F, F, F, F, F] (hS := hHeld) (hz := by rintro w' ⟨s0, s1, s2⟩; go_simp; with_reducible rfl) (h := ?_)
    refine py 26 (some 73) #[T, T, T, T, T, T, T, T, T, T, T, T, T, T, T, T, T, T, T, T, T, T, T, T, T, T, T, F, F, F, F, F, F, T, T, F, T, T, T, T, F, F, F, F, F, F] ?_
    refine py 27 (some 74) #[T, T, T, T, T, T, T, T, T, T, T, T, T, T, T, T, T, T, T, T, T, T, T, T, T, T, T, T, F, F, F, F, F, T, T, F, T, T, T, T, F, F, F, F, F, F] ?_
    refine py 28 (some 75) #[T, T, T, T, T, T, T, T, T, T, T, T, T, T, T, T, T, T, T, T, T, T, T, T, T, T, T, T, T, F, F, F, F, T, T, F, T, T, T, T, F, F, F, F, F, F] ?_
    refine ty 29 (some 76) #[T, T, T, T, T, T, T, T, T, T, T, T, T, T, T, T, T, T, T, T, T, T, T, T, T, T, T, T, T, T, F, F, F, T, T, F, T, T, T, T, F, F, F, F, F, F] (hS := hHeld) (hz := by rintro w' ⟨s0, s1, s2⟩; go_simp; with_reducible rfl) (h := ?_)
    refine py 30 (some 77) #[T, T, T, T, T, T, T, T, T, T, T, T, T, T, T, T, T, T, T, T, T, T, T, T, T, T, T, T, T, T, T, F, F, T, T, F, T, T, T, T, F, F, F, F, F, F] ?_
    refine py 31 (some 78) #[T, T, T, T, T, T, T, T, T, T, T, T, T, T, T, T, T, T, T, T, T, T, T, T, T, T, T, T, T, T, T, T, F, T, T, F, T, T, T, T, F, F, F, F, F, F] ?_
    refine py 32 (some 79) #[T, T, T, T, T, T, T, T, T, T, T, T, T, T, T, T, T, T, T, T, T, T, T, T, T, T, T, T, T, T, T, T, T, T, T, F, T, T, T, T, F, F, F, F, F, F] ?_
    refine py 35 (some 82) #[T, T, T, T, T, T, T, T, T, T, T, T, T, T, T, T, T, T, T, T, T, T, T, T, T, T, T, T, T, T, T, T, T, T, T, T, T, T, T, T, F, F, F, F, F, F] ?_
    refine ty 40 (some 87) #[T, T, T, T, T, T, T, T, T, T, T, T, T, T, T, T, T, T, T, T, T, T, T, T, T, T, T, T, T, T, T, T, T, T, T, T, T, T, T, T, T, F, F, F, F, F] (hS := hHeld) (hz := by rintro w' ⟨s0, s1, s2⟩; go_simp; with_reducible rfl) (h := ?_)
    refine py 41 (some 88) #[T, T, T, T, T, T, T, T, T, T, T, T, T, T, T, T, T, T, T, T, T, T, T, T, T, T, T, T, T, T, T, T, T, T, T, T, T, T, T, T, T, T, F, F, F, F] ?_
    refine py 42 (some 89) #[T, T, T, T, T, T, T, T, T, T, T, T, T, T, T, T, T, T, T, T, T, T, T, T, T, T, T, T, T, T, T, T, T, T, T, T, T, T, T, T, T, T, T, F, F, F] ?_
    refine py 43 (some 90) #[T, T, T, T, T, T, T, T, T, T, T, T, T, T, T, T, T, T, T, T, T, T, T, T, T, T, T, T, T, T, T, T, T, T, T, T, T, T, T, T, T, T, T, T, F, F] ?_
    refine py 44 (some 91) #[T, T, T, T, T, T, T, T, T, T, T, T, T, T, T, T, T, T, T, T, T, T, T, T, T, T, T, T, T, T, T, T, T, T, T, T, T, T, T, T, T, T, T, T, T, F] ?_
    refine py 45 (some 6) #[T, T, T, T, T, T, T, T, T, T, T, T, T, T, T, T, T, T, T, T, T, T, T, T, T, T, T, T, T, T, T, T, T, T, T, T, T, T, T, T, T, T, T, T, T, T] ?_
    refine done_ (by kernel_rfl) ?_
    clear hHeld e1 e2 e3 e4 e5 e6 e7 e8 e9 e10 e11 e12 ex ey ed q0 q1 hc hd f0 f1
    go_wp2
    go_ret
    exact ⟨_, rfl, pick_last b6 n (by omega) (by omega), (HR.out.1).bel (Below.refl _ _).drew, grown_tr HR.out.2 (grown_drew _ _)⟩
end Go.Proofs.YtljfoglilggkjaaGreat

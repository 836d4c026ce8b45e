/- Contracts of the program's and the reference's functions, and the plain laws behind them: part 3 of 5. -/
import Derived.Test.YtpobgjkmjlmafaaY2
/- The reader of a code: what l6Open, pick, of leave. -/

namespace Go.Proofs.Ytpobgjkmjlmafaa
open Go.RowKit Go.Proofs.YtpobgjkmjlmafaaW.PrintWords Go.Proofs.YtpobgjkmjlmafaaW.PrintLast
set_option linter.unusedVariables false
set_option linter.unusedSimpArgs false

abbrev kByte : Kd Int := Kd.int .u8
theorem at_byte {w : World} {A : Option Addr} {n : Nat} {xs : List Int} (h : kByte.C w A n xs) {i : Nat} {x : Int} (hx : xs[i]? = some x) : ∃ ad, A = some ad ∧ w.cell? (ad.add i) = some (.int .u8 x) := by
  have hl := h.1 ▸ ltQ hx
  obtain ⟨ad, e, hc⟩ := Kd.at_int h i (by omega) (by omega)
  have he : rd xs (i : Int) = x := by unfold rd; rw [List.getD_eq_getElem?_getD, Int.toNat_natCast, hx]; rfl
  rw [he] at hc
  exact ⟨ad, e, hc⟩
/-- Block rb is a reader that has picked at most k times; its code lies in front of it. -/
structure Rd (w : World) (rb k : Nat) : Prop where
  h : ∃ (A : Option Addr) (c : Nat) (bs : List Int) (p : Nat), Blk w rb #[.slice A bs.length c, .int .i64 p] 133 ∧ kByte.C w A bs.length bs ∧ (∀ x ∈ bs, 0 ≤ x ∧ x ≤ 255) ∧ bs.length ≤ 2000 ∧ p ≤ k ∧ ∀ ad, A = some ad → ad.block < rb
theorem Rd.lt {w : World} {rb k : Nat} (h : Rd w rb k) : rb < w.heap.size := by
  obtain ⟨_, _, _, _, hb, _⟩ := h.h
  exact hb.lt
theorem Rd.more {w : World} {rb k k' : Nat} (h : Rd w rb k) (hk : k ≤ k') : Rd w rb k' := by
  obtain ⟨A, c, bs, p, h1, h2, h3, h4, h5, h6⟩ := h.h
  exact ⟨⟨A, c, bs, p, h1, h2, h3, h4, Nat.le_trans h5 hk, h6⟩⟩
theorem Rd.bel {w w' : World} {rb k : Nat} (h : Rd w rb k) (hb : Bel w w') : Rd w' rb k := by
  obtain ⟨A, c, bs, p, h1, h2, h3, h4, h5, h6⟩ := h.h
  exact ⟨⟨A, c, bs, p, h1.bel hb, Kd.C_below h2 hb, h3, h4, h5, h6⟩⟩
/-- A drawing function: v is told by V; at most d picks; of what was there only the reader has turned. -/
def Drawn (rb k d : Nat) (V : Value → Prop) (w : World) (e : Ending) (w' : World) : Prop := ∃ v, e = .returned v ∧ V v ∧ Rd w' rb (k + d) ∧ w.grownBy w' (some rb)
theorem add_block (ad : Addr) (n : Nat) : (ad.add n).block = ad.block := by unfold Addr.add; split <;> rfl
theorem byte_kept {w w' : World} {rb : Nat} {A : Option Addr} {n : Nat} {xs : List Int} (h : kByte.C w A n xs) (hg : w.grownBy w' (some rb)) (hA : ∀ ad, A = some ad → ad.block < rb) : kByte.C w' A n xs :=
  ⟨h.1, h.2.1, fun h0 => by
    obtain ⟨ad, e, hh⟩ := h.2.2 h0
    refine ⟨ad, e, fun j p hj => ?_⟩
    obtain ⟨c, h1, h2, h3⟩ := hh j p hj
    refine ⟨c, h1, h2, fun i u hu => ?_⟩
    refine World.grownBy.cell hg (h3 i u hu) ?_
    rw [add_block]
    intro he
    have := hA ad e
    injection he with he
    omega⟩
def PickV (n : Int) (v : Value) : Prop := ∃ r : Int, v = .int .i64 r ∧ 0 ≤ r ∧ (1 ≤ n → r < n) ∧ (n < 1 → r = 0)
theorem pick_val (x n : Int) (h : 1 ≤ n) : PickV n (.int .i64 (x % n)) := ⟨_, rfl, Int.emod_nonneg _ (by omega), fun _ => Int.emod_lt_of_pos _ (by omega), fun h => by omega⟩
theorem wrap_nat {x : Int} (h0 : 0 ≤ x) (h1 : x ≤ 4611686018427387904) : ∃ m : Nat, wrap64 x = m ∧ (m : Int) = x := ⟨x.toNat, by unfold wrap64; omega, by omega⟩
theorem tmod_nat {a : Nat} {n : Nat} (hn : 0 < n) : ∃ m : Nat, (a : Int).tmod (n : Int) = m ∧ m < n := ⟨a % n, by rw [Int.tmod_eq_emod_of_nonneg (by omega)]; simp, Nat.mod_lt _ hn⟩
theorem tdiv_nat {a : Nat} {n : Nat} : ∃ m : Nat, (a : Int).tdiv (n : Int) = m ∧ m ≤ a := ⟨a / n, by rw [Int.tdiv_eq_ediv_of_nonneg (by omega)]; simp, Nat.div_le_self _ _⟩
theorem bits_xor_i64_nat (a b : Nat) (ha : a < 4611686018427387904) (hb : b < 4611686018427387904) :
    bits .xor .i64 (a : Int) (b : Int) = ((a ^^^ b : Nat) : Int) := by
  have hx : a ^^^ b < 2 ^ 62 := Nat.xor_lt_two_pow (by omega) (by omega)
  have h1 : (BitVec.ofInt 64 (a : Int)).toNat = a := by
    rw [BitVec.ofInt_natCast, BitVec.toNat_ofNat]; exact Nat.mod_eq_of_lt (by omega)
  have h2 : (BitVec.ofInt 64 (b : Int)).toNat = b := by
    rw [BitVec.ofInt_natCast, BitVec.toNat_ofNat]; exact Nat.mod_eq_of_lt (by omega)
  show IntKind.i64.wrap ((BitVec.ofInt 64 (a : Int) ^^^ BitVec.ofInt 64 (b : Int)).toNat : Int) = _
  rw [BitVec.toNat_xor, h1, h2]
  rw [IntKind.wrap_i64]
  omega
theorem pick_last (m : Nat) (n : Int) (h : 1 ≤ n) (hm : m < 4611686018427387904) : PickV n (.int .i64 ((bits BinOp.xor IntKind.i64 (m : Int) ((m : Int) / 64)).tmod n)) := by
  rw [show ((m : Int) / 64) = ((m / 64 : Nat) : Int) by simp, bits_xor_i64_nat _ _ hm (by omega), Int.tmod_eq_emod_of_nonneg (by omega)]
  exact pick_val _ n h
theorem wrap_id {x : Int} (h0 : 0 ≤ x) (h1 : x ≤ 4611686018427387904) : wrap64 x = x := by unfold wrap64; omega
set_option maxHeartbeats 4000000 in
set_option maxRecDepth 10000 in
theorem pick_c {w : World} {rb k : Nat} (h : Rd w rb k) (hk : k ≤ 1099511627776) (n : Int) (hn : n ≤ 1099511627776) :
    Calls Try.prog 96 #[.pointer (some ⟨rb, 0, none⟩), .int .i64 n] w (Drawn rb k 1 (PickV n) w) := by
  obtain ⟨A, c, bs, p, hB, hC, hb, hl, hp, hA⟩ := h.h
  have q0 := hB.cell 0
  have q1 := hB.cell 1
  have f0 := hB.free 0
  have f1 := hB.free 1
  have z := hB.lt
  simp at q0 q1
  have hB2 : Blk (w.setCell ⟨rb, 1, none⟩ (.int .i64 ((p : Int) + 1))) rb #[.slice A bs.length c, .int .i64 ((p : Int) + 1)] 133 := hB.set 1 (.int .i64 ((p : Int) + 1)) rfl
  have hg : w.grownBy (w.setCell ⟨rb, 1, none⟩ (.int .i64 ((p : Int) + 1))) (some rb) := grown_setCell w rb 1 _
  have hR : Rd (w.setCell ⟨rb, 1, none⟩ (.int .i64 ((p : Int) + 1))) rb (k + 1) := ⟨⟨A, c, bs, p + 1, hB2, byte_kept hC hg hA, hb, hl, by omega, hA⟩⟩
  have HR := Lib.hid (And.intro hR hg)
  have HQ := Lib.hid (And.intro (hB2.cell 0) (hB2.cell 1))
  have HC := Lib.hid (byte_kept hC hg hA)
  have HBB := Lib.hid hb
  have hp2 : (p : Int) ≤ 1099511627776 := by omega
  clear h hB hC hb hA hB2 hg hR
  by_cases h1 : n < 1
  · go_enter Try.func96, Try.ntmps96
    go_wp2
    go_ret
    exact ⟨_, rfl, ⟨0, rfl, by omega, by omega, fun _ => rfl⟩, HR.out.1, HR.out.2⟩
  · by_cases h2 : bs.length = 0
    · have h2' : ((bs.length : Int) == 0) = true := beq_iff_eq.2 (by omega)
      go_enter Try.func96, Try.ntmps96
      go_wp2
      go_ret
      exact ⟨_, rfl, ⟨0, rfl, by omega, by omega, fun _ => rfl⟩, HR.out.1, HR.out.2⟩
    · by_cases h3 : p < bs.length
      · obtain ⟨x, hx⟩ := getQ h3
        have hxb := HBB.out x (List.mem_of_getElem? hx)
        have h2' : ((bs.length : Int) == 0) = false := beq_eq_false_iff_ne.2 (by omega)
        obtain ⟨ad, rfl, hc⟩ := at_byte HC.out hx
        clear hx
        go_enter Try.func96, Try.ntmps96
        go_wp2
        go_ret
        exact ⟨_, rfl, pick_val x n (by omega), HR.out.1, HR.out.2⟩
      · have hl1 : 0 < bs.length := by omega
        have hl1' : (0 : Int) < (bs.length : Int) := by omega
        obtain ⟨i1, e1, hi1⟩ := tmod_nat (a := p) hl1
        obtain ⟨a1, e2, ha1⟩ := wrap_nat (x := (p : Int) * 7) (by omega) (by omega)
        obtain ⟨a2, e3, ha2⟩ := wrap_nat (x := (a1 : Int) + 3) (by omega) (by omega)
        obtain ⟨i2, e4, hi2⟩ := tmod_nat (a := a2) hl1
        obtain ⟨x, hx⟩ := getQ hi1
        obtain ⟨y, hy⟩ := getQ hi2
        have hxb := HBB.out x (List.mem_of_getElem? hx)
        have hyb := HBB.out y (List.mem_of_getElem? hy)
        obtain ⟨ad, rfl, hc⟩ := at_byte HC.out hx
        obtain ⟨ad', e', hd⟩ := at_byte HC.out hy
        obtain rfl := Option.some.inj e'
        have h2' : ((bs.length : Int) == 0) = false := beq_eq_false_iff_ne.2 (by omega)
        obtain ⟨b1, e5, hb1⟩ := wrap_nat (x := x * 131) (by omega) (by omega)
        obtain ⟨b2, e6, hb2⟩ := wrap_nat (x := y * 1117) (by omega) (by omega)
        obtain ⟨b3, e7, hb3⟩ := wrap_nat (x := (b1 : Int) + b2) (by omega) (by omega)
        obtain ⟨b4, e8, hb4⟩ := wrap_nat (x := (p : Int) * 29) (by omega) (by omega)
        obtain ⟨b5, e9, hb5⟩ := wrap_nat (x := (b3 : Int) + b4) (by omega) (by omega)
        obtain ⟨d1, e10, hd1⟩ := tdiv_nat (a := p) (n := bs.length)
        obtain ⟨d2, e11, hd2⟩ := wrap_nat (x := (d1 : Int) * 53) (by omega) (by omega)
        obtain ⟨b6, e12, hb6⟩ := wrap_nat (x := (b5 : Int) + d2) (by omega) (by omega)
        have hb6u : (b6 : Int) ≤ 1152921504606846976 := by omega
        have ed := wrap_id (x := (d1 : Int)) (by omega) (by omega)
        have HED := Lib.hid ed
        have ex := wrap_id (x := x) (by omega) (by omega)
        have ey := wrap_id (x := y) (by omega) (by omega)
        have HE1 := Lib.hid e1
        have HE2 := Lib.hid (And.intro e2 e3)
        have HE3 := Lib.hid (And.intro e4 (And.intro e5 e6))
        have HE4 := Lib.hid (And.intro e7 (And.intro e8 e9))
        have HE5 := Lib.hid (And.intro e10 (And.intro e11 e12))
        have HEX := Lib.hid (And.intro ex ey)
        have hi1' : (i1 : Int) < (bs.length : Int) := by omega
        have hi2' : (i2 : Int) < (bs.length : Int) := by omega
        clear hx hy e' e1 e2 e3 e4 e5 e6 e7 e8 e9 e10 e11 e12 ha1 ha2 hb1 hb2 hb3 hb4 hb5 hb6 hd1 hd2 ex ey ed
        go_enter Try.func96, Try.ntmps96
        go_wp2
        clear q0 q1
        obtain ⟨q0, q1⟩ := HQ.out
        simp at q0 q1
        have e1 := HE1.out
        obtain ⟨e2, e3⟩ := HE2.out
        obtain ⟨e4, e5, e6⟩ := HE3.out
        obtain ⟨e7, e8, e9⟩ := HE4.out
        obtain ⟨e10, e11, e12⟩ := HE5.out
        obtain ⟨ex, ey⟩ := HEX.out
        have ed := HED.out
        refine start_ (n := 46) (S := fun w' => w'.cell? ⟨rb, 0, none⟩ = some (.slice (some ad) bs.length c) ∧ w'.cell? (ad.add i1) = some (.int .u8 x) ∧ w'.cell? (ad.add i2) = some (.int .u8 y)) (ds := []) #[false, false, false, false, false, false, false, false, false, false, false, false, false, false, false, false, false, false, false, false, false, false, false, false, false, false, false, false, false, false, false, false, false, false, false, false, false, false, false, false, false, false, false, false, false, false] (by kernel_rfl) rfl rfl ⟨q0, hc, hd⟩ (fun hHeld => ?_)
        refine pure_ (i := 0) (N := some 47) (v := ?_) (a' := ?_) #[true, false, false, false, false, false, false, false, false, false, false, false, false, false, false, false, false, false, false, false, false, false, false, false, false, false, false, false, false, false, false, false, false, false, false, false, false, false, false, false, false, false, false, false, false, false] rfl rfl (by kernel_rfl) (fun _ _ _ h => h) (Or.inl ⟨by rfl, ?_⟩) ?_ ?_
        rotate_left
        · intro w'
          go_simp
          with_reducible rfl
        rotate_left
        · simp only [Act.put, List.setIfInBounds_toArray, List.set_cons_zero, List.set_cons_succ, i64_w, i32_w]
          rfl
        refine pure_ (i := 1) (N := some 48) (v := ?_) (a' := ?_) #[true, true, false, false, false, false, false, false, false, false, false, false, false, false, false, false, false, false, false, false, false, false, false, false, false, false, false, false, false, false, false, false, false, false, false, false, false, false, false, false, false, false, false, false, false, false] rfl rfl (by kernel_rfl) (fun _ _ _ h => h) (Or.inl ⟨by rfl, ?_⟩) ?_ ?_
        rotate_left
        · intro w'
          go_simp
          with_reducible rfl
        rotate_left
        · simp only [Act.put, List.setIfInBounds_toArray, List.set_cons_zero, List.set_cons_succ, i64_w, i32_w]
          rfl
        refine pure_ (i := 2) (N := some 49) (v := ?_) (a' := ?_) #[true, true, true, false, false, false, false, false, false, false, false, false, false, false, false, false, false, false, false, false, false, false, false, false, false, false, false, false, false, false, false, false, false, false, false, false, false, false, false, false, false, false, false, false, false, false] rfl rfl (by kernel_rfl) (fun _ _ _ h => h) (Or.inl ⟨by rfl, ?_⟩) ?_ ?_
        rotate_left
        · intro w'
          go_simp
          with_reducible rfl
        rotate_left
        · simp only [Act.put, List.setIfInBounds_toArray, List.set_cons_zero, List.set_cons_succ, i64_w, i32_w]
          rfl
        refine pure_ (i := 4) (N := some 51) (v := ?_) (a' := ?_) #[true, true, true, false, true, false, false, false, false, false, false, false, false, false, false, false, false, false, false, false, false, false, false, false, false, false, false, false, false, false, false, false, false, false, false, false, false, false, false, false, false, false, false, false, false, false] rfl rfl (by kernel_rfl) (fun _ _ _ h => h) (Or.inl ⟨by rfl, ?_⟩) ?_ ?_
        rotate_left
        · intro w'
          go_simp
          with_reducible rfl
        rotate_left
        · simp only [Act.put, List.setIfInBounds_toArray, List.set_cons_zero, List.set_cons_succ, i64_w, i32_w]
          rfl
        refine pure_ (i := 5) (N := some 52) (v := ?_) (a' := ?_) #[true, true, true, false, true, true, false, false, false, false, false, false, false, false, false, false, false, false, false, false, false, false, false, false, false, false, false, false, false, false, false, false, false, false, false, false, false, false, false, false, false, false, false, false, false, false] rfl rfl (by kernel_rfl) (fun _ _ _ h => h) (Or.inl ⟨by rfl, ?_⟩) ?_ ?_
        rotate_left
        · intro w'
          go_simp
          with_reducible rfl
        rotate_left
        · simp only [Act.put, List.setIfInBounds_toArray, List.set_cons_zero, List.set_cons_succ, i64_w, i32_w]
          rfl
        refine pure_ (i := 6) (N := some 53) (v := ?_) (a' := ?_) #[true, true, true, false, true, true, true, false, false, false, false, false, false, false, false, false, false, false, false, false, false, false, false, false, false, false, false, false, false, false, false, false, false, false, false, false, false, false, false, false, false, false, false, false, false, false] rfl rfl (by kernel_rfl) (fun _ _ _ h => h) (Or.inl ⟨by rfl, ?_⟩) ?_ ?_
        rotate_left
        · intro w'
          go_simp
          with_reducible rfl
        rotate_left
        · simp only [Act.put, List.setIfInBounds_toArray, List.set_cons_zero, List.set_cons_succ, i64_w, i32_w]
          rfl
        refine pure_ (i := 7) (N := some 54) (v := ?_) (a' := ?_) #[true, true, true, false, true, true, true, true, false, false, false, false, false, false, false, false, false, false, false, false, false, false, false, false, false, false, false, false, false, false, false, false, false, false, false, false, false, false, false, false, false, false, false, false, false, false] rfl rfl (by kernel_rfl) (fun _ _ _ h => h) (Or.inl ⟨by rfl, ?_⟩) ?_ ?_
        rotate_left
        · intro w'
          go_simp
          with_reducible rfl
        rotate_left
        · simp only [Act.put, List.setIfInBounds_toArray, List.set_cons_zero, List.set_cons_succ, i64_w, i32_w]
          rfl
        refine pure_ (i := 15) (N := some 62) (v := ?_) (a' := ?_) #[true, true, true, false, true, true, true, true, false, false, false, false, false, false, false, true, false, false, false, false, false, false, false, false, false, false, false, false, false, false, false, false, false, false, false, false, false, false, false, false, false, false, false, false, false, false] rfl rfl (by kernel_rfl) (fun _ _ _ h => h) (Or.inl ⟨by rfl, ?_⟩) ?_ ?_
        rotate_left
        · intro w'
          go_simp
          with_reducible rfl
        rotate_left
        · simp only [Act.put, List.setIfInBounds_toArray, List.set_cons_zero, List.set_cons_succ, i64_w, i32_w]
          rfl
        refine pure_ (i := 16) (N := some 63) (v := ?_) (a' := ?_) #[true, true, true, false, true, true, true, true, false, false, false, false, false, false, false, true, true, false, false, false, false, false, false, false, false, false, false, false, false, false, false, false, false, false, false, false, false, false, false, false, false, false, false, false, false, false] rfl rfl (by kernel_rfl) (fun _ _ _ h => h) (Or.inl ⟨by rfl, ?_⟩) ?_ ?_
        rotate_left
        · intro w'
          go_simp
          with_reducible rfl
        rotate_left
        · simp only [Act.put, List.setIfInBounds_toArray, List.set_cons_zero, List.set_cons_succ, i64_w, i32_w]
          rfl
        refine pure_ (i := 17) (N := some 64) (v := ?_) (a' := ?_) #[true, true, true, false, true, true, true, true, false, false, false, false, false, false, false, true, true, true, false, false, false, false, false, false, false, false, false, false, false, false, false, false, false, false, false, false, false, false, false, false, false, false, false, false, false, false] rfl rfl (by kernel_rfl) (fun _ _ _ h => h) (Or.inl ⟨by rfl, ?_⟩) ?_ ?_
        rotate_left
        · intro w'
          go_simp
          with_reducible rfl
        rotate_left
        · simp only [Act.put, List.setIfInBounds_toArray, List.set_cons_zero, List.set_cons_succ, i64_w, i32_w]
          rfl
        refine pure_ (i := 19) (N := some 66) (v := ?_) (a' := ?_) #[true, true, true, false, true, true, true, true, false, false, false, false, false, false, false, true, true, true, false, true, false, false, false, false, false, false, false, false, false, false, false, false, false, false, false, false, false, false, false, false, false, false, false, false, false, false] rfl rfl (by kernel_rfl) (fun _ _ _ h => h) (Or.inl ⟨by rfl, ?_⟩) ?_ ?_
        rotate_left
        · intro w'
          go_simp
          with_reducible rfl
        rotate_left
        · simp only [Act.put, List.setIfInBounds_toArray, List.set_cons_zero, List.set_cons_succ, i64_w, i32_w]
          rfl
        refine pure_ (i := 20) (N := some 67) (v := ?_) (a' := ?_) #[true, true, true, false, true, true, true, true, false, false, false, false, false, false, false, true, true, true, false, true, true, false, false, false, false, false, false, false, false, false, false, false, false, false, false, false, false, false, false, false, false, false, false, false, false, false] rfl rfl (by kernel_rfl) (fun _ _ _ h => h) (Or.inl ⟨by rfl, ?_⟩) ?_ ?_
        rotate_left
        · intro w'
          go_simp
          with_reducible rfl
        rotate_left
        · simp only [Act.put, List.setIfInBounds_toArray, List.set_cons_zero, List.set_cons_succ, i64_w, i32_w]
          rfl
        refine pure_ (i := 21) (N := some 68) (v := ?_) (a' := ?_) #[true, true, true, false, true, true, true, true, false, false, false, false, false, false, false, true, true, true, false, true, true, true, false, false, false, false, false, false, false, false, false, false, false, false, false, false, false, false, false, false, false, false, false, false, false, false] rfl rfl (by kernel_rfl) (fun _ _ _ h => h) (Or.inl ⟨by rfl, ?_⟩) ?_ ?_
        rotate_left
        · intro w'
          go_simp
          with_reducible rfl
        rotate_left
        · simp only [Act.put, List.setIfInBounds_toArray, List.set_cons_zero, List.set_cons_succ, i64_w, i32_w]
          rfl
        refine pure_ (i := 22) (N := some 69) (v := ?_) (a' := ?_) #[true, true, true, false, true, true, true, true, false, false, false, false, false, false, false, true, true, true, false, true, true, true, true, false, false, false, false, false, false, false, false, false, false, false, false, false, false, false, false, false, false, false, false, false, false, false] rfl rfl (by kernel_rfl) (fun _ _ _ h => h) (Or.inl ⟨by rfl, ?_⟩) ?_ ?_
        rotate_left
        · intro w'
          go_simp
          with_reducible rfl
        rotate_left
        · simp only [Act.put, List.setIfInBounds_toArray, List.set_cons_zero, List.set_cons_succ, i64_w, i32_w]
          rfl
        refine pure_ (i := 23) (N := some 70) (v := ?_) (a' := ?_) #[true, true, true, false, true, true, true, true, false, false, false, false, false, false, false, true, true, true, false, true, true, true, true, true, false, false, false, false, false, false, false, false, false, false, false, false, false, false, false, false, false, false, false, false, false, false] rfl rfl (by kernel_rfl) (fun _ _ _ h => h) (Or.inl ⟨by rfl, ?_⟩) ?_ ?_
        rotate_left
        · intro w'
          go_simp
          with_reducible rfl
        rotate_left
        · simp only [Act.put, List.setIfInBounds_toArray, List.set_cons_zero, List.set_cons_succ, i64_w, i32_w]
          rfl
        refine pure_ (i := 24) (N := some 71) (v := ?_) (a' := ?_) #[true, true, true, false, true, true, true, true, false, false, false, false, false, false, false, true, true, true, false, true, true, true, true, true, true, false, false, false, false, false, false, false, false, false, false, false, false, false, false, false, false, false, false, false, false, false] rfl rfl (by kernel_rfl) (fun _ _ _ h => h) (Or.inl ⟨by rfl, ?_⟩) ?_ ?_
        rotate_left
        · intro w'
          go_simp
          with_reducible rfl
        rotate_left
        · simp only [Act.put, List.setIfInBounds_toArray, List.set_cons_zero, List.set_cons_succ, i64_w, i32_w]
          rfl
        refine pure_ (i := 33) (N := some 80) (v := ?_) (a' := ?_) #[true, true, true, false, true, true, true, true, false, false, false, false, false, false, false, true, true, true, false, true, true, true, true, true, true, false, false, false, false, false, false, false, false, true, false, false, false, false, false, false, false, false, false, false, false, false] rfl rfl (by kernel_rfl) (fun _ _ _ h => h) (Or.inl ⟨by rfl, ?_⟩) ?_ ?_
        rotate_left
        · intro w'
          go_simp
          with_reducible rfl
        rotate_left
        · simp only [Act.put, List.setIfInBounds_toArray, List.set_cons_zero, List.set_cons_succ, i64_w, i32_w]
          rfl
        refine pure_ (i := 34) (N := some 81) (v := ?_) (a' := ?_) #[true, true, true, false, true, true, true, true, false, false, false, false, false, false, false, true, true, true, false, true, true, true, true, true, true, false, false, false, false, false, false, false, false, true, true, false, false, false, false, false, false, false, false, false, false, false] rfl rfl (by kernel_rfl) (fun _ _ _ h => h) (Or.inl ⟨by rfl, ?_⟩) ?_ ?_
        rotate_left
        · intro w'
          go_simp
          with_reducible rfl
        rotate_left
        · simp only [Act.put, List.setIfInBounds_toArray, List.set_cons_zero, List.set_cons_succ, i64_w, i32_w]
          rfl
        refine pure_ (i := 36) (N := some 83) (v := ?_) (a' := ?_) #[true, true, true, false, true, true, true, true, false, false, false, false, false, false, false, true, true, true, false, true, true, true, true, true, true, false, false, false, false, false, false, false, false, true, true, false, true, false, false, false, false, false, false, false, false, false] rfl rfl (by kernel_rfl) (fun _ _ _ h => h) (Or.inl ⟨by rfl, ?_⟩) ?_ ?_
        rotate_left
        · intro w'
          go_simp
          with_reducible rfl
        rotate_left
        · simp only [Act.put, List.setIfInBounds_toArray, List.set_cons_zero, List.set_cons_succ, i64_w, i32_w]
          rfl
        refine pure_ (i := 37) (N := some 84) (v := ?_) (a' := ?_) #[true, true, true, false, true, true, true, true, false, false, false, false, false, false, false, true, true, true, false, true, true, true, true, true, true, false, false, false, false, false, false, false, false, true, true, false, true, true, false, false, false, false, false, false, false, false] rfl rfl (by kernel_rfl) (fun _ _ _ h => h) (Or.inl ⟨by rfl, ?_⟩) ?_ ?_
        rotate_left
        · intro w'
          go_simp
          with_reducible rfl
        rotate_left
        · simp only [Act.put, List.setIfInBounds_toArray, List.set_cons_zero, List.set_cons_succ, i64_w, i32_w]
          rfl
        refine pure_ (i := 38) (N := some 85) (v := ?_) (a' := ?_) #[true, true, true, false, true, true, true, true, false, false, false, false, false, false, false, true, true, true, false, true, true, true, true, true, true, false, false, false, false, false, false, false, false, true, true, false, true, true, true, false, false, false, false, false, false, false] rfl rfl (by kernel_rfl) (fun _ _ _ h => h) (Or.inl ⟨by rfl, ?_⟩) ?_ ?_
        rotate_left
        · intro w'
          go_simp
          with_reducible rfl
        rotate_left
        · simp only [Act.put, List.setIfInBounds_toArray, List.set_cons_zero, List.set_cons_succ, i64_w, i32_w]
          rfl
        refine pure_ (i := 39) (N := some 86) (v := ?_) (a' := ?_) #[true, true, true, false, true, true, true, true, false, false, false, false, false, false, false, true, true, true, false, true, true, true, true, true, true, false, false, false, false, false, false, false, false, true, true, false, true, true, true, true, false, false, false, false, false, false] rfl rfl (by kernel_rfl) (fun _ _ _ h => h) (Or.inl ⟨by rfl, ?_⟩) ?_ ?_
        rotate_left
        · intro w'
          go_simp
          with_reducible rfl
        rotate_left
        · simp only [Act.put, List.setIfInBounds_toArray, List.set_cons_zero, List.set_cons_succ, i64_w, i32_w]
          rfl
        refine take_ (i := 3) (N := some 50) (v := ?_) (a' := ?_) #[true, true, true, true, true, true, true, true, false, false, false, false, false, false, false, true, true, true, false, true, true, true, true, true, true, false, false, false, false, false, false, false, false, true, true, false, true, true, true, true, false, false, false, false, false, false] rfl rfl (by kernel_rfl) (fun _ _ _ h => h) (Or.inl ⟨by rfl, ?_⟩) hHeld ?_ ?_
        rotate_left
        · rintro w' ⟨s0, s1, s2⟩
          go_simp
          with_reducible rfl
        rotate_left
        · simp only [Act.put, List.setIfInBounds_toArray, List.set_cons_zero, List.set_cons_succ, i64_w, i32_w]
          rfl
        refine take_ (i := 8) (N := some 55) (v := ?_) (a' := ?_) #[true, true, true, true, true, true, true, true, true, false, false, false, false, false, false, true, true, true, false, true, true, true, true, true, true, false, false, false, false, false, false, false, false, true, true, false, true, true, true, true, false, false, false, false, false, false] rfl rfl (by kernel_rfl) (fun _ _ _ h => h) (Or.inl ⟨by rfl, ?_⟩) hHeld ?_ ?_
        rotate_left
        · rintro w' ⟨s0, s1, s2⟩
          go_simp
          with_reducible rfl
        rotate_left
        · simp only [Act.put, List.setIfInBounds_toArray, List.set_cons_zero, List.set_cons_succ, i64_w, i32_w]
          rfl
        refine pure_ (i := 9) (N := some 56) (v := ?_) (a' := ?_) #[true, true, true, true, true, true, true, true, true, true, false, false, false, false, false, true, true, true, false, true, true, true, true, true, true, false, false, false, false, false, false, false, false, true, true, false, true, true, true, true, false, false, false, false, false, false] rfl rfl (by kernel_rfl) (fun _ _ _ h => h) (Or.inl ⟨by rfl, ?_⟩) ?_ ?_
        rotate_left
        · intro w'
          go_simp
          with_reducible rfl
        rotate_left
        · simp only [Act.put, List.setIfInBounds_toArray, List.set_cons_zero, List.set_cons_succ, i64_w, i32_w]
          rfl
        refine pure_ (i := 10) (N := some 57) (v := ?_) (a' := ?_) #[true, true, true, true, true, true, true, true, true, true, true, false, false, false, false, true, true, true, false, true, true, true, true, true, true, false, false, false, false, false, false, false, false, true, true, false, true, true, true, true, false, false, false, false, false, false] rfl rfl (by kernel_rfl) (fun _ _ _ h => h) (Or.inl ⟨by rfl, ?_⟩) ?_ ?_
        rotate_left
        · intro w'
          go_simp
          with_reducible rfl
        rotate_left
        · simp only [Act.put, List.setIfInBounds_toArray, List.set_cons_zero, List.set_cons_succ, i64_w, i32_w]
          rfl
        refine pure_ (i := 11) (N := some 58) (v := ?_) (a' := ?_) #[true, true, true, true, true, true, true, true, true, true, true, true, false, false, false, true, true, true, false, true, true, true, true, true, true, false, false, false, false, false, false, false, false, true, true, false, true, true, true, true, false, false, false, false, false, false] rfl rfl (by kernel_rfl) (fun _ _ _ h => h) (Or.inl ⟨by rfl, ?_⟩) ?_ ?_
        rotate_left
        · intro w'
          go_simp
          with_reducible rfl
        rotate_left
        · simp only [Act.put, List.setIfInBounds_toArray, List.set_cons_zero, List.set_cons_succ, i64_w, i32_w]
          rfl
        refine take_ (i := 12) (N := some 59) (v := ?_) (a' := ?_) #[true, true, true, true, true, true, true, true, true, true, true, true, true, false, false, true, true, true, false, true, true, true, true, true, true, false, false, false, false, false, false, false, false, true, true, false, true, true, true, true, false, false, false, false, false, false] rfl rfl (by kernel_rfl) (fun _ _ _ h => h) (Or.inl ⟨by rfl, ?_⟩) hHeld ?_ ?_
        rotate_left
        · rintro w' ⟨s0, s1, s2⟩
          go_simp
          with_reducible rfl
        rotate_left
        · simp only [Act.put, List.setIfInBounds_toArray, List.set_cons_zero, List.set_cons_succ, i64_w, i32_w]
          rfl
        refine pure_ (i := 13) (N := some 60) (v := ?_) (a' := ?_) #[true, true, true, true, true, true, true, true, true, true, true, true, true, true, false, true, true, true, false, true, true, true, true, true, true, false, false, false, false, false, false, false, false, true, true, false, true, true, true, true, false, false, false, false, false, false] rfl rfl (by kernel_rfl) (fun _ _ _ h => h) (Or.inl ⟨by rfl, ?_⟩) ?_ ?_
        rotate_left
        · intro w'
          go_simp
          with_reducible rfl
        rotate_left
        · simp only [Act.put, List.setIfInBounds_toArray, List.set_cons_zero, List.set_cons_succ, i64_w, i32_w]
          rfl
        refine pure_ (i := 14) (N := some 61) (v := ?_) (a' := ?_) #[true, true, true, true, true, true, true, true, true, true, true, true, true, true, true, true, true, true, false, true, true, true, true, true, true, false, false, false, false, false, false, false, false, true, true, false, true, true, true, true, false, false, false, false, false, false] rfl rfl (by kernel_rfl) (fun _ _ _ h => h) (Or.inl ⟨by rfl, ?_⟩) ?_ ?_
        rotate_left
        · intro w'
          go_simp
          with_reducible rfl
        rotate_left
        · simp only [Act.put, List.setIfInBounds_toArray, List.set_cons_zero, List.set_cons_succ, i64_w, i32_w]
          rfl
        refine take_ (i := 18) (N := some 65) (v := ?_) (a' := ?_) #[true, true, true, true, true, true, true, true, true, true, true, true, true, true, true, true, true, true, true, true, true, true, true, true, true, false, false, false, false, false, false, false, false, true, true, false, true, true, true, true, false, false, false, false, false, false] rfl rfl (by kernel_rfl) (fun _ _ _ h => h) (Or.inl ⟨by rfl, ?_⟩) hHeld ?_ ?_
        rotate_left
        · rintro w' ⟨s0, s1, s2⟩
          go_simp
          with_reducible rfl
        rotate_left
        · simp only [Act.put, List.setIfInBounds_toArray, List.set_cons_zero, List.set_cons_succ, i64_w, i32_w]
          rfl
        refine take_ (i := 25) (N := some 72) (v := ?_) (a' := ?_) #[true, true, true, true, true, true, true, true, true, true, true, true, true, true, true, true, true, true, true, true, true, true, true, true, true, true, false, false, false, false, false, false, false, true, true, false, true, true, true, true, false, false, false, false, false, false] rfl rfl (by kernel_rfl) (fun _ _ _ h => h) (Or.inl ⟨by rfl, ?_⟩) hHeld ?_ ?_
        rotate_left
        · rintro w' ⟨s0, s1, s2⟩
          go_simp
          with_reducible rfl
        rotate_left
        · simp only [Act.put, List.setIfInBounds_toArray, List.set_cons_zero, List.set_cons_succ, i64_w, i32_w]
          rfl
        refine pure_ (i := 26) (N := some 73) (v := ?_) (a' := ?_) #[true, true, true, true, true, true, true, true, true, true, true, true, true, true, true, true, true, true, true, true, true, true, true, true, true, true, true, false, false, false, false, false, false, true, true, false, true, true, true, true, false, false, false, false, false, false] rfl rfl (by kernel_rfl) (fun _ _ _ h => h) (Or.inl ⟨by rfl, ?_⟩) ?_ ?_
        rotate_left
        · intro w'
          go_simp
          with_reducible rfl
        rotate_left
        · simp only [Act.put, List.setIfInBounds_toArray, List.set_cons_zero, List.set_cons_succ, i64_w, i32_w]
          rfl
        refine pure_ (i := 27) (N := some 74) (v := ?_) (a' := ?_) #[true, true, true, true, true, true, true, true, true, true, true, true, true, true, true, true, true, true, true, true, true, true, true, true, true, true, true, true, false, false, false, false, false, true, true, false, true, true, true, true, false, false, false, false, false, false] rfl rfl (by kernel_rfl) (fun _ _ _ h => h) (Or.inl ⟨by rfl, ?_⟩) ?_ ?_
        rotate_left
        · intro w'
          go_simp
          with_reducible rfl
        rotate_left
        · simp only [Act.put, List.setIfInBounds_toArray, List.set_cons_zero, List.set_cons_succ, i64_w, i32_w]
          rfl
        refine pure_ (i := 28) (N := some 75) (v := ?_) (a' := ?_) #[true, true, true, true, true, true, true, true, true, true, true, true, true, true, true, true, true, true, true, true, true, true, true, true, true, true, true, true, true, false, false, false, false, true, true, false, true, true, true, true, false, false, false, false, false, false] rfl rfl (by kernel_rfl) (fun _ _ _ h => h) (Or.inl ⟨by rfl, ?_⟩) ?_ ?_
        rotate_left
        · intro w'
          go_simp
          with_reducible rfl
        rotate_left
        · simp only [Act.put, List.setIfInBounds_toArray, List.set_cons_zero, List.set_cons_succ, i64_w, i32_w]
          rfl
        refine take_ (i := 29) (N := some 76) (v := ?_) (a' := ?_) #[true, true, true, true, true, true, true, true, true, true, true, true, true, true, true, true, true, true, true, true, true, true, true, true, true, true, true, true, true, true, false, false, false, true, true, false, true, true, true, true, false, false, false, false, false, false] rfl rfl (by kernel_rfl) (fun _ _ _ h => h) (Or.inl ⟨by rfl, ?_⟩) hHeld ?_ ?_
        rotate_left
        · rintro w' ⟨s0, s1, s2⟩
          go_simp
          with_reducible rfl
        rotate_left
        · simp only [Act.put, List.setIfInBounds_toArray, List.set_cons_zero, List.set_cons_succ, i64_w, i32_w]
          rfl
        refine pure_ (i := 30) (N := some 77) (v := ?_) (a' := ?_) #[true, true, true, true, true, true, true, true, true, true, true, true, true, true, true, true, true, true, true, true, true, true, true, true, true, true, true, true, true, true, true, false, false, true, true, false, true, true, true, true, false, false, false, false, false, false] rfl rfl (by kernel_rfl) (fun _ _ _ h => h) (Or.inl ⟨by rfl, ?_⟩) ?_ ?_
        rotate_left
        · intro w'
          go_simp
          with_reducible rfl
        rotate_left
        · simp only [Act.put, List.setIfInBounds_toArray, List.set_cons_zero, List.set_cons_succ, i64_w, i32_w]
          rfl
        refine pure_ (i := 31) (N := some 78) (v := ?_) (a' := ?_) #[true, true, true, true, true, true, true, true, true, true, true, true, true, true, true, true, true, true, true, true, true, true, true, true, true, true, true, true, true, true, true, true, false, true, true, false, true, true, true, true, false, false, false, false, false, false] rfl rfl (by kernel_rfl) (fun _ _ _ h => h) (Or.inl ⟨by rfl, ?_⟩) ?_ ?_
        rotate_left
        · intro w'
          go_simp
          with_reducible rfl
        rotate_left
        · simp only [Act.put, List.setIfInBounds_toArray, List.set_cons_zero, List.set_cons_succ, i64_w, i32_w]
          rfl
        refine pure_ (i := 32) (N := some 79) (v := ?_) (a' := ?_) #[true, true, true, true, true, true, true, true, true, true, true, true, true, true, true, true, true, true, true, true, true, true, true, true, true, true, true, true, true, true, true, true, true, true, true, false, true, true, true, true, false, false, false, false, false, false] rfl rfl (by kernel_rfl) (fun _ _ _ h => h) (Or.inl ⟨by rfl, ?_⟩) ?_ ?_
        rotate_left
        · intro w'
          go_simp
          with_reducible rfl
        rotate_left
        · simp only [Act.put, List.setIfInBounds_toArray, List.set_cons_zero, List.set_cons_succ, i64_w, i32_w]
          rfl
        refine pure_ (i := 35) (N := some 82) (v := ?_) (a' := ?_) #[true, true, true, true, true, true, true, true, true, true, true, true, true, true, true, true, true, true, true, true, true, true, true, true, true, true, true, true, true, true, true, true, true, true, true, true, true, true, true, true, false, false, false, false, false, false] rfl rfl (by kernel_rfl) (fun _ _ _ h => h) (Or.inl ⟨by rfl, ?_⟩) ?_ ?_
        rotate_left
        · intro w'
          go_simp
          with_reducible rfl
        rotate_left
        · simp only [Act.put, List.setIfInBounds_toArray, List.set_cons_zero, List.set_cons_succ, i64_w, i32_w]
          rfl
        refine take_ (i := 40) (N := some 87) (v := ?_) (a' := ?_) #[true, true, true, true, true, true, true, true, true, true, true, true, true, true, true, true, true, true, true, true, true, true, true, true, true, true, true, true, true, true, true, true, true, true, true, true, true, true, true, true, true, false, false, false, false, false] rfl rfl (by kernel_rfl) (fun _ _ _ h => h) (Or.inl ⟨by rfl, ?_⟩) hHeld ?_ ?_
        rotate_left
        · rintro w' ⟨s0, s1, s2⟩
          go_simp
          with_reducible rfl
        rotate_left
        · simp only [Act.put, List.setIfInBounds_toArray, List.set_cons_zero, List.set_cons_succ, i64_w, i32_w]
          rfl
        refine pure_ (i := 41) (N := some 88) (v := ?_) (a' := ?_) #[true, true, true, true, true, true, true, true, true, true, true, true, true, true, true, true, true, true, true, true, true, true, true, true, true, true, true, true, true, true, true, true, true, true, true, true, true, true, true, true, true, true, false, false, false, false] rfl rfl (by kernel_rfl) (fun _ _ _ h => h) (Or.inl ⟨by rfl, ?_⟩) ?_ ?_
        rotate_left
        · intro w'
          go_simp
          with_reducible rfl
        rotate_left
        · simp only [Act.put, List.setIfInBounds_toArray, List.set_cons_zero, List.set_cons_succ, i64_w, i32_w]
          rfl
        refine pure_ (i := 42) (N := some 89) (v := ?_) (a' := ?_) #[true, true, true, true, true, true, true, true, true, true, true, true, true, true, true, true, true, true, true, true, true, true, true, true, true, true, true, true, true, true, true, true, true, true, true, true, true, true, true, true, true, true, true, false, false, false] rfl rfl (by kernel_rfl) (fun _ _ _ h => h) (Or.inl ⟨by rfl, ?_⟩) ?_ ?_
        rotate_left
        · intro w'
          go_simp
          with_reducible rfl
        rotate_left
        · simp only [Act.put, List.setIfInBounds_toArray, List.set_cons_zero, List.set_cons_succ, i64_w, i32_w]
          rfl
        refine pure_ (i := 43) (N := some 90) (v := ?_) (a' := ?_) #[true, true, true, true, true, true, true, true, true, true, true, true, true, true, true, true, true, true, true, true, true, true, true, true, true, true, true, true, true, true, true, true, true, true, true, true, true, true, true, true, true, true, true, true, false, false] rfl rfl (by kernel_rfl) (fun _ _ _ h => h) (Or.inl ⟨by rfl, ?_⟩) ?_ ?_
        rotate_left
        · intro w'
          go_simp
          with_reducible rfl
        rotate_left
        · simp only [Act.put, List.setIfInBounds_toArray, List.set_cons_zero, List.set_cons_succ, i64_w, i32_w]
          rfl
        refine pure_ (i := 44) (N := some 91) (v := ?_) (a' := ?_) #[true, true, true, true, true, true, true, true, true, true, true, true, true, true, true, true, true, true, true, true, true, true, true, true, true, true, true, true, true, true, true, true, true, true, true, true, true, true, true, true, true, true, true, true, true, false] rfl rfl (by kernel_rfl) (fun _ _ _ h => h) (Or.inl ⟨by rfl, ?_⟩) ?_ ?_
        rotate_left
        · intro w'
          go_simp
          with_reducible rfl
        rotate_left
        · simp only [Act.put, List.setIfInBounds_toArray, List.set_cons_zero, List.set_cons_succ, i64_w, i32_w]
          rfl
        refine pure_ (i := 45) (N := some 6) (v := ?_) (a' := ?_) #[true, true, true, true, true, true, true, true, true, true, true, true, true, true, true, true, true, true, true, true, true, true, true, true, true, true, true, true, true, true, true, true, true, true, true, true, true, true, true, true, true, true, true, true, true, true] rfl rfl (by kernel_rfl) (fun _ _ _ h => h) (Or.inl ⟨by rfl, ?_⟩) ?_ ?_
        rotate_left
        · intro w'
          go_simp
          with_reducible rfl
        rotate_left
        · simp only [Act.put, List.setIfInBounds_toArray, List.set_cons_zero, List.set_cons_succ, i64_w, i32_w]
          rfl
        refine done_ (by kernel_rfl) ?_
        clear hHeld e1 e2 e3 e4 e5 e6 e7 e8 e9 e10 e11 e12 ex ey ed q0 q1 hc hd f0 f1
        go_wp2
        go_ret
        exact ⟨_, rfl, pick_last b6 n (by omega) (by omega), (HR.out.1).bel (Below.refl _ _).drew, grown_tr HR.out.2 (grown_drew _ _)⟩
end Go.Proofs.Ytpobgjkmjlmafaa
/- OpOk of both: which changes are in form. -/

namespace Go.Proofs.Ytpobgjkmjlmafaa
open Go.RowKit Go.Proofs.YtpobgjkmjlmafaaW.PrintWords
set_option linter.unusedVariables false
set_option linter.unusedSimpArgs false

def emp (t : ByteArray) : Bool := t.toList.isEmpty
def opRest (o : Op) : Bool :=
  if o.kind = 1 then emp o.dest && (inR o.n 1 6 && emp o.text)
  else if o.kind = 2 then emp o.dest && (inR o.n 0 5 && tOk o.text)
  else if o.kind = 3 then isNm o.dest && (decide (o.n = 0) && emp o.text)
  else if o.kind = 4 then emp o.dest && (decide (o.n = 0) && emp o.text)
  else false
def opOk (o : Op) : Bool := isNm o.name && opRest o
def opV (o : Op) : Value := .agg #[.int .i64 o.kind, .string o.name, .string o.dest, .int .i64 o.n, .string o.text]
structure SmallO (o : Op) : Prop where
  name : o.name.size ≤ 1048576
  dest : o.dest.size ≤ 1048576
  text : o.text.size ≤ 1048576
theorem max_of {n : Nat} (h : n ≤ 1048576) : n ≤ maxLen := by unfold maxLen; omega
set_option maxHeartbeats 4000000 in
theorem specOpOk_c (o : Op) (hs : SmallO o) (w : World) : Calls Try.prog 60 #[.agg #[.int .i64 o.kind, .string o.name, .string o.dest, .int .i64 o.n, .string o.text]] w (Ret (.bool (opOk o)) w) := by
  have hn := max_of hs.name
  have hd := max_of hs.dest
  have ht := max_of hs.text
  obtain ⟨kd, nm, ds, n, tx⟩ := o
  simp only at hn hd ht
  have HN := Lib.hid hn
  have HD := Lib.hid hd
  have HT := Lib.hid ht
  clear hn hd ht hs
  cases h0 : isNm nm with
  | false =>
    have HG := Lib.hid (show opOk ⟨kd, nm, ds, n, tx⟩ = false by unfold opOk; rw [h0]; rfl)
    go_enter Try.func60, Try.ntmps60
    go_wp2_with (go_at_call 115; refine (l3Name_c nm _ HN.out).mono ?_; rintro e w' ⟨rfl, rfl⟩)
    go_ret
    exact ⟨ret_bool HG.out.symm, bel_alloc (Below.refl _ _) _⟩
  | true =>
    have hno : ∀ b, opRest ⟨kd, nm, ds, n, tx⟩ = b → opOk ⟨kd, nm, ds, n, tx⟩ = b := fun b hb => by unfold opOk; rw [h0, hb]; rfl
    have HNO := Lib.hid hno
    clear hno
    by_cases h1 : kd = 1
    · subst h1
      cases hx1 : ds.toList.isEmpty
      all_goals cases hx2 : inR n 1 6
      all_goals cases hx3 : tx.toList.isEmpty
      all_goals
        have HG := Lib.hid (show opRest ⟨1, nm, ds, n, tx⟩ = _ by unfold opRest emp; simp only [if_true, hx1, hx2, hx3]; rfl)
        go_enter Try.func60, Try.ntmps60
        go_wp2_with fail
        refine (l3Name_c nm _ HN.out).mono ?_
        rintro e w1 ⟨rfl, rfl⟩
        go_wp2_with (first | (go_at_call 98; refine (l6In_c _ _ _ _).mono ?_; rintro e w' ⟨rfl, rfl⟩) | (go_at_call 45; refine (specTextOk_c tx _ HT.out).mono ?_; rintro e w' ⟨rfl, rfl⟩) | (go_at_call 115; refine (l3Name_c ds _ HD.out).mono ?_; rintro e w' ⟨rfl, rfl⟩))
        go_ret
        exact ⟨ret_bool (HNO.out _ HG.out).symm, bel_alloc (Below.refl _ _) _⟩
    by_cases h2 : kd = 2
    · subst h2
      cases hx1 : ds.toList.isEmpty
      all_goals cases hx2 : inR n 0 5
      all_goals cases hx3 : tOk tx
      all_goals
        have HG := Lib.hid (show opRest ⟨2, nm, ds, n, tx⟩ = _ by unfold opRest emp; simp only [show ¬ ((2 : Int) = 1) by decide, if_false, if_true, hx1, hx2, hx3]; rfl)
        go_enter Try.func60, Try.ntmps60
        go_wp2_with fail
        refine (l3Name_c nm _ HN.out).mono ?_
        rintro e w1 ⟨rfl, rfl⟩
        go_wp2_with (first | (go_at_call 98; refine (l6In_c _ _ _ _).mono ?_; rintro e w' ⟨rfl, rfl⟩) | (go_at_call 45; refine (specTextOk_c tx _ HT.out).mono ?_; rintro e w' ⟨rfl, rfl⟩) | (go_at_call 115; refine (l3Name_c ds _ HD.out).mono ?_; rintro e w' ⟨rfl, rfl⟩))
        go_ret
        exact ⟨ret_bool (HNO.out _ HG.out).symm, bel_alloc (Below.refl _ _) _⟩
    by_cases h3 : kd = 3
    · subst h3
      cases hx1 : isNm ds
      all_goals by_cases hx2 : n = 0
      all_goals cases hx3 : tx.toList.isEmpty
      all_goals
        have HG := Lib.hid (show opRest ⟨3, nm, ds, n, tx⟩ = _ by unfold opRest emp; simp only [show ¬ ((3 : Int) = 1) by decide, show ¬ ((3 : Int) = 2) by decide, if_false, if_true, hx1, hx2, hx3, decide_true, decide_false]; rfl)
        try subst hx2
        go_enter Try.func60, Try.ntmps60
        go_wp2_with fail
        refine (l3Name_c nm _ HN.out).mono ?_
        rintro e w1 ⟨rfl, rfl⟩
        go_wp2_with (first | (go_at_call 98; refine (l6In_c _ _ _ _).mono ?_; rintro e w' ⟨rfl, rfl⟩) | (go_at_call 45; refine (specTextOk_c tx _ HT.out).mono ?_; rintro e w' ⟨rfl, rfl⟩) | (go_at_call 115; refine (l3Name_c ds _ HD.out).mono ?_; rintro e w' ⟨rfl, rfl⟩))
        go_ret
        exact ⟨ret_bool (HNO.out _ HG.out).symm, bel_alloc (Below.refl _ _) _⟩
    by_cases h4 : kd = 4
    · subst h4
      cases hx1 : ds.toList.isEmpty
      all_goals by_cases hx2 : n = 0
      all_goals cases hx3 : tx.toList.isEmpty
      all_goals
        have HG := Lib.hid (show opRest ⟨4, nm, ds, n, tx⟩ = _ by unfold opRest emp; simp only [show ¬ ((4 : Int) = 1) by decide, show ¬ ((4 : Int) = 2) by decide, show ¬ ((4 : Int) = 3) by decide, if_false, if_true, hx1, hx2, hx3, decide_true, decide_false]; rfl)
        try subst hx2
        go_enter Try.func60, Try.ntmps60
        go_wp2_with fail
        refine (l3Name_c nm _ HN.out).mono ?_
        rintro e w1 ⟨rfl, rfl⟩
        go_wp2_with (first | (go_at_call 98; refine (l6In_c _ _ _ _).mono ?_; rintro e w' ⟨rfl, rfl⟩) | (go_at_call 45; refine (specTextOk_c tx _ HT.out).mono ?_; rintro e w' ⟨rfl, rfl⟩) | (go_at_call 115; refine (l3Name_c ds _ HD.out).mono ?_; rintro e w' ⟨rfl, rfl⟩))
        go_ret
        exact ⟨ret_bool (HNO.out _ HG.out).symm, bel_alloc (Below.refl _ _) _⟩
    have HG := Lib.hid (show opRest ⟨kd, nm, ds, n, tx⟩ = false by unfold opRest; simp only [h1, h2, h3, h4, if_false])
    go_enter Try.func60, Try.ntmps60
    go_wp2_with fail
    refine (l3Name_c nm _ HN.out).mono ?_
    rintro e w1 ⟨rfl, rfl⟩
    go_wp2_with (first | (go_at_call 98; refine (l6In_c _ _ _ _).mono ?_; rintro e w' ⟨rfl, rfl⟩) | (go_at_call 45; refine (specTextOk_c tx _ HT.out).mono ?_; rintro e w' ⟨rfl, rfl⟩) | (go_at_call 115; refine (l3Name_c ds _ HD.out).mono ?_; rintro e w' ⟨rfl, rfl⟩))
    go_ret
    exact ⟨ret_bool (HNO.out _ HG.out).symm, bel_alloc (Below.refl _ _) _⟩
end Go.Proofs.Ytpobgjkmjlmafaa
/- l6Open, of; l71Text. -/


namespace Go.Proofs.Ytpobgjkmjlmafaa
open Go.RowKit Go.Proofs.YtpobgjkmjlmafaaW.PrintWords Go.Proofs.YtpobgjkmjlmafaaW.PrintLast
set_option linter.unusedVariables false
set_option linter.unusedSimpArgs false

/-- What l6Open leaves: a new reader. -/
def Opened (w : World) (e : Ending) (w' : World) : Prop := ∃ rb, e = .returned (.pointer (some ⟨rb, 0, none⟩)) ∧ Rd w' rb 0 ∧ w.heap.size ≤ rb ∧ Bel w w'
/-- A code that came in. -/
structure CodeIn (w : World) (A : Option Addr) (n c : Nat) (bs : List Int) : Prop where
  len : bs.length = n
  cap : n ≤ c
  C : kByte.C w A n bs
  bd : ∀ x ∈ bs, 0 ≤ x ∧ x ≤ 255
  lt : ∀ ad, A = some ad → ad.block < w.heap.size
theorem CodeIn.bel {w w' : World} {A : Option Addr} {n c : Nat} {bs : List Int} (h : CodeIn w A n c bs) (hb : Bel w w') : CodeIn w' A n c bs := ⟨h.len, h.cap, Kd.C_below h.C hb, h.bd, fun ad e => Nat.lt_of_lt_of_le (h.lt ad e) hb.size⟩
set_option maxHeartbeats 2000000 in
theorem open_c {w : World} {A : Option Addr} {n c : Nat} {bs : List Int} (h : CodeIn w A n c bs) (hn : n ≤ 9223372036854775807) :
    Calls Try.prog 79 #[.slice A n c] w (Opened w) := by
  have hcap := h.cap
  have H := Lib.hid h
  clear h
  by_cases hl : (2000 : Int) < (n : Int)
  · go_enter Try.func79, Try.ntmps79
    go_wp2
    go_ret
    have hlen : (bs.take 2000).length = 2000 := by rw [List.length_take, H.out.len]; omega
    refine ⟨w.heap.size, rfl, ⟨⟨A, c, bs.take 2000, 0, ?_, ?_, fun x hx => H.out.bd x (List.mem_of_mem_take hx), by omega, Nat.le_refl _, H.out.lt⟩⟩, Nat.le_refl _, bel_alloc (Below.refl _ _) _⟩
    · rw [hlen]; exact Blk.new _ _ _
    · rw [hlen]; exact Kd.C_alloc (C_take H.out.C 2000 (by omega)) _
  · go_enter Try.func79, Try.ntmps79
    go_wp2
    go_ret
    refine ⟨w.heap.size, rfl, ⟨⟨A, c, bs, 0, ?_, ?_, H.out.bd, by rw [H.out.len]; omega, Nat.le_refl _, H.out.lt⟩⟩, Nat.le_refl _, bel_alloc (Below.refl _ _) _⟩
    · rw [H.out.len]; exact Blk.new _ _ _
    · rw [H.out.len]; exact Kd.C_alloc H.out.C _
def OfV (xs : List ByteArray) (v : Value) : Prop := ∃ s, v = .string s ∧ s ∈ xs
theorem cell_str {w : World} {b : Nat} {xs : List ByteArray} {t : TypeId} (h : Blk w b (xs.map Value.string).toArray t) {j : Nat} {s : ByteArray} (hj : xs[j]? = some s) : w.cell? ⟨b, j, none⟩ = some (.string s) := by
  rw [h.cell]; simp [hj]
set_option maxHeartbeats 2000000 in
theorem of_c {w : World} {rb lb k : Nat} {xs : List ByteArray} {T : TypeId} (h : Rd w rb k) (hk : k ≤ 1099511627776) (hL : Blk w lb (xs.map Value.string).toArray T) (hne : lb ≠ rb) (h1 : 1 ≤ xs.length) (h2 : xs.length ≤ 100) (m c : Nat) (hm : xs.length = m) (hmc : m ≤ c) :
    Calls Try.prog 106 #[.pointer (some ⟨rb, 0, none⟩), .slice (some ⟨lb, 0, none⟩) m c] w (Drawn rb k 1 (OfV xs) w) := by
  have H := Lib.hid h
  have HL := Lib.hid hL
  have HM := Lib.hid hm
  have hm1 : 1 ≤ m := by omega
  have hm2 : m ≤ 100 := by omega
  clear h hL hm
  go_enter Try.func106, Try.ntmps106
  go_wp2_with fail
  refine (pick_c H.out hk (m : Int) (by omega)).mono ?_
  rintro e w1 ⟨v, rfl, ⟨r, rfl, hr0, hr1, -⟩, hR, hg⟩
  have hr2 := hr1 (by omega)
  obtain ⟨j, rfl⟩ : ∃ j : Nat, r = j := ⟨r.toNat, by omega⟩
  have hjm : j < m := by omega
  obtain ⟨s, hs⟩ := getQ (show j < xs.length by rw [HM.out]; exact hjm)
  have hc := cell_str (HL.out.grown hg (by intro e; injection e with e; exact hne e)) hs
  have HR := Lib.hid (And.intro hR hg)
  have HS := Lib.hid (List.mem_of_getElem? hs)
  clear hR hg hs hr1
  go_wp2
  go_ret
  exact ⟨_, rfl, ⟨s, rfl, HS.out⟩, HR.out.1, HR.out.2⟩
def TextV (v : Value) : Prop := ∃ s : ByteArray, v = .string s ∧ s.size ≤ 7
def sOf (l : List UInt8) : ByteArray := ⟨l.toArray⟩
def abc : List ByteArray := [sOf [97], sOf [98], sOf [99], sOf [100], sOf [97]]
def eee : List ByteArray := [sOf [101], sOf [97, 97, 97, 97], sOf [32], sOf [65]]
theorem abc_size {s : ByteArray} (h : s ∈ abc) : s.size = 1 := by
  simp only [abc, List.mem_cons, List.not_mem_nil, or_false] at h
  rcases h with rfl | rfl | rfl | rfl | rfl <;> rfl
theorem eee_size {s : ByteArray} (h : s ∈ eee) : s.size ≤ 4 := by
  simp only [eee, List.mem_cons, List.not_mem_nil, or_false] at h
  rcases h with rfl | rfl | rfl | rfl <;> decide
set_option maxHeartbeats 4000000 in
set_option maxRecDepth 10000 in
theorem text_c {w : World} {rb k : Nat} (h : Rd w rb k) (hk : k ≤ 1099511600000) :
    Calls Try.prog 97 #[.pointer (some ⟨rb, 0, none⟩)] w (Drawn rb k 6 TextV w) := by
  have H := Lib.hid h
  clear h
  go_enter Try.func97, Try.ntmps97
  go_wp2_with fail
  refine (pick_c H.out (by omega) 4 (by omega)).mono ?_
  rintro e w1 ⟨v, rfl, ⟨r, rfl, hr0, hr1, -⟩, hR, hg⟩
  have hr2 := hr1 (by omega)
  obtain ⟨j0, rfl⟩ : ∃ j : Nat, r = j := ⟨r.toNat, by omega⟩
  have hj0 : j0 ≤ 3 := by omega
  have HR := Lib.hid (And.intro hR hg)
  clear hR hg hr1 hr2
  go_wp2
  go_loopg [3, 4] j0 (fun gg v3 v4 W => ∃ (j : Nat) (s : ByteArray), j = gg ∧ j ≤ j0 ∧ v4 = .int .i64 j ∧ v3 = .string s ∧ s.size + j ≤ 3 ∧ Hid (Rd W rb (k + 1 + (3 - j)) ∧ w.grownBy W (some rb)))
  case atStart => exact ⟨j0, ⟨#[]⟩, rfl, Nat.le_refl _, rfl, rfl, by simp [ByteArray.size]; omega, HR.out.1.more (by omega), HR.out.2⟩
  case round =>
    obtain ⟨j, s, hj, hjj, rfl, rfl, hs, hI⟩ := hrel
    subst hj
    by_cases hlt : 0 < j
    · go_wp2_with fail
      have hB : Blk (wr.alloc (.cells #[.string ⟨#[97]⟩, .string ⟨#[98]⟩, .string ⟨#[99]⟩, .string ⟨#[100]⟩, .string ⟨#[97]⟩] 9)) wr.heap.size (abc.map Value.string).toArray 9 := Blk.new wr _ _
      have hne : wr.heap.size ≠ rb := by have := hI.out.1.lt; omega
      refine (of_c (hI.out.1.bel (bel_alloc (Below.refl _ _) _)) (by omega) hB hne (by decide) (by decide) 5 5 rfl (by omega)).mono ?_
      rintro e w4 ⟨v, rfl, ⟨s', rfl, hs'⟩, hR4, hg4⟩
      have hsz := abc_size hs'
      have hsz1 : s'.size ≤ 1 := by omega
      have HSZ := Lib.hid hsz
      have HI := Lib.hid (And.intro hR4 (grown_tr hI.out.2 (grown_tr (grown_of_bel (bel_alloc (Below.refl _ _) _) _) hg4)))
      have hs3 : s.size ≤ 3 := by omega
      clear hB hne hs' hR4 hg4 hI hsz
      go_wp2
      go_roundg (j - 1)
      case measure => omega
      case rel => exact ⟨j - 1, _, rfl, by omega, int_eq (by omega), rfl, by rw [ByteArray.size_append, HSZ.out]; omega, HI.out.1.more (by omega), HI.out.2⟩
    · have hj : j = 0 := by omega
      have HI := Lib.hid (And.intro (hI.out.1.more (show k + 1 + (3 - j) ≤ k + 4 by omega)) hI.out.2)
      have hs3 : s.size ≤ 3 := by omega
      clear hI
      go_wp2_with fail
      refine (pick_c HI.out.1 (by omega) 30 (by omega)).mono ?_
      rintro e w4 ⟨v, rfl, ⟨r, rfl, hr0, hr1, -⟩, hR4, hg4⟩
      have HI4 := Lib.hid (And.intro hR4 (grown_tr HI.out.2 hg4))
      clear hR4 hg4 hr1
      by_cases hr : r = 0
      · subst hr
        go_wp2_with fail
        have hB : Blk (w4.alloc (.cells #[.string ⟨#[101]⟩, .string ⟨#[97, 97, 97, 97]⟩, .string ⟨#[32]⟩, .string ⟨#[65]⟩] 9)) w4.heap.size (eee.map Value.string).toArray 9 := Blk.new w4 _ _
        have hne : w4.heap.size ≠ rb := by have := HI4.out.1.lt; omega
        refine (of_c (HI4.out.1.bel (bel_alloc (Below.refl _ _) _)) (by omega) hB hne (by decide) (by decide) 4 4 rfl (by omega)).mono ?_
        rintro e w5 ⟨v, rfl, ⟨s', rfl, hs'⟩, hR5, hg5⟩
        have hsz := eee_size hs'
        have HI5 := Lib.hid (And.intro (hR5.more (show k + 4 + 1 + 1 ≤ k + 6 by omega)) (grown_tr HI4.out.2 (grown_tr (grown_of_bel (bel_alloc (Below.refl _ _) _) _) hg5)))
        clear hB hne hs' hR5 hg5
        go_wp2
        go_ret
        exact ⟨_, rfl, ⟨_, rfl, by rw [ByteArray.size_append]; omega⟩, HI5.out.1, HI5.out.2⟩
      · go_wp2
        go_ret
        exact ⟨_, rfl, ⟨_, rfl, by omega⟩, HI4.out.1.more (by omega), HI4.out.2⟩
end Go.Proofs.Ytpobgjkmjlmafaa
/- l71Op: a change that is drawn. -/

namespace Go.Proofs.Ytpobgjkmjlmafaa
open Go.RowKit Go.Proofs.YtpobgjkmjlmafaaW.PrintWords Go.Proofs.YtpobgjkmjlmafaaW.PrintLast
set_option linter.unusedVariables false
set_option linter.unusedSimpArgs false

theorem grown_new {w W : World} {r : Option Nat} (h : w.grownBy W r) {b : Nat} (hb : w.heap.size ≤ b) (i : Nat) (u : Value) : w.grownBy (W.setCell ⟨b, i, none⟩ u) r :=
  ⟨h.os, h.tape, h.output, by have := h.size; simpa using this, fun k hk hr => (heap_setCell_other W ⟨b, i, none⟩ k u (by show k ≠ b; omega)).trans (h.block k hk hr)⟩
theorem Rd.set {W : World} {rb k : Nat} (h : Rd W rb k) {b : Nat} (hb : rb < b) (i : Nat) (u : Value) : Rd (W.setCell ⟨b, i, none⟩ u) rb k := by
  obtain ⟨A, c, bs, p, h1, h2, h3, h4, h5, h6⟩ := h.h
  exact ⟨⟨A, c, bs, p, h1.apart (by omega) i u, byte_kept h2 (grown_setCell W b i u) (fun ad e => by have := h6 ad e; omega), h3, h4, h5, h6⟩⟩
theorem Rd.grown {W W' : World} {rb k : Nat} (h : Rd W rb k) {r : Option Nat} (hg : W.grownBy W' r) (hr : ∀ b, r = some b → rb < b) : Rd W' rb k := by
  obtain ⟨A, c, bs, p, h1, h2, h3, h4, h5, h6⟩ := h.h
  refine ⟨⟨A, c, bs, p, h1.grown hg (fun e => by have := hr rb e.symm; omega), ?_, h3, h4, h5, h6⟩⟩
  refine ⟨h2.1, h2.2.1, fun h0 => ?_⟩
  obtain ⟨ad, e, hh⟩ := h2.2.2 h0
  refine ⟨ad, e, fun j q hj => ?_⟩
  obtain ⟨c, g1, g2, g3⟩ := hh j q hj
  refine ⟨c, g1, g2, fun i u hu => World.grownBy.cell hg (g3 i u hu) ?_⟩
  rw [add_block]
  intro he
  have a1 := h6 ad e
  have a2 := hr _ he.symm
  omega
/-- The state of a draw of a change: the result's block, the change's own block, the reader. -/
structure OpSt (w W : World) (rb rs ob k : Nat) (cs : Array Value) : Prop where
  res : Blk W rs #[.int .i64 0, .string ⟨#[]⟩, .string ⟨#[]⟩, .int .i64 0, .string ⟨#[]⟩] 74
  op : Blk W ob cs 74
  rd : Rd W rb k
  g : w.grownBy W (some rb)
  l1 : w.heap.size ≤ rs
  l2 : rs < ob
  l3 : rb < w.heap.size
theorem OpSt.step {w W W' : World} {rb rs ob k k' : Nat} {cs : Array Value} (h : OpSt w W rb rs ob k cs) (hR : Rd W' rb k') (hg : W.grownBy W' (some rb)) : OpSt w W' rb rs ob k' cs :=
  ⟨h.res.grown hg (fun e => by injection e with e; have := h.l1; have := h.l3; omega), h.op.grown hg (fun e => by injection e with e; have := h.l1; have := h.l2; have := h.l3; omega), hR, grown_tr h.g hg, h.l1, h.l2, h.l3⟩
theorem OpSt.bel {w W W' : World} {rb rs ob k : Nat} {cs : Array Value} (h : OpSt w W rb rs ob k cs) (hb : Bel W W') : OpSt w W' rb rs ob k cs :=
  ⟨h.res.bel hb, h.op.bel hb, h.rd.bel hb, grown_tr h.g (grown_of_bel hb _), h.l1, h.l2, h.l3⟩
theorem OpSt.set {w W : World} {rb rs ob k : Nat} {cs cs' : Array Value} (h : OpSt w W rb rs ob k cs) (i : Nat) (u : Value) (e : cs.setIfInBounds i u = cs') : OpSt w (W.setCell ⟨ob, i, none⟩ u) rb rs ob k cs' :=
  ⟨h.res.apart (by have := h.l2; omega) i u, h.op.set i u e, h.rd.set (by have := h.l1; have := h.l2; have := h.l3; omega) i u, grown_new h.g (by have := h.l1; have := h.l2; omega) i u, h.l1, h.l2, h.l3⟩
theorem OpSt.more {w W : World} {rb rs ob k k' : Nat} {cs : Array Value} (h : OpSt w W rb rs ob k cs) (hk : k ≤ k') : OpSt w W rb rs ob k' cs := ⟨h.res, h.op, h.rd.more hk, h.g, h.l1, h.l2, h.l3⟩
/-- What a draw of a change hands back. -/
def OpV (v : Value) : Prop := ∃ o : Op, v = opV o ∧ SmallO o ∧ -100 ≤ o.n ∧ o.n ≤ 100 ∧ 0 ≤ o.kind ∧ o.kind ≤ 100
def nms : List ByteArray := [sOf [65], sOf [66], sOf [67], sOf [68]]
def bad : List ByteArray := [sOf [], sOf [69], sOf [65, 65]]
theorem nms_size {s : ByteArray} (h : s ∈ nms) : s.size ≤ 7 := by
  simp only [nms, List.mem_cons, List.not_mem_nil, or_false] at h
  rcases h with rfl | rfl | rfl | rfl <;> decide
theorem bad_size {s : ByteArray} (h : s ∈ bad) : s.size ≤ 7 := by
  simp only [bad, List.mem_cons, List.not_mem_nil, or_false] at h
  rcases h with rfl | rfl | rfl <;> decide
theorem e_size : (⟨#[]⟩ : ByteArray).size ≤ 7 := by decide
set_option maxHeartbeats 16000000 in
set_option maxRecDepth 10000 in
theorem op_c {w : World} {rb k : Nat} (h : Rd w rb k) (hk : k ≤ 1099511500000) :
    Calls Try.prog 111 #[.pointer (some ⟨rb, 0, none⟩)] w (Drawn rb k 20 OpV w) := by
  have H := Lib.hid h
  have hlt := h.lt
  clear h
  go_enter Try.func111, Try.ntmps111
  go_wp2_with fail
  have hB : Blk ((w.alloc (.cells #[.int .i64 0, .string ⟨#[]⟩, .string ⟨#[]⟩, .int .i64 0, .string ⟨#[]⟩] 74)).alloc (.cells #[.string ⟨#[65]⟩, .string ⟨#[66]⟩, .string ⟨#[67]⟩, .string ⟨#[68]⟩] 9)) (w.heap.size + 1) (nms.map Value.string).toArray 9 := Blk.nw2 w _ _ _
  have hres : Blk ((w.alloc (.cells #[.int .i64 0, .string ⟨#[]⟩, .string ⟨#[]⟩, .int .i64 0, .string ⟨#[]⟩] 74)).alloc (.cells #[.string ⟨#[65]⟩, .string ⟨#[66]⟩, .string ⟨#[67]⟩, .string ⟨#[68]⟩] 9)) w.heap.size #[.int .i64 0, .string ⟨#[]⟩, .string ⟨#[]⟩, .int .i64 0, .string ⟨#[]⟩] 74 := (Blk.new _ _ _).alloc _
  have hW : Bel w ((w.alloc (.cells #[.int .i64 0, .string ⟨#[]⟩, .string ⟨#[]⟩, .int .i64 0, .string ⟨#[]⟩] 74)).alloc (.cells #[.string ⟨#[65]⟩, .string ⟨#[66]⟩, .string ⟨#[67]⟩, .string ⟨#[68]⟩] 9)) := bel_alloc (bel_alloc (Below.refl _ _) _) _
  generalize ((w.alloc (.cells #[.int .i64 0, .string ⟨#[]⟩, .string ⟨#[]⟩, .int .i64 0, .string ⟨#[]⟩] 74)).alloc (.cells #[.string ⟨#[65]⟩, .string ⟨#[66]⟩, .string ⟨#[67]⟩, .string ⟨#[68]⟩] 9)) = W0 at hB hres hW ⊢
  refine (of_c (H.out.bel hW) (by omega) hB (by omega) (by decide) (by decide) 4 4 rfl (by omega)).mono ?_
  rintro e w1 ⟨v, rfl, ⟨nm, rfl, hnm⟩, hR1, hg1⟩
  have hnz := nms_size hnm
  have HS1 := Lib.hid (And.intro (hres.grown hg1 (by intro e; injection e with e; omega)) (And.intro hR1 (grown_tr (grown_of_bel hW _) hg1)))
  clear hB hres hW hnm hR1 hg1
  go_wp2_with fail
  refine (pick_c HS1.out.2.1 (by omega) 3 (by omega)).mono ?_
  rintro e w2 ⟨v, rfl, ⟨n0, rfl, hn0, hn1, -⟩, hR2, hg2⟩
  have hn2 := hn1 (by omega)
  have HS2 := Lib.hid (And.intro (HS1.out.1.grown hg2 (by intro e; injection e with e; omega)) (And.intro hR2 (grown_tr HS1.out.2.2 hg2)))
  clear hR2 hg2 hn1
  go_wp2_with fail
  refine (text_c HS2.out.2.1 (by omega)).mono ?_
  rintro e w3 ⟨v, rfl, ⟨tx, rfl, htx⟩, hR3, hg3⟩
  have HS3 := Lib.hid (And.intro (HS2.out.1.grown hg3 (by intro e; injection e with e; omega)) (And.intro hR3 (grown_tr HS2.out.2.2 hg3)))
  clear hR3 hg3
  go_wp2_with fail
  have hst : OpSt w (w3.alloc (.cells #[.int .i64 2, .string nm, .string ⟨#[]⟩, .int .i64 n0, .string tx] 74)) rb w.heap.size w3.heap.size (k + 1 + 1 + 6) #[.int .i64 2, .string nm, .string ⟨#[]⟩, .int .i64 n0, .string tx] := ⟨HS3.out.1.alloc _, Blk.new _ _ _, HS3.out.2.1.bel (bel_alloc (Below.refl _ _) _), grown_tr HS3.out.2.2 (grown_of_bel (bel_alloc (Below.refl _ _) _) _), Nat.le_refl _, HS3.out.1.lt, hlt⟩
  generalize w3.alloc (.cells #[.int .i64 2, .string nm, .string ⟨#[]⟩, .int .i64 n0, .string tx] 74) = W4 at hst ⊢
  obtain ⟨ob, hob⟩ : ∃ ob, w3.heap.size = ob := ⟨_, rfl⟩
  rw [hob] at hst ⊢
  have HST := Lib.hid hst
  clear hst hob
  have hez := e_size
  refine (pick_c HST.out.rd (by omega) 12 (by omega)).mono ?_
  rintro e w5 ⟨v, rfl, ⟨r, rfl, hr0, hr1, -⟩, hR5, hg5⟩
  have HS5 := Lib.hid (HST.out.step hR5 hg5)
  have hr2 := hr1 (by omega)
  clear hR5 hg5 hr1
  by_cases hra : r = 0
  · subst hra
    have hs5 := HS5.out
    have c0 := hs5.op.cell 0
    have g0 := hs5.op.free 0
    have c1 := hs5.op.cell 1
    have g1 := hs5.op.free 1
    have c2 := hs5.op.cell 2
    have g2 := hs5.op.free 2
    have c3 := hs5.op.cell 3
    have g3 := hs5.op.free 3
    have c4 := hs5.op.cell 4
    have g4 := hs5.op.free 4
    have zo := hs5.op.lt
    have hne1 : ¬ ob = w.heap.size := by have := hs5.l2; omega
    have hne2 : ¬ w.heap.size = ob := by have := hs5.l2; omega
    simp at c0 c1 c2 c3 c4
    have HRD := Lib.hid hs5.rd
    clear hs5
    go_wp2
    have HP6 := Lib.hid (pick_c (w := w5.drew) (HRD.out.bel (Below.refl _ _).drew) (by omega) 6 (by omega))
    refine start_ (n := 7) (S := fun w' => w'.cell? ⟨ob, 1, none⟩ = some (.string nm)) (ds := [6]) #[false, false, false, false, false, false, false] (by kernel_rfl) rfl rfl (c1) (fun hHeld => ?_)
    refine pure_ (i := 0) (N := some 17) (v := ?_) (a' := ?_) #[true, false, false, false, false, false, false] rfl rfl (by kernel_rfl) (fun _ _ _ h => h) (Or.inl ⟨by rfl, ?_⟩) ?_ ?_
    rotate_left
    · intro w'
      go_simp
      with_reducible rfl
    rotate_left
    · simp only [Act.put, List.setIfInBounds_toArray, List.set_cons_zero, List.set_cons_succ, i64_w, i32_w]
      rfl
    refine pure_ (i := 2) (N := some 19) (v := ?_) (a' := ?_) #[true, false, true, false, false, false, false] rfl rfl (by kernel_rfl) (fun _ _ _ h => h) (Or.inl ⟨by rfl, ?_⟩) ?_ ?_
    rotate_left
    · intro w'
      go_simp
      with_reducible rfl
    rotate_left
    · simp only [Act.put, List.setIfInBounds_toArray, List.set_cons_zero, List.set_cons_succ, i64_w, i32_w]
      rfl
    refine take_ (i := 1) (N := some 18) (v := ?_) (a' := ?_) #[true, true, true, false, false, false, false] rfl rfl (by kernel_rfl) (fun _ _ _ h => h) (Or.inl ⟨by rfl, ?_⟩) hHeld ?_ ?_
    rotate_left
    · intro w' s0
      go_simp
      with_reducible rfl
    rotate_left
    · simp only [Act.put, List.setIfInBounds_toArray, List.set_cons_zero, List.set_cons_succ, i64_w, i32_w]
      rfl
    refine one_ (i := 3) (N := some 20) #[true, true, true, true, false, false, false] rfl rfl (by kernel_rfl) (by decide) (fun K hK => ?_)
    refine goes_ Try.func96 (by kernel_rfl) rfl #[.pointer (some ⟨rb, 0, none⟩), .int .i64 6] (by rfl) rfl rfl (by simp only [List.map_toArray, List.map_cons, List.map_nil]; rfl) ?_
    with_reducible refine (HP6.out).mono ?_
    rintro e w6 ⟨v, rfl, ⟨n6, rfl, hn60, hn61, -⟩, hR6, hg6⟩
    have hn62 := hn61 (by omega)
    have hs6 := OpSt.step (W := w5.drew) (HS5.out.bel (Below.refl _ _).drew) hR6 hg6
    have HS6 := Lib.hid hs6
    have c0 := hs6.op.cell 0
    have g0 := hs6.op.free 0
    have c1 := hs6.op.cell 1
    have g1 := hs6.op.free 1
    have c2 := hs6.op.cell 2
    have g2 := hs6.op.free 2
    have c3 := hs6.op.cell 3
    have g3 := hs6.op.free 3
    have c4 := hs6.op.cell 4
    have g4 := hs6.op.free 4
    have zo := hs6.op.lt
    have hne1 : ¬ ob = w.heap.size := by have := hs6.l2; omega
    have hne2 : ¬ w.heap.size = ob := by have := hs6.l2; omega
    simp at c0 c1 c2 c3 c4
    have hwn : wrap64 (1 + n6) = 1 + n6 := by unfold wrap64; omega
    clear hR6 hg6 hn61 hs6
    refine ⟨_, rfl, ?_⟩
    refine hK.out _ _ (c1) (fun hHeld => ?_)
    clear hK K
    refine norm_ (a' := ?_) ?_ ?_
    rotate_left
    · show Act.put _ (some 20) _ = _
      simp only [Act.put, List.setIfInBounds_toArray, List.set_cons_zero, List.set_cons_succ, i64_w, i32_w]
      rfl
    refine pure_ (i := 4) (N := some 21) (v := ?_) (a' := ?_) #[true, true, true, true, true, false, false] rfl rfl (by kernel_rfl) (fun _ _ _ h => h) (Or.inl ⟨by rfl, ?_⟩) ?_ ?_
    rotate_left
    · intro w'
      go_simp
      with_reducible rfl
    rotate_left
    · simp only [Act.put, List.setIfInBounds_toArray, List.set_cons_zero, List.set_cons_succ, i64_w, i32_w]
      rfl
    refine pure_ (i := 5) (N := some 22) (v := ?_) (a' := ?_) #[true, true, true, true, true, true, false] rfl rfl (by kernel_rfl) (fun _ _ _ h => h) (Or.inl ⟨by rfl, ?_⟩) ?_ ?_
    rotate_left
    · intro w'
      go_simp
      with_reducible rfl
    rotate_left
    · simp only [Act.put, List.setIfInBounds_toArray, List.set_cons_zero, List.set_cons_succ, i64_w, i32_w]
      rfl
    refine last_ (i := 6) (N := none) #[true, true, true, true, true, true, true] rfl rfl (by kernel_rfl) (by decide) (fun K hK => ?_)
    refine skip_ (w1 := ?_) (by rfl) rfl ?_ ?_
    rotate_left
    · go_simp
      rfl
    refine hK.out _ _ ?_
    clear hK K
    refine done_ (by kernel_rfl) ?_
    clear hHeld hwn
    have hs := (((((HS6.out.set 0 (.int .i64 (1)) (cs' := #[.int .i64 (1), .string nm, .string ⟨#[]⟩, .int .i64 n0, .string tx]) rfl).set 1 (.string nm) (cs' := #[.int .i64 (1), .string nm, .string ⟨#[]⟩, .int .i64 n0, .string tx]) rfl).set 2 (.string (⟨#[]⟩ : ByteArray)) (cs' := #[.int .i64 (1), .string nm, .string (⟨#[]⟩ : ByteArray), .int .i64 n0, .string tx]) rfl).set 3 (.int .i64 (1 + n6)) (cs' := #[.int .i64 (1), .string nm, .string (⟨#[]⟩ : ByteArray), .int .i64 (1 + n6), .string tx]) rfl).set 4 (.string (⟨#[]⟩ : ByteArray)) (cs' := #[.int .i64 (1), .string nm, .string (⟨#[]⟩ : ByteArray), .int .i64 (1 + n6), .string (⟨#[]⟩ : ByteArray)]) rfl)
    clear c0 c1 c2 c3 c4 g0 g1 g2 g3 g4
    generalize (((((w6.setCell ⟨ob, 0, none⟩ (.int .i64 (1))).setCell ⟨ob, 1, none⟩ (.string nm)).setCell ⟨ob, 2, none⟩ (.string (⟨#[]⟩ : ByteArray))).setCell ⟨ob, 3, none⟩ (.int .i64 (1 + n6))).setCell ⟨ob, 4, none⟩ (.string (⟨#[]⟩ : ByteArray))) = WW at hs ⊢
    have HSS := Lib.hid hs
    clear hs
    go_wp2_with fail
    refine (pick_c HSS.out.rd (by omega) 30 (by omega)).mono ?_
    rintro e w7 ⟨v, rfl, ⟨q, rfl, hq0, hq1, -⟩, hR7, hg7⟩
    have HS7 := Lib.hid (HSS.out.step hR7 hg7)
    have hq2 := hq1 (by omega)
    clear hR7 hg7 hq1
    by_cases hqa : q = 0
    · subst hqa
      go_wp2_with fail
      have hB : Blk (w7.alloc (.cells #[.string ⟨#[]⟩, .string ⟨#[69]⟩, .string ⟨#[65, 65]⟩] 9)) w7.heap.size (bad.map Value.string).toArray 9 := Blk.new w7 _ _
      have hne : w7.heap.size ≠ rb := by have := HS7.out.rd.lt; omega
      have hst8 := HS7.out.bel (bel_alloc (Below.refl _ _) (.cells #[.string ⟨#[]⟩, .string ⟨#[69]⟩, .string ⟨#[65, 65]⟩] 9))
      refine (of_c hst8.rd (by omega) hB hne (by decide) (by decide) 3 3 rfl (by omega)).mono ?_
      rintro e w8 ⟨v, rfl, ⟨nm2, rfl, hnm2⟩, hR8, hg8⟩
      have hnz2 := bad_size hnm2
      have hs8 := hst8.step hR8 hg8
      have HS9 := Lib.hid (hs8.set 1 (.string nm2) (cs' := #[.int .i64 1, .string nm2, .string ⟨#[]⟩, .int .i64 (1 + n6), .string ⟨#[]⟩]) rfl)
      have sf1 := hs8.op.free 1
      have r0 := hs8.res.cell 0
      have f0 := hs8.res.free 0
      have c0 := hs8.op.cell 0
      have r1 := hs8.res.cell 1
      have f1 := hs8.res.free 1
      have c1 := hs8.op.cell 1
      have r2' := hs8.res.cell 2
      have f2 := hs8.res.free 2
      have c2 := hs8.op.cell 2
      have r3 := hs8.res.cell 3
      have f3 := hs8.res.free 3
      have c3 := hs8.op.cell 3
      have r4 := hs8.res.cell 4
      have f4 := hs8.res.free 4
      have c4 := hs8.op.cell 4
      have zr := hs8.res.lt
      have zo := hs8.op.lt
      have hne1 : ¬ ob = w.heap.size := by have := hs8.l2; omega
      have hne2 : ¬ w.heap.size = ob := by have := hs8.l2; omega
      simp at r0 r1 r2' r3 r4 c0 c1 c2 c3 c4
      clear hB hne hst8 hnm2 hR8 hg8 hs8
      go_wp2
      have hf := (((((HS9.out.res.set 0 (.int .i64 (1)) (cs' := #[.int .i64 (1), .string ⟨#[]⟩, .string ⟨#[]⟩, .int .i64 0, .string ⟨#[]⟩]) rfl).set 1 (.string nm2) (cs' := #[.int .i64 (1), .string nm2, .string ⟨#[]⟩, .int .i64 0, .string ⟨#[]⟩]) rfl).set 2 (.string (⟨#[]⟩ : ByteArray)) (cs' := #[.int .i64 (1), .string nm2, .string (⟨#[]⟩ : ByteArray), .int .i64 0, .string ⟨#[]⟩]) rfl).set 3 (.int .i64 ((1 + n6))) (cs' := #[.int .i64 (1), .string nm2, .string (⟨#[]⟩ : ByteArray), .int .i64 ((1 + n6)), .string ⟨#[]⟩]) rfl).set 4 (.string (⟨#[]⟩ : ByteArray)) (cs' := #[.int .i64 (1), .string nm2, .string ⟨#[]⟩, .int .i64 ((1 + n6)), .string ⟨#[]⟩]) rfl)
      have hgf := grown_new (grown_new (grown_new (grown_new (grown_new HS9.out.g HS9.out.l1 0 (.int .i64 (1))) HS9.out.l1 1 (.string nm2)) HS9.out.l1 2 (.string (⟨#[]⟩ : ByteArray))) HS9.out.l1 3 (.int .i64 ((1 + n6)))) HS9.out.l1 4 (.string (⟨#[]⟩ : ByteArray))
      have hl4 := HS9.out.l3
      have hrf := (((((HS9.out.rd.set (b := w.heap.size) hl4 0 (.int .i64 (1))).set (b := w.heap.size) hl4 1 (.string nm2)).set (b := w.heap.size) hl4 2 (.string (⟨#[]⟩ : ByteArray))).set (b := w.heap.size) hl4 3 (.int .i64 ((1 + n6)))).set (b := w.heap.size) hl4 4 (.string (⟨#[]⟩ : ByteArray)))
      refine bodyPost_ret (results_cell_row rfl _ _ w.heap.size 74 #[.int .i64 (1), .string nm2, .string ⟨#[]⟩, .int .i64 ((1 + n6)), .string ⟨#[]⟩] (0, 0) _ rfl hf Try.underlying74 rfl (by kernel_rfl)) rfl ?_
      exact ⟨_, rfl, ⟨⟨1, nm2, (⟨#[]⟩ : ByteArray), (1 + n6), (⟨#[]⟩ : ByteArray)⟩, rfl, ⟨by show ByteArray.size nm2 ≤ _; omega, by show ByteArray.size (⟨#[]⟩ : ByteArray) ≤ _; omega, by show ByteArray.size (⟨#[]⟩ : ByteArray) ≤ _; omega⟩, by show (-100 : Int) ≤ (1 + n6); omega, by show ((1 + n6) : Int) ≤ 100; omega, by show (0 : Int) ≤ 1; omega, by show (1 : Int) ≤ 100; omega⟩, hrf.more (by omega), hgf⟩
    · by_cases hqb : q = 1
      · subst hqb
        go_wp2_with fail
        refine (pick_c HS7.out.rd (by omega) 9 (by omega)).mono ?_
        rintro e w8 ⟨v, rfl, ⟨n2, rfl, hn20, hn21, -⟩, hR8, hg8⟩
        have hn22 := hn21 (by omega)
        have hs8 := HS7.out.step hR8 hg8
        have HS9 := Lib.hid (hs8.set 3 (.int .i64 (n2 - 1)) (cs' := #[.int .i64 1, .string nm, .string ⟨#[]⟩, .int .i64 (n2 - 1), .string ⟨#[]⟩]) rfl)
        have sf3 := hs8.op.free 3
        have r0 := hs8.res.cell 0
        have f0 := hs8.res.free 0
        have c0 := hs8.op.cell 0
        have r1 := hs8.res.cell 1
        have f1 := hs8.res.free 1
        have c1 := hs8.op.cell 1
        have r2' := hs8.res.cell 2
        have f2 := hs8.res.free 2
        have c2 := hs8.op.cell 2
        have r3 := hs8.res.cell 3
        have f3 := hs8.res.free 3
        have c3 := hs8.op.cell 3
        have r4 := hs8.res.cell 4
        have f4 := hs8.res.free 4
        have c4 := hs8.op.cell 4
        have zr := hs8.res.lt
        have zo := hs8.op.lt
        have hne1 : ¬ ob = w.heap.size := by have := hs8.l2; omega
        have hne2 : ¬ w.heap.size = ob := by have := hs8.l2; omega
        simp at r0 r1 r2' r3 r4 c0 c1 c2 c3 c4
        clear hR8 hg8 hs8 hn21
        go_wp2
        have hf := (((((HS9.out.res.set 0 (.int .i64 (1)) (cs' := #[.int .i64 (1), .string ⟨#[]⟩, .string ⟨#[]⟩, .int .i64 0, .string ⟨#[]⟩]) rfl).set 1 (.string nm) (cs' := #[.int .i64 (1), .string nm, .string ⟨#[]⟩, .int .i64 0, .string ⟨#[]⟩]) rfl).set 2 (.string (⟨#[]⟩ : ByteArray)) (cs' := #[.int .i64 (1), .string nm, .string (⟨#[]⟩ : ByteArray), .int .i64 0, .string ⟨#[]⟩]) rfl).set 3 (.int .i64 (n2 - 1)) (cs' := #[.int .i64 (1), .string nm, .string (⟨#[]⟩ : ByteArray), .int .i64 (n2 - 1), .string ⟨#[]⟩]) rfl).set 4 (.string (⟨#[]⟩ : ByteArray)) (cs' := #[.int .i64 (1), .string nm, .string ⟨#[]⟩, .int .i64 (n2 - 1), .string ⟨#[]⟩]) rfl)
        have hgf := grown_new (grown_new (grown_new (grown_new (grown_new HS9.out.g HS9.out.l1 0 (.int .i64 (1))) HS9.out.l1 1 (.string nm)) HS9.out.l1 2 (.string (⟨#[]⟩ : ByteArray))) HS9.out.l1 3 (.int .i64 (n2 - 1))) HS9.out.l1 4 (.string (⟨#[]⟩ : ByteArray))
        have hl4 := HS9.out.l3
        have hrf := (((((HS9.out.rd.set (b := w.heap.size) hl4 0 (.int .i64 (1))).set (b := w.heap.size) hl4 1 (.string nm)).set (b := w.heap.size) hl4 2 (.string (⟨#[]⟩ : ByteArray))).set (b := w.heap.size) hl4 3 (.int .i64 (n2 - 1))).set (b := w.heap.size) hl4 4 (.string (⟨#[]⟩ : ByteArray)))
        refine bodyPost_ret (results_cell_row rfl _ _ w.heap.size 74 #[.int .i64 (1), .string nm, .string ⟨#[]⟩, .int .i64 (n2 - 1), .string ⟨#[]⟩] (0, 0) _ rfl hf Try.underlying74 rfl (by kernel_rfl)) rfl ?_
        exact ⟨_, rfl, ⟨⟨1, nm, (⟨#[]⟩ : ByteArray), n2 - 1, (⟨#[]⟩ : ByteArray)⟩, rfl, ⟨by show ByteArray.size nm ≤ _; omega, by show ByteArray.size (⟨#[]⟩ : ByteArray) ≤ _; omega, by show ByteArray.size (⟨#[]⟩ : ByteArray) ≤ _; omega⟩, by show (-100 : Int) ≤ n2 - 1; omega, by show (n2 - 1 : Int) ≤ 100; omega, by show (0 : Int) ≤ 1; omega, by show (1 : Int) ≤ 100; omega⟩, hrf.more (by omega), hgf⟩
      · by_cases hqc : q = 2
        · subst hqc
          go_wp2_with fail
          refine (pick_c HS7.out.rd (by omega) 6 (by omega)).mono ?_
          rintro e w8 ⟨v, rfl, ⟨kd2, rfl, hk20, hk21, -⟩, hR8, hg8⟩
          have hk22 := hk21 (by omega)
          have hs8 := HS7.out.step hR8 hg8
          have HS9 := Lib.hid (hs8.set 0 (.int .i64 kd2) (cs' := #[.int .i64 kd2, .string nm, .string ⟨#[]⟩, .int .i64 (1 + n6), .string ⟨#[]⟩]) rfl)
          have sf0 := hs8.op.free 0
          have r0 := hs8.res.cell 0
          have f0 := hs8.res.free 0
          have c0 := hs8.op.cell 0
          have r1 := hs8.res.cell 1
          have f1 := hs8.res.free 1
          have c1 := hs8.op.cell 1
          have r2' := hs8.res.cell 2
          have f2 := hs8.res.free 2
          have c2 := hs8.op.cell 2
          have r3 := hs8.res.cell 3
          have f3 := hs8.res.free 3
          have c3 := hs8.op.cell 3
          have r4 := hs8.res.cell 4
          have f4 := hs8.res.free 4
          have c4 := hs8.op.cell 4
          have zr := hs8.res.lt
          have zo := hs8.op.lt
          have hne1 : ¬ ob = w.heap.size := by have := hs8.l2; omega
          have hne2 : ¬ w.heap.size = ob := by have := hs8.l2; omega
          simp at r0 r1 r2' r3 r4 c0 c1 c2 c3 c4
          clear hR8 hg8 hs8 hk21
          go_wp2
          have hf := (((((HS9.out.res.set 0 (.int .i64 (kd2)) (cs' := #[.int .i64 (kd2), .string ⟨#[]⟩, .string ⟨#[]⟩, .int .i64 0, .string ⟨#[]⟩]) rfl).set 1 (.string nm) (cs' := #[.int .i64 (kd2), .string nm, .string ⟨#[]⟩, .int .i64 0, .string ⟨#[]⟩]) rfl).set 2 (.string (⟨#[]⟩ : ByteArray)) (cs' := #[.int .i64 (kd2), .string nm, .string (⟨#[]⟩ : ByteArray), .int .i64 0, .string ⟨#[]⟩]) rfl).set 3 (.int .i64 ((1 + n6))) (cs' := #[.int .i64 (kd2), .string nm, .string (⟨#[]⟩ : ByteArray), .int .i64 ((1 + n6)), .string ⟨#[]⟩]) rfl).set 4 (.string (⟨#[]⟩ : ByteArray)) (cs' := #[.int .i64 (kd2), .string nm, .string ⟨#[]⟩, .int .i64 ((1 + n6)), .string ⟨#[]⟩]) rfl)
          have hgf := grown_new (grown_new (grown_new (grown_new (grown_new HS9.out.g HS9.out.l1 0 (.int .i64 (kd2))) HS9.out.l1 1 (.string nm)) HS9.out.l1 2 (.string (⟨#[]⟩ : ByteArray))) HS9.out.l1 3 (.int .i64 ((1 + n6)))) HS9.out.l1 4 (.string (⟨#[]⟩ : ByteArray))
          have hl4 := HS9.out.l3
          have hrf := (((((HS9.out.rd.set (b := w.heap.size) hl4 0 (.int .i64 (kd2))).set (b := w.heap.size) hl4 1 (.string nm)).set (b := w.heap.size) hl4 2 (.string (⟨#[]⟩ : ByteArray))).set (b := w.heap.size) hl4 3 (.int .i64 ((1 + n6)))).set (b := w.heap.size) hl4 4 (.string (⟨#[]⟩ : ByteArray)))
          refine bodyPost_ret (results_cell_row rfl _ _ w.heap.size 74 #[.int .i64 (kd2), .string nm, .string ⟨#[]⟩, .int .i64 ((1 + n6)), .string ⟨#[]⟩] (0, 0) _ rfl hf Try.underlying74 rfl (by kernel_rfl)) rfl ?_
          exact ⟨_, rfl, ⟨⟨kd2, nm, (⟨#[]⟩ : ByteArray), (1 + n6), (⟨#[]⟩ : ByteArray)⟩, rfl, ⟨by show ByteArray.size nm ≤ _; omega, by show ByteArray.size (⟨#[]⟩ : ByteArray) ≤ _; omega, by show ByteArray.size (⟨#[]⟩ : ByteArray) ≤ _; omega⟩, by show (-100 : Int) ≤ (1 + n6); omega, by show ((1 + n6) : Int) ≤ 100; omega, by show (0 : Int) ≤ kd2; omega, by show (kd2 : Int) ≤ 100; omega⟩, hrf.more (by omega), hgf⟩
        · skip
          have hs8 := HS7.out
          have r0 := hs8.res.cell 0
          have f0 := hs8.res.free 0
          have c0 := hs8.op.cell 0
          have r1 := hs8.res.cell 1
          have f1 := hs8.res.free 1
          have c1 := hs8.op.cell 1
          have r2' := hs8.res.cell 2
          have f2 := hs8.res.free 2
          have c2 := hs8.op.cell 2
          have r3 := hs8.res.cell 3
          have f3 := hs8.res.free 3
          have c3 := hs8.op.cell 3
          have r4 := hs8.res.cell 4
          have f4 := hs8.res.free 4
          have c4 := hs8.op.cell 4
          have zr := hs8.res.lt
          have zo := hs8.op.lt
          have hne1 : ¬ ob = w.heap.size := by have := hs8.l2; omega
          have hne2 : ¬ w.heap.size = ob := by have := hs8.l2; omega
          simp at r0 r1 r2' r3 r4 c0 c1 c2 c3 c4
          clear hs8
          go_wp2
          have hf := (((((HS7.out.res.set 0 (.int .i64 (1)) (cs' := #[.int .i64 (1), .string ⟨#[]⟩, .string ⟨#[]⟩, .int .i64 0, .string ⟨#[]⟩]) rfl).set 1 (.string nm) (cs' := #[.int .i64 (1), .string nm, .string ⟨#[]⟩, .int .i64 0, .string ⟨#[]⟩]) rfl).set 2 (.string (⟨#[]⟩ : ByteArray)) (cs' := #[.int .i64 (1), .string nm, .string (⟨#[]⟩ : ByteArray), .int .i64 0, .string ⟨#[]⟩]) rfl).set 3 (.int .i64 ((1 + n6))) (cs' := #[.int .i64 (1), .string nm, .string (⟨#[]⟩ : ByteArray), .int .i64 ((1 + n6)), .string ⟨#[]⟩]) rfl).set 4 (.string (⟨#[]⟩ : ByteArray)) (cs' := #[.int .i64 (1), .string nm, .string ⟨#[]⟩, .int .i64 ((1 + n6)), .string ⟨#[]⟩]) rfl)
          have hgf := grown_new (grown_new (grown_new (grown_new (grown_new HS7.out.g HS7.out.l1 0 (.int .i64 (1))) HS7.out.l1 1 (.string nm)) HS7.out.l1 2 (.string (⟨#[]⟩ : ByteArray))) HS7.out.l1 3 (.int .i64 ((1 + n6)))) HS7.out.l1 4 (.string (⟨#[]⟩ : ByteArray))
          have hl4 := HS7.out.l3
          have hrf := (((((HS7.out.rd.set (b := w.heap.size) hl4 0 (.int .i64 (1))).set (b := w.heap.size) hl4 1 (.string nm)).set (b := w.heap.size) hl4 2 (.string (⟨#[]⟩ : ByteArray))).set (b := w.heap.size) hl4 3 (.int .i64 ((1 + n6)))).set (b := w.heap.size) hl4 4 (.string (⟨#[]⟩ : ByteArray)))
          refine bodyPost_ret (results_cell_row rfl _ _ w.heap.size 74 #[.int .i64 (1), .string nm, .string ⟨#[]⟩, .int .i64 ((1 + n6)), .string ⟨#[]⟩] (0, 0) _ rfl hf Try.underlying74 rfl (by kernel_rfl)) rfl ?_
          exact ⟨_, rfl, ⟨⟨1, nm, (⟨#[]⟩ : ByteArray), (1 + n6), (⟨#[]⟩ : ByteArray)⟩, rfl, ⟨by show ByteArray.size nm ≤ _; omega, by show ByteArray.size (⟨#[]⟩ : ByteArray) ≤ _; omega, by show ByteArray.size (⟨#[]⟩ : ByteArray) ≤ _; omega⟩, by show (-100 : Int) ≤ (1 + n6); omega, by show ((1 + n6) : Int) ≤ 100; omega, by show (0 : Int) ≤ 1; omega, by show (1 : Int) ≤ 100; omega⟩, hrf.more (by omega), hgf⟩
  by_cases hrz : r = 1
  · subst hrz
    have hs5 := HS5.out
    have c0 := hs5.op.cell 0
    have g0 := hs5.op.free 0
    have c1 := hs5.op.cell 1
    have g1 := hs5.op.free 1
    have c2 := hs5.op.cell 2
    have g2 := hs5.op.free 2
    have c3 := hs5.op.cell 3
    have g3 := hs5.op.free 3
    have c4 := hs5.op.cell 4
    have g4 := hs5.op.free 4
    have zo := hs5.op.lt
    have hne1 : ¬ ob = w.heap.size := by have := hs5.l2; omega
    have hne2 : ¬ w.heap.size = ob := by have := hs5.l2; omega
    simp at c0 c1 c2 c3 c4
    have HRD := Lib.hid hs5.rd
    clear hs5
    go_wp2
    have HP6 := Lib.hid (pick_c (w := w5.drew) (HRD.out.bel (Below.refl _ _).drew) (by omega) 6 (by omega))
    refine start_ (n := 7) (S := fun w' => w'.cell? ⟨ob, 1, none⟩ = some (.string nm)) (ds := [6]) #[false, false, false, false, false, false, false] (by kernel_rfl) rfl rfl (c1) (fun hHeld => ?_)
    refine pure_ (i := 0) (N := some 17) (v := ?_) (a' := ?_) #[true, false, false, false, false, false, false] rfl rfl (by kernel_rfl) (fun _ _ _ h => h) (Or.inl ⟨by rfl, ?_⟩) ?_ ?_
    rotate_left
    · intro w'
      go_simp
      with_reducible rfl
    rotate_left
    · simp only [Act.put, List.setIfInBounds_toArray, List.set_cons_zero, List.set_cons_succ, i64_w, i32_w]
      rfl
    refine pure_ (i := 2) (N := some 19) (v := ?_) (a' := ?_) #[true, false, true, false, false, false, false] rfl rfl (by kernel_rfl) (fun _ _ _ h => h) (Or.inl ⟨by rfl, ?_⟩) ?_ ?_
    rotate_left
    · intro w'
      go_simp
      with_reducible rfl
    rotate_left
    · simp only [Act.put, List.setIfInBounds_toArray, List.set_cons_zero, List.set_cons_succ, i64_w, i32_w]
      rfl
    refine take_ (i := 1) (N := some 18) (v := ?_) (a' := ?_) #[true, true, true, false, false, false, false] rfl rfl (by kernel_rfl) (fun _ _ _ h => h) (Or.inl ⟨by rfl, ?_⟩) hHeld ?_ ?_
    rotate_left
    · intro w' s0
      go_simp
      with_reducible rfl
    rotate_left
    · simp only [Act.put, List.setIfInBounds_toArray, List.set_cons_zero, List.set_cons_succ, i64_w, i32_w]
      rfl
    refine one_ (i := 3) (N := some 20) #[true, true, true, true, false, false, false] rfl rfl (by kernel_rfl) (by decide) (fun K hK => ?_)
    refine goes_ Try.func96 (by kernel_rfl) rfl #[.pointer (some ⟨rb, 0, none⟩), .int .i64 6] (by rfl) rfl rfl (by simp only [List.map_toArray, List.map_cons, List.map_nil]; rfl) ?_
    with_reducible refine (HP6.out).mono ?_
    rintro e w6 ⟨v, rfl, ⟨n6, rfl, hn60, hn61, -⟩, hR6, hg6⟩
    have hn62 := hn61 (by omega)
    have hs6 := OpSt.step (W := w5.drew) (HS5.out.bel (Below.refl _ _).drew) hR6 hg6
    have HS6 := Lib.hid hs6
    have c0 := hs6.op.cell 0
    have g0 := hs6.op.free 0
    have c1 := hs6.op.cell 1
    have g1 := hs6.op.free 1
    have c2 := hs6.op.cell 2
    have g2 := hs6.op.free 2
    have c3 := hs6.op.cell 3
    have g3 := hs6.op.free 3
    have c4 := hs6.op.cell 4
    have g4 := hs6.op.free 4
    have zo := hs6.op.lt
    have hne1 : ¬ ob = w.heap.size := by have := hs6.l2; omega
    have hne2 : ¬ w.heap.size = ob := by have := hs6.l2; omega
    simp at c0 c1 c2 c3 c4
    have hwn : wrap64 (1 + n6) = 1 + n6 := by unfold wrap64; omega
    clear hR6 hg6 hn61 hs6
    refine ⟨_, rfl, ?_⟩
    refine hK.out _ _ (c1) (fun hHeld => ?_)
    clear hK K
    refine norm_ (a' := ?_) ?_ ?_
    rotate_left
    · show Act.put _ (some 20) _ = _
      simp only [Act.put, List.setIfInBounds_toArray, List.set_cons_zero, List.set_cons_succ, i64_w, i32_w]
      rfl
    refine pure_ (i := 4) (N := some 21) (v := ?_) (a' := ?_) #[true, true, true, true, true, false, false] rfl rfl (by kernel_rfl) (fun _ _ _ h => h) (Or.inl ⟨by rfl, ?_⟩) ?_ ?_
    rotate_left
    · intro w'
      go_simp
      with_reducible rfl
    rotate_left
    · simp only [Act.put, List.setIfInBounds_toArray, List.set_cons_zero, List.set_cons_succ, i64_w, i32_w]
      rfl
    refine pure_ (i := 5) (N := some 22) (v := ?_) (a' := ?_) #[true, true, true, true, true, true, false] rfl rfl (by kernel_rfl) (fun _ _ _ h => h) (Or.inl ⟨by rfl, ?_⟩) ?_ ?_
    rotate_left
    · intro w'
      go_simp
      with_reducible rfl
    rotate_left
    · simp only [Act.put, List.setIfInBounds_toArray, List.set_cons_zero, List.set_cons_succ, i64_w, i32_w]
      rfl
    refine last_ (i := 6) (N := none) #[true, true, true, true, true, true, true] rfl rfl (by kernel_rfl) (by decide) (fun K hK => ?_)
    refine skip_ (w1 := ?_) (by rfl) rfl ?_ ?_
    rotate_left
    · go_simp
      rfl
    refine hK.out _ _ ?_
    clear hK K
    refine done_ (by kernel_rfl) ?_
    clear hHeld hwn
    have hs := (((((HS6.out.set 0 (.int .i64 (1)) (cs' := #[.int .i64 (1), .string nm, .string ⟨#[]⟩, .int .i64 n0, .string tx]) rfl).set 1 (.string nm) (cs' := #[.int .i64 (1), .string nm, .string ⟨#[]⟩, .int .i64 n0, .string tx]) rfl).set 2 (.string (⟨#[]⟩ : ByteArray)) (cs' := #[.int .i64 (1), .string nm, .string (⟨#[]⟩ : ByteArray), .int .i64 n0, .string tx]) rfl).set 3 (.int .i64 (1 + n6)) (cs' := #[.int .i64 (1), .string nm, .string (⟨#[]⟩ : ByteArray), .int .i64 (1 + n6), .string tx]) rfl).set 4 (.string (⟨#[]⟩ : ByteArray)) (cs' := #[.int .i64 (1), .string nm, .string (⟨#[]⟩ : ByteArray), .int .i64 (1 + n6), .string (⟨#[]⟩ : ByteArray)]) rfl)
    clear c0 c1 c2 c3 c4 g0 g1 g2 g3 g4
    generalize (((((w6.setCell ⟨ob, 0, none⟩ (.int .i64 (1))).setCell ⟨ob, 1, none⟩ (.string nm)).setCell ⟨ob, 2, none⟩ (.string (⟨#[]⟩ : ByteArray))).setCell ⟨ob, 3, none⟩ (.int .i64 (1 + n6))).setCell ⟨ob, 4, none⟩ (.string (⟨#[]⟩ : ByteArray))) = WW at hs ⊢
    have HSS := Lib.hid hs
    clear hs
    go_wp2_with fail
    refine (pick_c HSS.out.rd (by omega) 30 (by omega)).mono ?_
    rintro e w7 ⟨v, rfl, ⟨q, rfl, hq0, hq1, -⟩, hR7, hg7⟩
    have HS7 := Lib.hid (HSS.out.step hR7 hg7)
    have hq2 := hq1 (by omega)
    clear hR7 hg7 hq1
    by_cases hqa : q = 0
    · subst hqa
      go_wp2_with fail
      have hB : Blk (w7.alloc (.cells #[.string ⟨#[]⟩, .string ⟨#[69]⟩, .string ⟨#[65, 65]⟩] 9)) w7.heap.size (bad.map Value.string).toArray 9 := Blk.new w7 _ _
      have hne : w7.heap.size ≠ rb := by have := HS7.out.rd.lt; omega
      have hst8 := HS7.out.bel (bel_alloc (Below.refl _ _) (.cells #[.string ⟨#[]⟩, .string ⟨#[69]⟩, .string ⟨#[65, 65]⟩] 9))
      refine (of_c hst8.rd (by omega) hB hne (by decide) (by decide) 3 3 rfl (by omega)).mono ?_
      rintro e w8 ⟨v, rfl, ⟨nm2, rfl, hnm2⟩, hR8, hg8⟩
      have hnz2 := bad_size hnm2
      have hs8 := hst8.step hR8 hg8
      have HS9 := Lib.hid (hs8.set 1 (.string nm2) (cs' := #[.int .i64 1, .string nm2, .string ⟨#[]⟩, .int .i64 (1 + n6), .string ⟨#[]⟩]) rfl)
      have sf1 := hs8.op.free 1
      have r0 := hs8.res.cell 0
      have f0 := hs8.res.free 0
      have c0 := hs8.op.cell 0
      have r1 := hs8.res.cell 1
      have f1 := hs8.res.free 1
      have c1 := hs8.op.cell 1
      have r2' := hs8.res.cell 2
      have f2 := hs8.res.free 2
      have c2 := hs8.op.cell 2
      have r3 := hs8.res.cell 3
      have f3 := hs8.res.free 3
      have c3 := hs8.op.cell 3
      have r4 := hs8.res.cell 4
      have f4 := hs8.res.free 4
      have c4 := hs8.op.cell 4
      have zr := hs8.res.lt
      have zo := hs8.op.lt
      have hne1 : ¬ ob = w.heap.size := by have := hs8.l2; omega
      have hne2 : ¬ w.heap.size = ob := by have := hs8.l2; omega
      simp at r0 r1 r2' r3 r4 c0 c1 c2 c3 c4
      clear hB hne hst8 hnm2 hR8 hg8 hs8
      go_wp2
      have hf := (((((HS9.out.res.set 0 (.int .i64 (1)) (cs' := #[.int .i64 (1), .string ⟨#[]⟩, .string ⟨#[]⟩, .int .i64 0, .string ⟨#[]⟩]) rfl).set 1 (.string nm2) (cs' := #[.int .i64 (1), .string nm2, .string ⟨#[]⟩, .int .i64 0, .string ⟨#[]⟩]) rfl).set 2 (.string (⟨#[]⟩ : ByteArray)) (cs' := #[.int .i64 (1), .string nm2, .string (⟨#[]⟩ : ByteArray), .int .i64 0, .string ⟨#[]⟩]) rfl).set 3 (.int .i64 ((1 + n6))) (cs' := #[.int .i64 (1), .string nm2, .string (⟨#[]⟩ : ByteArray), .int .i64 ((1 + n6)), .string ⟨#[]⟩]) rfl).set 4 (.string (⟨#[]⟩ : ByteArray)) (cs' := #[.int .i64 (1), .string nm2, .string ⟨#[]⟩, .int .i64 ((1 + n6)), .string ⟨#[]⟩]) rfl)
      have hgf := grown_new (grown_new (grown_new (grown_new (grown_new HS9.out.g HS9.out.l1 0 (.int .i64 (1))) HS9.out.l1 1 (.string nm2)) HS9.out.l1 2 (.string (⟨#[]⟩ : ByteArray))) HS9.out.l1 3 (.int .i64 ((1 + n6)))) HS9.out.l1 4 (.string (⟨#[]⟩ : ByteArray))
      have hl4 := HS9.out.l3
      have hrf := (((((HS9.out.rd.set (b := w.heap.size) hl4 0 (.int .i64 (1))).set (b := w.heap.size) hl4 1 (.string nm2)).set (b := w.heap.size) hl4 2 (.string (⟨#[]⟩ : ByteArray))).set (b := w.heap.size) hl4 3 (.int .i64 ((1 + n6)))).set (b := w.heap.size) hl4 4 (.string (⟨#[]⟩ : ByteArray)))
      refine bodyPost_ret (results_cell_row rfl _ _ w.heap.size 74 #[.int .i64 (1), .string nm2, .string ⟨#[]⟩, .int .i64 ((1 + n6)), .string ⟨#[]⟩] (0, 0) _ rfl hf Try.underlying74 rfl (by kernel_rfl)) rfl ?_
      exact ⟨_, rfl, ⟨⟨1, nm2, (⟨#[]⟩ : ByteArray), (1 + n6), (⟨#[]⟩ : ByteArray)⟩, rfl, ⟨by show ByteArray.size nm2 ≤ _; omega, by show ByteArray.size (⟨#[]⟩ : ByteArray) ≤ _; omega, by show ByteArray.size (⟨#[]⟩ : ByteArray) ≤ _; omega⟩, by show (-100 : Int) ≤ (1 + n6); omega, by show ((1 + n6) : Int) ≤ 100; omega, by show (0 : Int) ≤ 1; omega, by show (1 : Int) ≤ 100; omega⟩, hrf.more (by omega), hgf⟩
    · by_cases hqb : q = 1
      · subst hqb
        go_wp2_with fail
        refine (pick_c HS7.out.rd (by omega) 9 (by omega)).mono ?_
        rintro e w8 ⟨v, rfl, ⟨n2, rfl, hn20, hn21, -⟩, hR8, hg8⟩
        have hn22 := hn21 (by omega)
        have hs8 := HS7.out.step hR8 hg8
        have HS9 := Lib.hid (hs8.set 3 (.int .i64 (n2 - 1)) (cs' := #[.int .i64 1, .string nm, .string ⟨#[]⟩, .int .i64 (n2 - 1), .string ⟨#[]⟩]) rfl)
        have sf3 := hs8.op.free 3
        have r0 := hs8.res.cell 0
        have f0 := hs8.res.free 0
        have c0 := hs8.op.cell 0
        have r1 := hs8.res.cell 1
        have f1 := hs8.res.free 1
        have c1 := hs8.op.cell 1
        have r2' := hs8.res.cell 2
        have f2 := hs8.res.free 2
        have c2 := hs8.op.cell 2
        have r3 := hs8.res.cell 3
        have f3 := hs8.res.free 3
        have c3 := hs8.op.cell 3
        have r4 := hs8.res.cell 4
        have f4 := hs8.res.free 4
        have c4 := hs8.op.cell 4
        have zr := hs8.res.lt
        have zo := hs8.op.lt
        have hne1 : ¬ ob = w.heap.size := by have := hs8.l2; omega
        have hne2 : ¬ w.heap.size = ob := by have := hs8.l2; omega
        simp at r0 r1 r2' r3 r4 c0 c1 c2 c3 c4
        clear hR8 hg8 hs8 hn21
        go_wp2
        have hf := (((((HS9.out.res.set 0 (.int .i64 (1)) (cs' := #[.int .i64 (1), .string ⟨#[]⟩, .string ⟨#[]⟩, .int .i64 0, .string ⟨#[]⟩]) rfl).set 1 (.string nm) (cs' := #[.int .i64 (1), .string nm, .string ⟨#[]⟩, .int .i64 0, .string ⟨#[]⟩]) rfl).set 2 (.string (⟨#[]⟩ : ByteArray)) (cs' := #[.int .i64 (1), .string nm, .string (⟨#[]⟩ : ByteArray), .int .i64 0, .string ⟨#[]⟩]) rfl).set 3 (.int .i64 (n2 - 1)) (cs' := #[.int .i64 (1), .string nm, .string (⟨#[]⟩ : ByteArray), .int .i64 (n2 - 1), .string ⟨#[]⟩]) rfl).set 4 (.string (⟨#[]⟩ : ByteArray)) (cs' := #[.int .i64 (1), .string nm, .string ⟨#[]⟩, .int .i64 (n2 - 1), .string ⟨#[]⟩]) rfl)
        have hgf := grown_new (grown_new (grown_new (grown_new (grown_new HS9.out.g HS9.out.l1 0 (.int .i64 (1))) HS9.out.l1 1 (.string nm)) HS9.out.l1 2 (.string (⟨#[]⟩ : ByteArray))) HS9.out.l1 3 (.int .i64 (n2 - 1))) HS9.out.l1 4 (.string (⟨#[]⟩ : ByteArray))
        have hl4 := HS9.out.l3
        have hrf := (((((HS9.out.rd.set (b := w.heap.size) hl4 0 (.int .i64 (1))).set (b := w.heap.size) hl4 1 (.string nm)).set (b := w.heap.size) hl4 2 (.string (⟨#[]⟩ : ByteArray))).set (b := w.heap.size) hl4 3 (.int .i64 (n2 - 1))).set (b := w.heap.size) hl4 4 (.string (⟨#[]⟩ : ByteArray)))
        refine bodyPost_ret (results_cell_row rfl _ _ w.heap.size 74 #[.int .i64 (1), .string nm, .string ⟨#[]⟩, .int .i64 (n2 - 1), .string ⟨#[]⟩] (0, 0) _ rfl hf Try.underlying74 rfl (by kernel_rfl)) rfl ?_
        exact ⟨_, rfl, ⟨⟨1, nm, (⟨#[]⟩ : ByteArray), n2 - 1, (⟨#[]⟩ : ByteArray)⟩, rfl, ⟨by show ByteArray.size nm ≤ _; omega, by show ByteArray.size (⟨#[]⟩ : ByteArray) ≤ _; omega, by show ByteArray.size (⟨#[]⟩ : ByteArray) ≤ _; omega⟩, by show (-100 : Int) ≤ n2 - 1; omega, by show (n2 - 1 : Int) ≤ 100; omega, by show (0 : Int) ≤ 1; omega, by show (1 : Int) ≤ 100; omega⟩, hrf.more (by omega), hgf⟩
      · by_cases hqc : q = 2
        · subst hqc
          go_wp2_with fail
          refine (pick_c HS7.out.rd (by omega) 6 (by omega)).mono ?_
          rintro e w8 ⟨v, rfl, ⟨kd2, rfl, hk20, hk21, -⟩, hR8, hg8⟩
          have hk22 := hk21 (by omega)
          have hs8 := HS7.out.step hR8 hg8
          have HS9 := Lib.hid (hs8.set 0 (.int .i64 kd2) (cs' := #[.int .i64 kd2, .string nm, .string ⟨#[]⟩, .int .i64 (1 + n6), .string ⟨#[]⟩]) rfl)
          have sf0 := hs8.op.free 0
          have r0 := hs8.res.cell 0
          have f0 := hs8.res.free 0
          have c0 := hs8.op.cell 0
          have r1 := hs8.res.cell 1
          have f1 := hs8.res.free 1
          have c1 := hs8.op.cell 1
          have r2' := hs8.res.cell 2
          have f2 := hs8.res.free 2
          have c2 := hs8.op.cell 2
          have r3 := hs8.res.cell 3
          have f3 := hs8.res.free 3
          have c3 := hs8.op.cell 3
          have r4 := hs8.res.cell 4
          have f4 := hs8.res.free 4
          have c4 := hs8.op.cell 4
          have zr := hs8.res.lt
          have zo := hs8.op.lt
          have hne1 : ¬ ob = w.heap.size := by have := hs8.l2; omega
          have hne2 : ¬ w.heap.size = ob := by have := hs8.l2; omega
          simp at r0 r1 r2' r3 r4 c0 c1 c2 c3 c4
          clear hR8 hg8 hs8 hk21
          go_wp2
          have hf := (((((HS9.out.res.set 0 (.int .i64 (kd2)) (cs' := #[.int .i64 (kd2), .string ⟨#[]⟩, .string ⟨#[]⟩, .int .i64 0, .string ⟨#[]⟩]) rfl).set 1 (.string nm) (cs' := #[.int .i64 (kd2), .string nm, .string ⟨#[]⟩, .int .i64 0, .string ⟨#[]⟩]) rfl).set 2 (.string (⟨#[]⟩ : ByteArray)) (cs' := #[.int .i64 (kd2), .string nm, .string (⟨#[]⟩ : ByteArray), .int .i64 0, .string ⟨#[]⟩]) rfl).set 3 (.int .i64 ((1 + n6))) (cs' := #[.int .i64 (kd2), .string nm, .string (⟨#[]⟩ : ByteArray), .int .i64 ((1 + n6)), .string ⟨#[]⟩]) rfl).set 4 (.string (⟨#[]⟩ : ByteArray)) (cs' := #[.int .i64 (kd2), .string nm, .string ⟨#[]⟩, .int .i64 ((1 + n6)), .string ⟨#[]⟩]) rfl)
          have hgf := grown_new (grown_new (grown_new (grown_new (grown_new HS9.out.g HS9.out.l1 0 (.int .i64 (kd2))) HS9.out.l1 1 (.string nm)) HS9.out.l1 2 (.string (⟨#[]⟩ : ByteArray))) HS9.out.l1 3 (.int .i64 ((1 + n6)))) HS9.out.l1 4 (.string (⟨#[]⟩ : ByteArray))
          have hl4 := HS9.out.l3
          have hrf := (((((HS9.out.rd.set (b := w.heap.size) hl4 0 (.int .i64 (kd2))).set (b := w.heap.size) hl4 1 (.string nm)).set (b := w.heap.size) hl4 2 (.string (⟨#[]⟩ : ByteArray))).set (b := w.heap.size) hl4 3 (.int .i64 ((1 + n6)))).set (b := w.heap.size) hl4 4 (.string (⟨#[]⟩ : ByteArray)))
          refine bodyPost_ret (results_cell_row rfl _ _ w.heap.size 74 #[.int .i64 (kd2), .string nm, .string ⟨#[]⟩, .int .i64 ((1 + n6)), .string ⟨#[]⟩] (0, 0) _ rfl hf Try.underlying74 rfl (by kernel_rfl)) rfl ?_
          exact ⟨_, rfl, ⟨⟨kd2, nm, (⟨#[]⟩ : ByteArray), (1 + n6), (⟨#[]⟩ : ByteArray)⟩, rfl, ⟨by show ByteArray.size nm ≤ _; omega, by show ByteArray.size (⟨#[]⟩ : ByteArray) ≤ _; omega, by show ByteArray.size (⟨#[]⟩ : ByteArray) ≤ _; omega⟩, by show (-100 : Int) ≤ (1 + n6); omega, by show ((1 + n6) : Int) ≤ 100; omega, by show (0 : Int) ≤ kd2; omega, by show (kd2 : Int) ≤ 100; omega⟩, hrf.more (by omega), hgf⟩
        · skip
          have hs8 := HS7.out
          have r0 := hs8.res.cell 0
          have f0 := hs8.res.free 0
          have c0 := hs8.op.cell 0
          have r1 := hs8.res.cell 1
          have f1 := hs8.res.free 1
          have c1 := hs8.op.cell 1
          have r2' := hs8.res.cell 2
          have f2 := hs8.res.free 2
          have c2 := hs8.op.cell 2
          have r3 := hs8.res.cell 3
          have f3 := hs8.res.free 3
          have c3 := hs8.op.cell 3
          have r4 := hs8.res.cell 4
          have f4 := hs8.res.free 4
          have c4 := hs8.op.cell 4
          have zr := hs8.res.lt
          have zo := hs8.op.lt
          have hne1 : ¬ ob = w.heap.size := by have := hs8.l2; omega
          have hne2 : ¬ w.heap.size = ob := by have := hs8.l2; omega
          simp at r0 r1 r2' r3 r4 c0 c1 c2 c3 c4
          clear hs8
          go_wp2
          have hf := (((((HS7.out.res.set 0 (.int .i64 (1)) (cs' := #[.int .i64 (1), .string ⟨#[]⟩, .string ⟨#[]⟩, .int .i64 0, .string ⟨#[]⟩]) rfl).set 1 (.string nm) (cs' := #[.int .i64 (1), .string nm, .string ⟨#[]⟩, .int .i64 0, .string ⟨#[]⟩]) rfl).set 2 (.string (⟨#[]⟩ : ByteArray)) (cs' := #[.int .i64 (1), .string nm, .string (⟨#[]⟩ : ByteArray), .int .i64 0, .string ⟨#[]⟩]) rfl).set 3 (.int .i64 ((1 + n6))) (cs' := #[.int .i64 (1), .string nm, .string (⟨#[]⟩ : ByteArray), .int .i64 ((1 + n6)), .string ⟨#[]⟩]) rfl).set 4 (.string (⟨#[]⟩ : ByteArray)) (cs' := #[.int .i64 (1), .string nm, .string ⟨#[]⟩, .int .i64 ((1 + n6)), .string ⟨#[]⟩]) rfl)
          have hgf := grown_new (grown_new (grown_new (grown_new (grown_new HS7.out.g HS7.out.l1 0 (.int .i64 (1))) HS7.out.l1 1 (.string nm)) HS7.out.l1 2 (.string (⟨#[]⟩ : ByteArray))) HS7.out.l1 3 (.int .i64 ((1 + n6)))) HS7.out.l1 4 (.string (⟨#[]⟩ : ByteArray))
          have hl4 := HS7.out.l3
          have hrf := (((((HS7.out.rd.set (b := w.heap.size) hl4 0 (.int .i64 (1))).set (b := w.heap.size) hl4 1 (.string nm)).set (b := w.heap.size) hl4 2 (.string (⟨#[]⟩ : ByteArray))).set (b := w.heap.size) hl4 3 (.int .i64 ((1 + n6)))).set (b := w.heap.size) hl4 4 (.string (⟨#[]⟩ : ByteArray)))
          refine bodyPost_ret (results_cell_row rfl _ _ w.heap.size 74 #[.int .i64 (1), .string nm, .string ⟨#[]⟩, .int .i64 ((1 + n6)), .string ⟨#[]⟩] (0, 0) _ rfl hf Try.underlying74 rfl (by kernel_rfl)) rfl ?_
          exact ⟨_, rfl, ⟨⟨1, nm, (⟨#[]⟩ : ByteArray), (1 + n6), (⟨#[]⟩ : ByteArray)⟩, rfl, ⟨by show ByteArray.size nm ≤ _; omega, by show ByteArray.size (⟨#[]⟩ : ByteArray) ≤ _; omega, by show ByteArray.size (⟨#[]⟩ : ByteArray) ≤ _; omega⟩, by show (-100 : Int) ≤ (1 + n6); omega, by show ((1 + n6) : Int) ≤ 100; omega, by show (0 : Int) ≤ 1; omega, by show (1 : Int) ≤ 100; omega⟩, hrf.more (by omega), hgf⟩
  by_cases hrb : r = 2
  · subst hrb
    have hs5 := HS5.out
    have c0 := hs5.op.cell 0
    have g0 := hs5.op.free 0
    have c1 := hs5.op.cell 1
    have g1 := hs5.op.free 1
    have c2 := hs5.op.cell 2
    have g2 := hs5.op.free 2
    have c3 := hs5.op.cell 3
    have g3 := hs5.op.free 3
    have c4 := hs5.op.cell 4
    have g4 := hs5.op.free 4
    have zo := hs5.op.lt
    have hne1 : ¬ ob = w.heap.size := by have := hs5.l2; omega
    have hne2 : ¬ w.heap.size = ob := by have := hs5.l2; omega
    simp at c0 c1 c2 c3 c4
    have HRD := Lib.hid hs5.rd
    clear hs5
    go_wp2
    have HP6 := Lib.hid (of_c (w := (w5.alloc (.cells #[.string ⟨#[65]⟩, .string ⟨#[66]⟩, .string ⟨#[67]⟩, .string ⟨#[68]⟩] 9)).drew) (xs := nms) (T := 9) (lb := w5.heap.size) (HRD.out.bel (bel_alloc (Below.refl _ _) _).drew) (by omega) ((Blk.new w5 _ _).bel (Below.refl _ _).drew) (by have := HRD.out.lt; omega) (by decide) (by decide) 4 4 rfl (by omega))
    refine start_ (n := 7) (S := fun w' => w'.cell? ⟨ob, 1, none⟩ = some (.string nm)) (ds := [6]) #[false, false, false, false, false, false, false] (by kernel_rfl) rfl rfl (c1) (fun hHeld => ?_)
    refine pure_ (i := 0) (N := some 25) (v := ?_) (a' := ?_) #[true, false, false, false, false, false, false] rfl rfl (by kernel_rfl) (fun _ _ _ h => h) (Or.inl ⟨by rfl, ?_⟩) ?_ ?_
    rotate_left
    · intro w'
      go_simp
      with_reducible rfl
    rotate_left
    · simp only [Act.put, List.setIfInBounds_toArray, List.set_cons_zero, List.set_cons_succ, i64_w, i32_w]
      rfl
    refine pure_ (i := 2) (N := some 27) (v := ?_) (a' := ?_) #[true, false, true, false, false, false, false] rfl rfl (by kernel_rfl) (fun _ _ _ h => h) (Or.inl ⟨by rfl, ?_⟩) ?_ ?_
    rotate_left
    · intro w'
      go_simp
      with_reducible rfl
    rotate_left
    · simp only [Act.put, List.setIfInBounds_toArray, List.set_cons_zero, List.set_cons_succ, i64_w, i32_w]
      rfl
    refine take_ (i := 1) (N := some 26) (v := ?_) (a' := ?_) #[true, true, true, false, false, false, false] rfl rfl (by kernel_rfl) (fun _ _ _ h => h) (Or.inl ⟨by rfl, ?_⟩) hHeld ?_ ?_
    rotate_left
    · intro w' s0
      go_simp
      with_reducible rfl
    rotate_left
    · simp only [Act.put, List.setIfInBounds_toArray, List.set_cons_zero, List.set_cons_succ, i64_w, i32_w]
      rfl
    refine one_ (i := 3) (N := some 28) #[true, true, true, true, false, false, false] rfl rfl (by kernel_rfl) (by decide) (fun K hK => ?_)
    refine value_ (w1 := ?_) (v := ?_) (by rfl) rfl ?_ ?_
    rotate_left 2
    · go_simp
      constructor
      · rfl
      · rfl
    have c1b := (HS5.out.bel (bel_alloc (Below.refl _ _) (.cells #[.string ⟨#[65]⟩, .string ⟨#[66]⟩, .string ⟨#[67]⟩, .string ⟨#[68]⟩] 9)).drew).op.cell 1
    simp at c1b
    refine hK.out _ _ (c1b) (fun hHeld => ?_)
    clear hK K
    refine norm_ (a' := ?_) ?_ ?_
    rotate_left
    · show Act.put _ (some 28) _ = _
      simp only [Act.put, List.setIfInBounds_toArray, List.set_cons_zero, List.set_cons_succ, i64_w, i32_w]
      rfl
    refine one_ (i := 4) (N := some 29) #[true, true, true, true, true, false, false] rfl rfl (by kernel_rfl) (by decide) (fun K hK => ?_)
    refine goes_ Try.func106 (by kernel_rfl) rfl #[.pointer (some ⟨rb, 0, none⟩), .slice (some ⟨w5.heap.size, 0, none⟩) 4 4] (by rfl) rfl rfl (by simp only [List.map_toArray, List.map_cons, List.map_nil]; rfl) ?_
    with_reducible refine (HP6.out).mono ?_
    rintro e w6 ⟨v, rfl, ⟨d6, rfl, hd6⟩, hR6, hg6⟩
    have hdz := nms_size hd6
    have hs6 := OpSt.step (HS5.out.bel (bel_alloc (Below.refl _ _) (.cells #[.string ⟨#[65]⟩, .string ⟨#[66]⟩, .string ⟨#[67]⟩, .string ⟨#[68]⟩] 9)).drew) hR6 hg6
    have HS6 := Lib.hid hs6
    have c0 := hs6.op.cell 0
    have g0 := hs6.op.free 0
    have c1 := hs6.op.cell 1
    have g1 := hs6.op.free 1
    have c2 := hs6.op.cell 2
    have g2 := hs6.op.free 2
    have c3 := hs6.op.cell 3
    have g3 := hs6.op.free 3
    have c4 := hs6.op.cell 4
    have g4 := hs6.op.free 4
    have zo := hs6.op.lt
    have hne1 : ¬ ob = w.heap.size := by have := hs6.l2; omega
    have hne2 : ¬ w.heap.size = ob := by have := hs6.l2; omega
    simp at c0 c1 c2 c3 c4
    clear hR6 hg6 hd6 hs6
    refine ⟨_, rfl, ?_⟩
    refine hK.out _ _ (c1) (fun hHeld => ?_)
    clear hK K
    refine norm_ (a' := ?_) ?_ ?_
    rotate_left
    · show Act.put _ (some 29) _ = _
      simp only [Act.put, List.setIfInBounds_toArray, List.set_cons_zero, List.set_cons_succ, i64_w, i32_w]
      rfl
    refine pure_ (i := 5) (N := some 30) (v := ?_) (a' := ?_) #[true, true, true, true, true, true, false] rfl rfl (by kernel_rfl) (fun _ _ _ h => h) (Or.inl ⟨by rfl, ?_⟩) ?_ ?_
    rotate_left
    · intro w'
      go_simp
      with_reducible rfl
    rotate_left
    · simp only [Act.put, List.setIfInBounds_toArray, List.set_cons_zero, List.set_cons_succ, i64_w, i32_w]
      rfl
    refine last_ (i := 6) (N := none) #[true, true, true, true, true, true, true] rfl rfl (by kernel_rfl) (by decide) (fun K hK => ?_)
    refine skip_ (w1 := ?_) (by rfl) rfl ?_ ?_
    rotate_left
    · go_simp
      rfl
    refine hK.out _ _ ?_
    clear hK K
    refine done_ (by kernel_rfl) ?_
    clear hHeld
    have hs := (((((HS6.out.set 0 (.int .i64 (3)) (cs' := #[.int .i64 (3), .string nm, .string ⟨#[]⟩, .int .i64 n0, .string tx]) rfl).set 1 (.string nm) (cs' := #[.int .i64 (3), .string nm, .string ⟨#[]⟩, .int .i64 n0, .string tx]) rfl).set 2 (.string d6) (cs' := #[.int .i64 (3), .string nm, .string d6, .int .i64 n0, .string tx]) rfl).set 3 (.int .i64 (0)) (cs' := #[.int .i64 (3), .string nm, .string d6, .int .i64 (0), .string tx]) rfl).set 4 (.string (⟨#[]⟩ : ByteArray)) (cs' := #[.int .i64 (3), .string nm, .string d6, .int .i64 (0), .string (⟨#[]⟩ : ByteArray)]) rfl)
    clear c0 c1 c2 c3 c4 g0 g1 g2 g3 g4
    generalize (((((w6.setCell ⟨ob, 0, none⟩ (.int .i64 (3))).setCell ⟨ob, 1, none⟩ (.string nm)).setCell ⟨ob, 2, none⟩ (.string d6)).setCell ⟨ob, 3, none⟩ (.int .i64 (0))).setCell ⟨ob, 4, none⟩ (.string (⟨#[]⟩ : ByteArray))) = WW at hs ⊢
    have HSS := Lib.hid hs
    clear hs
    go_wp2_with fail
    refine (pick_c HSS.out.rd (by omega) 30 (by omega)).mono ?_
    rintro e w7 ⟨v, rfl, ⟨q, rfl, hq0, hq1, -⟩, hR7, hg7⟩
    have HS7 := Lib.hid (HSS.out.step hR7 hg7)
    have hq2 := hq1 (by omega)
    clear hR7 hg7 hq1
    by_cases hqa : q = 0
    · subst hqa
      go_wp2_with fail
      have hB : Blk (w7.alloc (.cells #[.string ⟨#[]⟩, .string ⟨#[69]⟩, .string ⟨#[65, 65]⟩] 9)) w7.heap.size (bad.map Value.string).toArray 9 := Blk.new w7 _ _
      have hne : w7.heap.size ≠ rb := by have := HS7.out.rd.lt; omega
      have hst8 := HS7.out.bel (bel_alloc (Below.refl _ _) (.cells #[.string ⟨#[]⟩, .string ⟨#[69]⟩, .string ⟨#[65, 65]⟩] 9))
      refine (of_c hst8.rd (by omega) hB hne (by decide) (by decide) 3 3 rfl (by omega)).mono ?_
      rintro e w8 ⟨v, rfl, ⟨nm2, rfl, hnm2⟩, hR8, hg8⟩
      have hnz2 := bad_size hnm2
      have hs8 := hst8.step hR8 hg8
      have HS9 := Lib.hid (hs8.set 1 (.string nm2) (cs' := #[.int .i64 3, .string nm2, .string d6, .int .i64 0, .string ⟨#[]⟩]) rfl)
      have sf1 := hs8.op.free 1
      have r0 := hs8.res.cell 0
      have f0 := hs8.res.free 0
      have c0 := hs8.op.cell 0
      have r1 := hs8.res.cell 1
      have f1 := hs8.res.free 1
      have c1 := hs8.op.cell 1
      have r2' := hs8.res.cell 2
      have f2 := hs8.res.free 2
      have c2 := hs8.op.cell 2
      have r3 := hs8.res.cell 3
      have f3 := hs8.res.free 3
      have c3 := hs8.op.cell 3
      have r4 := hs8.res.cell 4
      have f4 := hs8.res.free 4
      have c4 := hs8.op.cell 4
      have zr := hs8.res.lt
      have zo := hs8.op.lt
      have hne1 : ¬ ob = w.heap.size := by have := hs8.l2; omega
      have hne2 : ¬ w.heap.size = ob := by have := hs8.l2; omega
      simp at r0 r1 r2' r3 r4 c0 c1 c2 c3 c4
      clear hB hne hst8 hnm2 hR8 hg8 hs8
      go_wp2
      have hf := (((((HS9.out.res.set 0 (.int .i64 (3)) (cs' := #[.int .i64 (3), .string ⟨#[]⟩, .string ⟨#[]⟩, .int .i64 0, .string ⟨#[]⟩]) rfl).set 1 (.string nm2) (cs' := #[.int .i64 (3), .string nm2, .string ⟨#[]⟩, .int .i64 0, .string ⟨#[]⟩]) rfl).set 2 (.string d6) (cs' := #[.int .i64 (3), .string nm2, .string d6, .int .i64 0, .string ⟨#[]⟩]) rfl).set 3 (.int .i64 (0)) (cs' := #[.int .i64 (3), .string nm2, .string d6, .int .i64 (0), .string ⟨#[]⟩]) rfl).set 4 (.string (⟨#[]⟩ : ByteArray)) (cs' := #[.int .i64 (3), .string nm2, .string d6, .int .i64 (0), .string ⟨#[]⟩]) rfl)
      have hgf := grown_new (grown_new (grown_new (grown_new (grown_new HS9.out.g HS9.out.l1 0 (.int .i64 (3))) HS9.out.l1 1 (.string nm2)) HS9.out.l1 2 (.string d6)) HS9.out.l1 3 (.int .i64 (0))) HS9.out.l1 4 (.string (⟨#[]⟩ : ByteArray))
      have hl4 := HS9.out.l3
      have hrf := (((((HS9.out.rd.set (b := w.heap.size) hl4 0 (.int .i64 (3))).set (b := w.heap.size) hl4 1 (.string nm2)).set (b := w.heap.size) hl4 2 (.string d6)).set (b := w.heap.size) hl4 3 (.int .i64 (0))).set (b := w.heap.size) hl4 4 (.string (⟨#[]⟩ : ByteArray)))
      refine bodyPost_ret (results_cell_row rfl _ _ w.heap.size 74 #[.int .i64 (3), .string nm2, .string d6, .int .i64 (0), .string ⟨#[]⟩] (0, 0) _ rfl hf Try.underlying74 rfl (by kernel_rfl)) rfl ?_
      exact ⟨_, rfl, ⟨⟨3, nm2, d6, 0, (⟨#[]⟩ : ByteArray)⟩, rfl, ⟨by show ByteArray.size nm2 ≤ _; omega, by show ByteArray.size d6 ≤ _; omega, by show ByteArray.size (⟨#[]⟩ : ByteArray) ≤ _; omega⟩, by show (-100 : Int) ≤ 0; omega, by show (0 : Int) ≤ 100; omega, by show (0 : Int) ≤ 3; omega, by show (3 : Int) ≤ 100; omega⟩, hrf.more (by omega), hgf⟩
    · by_cases hqb : q = 1
      · subst hqb
        go_wp2_with fail
        refine (pick_c HS7.out.rd (by omega) 9 (by omega)).mono ?_
        rintro e w8 ⟨v, rfl, ⟨n2, rfl, hn20, hn21, -⟩, hR8, hg8⟩
        have hn22 := hn21 (by omega)
        have hs8 := HS7.out.step hR8 hg8
        have HS9 := Lib.hid (hs8.set 3 (.int .i64 (n2 - 1)) (cs' := #[.int .i64 3, .string nm, .string d6, .int .i64 (n2 - 1), .string ⟨#[]⟩]) rfl)
        have sf3 := hs8.op.free 3
        have r0 := hs8.res.cell 0
        have f0 := hs8.res.free 0
        have c0 := hs8.op.cell 0
        have r1 := hs8.res.cell 1
        have f1 := hs8.res.free 1
        have c1 := hs8.op.cell 1
        have r2' := hs8.res.cell 2
        have f2 := hs8.res.free 2
        have c2 := hs8.op.cell 2
        have r3 := hs8.res.cell 3
        have f3 := hs8.res.free 3
        have c3 := hs8.op.cell 3
        have r4 := hs8.res.cell 4
        have f4 := hs8.res.free 4
        have c4 := hs8.op.cell 4
        have zr := hs8.res.lt
        have zo := hs8.op.lt
        have hne1 : ¬ ob = w.heap.size := by have := hs8.l2; omega
        have hne2 : ¬ w.heap.size = ob := by have := hs8.l2; omega
        simp at r0 r1 r2' r3 r4 c0 c1 c2 c3 c4
        clear hR8 hg8 hs8 hn21
        go_wp2
        have hf := (((((HS9.out.res.set 0 (.int .i64 (3)) (cs' := #[.int .i64 (3), .string ⟨#[]⟩, .string ⟨#[]⟩, .int .i64 0, .string ⟨#[]⟩]) rfl).set 1 (.string nm) (cs' := #[.int .i64 (3), .string nm, .string ⟨#[]⟩, .int .i64 0, .string ⟨#[]⟩]) rfl).set 2 (.string d6) (cs' := #[.int .i64 (3), .string nm, .string d6, .int .i64 0, .string ⟨#[]⟩]) rfl).set 3 (.int .i64 (n2 - 1)) (cs' := #[.int .i64 (3), .string nm, .string d6, .int .i64 (n2 - 1), .string ⟨#[]⟩]) rfl).set 4 (.string (⟨#[]⟩ : ByteArray)) (cs' := #[.int .i64 (3), .string nm, .string d6, .int .i64 (n2 - 1), .string ⟨#[]⟩]) rfl)
        have hgf := grown_new (grown_new (grown_new (grown_new (grown_new HS9.out.g HS9.out.l1 0 (.int .i64 (3))) HS9.out.l1 1 (.string nm)) HS9.out.l1 2 (.string d6)) HS9.out.l1 3 (.int .i64 (n2 - 1))) HS9.out.l1 4 (.string (⟨#[]⟩ : ByteArray))
        have hl4 := HS9.out.l3
        have hrf := (((((HS9.out.rd.set (b := w.heap.size) hl4 0 (.int .i64 (3))).set (b := w.heap.size) hl4 1 (.string nm)).set (b := w.heap.size) hl4 2 (.string d6)).set (b := w.heap.size) hl4 3 (.int .i64 (n2 - 1))).set (b := w.heap.size) hl4 4 (.string (⟨#[]⟩ : ByteArray)))
        refine bodyPost_ret (results_cell_row rfl _ _ w.heap.size 74 #[.int .i64 (3), .string nm, .string d6, .int .i64 (n2 - 1), .string ⟨#[]⟩] (0, 0) _ rfl hf Try.underlying74 rfl (by kernel_rfl)) rfl ?_
        exact ⟨_, rfl, ⟨⟨3, nm, d6, n2 - 1, (⟨#[]⟩ : ByteArray)⟩, rfl, ⟨by show ByteArray.size nm ≤ _; omega, by show ByteArray.size d6 ≤ _; omega, by show ByteArray.size (⟨#[]⟩ : ByteArray) ≤ _; omega⟩, by show (-100 : Int) ≤ n2 - 1; omega, by show (n2 - 1 : Int) ≤ 100; omega, by show (0 : Int) ≤ 3; omega, by show (3 : Int) ≤ 100; omega⟩, hrf.more (by omega), hgf⟩
      · by_cases hqc : q = 2
        · subst hqc
          go_wp2_with fail
          refine (pick_c HS7.out.rd (by omega) 6 (by omega)).mono ?_
          rintro e w8 ⟨v, rfl, ⟨kd2, rfl, hk20, hk21, -⟩, hR8, hg8⟩
          have hk22 := hk21 (by omega)
          have hs8 := HS7.out.step hR8 hg8
          have HS9 := Lib.hid (hs8.set 0 (.int .i64 kd2) (cs' := #[.int .i64 kd2, .string nm, .string d6, .int .i64 0, .string ⟨#[]⟩]) rfl)
          have sf0 := hs8.op.free 0
          have r0 := hs8.res.cell 0
          have f0 := hs8.res.free 0
          have c0 := hs8.op.cell 0
          have r1 := hs8.res.cell 1
          have f1 := hs8.res.free 1
          have c1 := hs8.op.cell 1
          have r2' := hs8.res.cell 2
          have f2 := hs8.res.free 2
          have c2 := hs8.op.cell 2
          have r3 := hs8.res.cell 3
          have f3 := hs8.res.free 3
          have c3 := hs8.op.cell 3
          have r4 := hs8.res.cell 4
          have f4 := hs8.res.free 4
          have c4 := hs8.op.cell 4
          have zr := hs8.res.lt
          have zo := hs8.op.lt
          have hne1 : ¬ ob = w.heap.size := by have := hs8.l2; omega
          have hne2 : ¬ w.heap.size = ob := by have := hs8.l2; omega
          simp at r0 r1 r2' r3 r4 c0 c1 c2 c3 c4
          clear hR8 hg8 hs8 hk21
          go_wp2
          have hf := (((((HS9.out.res.set 0 (.int .i64 (kd2)) (cs' := #[.int .i64 (kd2), .string ⟨#[]⟩, .string ⟨#[]⟩, .int .i64 0, .string ⟨#[]⟩]) rfl).set 1 (.string nm) (cs' := #[.int .i64 (kd2), .string nm, .string ⟨#[]⟩, .int .i64 0, .string ⟨#[]⟩]) rfl).set 2 (.string d6) (cs' := #[.int .i64 (kd2), .string nm, .string d6, .int .i64 0, .string ⟨#[]⟩]) rfl).set 3 (.int .i64 (0)) (cs' := #[.int .i64 (kd2), .string nm, .string d6, .int .i64 (0), .string ⟨#[]⟩]) rfl).set 4 (.string (⟨#[]⟩ : ByteArray)) (cs' := #[.int .i64 (kd2), .string nm, .string d6, .int .i64 (0), .string ⟨#[]⟩]) rfl)
          have hgf := grown_new (grown_new (grown_new (grown_new (grown_new HS9.out.g HS9.out.l1 0 (.int .i64 (kd2))) HS9.out.l1 1 (.string nm)) HS9.out.l1 2 (.string d6)) HS9.out.l1 3 (.int .i64 (0))) HS9.out.l1 4 (.string (⟨#[]⟩ : ByteArray))
          have hl4 := HS9.out.l3
          have hrf := (((((HS9.out.rd.set (b := w.heap.size) hl4 0 (.int .i64 (kd2))).set (b := w.heap.size) hl4 1 (.string nm)).set (b := w.heap.size) hl4 2 (.string d6)).set (b := w.heap.size) hl4 3 (.int .i64 (0))).set (b := w.heap.size) hl4 4 (.string (⟨#[]⟩ : ByteArray)))
          refine bodyPost_ret (results_cell_row rfl _ _ w.heap.size 74 #[.int .i64 (kd2), .string nm, .string d6, .int .i64 (0), .string ⟨#[]⟩] (0, 0) _ rfl hf Try.underlying74 rfl (by kernel_rfl)) rfl ?_
          exact ⟨_, rfl, ⟨⟨kd2, nm, d6, 0, (⟨#[]⟩ : ByteArray)⟩, rfl, ⟨by show ByteArray.size nm ≤ _; omega, by show ByteArray.size d6 ≤ _; omega, by show ByteArray.size (⟨#[]⟩ : ByteArray) ≤ _; omega⟩, by show (-100 : Int) ≤ 0; omega, by show (0 : Int) ≤ 100; omega, by show (0 : Int) ≤ kd2; omega, by show (kd2 : Int) ≤ 100; omega⟩, hrf.more (by omega), hgf⟩
        · skip
          have hs8 := HS7.out
          have r0 := hs8.res.cell 0
          have f0 := hs8.res.free 0
          have c0 := hs8.op.cell 0
          have r1 := hs8.res.cell 1
          have f1 := hs8.res.free 1
          have c1 := hs8.op.cell 1
          have r2' := hs8.res.cell 2
          have f2 := hs8.res.free 2
          have c2 := hs8.op.cell 2
          have r3 := hs8.res.cell 3
          have f3 := hs8.res.free 3
          have c3 := hs8.op.cell 3
          have r4 := hs8.res.cell 4
          have f4 := hs8.res.free 4
          have c4 := hs8.op.cell 4
          have zr := hs8.res.lt
          have zo := hs8.op.lt
          have hne1 : ¬ ob = w.heap.size := by have := hs8.l2; omega
          have hne2 : ¬ w.heap.size = ob := by have := hs8.l2; omega
          simp at r0 r1 r2' r3 r4 c0 c1 c2 c3 c4
          clear hs8
          go_wp2
          have hf := (((((HS7.out.res.set 0 (.int .i64 (3)) (cs' := #[.int .i64 (3), .string ⟨#[]⟩, .string ⟨#[]⟩, .int .i64 0, .string ⟨#[]⟩]) rfl).set 1 (.string nm) (cs' := #[.int .i64 (3), .string nm, .string ⟨#[]⟩, .int .i64 0, .string ⟨#[]⟩]) rfl).set 2 (.string d6) (cs' := #[.int .i64 (3), .string nm, .string d6, .int .i64 0, .string ⟨#[]⟩]) rfl).set 3 (.int .i64 (0)) (cs' := #[.int .i64 (3), .string nm, .string d6, .int .i64 (0), .string ⟨#[]⟩]) rfl).set 4 (.string (⟨#[]⟩ : ByteArray)) (cs' := #[.int .i64 (3), .string nm, .string d6, .int .i64 (0), .string ⟨#[]⟩]) rfl)
          have hgf := grown_new (grown_new (grown_new (grown_new (grown_new HS7.out.g HS7.out.l1 0 (.int .i64 (3))) HS7.out.l1 1 (.string nm)) HS7.out.l1 2 (.string d6)) HS7.out.l1 3 (.int .i64 (0))) HS7.out.l1 4 (.string (⟨#[]⟩ : ByteArray))
          have hl4 := HS7.out.l3
          have hrf := (((((HS7.out.rd.set (b := w.heap.size) hl4 0 (.int .i64 (3))).set (b := w.heap.size) hl4 1 (.string nm)).set (b := w.heap.size) hl4 2 (.string d6)).set (b := w.heap.size) hl4 3 (.int .i64 (0))).set (b := w.heap.size) hl4 4 (.string (⟨#[]⟩ : ByteArray)))
          refine bodyPost_ret (results_cell_row rfl _ _ w.heap.size 74 #[.int .i64 (3), .string nm, .string d6, .int .i64 (0), .string ⟨#[]⟩] (0, 0) _ rfl hf Try.underlying74 rfl (by kernel_rfl)) rfl ?_
          exact ⟨_, rfl, ⟨⟨3, nm, d6, 0, (⟨#[]⟩ : ByteArray)⟩, rfl, ⟨by show ByteArray.size nm ≤ _; omega, by show ByteArray.size d6 ≤ _; omega, by show ByteArray.size (⟨#[]⟩ : ByteArray) ≤ _; omega⟩, by show (-100 : Int) ≤ 0; omega, by show (0 : Int) ≤ 100; omega, by show (0 : Int) ≤ 3; omega, by show (3 : Int) ≤ 100; omega⟩, hrf.more (by omega), hgf⟩
  by_cases hrc : r = 3
  · subst hrc
    have hs5 := HS5.out
    have c0 := hs5.op.cell 0
    have g0 := hs5.op.free 0
    have c1 := hs5.op.cell 1
    have g1 := hs5.op.free 1
    have c2 := hs5.op.cell 2
    have g2 := hs5.op.free 2
    have c3 := hs5.op.cell 3
    have g3 := hs5.op.free 3
    have c4 := hs5.op.cell 4
    have g4 := hs5.op.free 4
    have zo := hs5.op.lt
    have hne1 : ¬ ob = w.heap.size := by have := hs5.l2; omega
    have hne2 : ¬ w.heap.size = ob := by have := hs5.l2; omega
    simp at c0 c1 c2 c3 c4
    clear hs5
    have hs := (((((HS5.out.set 0 (.int .i64 (4)) (cs' := #[.int .i64 (4), .string nm, .string ⟨#[]⟩, .int .i64 n0, .string tx]) rfl).set 1 (.string nm) (cs' := #[.int .i64 (4), .string nm, .string ⟨#[]⟩, .int .i64 n0, .string tx]) rfl).set 2 (.string (⟨#[]⟩ : ByteArray)) (cs' := #[.int .i64 (4), .string nm, .string (⟨#[]⟩ : ByteArray), .int .i64 n0, .string tx]) rfl).set 3 (.int .i64 (0)) (cs' := #[.int .i64 (4), .string nm, .string (⟨#[]⟩ : ByteArray), .int .i64 (0), .string tx]) rfl).set 4 (.string (⟨#[]⟩ : ByteArray)) (cs' := #[.int .i64 (4), .string nm, .string (⟨#[]⟩ : ByteArray), .int .i64 (0), .string (⟨#[]⟩ : ByteArray)]) rfl)
    go_wp2_with fail
    generalize (((((w5.setCell ⟨ob, 0, none⟩ (.int .i64 (4))).setCell ⟨ob, 1, none⟩ (.string nm)).setCell ⟨ob, 2, none⟩ (.string (⟨#[]⟩ : ByteArray))).setCell ⟨ob, 3, none⟩ (.int .i64 (0))).setCell ⟨ob, 4, none⟩ (.string (⟨#[]⟩ : ByteArray))) = WW at hs ⊢
    have HSS := Lib.hid hs
    clear hs c0 c1 c2 c3 c4 g0 g1 g2 g3 g4

    refine (pick_c HSS.out.rd (by omega) 30 (by omega)).mono ?_
    rintro e w7 ⟨v, rfl, ⟨q, rfl, hq0, hq1, -⟩, hR7, hg7⟩
    have HS7 := Lib.hid (HSS.out.step hR7 hg7)
    have hq2 := hq1 (by omega)
    clear hR7 hg7 hq1
    by_cases hqa : q = 0
    · subst hqa
      go_wp2_with fail
      have hB : Blk (w7.alloc (.cells #[.string ⟨#[]⟩, .string ⟨#[69]⟩, .string ⟨#[65, 65]⟩] 9)) w7.heap.size (bad.map Value.string).toArray 9 := Blk.new w7 _ _
      have hne : w7.heap.size ≠ rb := by have := HS7.out.rd.lt; omega
      have hst8 := HS7.out.bel (bel_alloc (Below.refl _ _) (.cells #[.string ⟨#[]⟩, .string ⟨#[69]⟩, .string ⟨#[65, 65]⟩] 9))
      refine (of_c hst8.rd (by omega) hB hne (by decide) (by decide) 3 3 rfl (by omega)).mono ?_
      rintro e w8 ⟨v, rfl, ⟨nm2, rfl, hnm2⟩, hR8, hg8⟩
      have hnz2 := bad_size hnm2
      have hs8 := hst8.step hR8 hg8
      have HS9 := Lib.hid (hs8.set 1 (.string nm2) (cs' := #[.int .i64 4, .string nm2, .string ⟨#[]⟩, .int .i64 0, .string ⟨#[]⟩]) rfl)
      have sf1 := hs8.op.free 1
      have r0 := hs8.res.cell 0
      have f0 := hs8.res.free 0
      have c0 := hs8.op.cell 0
      have r1 := hs8.res.cell 1
      have f1 := hs8.res.free 1
      have c1 := hs8.op.cell 1
      have r2' := hs8.res.cell 2
      have f2 := hs8.res.free 2
      have c2 := hs8.op.cell 2
      have r3 := hs8.res.cell 3
      have f3 := hs8.res.free 3
      have c3 := hs8.op.cell 3
      have r4 := hs8.res.cell 4
      have f4 := hs8.res.free 4
      have c4 := hs8.op.cell 4
      have zr := hs8.res.lt
      have zo := hs8.op.lt
      have hne1 : ¬ ob = w.heap.size := by have := hs8.l2; omega
      have hne2 : ¬ w.heap.size = ob := by have := hs8.l2; omega
      simp at r0 r1 r2' r3 r4 c0 c1 c2 c3 c4
      clear hB hne hst8 hnm2 hR8 hg8 hs8
      go_wp2
      have hf := (((((HS9.out.res.set 0 (.int .i64 (4)) (cs' := #[.int .i64 (4), .string ⟨#[]⟩, .string ⟨#[]⟩, .int .i64 0, .string ⟨#[]⟩]) rfl).set 1 (.string nm2) (cs' := #[.int .i64 (4), .string nm2, .string ⟨#[]⟩, .int .i64 0, .string ⟨#[]⟩]) rfl).set 2 (.string (⟨#[]⟩ : ByteArray)) (cs' := #[.int .i64 (4), .string nm2, .string (⟨#[]⟩ : ByteArray), .int .i64 0, .string ⟨#[]⟩]) rfl).set 3 (.int .i64 (0)) (cs' := #[.int .i64 (4), .string nm2, .string (⟨#[]⟩ : ByteArray), .int .i64 (0), .string ⟨#[]⟩]) rfl).set 4 (.string (⟨#[]⟩ : ByteArray)) (cs' := #[.int .i64 (4), .string nm2, .string ⟨#[]⟩, .int .i64 (0), .string ⟨#[]⟩]) rfl)
      have hgf := grown_new (grown_new (grown_new (grown_new (grown_new HS9.out.g HS9.out.l1 0 (.int .i64 (4))) HS9.out.l1 1 (.string nm2)) HS9.out.l1 2 (.string (⟨#[]⟩ : ByteArray))) HS9.out.l1 3 (.int .i64 (0))) HS9.out.l1 4 (.string (⟨#[]⟩ : ByteArray))
      have hl4 := HS9.out.l3
      have hrf := (((((HS9.out.rd.set (b := w.heap.size) hl4 0 (.int .i64 (4))).set (b := w.heap.size) hl4 1 (.string nm2)).set (b := w.heap.size) hl4 2 (.string (⟨#[]⟩ : ByteArray))).set (b := w.heap.size) hl4 3 (.int .i64 (0))).set (b := w.heap.size) hl4 4 (.string (⟨#[]⟩ : ByteArray)))
      refine bodyPost_ret (results_cell_row rfl _ _ w.heap.size 74 #[.int .i64 (4), .string nm2, .string ⟨#[]⟩, .int .i64 (0), .string ⟨#[]⟩] (0, 0) _ rfl hf Try.underlying74 rfl (by kernel_rfl)) rfl ?_
      exact ⟨_, rfl, ⟨⟨4, nm2, (⟨#[]⟩ : ByteArray), 0, (⟨#[]⟩ : ByteArray)⟩, rfl, ⟨by show ByteArray.size nm2 ≤ _; omega, by show ByteArray.size (⟨#[]⟩ : ByteArray) ≤ _; omega, by show ByteArray.size (⟨#[]⟩ : ByteArray) ≤ _; omega⟩, by show (-100 : Int) ≤ 0; omega, by show (0 : Int) ≤ 100; omega, by show (0 : Int) ≤ 4; omega, by show (4 : Int) ≤ 100; omega⟩, hrf.more (by omega), hgf⟩
    · by_cases hqb : q = 1
      · subst hqb
        go_wp2_with fail
        refine (pick_c HS7.out.rd (by omega) 9 (by omega)).mono ?_
        rintro e w8 ⟨v, rfl, ⟨n2, rfl, hn20, hn21, -⟩, hR8, hg8⟩
        have hn22 := hn21 (by omega)
        have hs8 := HS7.out.step hR8 hg8
        have HS9 := Lib.hid (hs8.set 3 (.int .i64 (n2 - 1)) (cs' := #[.int .i64 4, .string nm, .string ⟨#[]⟩, .int .i64 (n2 - 1), .string ⟨#[]⟩]) rfl)
        have sf3 := hs8.op.free 3
        have r0 := hs8.res.cell 0
        have f0 := hs8.res.free 0
        have c0 := hs8.op.cell 0
        have r1 := hs8.res.cell 1
        have f1 := hs8.res.free 1
        have c1 := hs8.op.cell 1
        have r2' := hs8.res.cell 2
        have f2 := hs8.res.free 2
        have c2 := hs8.op.cell 2
        have r3 := hs8.res.cell 3
        have f3 := hs8.res.free 3
        have c3 := hs8.op.cell 3
        have r4 := hs8.res.cell 4
        have f4 := hs8.res.free 4
        have c4 := hs8.op.cell 4
        have zr := hs8.res.lt
        have zo := hs8.op.lt
        have hne1 : ¬ ob = w.heap.size := by have := hs8.l2; omega
        have hne2 : ¬ w.heap.size = ob := by have := hs8.l2; omega
        simp at r0 r1 r2' r3 r4 c0 c1 c2 c3 c4
        clear hR8 hg8 hs8 hn21
        go_wp2
        have hf := (((((HS9.out.res.set 0 (.int .i64 (4)) (cs' := #[.int .i64 (4), .string ⟨#[]⟩, .string ⟨#[]⟩, .int .i64 0, .string ⟨#[]⟩]) rfl).set 1 (.string nm) (cs' := #[.int .i64 (4), .string nm, .string ⟨#[]⟩, .int .i64 0, .string ⟨#[]⟩]) rfl).set 2 (.string (⟨#[]⟩ : ByteArray)) (cs' := #[.int .i64 (4), .string nm, .string (⟨#[]⟩ : ByteArray), .int .i64 0, .string ⟨#[]⟩]) rfl).set 3 (.int .i64 (n2 - 1)) (cs' := #[.int .i64 (4), .string nm, .string (⟨#[]⟩ : ByteArray), .int .i64 (n2 - 1), .string ⟨#[]⟩]) rfl).set 4 (.string (⟨#[]⟩ : ByteArray)) (cs' := #[.int .i64 (4), .string nm, .string ⟨#[]⟩, .int .i64 (n2 - 1), .string ⟨#[]⟩]) rfl)
        have hgf := grown_new (grown_new (grown_new (grown_new (grown_new HS9.out.g HS9.out.l1 0 (.int .i64 (4))) HS9.out.l1 1 (.string nm)) HS9.out.l1 2 (.string (⟨#[]⟩ : ByteArray))) HS9.out.l1 3 (.int .i64 (n2 - 1))) HS9.out.l1 4 (.string (⟨#[]⟩ : ByteArray))
        have hl4 := HS9.out.l3
        have hrf := (((((HS9.out.rd.set (b := w.heap.size) hl4 0 (.int .i64 (4))).set (b := w.heap.size) hl4 1 (.string nm)).set (b := w.heap.size) hl4 2 (.string (⟨#[]⟩ : ByteArray))).set (b := w.heap.size) hl4 3 (.int .i64 (n2 - 1))).set (b := w.heap.size) hl4 4 (.string (⟨#[]⟩ : ByteArray)))
        refine bodyPost_ret (results_cell_row rfl _ _ w.heap.size 74 #[.int .i64 (4), .string nm, .string ⟨#[]⟩, .int .i64 (n2 - 1), .string ⟨#[]⟩] (0, 0) _ rfl hf Try.underlying74 rfl (by kernel_rfl)) rfl ?_
        exact ⟨_, rfl, ⟨⟨4, nm, (⟨#[]⟩ : ByteArray), n2 - 1, (⟨#[]⟩ : ByteArray)⟩, rfl, ⟨by show ByteArray.size nm ≤ _; omega, by show ByteArray.size (⟨#[]⟩ : ByteArray) ≤ _; omega, by show ByteArray.size (⟨#[]⟩ : ByteArray) ≤ _; omega⟩, by show (-100 : Int) ≤ n2 - 1; omega, by show (n2 - 1 : Int) ≤ 100; omega, by show (0 : Int) ≤ 4; omega, by show (4 : Int) ≤ 100; omega⟩, hrf.more (by omega), hgf⟩
      · by_cases hqc : q = 2
        · subst hqc
          go_wp2_with fail
          refine (pick_c HS7.out.rd (by omega) 6 (by omega)).mono ?_
          rintro e w8 ⟨v, rfl, ⟨kd2, rfl, hk20, hk21, -⟩, hR8, hg8⟩
          have hk22 := hk21 (by omega)
          have hs8 := HS7.out.step hR8 hg8
          have HS9 := Lib.hid (hs8.set 0 (.int .i64 kd2) (cs' := #[.int .i64 kd2, .string nm, .string ⟨#[]⟩, .int .i64 0, .string ⟨#[]⟩]) rfl)
          have sf0 := hs8.op.free 0
          have r0 := hs8.res.cell 0
          have f0 := hs8.res.free 0
          have c0 := hs8.op.cell 0
          have r1 := hs8.res.cell 1
          have f1 := hs8.res.free 1
          have c1 := hs8.op.cell 1
          have r2' := hs8.res.cell 2
          have f2 := hs8.res.free 2
          have c2 := hs8.op.cell 2
          have r3 := hs8.res.cell 3
          have f3 := hs8.res.free 3
          have c3 := hs8.op.cell 3
          have r4 := hs8.res.cell 4
          have f4 := hs8.res.free 4
          have c4 := hs8.op.cell 4
          have zr := hs8.res.lt
          have zo := hs8.op.lt
          have hne1 : ¬ ob = w.heap.size := by have := hs8.l2; omega
          have hne2 : ¬ w.heap.size = ob := by have := hs8.l2; omega
          simp at r0 r1 r2' r3 r4 c0 c1 c2 c3 c4
          clear hR8 hg8 hs8 hk21
          go_wp2
          have hf := (((((HS9.out.res.set 0 (.int .i64 (kd2)) (cs' := #[.int .i64 (kd2), .string ⟨#[]⟩, .string ⟨#[]⟩, .int .i64 0, .string ⟨#[]⟩]) rfl).set 1 (.string nm) (cs' := #[.int .i64 (kd2), .string nm, .string ⟨#[]⟩, .int .i64 0, .string ⟨#[]⟩]) rfl).set 2 (.string (⟨#[]⟩ : ByteArray)) (cs' := #[.int .i64 (kd2), .string nm, .string (⟨#[]⟩ : ByteArray), .int .i64 0, .string ⟨#[]⟩]) rfl).set 3 (.int .i64 (0)) (cs' := #[.int .i64 (kd2), .string nm, .string (⟨#[]⟩ : ByteArray), .int .i64 (0), .string ⟨#[]⟩]) rfl).set 4 (.string (⟨#[]⟩ : ByteArray)) (cs' := #[.int .i64 (kd2), .string nm, .string ⟨#[]⟩, .int .i64 (0), .string ⟨#[]⟩]) rfl)
          have hgf := grown_new (grown_new (grown_new (grown_new (grown_new HS9.out.g HS9.out.l1 0 (.int .i64 (kd2))) HS9.out.l1 1 (.string nm)) HS9.out.l1 2 (.string (⟨#[]⟩ : ByteArray))) HS9.out.l1 3 (.int .i64 (0))) HS9.out.l1 4 (.string (⟨#[]⟩ : ByteArray))
          have hl4 := HS9.out.l3
          have hrf := (((((HS9.out.rd.set (b := w.heap.size) hl4 0 (.int .i64 (kd2))).set (b := w.heap.size) hl4 1 (.string nm)).set (b := w.heap.size) hl4 2 (.string (⟨#[]⟩ : ByteArray))).set (b := w.heap.size) hl4 3 (.int .i64 (0))).set (b := w.heap.size) hl4 4 (.string (⟨#[]⟩ : ByteArray)))
          refine bodyPost_ret (results_cell_row rfl _ _ w.heap.size 74 #[.int .i64 (kd2), .string nm, .string ⟨#[]⟩, .int .i64 (0), .string ⟨#[]⟩] (0, 0) _ rfl hf Try.underlying74 rfl (by kernel_rfl)) rfl ?_
          exact ⟨_, rfl, ⟨⟨kd2, nm, (⟨#[]⟩ : ByteArray), 0, (⟨#[]⟩ : ByteArray)⟩, rfl, ⟨by show ByteArray.size nm ≤ _; omega, by show ByteArray.size (⟨#[]⟩ : ByteArray) ≤ _; omega, by show ByteArray.size (⟨#[]⟩ : ByteArray) ≤ _; omega⟩, by show (-100 : Int) ≤ 0; omega, by show (0 : Int) ≤ 100; omega, by show (0 : Int) ≤ kd2; omega, by show (kd2 : Int) ≤ 100; omega⟩, hrf.more (by omega), hgf⟩
        · skip
          have hs8 := HS7.out
          have r0 := hs8.res.cell 0
          have f0 := hs8.res.free 0
          have c0 := hs8.op.cell 0
          have r1 := hs8.res.cell 1
          have f1 := hs8.res.free 1
          have c1 := hs8.op.cell 1
          have r2' := hs8.res.cell 2
          have f2 := hs8.res.free 2
          have c2 := hs8.op.cell 2
          have r3 := hs8.res.cell 3
          have f3 := hs8.res.free 3
          have c3 := hs8.op.cell 3
          have r4 := hs8.res.cell 4
          have f4 := hs8.res.free 4
          have c4 := hs8.op.cell 4
          have zr := hs8.res.lt
          have zo := hs8.op.lt
          have hne1 : ¬ ob = w.heap.size := by have := hs8.l2; omega
          have hne2 : ¬ w.heap.size = ob := by have := hs8.l2; omega
          simp at r0 r1 r2' r3 r4 c0 c1 c2 c3 c4
          clear hs8
          go_wp2
          have hf := (((((HS7.out.res.set 0 (.int .i64 (4)) (cs' := #[.int .i64 (4), .string ⟨#[]⟩, .string ⟨#[]⟩, .int .i64 0, .string ⟨#[]⟩]) rfl).set 1 (.string nm) (cs' := #[.int .i64 (4), .string nm, .string ⟨#[]⟩, .int .i64 0, .string ⟨#[]⟩]) rfl).set 2 (.string (⟨#[]⟩ : ByteArray)) (cs' := #[.int .i64 (4), .string nm, .string (⟨#[]⟩ : ByteArray), .int .i64 0, .string ⟨#[]⟩]) rfl).set 3 (.int .i64 (0)) (cs' := #[.int .i64 (4), .string nm, .string (⟨#[]⟩ : ByteArray), .int .i64 (0), .string ⟨#[]⟩]) rfl).set 4 (.string (⟨#[]⟩ : ByteArray)) (cs' := #[.int .i64 (4), .string nm, .string ⟨#[]⟩, .int .i64 (0), .string ⟨#[]⟩]) rfl)
          have hgf := grown_new (grown_new (grown_new (grown_new (grown_new HS7.out.g HS7.out.l1 0 (.int .i64 (4))) HS7.out.l1 1 (.string nm)) HS7.out.l1 2 (.string (⟨#[]⟩ : ByteArray))) HS7.out.l1 3 (.int .i64 (0))) HS7.out.l1 4 (.string (⟨#[]⟩ : ByteArray))
          have hl4 := HS7.out.l3
          have hrf := (((((HS7.out.rd.set (b := w.heap.size) hl4 0 (.int .i64 (4))).set (b := w.heap.size) hl4 1 (.string nm)).set (b := w.heap.size) hl4 2 (.string (⟨#[]⟩ : ByteArray))).set (b := w.heap.size) hl4 3 (.int .i64 (0))).set (b := w.heap.size) hl4 4 (.string (⟨#[]⟩ : ByteArray)))
          refine bodyPost_ret (results_cell_row rfl _ _ w.heap.size 74 #[.int .i64 (4), .string nm, .string ⟨#[]⟩, .int .i64 (0), .string ⟨#[]⟩] (0, 0) _ rfl hf Try.underlying74 rfl (by kernel_rfl)) rfl ?_
          exact ⟨_, rfl, ⟨⟨4, nm, (⟨#[]⟩ : ByteArray), 0, (⟨#[]⟩ : ByteArray)⟩, rfl, ⟨by show ByteArray.size nm ≤ _; omega, by show ByteArray.size (⟨#[]⟩ : ByteArray) ≤ _; omega, by show ByteArray.size (⟨#[]⟩ : ByteArray) ≤ _; omega⟩, by show (-100 : Int) ≤ 0; omega, by show (0 : Int) ≤ 100; omega, by show (0 : Int) ≤ 4; omega, by show (4 : Int) ≤ 100; omega⟩, hrf.more (by omega), hgf⟩
  go_wp2_with fail
  refine (pick_c HS5.out.rd (by omega) 30 (by omega)).mono ?_
  rintro e w7 ⟨v, rfl, ⟨q, rfl, hq0, hq1, -⟩, hR7, hg7⟩
  have HS7 := Lib.hid (HS5.out.step hR7 hg7)
  have hq2 := hq1 (by omega)
  clear hR7 hg7 hq1
  by_cases hqa : q = 0
  · subst hqa
    go_wp2_with fail
    have hB : Blk (w7.alloc (.cells #[.string ⟨#[]⟩, .string ⟨#[69]⟩, .string ⟨#[65, 65]⟩] 9)) w7.heap.size (bad.map Value.string).toArray 9 := Blk.new w7 _ _
    have hne : w7.heap.size ≠ rb := by have := HS7.out.rd.lt; omega
    have hst8 := HS7.out.bel (bel_alloc (Below.refl _ _) (.cells #[.string ⟨#[]⟩, .string ⟨#[69]⟩, .string ⟨#[65, 65]⟩] 9))
    refine (of_c hst8.rd (by omega) hB hne (by decide) (by decide) 3 3 rfl (by omega)).mono ?_
    rintro e w8 ⟨v, rfl, ⟨nm2, rfl, hnm2⟩, hR8, hg8⟩
    have hnz2 := bad_size hnm2
    have hs8 := hst8.step hR8 hg8
    have HS9 := Lib.hid (hs8.set 1 (.string nm2) (cs' := #[.int .i64 2, .string nm2, .string ⟨#[]⟩, .int .i64 n0, .string tx]) rfl)
    have sf1 := hs8.op.free 1
    have r0 := hs8.res.cell 0
    have f0 := hs8.res.free 0
    have c0 := hs8.op.cell 0
    have r1 := hs8.res.cell 1
    have f1 := hs8.res.free 1
    have c1 := hs8.op.cell 1
    have r2' := hs8.res.cell 2
    have f2 := hs8.res.free 2
    have c2 := hs8.op.cell 2
    have r3 := hs8.res.cell 3
    have f3 := hs8.res.free 3
    have c3 := hs8.op.cell 3
    have r4 := hs8.res.cell 4
    have f4 := hs8.res.free 4
    have c4 := hs8.op.cell 4
    have zr := hs8.res.lt
    have zo := hs8.op.lt
    have hne1 : ¬ ob = w.heap.size := by have := hs8.l2; omega
    have hne2 : ¬ w.heap.size = ob := by have := hs8.l2; omega
    simp at r0 r1 r2' r3 r4 c0 c1 c2 c3 c4
    clear hB hne hst8 hnm2 hR8 hg8 hs8
    go_wp2
    have hf := (((((HS9.out.res.set 0 (.int .i64 (2)) (cs' := #[.int .i64 (2), .string ⟨#[]⟩, .string ⟨#[]⟩, .int .i64 0, .string ⟨#[]⟩]) rfl).set 1 (.string nm2) (cs' := #[.int .i64 (2), .string nm2, .string ⟨#[]⟩, .int .i64 0, .string ⟨#[]⟩]) rfl).set 2 (.string (⟨#[]⟩ : ByteArray)) (cs' := #[.int .i64 (2), .string nm2, .string (⟨#[]⟩ : ByteArray), .int .i64 0, .string ⟨#[]⟩]) rfl).set 3 (.int .i64 (n0)) (cs' := #[.int .i64 (2), .string nm2, .string (⟨#[]⟩ : ByteArray), .int .i64 (n0), .string ⟨#[]⟩]) rfl).set 4 (.string tx) (cs' := #[.int .i64 (2), .string nm2, .string ⟨#[]⟩, .int .i64 (n0), .string tx]) rfl)
    have hgf := grown_new (grown_new (grown_new (grown_new (grown_new HS9.out.g HS9.out.l1 0 (.int .i64 (2))) HS9.out.l1 1 (.string nm2)) HS9.out.l1 2 (.string (⟨#[]⟩ : ByteArray))) HS9.out.l1 3 (.int .i64 (n0))) HS9.out.l1 4 (.string tx)
    have hl4 := HS9.out.l3
    have hrf := (((((HS9.out.rd.set (b := w.heap.size) hl4 0 (.int .i64 (2))).set (b := w.heap.size) hl4 1 (.string nm2)).set (b := w.heap.size) hl4 2 (.string (⟨#[]⟩ : ByteArray))).set (b := w.heap.size) hl4 3 (.int .i64 (n0))).set (b := w.heap.size) hl4 4 (.string tx))
    refine bodyPost_ret (results_cell_row rfl _ _ w.heap.size 74 #[.int .i64 (2), .string nm2, .string ⟨#[]⟩, .int .i64 (n0), .string tx] (0, 0) _ rfl hf Try.underlying74 rfl (by kernel_rfl)) rfl ?_
    exact ⟨_, rfl, ⟨⟨2, nm2, (⟨#[]⟩ : ByteArray), n0, tx⟩, rfl, ⟨by show ByteArray.size nm2 ≤ _; omega, by show ByteArray.size (⟨#[]⟩ : ByteArray) ≤ _; omega, by show ByteArray.size tx ≤ _; omega⟩, by show (-100 : Int) ≤ n0; omega, by show (n0 : Int) ≤ 100; omega, by show (0 : Int) ≤ 2; omega, by show (2 : Int) ≤ 100; omega⟩, hrf.more (by omega), hgf⟩
  · by_cases hqb : q = 1
    · subst hqb
      go_wp2_with fail
      refine (pick_c HS7.out.rd (by omega) 9 (by omega)).mono ?_
      rintro e w8 ⟨v, rfl, ⟨n2, rfl, hn20, hn21, -⟩, hR8, hg8⟩
      have hn22 := hn21 (by omega)
      have hs8 := HS7.out.step hR8 hg8
      have HS9 := Lib.hid (hs8.set 3 (.int .i64 (n2 - 1)) (cs' := #[.int .i64 2, .string nm, .string ⟨#[]⟩, .int .i64 (n2 - 1), .string tx]) rfl)
      have sf3 := hs8.op.free 3
      have r0 := hs8.res.cell 0
      have f0 := hs8.res.free 0
      have c0 := hs8.op.cell 0
      have r1 := hs8.res.cell 1
      have f1 := hs8.res.free 1
      have c1 := hs8.op.cell 1
      have r2' := hs8.res.cell 2
      have f2 := hs8.res.free 2
      have c2 := hs8.op.cell 2
      have r3 := hs8.res.cell 3
      have f3 := hs8.res.free 3
      have c3 := hs8.op.cell 3
      have r4 := hs8.res.cell 4
      have f4 := hs8.res.free 4
      have c4 := hs8.op.cell 4
      have zr := hs8.res.lt
      have zo := hs8.op.lt
      have hne1 : ¬ ob = w.heap.size := by have := hs8.l2; omega
      have hne2 : ¬ w.heap.size = ob := by have := hs8.l2; omega
      simp at r0 r1 r2' r3 r4 c0 c1 c2 c3 c4
      clear hR8 hg8 hs8 hn21
      go_wp2
      have hf := (((((HS9.out.res.set 0 (.int .i64 (2)) (cs' := #[.int .i64 (2), .string ⟨#[]⟩, .string ⟨#[]⟩, .int .i64 0, .string ⟨#[]⟩]) rfl).set 1 (.string nm) (cs' := #[.int .i64 (2), .string nm, .string ⟨#[]⟩, .int .i64 0, .string ⟨#[]⟩]) rfl).set 2 (.string (⟨#[]⟩ : ByteArray)) (cs' := #[.int .i64 (2), .string nm, .string (⟨#[]⟩ : ByteArray), .int .i64 0, .string ⟨#[]⟩]) rfl).set 3 (.int .i64 (n2 - 1)) (cs' := #[.int .i64 (2), .string nm, .string (⟨#[]⟩ : ByteArray), .int .i64 (n2 - 1), .string ⟨#[]⟩]) rfl).set 4 (.string tx) (cs' := #[.int .i64 (2), .string nm, .string ⟨#[]⟩, .int .i64 (n2 - 1), .string tx]) rfl)
      have hgf := grown_new (grown_new (grown_new (grown_new (grown_new HS9.out.g HS9.out.l1 0 (.int .i64 (2))) HS9.out.l1 1 (.string nm)) HS9.out.l1 2 (.string (⟨#[]⟩ : ByteArray))) HS9.out.l1 3 (.int .i64 (n2 - 1))) HS9.out.l1 4 (.string tx)
      have hl4 := HS9.out.l3
      have hrf := (((((HS9.out.rd.set (b := w.heap.size) hl4 0 (.int .i64 (2))).set (b := w.heap.size) hl4 1 (.string nm)).set (b := w.heap.size) hl4 2 (.string (⟨#[]⟩ : ByteArray))).set (b := w.heap.size) hl4 3 (.int .i64 (n2 - 1))).set (b := w.heap.size) hl4 4 (.string tx))
      refine bodyPost_ret (results_cell_row rfl _ _ w.heap.size 74 #[.int .i64 (2), .string nm, .string ⟨#[]⟩, .int .i64 (n2 - 1), .string tx] (0, 0) _ rfl hf Try.underlying74 rfl (by kernel_rfl)) rfl ?_
      exact ⟨_, rfl, ⟨⟨2, nm, (⟨#[]⟩ : ByteArray), n2 - 1, tx⟩, rfl, ⟨by show ByteArray.size nm ≤ _; omega, by show ByteArray.size (⟨#[]⟩ : ByteArray) ≤ _; omega, by show ByteArray.size tx ≤ _; omega⟩, by show (-100 : Int) ≤ n2 - 1; omega, by show (n2 - 1 : Int) ≤ 100; omega, by show (0 : Int) ≤ 2; omega, by show (2 : Int) ≤ 100; omega⟩, hrf.more (by omega), hgf⟩
    · by_cases hqc : q = 2
      · subst hqc
        go_wp2_with fail
        refine (pick_c HS7.out.rd (by omega) 6 (by omega)).mono ?_
        rintro e w8 ⟨v, rfl, ⟨kd2, rfl, hk20, hk21, -⟩, hR8, hg8⟩
        have hk22 := hk21 (by omega)
        have hs8 := HS7.out.step hR8 hg8
        have HS9 := Lib.hid (hs8.set 0 (.int .i64 kd2) (cs' := #[.int .i64 kd2, .string nm, .string ⟨#[]⟩, .int .i64 n0, .string tx]) rfl)
        have sf0 := hs8.op.free 0
        have r0 := hs8.res.cell 0
        have f0 := hs8.res.free 0
        have c0 := hs8.op.cell 0
        have r1 := hs8.res.cell 1
        have f1 := hs8.res.free 1
        have c1 := hs8.op.cell 1
        have r2' := hs8.res.cell 2
        have f2 := hs8.res.free 2
        have c2 := hs8.op.cell 2
        have r3 := hs8.res.cell 3
        have f3 := hs8.res.free 3
        have c3 := hs8.op.cell 3
        have r4 := hs8.res.cell 4
        have f4 := hs8.res.free 4
        have c4 := hs8.op.cell 4
        have zr := hs8.res.lt
        have zo := hs8.op.lt
        have hne1 : ¬ ob = w.heap.size := by have := hs8.l2; omega
        have hne2 : ¬ w.heap.size = ob := by have := hs8.l2; omega
        simp at r0 r1 r2' r3 r4 c0 c1 c2 c3 c4
        clear hR8 hg8 hs8 hk21
        go_wp2
        have hf := (((((HS9.out.res.set 0 (.int .i64 (kd2)) (cs' := #[.int .i64 (kd2), .string ⟨#[]⟩, .string ⟨#[]⟩, .int .i64 0, .string ⟨#[]⟩]) rfl).set 1 (.string nm) (cs' := #[.int .i64 (kd2), .string nm, .string ⟨#[]⟩, .int .i64 0, .string ⟨#[]⟩]) rfl).set 2 (.string (⟨#[]⟩ : ByteArray)) (cs' := #[.int .i64 (kd2), .string nm, .string (⟨#[]⟩ : ByteArray), .int .i64 0, .string ⟨#[]⟩]) rfl).set 3 (.int .i64 (n0)) (cs' := #[.int .i64 (kd2), .string nm, .string (⟨#[]⟩ : ByteArray), .int .i64 (n0), .string ⟨#[]⟩]) rfl).set 4 (.string tx) (cs' := #[.int .i64 (kd2), .string nm, .string ⟨#[]⟩, .int .i64 (n0), .string tx]) rfl)
        have hgf := grown_new (grown_new (grown_new (grown_new (grown_new HS9.out.g HS9.out.l1 0 (.int .i64 (kd2))) HS9.out.l1 1 (.string nm)) HS9.out.l1 2 (.string (⟨#[]⟩ : ByteArray))) HS9.out.l1 3 (.int .i64 (n0))) HS9.out.l1 4 (.string tx)
        have hl4 := HS9.out.l3
        have hrf := (((((HS9.out.rd.set (b := w.heap.size) hl4 0 (.int .i64 (kd2))).set (b := w.heap.size) hl4 1 (.string nm)).set (b := w.heap.size) hl4 2 (.string (⟨#[]⟩ : ByteArray))).set (b := w.heap.size) hl4 3 (.int .i64 (n0))).set (b := w.heap.size) hl4 4 (.string tx))
        refine bodyPost_ret (results_cell_row rfl _ _ w.heap.size 74 #[.int .i64 (kd2), .string nm, .string ⟨#[]⟩, .int .i64 (n0), .string tx] (0, 0) _ rfl hf Try.underlying74 rfl (by kernel_rfl)) rfl ?_
        exact ⟨_, rfl, ⟨⟨kd2, nm, (⟨#[]⟩ : ByteArray), n0, tx⟩, rfl, ⟨by show ByteArray.size nm ≤ _; omega, by show ByteArray.size (⟨#[]⟩ : ByteArray) ≤ _; omega, by show ByteArray.size tx ≤ _; omega⟩, by show (-100 : Int) ≤ n0; omega, by show (n0 : Int) ≤ 100; omega, by show (0 : Int) ≤ kd2; omega, by show (kd2 : Int) ≤ 100; omega⟩, hrf.more (by omega), hgf⟩
      · skip
        have hs8 := HS7.out
        have r0 := hs8.res.cell 0
        have f0 := hs8.res.free 0
        have c0 := hs8.op.cell 0
        have r1 := hs8.res.cell 1
        have f1 := hs8.res.free 1
        have c1 := hs8.op.cell 1
        have r2' := hs8.res.cell 2
        have f2 := hs8.res.free 2
        have c2 := hs8.op.cell 2
        have r3 := hs8.res.cell 3
        have f3 := hs8.res.free 3
        have c3 := hs8.op.cell 3
        have r4 := hs8.res.cell 4
        have f4 := hs8.res.free 4
        have c4 := hs8.op.cell 4
        have zr := hs8.res.lt
        have zo := hs8.op.lt
        have hne1 : ¬ ob = w.heap.size := by have := hs8.l2; omega
        have hne2 : ¬ w.heap.size = ob := by have := hs8.l2; omega
        simp at r0 r1 r2' r3 r4 c0 c1 c2 c3 c4
        clear hs8
        go_wp2
        have hf := (((((HS7.out.res.set 0 (.int .i64 (2)) (cs' := #[.int .i64 (2), .string ⟨#[]⟩, .string ⟨#[]⟩, .int .i64 0, .string ⟨#[]⟩]) rfl).set 1 (.string nm) (cs' := #[.int .i64 (2), .string nm, .string ⟨#[]⟩, .int .i64 0, .string ⟨#[]⟩]) rfl).set 2 (.string (⟨#[]⟩ : ByteArray)) (cs' := #[.int .i64 (2), .string nm, .string (⟨#[]⟩ : ByteArray), .int .i64 0, .string ⟨#[]⟩]) rfl).set 3 (.int .i64 (n0)) (cs' := #[.int .i64 (2), .string nm, .string (⟨#[]⟩ : ByteArray), .int .i64 (n0), .string ⟨#[]⟩]) rfl).set 4 (.string tx) (cs' := #[.int .i64 (2), .string nm, .string ⟨#[]⟩, .int .i64 (n0), .string tx]) rfl)
        have hgf := grown_new (grown_new (grown_new (grown_new (grown_new HS7.out.g HS7.out.l1 0 (.int .i64 (2))) HS7.out.l1 1 (.string nm)) HS7.out.l1 2 (.string (⟨#[]⟩ : ByteArray))) HS7.out.l1 3 (.int .i64 (n0))) HS7.out.l1 4 (.string tx)
        have hl4 := HS7.out.l3
        have hrf := (((((HS7.out.rd.set (b := w.heap.size) hl4 0 (.int .i64 (2))).set (b := w.heap.size) hl4 1 (.string nm)).set (b := w.heap.size) hl4 2 (.string (⟨#[]⟩ : ByteArray))).set (b := w.heap.size) hl4 3 (.int .i64 (n0))).set (b := w.heap.size) hl4 4 (.string tx))
        refine bodyPost_ret (results_cell_row rfl _ _ w.heap.size 74 #[.int .i64 (2), .string nm, .string ⟨#[]⟩, .int .i64 (n0), .string tx] (0, 0) _ rfl hf Try.underlying74 rfl (by kernel_rfl)) rfl ?_
        exact ⟨_, rfl, ⟨⟨2, nm, (⟨#[]⟩ : ByteArray), n0, tx⟩, rfl, ⟨by show ByteArray.size nm ≤ _; omega, by show ByteArray.size (⟨#[]⟩ : ByteArray) ≤ _; omega, by show ByteArray.size tx ≤ _; omega⟩, by show (-100 : Int) ≤ n0; omega, by show (n0 : Int) ≤ 100; omega, by show (0 : Int) ≤ 2; omega, by show (2 : Int) ≤ 100; omega⟩, hrf.more (by omega), hgf⟩
end Go.Proofs.Ytpobgjkmjlmafaa
/- l11Add of the reference: a volume put where its name stands. -/


namespace Go.Proofs.Ytpobgjkmjlmafaa
open Go.RowKit Go.Proofs.YtpobgjkmjlmafaaW.PrintWords Go.Proofs.YtpobgjkmjlmafaaW.PrintLast
set_option linter.unusedVariables false
set_option linter.unusedSimpArgs false

theorem bool_eq {a b : Bool} (h : a = b) : Value.bool a = .bool b := by rw [h]
theorem nm_gtr {a b : ByteArray} (ha : isNm a = true) (hb : isNm b = true) : (!Op.bytesLess a.toList b.toList && !a.toList == b.toList) = Op.bytesLess b.toList a.toList := by
  rw [nm_lt ha hb, nm_lt hb ha, Bool.eq_iff_iff]
  have h1 : (a.toList == b.toList) = true ↔ nmN a = nmN b := textB.trans (nm_eq ha hb)
  cases h2 : (a.toList == b.toList)
  · have : ¬ nmN a = nmN b := fun h => by rw [h1.2 h] at h2; cases h2
    simp; omega
  · have := h1.1 h2
    simp; omega
/-- What has been laid after k rounds. -/
def addP {α : Type} (pos : Nat) (z : α) (Z : List α) (k : Nat) : List α := if k ≤ pos then Z.take k else insAt pos z (Z.take k)
theorem addP_zero {α : Type} (pos : Nat) (z : α) (Z : List α) : addP pos z Z 0 = [] := by unfold addP; simp
theorem addP_low {α : Type} {pos k : Nat} {z y : α} {Z : List α} (hy : Z[k]? = some y) (h : k < pos) : addP pos z Z (k + 1) = addP pos z Z k ++ [y] := by
  unfold addP
  rw [if_pos (by omega), if_pos (by omega), take_snoc hy]
theorem insAt_snoc {α : Type} {pos : Nat} {z y : α} {xs : List α} (h : pos ≤ xs.length) : insAt pos z (xs ++ [y]) = insAt pos z xs ++ [y] := by
  unfold insAt
  rw [List.take_append_of_le_length h, List.drop_append_of_le_length h, List.append_assoc]; rfl
theorem addP_at {α : Type} {k : Nat} {z y : α} {Z : List α} (hy : Z[k]? = some y) : addP k z Z (k + 1) = (addP k z Z k ++ [z]) ++ [y] := by
  have hl := ltQ hy
  have ht : (Z.take k).length = k := by rw [List.length_take]; omega
  unfold addP
  rw [if_neg (by omega), if_pos (Nat.le_refl _), take_snoc hy, insAt_snoc (by omega)]
  congr 1
  have := insAt_end z (Z.take k)
  rw [ht] at this
  exact this
theorem addP_high {α : Type} {pos k : Nat} {z y : α} {Z : List α} (hy : Z[k]? = some y) (h : pos < k) : addP pos z Z (k + 1) = addP pos z Z k ++ [y] := by
  have hl := ltQ hy
  have ht : (Z.take k).length = k := by rw [List.length_take]; omega
  unfold addP
  rw [if_neg (by omega), if_neg (by omega), take_snoc hy, insAt_snoc (by omega)]
theorem addP_len {α : Type} (pos : Nat) (z : α) (Z : List α) (k : Nat) : (addP pos z Z k).length ≤ Z.length + 1 := by
  unfold addP insAt
  split
  · rw [List.length_take]; omega
  · rw [List.length_append, List.length_cons, List.length_take, List.length_drop, List.length_take]; omega
theorem addP_all {α : Type} {pos : Nat} {z : α} {Z : List α} (h : pos < Z.length) : addP pos z Z Z.length = insAt pos z Z := by
  unfold addP; rw [if_neg (by omega), List.take_length]
theorem addP_end {α : Type} {z : α} {Z : List α} : addP Z.length z Z Z.length ++ [z] = insAt Z.length z Z := by
  unfold addP; rw [if_pos (Nat.le_refl _), List.take_length, insAt_end]
theorem flat_one {α β : Type} (enc : α → List β) (xs : List α) (y : α) : (xs ++ [y]).flatMap enc = xs.flatMap enc ++ enc y := by simp
theorem posOf_name {t : ByteArray} {vs : List Vol} {k : Nat} {y : Vol} (hy : vs[k]? = some y) (h : k ≤ posOf t vs) : (k < posOf t vs → Op.bytesLess t.toList y.name.toList = false) ∧ (k = posOf t vs → Op.bytesLess t.toList y.name.toList = true) :=
  ⟨fun h => posOf_lt h hy, fun e => posOf_at (e ▸ hy)⟩
theorem OwnV.added {W : World} {base lo pos : Nat} {v v' : Value} {vs : List Vol} {bvs : List Value} {x : Vol} {b : Value} (h : OwnV W base v vs bvs) (hb : OwnI W base b x.blocks) (hi : pos ≤ vs.length)
    (hap : ∀ (m : Nat) (b' : Value) (k : Nat), bvs[m]? = some b' → b'.ownBlock = some k → b.ownBlock ≠ some k)
    (hr : W.ownsRow lo 43 2 v' (vs.length + 1) ((insAt pos (x, b) (vs.zip bvs)).flatMap encV)) (hlo : base ≤ lo) : OwnV W base v' (insAt pos x vs) (insAt pos b bvs) := by
  refine h.ins hb hi hap (grown_refl _ _) ⟨by rw [insAt_len (by rw [h.row.len]; exact hi), insAt_len hi, h.row.len], ?_⟩
  rw [insAt_len hi, zip_insAt _ _ _ _ _ h.row.len hi]
  exact own_lower hr hlo
/-- What l11Add leaves. -/
def Added (base : Nat) (v0 : Value) (p : Pool) (x : Vol) (b : Value) (bvs : List Value) (w : World) (e : Ending) (w' : World) : Prop :=
  ∃ v1, e = .returned (.agg #[v0, v1]) ∧ OwnP w' base v0 v1 ⟨p.slots, insAt (posOf x.name p.vols) x p.vols⟩ (insAt (posOf x.name p.vols) b bvs) ∧ Bel w w'
set_option maxHeartbeats 8000000 in
set_option maxRecDepth 10000 in
theorem l11Add_c {w : World} {base : Nat} {v0 v1 : Value} {bvs : List Value} {p : Pool} {x : Vol} {b : Value} (h : OwnP w base v0 v1 p bvs) (hx : OwnI w base b x.blocks) (hs : SmallP p) (hbase : base ≤ w.heap.size)
    (hap : ∀ (m : Nat) (b' : Value) (k : Nat), bvs[m]? = some b' → b'.ownBlock = some k → b.ownBlock ≠ some k) (hnm : isNm x.name = true) (hnms : ∀ (m : Nat) (y : Vol), p.vols[m]? = some y → isNm y.name = true) :
    Calls Try.prog 141 #[.agg #[v0, v1], .agg #[.string x.name, b]] w (Added base v0 p x b bvs w) := by
  obtain ⟨A0, A1, c0, c1, rfl, rfl, hpi⟩ := h.reads
  obtain ⟨Ab, cb, rfl, hcb, hCb⟩ := hx.reads
  have HP := Lib.hid h
  have HX := Lib.hid hx
  have HI := Lib.hid hpi
  have HAP := Lib.hid hap
  have hlv := hs.vols.len
  have hpl := posOf_le x.name p.vols
  have HBL := Lib.hid (show bvs.length = p.vols.length from h.v.row.len)
  have HNX := Lib.hid hnm
  have HNM := Lib.hid hnms
  clear h hx hpi hap hCb hs hnm hnms
  go_enter Try.func141, Try.ntmps141
  go_wp2
  have hB : Blk (((w.alloc (.cells #[.slice A0 p.slots.length c0, .slice A1 p.vols.length c1] 30)).alloc (.cells #[.string x.name, .slice Ab x.blocks.length cb] 43)).alloc (.cells #[.slice none 0 0, .slice none 0 0] 30)) w.heap.size #[.slice A0 p.slots.length c0, .slice A1 p.vols.length c1] 30 := ((Blk.new _ _ _).alloc _).alloc _
  have hV : Blk (((w.alloc (.cells #[.slice A0 p.slots.length c0, .slice A1 p.vols.length c1] 30)).alloc (.cells #[.string x.name, .slice Ab x.blocks.length cb] 43)).alloc (.cells #[.slice none 0 0, .slice none 0 0] 30)) (w.heap.size + 1) #[.string x.name, .slice Ab x.blocks.length cb] 43 := (Blk.nw2 _ _ _ _).alloc _
  have hR : Blk (((w.alloc (.cells #[.slice A0 p.slots.length c0, .slice A1 p.vols.length c1] 30)).alloc (.cells #[.string x.name, .slice Ab x.blocks.length cb] 43)).alloc (.cells #[.slice none 0 0, .slice none 0 0] 30)) (w.heap.size + 1 + 1) #[.slice none 0 0, .slice none 0 0] 30 := Blk.nw3 _ _ _ _ _
  have hW : Bel w (((w.alloc (.cells #[.slice A0 p.slots.length c0, .slice A1 p.vols.length c1] 30)).alloc (.cells #[.string x.name, .slice Ab x.blocks.length cb] 43)).alloc (.cells #[.slice none 0 0, .slice none 0 0] 30)) := bel_alloc (bel_alloc (bel_alloc (Below.refl _ _) _) _) _
  have hz : w.heap.size + 1 + 1 + 1 = (((w.alloc (.cells #[.slice A0 p.slots.length c0, .slice A1 p.vols.length c1] 30)).alloc (.cells #[.string x.name, .slice Ab x.blocks.length cb] 43)).alloc (.cells #[.slice none 0 0, .slice none 0 0] 30)).heap.size := by simp
  generalize (((w.alloc (.cells #[.slice A0 p.slots.length c0, .slice A1 p.vols.length c1] 30)).alloc (.cells #[.string x.name, .slice Ab x.blocks.length cb] 43)).alloc (.cells #[.slice none 0 0, .slice none 0 0] 30)) = W0 at hB hV hR hW hz ⊢
  rw [show w.heap.size + 1 + 1 + 1 = W0.heap.size from hz]
  have HB := Lib.hid hB
  have HV := Lib.hid hV
  have HR := Lib.hid hR
  have HW := Lib.hid hW
  have HZ := Lib.hid hz
  have HE := Lib.hid (own_empty W0 W0.heap.size 43 2 (Nat.le_refl _))
  clear hB hV hR hW hz
  obtain ⟨pos, hpos⟩ : ∃ pos, posOf x.name p.vols = pos := ⟨_, rfl⟩
  rw [hpos] at hpl
  have HPOS := Lib.hid hpos
  clear hpos
  have HZL := Lib.hid (show (p.vols.zip bvs).length = p.vols.length by rw [List.length_zip, HBL.out, Nat.min_self])
  go_loopg [5, 6, 7] p.vols.length (fun g v5 v6 v7 W => ∃ (k : Nat) (L : List (Vol × Value)), g + k = p.vols.length ∧ v7 = .int .i64 k ∧ v6 = .bool (decide (pos < k)) ∧ Hid (L = addP pos (x, Value.slice Ab x.blocks.length cb) (p.vols.zip bvs) k) ∧ Hid (W.ownsRow W0.heap.size 43 2 v5 L.length (L.flatMap encV)) ∧ Bel W0 W)
  case atStart => exact ⟨0, [], rfl, rfl, bool_eq (by simp), (addP_zero _ _ _).symm, HE.out, bel_alloc (Below.refl _ _) _⟩
  case round =>
    obtain ⟨k, L, hk, rfl, rfl, hL, hrow, hb⟩ := hrel
    obtain ⟨A5, c5, rfl, hc5⟩ := own_cap hrow.out
    have HBW := Lib.hid hb
    clear hb
    have hLl : L.length ≤ 1048577 := by have := addP_len pos (x, Value.slice Ab x.blocks.length cb) (p.vols.zip bvs) k; rw [← hL.out, HZL.out] at this; omega
    by_cases hlt : k < p.vols.length
    · obtain ⟨y, hy⟩ := getQ hlt
      obtain ⟨g, cap, by_, hby, ev, hg1, hg2, hcap, hc, hc', hf, hf'⟩ := (((HP.out.bel HW.out).bel HBW.out).v.row).at hy
      have ev := slice_eq ev
      obtain ⟨rfl, -, rfl⟩ := ev
      obtain ⟨A2, c2, rfl, hc2, hC2⟩ := ((((HP.out.bel HW.out).bel HBW.out).v).inner k y by_ hy hby).reads
      have HZK := Lib.hid (zip_get hy hby)
      have HY := Lib.hid (And.intro hy hby)
      have HF := Lib.hid (show ∀ W : World, Bel W0 W → (W.cell? ⟨w.heap.size, 0, none⟩ = some (.slice A0 p.slots.length c0) ∧ W.cell? ⟨w.heap.size, 1, none⟩ = some (.slice (some ⟨g, 0, none⟩) p.vols.length c1)) ∧ (W.cell? ⟨g, k * 2, none⟩ = some (.string y.name) ∧ W.cell? ⟨g, k * 2 + 1, none⟩ = some (.slice A2 y.blocks.length c2)) ∧ (W.cell? ⟨w.heap.size + 1, 0, none⟩ = some (.string x.name) ∧ W.cell? ⟨w.heap.size + 1, 1, none⟩ = some (.slice Ab x.blocks.length cb)) ∧ w.heap.size + 1 < W.heap.size ∧ w.heap.size < W.heap.size ∧ g < W.heap.size from fun W hb => by
        have hB := HB.out.bel hb
        have hV := HV.out.bel hb
        obtain ⟨g', cap', by', e1, e2, _, h5, _, h1, h2, _⟩ := (((HP.out.bel HW.out).bel hb).v.row).at hy
        have e2 := slice_eq e2
        obtain ⟨e2, -, -⟩ := e2
        obtain rfl : g = g' := by simpa using e2
        obtain rfl := Option.some.inj (hby.symm.trans e1)
        exact ⟨⟨hB.cell 0, hB.cell 1⟩, ⟨h1, h2⟩, ⟨hV.cell 0, hV.cell 1⟩, hV.lt, hB.lt, h5⟩)
      clear hC2 hf hf' hc hc' hy hby
      obtain ⟨⟨p0, p1⟩, ⟨p2, p3⟩, ⟨p4, p5⟩, p6, p7, p8⟩ := HF.out _ HBW.out
      rcases Nat.lt_trichotomy k pos with hkp | hkp | hkp
      · -- in front of the place
        have hcmp : (!Op.bytesLess y.name.toList x.name.toList && !y.name.toList == x.name.toList) = false := by rw [nm_gtr (HNM.out k y HY.out.1) HNX.out]; exact (posOf_name HY.out.1 (by rw [HPOS.out]; omega)).1 (by rw [HPOS.out]; exact hkp)
        have hdec : decide (pos < k) = false := by simp; omega
        have hdec2 := Lib.hid (show decide (pos < k + 1) = false by simp; omega)
        have HLN := Lib.hid (show addP pos (x, Value.slice Ab x.blocks.length cb) (p.vols.zip bvs) (k + 1) = L ++ [(y, .slice A2 y.blocks.length c2)] by rw [hL.out]; exact addP_low HZK.out hkp)
        rw [hdec]
        clear hdec
        go_wp2
        refine start_ (n := 13) (S := fun w' => w'.cell? ⟨w.heap.size, 1, none⟩ = some (.slice (some ⟨g, 0, none⟩) p.vols.length c1) ∧ w'.cell? ⟨g, k * 2, none⟩ = some (.string y.name) ∧ w'.cell? ⟨w.heap.size + 1, 0, none⟩ = some (.string x.name)) (ds := []) #[false, false, false, false, false, false, false, false, false, false, false, false, false] (by kernel_rfl) rfl rfl ⟨p1, p2, p4⟩ (fun hHeld => ?_)
        refine pure_ (i := 0) (N := some 16) (v := ?_) (a' := ?_) #[true, false, false, false, false, false, false, false, false, false, false, false, false] rfl rfl (by kernel_rfl) (fun _ _ _ h => h) (Or.inl ⟨by rfl, ?_⟩) ?_ ?_
        rotate_left
        · intro w'
          go_simp
          with_reducible rfl
        rotate_left
        · simp only [Act.put, List.setIfInBounds_toArray, List.set_cons_zero, List.set_cons_succ, i64_w, i32_w]
          rfl
        refine pure_ (i := 1) (N := some 17) (v := ?_) (a' := ?_) #[true, true, false, false, false, false, false, false, false, false, false, false, false] rfl rfl (by kernel_rfl) (fun _ _ _ h => h) (Or.inl ⟨by rfl, ?_⟩) ?_ ?_
        rotate_left
        · intro w'
          go_simp
          with_reducible rfl
        rotate_left
        · simp only [Act.put, List.setIfInBounds_toArray, List.set_cons_zero, List.set_cons_succ, i64_w, i32_w]
          rfl
        refine pure_ (i := 2) (N := some 18) (v := ?_) (a' := ?_) #[true, true, true, false, false, false, false, false, false, false, false, false, false] rfl rfl (by kernel_rfl) (fun _ _ _ h => h) (Or.inl ⟨by rfl, ?_⟩) ?_ ?_
        rotate_left
        · intro w'
          go_simp
          with_reducible rfl
        rotate_left
        · simp only [Act.put, List.setIfInBounds_toArray, List.set_cons_zero, List.set_cons_succ, i64_w, i32_w]
          rfl
        refine pure_ (i := 3) (N := some 19) (v := ?_) (a' := ?_) #[true, true, true, true, false, false, false, false, false, false, false, false, false] rfl rfl (by kernel_rfl) (fun _ _ _ h => h) (Or.inl ⟨by rfl, ?_⟩) ?_ ?_
        rotate_left
        · intro w'
          go_simp
          with_reducible rfl
        rotate_left
        · simp only [Act.put, List.setIfInBounds_toArray, List.set_cons_zero, List.set_cons_succ, i64_w, i32_w]
          rfl
        refine pure_ (i := 5) (N := some 21) (v := ?_) (a' := ?_) #[true, true, true, true, false, true, false, false, false, false, false, false, false] rfl rfl (by kernel_rfl) (fun _ _ _ h => h) (Or.inl ⟨by rfl, ?_⟩) ?_ ?_
        rotate_left
        · intro w'
          go_simp
          with_reducible rfl
        rotate_left
        · simp only [Act.put, List.setIfInBounds_toArray, List.set_cons_zero, List.set_cons_succ, i64_w, i32_w]
          rfl
        refine pure_ (i := 9) (N := some 25) (v := ?_) (a' := ?_) #[true, true, true, true, false, true, false, false, false, true, false, false, false] rfl rfl (by kernel_rfl) (fun _ _ _ h => h) (Or.inl ⟨by rfl, ?_⟩) ?_ ?_
        rotate_left
        · intro w'
          go_simp
          with_reducible rfl
        rotate_left
        · simp only [Act.put, List.setIfInBounds_toArray, List.set_cons_zero, List.set_cons_succ, i64_w, i32_w]
          rfl
        refine take_ (i := 4) (N := some 20) (v := ?_) (a' := ?_) #[true, true, true, true, true, true, false, false, false, true, false, false, false] rfl rfl (by kernel_rfl) (fun _ _ _ h => h) (Or.inl ⟨by rfl, ?_⟩) hHeld ?_ ?_
        rotate_left
        · rintro w' ⟨s0, s1, s2⟩
          go_simp
          with_reducible rfl
        rotate_left
        · simp only [Act.put, List.setIfInBounds_toArray, List.set_cons_zero, List.set_cons_succ, i64_w, i32_w]
          rfl
        refine pure_ (i := 6) (N := some 22) (v := ?_) (a' := ?_) #[true, true, true, true, true, true, true, false, false, true, false, false, false] rfl rfl (by kernel_rfl) (fun _ _ _ h => h) (Or.inl ⟨by rfl, ?_⟩) ?_ ?_
        rotate_left
        · intro w'
          go_simp
          with_reducible rfl
        rotate_left
        · simp only [Act.put, List.setIfInBounds_toArray, List.set_cons_zero, List.set_cons_succ, i64_w, i32_w]
          rfl
        refine pure_ (i := 7) (N := some 23) (v := ?_) (a' := ?_) #[true, true, true, true, true, true, true, true, false, true, false, false, false] rfl rfl (by kernel_rfl) (fun _ _ _ h => h) (Or.inl ⟨by rfl, ?_⟩) ?_ ?_
        rotate_left
        · intro w'
          go_simp
          with_reducible rfl
        rotate_left
        · simp only [Act.put, List.setIfInBounds_toArray, List.set_cons_zero, List.set_cons_succ, i64_w, i32_w]
          rfl
        refine take_ (i := 8) (N := some 24) (v := ?_) (a' := ?_) #[true, true, true, true, true, true, true, true, true, true, false, false, false] rfl rfl (by kernel_rfl) (fun _ _ _ h => h) (Or.inl ⟨by rfl, ?_⟩) hHeld ?_ ?_
        rotate_left
        · rintro w' ⟨s0, s1, s2⟩
          go_simp
          with_reducible rfl
        rotate_left
        · simp only [Act.put, List.setIfInBounds_toArray, List.set_cons_zero, List.set_cons_succ, i64_w, i32_w]
          rfl
        refine take_ (i := 10) (N := some 26) (v := ?_) (a' := ?_) #[true, true, true, true, true, true, true, true, true, true, true, false, false] rfl rfl (by kernel_rfl) (fun _ _ _ h => h) (Or.inl ⟨by rfl, ?_⟩) hHeld ?_ ?_
        rotate_left
        · rintro w' ⟨s0, s1, s2⟩
          go_simp
          with_reducible rfl
        rotate_left
        · simp only [Act.put, List.setIfInBounds_toArray, List.set_cons_zero, List.set_cons_succ, i64_w, i32_w]
          rfl
        refine pure_ (i := 11) (N := some 27) (v := ?_) (a' := ?_) #[true, true, true, true, true, true, true, true, true, true, true, true, false] rfl rfl (by kernel_rfl) (fun _ _ _ h => h) (Or.inl ⟨by rfl, ?_⟩) ?_ ?_
        rotate_left
        · intro w'
          go_simp
          with_reducible rfl
        rotate_left
        · simp only [Act.put, List.setIfInBounds_toArray, List.set_cons_zero, List.set_cons_succ, i64_w, i32_w]
          rfl
        refine pure_ (i := 12) (N := some 28) (v := ?_) (a' := ?_) #[true, true, true, true, true, true, true, true, true, true, true, true, true] rfl rfl (by kernel_rfl) (fun _ _ _ h => h) (Or.inl ⟨by rfl, ?_⟩) ?_ ?_
        rotate_left
        · intro w'
          go_simp
          with_reducible rfl
        rotate_left
        · simp only [Act.put, List.setIfInBounds_toArray, List.set_cons_zero, List.set_cons_succ, i64_w, i32_w]
          rfl
        refine done_ (by kernel_rfl) ?_
        clear hHeld p0 p1 p2 p3 p4 p5 p6 p7 p8
        have hrow2 : wr.drew.ownsRow W0.heap.size 43 2 (.slice A5 L.length c5) L.length (L.flatMap encV) := hrow.out
        have hb2 : Bel W0 wr.drew := HBW.out.drew
        clear hrow HBW
        generalize wr.drew = W2 at hrow2 hb2 ⊢
        have HR2 := Lib.hid hrow2
        have HB2 := Lib.hid hb2
        obtain ⟨⟨p0, p1⟩, ⟨p2, p3⟩, ⟨p4, p5⟩, p6, p7, p8⟩ := HF.out _ hb2
        clear hrow2 hb2
        go_wp2_with (at_builtin; refine print_append_cells (w0 := W0) W0.heap.size rfl (.tmp 33) (.tmp 39) 28 43 (.agg #[.string ⟨#[]⟩, .slice none 0 0]) 2 40 rfl Try.underlying28 info_vol rfl (by decide) (by decide) _ L.length (L.flatMap encV) (encV (y, .slice A2 y.blocks.length c2)) rfl rfl rfl (by intro u hu; simp [encV] at hu; rcases hu with rfl | rfl <;> rfl) HR2.out HB2.out HB2.out.size (by omega) ?_; intro v2 w5 hr2 hbq hg2 hat2)
        go_roundg (p.vols.length - (k + 1))
        case measure => omega
        case rel => exact ⟨k + 1, L ++ [(y, Value.slice A2 y.blocks.length c2)], by omega, int_eq (by omega), bool_eq hdec2.out.symm, HLN.out.symm, by rw [Hid, List.length_append, flat_one]; exact hr2, hbq⟩
      · -- at the place
        have hcmp : (!Op.bytesLess y.name.toList x.name.toList && !y.name.toList == x.name.toList) = true := by rw [nm_gtr (HNM.out k y HY.out.1) HNX.out]; exact (posOf_name HY.out.1 (by rw [HPOS.out]; omega)).2 (by rw [HPOS.out]; exact hkp)
        have hdec : decide (pos < k) = false := by simp; omega
        have hdec2 := Lib.hid (show decide (pos < k + 1) = true by simp; omega)
        have HLN := Lib.hid (show addP pos (x, Value.slice Ab x.blocks.length cb) (p.vols.zip bvs) (k + 1) = (L ++ [(x, .slice Ab x.blocks.length cb)]) ++ [(y, .slice A2 y.blocks.length c2)] by rw [hL.out, ← hkp]; exact addP_at HZK.out)
        clear hkp
        rw [hdec]
        clear hdec
        go_wp2
        refine start_ (n := 13) (S := fun w' => w'.cell? ⟨w.heap.size, 1, none⟩ = some (.slice (some ⟨g, 0, none⟩) p.vols.length c1) ∧ w'.cell? ⟨g, k * 2, none⟩ = some (.string y.name) ∧ w'.cell? ⟨w.heap.size + 1, 0, none⟩ = some (.string x.name)) (ds := []) #[false, false, false, false, false, false, false, false, false, false, false, false, false] (by kernel_rfl) rfl rfl ⟨p1, p2, p4⟩ (fun hHeld => ?_)
        refine pure_ (i := 0) (N := some 16) (v := ?_) (a' := ?_) #[true, false, false, false, false, false, false, false, false, false, false, false, false] rfl rfl (by kernel_rfl) (fun _ _ _ h => h) (Or.inl ⟨by rfl, ?_⟩) ?_ ?_
        rotate_left
        · intro w'
          go_simp
          with_reducible rfl
        rotate_left
        · simp only [Act.put, List.setIfInBounds_toArray, List.set_cons_zero, List.set_cons_succ, i64_w, i32_w]
          rfl
        refine pure_ (i := 1) (N := some 17) (v := ?_) (a' := ?_) #[true, true, false, false, false, false, false, false, false, false, false, false, false] rfl rfl (by kernel_rfl) (fun _ _ _ h => h) (Or.inl ⟨by rfl, ?_⟩) ?_ ?_
        rotate_left
        · intro w'
          go_simp
          with_reducible rfl
        rotate_left
        · simp only [Act.put, List.setIfInBounds_toArray, List.set_cons_zero, List.set_cons_succ, i64_w, i32_w]
          rfl
        refine pure_ (i := 2) (N := some 18) (v := ?_) (a' := ?_) #[true, true, true, false, false, false, false, false, false, false, false, false, false] rfl rfl (by kernel_rfl) (fun _ _ _ h => h) (Or.inl ⟨by rfl, ?_⟩) ?_ ?_
        rotate_left
        · intro w'
          go_simp
          with_reducible rfl
        rotate_left
        · simp only [Act.put, List.setIfInBounds_toArray, List.set_cons_zero, List.set_cons_succ, i64_w, i32_w]
          rfl
        refine pure_ (i := 3) (N := some 19) (v := ?_) (a' := ?_) #[true, true, true, true, false, false, false, false, false, false, false, false, false] rfl rfl (by kernel_rfl) (fun _ _ _ h => h) (Or.inl ⟨by rfl, ?_⟩) ?_ ?_
        rotate_left
        · intro w'
          go_simp
          with_reducible rfl
        rotate_left
        · simp only [Act.put, List.setIfInBounds_toArray, List.set_cons_zero, List.set_cons_succ, i64_w, i32_w]
          rfl
        refine pure_ (i := 5) (N := some 21) (v := ?_) (a' := ?_) #[true, true, true, true, false, true, false, false, false, false, false, false, false] rfl rfl (by kernel_rfl) (fun _ _ _ h => h) (Or.inl ⟨by rfl, ?_⟩) ?_ ?_
        rotate_left
        · intro w'
          go_simp
          with_reducible rfl
        rotate_left
        · simp only [Act.put, List.setIfInBounds_toArray, List.set_cons_zero, List.set_cons_succ, i64_w, i32_w]
          rfl
        refine pure_ (i := 9) (N := some 25) (v := ?_) (a' := ?_) #[true, true, true, true, false, true, false, false, false, true, false, false, false] rfl rfl (by kernel_rfl) (fun _ _ _ h => h) (Or.inl ⟨by rfl, ?_⟩) ?_ ?_
        rotate_left
        · intro w'
          go_simp
          with_reducible rfl
        rotate_left
        · simp only [Act.put, List.setIfInBounds_toArray, List.set_cons_zero, List.set_cons_succ, i64_w, i32_w]
          rfl
        refine take_ (i := 4) (N := some 20) (v := ?_) (a' := ?_) #[true, true, true, true, true, true, false, false, false, true, false, false, false] rfl rfl (by kernel_rfl) (fun _ _ _ h => h) (Or.inl ⟨by rfl, ?_⟩) hHeld ?_ ?_
        rotate_left
        · rintro w' ⟨s0, s1, s2⟩
          go_simp
          with_reducible rfl
        rotate_left
        · simp only [Act.put, List.setIfInBounds_toArray, List.set_cons_zero, List.set_cons_succ, i64_w, i32_w]
          rfl
        refine pure_ (i := 6) (N := some 22) (v := ?_) (a' := ?_) #[true, true, true, true, true, true, true, false, false, true, false, false, false] rfl rfl (by kernel_rfl) (fun _ _ _ h => h) (Or.inl ⟨by rfl, ?_⟩) ?_ ?_
        rotate_left
        · intro w'
          go_simp
          with_reducible rfl
        rotate_left
        · simp only [Act.put, List.setIfInBounds_toArray, List.set_cons_zero, List.set_cons_succ, i64_w, i32_w]
          rfl
        refine pure_ (i := 7) (N := some 23) (v := ?_) (a' := ?_) #[true, true, true, true, true, true, true, true, false, true, false, false, false] rfl rfl (by kernel_rfl) (fun _ _ _ h => h) (Or.inl ⟨by rfl, ?_⟩) ?_ ?_
        rotate_left
        · intro w'
          go_simp
          with_reducible rfl
        rotate_left
        · simp only [Act.put, List.setIfInBounds_toArray, List.set_cons_zero, List.set_cons_succ, i64_w, i32_w]
          rfl
        refine take_ (i := 8) (N := some 24) (v := ?_) (a' := ?_) #[true, true, true, true, true, true, true, true, true, true, false, false, false] rfl rfl (by kernel_rfl) (fun _ _ _ h => h) (Or.inl ⟨by rfl, ?_⟩) hHeld ?_ ?_
        rotate_left
        · rintro w' ⟨s0, s1, s2⟩
          go_simp
          with_reducible rfl
        rotate_left
        · simp only [Act.put, List.setIfInBounds_toArray, List.set_cons_zero, List.set_cons_succ, i64_w, i32_w]
          rfl
        refine take_ (i := 10) (N := some 26) (v := ?_) (a' := ?_) #[true, true, true, true, true, true, true, true, true, true, true, false, false] rfl rfl (by kernel_rfl) (fun _ _ _ h => h) (Or.inl ⟨by rfl, ?_⟩) hHeld ?_ ?_
        rotate_left
        · rintro w' ⟨s0, s1, s2⟩
          go_simp
          with_reducible rfl
        rotate_left
        · simp only [Act.put, List.setIfInBounds_toArray, List.set_cons_zero, List.set_cons_succ, i64_w, i32_w]
          rfl
        refine pure_ (i := 11) (N := some 27) (v := ?_) (a' := ?_) #[true, true, true, true, true, true, true, true, true, true, true, true, false] rfl rfl (by kernel_rfl) (fun _ _ _ h => h) (Or.inl ⟨by rfl, ?_⟩) ?_ ?_
        rotate_left
        · intro w'
          go_simp
          with_reducible rfl
        rotate_left
        · simp only [Act.put, List.setIfInBounds_toArray, List.set_cons_zero, List.set_cons_succ, i64_w, i32_w]
          rfl
        refine pure_ (i := 12) (N := some 28) (v := ?_) (a' := ?_) #[true, true, true, true, true, true, true, true, true, true, true, true, true] rfl rfl (by kernel_rfl) (fun _ _ _ h => h) (Or.inl ⟨by rfl, ?_⟩) ?_ ?_
        rotate_left
        · intro w'
          go_simp
          with_reducible rfl
        rotate_left
        · simp only [Act.put, List.setIfInBounds_toArray, List.set_cons_zero, List.set_cons_succ, i64_w, i32_w]
          rfl
        refine done_ (by kernel_rfl) ?_
        clear hHeld p0 p1 p2 p3 p4 p5 p6 p7 p8
        have hrow2 : wr.drew.ownsRow W0.heap.size 43 2 (.slice A5 L.length c5) L.length (L.flatMap encV) := hrow.out
        have hb2 : Bel W0 wr.drew := HBW.out.drew
        clear hrow HBW
        generalize wr.drew = W2 at hrow2 hb2 ⊢
        have HR2 := Lib.hid hrow2
        have HB2 := Lib.hid hb2
        obtain ⟨⟨p0, p1⟩, ⟨p2, p3⟩, ⟨p4, p5⟩, p6, p7, p8⟩ := HF.out _ hb2
        clear hrow2 hb2
        go_wp2_with (first
          | (at_builtin; refine print_append_cells (w0 := W0) W0.heap.size rfl (.tmp 29) (.tmp 31) 28 43 (.agg #[.string ⟨#[]⟩, .slice none 0 0]) 2 40 rfl Try.underlying28 info_vol rfl (by decide) (by decide) _ L.length (L.flatMap encV) (encV (x, .slice Ab x.blocks.length cb)) rfl rfl rfl (by intro u hu; simp [encV] at hu; rcases hu with rfl | rfl <;> rfl) HR2.out HB2.out HB2.out.size (by omega) ?_; intro v2 w5 hr2 hbq hg2 hat2; obtain ⟨A6, c6, rfl, hc6⟩ := own_cap hr2; clear hat2 hg2 p0 p1 p2 p3 p4 p5 p6 p7 p8; have HR5 := Lib.hid hr2; have HB5 := Lib.hid hbq; obtain ⟨⟨p0, p1⟩, ⟨p2, p3⟩, ⟨p4, p5⟩, p6, p7, p8⟩ := HF.out _ hbq; clear hr2 hbq)
          | (at_builtin; refine print_append_cells (w0 := W0) W0.heap.size rfl (.tmp 33) (.tmp 39) 28 43 (.agg #[.string ⟨#[]⟩, .slice none 0 0]) 2 40 rfl Try.underlying28 info_vol rfl (by decide) (by decide) _ (L.length + 1) (L.flatMap encV ++ encV (x, .slice Ab x.blocks.length cb)) (encV (y, .slice A2 y.blocks.length c2)) rfl rfl rfl (by intro u hu; simp [encV] at hu; rcases hu with rfl | rfl <;> rfl) HR5.out HB5.out HB5.out.size (by omega) ?_; intro v3 w6 hr3 hbq hg2 hat2))
        go_roundg (p.vols.length - (k + 1))
        case measure => omega
        case rel => exact ⟨k + 1, (L ++ [(x, Value.slice Ab x.blocks.length cb)]) ++ [(y, Value.slice A2 y.blocks.length c2)], by omega, int_eq (by omega), bool_eq hdec2.out.symm, HLN.out.symm, by rw [Hid, List.length_append, List.length_append, flat_one, flat_one]; exact hr3, hbq⟩
      · -- behind it
        have hdec : decide (pos < k) = true := by simp; omega
        have hdec2 := Lib.hid (show decide (pos < k + 1) = true by simp; omega)
        have HLN := Lib.hid (show addP pos (x, Value.slice Ab x.blocks.length cb) (p.vols.zip bvs) (k + 1) = L ++ [(y, .slice A2 y.blocks.length c2)] by rw [hL.out]; exact addP_high HZK.out hkp)
        rw [hdec]
        clear hdec
        go_wp2
        refine start_ (n := 13) (S := fun w' => w'.cell? ⟨w.heap.size, 1, none⟩ = some (.slice (some ⟨g, 0, none⟩) p.vols.length c1) ∧ w'.cell? ⟨g, k * 2, none⟩ = some (.string y.name) ∧ w'.cell? ⟨w.heap.size + 1, 0, none⟩ = some (.string x.name)) (ds := []) #[false, false, false, false, false, false, false, false, false, false, false, false, false] (by kernel_rfl) rfl rfl ⟨p1, p2, p4⟩ (fun hHeld => ?_)
        refine pure_ (i := 0) (N := some 16) (v := ?_) (a' := ?_) #[true, false, false, false, false, false, false, false, false, false, false, false, false] rfl rfl (by kernel_rfl) (fun _ _ _ h => h) (Or.inl ⟨by rfl, ?_⟩) ?_ ?_
        rotate_left
        · intro w'
          go_simp
          with_reducible rfl
        rotate_left
        · simp only [Act.put, List.setIfInBounds_toArray, List.set_cons_zero, List.set_cons_succ, i64_w, i32_w]
          rfl
        refine pure_ (i := 1) (N := some 17) (v := ?_) (a' := ?_) #[true, true, false, false, false, false, false, false, false, false, false, false, false] rfl rfl (by kernel_rfl) (fun _ _ _ h => h) (Or.inl ⟨by rfl, ?_⟩) ?_ ?_
        rotate_left
        · intro w'
          go_simp
          with_reducible rfl
        rotate_left
        · simp only [Act.put, List.setIfInBounds_toArray, List.set_cons_zero, List.set_cons_succ, i64_w, i32_w]
          rfl
        refine pure_ (i := 2) (N := some 18) (v := ?_) (a' := ?_) #[true, true, true, false, false, false, false, false, false, false, false, false, false] rfl rfl (by kernel_rfl) (fun _ _ _ h => h) (Or.inl ⟨by rfl, ?_⟩) ?_ ?_
        rotate_left
        · intro w'
          go_simp
          with_reducible rfl
        rotate_left
        · simp only [Act.put, List.setIfInBounds_toArray, List.set_cons_zero, List.set_cons_succ, i64_w, i32_w]
          rfl
        refine pure_ (i := 3) (N := some 19) (v := undef) (a' := ?_) #[true, true, true, true, false, false, false, false, false, false, false, false, false] rfl rfl (by kernel_rfl) (fun _ _ _ h => h) (Or.inr ⟨by rfl, rfl⟩) ?_ ?_
        rotate_left
        · simp only [Act.put, List.setIfInBounds_toArray, List.set_cons_zero, List.set_cons_succ, i64_w, i32_w]
          rfl
        refine pure_ (i := 4) (N := some 20) (v := undef) (a' := ?_) #[true, true, true, true, true, false, false, false, false, false, false, false, false] rfl rfl (by kernel_rfl) (fun _ _ _ h => h) (Or.inr ⟨by rfl, rfl⟩) ?_ ?_
        rotate_left
        · simp only [Act.put, List.setIfInBounds_toArray, List.set_cons_zero, List.set_cons_succ, i64_w, i32_w]
          rfl
        refine pure_ (i := 5) (N := some 21) (v := undef) (a' := ?_) #[true, true, true, true, true, true, false, false, false, false, false, false, false] rfl rfl (by kernel_rfl) (fun _ _ _ h => h) (Or.inr ⟨by rfl, rfl⟩) ?_ ?_
        rotate_left
        · simp only [Act.put, List.setIfInBounds_toArray, List.set_cons_zero, List.set_cons_succ, i64_w, i32_w]
          rfl
        refine pure_ (i := 6) (N := some 22) (v := undef) (a' := ?_) #[true, true, true, true, true, true, true, false, false, false, false, false, false] rfl rfl (by kernel_rfl) (fun _ _ _ h => h) (Or.inr ⟨by rfl, rfl⟩) ?_ ?_
        rotate_left
        · simp only [Act.put, List.setIfInBounds_toArray, List.set_cons_zero, List.set_cons_succ, i64_w, i32_w]
          rfl
        refine pure_ (i := 7) (N := some 23) (v := undef) (a' := ?_) #[true, true, true, true, true, true, true, true, false, false, false, false, false] rfl rfl (by kernel_rfl) (fun _ _ _ h => h) (Or.inr ⟨by rfl, rfl⟩) ?_ ?_
        rotate_left
        · simp only [Act.put, List.setIfInBounds_toArray, List.set_cons_zero, List.set_cons_succ, i64_w, i32_w]
          rfl
        refine pure_ (i := 8) (N := some 24) (v := undef) (a' := ?_) #[true, true, true, true, true, true, true, true, true, false, false, false, false] rfl rfl (by kernel_rfl) (fun _ _ _ h => h) (Or.inr ⟨by rfl, rfl⟩) ?_ ?_
        rotate_left
        · simp only [Act.put, List.setIfInBounds_toArray, List.set_cons_zero, List.set_cons_succ, i64_w, i32_w]
          rfl
        refine pure_ (i := 9) (N := some 25) (v := undef) (a' := ?_) #[true, true, true, true, true, true, true, true, true, true, false, false, false] rfl rfl (by kernel_rfl) (fun _ _ _ h => h) (Or.inr ⟨by rfl, rfl⟩) ?_ ?_
        rotate_left
        · simp only [Act.put, List.setIfInBounds_toArray, List.set_cons_zero, List.set_cons_succ, i64_w, i32_w]
          rfl
        refine pure_ (i := 10) (N := some 26) (v := undef) (a' := ?_) #[true, true, true, true, true, true, true, true, true, true, true, false, false] rfl rfl (by kernel_rfl) (fun _ _ _ h => h) (Or.inr ⟨by rfl, rfl⟩) ?_ ?_
        rotate_left
        · simp only [Act.put, List.setIfInBounds_toArray, List.set_cons_zero, List.set_cons_succ, i64_w, i32_w]
          rfl
        refine pure_ (i := 11) (N := some 27) (v := undef) (a' := ?_) #[true, true, true, true, true, true, true, true, true, true, true, true, false] rfl rfl (by kernel_rfl) (fun _ _ _ h => h) (Or.inr ⟨by rfl, rfl⟩) ?_ ?_
        rotate_left
        · simp only [Act.put, List.setIfInBounds_toArray, List.set_cons_zero, List.set_cons_succ, i64_w, i32_w]
          rfl
        refine pure_ (i := 12) (N := some 28) (v := ?_) (a' := ?_) #[true, true, true, true, true, true, true, true, true, true, true, true, true] rfl rfl (by kernel_rfl) (fun _ _ _ h => h) (Or.inl ⟨by rfl, ?_⟩) ?_ ?_
        rotate_left
        · intro w'
          go_simp
          with_reducible rfl
        rotate_left
        · simp only [Act.put, List.setIfInBounds_toArray, List.set_cons_zero, List.set_cons_succ, i64_w, i32_w]
          rfl
        refine done_ (by kernel_rfl) ?_
        clear hHeld p0 p1 p2 p3 p4 p5 p6 p7 p8
        have hrow2 : wr.drew.ownsRow W0.heap.size 43 2 (.slice A5 L.length c5) L.length (L.flatMap encV) := hrow.out
        have hb2 : Bel W0 wr.drew := HBW.out.drew
        clear hrow HBW
        generalize wr.drew = W2 at hrow2 hb2 ⊢
        have HR2 := Lib.hid hrow2
        have HB2 := Lib.hid hb2
        obtain ⟨⟨p0, p1⟩, ⟨p2, p3⟩, ⟨p4, p5⟩, p6, p7, p8⟩ := HF.out _ hb2
        clear hrow2 hb2
        go_wp2_with (at_builtin; refine print_append_cells (w0 := W0) W0.heap.size rfl (.tmp 33) (.tmp 39) 28 43 (.agg #[.string ⟨#[]⟩, .slice none 0 0]) 2 40 rfl Try.underlying28 info_vol rfl (by decide) (by decide) _ L.length (L.flatMap encV) (encV (y, .slice A2 y.blocks.length c2)) rfl rfl rfl (by intro u hu; simp [encV] at hu; rcases hu with rfl | rfl <;> rfl) HR2.out HB2.out HB2.out.size (by omega) ?_; intro v2 w5 hr2 hbq hg2 hat2)
        go_roundg (p.vols.length - (k + 1))
        case measure => omega
        case rel => exact ⟨k + 1, L ++ [(y, Value.slice A2 y.blocks.length c2)], by omega, int_eq (by omega), bool_eq hdec2.out.symm, HLN.out.symm, by rw [Hid, List.length_append, flat_one]; exact hr2, hbq⟩
    · have hkl : k = p.vols.length := by omega
      rcases Nat.lt_or_ge pos p.vols.length with hpp | hpp
      · have hdec : decide (pos < k) = true := by simp; omega
        have HLE := Lib.hid (show L = insAt pos (x, Value.slice Ab x.blocks.length cb) (p.vols.zip bvs) by rw [hL.out, hkl, ← HZL.out]; exact addP_all (by rw [HZL.out]; exact hpp))
        have HLL := Lib.hid (show L.length = p.vols.length + 1 by rw [HLE.out, insAt_len (by rw [HZL.out]; omega), HZL.out])
        have hrow2 : wr.ownsRow W0.heap.size 43 2 (.slice A5 L.length c5) (p.vols.length + 1) ((insAt pos (x, Value.slice Ab x.blocks.length cb) (p.vols.zip bvs)).flatMap encV) := by
          have h5 := hrow.out
          rw [HLE.out] at h5
          rw [insAt_len (by rw [HZL.out]; omega), HZL.out] at h5
          rw [HLL.out]
          exact h5
        have HFIN := Lib.hid (show OwnP wr base (.slice A0 p.slots.length c0) (.slice A5 L.length c5) ⟨p.slots, insAt (posOf x.name p.vols) x p.vols⟩ (insAt (posOf x.name p.vols) (.slice Ab x.blocks.length cb) bvs) by
          rw [HPOS.out]
          exact ⟨((HP.out.bel HW.out).bel HBW.out).s, ((HP.out.bel HW.out).bel HBW.out).v.added ((HX.out.bel HW.out).bel HBW.out) hpl HAP.out hrow2 (by have := HW.out.size; omega)⟩)
        have hB := HB.out.bel HBW.out
        have hR := HR.out.bel HBW.out
        have q0 := hB.cell 0
        have q1 := hB.cell 1
        have g0 := hB.free 0
        have g1 := hB.free 1
        have r0 := hR.cell 0
        have r1 := hR.cell 1
        have f0 := hR.free 0
        have f1 := hR.free 1
        simp at q0 q1 r0 r1
        have z1 := hR.lt
        have HBR := Lib.hid (And.intro hB hR)
        clear hB hR hrow hrow2 hkl hpp
        rw [hdec]
        clear hdec
        go_wp2
        have hB1 := HBR.out.1.set 1 (.slice A5 L.length c5) (cs' := #[.slice A0 p.slots.length c0, .slice A5 L.length c5]) rfl
        have hR1 := HBR.out.2.apart (show w.heap.size ≠ w.heap.size + 1 + 1 by omega) 1 (.slice A5 L.length c5)
        have hR2 := hR1.set 0 (.slice A0 p.slots.length c0) (cs' := #[.slice A0 p.slots.length c0, .slice none 0 0]) rfl
        have hR3 := hR2.set 1 (.slice A5 L.length c5) (cs' := #[.slice A0 p.slots.length c0, .slice A5 L.length c5]) rfl
        have hop := ((HFIN.out.far HBR.out.1 (by decide) (by decide) (by decide) 1 (.slice A5 L.length c5)).far hR1 (by decide) (by decide) (by decide) 0 (.slice A0 p.slots.length c0)).far hR2 (by decide) (by decide) (by decide) 1 (.slice A5 L.length c5)
        have hb5 := bel_set (bel_set (bel_set (HW.out.tr HBW.out) (Nat.le_refl _) 1 (.slice A5 L.length c5)) (show w.heap.size ≤ w.heap.size + 1 + 1 by omega) 0 (.slice A0 p.slots.length c0)) (show w.heap.size ≤ w.heap.size + 1 + 1 by omega) 1 (.slice A5 L.length c5)
        refine bodyPost_ret (results_cell_row rfl _ _ (w.heap.size + 1 + 1) 30 #[.slice A0 p.slots.length c0, .slice A5 L.length c5] (0, 0) _ rfl hR3 Try.underlying30 rfl (by kernel_rfl)) rfl ?_
        exact ⟨_, rfl, hop, hb5⟩
      · have hpe : pos = p.vols.length := by omega
        have hdec : decide (pos < k) = false := by simp; omega
        have HLE := Lib.hid (show L ++ [(x, Value.slice Ab x.blocks.length cb)] = insAt pos (x, Value.slice Ab x.blocks.length cb) (p.vols.zip bvs) by rw [hL.out, hkl, hpe, ← HZL.out]; exact addP_end)
        have HLL := Lib.hid (show L.length + 1 = p.vols.length + 1 by
          have := congrArg List.length HLE.out
          rwa [insAt_len (by rw [HZL.out]; omega), HZL.out, List.length_append] at this)
        have hB := HB.out.bel HBW.out
        have hV := HV.out.bel HBW.out
        have u0 := hV.cell 0
        have u1 := hV.cell 1
        simp at u0 u1
        have z0 := hV.lt
        have hq1 := hB.cell 1
        have hz0 := hB.lt
        simp at hq1
        have HRW := Lib.hid hrow.out
        clear hB hV hrow hkl hpp hpe
        rw [hdec]
        clear hdec
        go_wp2_with (at_builtin; refine print_append_cells (w0 := W0) W0.heap.size rfl (.tmp 43) (.tmp 45) 28 43 (.agg #[.string ⟨#[]⟩, .slice none 0 0]) 2 40 rfl Try.underlying28 info_vol rfl (by decide) (by decide) _ L.length (L.flatMap encV) (encV (x, .slice Ab x.blocks.length cb)) rfl rfl rfl (by intro u hu; simp [encV] at hu; rcases hu with rfl | rfl <;> rfl) HRW.out HBW.out HBW.out.size (by omega) ?_; intro v2 w5 hr2 hbq hg2 hat2; obtain ⟨A6, c6, rfl, hc6⟩ := own_cap hr2; clear hat2 hg2 u0 u1 z0 hq1 hz0; have HR5 := Lib.hid hr2; have HB5 := Lib.hid hbq; have q0 := (HB.out.bel hbq).cell 0; have q1 := (HB.out.bel hbq).cell 1; have g0 := (HB.out.bel hbq).free 0; have g1 := (HB.out.bel hbq).free 1; have r0 := (HR.out.bel hbq).cell 0; have r1 := (HR.out.bel hbq).cell 1; have f0 := (HR.out.bel hbq).free 0; have f1 := (HR.out.bel hbq).free 1; have z1 := (HR.out.bel hbq).lt; simp at q0 q1 r0 r1; clear hr2 hbq)
        have hrow2 : w5.ownsRow W0.heap.size 43 2 (.slice A6 (L.length + 1) c6) (p.vols.length + 1) ((insAt pos (x, Value.slice Ab x.blocks.length cb) (p.vols.zip bvs)).flatMap encV) := by
          have h5 := HR5.out
          rw [← HLE.out, flat_one]
          rw [HLL.out] at h5 ⊢
          exact h5
        have hfin : OwnP w5 base (.slice A0 p.slots.length c0) (.slice A6 (L.length + 1) c6) ⟨p.slots, insAt (posOf x.name p.vols) x p.vols⟩ (insAt (posOf x.name p.vols) (.slice Ab x.blocks.length cb) bvs) := by
          rw [HPOS.out]
          exact ⟨((HP.out.bel HW.out).bel HB5.out).s, ((HP.out.bel HW.out).bel HB5.out).v.added ((HX.out.bel HW.out).bel HB5.out) hpl HAP.out hrow2 (by have := HW.out.size; omega)⟩
        have hB0 := HB.out.bel HB5.out
        have hR0 := HR.out.bel HB5.out
        have hR1 := hR0.apart (show w.heap.size ≠ w.heap.size + 1 + 1 by omega) 1 (.slice A6 (L.length + 1) c6)
        have hR2 := hR1.set 0 (.slice A0 p.slots.length c0) (cs' := #[.slice A0 p.slots.length c0, .slice none 0 0]) rfl
        have hR3 := hR2.set 1 (.slice A6 (L.length + 1) c6) (cs' := #[.slice A0 p.slots.length c0, .slice A6 (L.length + 1) c6]) rfl
        have hop := ((hfin.far hB0 (by decide) (by decide) (by decide) 1 (.slice A6 (L.length + 1) c6)).far hR1 (by decide) (by decide) (by decide) 0 (.slice A0 p.slots.length c0)).far hR2 (by decide) (by decide) (by decide) 1 (.slice A6 (L.length + 1) c6)
        have hb5 := bel_set (bel_set (bel_set (HW.out.tr HB5.out) (Nat.le_refl _) 1 (.slice A6 (L.length + 1) c6)) (show w.heap.size ≤ w.heap.size + 1 + 1 by omega) 0 (.slice A0 p.slots.length c0)) (show w.heap.size ≤ w.heap.size + 1 + 1 by omega) 1 (.slice A6 (L.length + 1) c6)
        refine bodyPost_ret (results_cell_row rfl _ _ (w.heap.size + 1 + 1) 30 #[.slice A0 p.slots.length c0, .slice A6 (L.length + 1) c6] (0, 0) _ rfl hR3 Try.underlying30 rfl (by kernel_rfl)) rfl ?_
        exact ⟨_, rfl, hop, hb5⟩
end Go.Proofs.Ytpobgjkmjlmafaa
/- PoolMake: what the program's closure does, and the reference. -/



namespace Go.Proofs.Ytpobgjkmjlmafaa
open Go.RowKit Go.Proofs.YtpobgjkmjlmafaaW.PrintWords Go.Proofs.YtpobgjkmjlmafaaW.PrintLast
set_option linter.unusedVariables false
set_option linter.unusedSimpArgs false

theorem makeF_no {p : Pool} {name : ByteArray} {size : Int} (h : isNm name = false ∨ 0 ≤ volIdx p.vols name ∨ inR size 1 6 = false) : makeF p name size = none := by
  unfold makeF
  rw [if_neg]
  rintro ⟨h1, h2, h3⟩
  rcases h with h | h | h
  · rw [h] at h1; cases h1
  · omega
  · rw [h] at h3; cases h3
theorem makeF_yes {p : Pool} {name : ByteArray} {size : Int} (h1 : isNm name = true) (h2 : volIdx p.vols name < 0) (h3 : inR size 1 6 = true) : makeF p name size = some ⟨p.slots, insAt (posOf name p.vols) ⟨name, List.replicate size.toNat 0⟩ p.vols⟩ := by
  unfold makeF
  rw [if_pos ⟨h1, h2, h3⟩]
theorem PV.kept {w w' : World} {b base : Nat} {p : Pool} (h : PV w b base p) (hb : Bel w w') : PV w' b base p := h.bel hb

end Go.Proofs.Ytpobgjkmjlmafaa
/- PoolMake, as the reference does it: l11Make. -/

namespace Go.Proofs.Ytpobgjkmjlmafaa
open Go.RowKit Go.Proofs.YtpobgjkmjlmafaaW.PrintWords Go.Proofs.YtpobgjkmjlmafaaW.PrintLast
set_option linter.unusedVariables false
set_option linter.unusedSimpArgs false

theorem Blk.nw4 (w : World) (o o' o'' : Obj) (cs : Array Value) (t : TypeId) : Blk ((((w.alloc o).alloc o').alloc o'').alloc (.cells cs t)) (w.heap.size + 1 + 1 + 1) cs t := by
  have := Blk.nw3 (w.alloc o) o' o'' cs t
  rwa [show (w.alloc o).heap.size = w.heap.size + 1 by simp] at this
theorem Blk.nw5 (w : World) (o o' o'' o3 : Obj) (cs : Array Value) (t : TypeId) : Blk (((((w.alloc o).alloc o').alloc o'').alloc o3).alloc (.cells cs t)) (w.heap.size + 1 + 1 + 1 + 1) cs t := by
  have := Blk.nw4 (w.alloc o) o' o'' o3 cs t
  rwa [show (w.alloc o).heap.size = w.heap.size + 1 by simp] at this
set_option maxHeartbeats 8000000 in
set_option maxRecDepth 10000 in
theorem l11Make_c {w : World} {base : Nat} {v0 v1 : Value} {bvs : List Value} {p : Pool} {name : ByteArray} {size : Int} (h : OwnP w base v0 v1 p bvs) (hs : SmallP p) (hp : PoolP p) (hbase : base ≤ w.heap.size) (hnm : name.size ≤ 1048576) :
    Calls Try.prog 101 #[.agg #[v0, v1], .string name, .int .i64 size] w (TurnsP base p (makeF p name size) w) := by
  have HS := Lib.hid hs
  have HK := Lib.hid hp
  obtain ⟨A0, A1, c0, c1, rfl, rfl, hpi⟩ := h.reads
  have HP := Lib.hid h
  have HI := Lib.hid hpi
  have hlv := HS.out.vols.len
  have hnx : name.size ≤ maxLen := by unfold maxLen; omega
  have HNX := Lib.hid hnx
  clear h hs hp hpi hnx
  go_enter Try.func101, Try.ntmps101
  go_wp2_with fail
  have hB : Blk ((w.alloc (.cells #[.slice A0 p.slots.length c0, .slice A1 p.vols.length c1] 30)).alloc (.cells #[.slice none 0 0, .slice none 0 0] 30)) w.heap.size #[.slice A0 p.slots.length c0, .slice A1 p.vols.length c1] 30 := (Blk.new _ _ _).alloc _
  have hR : Blk ((w.alloc (.cells #[.slice A0 p.slots.length c0, .slice A1 p.vols.length c1] 30)).alloc (.cells #[.slice none 0 0, .slice none 0 0] 30)) (w.heap.size + 1) #[.slice none 0 0, .slice none 0 0] 30 := Blk.nw2 _ _ _ _
  have hW : Bel w ((w.alloc (.cells #[.slice A0 p.slots.length c0, .slice A1 p.vols.length c1] 30)).alloc (.cells #[.slice none 0 0, .slice none 0 0] 30)) := bel_alloc (bel_alloc (Below.refl _ _) _) _
  generalize ((w.alloc (.cells #[.slice A0 p.slots.length c0, .slice A1 p.vols.length c1] 30)).alloc (.cells #[.slice none 0 0, .slice none 0 0] 30)) = W0 at hB hR hW ⊢
  -- what a failing way leaves
  have hno : ∀ W : World, Bel W0 W → makeF p name size = none →
      Blk ((W.setCell ⟨w.heap.size + 1, 0, none⟩ (.slice A0 p.slots.length c0)).setCell ⟨w.heap.size + 1, 1, none⟩ (.slice A1 p.vols.length c1)) (w.heap.size + 1) #[.slice A0 p.slots.length c0, .slice A1 p.vols.length c1] 30 ∧
      TurnsP base p (makeF p name size) w (.returned (.tuple #[.agg #[.slice A0 p.slots.length c0, .slice A1 p.vols.length c1], .bool false])) ((W.setCell ⟨w.heap.size + 1, 0, none⟩ (.slice A0 p.slots.length c0)).setCell ⟨w.heap.size + 1, 1, none⟩ (.slice A1 p.vols.length c1)) := by
    intro W hb hn
    have hR2 := hR.bel hb
    have hR3 := hR2.set 0 (.slice A0 p.slots.length c0) (cs' := #[.slice A0 p.slots.length c0, .slice none 0 0]) rfl
    have hR4 := hR3.set 1 (.slice A1 p.vols.length c1) (cs' := #[.slice A0 p.slots.length c0, .slice A1 p.vols.length c1]) rfl
    have hb5 := bel_set (bel_set (hW.tr hb) (Nat.le_succ _) 0 (.slice A0 p.slots.length c0)) (Nat.le_succ _) 1 (.slice A1 p.vols.length c1)
    have hop4 := ((HP.out.bel (hW.tr hb)).far hR2 (by decide) (by decide) (by decide) 0 (.slice A0 p.slots.length c0)).far hR3 (by decide) (by decide) (by decide) 1 (.slice A1 p.vols.length c1)
    refine ⟨hR4, ?_⟩
    rw [hn]
    exact ⟨_, _, _, rfl, hop4, Fr.ofBel hb5 hbase⟩
  have HNO := Lib.hid hno
  have HB := Lib.hid hB
  have HR := Lib.hid hR
  have HW := Lib.hid hW
  have q0 := HB.out.cell 0
  have q1 := HB.out.cell 1
  have r0 := HR.out.cell 0
  have r1 := HR.out.cell 1
  have f0 := HR.out.free 0
  have f1 := HR.out.free 1
  have z1 := HR.out.lt
  simp at q0 q1 r0 r1
  clear hB hR hW hno
  refine (l3Name_c name _ HNX.out).mono ?_
  rintro e w' ⟨rfl, rfl⟩
  cases h1 : isNm name with
  | false =>
    have HG := Lib.hid (show makeF p name size = none from makeF_no (.inl h1))
    go_wp2
    have hend := HNO.out W0 (Below.refl _ _) HG.out
    refine bodyPost_ret (results_ct rfl _ _ (w.heap.size + 1) 30 #[.slice A0 p.slots.length c0, .slice A1 p.vols.length c1] (0, 0) _ rfl hend.1 Try.underlying30 rfl (by kernel_rfl)) rfl ?_
    exact hend.2
  | true =>
    cases h3 : inR size 1 6 with
    | false =>
      have HG := Lib.hid (show makeF p name size = none from makeF_no (.inr (.inr h3)))
      go_wp2_with (go_at_call 98; refine (l6In_c size 1 6 _).mono ?_; rintro e w' ⟨rfl, rfl⟩)
      have hend := HNO.out W0 (Below.refl _ _) HG.out
      refine bodyPost_ret (results_ct rfl _ _ (w.heap.size + 1) 30 #[.slice A0 p.slots.length c0, .slice A1 p.vols.length c1] (0, 0) _ rfl hend.1 Try.underlying30 rfl (by kernel_rfl)) rfl ?_
      exact hend.2
    | true =>
      go_wp2_with (go_at_call 98; refine (l6In_c size 1 6 _).mono ?_; rintro e w' ⟨rfl, rfl⟩)
      refine (l11At_c _ p.vols A1 c1 name _ (HI.out.bel HW.out).v hlv).mono ?_
      rintro e w1 ⟨rfl, hb1⟩
      have hbd := volIdx_bd p.vols name
      clear q0 q1 r0 r1 f0 f1 z1
      have q0 := (HB.out.bel hb1).cell 0
      have q1 := (HB.out.bel hb1).cell 1
      have r0 := (HR.out.bel hb1).cell 0
      have r1 := (HR.out.bel hb1).cell 1
      have f0 := (HR.out.bel hb1).free 0
      have f1 := (HR.out.bel hb1).free 1
      have z1 := (HR.out.bel hb1).lt
      simp at q0 q1 r0 r1
      have HB1 := Lib.hid hb1
      clear hb1
      by_cases h2 : 0 ≤ volIdx p.vols name
      · have HG := Lib.hid (show makeF p name size = none from makeF_no (.inr (.inl h2)))
        go_wp2
        have hend := HNO.out w1 HB1.out HG.out
        refine bodyPost_ret (results_ct rfl _ _ (w.heap.size + 1) 30 #[.slice A0 p.slots.length c0, .slice A1 p.vols.length c1] (0, 0) _ rfl hend.1 Try.underlying30 rfl (by kernel_rfl)) rfl ?_
        exact hend.2
      · have h2' : volIdx p.vols name < 0 := by omega
        have hr := inR_iff.1 h3
        have hs1 : 1 ≤ size := hr.1
        have hs6 : size ≤ 6 := hr.2
        clear hr
        obtain ⟨zs, hzs⟩ : ∃ zs, List.replicate size.toNat (0 : Int) = zs := ⟨_, rfl⟩
        have HG := Lib.hid (show makeF p name size = some ⟨p.slots, insAt (posOf name p.vols) ⟨name, zs⟩ p.vols⟩ from hzs ▸ makeF_yes h1 h2' h3)
        have HZS := Lib.hid hzs
        have HNM := Lib.hid (And.intro h1 (fun (m : Nat) (y : Vol) (hy : p.vols[m]? = some y) => HK.out.v.nm hy))
        clear hzs
        go_wp2
        clear h1 h3
        refine start_ (n := 8) (S := fun w' => w'.cell? ⟨w.heap.size, 0, none⟩ = some (.slice A0 p.slots.length c0) ∧ w'.cell? ⟨w.heap.size, 1, none⟩ = some (.slice A1 p.vols.length c1)) (ds := [6]) #[false, false, false, false, false, false, false, false] (by kernel_rfl) rfl rfl ⟨q0, q1⟩ (fun hHeld => ?_)
        refine pure_ (i := 1) (N := some 24) (v := ?_) (a' := ?_) #[false, true, false, false, false, false, false, false] rfl rfl (by kernel_rfl) (fun _ _ _ h => h) (Or.inl ⟨by rfl, ?_⟩) ?_ ?_
        rotate_left
        · intro w'
          go_simp
          with_reducible rfl
        rotate_left
        · simp only [Act.put, List.setIfInBounds_toArray, List.set_cons_zero, List.set_cons_succ, i64_w, i32_w]
          rfl
        refine pure_ (i := 2) (N := some 25) (v := ?_) (a' := ?_) #[false, true, true, false, false, false, false, false] rfl rfl (by kernel_rfl) (fun _ _ _ h => h) (Or.inl ⟨by rfl, ?_⟩) ?_ ?_
        rotate_left
        · intro w'
          go_simp
          with_reducible rfl
        rotate_left
        · simp only [Act.put, List.setIfInBounds_toArray, List.set_cons_zero, List.set_cons_succ, i64_w, i32_w]
          rfl
        refine take_ (i := 0) (N := some 23) (v := ?_) (a' := ?_) #[true, true, true, false, false, false, false, false] rfl rfl (by kernel_rfl) (fun _ _ _ h => h) (Or.inl ⟨by rfl, ?_⟩) hHeld ?_ ?_
        rotate_left
        · rintro w' ⟨s0, s1⟩
          go_simp
          with_reducible rfl
        rotate_left
        · simp only [Act.put, List.setIfInBounds_toArray, List.set_cons_zero, List.set_cons_succ, i64_w, i32_w]
          rfl
        refine one_ (i := 3) (N := some 26) #[true, true, true, true, false, false, false, false] rfl rfl (by kernel_rfl) (by decide) (fun K hK => ?_)
        refine Kd.R_make_step kInt (w0 := w1.drew) w1.drew.heap.size 3 (by rfl) (N := 26) rfl 41 _ _ rfl size rfl rfl Try.underlying41 (.int .i64 0) 8 info_int rfl (by decide) (by omega) 0 (ok := fun _ => True) (okp := fun _ => True) (kInt_mkM _ _ _ 0) (fun _ hk => hk) trivial (by omega) (by omega) (Below.refl _ _) (Nat.le_refl _) ?_
        intro v2 w2 ho hb2' hg_ hnew_
        clear hg_ hnew_
        have ho2 : OwnI w2 w1.drew.heap.size v2 zs := HZS.out ▸ ownI_of_R ho
        have hb1' : Bel W0 w2 := Bel.tr (Bel.tr HB1.out (Below.refl _ _).drew) hb2'
        have HB1' := Lib.hid hb1'
        obtain ⟨A2, c2, rfl, hc2, hC2⟩ := ho2.reads
        have hlow : OwnI w2 base (.slice A2 zs.length c2) zs := own_lower ho2 (Nat.le_trans hbase (Nat.le_trans HW.out.size HB1.out.size))
        have HL2 := Lib.hid hlow
        have hap : ∀ (m : Nat) (b' : Value) (k : Nat), bvs[m]? = some b' → b'.ownBlock = some k → Value.ownBlock (.slice A2 zs.length c2) ≠ some k := fun m b' k hm hk h2 => by have e1 := HP.out.v.inner_lt hm hk; have e2 := own_block_ge ho2 h2; have e3 := HW.out.size; have e4 := HB1.out.size; have e5 : w1.drew.heap.size = w1.heap.size := rfl; omega
        have HAP := Lib.hid hap
        clear hlow hap
        have u1 := (HB.out.bel hb1').cell 0
        have u2 := (HB.out.bel hb1').cell 1
        simp at u1 u2
        clear ho ho2 hb1' hb2' hC2 hc2
        refine hK.out _ _ ⟨u1, u2⟩ (fun hHeld => ?_)
        clear hK K
        refine norm_ (a' := ?_) ?_ ?_
        rotate_left
        · show Act.put _ (some 26) _ = _
          simp only [Act.put, List.setIfInBounds_toArray, List.set_cons_zero, List.set_cons_succ, i64_w, i32_w]
          rfl
        refine pure_ (i := 4) (N := some 27) (v := ?_) (a' := ?_) #[true, true, true, true, true, false, false, false] rfl rfl (by kernel_rfl) (fun _ _ _ h => h) (Or.inl ⟨by rfl, ?_⟩) ?_ ?_
        rotate_left
        · intro w'
          go_simp
          with_reducible rfl
        rotate_left
        · simp only [Act.put, List.setIfInBounds_toArray, List.set_cons_zero, List.set_cons_succ, i64_w, i32_w]
          rfl
        refine one_ (i := 5) (N := some 28) #[true, true, true, true, true, true, false, false] rfl rfl (by kernel_rfl) (by decide) (fun K hK => ?_)
        refine goes_ Try.func141 (by kernel_rfl) rfl #[.agg #[.slice A0 p.slots.length c0, .slice A1 p.vols.length c1], .agg #[.string name, .slice A2 zs.length c2]] (by rfl) rfl rfl (by simp only [List.map_toArray, List.map_cons, List.map_nil]; rfl) ?_
        with_reducible refine (l11Add_c (x := ⟨name, zs⟩) (HP.out.bel (HW.out.tr HB1'.out)) HL2.out HS.out (Nat.le_trans hbase (HW.out.tr HB1'.out).size) HAP.out HNM.out.1 HNM.out.2).mono ?_
        rintro e w3 ⟨v3, rfl, ho3, hb3⟩
        have HO3 := Lib.hid ho3
        have HB3 := Lib.hid (HB1'.out.tr hb3)
        obtain ⟨A7, A8, c7, c8, e7, rfl, hpi3⟩ := ho3.reads
        have s0 := (HR.out.bel HB3.out).cell 0
        have s1 := (HR.out.bel HB3.out).cell 1
        have t0 := (HR.out.bel HB3.out).free 0
        have t1 := (HR.out.bel HB3.out).free 1
        simp at s0 s1
        have u3 := (HB.out.bel HB3.out).cell 0
        have u4 := (HB.out.bel HB3.out).cell 1
        simp at u3 u4
        clear ho3 hb3 hpi3 e7
        refine ⟨_, rfl, ?_⟩
        refine hK.out _ _ ⟨u3, u4⟩ (fun hHeld => ?_)
        clear hK K
        refine norm_ (a' := ?_) ?_ ?_
        rotate_left
        · show Act.put _ (some 28) _ = _
          simp only [Act.put, List.setIfInBounds_toArray, List.set_cons_zero, List.set_cons_succ, i64_w, i32_w]
          rfl
        refine last_ (i := 6) (N := none) #[true, true, true, true, true, true, true, false] rfl rfl (by kernel_rfl) (by decide) (fun K hK => ?_)
        refine skip_ (w1 := ?_) (by rfl) rfl ?_ ?_
        rotate_left
        · go_simp
          rfl
        refine hK.out _ _ ?_
        clear hK K
        refine pure_ (i := 7) (N := some 7) (v := ?_) (a' := ?_) #[true, true, true, true, true, true, true, true] rfl rfl (by kernel_rfl) (fun _ _ _ h => h) (Or.inl ⟨by rfl, ?_⟩) ?_ ?_
        rotate_left
        · intro w'
          go_simp
          with_reducible rfl
        rotate_left
        · simp only [Act.put, List.setIfInBounds_toArray, List.set_cons_zero, List.set_cons_succ, i64_w, i32_w]
          rfl
        refine done_ (by kernel_rfl) ?_
        clear hHeld
        go_wp2
        have hR2 := HR.out.bel HB3.out
        have hR3 := hR2.set 0 (.slice A0 p.slots.length c0) (cs' := #[.slice A0 p.slots.length c0, .slice none 0 0]) rfl
        have hR4 := hR3.set 1 (.slice A8 (insAt (posOf name p.vols) (⟨name, zs⟩ : Vol) p.vols).length c8) (cs' := #[.slice A0 p.slots.length c0, .slice A8 (insAt (posOf name p.vols) (⟨name, zs⟩ : Vol) p.vols).length c8]) rfl
        have hb5 := bel_set (bel_set (HW.out.tr HB3.out) (Nat.le_succ _) 0 (.slice A0 p.slots.length c0)) (Nat.le_succ _) 1 (.slice A8 (insAt (posOf name p.vols) (⟨name, zs⟩ : Vol) p.vols).length c8)
        have hop4 := (HO3.out.far hR2 (by decide) (by decide) (by decide) 0 (.slice A0 p.slots.length c0)).far hR3 (by decide) (by decide) (by decide) 1 (.slice A8 (insAt (posOf name p.vols) (⟨name, zs⟩ : Vol) p.vols).length c8)
        refine bodyPost_ret (results_ct rfl _ _ (w.heap.size + 1) 30 #[.slice A0 p.slots.length c0, .slice A8 (insAt (posOf name p.vols) (⟨name, zs⟩ : Vol) p.vols).length c8] (0, 0) _ rfl hR4 Try.underlying30 rfl (by kernel_rfl)) rfl ?_
        rw [HG.out]
        exact ⟨_, _, _, rfl, hop4, Fr.ofBel hb5 hbase⟩
end Go.Proofs.Ytpobgjkmjlmafaa
/- PoolClone: what the program's closure does. -/

namespace Go.Proofs.Ytpobgjkmjlmafaa
open Go.RowKit Go.Proofs.YtpobgjkmjlmafaaW.PrintWords Go.Proofs.YtpobgjkmjlmafaaW.PrintLast
set_option linter.unusedVariables false
set_option linter.unusedSimpArgs false

theorem cloneF_no {p : Pool} {fr dst : ByteArray} (h : volIdx p.vols fr < 0 ∨ isNm dst = false ∨ 0 ≤ volIdx p.vols dst) : cloneF p fr dst = none := by
  unfold cloneF
  rw [if_neg]
  rintro ⟨h1, h2, h3⟩
  rcases h with h | h | h
  · omega
  · rw [h] at h2; cases h2
  · omega
theorem cloneF_yes {p : Pool} {fr dst : ByteArray} {i : Nat} {v : Vol} (hi : volIdx p.vols fr = i) (hv : p.vols[i]? = some v) (h1 : isNm dst = true) (h2 : volIdx p.vols dst < 0) :
    cloneF p fr dst = some ⟨incAll p.slots v.blocks, insAt (posOf dst p.vols) ⟨dst, v.blocks⟩ p.vols⟩ := by
  unfold cloneF
  rw [if_pos ⟨by omega, h1, h2⟩, hi]
  unfold volAt
  rw [Int.toNat_natCast, getD_of hv]
theorem cnt_take (q : Int) : ∀ (xs : List Int) (k : Nat), cnt q (xs.take k) ≤ cnt q xs
  | [], k => by simp
  | a :: xs, 0 => by have := cnt_le q (a :: xs); simp [cnt] at this ⊢; exact this.1
  | a :: xs, k + 1 => by have := cnt_take q xs k; simp only [List.take_succ_cons, cnt]; omega
theorem inc_at {p : Pool} (hp : PoolP p) {i : Nat} {v : Vol} (hv : p.vols[i]? = some v) {k m : Nat} (hx : v.blocks[k]? = some ((m : Int) + 1)) : ∃ y, (incAll p.slots (v.blocks.take k))[m]? = some y ∧ 0 ≤ y.uses ∧ y.uses ≤ 98 := by
  have hvo := volOk_parts (hp.v.v i v hv)
  have hr := hvo.1
  obtain ⟨_, h2⟩ := incAll_get (xs := v.blocks.take k) hp.s (fun x hx => hr x (List.mem_of_mem_take hx)) (fun j x hj => by
    have h1 := hp.uses j x hj
    have h2 := uses_mem (p := (j : Int) + 1) hv
    have h3 := hp.v.uses_le ((j : Int) + 1)
    have h4 := cnt_le ((j : Int) + 1) v.blocks
    have h5 := cnt_take ((j : Int) + 1) v.blocks k
    have h6 := cnt_le ((j : Int) + 1) (v.blocks.take k)
    constructor
    · omega
    · omega)
  have hm := hr _ (List.mem_of_getElem? hx)
  obtain ⟨x, hxs⟩ := getQ (show m < p.slots.length by rw [hp.s.len]; omega)
  refine ⟨_, h2 m x hxs, ?_⟩
  have h1 := hp.uses m x hxs
  have h2 := uses_mem (p := (m : Int) + 1) hv
  have h3 := hp.v.uses_le ((m : Int) + 1)
  have h4 := cnt_le ((m : Int) + 1) v.blocks
  have h5 := cnt_take ((m : Int) + 1) v.blocks k
  have h6 := cnt_le ((m : Int) + 1) (v.blocks.take k)
  have h7 := uses_nonneg ((m : Int) + 1) p.vols
  simp only
  omega

end Go.Proofs.Ytpobgjkmjlmafaa
/- PoolClone, as the reference does it: l11Clone. -/

namespace Go.Proofs.Ytpobgjkmjlmafaa
open Go.RowKit Go.Proofs.YtpobgjkmjlmafaaW.PrintWords Go.Proofs.YtpobgjkmjlmafaaW.PrintLast
set_option linter.unusedVariables false
set_option linter.unusedSimpArgs false

theorem StoreP.smallS {s : List Slot} (h : StoreP s) : SmallS s := ⟨by have := h.len; omega, fun x hx => by
  obtain ⟨i, hi⟩ := List.getElem?_of_mem hx
  have h1 := (h.ok i x hi).1
  unfold tOk at h1
  simp at h1
  omega⟩
set_option maxHeartbeats 8000000 in
set_option maxRecDepth 10000 in
theorem l11Clone_c {w : World} {base : Nat} {v0 v1 : Value} {bvs : List Value} {p : Pool} {fr dst : ByteArray} (h : OwnP w base v0 v1 p bvs) (hs : SmallP p) (hp : PoolP p) (hbase : base ≤ w.heap.size) (hnm : dst.size ≤ 1048576) :
    Calls Try.prog 107 #[.agg #[v0, v1], .string fr, .string dst] w (TurnsP base p (cloneF p fr dst) w) := by
  have HS := Lib.hid hs
  have HK := Lib.hid hp
  obtain ⟨A0, A1, c0, c1, rfl, rfl, hpi⟩ := h.reads
  have HP := Lib.hid h
  have HI := Lib.hid hpi
  have hlv := HS.out.vols.len
  have hnx : dst.size ≤ maxLen := by unfold maxLen; omega
  have HNX := Lib.hid hnx
  clear h hs hp hpi hnx
  go_enter Try.func107, Try.ntmps107
  go_wp2_with fail
  have hB : Blk ((w.alloc (.cells #[.slice A0 p.slots.length c0, .slice A1 p.vols.length c1] 30)).alloc (.cells #[.slice none 0 0, .slice none 0 0] 30)) w.heap.size #[.slice A0 p.slots.length c0, .slice A1 p.vols.length c1] 30 := (Blk.new _ _ _).alloc _
  have hR : Blk ((w.alloc (.cells #[.slice A0 p.slots.length c0, .slice A1 p.vols.length c1] 30)).alloc (.cells #[.slice none 0 0, .slice none 0 0] 30)) (w.heap.size + 1) #[.slice none 0 0, .slice none 0 0] 30 := Blk.nw2 _ _ _ _
  have hW : Bel w ((w.alloc (.cells #[.slice A0 p.slots.length c0, .slice A1 p.vols.length c1] 30)).alloc (.cells #[.slice none 0 0, .slice none 0 0] 30)) := bel_alloc (bel_alloc (Below.refl _ _) _) _
  generalize ((w.alloc (.cells #[.slice A0 p.slots.length c0, .slice A1 p.vols.length c1] 30)).alloc (.cells #[.slice none 0 0, .slice none 0 0] 30)) = W0 at hB hR hW ⊢
  have hno : ∀ W : World, Bel W0 W → cloneF p fr dst = none →
      Blk ((W.setCell ⟨w.heap.size + 1, 0, none⟩ (.slice A0 p.slots.length c0)).setCell ⟨w.heap.size + 1, 1, none⟩ (.slice A1 p.vols.length c1)) (w.heap.size + 1) #[.slice A0 p.slots.length c0, .slice A1 p.vols.length c1] 30 ∧
      TurnsP base p (cloneF p fr dst) w (.returned (.tuple #[.agg #[.slice A0 p.slots.length c0, .slice A1 p.vols.length c1], .bool false])) ((W.setCell ⟨w.heap.size + 1, 0, none⟩ (.slice A0 p.slots.length c0)).setCell ⟨w.heap.size + 1, 1, none⟩ (.slice A1 p.vols.length c1)) := by
    intro W hb hn
    have hR2 := hR.bel hb
    have hR3 := hR2.set 0 (.slice A0 p.slots.length c0) (cs' := #[.slice A0 p.slots.length c0, .slice none 0 0]) rfl
    have hR4 := hR3.set 1 (.slice A1 p.vols.length c1) (cs' := #[.slice A0 p.slots.length c0, .slice A1 p.vols.length c1]) rfl
    have hb5 := bel_set (bel_set (hW.tr hb) (Nat.le_succ _) 0 (.slice A0 p.slots.length c0)) (Nat.le_succ _) 1 (.slice A1 p.vols.length c1)
    have hop4 := ((HP.out.bel (hW.tr hb)).far hR2 (by decide) (by decide) (by decide) 0 (.slice A0 p.slots.length c0)).far hR3 (by decide) (by decide) (by decide) 1 (.slice A1 p.vols.length c1)
    refine ⟨hR4, ?_⟩
    rw [hn]
    exact ⟨_, _, _, rfl, hop4, Fr.ofBel hb5 hbase⟩
  have HNO := Lib.hid hno
  have HB := Lib.hid hB
  have HR := Lib.hid hR
  have HW := Lib.hid hW
  clear hB hR hW hno
  refine (l11At_c _ p.vols A1 c1 fr _ (HI.out.bel HW.out).v hlv).mono ?_
  rintro e w1 ⟨rfl, hb1⟩
  have HB1 := Lib.hid hb1
  clear hb1
  have q0 := (HB.out.bel HB1.out).cell 0
  have q1 := (HB.out.bel HB1.out).cell 1
  have r0 := (HR.out.bel HB1.out).cell 0
  have r1 := (HR.out.bel HB1.out).cell 1
  have f0 := (HR.out.bel HB1.out).free 0
  have f1 := (HR.out.bel HB1.out).free 1
  have z1 := (HR.out.bel HB1.out).lt
  simp at q0 q1 r0 r1
  by_cases hn : volIdx p.vols fr < 0
  · have HG := Lib.hid (show cloneF p fr dst = none from cloneF_no (.inl hn))
    go_wp2
    have hend := HNO.out w1 HB1.out HG.out
    refine bodyPost_ret (results_ct rfl _ _ (w.heap.size + 1) 30 #[.slice A0 p.slots.length c0, .slice A1 p.vols.length c1] (0, 0) _ rfl hend.1 Try.underlying30 rfl (by kernel_rfl)) rfl ?_
    exact hend.2
  · obtain ⟨i, v, hi, hv, hvn⟩ := volIdx_yes hn
    have HV := Lib.hid hv
    have HII := Lib.hid hi
    have hil := ltQ hv
    have hx1 : v.blocks.length ≤ 1048576 := HS.out.vols.blocks v (List.mem_of_getElem? HV.out)
    rw [hi]
    clear hn hvn hv hi
    have hin : ¬ ((i : Int) < 0) := by omega
    cases h1 : isNm dst with
    | false =>
      have HG := Lib.hid (show cloneF p fr dst = none from cloneF_no (.inr (.inl h1)))
      go_wp2_with (go_at_call 115; refine (l3Name_c dst _ HNX.out).mono ?_; rintro e w' ⟨rfl, rfl⟩)
      have hend := HNO.out w1 HB1.out HG.out
      refine bodyPost_ret (results_ct rfl _ _ (w.heap.size + 1) 30 #[.slice A0 p.slots.length c0, .slice A1 p.vols.length c1] (0, 0) _ rfl hend.1 Try.underlying30 rfl (by kernel_rfl)) rfl ?_
      exact hend.2
    | true =>
      have hbd := volIdx_bd p.vols dst
      go_wp2_with (go_at_call 115; refine (l3Name_c dst _ HNX.out).mono ?_; rintro e w' ⟨rfl, rfl⟩)
      refine (l11At_c _ p.vols A1 c1 dst _ (HI.out.bel (HW.out.tr HB1.out)).v hlv).mono ?_
      rintro e w2 ⟨rfl, hb2⟩
      have HB2 := Lib.hid (HB1.out.tr hb2)
      clear hb2 q0 q1 r0 r1 f0 f1 z1
      have q0 := (HB.out.bel HB2.out).cell 0
      have q1 := (HB.out.bel HB2.out).cell 1
      have r0 := (HR.out.bel HB2.out).cell 0
      have r1 := (HR.out.bel HB2.out).cell 1
      have f0 := (HR.out.bel HB2.out).free 0
      have f1 := (HR.out.bel HB2.out).free 1
      have z1 := (HR.out.bel HB2.out).lt
      have z0 := (HB.out.bel HB2.out).lt
      simp at q0 q1 r0 r1
      by_cases h2 : 0 ≤ volIdx p.vols dst
      · have HG := Lib.hid (show cloneF p fr dst = none from cloneF_no (.inr (.inr h2)))
        go_wp2
        have hend := HNO.out w2 HB2.out HG.out
        refine bodyPost_ret (results_ct rfl _ _ (w.heap.size + 1) 30 #[.slice A0 p.slots.length c0, .slice A1 p.vols.length c1] (0, 0) _ rfl hend.1 Try.underlying30 rfl (by kernel_rfl)) rfl ?_
        exact hend.2
      · have h2' : volIdx p.vols dst < 0 := by omega
        have HG := Lib.hid (show cloneF p fr dst = some ⟨incAll p.slots v.blocks, insAt (posOf dst p.vols) ⟨dst, v.blocks⟩ p.vols⟩ from cloneF_yes HII.out HV.out h1 h2')
        have HNM := Lib.hid (And.intro h1 (fun (m : Nat) (y : Vol) (hy : p.vols[m]? = some y) => HK.out.v.nm hy))
        have HO2 := Lib.hid (HP.out.bel (HW.out.tr HB2.out))
        obtain ⟨g, cap, bv, hbv, ev, hg1, hg2, hcap, hc, hc', hf, hf'⟩ := HO2.out.v.row.at HV.out
        have ev := slice_eq ev
        obtain ⟨rfl, -, rfl⟩ := ev
        obtain ⟨A2, c2, rfl, hc2, hC2⟩ := (HO2.out.v.inner i v bv HV.out hbv).reads
        have HC2 := Lib.hid hC2
        have hw2 : w.heap.size ≤ w2.heap.size := (HW.out.tr HB2.out).size
        clear hC2 hbv h1 hf hf' hc
        go_wp2_with (at_builtin; refine Kd.R_append_rows kInt (w0 := w2) w2.heap.size rfl (.tmp 29) (.tmp 35) 41 3 (.int .i64 0) 8 rfl Try.underlying41 info_int rfl (by decide) (by decide) _ [] v.blocks _ _ _ (fun _ => True) (fun _ => False) rfl rfl (R_emptyI w2 w2.heap.size (Nat.le_refl _)) (Kd.C_alloc HC2.out _) (fun _ _ h => h) (fun _ h => h.elim) (fun _ _ => trivial) ?a2 ?a3 ?a4 ?_; (case a2 => exact bel_alloc (Below.refl _ _) _); (case a3 => simp); (case a4 => simp; omega); intro v3 w3 ho hb3 hg hat; clear hg hat; have ho3 : OwnI w3 w2.heap.size v3 v.blocks := ownI_of_R ho; have HO3 := Lib.hid ho3; have HB3 := Lib.hid hb3; obtain ⟨A3, c3, rfl, hc3, hC3⟩ := ho3.reads; clear ho ho3 hb3 hC3)
        have hX : Blk (w3.alloc (.cells #[.string dst, .slice A3 v.blocks.length c3] 43)) w3.heap.size #[.string dst, .slice A3 v.blocks.length c3] 43 := Blk.new _ _ _
        have hbx : Bel w3 (w3.alloc (.cells #[.string dst, .slice A3 v.blocks.length c3] 43)) := bel_alloc (Below.refl _ _) _
        generalize w3.alloc (.cells #[.string dst, .slice A3 v.blocks.length c3] 43) = W4 at hX hbx ⊢
        obtain ⟨b9, hb9⟩ : ∃ b9, w3.heap.size = b9 := ⟨_, rfl⟩
        rw [hb9] at hX ⊢
        have HX := Lib.hid hX
        have HB4 := Lib.hid ((HB2.out.tr HB3.out).tr hbx)
        have HO4 := Lib.hid (HP.out.bel (HW.out.tr ((HB2.out.tr HB3.out).tr hbx)))
        have hb93 : w.heap.size ≤ b9 := by have := HB3.out.size; omega
        have HI4 := Lib.hid (show OwnI W4 base (.slice A3 v.blocks.length c3) v.blocks from own_lower (OwnI.bel HO3.out hbx) (by omega))
        have hge : ∀ k, Value.ownBlock (.slice A3 v.blocks.length c3) = some k → w.heap.size ≤ k := fun k hk => Nat.le_trans hw2 (own_block_ge HO3.out hk)
        have HGE := Lib.hid hge
        clear hX hbx hb9 q0 q1 r0 r1 f0 f1 z1 z0 hc' hge
        go_loopg [10] v.blocks.length (fun gg v10 W => ∃ k : Nat, gg + k = v.blocks.length ∧ v10 = .int .i64 k ∧ Hid ((Blk W w.heap.size #[.slice A0 p.slots.length c0, .slice (some ⟨g, 0, none⟩) p.vols.length c1] 30 ∧ Blk W (w.heap.size + 1) #[.slice none 0 0, .slice none 0 0] 30 ∧ Blk W b9 #[.string dst, .slice A3 v.blocks.length c3] 43) ∧ OwnS W base (.slice A0 p.slots.length c0) (incAll p.slots (v.blocks.take k)) ∧ OwnV W base (.slice (some ⟨g, 0, none⟩) p.vols.length c1) p.vols bvs ∧ OwnI W base (.slice A3 v.blocks.length c3) v.blocks ∧ Fr base w W))
        case atStart => exact ⟨0, rfl, rfl, ⟨HB.out.bel HB4.out, HR.out.bel HB4.out, HX.out⟩, HO4.out.s, HO4.out.v, HI4.out, Fr.ofBel (HW.out.tr HB4.out) hbase⟩
        case round =>
          obtain ⟨k, hk, rfl, hinv⟩ := hrel
          have x1 := hinv.out.1.2.2.cell 1
          have x0 := hinv.out.1.2.2.cell 0
          have q0 := hinv.out.1.1.cell 0
          have q1 := hinv.out.1.1.cell 1
          simp at x0 x1 q0 q1
          by_cases hlt : k < v.blocks.length
          · obtain ⟨x, hx⟩ := getQ hlt
            have hxr := (volOk_parts (HK.out.v.v i v HV.out)).1 x (List.mem_of_getElem? hx)
            obtain ⟨A5, c5, e5, hc5, hC5⟩ := hinv.out.2.2.2.1.reads
            have e5 := slice_eq e5
            obtain ⟨rfl, -, rfl⟩ := e5
            obtain ⟨ad2, rfl, hcx⟩ := at_int hC5 hx
            clear hC5
            by_cases h0 : 0 < x
            · obtain ⟨m, rfl⟩ : ∃ m : Nat, x = (m : Int) + 1 := ⟨(x - 1).toNat, by omega⟩
              obtain ⟨y, hy, hy1, hy2⟩ := inc_at HK.out HV.out hx
              have HT := Lib.hid (show incAll p.slots (v.blocks.take (k + 1)) = (incAll p.slots (v.blocks.take k)).set m ⟨y.text, y.uses + 1⟩ by rw [take_snoc hx, incAll_snoc, if_pos h0, show ((m : Int) + 1 - 1).toNat = m by omega, incS_eq hy])
              have hdl : (incAll p.slots (v.blocks.take k)).length = 8 := by rw [incAll_len, HK.out.s.len]
              have hsl : p.slots.length = 8 := HK.out.s.len
              have hml := ltQ hy
              rw [hdl] at hml
              have hos := hinv.out.2.1
              obtain ⟨g2, cap2, ev, hg3, hg4, hcap2, hcc, hcc', hf, hf'⟩ := OwnS.at hos hy
              rw [hdl] at ev hcap2
              have ev2 := slice_eq ev
              obtain ⟨rfl, -, rfl⟩ := ev2
              rw [hsl] at hos
              have hset := OwnS.setU (hdl ▸ hos) hy (y.uses + 1)
              have H3 := Lib.hid hset
              have HDL := Lib.hid hdl
              have HSL := Lib.hid hsl
              rw [hsl] at q0
              clear hx hy hos hset hdl ev
              clear hsl
              go_wp2
              have hm8 : (m : Int) < 8 := by omega
              have hwm : wrap64 (m : Int) = m := by unfold wrap64; omega
              have hwm2 : wrap64 (y.uses + 1) = y.uses + 1 := by unfold wrap64; omega
              refine start_ (n := 23) (S := fun w' => w'.cell? ⟨w.heap.size, 0, none⟩ = some (.slice (some ⟨g2, 0, none⟩) 8 c0) ∧ w'.cell? ⟨b9, 1, none⟩ = some (.slice (some ad2) v.blocks.length c3) ∧ w'.cell? (ad2.add k) = some (.int .i64 ((m : Int) + 1)) ∧ w'.cell? ⟨g2, m * 2 + 1, none⟩ = some (.int .i64 y.uses)) (ds := [22]) #[false, false, false, false, false, false, false, false, false, false, false, false, false, false, false, false, false, false, false, false, false, false, false] (by kernel_rfl) rfl rfl ⟨q0, x1, hcx, hcc'⟩ (fun hHeld => ?_)
              refine pure_ (i := 0) (N := some 51) (v := ?_) (a' := ?_) #[true, false, false, false, false, false, false, false, false, false, false, false, false, false, false, false, false, false, false, false, false, false, false] rfl rfl (by kernel_rfl) (fun _ _ _ h => h) (Or.inl ⟨by rfl, ?_⟩) ?_ ?_
              rotate_left
              · intro w'
                go_simp
                with_reducible rfl
              rotate_left
              · simp only [Act.put, List.setIfInBounds_toArray, List.set_cons_zero, List.set_cons_succ, i64_w, i32_w]
                rfl
              refine pure_ (i := 2) (N := some 53) (v := ?_) (a' := ?_) #[true, false, true, false, false, false, false, false, false, false, false, false, false, false, false, false, false, false, false, false, false, false, false] rfl rfl (by kernel_rfl) (fun _ _ _ h => h) (Or.inl ⟨by rfl, ?_⟩) ?_ ?_
              rotate_left
              · intro w'
                go_simp
                with_reducible rfl
              rotate_left
              · simp only [Act.put, List.setIfInBounds_toArray, List.set_cons_zero, List.set_cons_succ, i64_w, i32_w]
                rfl
              refine pure_ (i := 4) (N := some 55) (v := ?_) (a' := ?_) #[true, false, true, false, true, false, false, false, false, false, false, false, false, false, false, false, false, false, false, false, false, false, false] rfl rfl (by kernel_rfl) (fun _ _ _ h => h) (Or.inl ⟨by rfl, ?_⟩) ?_ ?_
              rotate_left
              · intro w'
                go_simp
                with_reducible rfl
              rotate_left
              · simp only [Act.put, List.setIfInBounds_toArray, List.set_cons_zero, List.set_cons_succ, i64_w, i32_w]
                rfl
              refine pure_ (i := 8) (N := some 59) (v := ?_) (a' := ?_) #[true, false, true, false, true, false, false, false, true, false, false, false, false, false, false, false, false, false, false, false, false, false, false] rfl rfl (by kernel_rfl) (fun _ _ _ h => h) (Or.inl ⟨by rfl, ?_⟩) ?_ ?_
              rotate_left
              · intro w'
                go_simp
                with_reducible rfl
              rotate_left
              · simp only [Act.put, List.setIfInBounds_toArray, List.set_cons_zero, List.set_cons_succ, i64_w, i32_w]
                rfl
              refine pure_ (i := 10) (N := some 61) (v := ?_) (a' := ?_) #[true, false, true, false, true, false, false, false, true, false, true, false, false, false, false, false, false, false, false, false, false, false, false] rfl rfl (by kernel_rfl) (fun _ _ _ h => h) (Or.inl ⟨by rfl, ?_⟩) ?_ ?_
              rotate_left
              · intro w'
                go_simp
                with_reducible rfl
              rotate_left
              · simp only [Act.put, List.setIfInBounds_toArray, List.set_cons_zero, List.set_cons_succ, i64_w, i32_w]
                rfl
              refine pure_ (i := 12) (N := some 63) (v := ?_) (a' := ?_) #[true, false, true, false, true, false, false, false, true, false, true, false, true, false, false, false, false, false, false, false, false, false, false] rfl rfl (by kernel_rfl) (fun _ _ _ h => h) (Or.inl ⟨by rfl, ?_⟩) ?_ ?_
              rotate_left
              · intro w'
                go_simp
                with_reducible rfl
              rotate_left
              · simp only [Act.put, List.setIfInBounds_toArray, List.set_cons_zero, List.set_cons_succ, i64_w, i32_w]
                rfl
              refine take_ (i := 1) (N := some 52) (v := ?_) (a' := ?_) #[true, true, true, false, true, false, false, false, true, false, true, false, true, false, false, false, false, false, false, false, false, false, false] rfl rfl (by kernel_rfl) (fun _ _ _ h => h) (Or.inl ⟨by rfl, ?_⟩) hHeld ?_ ?_
              rotate_left
              · rintro w' ⟨s0, s1, s2, s3⟩
                go_simp
                with_reducible rfl
              rotate_left
              · simp only [Act.put, List.setIfInBounds_toArray, List.set_cons_zero, List.set_cons_succ, i64_w, i32_w]
                rfl
              refine take_ (i := 3) (N := some 54) (v := ?_) (a' := ?_) #[true, true, true, true, true, false, false, false, true, false, true, false, true, false, false, false, false, false, false, false, false, false, false] rfl rfl (by kernel_rfl) (fun _ _ _ h => h) (Or.inl ⟨by rfl, ?_⟩) hHeld ?_ ?_
              rotate_left
              · rintro w' ⟨s0, s1, s2, s3⟩
                go_simp
                with_reducible rfl
              rotate_left
              · simp only [Act.put, List.setIfInBounds_toArray, List.set_cons_zero, List.set_cons_succ, i64_w, i32_w]
                rfl
              refine pure_ (i := 5) (N := some 56) (v := ?_) (a' := ?_) #[true, true, true, true, true, true, false, false, true, false, true, false, true, false, false, false, false, false, false, false, false, false, false] rfl rfl (by kernel_rfl) (fun _ _ _ h => h) (Or.inl ⟨by rfl, ?_⟩) ?_ ?_
              rotate_left
              · intro w'
                go_simp
                with_reducible rfl
              rotate_left
              · simp only [Act.put, List.setIfInBounds_toArray, List.set_cons_zero, List.set_cons_succ, i64_w, i32_w]
                rfl
              refine take_ (i := 6) (N := some 57) (v := ?_) (a' := ?_) #[true, true, true, true, true, true, true, false, true, false, true, false, true, false, false, false, false, false, false, false, false, false, false] rfl rfl (by kernel_rfl) (fun _ _ _ h => h) (Or.inl ⟨by rfl, ?_⟩) hHeld ?_ ?_
              rotate_left
              · rintro w' ⟨s0, s1, s2, s3⟩
                go_simp
                with_reducible rfl
              rotate_left
              · simp only [Act.put, List.setIfInBounds_toArray, List.set_cons_zero, List.set_cons_succ, i64_w, i32_w]
                rfl
              refine pure_ (i := 7) (N := some 58) (v := ?_) (a' := ?_) #[true, true, true, true, true, true, true, true, true, false, true, false, true, false, false, false, false, false, false, false, false, false, false] rfl rfl (by kernel_rfl) (fun _ _ _ h => h) (Or.inl ⟨by rfl, ?_⟩) ?_ ?_
              rotate_left
              · intro w'
                go_simp
                with_reducible rfl
              rotate_left
              · simp only [Act.put, List.setIfInBounds_toArray, List.set_cons_zero, List.set_cons_succ, i64_w, i32_w]
                rfl
              refine take_ (i := 9) (N := some 60) (v := ?_) (a' := ?_) #[true, true, true, true, true, true, true, true, true, true, true, false, true, false, false, false, false, false, false, false, false, false, false] rfl rfl (by kernel_rfl) (fun _ _ _ h => h) (Or.inl ⟨by rfl, ?_⟩) hHeld ?_ ?_
              rotate_left
              · rintro w' ⟨s0, s1, s2, s3⟩
                go_simp
                with_reducible rfl
              rotate_left
              · simp only [Act.put, List.setIfInBounds_toArray, List.set_cons_zero, List.set_cons_succ, i64_w, i32_w]
                rfl
              refine take_ (i := 11) (N := some 62) (v := ?_) (a' := ?_) #[true, true, true, true, true, true, true, true, true, true, true, true, true, false, false, false, false, false, false, false, false, false, false] rfl rfl (by kernel_rfl) (fun _ _ _ h => h) (Or.inl ⟨by rfl, ?_⟩) hHeld ?_ ?_
              rotate_left
              · rintro w' ⟨s0, s1, s2, s3⟩
                go_simp
                with_reducible rfl
              rotate_left
              · simp only [Act.put, List.setIfInBounds_toArray, List.set_cons_zero, List.set_cons_succ, i64_w, i32_w]
                rfl
              refine pure_ (i := 13) (N := some 64) (v := ?_) (a' := ?_) #[true, true, true, true, true, true, true, true, true, true, true, true, true, true, false, false, false, false, false, false, false, false, false] rfl rfl (by kernel_rfl) (fun _ _ _ h => h) (Or.inl ⟨by rfl, ?_⟩) ?_ ?_
              rotate_left
              · intro w'
                go_simp
                with_reducible rfl
              rotate_left
              · simp only [Act.put, List.setIfInBounds_toArray, List.set_cons_zero, List.set_cons_succ, i64_w, i32_w]
                rfl
              refine take_ (i := 14) (N := some 65) (v := ?_) (a' := ?_) #[true, true, true, true, true, true, true, true, true, true, true, true, true, true, true, false, false, false, false, false, false, false, false] rfl rfl (by kernel_rfl) (fun _ _ _ h => h) (Or.inl ⟨by rfl, ?_⟩) hHeld ?_ ?_
              rotate_left
              · rintro w' ⟨s0, s1, s2, s3⟩
                go_simp
                with_reducible rfl
              rotate_left
              · simp only [Act.put, List.setIfInBounds_toArray, List.set_cons_zero, List.set_cons_succ, i64_w, i32_w]
                rfl
              refine pure_ (i := 15) (N := some 66) (v := ?_) (a' := ?_) #[true, true, true, true, true, true, true, true, true, true, true, true, true, true, true, true, false, false, false, false, false, false, false] rfl rfl (by kernel_rfl) (fun _ _ _ h => h) (Or.inl ⟨by rfl, ?_⟩) ?_ ?_
              rotate_left
              · intro w'
                go_simp
                with_reducible rfl
              rotate_left
              · simp only [Act.put, List.setIfInBounds_toArray, List.set_cons_zero, List.set_cons_succ, i64_w, i32_w]
                rfl
              refine pure_ (i := 16) (N := some 67) (v := ?_) (a' := ?_) #[true, true, true, true, true, true, true, true, true, true, true, true, true, true, true, true, true, false, false, false, false, false, false] rfl rfl (by kernel_rfl) (fun _ _ _ h => h) (Or.inl ⟨by rfl, ?_⟩) ?_ ?_
              rotate_left
              · intro w'
                go_simp
                with_reducible rfl
              rotate_left
              · simp only [Act.put, List.setIfInBounds_toArray, List.set_cons_zero, List.set_cons_succ, i64_w, i32_w]
                rfl
              refine pure_ (i := 17) (N := some 68) (v := ?_) (a' := ?_) #[true, true, true, true, true, true, true, true, true, true, true, true, true, true, true, true, true, true, false, false, false, false, false] rfl rfl (by kernel_rfl) (fun _ _ _ h => h) (Or.inl ⟨by rfl, ?_⟩) ?_ ?_
              rotate_left
              · intro w'
                go_simp
                with_reducible rfl
              rotate_left
              · simp only [Act.put, List.setIfInBounds_toArray, List.set_cons_zero, List.set_cons_succ, i64_w, i32_w]
                rfl
              refine take_ (i := 18) (N := some 69) (v := ?_) (a' := ?_) #[true, true, true, true, true, true, true, true, true, true, true, true, true, true, true, true, true, true, true, false, false, false, false] rfl rfl (by kernel_rfl) (fun _ _ _ h => h) (Or.inl ⟨by rfl, ?_⟩) hHeld ?_ ?_
              rotate_left
              · rintro w' ⟨s0, s1, s2, s3⟩
                go_simp
                with_reducible rfl
              rotate_left
              · simp only [Act.put, List.setIfInBounds_toArray, List.set_cons_zero, List.set_cons_succ, i64_w, i32_w]
                rfl
              refine pure_ (i := 19) (N := some 70) (v := ?_) (a' := ?_) #[true, true, true, true, true, true, true, true, true, true, true, true, true, true, true, true, true, true, true, true, false, false, false] rfl rfl (by kernel_rfl) (fun _ _ _ h => h) (Or.inl ⟨by rfl, ?_⟩) ?_ ?_
              rotate_left
              · intro w'
                go_simp
                with_reducible rfl
              rotate_left
              · simp only [Act.put, List.setIfInBounds_toArray, List.set_cons_zero, List.set_cons_succ, i64_w, i32_w]
                rfl
              refine pure_ (i := 20) (N := some 71) (v := ?_) (a' := ?_) #[true, true, true, true, true, true, true, true, true, true, true, true, true, true, true, true, true, true, true, true, true, false, false] rfl rfl (by kernel_rfl) (fun _ _ _ h => h) (Or.inl ⟨by rfl, ?_⟩) ?_ ?_
              rotate_left
              · intro w'
                go_simp
                with_reducible rfl
              rotate_left
              · simp only [Act.put, List.setIfInBounds_toArray, List.set_cons_zero, List.set_cons_succ, i64_w, i32_w]
                rfl
              refine pure_ (i := 21) (N := some 72) (v := ?_) (a' := ?_) #[true, true, true, true, true, true, true, true, true, true, true, true, true, true, true, true, true, true, true, true, true, true, false] rfl rfl (by kernel_rfl) (fun _ _ _ h => h) (Or.inl ⟨by rfl, ?_⟩) ?_ ?_
              rotate_left
              · intro w'
                go_simp
                with_reducible rfl
              rotate_left
              · simp only [Act.put, List.setIfInBounds_toArray, List.set_cons_zero, List.set_cons_succ, i64_w, i32_w]
                rfl
              refine last_ (i := 22) (N := none) #[true, true, true, true, true, true, true, true, true, true, true, true, true, true, true, true, true, true, true, true, true, true, true] rfl rfl (by kernel_rfl) (by decide) (fun K hK => ?_)
              refine skip_ (w1 := ?_) (by rfl) rfl ?_ ?_
              rotate_left
              · go_simp
                rfl
              refine hK.out _ _ ?_
              clear hK K
              refine done_ (by kernel_rfl) ?_
              clear hHeld hwm hwm2
              have HINV := Lib.hid hinv.out
              clear hinv q0 q1 x0 x1 hcx hcc hcc' hf hf'
              go_wp2
              go_roundg (v.blocks.length - (k + 1))
              case measure => omega
              case rel =>
                obtain ⟨⟨hB, hR, hX⟩, hos, hov, hoi, hbel⟩ := HINV.out
                have hg := grown_tr H3.out.2 (grown_drew _ _)
                refine ⟨k + 1, by omega, int_eq (by omega), ⟨hB.grown hg (own_blk_ne hos hB (by decide)), hR.grown hg (own_blk_ne hos hR (by decide)), hX.grown hg (own_blk_ne hos hX (by decide))⟩, ?_, hov.otherS hos hg, own_other_type hoi hos (by decide) hg, hbel.slots hos hg hbase⟩
                rw [HT.out]
                have h5 := OwnS.bel H3.out.1 (Below.refl _ _).drew
                rw [HDL.out] at h5
                rw [HSL.out]
                exact h5
            · have HT := Lib.hid (show incAll p.slots (v.blocks.take (k + 1)) = incAll p.slots (v.blocks.take k) by rw [take_snoc hx, incAll_snoc, if_neg h0])
              clear hx
              go_wp2
              go_roundg (v.blocks.length - (k + 1))
              case rel =>
                refine ⟨k + 1, by omega, int_eq (by omega), ?_⟩
                rw [HT.out]
                exact hinv
              case measure => omega
          · have hkl : k = v.blocks.length := by omega
            obtain ⟨⟨hB, hR, hX⟩, hos, hov, hoi, hbel⟩ := hinv.out
            rw [hkl, List.take_length] at hos
            have hinc := HK.out.incs HV.out
            have hlen : (incAll p.slots v.blocks).length = p.slots.length := incAll_len _ _
            have hop : OwnP wr base (.slice A0 p.slots.length c0) (.slice (some ⟨g, 0, none⟩) p.vols.length c1) ⟨incAll p.slots v.blocks, p.vols⟩ bvs := ⟨hos, hov⟩
            have hsm : SmallP ⟨incAll p.slots v.blocks, p.vols⟩ := ⟨hinc.1.smallS, HS.out.vols⟩
            have hap : ∀ (m : Nat) (b' : Value) (k : Nat), bvs[m]? = some b' → b'.ownBlock = some k → Value.ownBlock (.slice A3 v.blocks.length c3) ≠ some k := fun m b' k hm hk h2 => by
              have e1 := HP.out.v.inner_lt hm hk
              have e2 := HGE.out k h2
              omega
            have hbs : base ≤ wr.heap.size := by have := hB.lt; omega
            have HADD := Lib.hid (l11Add_c (x := ⟨dst, v.blocks⟩) hop hoi hsm hbs hap HNM.out.1 HNM.out.2)
            have HBR := Lib.hid (And.intro hB hR)
            have HBE := Lib.hid hbel
            clear hB hR hX hos hov hoi hbel hinc hop hsm hap hkl hlen hinv
            go_wp2_with fail
            refine HADD.out.mono ?_
            rintro e w5 ⟨v5, rfl, ho5, hb5⟩
            obtain ⟨A7, A8, c7, c8, e7, rfl, hpi5⟩ := ho5.reads
            have HO5 := Lib.hid ho5
            have HB5 := Lib.hid hb5
            clear x0 x1 q0 q1 ho5 hpi5 e7 hb5
            have s0 := (HBR.out.2.bel HB5.out).cell 0
            have s1 := (HBR.out.2.bel HB5.out).cell 1
            have t0 := (HBR.out.2.bel HB5.out).free 0
            have t1 := (HBR.out.2.bel HB5.out).free 1
            simp at s0 s1
            go_wp2
            have hR2 := HBR.out.2.bel HB5.out
            have hR3 := hR2.set 0 (.slice A0 p.slots.length c0) (cs' := #[.slice A0 p.slots.length c0, .slice none 0 0]) rfl
            have hR4 := hR3.set 1 (.slice A8 (insAt (posOf dst p.vols) (⟨dst, v.blocks⟩ : Vol) p.vols).length c8) (cs' := #[.slice A0 p.slots.length c0, (.slice A8 (insAt (posOf dst p.vols) (⟨dst, v.blocks⟩ : Vol) p.vols).length c8)]) rfl
            have hop4 := (HO5.out.far hR2 (by decide) (by decide) (by decide) 0 (.slice A0 p.slots.length c0)).far hR3 (by decide) (by decide) (by decide) 1 (.slice A8 (insAt (posOf dst p.vols) (⟨dst, v.blocks⟩ : Vol) p.vols).length c8)
            have hb6 : Fr base w w5 := HBE.out.bel HB5.out hbase
            have hb7 := (hb6.set (Nat.le_succ _) hbase 0 (.slice A0 p.slots.length c0)).set (Nat.le_succ _) hbase 1 (.slice A8 (insAt (posOf dst p.vols) (⟨dst, v.blocks⟩ : Vol) p.vols).length c8)
            refine bodyPost_ret (results_ct rfl _ _ (w.heap.size + 1) 30 #[.slice A0 p.slots.length c0, (.slice A8 (insAt (posOf dst p.vols) (⟨dst, v.blocks⟩ : Vol) p.vols).length c8)] (0, 0) _ rfl hR4 Try.underlying30 rfl (by kernel_rfl)) rfl ?_
            rw [HG.out]
            exact ⟨_, _, _, rfl, hop4, hb7⟩
end Go.Proofs.Ytpobgjkmjlmafaa

/- markVolS, markPool: a pool of one's own filled with marks. -/
import Derived.Test.YtpobgjkmjlmafaaMd
import Derived.Test.YtpobgjkmjlmafaaWm
namespace Go.Proofs.Ytpobgjkmjlmafaa
open Go.RowKit Go.Proofs.YtpobgjkmjlmafaaW.PrintWords
set_option linter.unusedVariables false
set_option linter.unusedSimpArgs false

/-- Of what was there only the blocks of S may have changed. -/
structure Only (w w' : World) (S : Nat → Prop) : Prop where
  os : w'.os = w.os
  tape : w'.tape = w.tape
  output : w'.output = w.output
  size : w.heap.size ≤ w'.heap.size
  block : ∀ k, k < w.heap.size → ¬ S k → w'.heap[k]? = w.heap[k]?
theorem Only.refl (w : World) (S : Nat → Prop) : Only w w S := ⟨rfl, rfl, rfl, Nat.le_refl _, fun _ _ _ => rfl⟩
theorem Only.trans {a b c : World} {S : Nat → Prop} (h : Only a b S) (k : Only b c S) : Only a c S :=
  ⟨k.os.trans h.os, k.tape.trans h.tape, k.output.trans h.output, Nat.le_trans h.size k.size, fun i hi hS => (k.block i (Nat.lt_of_lt_of_le hi h.size) hS).trans (h.block i hi hS)⟩
theorem Only.of_grown {w w' : World} {r : Option Nat} {S : Nat → Prop} (h : w.grownBy w' r) (hr : ∀ k, r = some k → S k) : Only w w' S :=
  ⟨h.os, h.tape, h.output, h.size, fun k hk hS => h.block k hk fun e => hS (hr k e.symm)⟩
theorem Only.of_bel {w w' : World} {S : Nat → Prop} (h : Bel w w') : Only w w' S := ⟨h.os, h.tape, h.output, h.size, fun k hk _ => h.block k hk⟩
theorem Only.mono {w w' : World} {S T : Nat → Prop} (h : Only w w' S) (hS : ∀ k, S k → T k) : Only w w' T := ⟨h.os, h.tape, h.output, h.size, fun k hk hT => h.block k hk fun e => hT (hS k e)⟩
theorem Only.below {w w' : World} {S : Nat → Prop} {b : Nat} (h : Only w w' S) (hb : b ≤ w.heap.size) (hS : ∀ k, S k → b ≤ k) : Below b w w' :=
  ⟨h.os, h.tape, h.output, h.size, fun k hk => h.block k (by omega) fun e => by have := hS k e; omega⟩
/-- The blocks of a row of volumes. -/
def InV (v : Value) (bvs : List Value) (k : Nat) : Prop := v.ownBlock = some k ∨ ∃ b ∈ bvs, b.ownBlock = some k
theorem flat_same {α β} {enc : α → List β} {xs : List α} {m : Nat} {x y : α} (hx : xs[m]? = some x) (he : enc y = enc x) : (xs.set m y).flatMap enc = xs.flatMap enc := by
  induction xs generalizing m with
  | nil => simp at hx
  | cons a xs ih =>
    cases m with
    | zero => simp at hx; subst hx; simp [he]
    | succ m => simp at hx; simp [ih hx]
/-- One volume's name and blocks turned. -/
theorem OwnV.setI {w w' : World} {base : Nat} {v : Value} {vs : List Vol} {bvs : List Value} (h : OwnV w base v vs bvs) {m : Nat} {x : Vol} {b : Value} (hx : vs[m]? = some x) (hb : bvs[m]? = some b) {s : List Int} (ho : OwnI w' base b s) (hg : w.grownBy w' b.ownBlock) :
    OwnV w' base v (vs.set m ⟨x.name, s⟩) bvs := by
  refine ⟨⟨by rw [List.length_set]; exact h.row.len, ?_⟩, ?_, h.apart⟩
  · have hz : (((vs.set m ⟨x.name, s⟩).zip bvs).flatMap encV) = ((vs.zip bvs).flatMap encV) := by
      rw [← zip_setL hb]
      exact flat_same (zip_get hx hb) rfl
    rw [hz, List.length_set]
    exact own_other_type h.row.row (h.inner m x b hx hb) (by decide) hg
  · intro i y c hy hc
    by_cases e : i = m
    · subst e
      rw [List.getElem?_set_self (ltQ hx)] at hy
      obtain rfl := Option.some.inj hy
      obtain rfl := Option.some.inj (hc.symm.trans hb)
      exact ho
    · rw [List.getElem?_set_ne (fun h => e h.symm)] at hy
      refine (h.inner i y c hy hc).kept hg ?_
      cases hk : c.ownBlock with
      | none => exact .inl rfl
      | some q => exact .inr fun h2 => h.apart i m c b q e hc hb hk h2.symm
theorem OwnV.setName {w : World} {base g cap : Nat} {vs : List Vol} {bvs : List Value} (h : OwnV w base (.slice (some ⟨g, 0, none⟩) vs.length cap) vs bvs) {m : Nat} {x : Vol} (hx : vs[m]? = some x) (t : ByteArray) :
    OwnV (w.setCell ⟨g, m * 2, none⟩ (.string t)) base (.slice (some ⟨g, 0, none⟩) vs.length cap) (vs.set m ⟨t, x.blocks⟩) bvs ∧ w.grownBy (w.setCell ⟨g, m * 2, none⟩ (.string t)) (some g) := by
  obtain ⟨h1, h2⟩ := h.row.setN hx t
  refine ⟨⟨h1, fun i y c hy hc => ?_, h.apart⟩, h2⟩
  have hk : ∀ y c, vs[i]? = some y → bvs[i]? = some c → OwnI (w.setCell ⟨g, m * 2, none⟩ (.string t)) base c y.blocks := fun y c hy hc => own_other_type (h.inner i y c hy hc) h.row.row (by decide) h2
  by_cases e : i = m
  · subst e
    rw [List.getElem?_set_self (ltQ hx)] at hy
    obtain rfl := Option.some.inj hy
    exact hk x c hx hc
  · rw [List.getElem?_set_ne (fun h => e h.symm)] at hy
    exact hk y c hy hc
/-- What a marker of volumes leaves. -/
def MarkedV (k : Int) (w : World) (base : Nat) (v : Value) (vs : List Vol) (bvs : List Value) (e : Ending) (w' : World) : Prop :=
  e = .returned (.int .i64 (nxV k vs)) ∧ (∃ vs', vs'.map (fun x => x.blocks.length) = vs.map (fun x => x.blocks.length) ∧ OwnV w' base v vs' bvs ∧ MkV k vs') ∧ Only w w' (InV v bvs)
theorem nxV_len {vs vs' : List Vol} (h : vs'.map (fun x => x.blocks.length) = vs.map (fun x => x.blocks.length)) (k : Int) : nxV k vs' = nxV k vs := by
  induction vs generalizing vs' k with
  | nil => simp at h; subst h; rfl
  | cons a vs ih =>
    cases vs' with
    | nil => simp at h
    | cons b vs' =>
      simp at h
      simp only [nxV, h.1]
      exact ih h.2 _
set_option maxHeartbeats 2000000 in
theorem markVolS_c {w : World} {base : Nat} {v : Value} {vs : List Vol} {bvs : List Value} {k : Int} (h : OwnV w base v vs bvs) (hs : SmallV vs) (h0 : 0 < k) (h1 : k ≤ 281474976710656) :
    Calls Try.prog 75 #[v, .int .i64 k] w (MarkedV k w base v vs bvs) := by
  obtain ⟨A, c, rfl, hc, hC⟩ := h.reads
  have H := Lib.hid h
  have HS := Lib.hid hs
  have hl := hs.len
  clear h hC hs
  go_enter Try.func75, Try.ntmps75
  go_wp2
  go_loopg [1, 5] vs.length (fun g v1 v5 W => ∃ (j : Nat) (vs' : List Vol), g + j = vs.length ∧ v5 = .int .i64 j ∧ v1 = .int .i64 (nxV k (vs.take j)) ∧ Hid (vs'.map (fun x => x.blocks.length) = vs.map (fun x => x.blocks.length)) ∧ Hid (∀ (i : Nat) (x : Vol), i < j → vs'[i]? = some x → x.name = mkT (nxV k (vs.take i)) ∧ MkI (nxV k (vs.take i) + 1) x.blocks) ∧ Hid (OwnV W base (.slice A vs.length c) vs' bvs) ∧ Hid (Only w W (InV (.slice A vs.length c) bvs)))
  case atStart => exact ⟨0, vs, rfl, rfl, rfl, rfl, fun i x hi => by omega, H.out, Only.refl _ _⟩
  case round =>
    obtain ⟨j, vs', hj, rfl, rfl, hl', hm, ho, hg⟩ := hrel
    have hlen : vs'.length = vs.length := by simpa using congrArg List.length hl'.out
    have hb := nxV_le (vs := vs.take j) (fun v hv => HS.out.blocks v (List.mem_of_mem_take hv)) k
    have hjl : (vs.take j).length ≤ 1048576 := Nat.le_trans (List.length_take_le' _ _) hl
    have hb2 : nxV k (vs.take j) ≤ 1152921504606846000 := by omega
    have hb1 : 0 < nxV k (vs.take j) := by omega
    have HL := Lib.hid hlen
    clear hb hlen
    by_cases hlt : j < vs.length
    · obtain ⟨x, hx⟩ := getQ (show j < vs'.length by rw [HL.out]; exact hlt)
      obtain ⟨y, hy⟩ := getQ hlt
      have hxy : x.blocks.length = y.blocks.length := by
        have := congrArg (fun l => l[j]?) hl'.out
        simpa [hx, hy] using this
      have hyb : y.blocks.length ≤ 1048576 := HS.out.blocks y (List.mem_of_getElem? hy)
      have HT := Lib.hid (show nxV k (vs.take (j + 1)) = nxV k (vs.take j) + 1 + x.blocks.length by rw [take_snoc hy, nxV_snoc, hxy])
      have hxb : x.blocks.length ≤ 1048576 := by omega
      have HX := Lib.hid hx
      clear hx hy
      generalize hq : nxV k (vs.take j) = q at *
      have HQ := Lib.hid hq
      clear hq
      have HMT := Lib.hid (fun W : World => markText_c q W (by omega) (by omega))
      go_wp2_with fail
      refine (HMT.out _).mono ?_
      rintro e w4 ⟨rfl, hb4⟩
      have ho4 := ho.out.bel hb4
      obtain ⟨g, cap, bv, hbv, ev, hbg, hgw, hcap, hcc, hcc', hf, hf'⟩ := ho4.row.at HX.out
      obtain ⟨rfl, -, rfl⟩ := by simpa using ev
      have hst := OwnV.setName (HL.out ▸ ho4) HX.out (mkT q)
      rw [HL.out] at hst
      have H4 := Lib.hid (And.intro hst (Only.trans hg.out (Only.of_bel (S := InV (.slice (some ⟨g, 0, none⟩) vs.length c) bvs) hb4)))
      have HBV := Lib.hid hbv
      clear hst ev ho4 hb4 hbv
      go_wp2_with fail
      have hx5 : (vs'.set j ⟨mkT q, x.blocks⟩)[j]? = some ⟨mkT q, x.blocks⟩ := List.getElem?_set_self (ltQ HX.out)
      refine (markIntS_c (H4.out.1.1.inner j ⟨mkT q, x.blocks⟩ bv hx5 HBV.out) hxb (by omega) (by omega)).mono ?_
      rintro e w5 ⟨rfl, ⟨bs, hbl, hbo, hbm⟩, hg5⟩
      have H5 := Lib.hid (And.intro (H4.out.1.1.setI hx5 HBV.out hbo hg5) (H4.out.2.trans ((Only.of_grown H4.out.1.2 (fun k hk => .inl hk)).trans (Only.of_grown hg5 (fun k hk => .inr ⟨bv, List.mem_of_getElem? HBV.out, hk⟩)))))
      have HBM := Lib.hid (And.intro hbl hbm)
      have HX5 := Lib.hid hx5
      clear hx5 hbl hbo hbm hg5
      go_wp2
      go_roundg (vs.length - (j + 1))
      case measure => omega
      case rel =>
        refine ⟨j + 1, (vs'.set j ⟨mkT q, x.blocks⟩).set j ⟨mkT q, bs⟩, by omega, by go_num, by rw [HT.out, hxy], ?_, fun i y hi hy => ?_, H5.out.1, H5.out.2⟩
        · rw [Hid, List.set_set, List.map_set, HBM.out.1, ← hl'.out]
          apply List.ext_getElem?
          intro m
          by_cases e : m = j
          · subst e; rw [List.getElem?_set_self (by simpa using ltQ HX.out), List.getElem?_map, HX.out]; rfl
          · rw [List.getElem?_set_ne (fun h => e h.symm)]
        · rw [List.set_set] at hy
          by_cases e : i = j
          · subst e; rw [List.getElem?_set_self (ltQ HX.out)] at hy; obtain rfl := Option.some.inj hy; rw [HQ.out]; exact ⟨rfl, HBM.out.2⟩
          · rw [List.getElem?_set_ne (fun h => e h.symm)] at hy; exact hm.out i y (by omega) hy
    · have hje : j = vs.length := by omega
      have HT := Lib.hid (show vs.take j = vs by rw [List.take_of_length_le (by omega)])
      have HR := Lib.hid (show nxV k (vs.take j) = nxV k vs by rw [HT.out])
      have HM := Lib.hid (show MkV k vs' from fun i x hx => by
        have hi : i < j := by have := ltQ hx; rw [HL.out] at this; omega
        have h5 := hm.out i x hi hx
        have h6 : nxV k (vs'.take i) = nxV k (vs.take i) := nxV_len (by rw [List.map_take, List.map_take, hl'.out]) k
        rw [h6]; exact h5)
      go_wp2
      go_ret
      exact ⟨ret_int HR.out, ⟨vs', hl'.out, ho.out, HM.out⟩, hg.out⟩
end Go.Proofs.Ytpobgjkmjlmafaa

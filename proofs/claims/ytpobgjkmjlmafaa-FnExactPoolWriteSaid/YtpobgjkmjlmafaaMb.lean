/- markText: the letter m and a number's figures. -/
import Derived.Test.YtpobgjkmjlmafaaWg
namespace Go.Proofs.Ytpobgjkmjlmafaa
open Go.RowKit Go.Proofs.YtpobgjkmjlmafaaW.PrintWords
set_option linter.unusedVariables false
set_option linter.unusedSimpArgs false

def digN (n : Nat) : List UInt8 := if h : n = 0 then [] else digN (n / 10) ++ [UInt8.ofNat (48 + n % 10)]
termination_by n
decreasing_by omega
def mkT (k : Int) : ByteArray := ⟨(109 :: digN k.toNat).toArray⟩
set_option maxHeartbeats 2000000 in
set_option maxRecDepth 100000 in
theorem markText_c (k : Int) (w : World) (h0 : 0 < k) (h1 : k ≤ 4611686018427387904) : Calls Try.prog 128 #[.int .i64 k] w (Ret (.string (mkT k)) w) := by
  obtain ⟨n, rfl⟩ : ∃ n : Nat, k = n := ⟨k.toNat, by omega⟩
  have h0' : ¬ ((n : Int) ≤ 0) := by omega
  have hn1 : n ≤ 4611686018427387904 := by omega
  go_enter Try.func128, Try.ntmps128
  go_wp2
  go_loopg [0, 3] n (fun g v0 v3 W => ∃ (j : Nat) (out : ByteArray), j = g ∧ out.size + j ≤ n ∧ v0 = .int .i64 j ∧ v3 = .string out ∧ Hid (digN n = digN j ++ out.data.toList) ∧ Bel w W)
  case atStart => exact ⟨n, ⟨#[]⟩, rfl, by simp [ByteArray.size], rfl, rfl, by simp [Hid], Below.refl _ _⟩
  case round =>
    obtain ⟨j, out, hj, hg, rfl, rfl, hd, hW⟩ := hrel
    subst hj
    have hs1 : (strOfNums [48 + (j : Int) % 10]).size = 1 := rfl
    by_cases hlt : 0 < j
    · have hcv : (convert 37 9 (.slice (some ⟨wr.heap.size, 0, none⟩) 1 1)).run Try.prog (wr.alloc (.cells #[.int .u8 (48 + (j : Int) % 10)] 5)) = .ok (.string (strOfNums [48 + (j : Int) % 10])) (wr.alloc (.cells #[.int .u8 (48 + (j : Int) % 10)] 5)) :=
        run_convert_bytes_arg _ 37 5 Try.underlying37 Try.underlying5 wr.heap.size 0 1 1 [48 + (j : Int) % 10] rfl (fun i hi => by
          obtain rfl : i = 0 := by omega
          simp) 9 Try.underlying9
      have hdj : digN j = digN (j / 10) ++ [UInt8.ofNat (48 + j % 10)] := by conv => lhs; unfold digN; rw [dif_neg (by omega)]
      have HD := Lib.hid (show digN n = digN (j / 10) ++ (strOfNums [48 + (j : Int) % 10] ++ out).data.toList by
        rw [hd.out, hdj, List.append_assoc]
        congr 1)
      clear hdj
      go_wp2
      go_roundg (j / 10)
      case measure => omega
      case rel => exact ⟨j / 10, _, rfl, by rw [ByteArray.size_append, hs1]; omega, by go_num, rfl, HD, hW.tr (bel_alloc (Below.refl _ _) _)⟩
    · have hj0 : j = 0 := by omega
      have HD := Lib.hid (show mkT n = ⟨#[109]⟩ ++ out by
        have h5 := hd.out
        rw [hj0, show digN 0 = [] by unfold digN; rfl, List.nil_append] at h5
        unfold mkT
        rw [Int.toNat_natCast, h5]
        apply ByteArray.ext
        apply Array.ext'
        simp)
      go_wp2
      go_ret
      rw [HD.out]
      exact ⟨rfl, hW⟩
end Go.Proofs.Ytpobgjkmjlmafaa

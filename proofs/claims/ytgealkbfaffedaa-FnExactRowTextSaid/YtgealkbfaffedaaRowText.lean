/- RowText of the reference. -/
import Derived.Test.YtgealkbfaffedaaWalkRows
namespace Go.Proofs.Ytgealkbfaffedaa
open Go.RowKit
set_option linter.unusedVariables false
set_option maxRecDepth 100000

theorem valText_size (v : Val) : (valText v).size ≤ 15 := by
  unfold valText
  by_cases h : valOk v = true
  · rw [if_pos h]
    cases he : v.s.toList.isEmpty
    · rw [if_neg (by simp)]
      rw [valOk_word he] at h
      simp [wordB, shortB] at h
      omega
    · rw [if_pos rfl]; exact numText_size _
  · rw [if_neg h]; exact Nat.zero_le _

/-- The reference's text of the first k values: '(' and the values, a comma between two. -/
def rtAcc (xs : List Val) : Nat → ByteArray
  | 0 => ⟨#[40]⟩
  | k + 1 => (if 0 < k then rtAcc xs k ++ ⟨#[44]⟩ else rtAcc xs k) ++ (match xs[k]? with | some v => valText v | none => ByteArray.empty)
theorem rtAcc_zero {xs : List Val} {k : Nat} (hk : k < xs.length) (h0 : k = 0) : rtAcc xs (k + 1) = rtAcc xs k ++ valText xs[k] := by
  subst h0
  simp [rtAcc, List.getElem?_eq_getElem hk]
theorem rtAcc_pos {xs : List Val} {k : Nat} (hk : k < xs.length) (h0 : 0 < k) : rtAcc xs (k + 1) = rtAcc xs k ++ ⟨#[44]⟩ ++ valText xs[k] := by
  simp [rtAcc, List.getElem?_eq_getElem hk, h0]
theorem rtAcc_size (xs : List Val) : ∀ k, k ≤ xs.length → (rtAcc xs k).size ≤ 1 + 16 * k
  | 0, _ => Nat.le_refl _
  | k + 1, h => by
    have ih := rtAcc_size xs k (by omega)
    have hv := valText_size xs[k]
    by_cases h0 : 0 < k
    · rw [rtAcc_pos (by omega) h0, ByteArray.size_append, ByteArray.size_append]
      have : (⟨#[44]⟩ : ByteArray).size = 1 := rfl
      omega
    · rw [rtAcc_zero (by omega) (by omega), ByteArray.size_append]; omega
def rowText (xs : List Val) : ByteArray := if rowOk xs then rtAcc xs xs.length ++ ⟨#[41]⟩ else ByteArray.empty

set_option maxHeartbeats 1600000 in
theorem rowTextS_any (a : Option Addr) (n cap : Nat) (xs : List Val) (bs : List Nat) (w : World) (h : SliceRep valE w a n cap xs bs) :
    Calls Try.prog 38 #[.agg #[.slice a n cap]] w fun e w' => e = .returned (.string (rowText xs)) ∧ Below w.heap.size w w' := by
  have hmax := h.max
  obtain rfl := h.1
  have H := (Held.start w).box_ #[.slice a xs.length cap] 42
  have H2 := H.s1
  have K : Kept w [(⟨w.heap.size, 0, none⟩, .slice a xs.length cap)] _ := ((Kept.at_ H.below).cons (H2.2 0))
  have kk := K.c1.2
  clear H H2
  go_enter Try.func38, Try.ntmps38
  go_wp2_with fail
  refine (rowOkS_any _ _ _ xs _ _ (h.up K.1)).mono ?_
  rintro e w1 ⟨rfl, hb⟩
  replace K := K.up hb
  clear kk hb
  have kk := K.c1.2
  cases ho : rowOk xs
  · have HR := Lib.hid (show rowText xs = ByteArray.empty by simp [rowText, ho])
    go_wp2_with fail
    go_ret
    exact ⟨by rw [HR.out]; rfl, K.1⟩
  · have HR := Lib.hid (show rowText xs = rtAcc xs xs.length ++ ⟨#[41]⟩ by simp [rowText, ho])
    have hl : xs.length ≤ 6 := by simp [rowOk] at ho; exact ho.1
    go_wp2_with fail
    clear kk
    go_loopw [3, 12] (fun o i W => ∃ k : Nat, k ≤ xs.length ∧ i = .int .i64 k ∧ o = .string (rtAcc xs k) ∧ Kept w [(⟨w.heap.size, 0, none⟩, .slice a xs.length cap)] W) (fun _ i _ => xs.length - (intOf i).toNat)
    case atStart => exact ⟨0, Nat.zero_le _, rfl, rfl, K⟩
    case round =>
      clear K
      obtain ⟨k, hk, rfl, rfl, K⟩ := hrel
      have hsz := rtAcc_size xs k hk
      by_cases hlt : k < xs.length
      · obtain ⟨g, off, rfl, c0, c1, hs, hn⟩ := (h.up K.1).val hlt
        have hv := valText_size xs[k]
        have i0 : (0 : Int) ≤ (k : Int) := by omega
        have i1 : (k : Int) < (xs.length : Int) := by omega
        have K1 := K.alloc (.cells #[.int .i64 xs[k].n, .string xs[k].s] 27)
        by_cases h0 : k = 0
        · have hE := Lib.hid (rtAcc_zero hlt h0)
          generalize hacc : rtAcc xs k = acc at *
          have i2 : ¬ (0 : Int) < (k : Int) := by omega
          have s2 : ¬ 9223372036854775807 < acc.size + (valText xs[k]).size := by omega
          clear hacc h0
          go_wp2_with fail
          refine (valueTextS_any _ _ hs).mono ?_
          rintro e w2 ⟨rfl, hb⟩
          replace K1 := K1.up hb
          go_wp2_with fail
          go_roundw
          case rel => exact ⟨k + 1, by omega, by go_num, by rw [hE.out], K1⟩
          case measure => simp [intOf]; omega
        · have hE := Lib.hid (rtAcc_pos hlt (by omega))
          generalize hacc : rtAcc xs k = acc at *
          have i2 : (0 : Int) < (k : Int) := by omega
          have z1 : (⟨#[44]⟩ : ByteArray).size = 1 := rfl
          have s1 : ¬ 9223372036854775807 < acc.size + (⟨#[44]⟩ : ByteArray).size := by omega
          have s2 : ¬ 9223372036854775807 < (acc ++ ⟨#[44]⟩).size + (valText xs[k]).size := by rw [ByteArray.size_append]; omega
          clear hacc h0
          go_wp2_with fail
          refine (valueTextS_any _ _ hs).mono ?_
          rintro e w2 ⟨rfl, hb⟩
          replace K1 := K1.up hb
          go_wp2_with fail
          go_roundw
          case rel => exact ⟨k + 1, by omega, by go_num, by rw [hE.out], K1⟩
          case measure => simp [intOf]; omega
      · obtain rfl : k = xs.length := by omega
        generalize hacc : rtAcc xs xs.length = acc at *
        have s1 : ¬ 9223372036854775807 < acc.size + (⟨#[41]⟩ : ByteArray).size := by have : (⟨#[41]⟩ : ByteArray).size = 1 := rfl; omega
        clear hacc
        go_wp2_with fail
        go_ret
        exact ⟨by rw [HR.out]; rfl, K.1⟩
end Go.Proofs.Ytgealkbfaffedaa

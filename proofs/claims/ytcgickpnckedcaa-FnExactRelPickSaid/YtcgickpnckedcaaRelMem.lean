/- Plain laws on relations that are copied, marked, counted. -/
import Derived.Test.YtcgickpnckedcaaMarkA
import Derived.Test.YtcgickpnckedcaaRelEq
import Derived.Test.YtcgickpnckedcaaTot
namespace Go.Proofs.Ytcgickpnckedcaa
open Go.RowKit
set_option linter.unusedVariables false

theorem totL_len {α : Type} {c : α → Nat} {xs : List α} {M : Nat} (h : totL c xs ≤ M) : xs.length ≤ M := by unfold totL at h; omega
theorem totL_mem {α : Type} {c : α → Nat} {xs : List α} {M : Nat} (h : totL c xs ≤ M) {x : α} (hx : x ∈ xs) : c x ≤ M := by
  have := cntL_mem (c := c) hx
  unfold totL at h; omega
theorem totRow_small {r : List Val} (h : totRow r ≤ 1048576) : smallRow r := ⟨totL_len h, fun v hv => totL_mem (c := totValue) h hv⟩
theorem totRel_small {r : Relt} (h : totRel r ≤ 1048576) : smallRel r := ⟨totL_len h, fun x hx => totRow_small (totL_mem (c := totRow) h hx)⟩
theorem cntRow_le {r : List Val} (h : smallRow r) : cntRow r ≤ 2097152 := by
  have := cntL_le (c := cntValue) (M := 2) (xs := r) fun x _ => by simp [cntValue]
  have := h.1
  simp only [cntRow]; omega
theorem cntRel_le {r : Relt} (h : smallRel r) : cntDRel r ≤ 1152921504606846976 := by
  have := cntL_le (c := cntRow) (M := 2097152) (xs := r.rows) fun x hx => cntRow_le (h.2 x hx)
  have := h.1
  simp only [cntDRel]; omega
theorem small_filter {a : Relt} (p : List Val → Bool) (n : Int) (h : smallRel a) : smallRel ⟨n, a.rows.filter p⟩ :=
  ⟨Nat.le_trans (List.length_filter_le _ _) h.1, fun x hx => h.2 x (List.mem_filter.1 hx).1⟩
theorem small_none {n : Int} : smallRel ⟨n, []⟩ := ⟨by simp, fun x hx => by cases hx⟩
theorem relBoth_small {a b : Relt} (ha : smallRel a) (hb : smallRel b) : smallRel (relBoth a b).1 := by
  unfold relBoth; split
  · exact small_filter _ _ ha
  · exact small_none
theorem relMinus_small {a b : Relt} (ha : smallRel a) (hb : smallRel b) : smallRel (relMinus a b).1 := by
  unfold relMinus; split
  · exact small_filter _ _ ha
  · exact small_none
end Go.Proofs.Ytcgickpnckedcaa

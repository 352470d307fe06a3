/- RelPick, RelDrop in plain words. -/
import Derived.Test.YtcgickpnckedcaaRelMem
namespace Go.Proofs.Ytcgickpnckedcaa
open Go.RowKit
set_option linter.unusedVariables false

theorem relOk_parts {r : Relt} (h : relOk r = true) : GoodTo r.rows r.arity r.rows.length ∧ 0 ≤ r.arity ∧ r.arity ≤ 6 ∧ r.rows.length ≤ 300 := by
  simp only [relOk, Bool.and_eq_true, decide_eq_true_eq] at h
  exact ⟨relRows_good h.1, h.2.1.1, h.2.1.2, h.2.2⟩
theorem GoodTo.len {rows : List (List Val)} {ar : Int} {k j : Nat} (h : GoodTo rows ar k) (hj : j < rows.length) (hjk : j < k) : (rows[j].length : Int) = ar := by
  have := h j hj hjk
  cases j with
  | zero => simp only [rowAt, Bool.and_eq_true, beq_iff_eq] at this; exact this.2
  | succ j => simp only [rowAt, Bool.and_eq_true, beq_iff_eq] at this; exact this.1.2
theorem relOk_ar {r : Relt} (h : relOk r = true) {k : Nat} (hk : k < r.rows.length) : (r.rows[k].length : Int) = r.arity := (relOk_parts h).1.len hk hk
theorem relOk_row {r : Relt} (h : relOk r = true) {k : Nat} (hk : k < r.rows.length) : rowOk r.rows[k] = true := (relOk_parts h).1.row hk hk
/-- The value in a column is v. -/
def pickB (col : Int) (v : Val) (row : List Val) : Bool := match row[col.toNat]? with | some u => sameVal u v | none => false
theorem pickB_at {col : Int} {v : Val} {row : List Val} {k : Nat} (hk : k < row.length) (hc : col.toNat = k) : pickB col v row = sameVal row[k] v := by
  unfold pickB; rw [hc, List.getElem?_eq_getElem hk]
def pickOk (r : Relt) (col : Int) (v : Val) : Bool := relOk r && (decide (0 ≤ col ∧ col < r.arity) && valOk v)
def relPick (r : Relt) (col : Int) (v : Val) : Relt × Bool := if pickOk r col v = true then (⟨r.arity, r.rows.filter (pickB col v)⟩, true) else (⟨0, []⟩, false)
theorem relPick_ok {r : Relt} {col : Int} {v : Val} (h : relOk r = true) (h0 : 0 ≤ col) (h1 : col < r.arity) (hv : valOk v = true) : relPick r col v = (⟨r.arity, r.rows.filter (pickB col v)⟩, true) := if_pos (by simp [pickOk, h, h0, h1, hv])
theorem relPick_no {r : Relt} {col : Int} {v : Val} (h : relOk r = false ∨ ¬ (0 ≤ col ∧ col < r.arity) ∨ valOk v = false) : relPick r col v = (⟨0, []⟩, false) := if_neg (by
  rcases h with h | h | h
  · simp [pickOk, h]
  · simp [pickOk, h]
  · simp [pickOk, h])
theorem relPick_small {r : Relt} {col : Int} {v : Val} (h : smallRel r) : smallRel (relPick r col v).1 := by
  unfold relPick; split
  · exact small_filter _ _ h
  · exact small_none
end Go.Proofs.Ytcgickpnckedcaa

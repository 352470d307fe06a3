/- Right relations, in plain words. -/
import Derived.Test.YtcgickpnckedcaaGenB
import Derived.Test.YtcgickpnckedcaaOrder2
namespace Go.Proofs.Ytcgickpnckedcaa
open Go.RowKit
set_option linter.unusedVariables false

def rowAt (rows : List (List Val)) (ar : Int) : (k : Nat) → k < rows.length → Bool
  | 0, hk => rowOk rows[0] && ((rows[0].length : Int) == ar)
  | j + 1, hk => rowOk rows[j + 1] && ((rows[j + 1].length : Int) == ar) && decide (cmpRow rows[j] rows[j + 1] < 0)
def GoodTo (rows : List (List Val)) (ar : Int) (k : Nat) : Prop := ∀ j (h : j < rows.length), j < k → rowAt rows ar j h = true
theorem GoodTo.zero {rows : List (List Val)} {ar : Int} : GoodTo rows ar 0 := fun _ _ h => absurd h (by omega)
theorem GoodTo.succ {rows : List (List Val)} {ar : Int} {k : Nat} (h : GoodTo rows ar k) (hk : k < rows.length) (hp : rowAt rows ar k hk = true) : GoodTo rows ar (k + 1) := fun j hj hjk => by
  rcases Nat.lt_or_ge j k with h1 | h1
  · exact h j hj h1
  · obtain rfl : j = k := by omega
    exact hp
def relRows (rows : List (List Val)) (ar : Int) : Bool := (List.range rows.length).all fun k => if h : k < rows.length then rowAt rows ar k h else true
theorem GoodTo.all {rows : List (List Val)} {ar : Int} (h : GoodTo rows ar rows.length) : relRows rows ar = true := by
  unfold relRows
  rw [List.all_eq_true]
  intro k hk
  have hk' : k < rows.length := by simpa using hk
  rw [dif_pos hk']
  exact h k hk' hk'
theorem relRows_good {rows : List (List Val)} {ar : Int} (h : relRows rows ar = true) : GoodTo rows ar rows.length := by
  intro j hj _
  unfold relRows at h
  rw [List.all_eq_true] at h
  have := h j (by simpa using hj)
  rwa [dif_pos hj] at this
theorem relRows_bad {rows : List (List Val)} {ar : Int} {k : Nat} (hk : k < rows.length) (hp : rowAt rows ar k hk = false) : relRows rows ar = false := by
  cases h : relRows rows ar
  · rfl
  · have := relRows_good h k hk hk
    rw [hp] at this; cases this
theorem GoodTo.row {rows : List (List Val)} {ar : Int} {k j : Nat} (h : GoodTo rows ar k) (hj : j < rows.length) (hjk : j < k) : rowOk rows[j] = true := by
  have := h j hj hjk
  cases j with
  | zero => simp only [rowAt, Bool.and_eq_true] at this; exact this.1
  | succ j => simp only [rowAt, Bool.and_eq_true] at this; exact this.1.1
def relOk (r : Relt) : Bool := relRows r.rows r.arity && (decide (0 ≤ r.arity ∧ r.arity ≤ 6) && decide (r.rows.length ≤ 300))


def upToB (n m : Int) : Bool := decide (0 ≤ n ∧ n ≤ m)
theorem upToB_iff {n m : Int} : upToB n m = true ↔ 0 ≤ n ∧ n ≤ m := by simp [upToB]
theorem upToB_not {n m : Int} {p : Prop} (h : upToB n m = false) (hp : ¬ (0 ≤ n ∧ n ≤ m) → p) : p := hp (by simpa [upToB] using h)
theorem relOk_range {r : Relt} (h : r.arity < 0 ∨ 6 < r.arity ∨ 300 < r.rows.length) : relOk r = false := by
  have : (decide (0 ≤ r.arity ∧ r.arity ≤ 6) && decide (r.rows.length ≤ 300)) = false := by
    by_cases h1 : 0 ≤ r.arity ∧ r.arity ≤ 6
    · simp [h1]; omega
    · simp [h1]
  unfold relOk; rw [this]; simp
theorem relOk_bad {r : Relt} {k : Nat} (hk : k < r.rows.length) (h : rowAt r.rows r.arity k hk = false) : relOk r = false := by
  unfold relOk; rw [relRows_bad hk h]; rfl
theorem relOk_good {r : Relt} {k : Nat} (h : GoodTo r.rows r.arity k) (hk : r.rows.length ≤ k) (h0 : 0 ≤ r.arity) (h1 : r.arity ≤ 6) (h2 : r.rows.length ≤ 300) : relOk r = true := by
  have hg : GoodTo r.rows r.arity r.rows.length := fun j hj _ => h j hj (by omega)
  unfold relOk; rw [hg.all]; simp [h0, h1, h2]
theorem rowAt_len {rows : List (List Val)} {ar : Int} {k : Nat} (hk : k < rows.length) (h : ¬ (rows[k].length : Int) = ar) : rowAt rows ar k hk = false := by
  cases k <;> simp [rowAt, h]
theorem rowAt_row {rows : List (List Val)} {ar : Int} {k : Nat} (hk : k < rows.length) (h : rowOk rows[k] = false) : rowAt rows ar k hk = false := by
  cases k <;> simp [rowAt, h]
theorem rowAt_first {rows : List (List Val)} {ar : Int} {k : Nat} (hk : k < rows.length) (h1 : (rows[k].length : Int) = ar) (h2 : rowOk rows[k] = true) (h0 : k = 0) : rowAt rows ar k hk = true := by
  subst h0; simp [rowAt, h1, h2]
theorem rowAt_next {rows : List (List Val)} {ar : Int} {k : Nat} (hk : k < rows.length) (h1 : (rows[k].length : Int) = ar) (h2 : rowOk rows[k] = true) (h0 : 0 < k) (h3 : cmpRow rows[k - 1] rows[k] < 0) : rowAt rows ar k hk = true := by
  obtain ⟨j, rfl⟩ : ∃ j, k = j + 1 := ⟨k - 1, by omega⟩
  simp only [Nat.add_sub_cancel] at h3
  simp [rowAt, h1, h2, h3]
theorem rowAt_order {rows : List (List Val)} {ar : Int} {k : Nat} (hk : k < rows.length) (h0 : 0 < k) (h3 : ¬ cmpRow rows[k - 1] rows[k] < 0) : rowAt rows ar k hk = false := by
  obtain ⟨j, rfl⟩ : ∃ j, k = j + 1 := ⟨k - 1, by omega⟩
  simp only [Nat.add_sub_cancel] at h3
  simp only [rowAt, h3, decide_false, Bool.and_false]
/-- The reference's answer tells the order of right rows. -/
theorem rowOrder_lt {a b : List Val} (ha : rowOk a = true) (hb : rowOk b = true) : rowOrder a b = -1 ↔ cmpRow a b < 0 := by
  have : rowOrder a b = max (-1) (min (cmpRow a b) 1) := by simp [rowOrder, ha, hb, ord09_eq]
  rw [this]; omega
end Go.Proofs.Ytcgickpnckedcaa

/- Like relations, in plain words. -/
import Derived.Test.YtcgickpnckedcaaCmp
namespace Go.Proofs.Ytcgickpnckedcaa
open Go.RowKit
set_option linter.unusedVariables false

def LikeTo {α : Type} (xs ys : List α) (k : Nat) : Prop := ∀ j (h : j < xs.length) (h' : j < ys.length), j < k → xs[j] = ys[j]
theorem LikeTo.zero {α : Type} {xs ys : List α} : LikeTo xs ys 0 := fun _ _ _ h => absurd h (by omega)
theorem LikeTo.succ {α : Type} {xs ys : List α} {k : Nat} (h : LikeTo xs ys k) (hk : k < xs.length) (hk' : k < ys.length) (hs : xs[k] = ys[k]) : LikeTo xs ys (k + 1) := fun j hj hj' hjk => by
  rcases Nat.lt_or_ge j k with h1 | h1
  · exact h j hj hj' h1
  · obtain rfl : j = k := by omega
    exact hs
theorem LikeTo.eq {α : Type} {xs ys : List α} {k : Nat} (hl : xs.length = ys.length) (hk : xs.length ≤ k) (h : LikeTo xs ys k) : xs = ys :=
  List.ext_getElem hl fun j h1 h2 => h j h1 h2 (by omega)
theorem sameRow_iff {a b : List Val} : sameRow a b = true ↔ a = b := by simp [sameRow]
theorem sameRow_ne {a b : List Val} (h : sameRow a b = false) : a ≠ b := by simpa [sameRow] using h
def sameRows (a b : List (List Val)) : Bool := decide (a = b)
theorem sameRows_len {a b : List (List Val)} (h : ¬ a.length = b.length) : sameRows a b = false := decide_eq_false fun e => h (by rw [e])
theorem sameRows_at {a b : List (List Val)} {k : Nat} (hk : k < a.length) (hk' : k < b.length) (hs : sameRow a[k] b[k] = false) : sameRows a b = false := decide_eq_false fun e => by subst e; exact sameRow_ne hs rfl
theorem sameRows_eq {a b : List (List Val)} (h : a = b) : sameRows a b = true := decide_eq_true h
/-- Two right relations of one arity. -/
def two (a b : Relt) : Bool := relOk a && (relOk b && (a.arity == b.arity))
theorem two_a {a b : Relt} (h : relOk a = false) : two a b = false := by simp [two, h]
theorem two_b {a b : Relt} (h : relOk b = false) : two a b = false := by simp [two, h]
theorem two_ok {a b : Relt} (h : relOk a = true) (h' : relOk b = true) : two a b = (a.arity == b.arity) := by simp [two, h, h']
theorem two_left {a b : Relt} (h : two a b = true) : relOk a = true := by simp only [two, Bool.and_eq_true] at h; exact h.1
theorem two_right {a b : Relt} (h : two a b = true) : relOk b = true := by simp only [two, Bool.and_eq_true] at h; exact h.2.1
theorem two_arity {a b : Relt} (h : two a b = true) : a.arity = b.arity := by simp only [two, Bool.and_eq_true, beq_iff_eq] at h; exact h.2.2
def likeRel (a b : Relt) : Bool := a.arity == b.arity && sameRows a.rows b.rows
def sameRel (a b : Relt) : Bool := two a b && sameRows a.rows b.rows
theorem sameRel_two {a b : Relt} (h : two a b = false) : sameRel a b = false := by simp [sameRel, h]
theorem sameRel_rows {a b : Relt} (h : sameRows a.rows b.rows = false) : sameRel a b = false := by simp [sameRel, h]
theorem sameRel_yes {a b : Relt} (h : two a b = true) (h' : sameRows a.rows b.rows = true) : sameRel a b = true := by simp [sameRel, h, h']
theorem sameRel_like {a b : Relt} (h : relOk a = true) (h' : relOk b = true) : sameRel a b = likeRel a b := by simp [sameRel, two_ok h h', likeRel]
theorem likeRel_ar {a b : Relt} (h : (a.arity == b.arity) = false) : likeRel a b = false := by simp [likeRel, h]
theorem likeRel_ok {a b : Relt} (h : (a.arity == b.arity) = true) : likeRel a b = sameRows a.rows b.rows := by simp [likeRel, h]
/-- What two relations have in common, and what the first has alone. -/
def relBoth (a b : Relt) : Relt × Bool := if two a b = true then (⟨a.arity, a.rows.filter (fun row => hasRow b.rows row)⟩, true) else (⟨0, []⟩, false)
def relMinus (a b : Relt) : Relt × Bool := if two a b = true then (⟨a.arity, a.rows.filter (fun row => !hasRow b.rows row)⟩, true) else (⟨0, []⟩, false)
theorem relBoth_ok {a b : Relt} (h : two a b = true) : relBoth a b = (⟨a.arity, a.rows.filter (fun row => hasRow b.rows row)⟩, true) := if_pos h
theorem relBoth_no {a b : Relt} (h : two a b = false) : relBoth a b = (⟨0, []⟩, false) := if_neg (by simp [h])
theorem relMinus_ok {a b : Relt} (h : two a b = true) : relMinus a b = (⟨a.arity, a.rows.filter (fun row => !hasRow b.rows row)⟩, true) := if_pos h
theorem relMinus_no {a b : Relt} (h : two a b = false) : relMinus a b = (⟨0, []⟩, false) := if_neg (by simp [h])
theorem two_vals {a b : Relt} (h : two a b = true) : ∀ r ∈ a.rows, ∀ v ∈ r, valOk v = true := fun r hr v hv => by
  obtain ⟨j, hj, rfl⟩ := List.getElem_of_mem hr
  exact (relOk_sorted (two_left h)).1 j hj v hv
end Go.Proofs.Ytcgickpnckedcaa

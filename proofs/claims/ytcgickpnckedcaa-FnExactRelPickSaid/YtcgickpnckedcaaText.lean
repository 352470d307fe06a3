/- Contracts of ValueText and TextValue, and of the laws' own functions over values. -/
import Derived.Test.YtcgickpnckedcaaValue
namespace Go.Proofs.Ytcgickpnckedcaa
open Go.RowKit
set_option linter.unusedVariables false

/-! ### Texts -/
def valText (v : Val) : ByteArray := if valOk v then (if v.s.toList.isEmpty then numText v.n else v.s) else ByteArray.empty

def textVal (s : ByteArray) : Val × Bool := if textOk s then (⟨textN s, ByteArray.empty⟩, true) else if wordB s then (⟨0, s⟩, true) else (⟨0, ByteArray.empty⟩, false)
theorem word_not_num {s : ByteArray} (h : wordB s = true) : textOk s = false ∧ textN s = 0 := by
  have hn : textNum s = none := by
    simp only [wordB, Bool.and_eq_true, shortB, decide_eq_true_eq] at h
    have h0 : 0 < s.size := by omega
    refine textNum_bad h0 ?_
    have h2 := h.2
    rw [headB_eq h0] at h2
    simp only [letB, digB, decide_eq_true_eq, decide_eq_false_iff_not] at *; omega
  simp [textOk, textN, hn]
theorem textN_no {s : ByteArray} (h : textOk s = false) : textN s = 0 := by
  unfold textOk at h; unfold textN
  cases hn : textNum s with
  | none => rfl
  | some n => rw [hn] at h; cases h
def retVal (x : Val × Bool) : Ending := .returned (.tuple #[.agg #[.int .i64 x.1.n, .string x.1.s], .bool x.2])

/-! ### The laws' own functions over values -/
def szVal (v : Val) (left : Int) : Int := if left - v.s.size < 0 then -1 else left - v.s.size
theorem szVal_le {v : Val} {left : Int} (h : left ≤ 1048576) : szVal v left ≤ 1048576 ∧ -1 ≤ szVal v left := by unfold szVal; split <;> omega
set_option maxHeartbeats 400000 in
theorem szValue_any (v : Val) (left : Int) (w : World) (hs : v.s.size ≤ maxLen) (h0 : 0 ≤ left) (h1 : left ≤ 1048576) :
    Calls Try.prog 20 #[.agg #[.int .i64 v.n, .string v.s], .int .i64 left] w fun e w' => e = .returned (.int .i64 (szVal v left)) ∧ Below w.heap.size w w' := by
  unfold maxLen at hs
  go_enter Try.func20, Try.ntmps20
  go_wp2
  all_goals
    go_ret
    exact ⟨ret_int (by unfold szVal; split <;> omega), (Below.refl _ _).alloc (Nat.le_refl _) _⟩
set_option maxHeartbeats 400000 in
theorem toValue_any (v : Val) (w : World) :
    Calls Try.prog 22 #[.agg #[.int .i64 v.n, .string v.s]] w fun e w' => e = .returned (.agg #[.int .i64 v.n, .string v.s]) ∧ Below w.heap.size w w' := by
  go_enter Try.func22, Try.ntmps22
  go_wp2
  refine bodyPost_ret (v := .agg #[.int .i64 v.n, .string v.s]) (by simp [results, Try.results22, go_sem]; try rfl) rfl ⟨rfl, ?_⟩
  exact (((Below.refl _ _).alloc (Nat.le_refl _) _).alloc (by simp) _).alloc (by simp; omega) _
def eqVal (a b : Val) : Bool := a.n == b.n && a.s.toList == b.s.toList
set_option maxHeartbeats 400000 in
theorem eqValue_any (a b : Val) (w : World) :
    Calls Try.prog 108 #[.agg #[.int .i64 a.n, .string a.s], .agg #[.int .i64 b.n, .string b.s]] w fun e w' => e = .returned (.bool (eqVal a b)) ∧ Below w.heap.size w w' := by
  cases h1 : (a.n == b.n) <;> cases h2 : (a.s.toList == b.s.toList)
  all_goals
    have HR := Lib.hid (show eqVal a b = _ by unfold eqVal; rw [h1, h2])
    have h1' : (a.n != b.n) = !(a.n == b.n) := rfl
    go_enter Try.func108, Try.ntmps108
    go_wp2
    go_ret
    refine ⟨ret_bool ?_, ((Below.refl _ _).alloc (Nat.le_refl _) _).alloc (by simp) _⟩
    rw [HR.out]
    rfl
end Go.Proofs.Ytcgickpnckedcaa

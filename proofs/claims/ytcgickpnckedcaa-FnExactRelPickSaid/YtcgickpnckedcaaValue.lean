/- Contracts of the functions over values: ValueOk, ValueLess, ValueText, TextValue, and the laws' szValue, toValue, eqValue. -/
import Derived.Test.YtcgickpnckedcaaVal
namespace Go.Proofs.Ytcgickpnckedcaa
open Go.RowKit
set_option linter.unusedVariables false

structure Val where
  n : Int
  s : ByteArray
def valE : Enc Val := isoE (pairE (intE .i64) (pairE strE unitE)) (fun v => (v.n, v.s, ()))
theorem valE_rep {w : World} {cs : List Value} {v : Val} {bs : List Nat} : valE.rep w cs v bs ↔ cs = [.int .i64 v.n, .string v.s] ∧ (Lit.int .i64 v.n).wf = true ∧ v.s.size ≤ maxLen ∧ bs = [] := by
  constructor
  · rintro ⟨c1, c2, b1, b2, rfl, rfl, ⟨rfl, h2, rfl⟩, c3, c4, b3, b4, rfl, rfl, ⟨rfl, h3, rfl⟩, rfl, rfl⟩
    exact ⟨rfl, h2, h3, rfl⟩
  · rintro ⟨rfl, h2, h3, rfl⟩
    exact ⟨[_], [_], [], [], rfl, rfl, ⟨rfl, h2, rfl⟩, [_], [], [], [], rfl, rfl, ⟨rfl, h3, rfl⟩, rfl, rfl⟩
theorem opens_lValue : Opens Try.prog valE 33 :=
  opens_iso (fun x => ⟨x.1, x.2.1⟩) (fun _ => rfl) (opens_struct Try.underlying33 (by kernel_rfl) (opensF_cons rfl (by kernel_rfl) (opens_int Try.underlying3) (opensF_cons rfl (by kernel_rfl) (opens_string Try.underlying9) opensF_nil)))

def valOk (v : Val) : Bool := if v.s.toList.isEmpty then numB v.n else v.n == 0 && wordB v.s
theorem valOk_num {v : Val} (h : v.s.toList.isEmpty = true) : valOk v = numB v.n := by rw [valOk, if_pos h]
theorem valOk_word {v : Val} (h : v.s.toList.isEmpty = false) : valOk v = (v.n == 0 && wordB v.s) := by rw [valOk, if_neg (by simp [h])]

set_option maxHeartbeats 400000 in
theorem valueOkI_any (n : Int) (s : ByteArray) (w : World) (hs : s.size ≤ maxLen) :
    Calls Try.prog 63 #[.agg #[.int .i64 n, .string s]] w fun e w' => e = .returned (.bool (valOk ⟨n, s⟩)) ∧ Below w.heap.size w w' := by
  cases hq : s.toList.isEmpty
  · have HR := Lib.hid (valOk_word (v := ⟨n, s⟩) hq)
    cases hz : (n == 0)
    · go_enter Try.func63, Try.ntmps63
      go_wp2_with (first | (go_at_call 103; refine (isNumber_any _ _).mono ?_; rintro e w' ⟨rfl, rfl⟩) | (go_at_call 104; refine (wordOkI_any _ _ hs).mono ?_; rintro e w' ⟨rfl, rfl⟩))
      go_ret
      exact ⟨ret_bool (by rw [HR.out, hz]; rfl), (Below.refl _ _).alloc (Nat.le_refl _) _⟩
    · go_enter Try.func63, Try.ntmps63
      go_wp2_with (first | (go_at_call 103; refine (isNumber_any _ _).mono ?_; rintro e w' ⟨rfl, rfl⟩) | (go_at_call 104; refine (wordOkI_any _ _ hs).mono ?_; rintro e w' ⟨rfl, rfl⟩))
      go_ret
      exact ⟨ret_bool (by rw [HR.out, hz]; rfl), (Below.refl _ _).alloc (Nat.le_refl _) _⟩
  · have HR := Lib.hid (valOk_num (v := ⟨n, s⟩) hq)
    go_enter Try.func63, Try.ntmps63
    go_wp2_with (first | (go_at_call 103; refine (isNumber_any _ _).mono ?_; rintro e w' ⟨rfl, rfl⟩) | (go_at_call 104; refine (wordOkI_any _ _ hs).mono ?_; rintro e w' ⟨rfl, rfl⟩))
    go_ret
    exact ⟨ret_bool HR.out.symm, (Below.refl _ _).alloc (Nat.le_refl _) _⟩

set_option maxHeartbeats 400000 in
theorem valueOkS_any (n : Int) (s : ByteArray) (w : World) (hs : s.size ≤ maxLen) :
    Calls Try.prog 60 #[.agg #[.int .i64 n, .string s]] w fun e w' => e = .returned (.bool (valOk ⟨n, s⟩)) ∧ Below w.heap.size w w' := by
  cases hq : s.toList.isEmpty
  · have HR := Lib.hid (valOk_word (v := ⟨n, s⟩) hq)
    cases hz : (n == 0)
    · go_enter Try.func60, Try.ntmps60
      go_wp2_with (first | (go_at_call 101; refine (l01Num_any _ _).mono ?_; rintro e w' ⟨rfl, rfl⟩) | (go_at_call 102; refine (wordOkS_any _ _ hs).mono ?_; rintro e w' ⟨rfl, rfl⟩))
      go_ret
      exact ⟨ret_bool (by rw [HR.out, hz]; rfl), (Below.refl _ _).alloc (Nat.le_refl _) _⟩
    · go_enter Try.func60, Try.ntmps60
      go_wp2_with (first | (go_at_call 101; refine (l01Num_any _ _).mono ?_; rintro e w' ⟨rfl, rfl⟩) | (go_at_call 102; refine (wordOkS_any _ _ hs).mono ?_; rintro e w' ⟨rfl, rfl⟩))
      go_ret
      exact ⟨ret_bool (by rw [HR.out, hz]; rfl), (Below.refl _ _).alloc (Nat.le_refl _) _⟩
  · have HR := Lib.hid (valOk_num (v := ⟨n, s⟩) hq)
    go_enter Try.func60, Try.ntmps60
    go_wp2_with (first | (go_at_call 101; refine (l01Num_any _ _).mono ?_; rintro e w' ⟨rfl, rfl⟩) | (go_at_call 102; refine (wordOkS_any _ _ hs).mono ?_; rintro e w' ⟨rfl, rfl⟩))
    go_ret
    exact ⟨ret_bool HR.out.symm, (Below.refl _ _).alloc (Nat.le_refl _) _⟩

/-! ### The order -/
theorem bytesLess_cmp : ∀ a b : List UInt8, Op.bytesLess a b = decide (Lib.compareBytes a b < 0)
  | [], [] => by simp [Op.bytesLess, Lib.compareBytes]
  | [], _ :: _ => by simp [Op.bytesLess, Lib.compareBytes]
  | _ :: _, [] => by simp [Op.bytesLess, Lib.compareBytes]
  | x :: a, y :: b => by
    have ih := bytesLess_cmp a b
    unfold Op.bytesLess Lib.compareBytes
    by_cases h1 : x < y
    · simp [h1]
    · by_cases h2 : y < x
      · have : ¬ x = y := by rintro rfl; exact h1 h2
        simp [h1, h2, this]
      · have : x = y := UInt8.le_antisymm (UInt8.not_lt.1 h2) (UInt8.not_lt.1 h1)
        subst this
        simp [h1, ih]

def cmpVal (a b : Val) : Int :=
  if a.s.toList.isEmpty then (if b.s.toList.isEmpty then a.n - b.n else -1) else if b.s.toList.isEmpty then 1 else Lib.compareBytes a.s.data.toList b.s.data.toList
def valLess (a b : Val) : Bool := valOk a && valOk b && decide (cmpVal a b < 0)

set_option maxRecDepth 100000 in
theorem cmpStr_any (a b : ByteArray) (w : World) :
    Calls Try.prog 156 #[.string a, .string b] w fun e w' => e = .returned (.int .i64 (Lib.compareBytes a.data.toList b.data.toList)) ∧ w = w' := by
  go_enter Try.func156, Try.ntmps156
  go_wp2
  rw [run_callFunc_extern Try.func162 (by kernel_rfl) (by kernel_rfl) (by kernel_rfl) (e := Extern.BytealgCompare.compare) (by kernel_rfl), Lib.run_compareString]
  simp only [Result.andThen]
  rw [Oper.upon_value]
  go_wp2
  go_ret
  exact ⟨rfl, rfl⟩
theorem strCompare_any (a b : ByteArray) (w : World) :
    Calls Try.prog 140 #[.string a, .string b] w fun e w' => e = .returned (.int .i64 (Lib.compareBytes a.data.toList b.data.toList)) ∧ w = w' := by
  go_enter Try.func140, Try.ntmps140
  go_wp2_with (go_at_call 156; refine (cmpStr_any _ _ _).mono ?_; rintro e w' ⟨rfl, rfl⟩)
  go_ret
  exact ⟨rfl, rfl⟩

theorem valOk_range {v : Val} (h : valOk v = true) : 0 ≤ v.n ∧ v.n ≤ 281474976710655 := by
  unfold valOk at h
  split at h
  · simpa [numB] using h
  · simp at h; omega

set_option maxHeartbeats 400000 in
theorem byValue_any (a b : Val) (w : World) (ha : valOk a = true) (hb : valOk b = true) :
    Calls Try.prog 127 #[.agg #[.int .i64 a.n, .string a.s], .agg #[.int .i64 b.n, .string b.s]] w fun e w' => e = .returned (.int .i64 (cmpVal a b)) ∧ Below w.heap.size w w' := by
  obtain ⟨a1, a2⟩ := valOk_range ha
  obtain ⟨b1, b2⟩ := valOk_range hb
  clear ha hb
  obtain ⟨an, sa⟩ := a
  obtain ⟨bn, sb⟩ := b
  dsimp only at *
  cases hqa : sa.toList.isEmpty <;> cases hqb : sb.toList.isEmpty
  all_goals
    have HR := Lib.hid (show cmpVal ⟨an, sa⟩ ⟨bn, sb⟩ = _ by simp only [cmpVal, hqa, hqb]; exact rfl)
    go_enter Try.func127, Try.ntmps127
    go_wp2_with (first | (go_at_call 140; refine (strCompare_any _ _ _).mono ?_; rintro e w' ⟨rfl, rfl⟩))
    go_ret
    refine ⟨ret_int ?_, ((Below.refl _ _).alloc (Nat.le_refl _) _).alloc (by simp) _⟩
    rw [HR.out]
    rfl

theorem valLess_key (la lb : List UInt8) (x y : Int) :
    (((if la.isEmpty then (if lb.isEmpty then x - y else -1) else if lb.isEmpty then 1 else Lib.compareBytes la lb) < 0) ↔ (if la.isEmpty && lb.isEmpty then decide (x < y) else Op.bytesLess la lb) = true) := by
  rw [bytesLess_cmp]
  cases la with
  | nil => cases lb with
    | nil => simp; omega
    | cons y lb => simp [Lib.compareBytes]
  | cons x la => cases lb with
    | nil => simp [Lib.compareBytes]
    | cons y lb => simp
theorem valLess_eq {a b : Val} (ha : valOk a = true) (hb : valOk b = true) : valLess a b = (if a.s.toList.isEmpty && b.s.toList.isEmpty then decide (a.n < b.n) else Op.bytesLess a.s.toList b.s.toList) := by
  have hk := valLess_key a.s.toList b.s.toList a.n b.n
  rw [Bool.eq_iff_iff, ← hk]
  unfold valLess
  rw [ha, hb]
  simp only [Bool.true_and, decide_eq_true_eq]
  unfold cmpVal
  rw [ByteArray.toList_eq, ByteArray.toList_eq]

end Go.Proofs.Ytcgickpnckedcaa

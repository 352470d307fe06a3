/- Contracts of the functions over values: ValueOk, ValueLess, ValueText, TextValue, and the laws' szValue, toValue, eqValue. -/
import Derived.Test.YtgealkbfaffedaaVal
namespace Go.Proofs.Ytgealkbfaffedaa
open Go.RowKit
set_option linter.unusedVariables false

structure Val where
  n : Int
  s : ByteArray
def valE : Enc Val := isoE (pairE (intE .i64) (pairE strE unitE)) (fun v => (v.n, v.s, ()))
theorem valE_rep {w : World} {cs : List Value} {v : Val} {bs : List Nat} : valE.rep w cs v bs ↔ cs = [.int .i64 v.n, .string v.s] ∧ (Lit.int .i64 v.n).wf = true ∧ v.s.size ≤ maxLen ∧ bs = [] := by
  constructor
  · rintro ⟨c1, c2, b1, b2, rfl, rfl, ⟨rfl, h2, rfl⟩, c3, c4, b3, b4, rfl, rfl, ⟨rfl, h3, rfl⟩, rfl, rfl⟩
    exact ⟨rfl, h2, h3, rfl⟩
  · rintro ⟨rfl, h2, h3, rfl⟩
    exact ⟨[_], [_], [], [], rfl, rfl, ⟨rfl, h2, rfl⟩, [_], [], [], [], rfl, rfl, ⟨rfl, h3, rfl⟩, rfl, rfl⟩
theorem opens_lValue : Opens Try.prog valE 24 :=
  opens_iso (fun x => ⟨x.1, x.2.1⟩) (fun _ => rfl) (opens_struct Try.underlying24 (by kernel_rfl) (opensF_cons rfl (by kernel_rfl) (opens_int Try.underlying3) (opensF_cons rfl (by kernel_rfl) (opens_string Try.underlying9) opensF_nil)))

def valOk (v : Val) : Bool := if v.s.toList.isEmpty then numB v.n else v.n == 0 && wordB v.s
theorem valOk_num {v : Val} (h : v.s.toList.isEmpty = true) : valOk v = numB v.n := by rw [valOk, if_pos h]
theorem valOk_word {v : Val} (h : v.s.toList.isEmpty = false) : valOk v = (v.n == 0 && wordB v.s) := by rw [valOk, if_neg (by simp [h])]

set_option maxHeartbeats 400000 in
theorem valueOkI_any (n : Int) (s : ByteArray) (w : World) (hs : s.size ≤ maxLen) :
    Calls Try.prog 22 #[.agg #[.int .i64 n, .string s]] w fun e w' => e = .returned (.bool (valOk ⟨n, s⟩)) ∧ Below w.heap.size w w' := by
  cases hq : s.toList.isEmpty
  · have HR := Lib.hid (valOk_word (v := ⟨n, s⟩) hq)
    cases hz : (n == 0)
    · go_enter Try.func22, Try.ntmps22
      go_wp2_with (first | (go_at_call 53; refine (isNumber_any _ _).mono ?_; rintro e w' ⟨rfl, rfl⟩) | (go_at_call 54; refine (wordOkI_any _ _ hs).mono ?_; rintro e w' ⟨rfl, rfl⟩))
      go_ret
      exact ⟨ret_bool (by rw [HR.out, hz]; rfl), (Below.refl _ _).alloc (Nat.le_refl _) _⟩
    · go_enter Try.func22, Try.ntmps22
      go_wp2_with (first | (go_at_call 53; refine (isNumber_any _ _).mono ?_; rintro e w' ⟨rfl, rfl⟩) | (go_at_call 54; refine (wordOkI_any _ _ hs).mono ?_; rintro e w' ⟨rfl, rfl⟩))
      go_ret
      exact ⟨ret_bool (by rw [HR.out, hz]; rfl), (Below.refl _ _).alloc (Nat.le_refl _) _⟩
  · have HR := Lib.hid (valOk_num (v := ⟨n, s⟩) hq)
    go_enter Try.func22, Try.ntmps22
    go_wp2_with (first | (go_at_call 53; refine (isNumber_any _ _).mono ?_; rintro e w' ⟨rfl, rfl⟩) | (go_at_call 54; refine (wordOkI_any _ _ hs).mono ?_; rintro e w' ⟨rfl, rfl⟩))
    go_ret
    exact ⟨ret_bool HR.out.symm, (Below.refl _ _).alloc (Nat.le_refl _) _⟩

set_option maxHeartbeats 400000 in
theorem valueOkS_any (n : Int) (s : ByteArray) (w : World) (hs : s.size ≤ maxLen) :
    Calls Try.prog 20 #[.agg #[.int .i64 n, .string s]] w fun e w' => e = .returned (.bool (valOk ⟨n, s⟩)) ∧ Below w.heap.size w w' := by
  cases hq : s.toList.isEmpty
  · have HR := Lib.hid (valOk_word (v := ⟨n, s⟩) hq)
    cases hz : (n == 0)
    · go_enter Try.func20, Try.ntmps20
      go_wp2_with (first | (go_at_call 51; refine (l01Num_any _ _).mono ?_; rintro e w' ⟨rfl, rfl⟩) | (go_at_call 52; refine (wordOkS_any _ _ hs).mono ?_; rintro e w' ⟨rfl, rfl⟩))
      go_ret
      exact ⟨ret_bool (by rw [HR.out, hz]; rfl), (Below.refl _ _).alloc (Nat.le_refl _) _⟩
    · go_enter Try.func20, Try.ntmps20
      go_wp2_with (first | (go_at_call 51; refine (l01Num_any _ _).mono ?_; rintro e w' ⟨rfl, rfl⟩) | (go_at_call 52; refine (wordOkS_any _ _ hs).mono ?_; rintro e w' ⟨rfl, rfl⟩))
      go_ret
      exact ⟨ret_bool (by rw [HR.out, hz]; rfl), (Below.refl _ _).alloc (Nat.le_refl _) _⟩
  · have HR := Lib.hid (valOk_num (v := ⟨n, s⟩) hq)
    go_enter Try.func20, Try.ntmps20
    go_wp2_with (first | (go_at_call 51; refine (l01Num_any _ _).mono ?_; rintro e w' ⟨rfl, rfl⟩) | (go_at_call 52; refine (wordOkS_any _ _ hs).mono ?_; rintro e w' ⟨rfl, rfl⟩))
    go_ret
    exact ⟨ret_bool HR.out.symm, (Below.refl _ _).alloc (Nat.le_refl _) _⟩

/-! ### The order -/
theorem bytesLess_cmp : ∀ a b : List UInt8, Op.bytesLess a b = decide (Lib.compareBytes a b < 0)
  | [], [] => by simp [Op.bytesLess, Lib.compareBytes]
  | [], _ :: _ => by simp [Op.bytesLess, Lib.compareBytes]
  | _ :: _, [] => by simp [Op.bytesLess, Lib.compareBytes]
  | x :: a, y :: b => by
    have ih := bytesLess_cmp a b
    unfold Op.bytesLess Lib.compareBytes
    by_cases h1 : x < y
    · simp [h1]
    · by_cases h2 : y < x
      · have : ¬ x = y := by rintro rfl; exact h1 h2
        simp [h1, h2, this]
      · have : x = y := UInt8.le_antisymm (UInt8.not_lt.1 h2) (UInt8.not_lt.1 h1)
        subst this
        simp [h1, ih]

def cmpVal (a b : Val) : Int :=
  if a.s.toList.isEmpty then (if b.s.toList.isEmpty then a.n - b.n else -1) else if b.s.toList.isEmpty then 1 else Lib.compareBytes a.s.data.toList b.s.data.toList
def valLess (a b : Val) : Bool := valOk a && valOk b && decide (cmpVal a b < 0)

set_option maxRecDepth 100000 in
theorem cmpStr_any (a b : ByteArray) (w : World) :
    Calls Try.prog 89 #[.string a, .string b] w fun e w' => e = .returned (.int .i64 (Lib.compareBytes a.data.toList b.data.toList)) ∧ w = w' := by
  go_enter Try.func89, Try.ntmps89
  go_wp2
  rw [run_callFunc_extern Try.func97 (by kernel_rfl) (by kernel_rfl) (by kernel_rfl) (e := Extern.BytealgCompare.compare) (by kernel_rfl), Lib.run_compareString]
  simp only [Result.andThen]
  rw [Oper.upon_value]
  go_wp2
  go_ret
  exact ⟨rfl, rfl⟩
theorem strCompare_any (a b : ByteArray) (w : World) :
    Calls Try.prog 76 #[.string a, .string b] w fun e w' => e = .returned (.int .i64 (Lib.compareBytes a.data.toList b.data.toList)) ∧ w = w' := by
  go_enter Try.func76, Try.ntmps76
  go_wp2_with (go_at_call 89; refine (cmpStr_any _ _ _).mono ?_; rintro e w' ⟨rfl, rfl⟩)
  go_ret
  exact ⟨rfl, rfl⟩

theorem valOk_range {v : Val} (h : valOk v = true) : 0 ≤ v.n ∧ v.n ≤ 281474976710655 := by
  unfold valOk at h
  split at h
  · simpa [numB] using h
  · simp at h; omega

set_option maxHeartbeats 400000 in
theorem byValue_any (a b : Val) (w : World) (ha : valOk a = true) (hb : valOk b = true) :
    Calls Try.prog 55 #[.agg #[.int .i64 a.n, .string a.s], .agg #[.int .i64 b.n, .string b.s]] w fun e w' => e = .returned (.int .i64 (cmpVal a b)) ∧ Below w.heap.size w w' := by
  obtain ⟨a1, a2⟩ := valOk_range ha
  obtain ⟨b1, b2⟩ := valOk_range hb
  clear ha hb
  obtain ⟨an, sa⟩ := a
  obtain ⟨bn, sb⟩ := b
  dsimp only at *
  cases hqa : sa.toList.isEmpty <;> cases hqb : sb.toList.isEmpty
  all_goals
    have HR := Lib.hid (show cmpVal ⟨an, sa⟩ ⟨bn, sb⟩ = _ by simp only [cmpVal, hqa, hqb]; exact rfl)
    go_enter Try.func55, Try.ntmps55
    go_wp2_with (first | (go_at_call 76; refine (strCompare_any _ _ _).mono ?_; rintro e w' ⟨rfl, rfl⟩))
    go_ret
    refine ⟨ret_int ?_, ((Below.refl _ _).alloc (Nat.le_refl _) _).alloc (by simp) _⟩
    rw [HR.out]
    rfl

set_option maxHeartbeats 400000 in
theorem valueLessI_any (a b : Val) (w : World) (hsa : a.s.size ≤ maxLen) (hsb : b.s.size ≤ maxLen) :
    Calls Try.prog 24 #[.agg #[.int .i64 a.n, .string a.s], .agg #[.int .i64 b.n, .string b.s]] w fun e w' => e = .returned (.bool (valLess a b)) ∧ Below w.heap.size w w' := by
  cases ha : valOk a
  · have HR := Lib.hid (show valLess a b = false by simp [valLess, ha])
    go_enter Try.func24, Try.ntmps24
    go_wp2_with fail
    refine (valueOkI_any _ _ _ hsa).mono ?_
    rintro e w1 ⟨rfl, hb1⟩
    obtain ⟨hc1, hf1⟩ := bcell hb1
    go_wp2_with fail
    go_ret
    exact ⟨ret_bool HR.out.symm, (((Below.refl _ _).alloc (Nat.le_refl _) _).alloc (by simp) _).trans (hb1.mono (by simp; omega))⟩
  · cases hb : valOk b
    · have HR := Lib.hid (show valLess a b = false by simp [valLess, hb])
      go_enter Try.func24, Try.ntmps24
      go_wp2_with fail
      refine (valueOkI_any _ _ _ hsa).mono ?_
      rintro e w1 ⟨rfl, hb1⟩
      obtain ⟨hc1, hf1⟩ := bcell hb1
      go_wp2_with fail
      refine (valueOkI_any _ _ _ hsb).mono ?_
      rintro e w2 ⟨rfl, hb2⟩
      go_wp2_with fail
      go_ret
      exact ⟨ret_bool HR.out.symm, ((((Below.refl _ _).alloc (Nat.le_refl _) _).alloc (by simp) _).trans (hb1.mono (by simp; omega))).trans (hb2.mono (by have := hb1.size; simp at this; omega))⟩
    · have HR := Lib.hid (show valLess a b = decide (cmpVal a b < 0) by simp [valLess, ha, hb])
      go_enter Try.func24, Try.ntmps24
      go_wp2_with fail
      refine (valueOkI_any _ _ _ hsa).mono ?_
      rintro e w1 ⟨rfl, hb1⟩
      obtain ⟨hc1, hf1⟩ := bcell hb1
      have hz1 : w.heap.size + 1 < w1.heap.size := by have := hb1.size; simp at this; omega
      have hz0 : w.heap.size < w1.heap.size := by omega
      go_wp2_with fail
      refine (valueOkI_any _ _ _ hsb).mono ?_
      rintro e w2 ⟨rfl, hb2⟩
      obtain ⟨hc2, hf2⟩ := bcell hb2
      go_wp2_with fail
      refine (byValue_any a b _ ha hb).mono ?_
      rintro e w3 ⟨rfl, hb3⟩
      go_wp2_with fail
      go_ret
      exact ⟨ret_bool HR.out.symm, (((((Below.refl _ _).alloc (Nat.le_refl _) _).alloc (by simp) _).trans (hb1.mono (by simp; omega))).trans (hb2.mono (by omega))).trans (hb3.mono (by have := hb2.size; omega))⟩

theorem valLess_key (la lb : List UInt8) (x y : Int) :
    (((if la.isEmpty then (if lb.isEmpty then x - y else -1) else if lb.isEmpty then 1 else Lib.compareBytes la lb) < 0) ↔ (if la.isEmpty && lb.isEmpty then decide (x < y) else Op.bytesLess la lb) = true) := by
  rw [bytesLess_cmp]
  cases la with
  | nil => cases lb with
    | nil => simp; omega
    | cons y lb => simp [Lib.compareBytes]
  | cons x la => cases lb with
    | nil => simp [Lib.compareBytes]
    | cons y lb => simp
theorem valLess_eq {a b : Val} (ha : valOk a = true) (hb : valOk b = true) : valLess a b = (if a.s.toList.isEmpty && b.s.toList.isEmpty then decide (a.n < b.n) else Op.bytesLess a.s.toList b.s.toList) := by
  have hk := valLess_key a.s.toList b.s.toList a.n b.n
  rw [Bool.eq_iff_iff, ← hk]
  unfold valLess
  rw [ha, hb]
  simp only [Bool.true_and, decide_eq_true_eq]
  unfold cmpVal
  rw [ByteArray.toList_eq, ByteArray.toList_eq]

set_option maxHeartbeats 800000 in
theorem valueLessS_any (a b : Val) (w : World) (hsa : a.s.size ≤ maxLen) (hsb : b.s.size ≤ maxLen) :
    Calls Try.prog 23 #[.agg #[.int .i64 a.n, .string a.s], .agg #[.int .i64 b.n, .string b.s]] w fun e w' => e = .returned (.bool (valLess a b)) ∧ Below w.heap.size w w' := by
  cases ha : valOk a
  · have HR := Lib.hid (show valLess a b = false by simp [valLess, ha])
    go_enter Try.func23, Try.ntmps23
    go_wp2_with fail
    refine (valueOkS_any _ _ _ hsa).mono ?_
    rintro e w1 ⟨rfl, hb1⟩
    obtain ⟨hc1, hf1⟩ := bcell hb1
    go_wp2_with fail
    go_ret
    exact ⟨ret_bool HR.out.symm, (((Below.refl _ _).alloc (Nat.le_refl _) _).alloc (by simp) _).trans (hb1.mono (by simp; omega))⟩
  · cases hb : valOk b
    · have HR := Lib.hid (show valLess a b = false by simp [valLess, hb])
      go_enter Try.func23, Try.ntmps23
      go_wp2_with fail
      refine (valueOkS_any _ _ _ hsa).mono ?_
      rintro e w1 ⟨rfl, hb1⟩
      obtain ⟨hc1, hf1⟩ := bcell hb1
      go_wp2_with fail
      refine (valueOkS_any _ _ _ hsb).mono ?_
      rintro e w2 ⟨rfl, hb2⟩
      go_wp2_with fail
      go_ret
      exact ⟨ret_bool HR.out.symm, ((((Below.refl _ _).alloc (Nat.le_refl _) _).alloc (by simp) _).trans (hb1.mono (by simp; omega))).trans (hb2.mono (by have := hb1.size; simp at this; omega))⟩
    · have HR := Lib.hid (valLess_eq ha hb)
      cases hqa : a.s.toList.isEmpty <;> cases hqb : b.s.toList.isEmpty
      all_goals
        have HA := Lib.hid hqa
        have HB := Lib.hid hqb
        go_enter Try.func23, Try.ntmps23
        go_wp2_with fail
        refine (valueOkS_any _ _ _ hsa).mono ?_
        rintro e w1 ⟨rfl, hb1⟩
        obtain ⟨hc1, hf1⟩ := bcell hb1
        have hz1 : w.heap.size + 1 < w1.heap.size := by have := hb1.size; simp at this; omega
        have hz0 : w.heap.size < w1.heap.size := by omega
        go_wp2_with fail
        refine (valueOkS_any _ _ _ hsb).mono ?_
        rintro e w2 ⟨rfl, hb2⟩
        obtain ⟨hc2, hf2⟩ := bcell hb2
        go_wp2_with fail
        go_ret
        refine ⟨ret_bool ?_, ((((Below.refl _ _).alloc (Nat.le_refl _) _).alloc (by simp) _).trans (hb1.mono (by simp; omega))).trans (hb2.mono (by omega))⟩
        rw [HR.out, HA.out, HB.out]
        rfl
end Go.Proofs.Ytgealkbfaffedaa

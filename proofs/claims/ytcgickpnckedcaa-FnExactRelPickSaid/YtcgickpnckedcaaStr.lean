/- Contracts of the functions over bytes and strings: letters, words, variables, keywords. -/
import Derived.Test.YtcgickpnckedcaaBase
import Derived.Test.YtcgickpnckedcaaRows
namespace Go.Proofs.Ytcgickpnckedcaa
open Go.RowKit

def keptB (s : ByteArray) : Bool := s.toList == [115, 116, 97, 116, 101] || s.toList == [101, 118, 101, 110, 116] || s.toList == [118, 105, 101, 119] || s.toList == [110, 111, 116]

def letB (c : Int) : Bool := decide (97 ≤ c ∧ c ≤ 122)
def upB (c : Int) : Bool := decide (65 ≤ c ∧ c ≤ 90)
def digB (c : Int) : Bool := decide (48 ≤ c ∧ c ≤ 57)
def classI (c : Int) : Int := if letB c then 1 else if upB c then 2 else if digB c then 3 else 0

theorem isLetter_any (c : Int) (w : World) :
    Calls Try.prog 128 #[.int .u8 c] w fun e w' => e = .returned (.bool (letB c)) ∧ w = w' := by
  go_enter Try.func128, Try.ntmps128
  go_wp2
  all_goals
    go_ret
    exact ⟨by simp [letB, *]; try omega, rfl⟩
theorem isDigit_any (c : Int) (w : World) :
    Calls Try.prog 129 #[.int .u8 c] w fun e w' => e = .returned (.bool (digB c)) ∧ w = w' := by
  go_enter Try.func129, Try.ntmps129
  go_wp2
  all_goals
    go_ret
    exact ⟨by simp [digB, *]; try omega, rfl⟩
def alnumB (c : Int) : Bool := letB c || upB c || digB c
def wordC (c : Int) : Bool := letB c || digB c
/-- Each of the first k bytes meets p. -/
def allTo (p : Int → Bool) (s : ByteArray) (k : Nat) : Prop := ∀ i (h : i < s.size), i < k → p s[i].toNat = true
theorem allTo_succ {p : Int → Bool} {s : ByteArray} {k : Nat} (h : allTo p s k) (hk : k < s.size) (hp : p s[k].toNat = true) : allTo p s (k + 1) := by
  intro i hi hik
  rcases Nat.lt_or_ge i k with h1 | h1
  · exact h i hi h1
  · obtain rfl : i = k := by omega
    exact hp
def allB (p : Int → Bool) (s : ByteArray) : Bool := s.data.toList.all fun c => p c.toNat
theorem getElem_data (s : ByteArray) (i : Nat) (h : i < s.size) : s.data.toList[i]'(by simpa using h) = s[i] := by
  simp [ByteArray.getElem_eq_getElem_data]
theorem allB_true {p : Int → Bool} {s : ByteArray} (h : allTo p s s.size) : allB p s = true := by
  unfold allB
  rw [List.all_eq_true]
  intro c hc
  obtain ⟨i, hi, rfl⟩ := List.getElem_of_mem hc
  have hi' : i < s.size := by simpa using hi
  rw [getElem_data s i hi']
  exact h i hi' hi'
theorem allB_false {p : Int → Bool} {s : ByteArray} {k : Nat} (hk : k < s.size) (h : p s[k].toNat = false) : allB p s = false := by
  unfold allB
  rw [List.all_eq_false]
  refine ⟨s[k], ?_, by simp [h]⟩
  rw [← getElem_data s k hk]
  exact List.getElem_mem _
def headB (p : Int → Bool) (s : ByteArray) : Bool := match s.data.toList with | [] => false | c :: _ => p c.toNat
theorem headB_eq {p : Int → Bool} {s : ByteArray} (h : 0 < s.size) : headB p s = p s[0].toNat := by
  have h1 := getElem_data s 0 h
  unfold headB
  cases hl : s.data.toList with
  | nil => have : s.data.toList.length = s.size := by simp
           rw [hl] at this; simp at this; omega
  | cons c l => simp [hl] at h1; simp [h1]
def shortB (s : ByteArray) : Bool := decide (1 ≤ s.size) && decide (s.size ≤ 12)
def varB (s : ByteArray) : Bool := allB alnumB s && shortB s && headB upB s
def wordB (s : ByteArray) : Bool := allB wordC s && shortB s && headB letB s

set_option maxHeartbeats 400000 in
theorem wordOkI_any (s : ByteArray) (w : World) (hs : s.size ≤ maxLen) :
    Calls Try.prog 104 #[.string s] w fun e w' => e = .returned (.bool (wordB s)) ∧ w = w' := by
  unfold maxLen at hs
  go_enter Try.func104, Try.ntmps104
  go_wp2
  go_loop [2, 6] (fun r i => ∃ k : Nat, k ≤ s.size ∧ i = .int .i64 k ∧ allTo wordC s k) (fun _ i => s.size - (intOf i).toNat)
  case atStart => exact ⟨0, Nat.zero_le _, rfl, fun i _ h => by omega⟩
  case round =>
    obtain ⟨k, hk, rfl, ha⟩ := hrel
    have HA := Lib.hid ha
    clear ha
    by_cases hlt : k < s.size
    · go_wp2_with (first | (go_at_call 128; refine (isLetter_any _ _).mono ?_; rintro e w' ⟨rfl, rfl⟩) | (go_at_call 129; refine (isDigit_any _ _).mono ?_; rintro e w' ⟨rfl, rfl⟩))
      all_goals first
        | (go_round
           case rel => exact ⟨k + 1, by omega, by go_num, allTo_succ HA.out hlt (by simp_all [wordC])⟩
           case measure => simp [intOf]; omega)
        | (go_ret
           exact ⟨ret_bool (by simp [wordB, allB_false (p := wordC) hlt (by simp_all [wordC])]), rfl⟩)
    · obtain rfl : k = s.size := by omega
      have H1 := Lib.hid (allB_true HA.out)
      go_wp2_with (first | (go_at_call 128; refine (isLetter_any _ _).mono ?_; rintro e w' ⟨rfl, rfl⟩))
      all_goals
        go_ret
        refine ⟨ret_bool ?_, rfl⟩
        have h1 := H1.out
        first
          | (have h2 : 0 < s.size := by omega
             simp only [wordB, h1, shortB, headB_eq h2]
             simp; omega)
          | (simp [wordB, shortB]; omega)

theorem class_zero (c : Int) : (classI c == 0) = !alnumB c := by
  simp only [classI, alnumB]
  cases letB c <;> cases upB c <;> cases digB c <;> rfl
theorem class_two (c : Int) : (classI c != 2) = !(upB c && !letB c) := by
  simp only [classI]
  cases letB c <;> cases upB c <;> cases digB c <;> rfl
theorem up_let {c : Int} (h : upB c = true) : letB c = false := by
  simp only [upB, letB, decide_eq_true_eq, decide_eq_false_iff_not] at *; omega

theorem five (c : Int) : c < 48 ∨ (48 ≤ c ∧ c ≤ 57) ∨ (57 < c ∧ c < 97) ∨ (97 ≤ c ∧ c ≤ 122) ∨ 122 < c := by omega
theorem wordHead {s : ByteArray} {k : Nat} (hk : k < s.size) (h : (letB ↑s[k].toNat || (digB ↑s[k].toNat && !decide (k = 0))) = true) (h0 : k ≠ 0 → headB letB s = true) : headB letB s = true := by
  by_cases hz : k = 0
  · subst hz
    rw [headB_eq hk]
    simpa using h
  · exact h0 hz

set_option maxHeartbeats 400000 in
theorem wordOkS_any (s : ByteArray) (w : World) (hs : s.size ≤ maxLen) :
    Calls Try.prog 102 #[.string s] w fun e w' => e = .returned (.bool (wordB s)) ∧ w = w' := by
  unfold maxLen at hs
  by_cases h1 : 1 ≤ s.size ∧ s.size ≤ 12
  · obtain ⟨h1, h2⟩ := h1
    go_enter Try.func102, Try.ntmps102
    go_wp2
    go_loop [2, 3, 4, 5] (fun r i l d => ∃ k : Nat, k ≤ s.size ∧ i = .int .i64 k ∧ allTo wordC s k ∧ (k ≠ 0 → headB letB s = true)) (fun _ i _ _ => s.size - (intOf i).toNat)
    case atStart => exact ⟨0, Nat.zero_le _, rfl, (fun i _ h => by omega), fun h => absurd rfl h⟩
    case round =>
      obtain ⟨k, hk, rfl, ha, hd⟩ := hrel
      have HA := Lib.hid ha
      have HD := Lib.hid hd
      clear ha hd
      by_cases hlt : k < s.size
      · by_cases hz : k = 0
        · subst hz
          rcases five ↑s[0].toNat with h5 | ⟨h5, h6⟩ | ⟨h5, h6⟩ | ⟨h5, h6⟩ | h5
          all_goals
            go_wp2
          all_goals first
            | (exfalso; simp only [Bool.not_eq_false', decide_eq_true_eq] at *; omega)
            | (go_round
               case rel => exact ⟨1, by omega, by rfl, allTo_succ HA.out hlt (by simp [wordC, letB, digB]; omega), fun _ => by rw [headB_eq hlt]; simp [letB]; omega⟩
               case measure => simp [intOf]; omega)
            | (go_ret
               exact ⟨ret_bool (by simp [wordB, headB_eq hlt, letB]; omega), rfl⟩)
        · rcases five ↑s[k].toNat with h5 | ⟨h5, h6⟩ | ⟨h5, h6⟩ | ⟨h5, h6⟩ | h5
          all_goals
            go_wp2
          all_goals first
            | (exfalso; simp only [Bool.not_eq_false', decide_eq_true_eq] at *; omega)
            | (go_round
               case rel => exact ⟨k + 1, by omega, by go_num, allTo_succ HA.out hlt (by simp [wordC, letB, digB]; omega), fun _ => HD.out hz⟩
               case measure => simp [intOf]; omega)
            | (go_ret
               exact ⟨ret_bool (by simp [wordB, allB_false (p := wordC) hlt (by simp [wordC, letB, digB]; omega)]), rfl⟩)
      · obtain rfl : k = s.size := by omega
        have H1 := Lib.hid (allB_true HA.out)
        go_wp2
        go_ret
        refine ⟨ret_bool ?_, rfl⟩
        have h3 := HD.out (by omega)
        simp [wordB, shortB, H1.out, h3]; omega
  · have hv : wordB s = false := by simp [wordB, shortB]; omega
    have HV := Lib.hid hv
    clear hv
    rcases Nat.lt_or_ge s.size 1 with h2 | h2
    · go_enter Try.func102, Try.ntmps102
      go_wp2
      go_ret
      exact ⟨ret_bool HV.out.symm, rfl⟩
    · have h4 : 12 < s.size := by omega
      go_enter Try.func102, Try.ntmps102
      go_wp2
      go_ret
      exact ⟨ret_bool HV.out.symm, rfl⟩
end Go.Proofs.Ytcgickpnckedcaa

/- Contracts of the functions over numbers and values. -/
import Derived.Test.YtcgickpnckedcaaStr
import Derived.Test.YtcgickpnckedcaaNum
import Derived.Deep.RegionWith
import Derived.BigQuiet
import Derived.Deep.RegionHeld3
import Derived.Deep.QuietTactic
import Derived.Deep.Draws
import Derived.Lib.Bytealg
namespace Go.Proofs.Ytcgickpnckedcaa
open Go.RowKit
set_option linter.unusedVariables false

def numB (n : Int) : Bool := decide (0 ≤ n ∧ n ≤ 281474976710655)
theorem isNumber_any (n : Int) (w : World) :
    Calls Try.prog 103 #[.int .i64 n] w fun e w' => e = .returned (.bool (numB n)) ∧ w = w' := by
  go_enter Try.func103, Try.ntmps103
  go_wp2
  all_goals
    go_ret
    exact ⟨ret_bool (by simp [numB, *]; try omega), rfl⟩
theorem l01Num_any (n : Int) (w : World) :
    Calls Try.prog 101 #[.int .i64 n] w fun e w' => e = .returned (.bool (numB n)) ∧ w = w' := by
  go_enter Try.func101, Try.ntmps101
  go_wp2
  all_goals
    go_ret
    exact ⟨ret_bool (by simp [numB, *]; try omega), rfl⟩


def numText (n : Int) : ByteArray := if numB n then bytes (numTxt n.toNat) else ByteArray.empty
theorem numText_small {n : Int} (h0 : 0 ≤ n) (h1 : n < 10) : numText n = Utf8.encode (48 + n) := by
  have hb : numB n = true := by simp [numB]; omega
  rw [numText, if_pos hb, utf8_dig h0 h1, numTxt_small (by omega)]
theorem numText_big {n : Int} (h0 : 10 ≤ n) (h1 : n ≤ 281474976710655) : numText n = numText (n / 10) ++ Utf8.encode (48 + n % 10) := by
  have hb : numB n = true := by simp [numB]; omega
  have hc : numB (n / 10) = true := by simp [numB]; omega
  rw [numText, numText, if_pos hb, if_pos hc, utf8_dig (by omega) (by omega), bytes_append, numTxt_big (by omega)]
  congr 3
  · congr 1; omega
  · congr 1; congr 1; omega
theorem numText_size (n : Int) : (numText n).size ≤ 15 := by
  unfold numText
  cases hb : numB n
  · simp
  · have h : 0 ≤ n ∧ n ≤ 281474976710655 := by simpa [numB] using hb
    simp only [if_true, bytes_size]
    exact numTxt_len15 (by omega)
theorem utf8_size {d : Int} (h0 : 0 ≤ d) (h1 : d < 10) : (Utf8.encode (48 + d)).size = 1 := by rw [utf8_dig h0 h1, bytes_size]; rfl
theorem numText_room (n : Int) (h0 : 10 ≤ n) : ¬ 9223372036854775807 < (numText (n / 10)).size + (Utf8.encode (48 + n % 10)).size := by
  have h1 := numText_size (n / 10)
  have h2 := utf8_size (d := n % 10) (by omega) (by omega)
  omega
theorem numText_no {n : Int} (h : numB n = false) : numText n = ByteArray.empty := by rw [numText, h]; rfl

theorem conv_one {d : Int} (h0 : 0 ≤ d) (h1 : d < 10) (D : ByteArray) (hD : D = Utf8.encode (48 + d)) (W : World) (g : Nat) (hc : W.cell? ⟨g, 0, none⟩ = some (.int .u8 (48 + d))) :
    Sem.run Try.prog (convert 65 9 (.slice (some ⟨g, 0, none⟩) 1 1)) W = .ok (.string D) W := by
  have h := run_convert_bytes_back (P := Try.prog) W 65 9 5 ⟨g, 0, none⟩ 1 [UInt8.ofNat (48 + d.toNat)] Try.underlying65 Try.underlying5 Try.underlying9 (by
    intro j hj
    have : j = 0 := by simpa using hj
    subst this
    have e : (⟨g, 0, none⟩ : Addr).add 0 = ⟨g, 0, none⟩ := rfl
    rw [e, hc]
    simp only [List.getElem_cons_zero]
    rw [toNat_dig (by omega)]
    congr 2; omega)
  rw [hD, utf8_dig h0 h1]
  exact h

def textN (s : ByteArray) : Int := match textNum s with | some n => n | none => 0
def textOk (s : ByteArray) : Bool := (textNum s).isSome
/-- The first k bytes are digits, and v is their number. -/
def Dig (s : ByteArray) (k v : Nat) : Prop := v = digVal (s.data.toList.take k) ∧ (s.data.toList.take k).all isDig = true
theorem dig_zero (s : ByteArray) : Dig s 0 0 := ⟨by simp [digVal], by simp⟩
theorem take_succ (s : ByteArray) (k : Nat) (hk : k < s.size) : s.data.toList.take (k + 1) = s.data.toList.take k ++ [s[k]] := by
  rw [List.take_succ_eq_append_getElem (by simpa using hk), getElem_data s k hk]
theorem isDig_eq (c : UInt8) : isDig c = digB c.toNat := by
  simp only [isDig, digB, Bool.and_eq_decide]
  congr 1
  simp only [decide_eq_true_eq, eq_iff_iff]; omega
theorem Dig.succ {s : ByteArray} {k v : Nat} (h : Dig s k v) (hk : k < s.size) (hd : digB s[k].toNat = true) : Dig s (k + 1) (10 * v + (s[k].toNat - 48)) := by
  unfold Dig
  rw [take_succ s k hk, digVal_snoc, List.all_append, h.2, ← h.1]
  exact ⟨rfl, by simp [isDig_eq, hd]⟩
theorem Dig.lt {s : ByteArray} {k v : Nat} (h : Dig s k v) (hk : k ≤ 15) : v < 1000000000000000 := by
  have h1 := digVal_lt _ _ rfl h.2
  rw [← h.1] at h1
  have h2 : (s.data.toList.take k).length ≤ 15 := by rw [List.length_take]; omega
  have h3 : 10 ^ (s.data.toList.take k).length ≤ 10 ^ 15 := Nat.pow_le_pow_right (by omega) h2
  omega
theorem textNum_long {s : ByteArray} (h : s.data.toList = [] ∨ 15 < s.size) : textNum s = none := by
  unfold textNum
  rw [if_neg]
  rintro ⟨h1, h2, _⟩
  rcases h with h | h
  · exact h1 h
  · have : s.data.toList.length = s.size := by simp
    omega
theorem textNum_bad {s : ByteArray} {k : Nat} (hk : k < s.size) (hd : digB s[k].toNat = false) : textNum s = none := by
  unfold textNum
  rw [if_neg]
  rintro ⟨_, _, h3, _⟩
  rw [List.all_eq_true] at h3
  have := h3 s[k] (by rw [← getElem_data s k hk]; exact List.getElem_mem _)
  rw [isDig_eq, hd] at this
  cases this
theorem textNum_end {s : ByteArray} {v : Nat} (h : Dig s s.size v) (h0 : 0 < s.size) (h1 : s.size ≤ 15) : textNum s = if (numText v).toList = s.toList then some v else none := by
  have hl : s.data.toList.length = s.size := by simp
  obtain ⟨hv, hd⟩ := h
  rw [List.take_of_length_le (by omega)] at hv hd
  unfold textNum
  rw [← hv, hd, ByteArray.toList_eq, ByteArray.toList_eq]
  by_cases hn : v ≤ 281474976710655
  · have hb : numB (v : Int) = true := by simp [numB]; omega
    have ht : (numText v).data.toList = numTxt v := by rw [numText, if_pos hb]; simp
    rw [ht]
    by_cases he : numTxt v = s.data.toList
    · rw [if_pos he, if_pos ⟨by intro e; rw [e] at hl; simp at hl; omega, by omega, rfl, hn, he⟩]
    · rw [if_neg he, if_neg (fun h => he h.2.2.2.2)]
  · have hb : numB (v : Int) = false := by simp [numB]; omega
    rw [numText_no hb, if_neg (fun h => hn h.2.2.2.1), if_neg]
    intro e
    rw [← e] at hl
    simp at hl; omega

end Go.Proofs.Ytcgickpnckedcaa

/- Plain facts on decimal texts: no program in sight. -/
import Derived.Test.YtcgickpnckedcaaBase
namespace Go.Proofs.Ytcgickpnckedcaa
open Go.RowKit
set_option linter.unusedVariables false

def bytes (l : List UInt8) : ByteArray := ⟨l.toArray⟩
@[simp] theorem bytes_toList (l : List UInt8) : (bytes l).data.toList = l := rfl
theorem bytes_of (s : ByteArray) : bytes s.data.toList = s := by cases s; simp [bytes]
theorem bytes_append (a b : List UInt8) : bytes a ++ bytes b = bytes (a ++ b) := by
  apply ByteArray.ext
  simp [bytes, ByteArray.data_append]
theorem bytes_size (l : List UInt8) : (bytes l).size = l.length := by simp [bytes, ByteArray.size]
theorem bytes_inj {a b : List UInt8} (h : bytes a = bytes b) : a = b := by
  have := congrArg (fun s => s.data.toList) h
  simpa using this
theorem ba_ext {a b : ByteArray} (h : a.data.toList = b.data.toList) : a = b := by
  rw [← bytes_of a, ← bytes_of b, h]

def numTxt (n : Nat) : List UInt8 := if n < 10 then [UInt8.ofNat (48 + n)] else numTxt (n / 10) ++ [UInt8.ofNat (48 + n % 10)]
termination_by n
decreasing_by omega

theorem utf8_dig {d : Int} (h0 : 0 ≤ d) (h1 : d < 10) : Utf8.encode (48 + d) = bytes [UInt8.ofNat (48 + d.toNat)] := by
  have : d = 0 ∨ d = 1 ∨ d = 2 ∨ d = 3 ∨ d = 4 ∨ d = 5 ∨ d = 6 ∨ d = 7 ∨ d = 8 ∨ d = 9 := by omega
  rcases this with rfl | rfl | rfl | rfl | rfl | rfl | rfl | rfl | rfl | rfl <;> decide +kernel

def isDig (c : UInt8) : Bool := decide (48 ≤ c.toNat) && decide (c.toNat ≤ 57)
def digVal (l : List UInt8) : Nat := l.foldl (fun n c => 10 * n + (c.toNat - 48)) 0
theorem digVal_snoc (l : List UInt8) (c : UInt8) : digVal (l ++ [c]) = 10 * digVal l + (c.toNat - 48) := by simp [digVal]
theorem digVal_lt : ∀ (n : Nat) (l : List UInt8), l.length = n → l.all isDig = true → digVal l < 10 ^ n := by
  intro n
  induction n with
  | zero => intro l h _; have := List.eq_nil_of_length_eq_zero h; subst this; simp [digVal]
  | succ n ih =>
    intro l h hd
    have hne : l ≠ [] := by intro e; subst e; simp at h
    have hl := (List.dropLast_concat_getLast hne)
    rw [← hl] at hd ⊢
    rw [digVal_snoc]
    rw [List.all_append, Bool.and_eq_true] at hd
    have h1 := ih l.dropLast (by simp [h]) hd.1
    have h2 : isDig (l.getLast hne) = true := by simpa using hd.2
    simp only [isDig, Bool.and_eq_true, decide_eq_true_eq] at h2
    rw [Nat.pow_succ]
    omega
theorem toNat_dig {d : Nat} (h : d < 10) : (UInt8.ofNat (48 + d)).toNat = 48 + d := by simp; omega
theorem isDig_dig {d : Nat} (h : d < 10) : isDig (UInt8.ofNat (48 + d)) = true := by
  unfold isDig; rw [toNat_dig h]; simp; omega
theorem numTxt_small {n : Nat} (h : n < 10) : numTxt n = [UInt8.ofNat (48 + n)] := by rw [numTxt, if_pos h]
theorem numTxt_big {n : Nat} (h : 10 ≤ n) : numTxt n = numTxt (n / 10) ++ [UInt8.ofNat (48 + n % 10)] := by rw [numTxt, if_neg (by omega)]
theorem digVal_numTxt (n : Nat) : digVal (numTxt n) = n := by
  induction n using Nat.strongRecOn with
  | _ n ih =>
    rcases Nat.lt_or_ge n 10 with h | h
    · rw [numTxt_small h]; simp [digVal]; omega
    · rw [numTxt_big h, digVal_snoc, ih (n / 10) (by omega), toNat_dig (by omega)]; omega
theorem numTxt_dig (n : Nat) : (numTxt n).all isDig = true := by
  induction n using Nat.strongRecOn with
  | _ n ih =>
    rcases Nat.lt_or_ge n 10 with h | h
    · rw [numTxt_small h, List.all_cons, isDig_dig h]; rfl
    · rw [numTxt_big h, List.all_append, ih (n / 10) (by omega)]; rw [List.all_cons, isDig_dig (d := n % 10) (by omega)]; rfl
theorem numTxt_ne (n : Nat) : numTxt n ≠ [] := by
  rcases Nat.lt_or_ge n 10 with h | h
  · rw [numTxt_small h]; simp
  · rw [numTxt_big h]; simp
theorem numTxt_len : ∀ (k n : Nat), n < 10 ^ (k + 1) → (numTxt n).length ≤ k + 1 := by
  intro k
  induction k with
  | zero => intro n h; rw [numTxt_small (by simpa using h)]; simp
  | succ k ih =>
    intro n h
    rcases Nat.lt_or_ge n 10 with h1 | h1
    · rw [numTxt_small h1]; simp
    · rw [numTxt_big h1, List.length_append]
      have : n / 10 < 10 ^ (k + 1) := by rw [Nat.pow_succ] at h; omega
      have := ih _ this
      simp; omega
theorem numTxt_len15 {n : Nat} (h : n ≤ 281474976710655) : (numTxt n).length ≤ 15 := numTxt_len 14 n (by omega)
theorem numTxt_inj {a b : Nat} (h : numTxt a = numTxt b) : a = b := by rw [← digVal_numTxt a, ← digVal_numTxt b, h]

/-- The number that a text is the decimal form of. -/
def textNum (s : ByteArray) : Option Nat :=
  if s.data.toList ≠ [] ∧ s.data.toList.length ≤ 15 ∧ s.data.toList.all isDig = true ∧ digVal s.data.toList ≤ 281474976710655 ∧ numTxt (digVal s.data.toList) = s.data.toList then some (digVal s.data.toList) else none
theorem textNum_numTxt {n : Nat} (h : n ≤ 281474976710655) : textNum (bytes (numTxt n)) = some n := by
  unfold textNum
  simp only [bytes_toList, digVal_numTxt]
  rw [if_pos ⟨numTxt_ne n, numTxt_len15 h, numTxt_dig n, h, trivial⟩]
theorem textNum_some {s : ByteArray} {n : Nat} (h : textNum s = some n) : n ≤ 281474976710655 ∧ s = bytes (numTxt n) := by
  unfold textNum at h
  split at h
  · rename_i hc
    obtain ⟨h1, h2, h3, h4, h5⟩ := hc
    simp only [Option.some.injEq] at h
    subst h
    exact ⟨h4, by rw [h5, bytes_of]⟩
  · cases h
end Go.Proofs.Ytcgickpnckedcaa

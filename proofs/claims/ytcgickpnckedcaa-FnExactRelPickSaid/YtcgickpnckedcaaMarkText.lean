/- The laws' markText: a text for a number. -/
import Derived.Test.YtcgickpnckedcaaVal
import Derived.Test.YtcgickpnckedcaaMark
namespace Go.Proofs.Ytcgickpnckedcaa
open Go.RowKit
set_option linter.unusedVariables false

/-- The digits of m ahead of out. -/
def digs (m : Nat) (out : ByteArray) : ByteArray := if h : m = 0 then out else digs (m / 10) (Utf8.encode (48 + ((m % 10 : Nat) : Int)) ++ out)
termination_by m
decreasing_by omega
theorem digs_zero (out : ByteArray) : digs 0 out = out := by rw [digs]; rfl
theorem digs_step {m : Nat} (h : 0 < m) (out : ByteArray) : digs (m / 10) (Utf8.encode (48 + ((m % 10 : Nat) : Int)) ++ out) = digs m out := by
  conv => rhs; rw [digs]
  rw [dif_neg (by omega)]
def markText (k : Int) : ByteArray := if k ≤ 0 then ⟨#[109, 48]⟩ else ⟨#[109]⟩ ++ digs k.toNat ⟨#[]⟩
theorem markText_neg {k : Int} (h : k ≤ 0) : markText k = ⟨#[109, 48]⟩ := if_pos h
theorem markText_pos {k : Int} (h : ¬ k ≤ 0) : markText k = ⟨#[109]⟩ ++ digs k.toNat ⟨#[]⟩ := if_neg h
theorem enc_dig_size {d : Int} (h0 : 0 ≤ d) (h1 : d < 10) : (Utf8.encode (48 + d)).size = 1 := by rw [utf8_dig h0 h1]; rfl
theorem digs_size : ∀ (m : Nat) (out : ByteArray), m < 10 ^ (20 - out.size) → out.size ≤ 20 → (digs m out).size ≤ 20 := by
  intro m
  induction m using Nat.strongRecOn with
  | _ m ih =>
    intro out h hs
    by_cases h0 : m = 0
    · subst h0; rw [digs_zero]; exact hs
    · rw [← digs_step (by omega)]
      have hz : (Utf8.encode (48 + ((m % 10 : Nat) : Int)) ++ out).size = out.size + 1 := by rw [ByteArray.size_append, enc_dig_size (by omega) (by omega)]; omega
      have h20 : out.size < 20 := by
        rcases Nat.lt_or_ge out.size 20 with h2 | h2
        · exact h2
        · rw [show 20 - out.size = 0 by omega] at h; simp at h; omega
      refine ih (m / 10) (by omega) _ ?_ (by omega)
      rw [hz, Nat.div_lt_iff_lt_mul (by omega), ← Nat.pow_succ, show (20 - (out.size + 1)).succ = 20 - out.size by omega]
      exact h
theorem markText_size {k : Int} (h : k ≤ 9223372036854775807) : (markText k).size ≤ 21 := by
  unfold markText
  split
  · decide
  · rw [ByteArray.size_append]
    have h1 : k.toNat < 10 ^ (20 - (⟨#[]⟩ : ByteArray).size) := by
      have : (⟨#[]⟩ : ByteArray).size = 0 := rfl
      rw [this]
      have : (10 : Nat) ^ (20 - 0) = 100000000000000000000 := by decide
      omega
    have := digs_size k.toNat ⟨#[]⟩ h1 (by decide)
    have h2 : (⟨#[109]⟩ : ByteArray).size = 1 := rfl
    omega

theorem wfText {k : Int} (h : k ≤ 9223372036854775807) : wfV (.string (markText k)) := by
  have := markText_size h
  show (markText k).size ≤ maxLen
  unfold maxLen; omega
theorem wfByte (k : Int) : wfV (.int .u8 (IntKind.u8.wrap k)) := wf_wrap _ _
theorem cell_only {bs : List Nat} {w w' : World} {a : Addr} {v : Value} (h : w.cell? a = some v) (o : Only bs w w') (hn : a.block ∉ bs) : w'.cell? a = some v := by
  have hlt : a.block < w.heap.size := by
    unfold World.cell? at h
    rcases Nat.lt_or_ge a.block w.heap.size with hlt | hge
    · exact hlt
    · rw [Array.getElem?_eq_none hge] at h; cases h
  exact (World.cell?_of_block (w := w) (o.keep a.block hlt hn)).trans h

set_option maxRecDepth 100000 in
set_option maxHeartbeats 4000000 in
theorem markText_any (k : Int) (w : World) (h1 : k ≤ 9223372036854775807) :
    Calls Try.prog 109 #[.int .i64 k] w fun e w' => e = .returned (.string (markText k)) ∧ Below w.heap.size w w' := by
  by_cases hk : k ≤ 0
  · have HR := Lib.hid (markText_neg hk)
    go_enter Try.func109, Try.ntmps109
    go_wp2_with fail
    go_ret
    exact ⟨ret_str HR.out.symm, Below.refl _ _⟩
  · have HR := Lib.hid (markText_pos hk)
    go_enter Try.func109, Try.ntmps109
    go_wp2_with fail
    go_loopw [0, 3] (fun kk oo W => ∃ (m : Nat) (out : ByteArray), kk = .int .i64 m ∧ oo = .string out ∧ digs m out = digs k.toNat ⟨#[]⟩ ∧ m ≤ 9223372036854775807 ∧ m < 10 ^ (20 - out.size) ∧ out.size ≤ 20 ∧ Below w.heap.size w W) (fun kk _ _ => (intOf kk).toNat)
    case atStart => exact ⟨k.toNat, ⟨#[]⟩, by rw [Int.toNat_of_nonneg (by omega)], rfl, rfl, by omega, by
      have : (10 : Nat) ^ (20 - (⟨#[]⟩ : ByteArray).size) = 100000000000000000000 := by decide
      omega, by decide, Below.refl _ _⟩
    case round =>
      obtain ⟨m, out, rfl, rfl, hd, hm, hp, hs, hB⟩ := hrel
      by_cases h0 : 0 < m
      · have hcv := conv_one (d := ((m % 10 : Nat) : Int)) (by omega) (by omega) _ rfl
        have hdig := enc_dig_size (d := ((m % 10 : Nat) : Int)) (by omega) (by omega)
        have hstep := digs_step h0 out
        have h20 : out.size < 20 := by
          rcases Nat.lt_or_ge out.size 20 with h2 | h2
          · exact h2
          · rw [show 20 - out.size = 0 by omega] at hp; simp at hp; omega
        have hp2 : m / 10 < 10 ^ (20 - (out.size + 1)) := by
          rw [Nat.div_lt_iff_lt_mul (by omega), ← Nat.pow_succ, show (20 - (out.size + 1)).succ = 20 - out.size by omega]; exact hp
        clear hp
        generalize Utf8.encode (48 + ((m % 10 : Nat) : Int)) = D at hcv hdig hstep
        have hroom : ¬ 9223372036854775807 < D.size + out.size := by omega
        have hz : (D ++ out).size = out.size + 1 := by rw [ByteArray.size_append, hdig]; omega
        have e1 : IntKind.i64.wrap ((m : Int).tdiv 10) = ((m / 10 : Nat) : Int) := by rw [Int.tdiv_eq_ediv_of_nonneg (by omega)]; rw [IntWalk.i64_in _ (by omega)]; omega
        have e2 : (m : Int).tmod 10 = ((m % 10 : Nat) : Int) := by rw [Int.tmod_eq_emod_of_nonneg (by omega)]; omega
        have e3 : IntKind.i64.wrap (48 + ((m % 10 : Nat) : Int)) = 48 + ((m % 10 : Nat) : Int) := IntWalk.i64_in _ (by omega)
        have e4 : IntKind.u8.wrap (48 + ((m % 10 : Nat) : Int)) = 48 + ((m % 10 : Nat) : Int) := IntWalk.u8_in _ (by omega)
        go_wp2_with fail
        go_roundw
        case rel => exact ⟨m / 10, D ++ out, by simp, rfl, by rw [hstep, hd], by omega, by rw [hz]; exact hp2, by omega, by first | exact hB.alloc (by have := hB.size; omega) _ | exact hB⟩
        case measure => simp [intOf]; omega
      · obtain rfl : m = 0 := by omega
        rw [digs_zero] at hd
        have HD := Lib.hid hd
        clear hd
        have hroom : ¬ 9223372036854775807 < 1 + out.size := by omega
        go_wp2_with fail
        go_ret
        exact ⟨ret_str (by rw [HR.out, HD.out]), hB⟩
end Go.Proofs.Ytcgickpnckedcaa

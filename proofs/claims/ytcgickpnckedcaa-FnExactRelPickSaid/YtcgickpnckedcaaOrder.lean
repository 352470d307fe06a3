/- The order of rows: byRow, RowOrder and the reference's l09Order. -/
import Derived.Test.YtcgickpnckedcaaRow
import Derived.Deep.RegionHeld3
namespace Go.Proofs.Ytcgickpnckedcaa
open Go.RowKit
set_option linter.unusedVariables false

theorem compareBytes_neg : ∀ a b : List UInt8, Lib.compareBytes a b = - Lib.compareBytes b a
  | [], [] => by simp [Lib.compareBytes]
  | [], _ :: _ => by simp [Lib.compareBytes]
  | _ :: _, [] => by simp [Lib.compareBytes]
  | x :: a, y :: b => by
    have ih := compareBytes_neg a b
    unfold Lib.compareBytes
    by_cases h1 : x < y
    · have h2 : ¬ y < x := fun h => UInt8.lt_irrefl _ (UInt8.lt_trans h1 h)
      simp [h1, h2]
    · by_cases h2 : y < x
      · simp [h1, h2]
      · simp [h1, h2, ih]
theorem cmpVal_neg (a b : Val) : cmpVal a b = - cmpVal b a := by
  unfold cmpVal
  by_cases ha : a.s.toList.isEmpty = true <;> by_cases hb : b.s.toList.isEmpty = true
  · simp only [ha, hb, if_true]; omega
  · simp [ha, hb]
  · simp [ha, hb]
  · simp only [ha, hb]; exact compareBytes_neg _ _
def less09 (a b : Val) : Bool := if a.s.toList.isEmpty && b.s.toList.isEmpty then decide (a.n < b.n) else Op.bytesLess a.s.toList b.s.toList
theorem less09_iff (a b : Val) : less09 a b = true ↔ cmpVal a b < 0 := by
  have hk := valLess_key a.s.toList b.s.toList a.n b.n
  unfold less09 cmpVal
  rw [← hk, ByteArray.toList_eq, ByteArray.toList_eq]

def cmpRow : List Val → List Val → Int
  | [], [] => 0
  | [], _ :: _ => -1
  | _ :: _, [] => 1
  | x :: xs, y :: ys => if cmpVal x y = 0 then cmpRow xs ys else cmpVal x y
def ord09 : List Val → List Val → Int
  | [], [] => 0
  | [], _ :: _ => -1
  | _ :: _, [] => 1
  | x :: xs, y :: ys => if less09 x y then -1 else if less09 y x then 1 else ord09 xs ys
theorem ord09_eq : ∀ a b : List Val, ord09 a b = max (-1) (min (cmpRow a b) 1)
  | [], [] => rfl
  | [], _ :: _ => rfl
  | _ :: _, [] => rfl
  | x :: xs, y :: ys => by
    have ih := ord09_eq xs ys
    unfold ord09 cmpRow
    have h1 := less09_iff x y
    have h2 := less09_iff y x
    rw [cmpVal_neg y x] at h2
    by_cases hc : cmpVal x y = 0
    · rw [if_pos hc, if_neg (by rw [h1]; omega), if_neg (by rw [h2]; omega), ih]
    · rw [if_neg hc]
      by_cases hl : cmpVal x y < 0
      · rw [if_pos (h1.2 hl)]; omega
      · rw [if_neg (by rw [h1]; omega), if_pos (h2.2 (by omega))]; omega
def rowOrder (a b : List Val) : Int := if rowOk a && rowOk b then ord09 a b else 2

set_option maxHeartbeats 800000 in
theorem less09_any (a b : Val) (w : World) :
    Calls Try.prog 130 #[.agg #[.int .i64 a.n, .string a.s], .agg #[.int .i64 b.n, .string b.s]] w fun e w' => e = .returned (.bool (less09 a b)) ∧ Below w.heap.size w w' := by
  have H0 := ((Held.start w).box_ #[.int .i64 a.n, .string a.s] 37).box_ #[.int .i64 b.n, .string b.s] 37
  cases ha : a.s.toList.isEmpty <;> cases hb : b.s.toList.isEmpty
  all_goals
    have HR := Lib.hid (show less09 a b = _ by unfold less09; rw [ha, hb])
    go_enter Try.func130, Try.ntmps130
    go_wp2_with fail
    go_ret
    refine ⟨ret_bool ?_, H0.below⟩
    rw [HR.out]
    try rfl

theorem drop_cons {α : Type} {xs : List α} {k : Nat} (h : k < xs.length) : xs.drop k = xs[k] :: xs.drop (k + 1) := List.drop_eq_getElem_cons h

set_option maxHeartbeats 800000 in
theorem cmpFunc_any (a : Option Addr) (n cap : Nat) (xs : List Val) (bs : List Nat) (b : Option Addr) (m cap' : Nat) (ys : List Val) (bs' : List Nat) (w : World) (h : SliceRep valE w a n cap xs bs) (h' : SliceRep valE w b m cap' ys bs')
    (hx : ∀ v ∈ xs, valOk v = true) (hy : ∀ v ∈ ys, valOk v = true) :
    Calls Try.prog 126 #[.slice a n cap, .slice b m cap', .func (.func 127) #[] #[]] w fun e w' => e = .returned (.int .i64 (cmpRow xs ys)) ∧ Below w.heap.size w w' := by
  have hmax := h.max
  have hmax' := h'.max
  obtain rfl := h.1
  obtain rfl := h'.1
  go_enter Try.func126, Try.ntmps126
  go_wp2
  go_loopw [13] (fun i W => ∃ k : Nat, k ≤ xs.length ∧ k ≤ ys.length ∧ i = .int .i64 k ∧ Hid (cmpRow xs ys = cmpRow (xs.drop k) (ys.drop k)) ∧ Held w [] W) (fun i _ => xs.length - (intOf i).toNat)
  case atStart => exact ⟨0, Nat.zero_le _, Nat.zero_le _, rfl, rfl, Held.start w⟩
  case round =>
    obtain ⟨k, hk, hk', rfl, HC, H⟩ := hrel
    by_cases hlt : k < xs.length
    · obtain ⟨g, off, rfl, c0, c1, hs, hn⟩ := (h.up H.below).val hlt
      by_cases hlt' : k < ys.length
      · obtain ⟨g', off', rfl, d0, d1, hs', hn'⟩ := (h'.up H.below).val hlt'
        have hvx := hx xs[k] (List.getElem_mem hlt)
        have hvy := hy ys[k] (List.getElem_mem hlt')
        have e0 := cell_alloc d0 (.cells #[.int .i64 xs[k].n, .string xs[k].s] 37)
        have e1 := cell_alloc d1 (.cells #[.int .i64 xs[k].n, .string xs[k].s] 37)
        have H1 := (H.alloc (.cells #[.int .i64 xs[k].n, .string xs[k].s] 37)).alloc (.cells #[.int .i64 ys[k].n, .string ys[k].s] 37)
        by_cases hz : cmpVal xs[k] ys[k] = 0
        · have hzb : (cmpVal xs[k] ys[k] != 0) = false := by simp [hz]
          have HC' : Hid (cmpRow xs ys = cmpRow (xs.drop (k + 1)) (ys.drop (k + 1))) := by
            have := HC.out
            rw [drop_cons hlt, drop_cons hlt', cmpRow, if_pos hz] at this
            exact this
          clear HC hz
          go_wp2_with fail
          refine (byValue_any _ _ _ hvx hvy).mono ?_
          rintro e w1 ⟨rfl, hb1⟩
          have H2 := H1.up hb1
          clear H H1 hb1 c0 c1 d0 d1 e0 e1
          go_wp2_with fail
          go_roundw
          case rel => exact ⟨k + 1, by omega, by omega, by go_num, HC', H2⟩
          case measure => simp [intOf]; omega
        · have hzb : (cmpVal xs[k] ys[k] != 0) = true := by simp [hz]
          have HC' : Hid (cmpRow xs ys = cmpVal xs[k] ys[k]) := by
            have := HC.out
            rw [drop_cons hlt, drop_cons hlt', cmpRow, if_neg hz] at this
            exact this
          clear HC hz
          go_wp2_with fail
          refine (byValue_any _ _ _ hvx hvy).mono ?_
          rintro e w1 ⟨rfl, hb1⟩
          have H2 := H1.up hb1
          clear H H1 hb1 c0 c1 d0 d1 e0 e1
          go_wp2_with fail
          go_ret
          exact ⟨ret_int HC'.out.symm, H2.below⟩
      · obtain rfl : k = ys.length := by omega
        have HC' : Hid (cmpRow xs ys = 1) := by
          have := HC.out
          rw [drop_cons hlt, List.drop_length, cmpRow] at this
          exact this
        have H1 := H.alloc (.cells #[.int .i64 xs[ys.length].n, .string xs[ys.length].s] 37)
        clear HC
        go_wp2_with fail
        go_ret
        exact ⟨ret_int HC'.out.symm, H1.below⟩
    · obtain rfl : k = xs.length := by omega
      by_cases hlt' : xs.length < ys.length
      · have HC' : Hid (cmpRow xs ys = -1) := by
          have := HC.out
          rw [drop_cons hlt', List.drop_length, cmpRow] at this
          exact this
        clear HC
        go_wp2_with fail
        go_ret
        exact ⟨ret_int HC'.out.symm, H.below⟩
      · have HC' : Hid (cmpRow xs ys = 0) := by
          have := HC.out
          rw [show xs.length = ys.length by omega, List.drop_length, ← show xs.length = ys.length by omega, List.drop_length, cmpRow] at this
          exact this
        clear HC
        go_wp2_with fail
        go_ret
        exact ⟨ret_int HC'.out.symm, H.below⟩
end Go.Proofs.Ytcgickpnckedcaa

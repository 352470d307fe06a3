/- byRow, RowOrder and the reference's l09Order. -/
import Derived.Test.YtcgickpnckedcaaOrder
namespace Go.Proofs.Ytcgickpnckedcaa
open Go.RowKit
set_option linter.unusedVariables false

theorem rowOk_vals {xs : List Val} (h : rowOk xs = true) : ∀ v ∈ xs, valOk v = true := by
  simp only [rowOk, Bool.and_eq_true, Bool.not_eq_true'] at h
  intro v hv
  have := List.any_eq_false.1 h.2 v hv
  simpa [badVal] using this
theorem cmpRow_range : ∀ (a b : List Val), (∀ v ∈ a, valOk v = true) → (∀ v ∈ b, valOk v = true) → -281474976710655 ≤ cmpRow a b ∧ cmpRow a b ≤ 281474976710655
  | [], [], _, _ => by simp [cmpRow]
  | [], _ :: _, _, _ => by simp [cmpRow]
  | _ :: _, [], _, _ => by simp [cmpRow]
  | x :: xs, y :: ys, hx, hy => by
    have ih := cmpRow_range xs ys (fun v hv => hx v (List.mem_cons_of_mem _ hv)) (fun v hv => hy v (List.mem_cons_of_mem _ hv))
    unfold cmpRow
    split
    · exact ih
    · obtain ⟨a1, a2⟩ := valOk_range (hx x (List.mem_cons_self ..))
      obtain ⟨b1, b2⟩ := valOk_range (hy y (List.mem_cons_self ..))
      unfold cmpVal
      have hc : ∀ a b : List UInt8, -1 ≤ Lib.compareBytes a b ∧ Lib.compareBytes a b ≤ 1 := by
        intro a
        induction a with
        | nil => intro b; cases b <;> simp [Lib.compareBytes]
        | cons p a ih =>
          intro b
          cases b with
          | nil => simp [Lib.compareBytes]
          | cons q b => unfold Lib.compareBytes; split; · omega
                        · split
                          · omega
                          · exact ih b
      have := hc x.s.data.toList y.s.data.toList
      split <;> split <;> omega

set_option maxHeartbeats 400000 in
theorem byRow_any (a : Option Addr) (n cap : Nat) (xs : List Val) (bs : List Nat) (b : Option Addr) (m cap' : Nat) (ys : List Val) (bs' : List Nat) (w : World) (h : SliceRep valE w a n cap xs bs) (h' : SliceRep valE w b m cap' ys bs')
    (hx : ∀ v ∈ xs, valOk v = true) (hy : ∀ v ∈ ys, valOk v = true) :
    Calls Try.prog 97 #[.agg #[.slice a n cap], .agg #[.slice b m cap']] w fun e w' => e = .returned (.int .i64 (cmpRow xs ys)) ∧ Below w.heap.size w w' := by
  have H0 := ((Held.start w).box_ #[.slice a n cap] 50).box_ #[.slice b m cap'] 50
  go_enter Try.func97, Try.ntmps97
  go_wp2_with fail
  refine (cmpFunc_any _ _ _ xs _ _ _ _ ys _ _ (h.up H0.below) (h'.up H0.below) hx hy).mono ?_
  rintro e w1 ⟨rfl, hb1⟩
  go_wp2_with fail
  go_ret
  exact ⟨rfl, (H0.up hb1).below⟩

set_option maxHeartbeats 1600000 in
theorem l09Order_any (a : Option Addr) (n cap : Nat) (xs : List Val) (bs : List Nat) (b : Option Addr) (m cap' : Nat) (ys : List Val) (bs' : List Nat) (w : World) (h : SliceRep valE w a n cap xs bs) (h' : SliceRep valE w b m cap' ys bs') :
    Calls Try.prog 110 #[.agg #[.slice a n cap], .agg #[.slice b m cap']] w fun e w' => e = .returned (.int .i64 (ord09 xs ys)) ∧ Below w.heap.size w w' := by
  have hmax := h.max
  have hmax' := h'.max
  obtain rfl := h.1
  obtain rfl := h'.1
  have H0 := ((Held.start w).box_ #[.slice a xs.length cap] 50).box_ #[.slice b ys.length cap'] 50
  have hz : (w.alloc (.cells #[.slice a xs.length cap] 50)).heap.size = w.heap.size + 1 := by simp
  rw [hz] at H0
  clear hz
  go_enter Try.func110, Try.ntmps110
  go_wp2_with fail
  have K0 : Kept w [(⟨w.heap.size, 0, none⟩, .slice a xs.length cap), (⟨w.heap.size + 1, 0, none⟩, .slice b ys.length cap')] _ := (H0.kept.cons (H0.s2.2.2 0)).cons (H0.s2.2.1 0)
  go_loopw [5] (fun i W => ∃ k : Nat, k ≤ xs.length ∧ k ≤ ys.length ∧ i = .int .i64 k ∧ Hid (ord09 xs ys = ord09 (xs.drop k) (ys.drop k)) ∧ Kept w [(⟨w.heap.size, 0, none⟩, .slice a xs.length cap), (⟨w.heap.size + 1, 0, none⟩, .slice b ys.length cap')] W) (fun i _ => xs.length - (intOf i).toNat)
  case atStart => exact ⟨0, Nat.zero_le _, Nat.zero_le _, rfl, rfl, K0⟩
  case round =>
    clear H0 K0
    obtain ⟨k, hk, hk', rfl, HC, H⟩ := hrel
    have HH := H.c2
    by_cases hlt : k < xs.length
    · by_cases hlt' : k < ys.length
      · obtain ⟨g, off, rfl, c0, c1, hs, hn⟩ := (h.up H.1).val hlt
        obtain ⟨g', off', rfl, d0, d1, hs', hn'⟩ := (h'.up H.1).val hlt'
        have i0 : (0 : Int) ≤ (k : Int) := by omega
        have i1 : (k : Int) < (xs.length : Int) := by omega
        have i2 : (k : Int) < (ys.length : Int) := by omega
        have K : Kept w [(⟨w.heap.size, 0, none⟩, .slice (some ⟨g, off, none⟩) xs.length cap), (⟨w.heap.size + 1, 0, none⟩, .slice (some ⟨g', off', none⟩) ys.length cap'), (⟨g, off + k * 2, none⟩, .int .i64 xs[k].n), (⟨g, off + k * 2 + 1, none⟩, .string xs[k].s), (⟨g', off' + k * 2, none⟩, .int .i64 ys[k].n), (⟨g', off' + k * 2 + 1, none⟩, .string ys[k].s)] wr := (((((H.of (L' := []) (fun _ h => by cases h)).cons d1).cons d0).cons c1).cons c0).cons HH.2.2 |>.cons HH.2.1
        have HC1 : Hid (ord09 xs ys = if less09 xs[k] ys[k] then -1 else if less09 ys[k] xs[k] then 1 else ord09 (xs.drop (k + 1)) (ys.drop (k + 1))) := by
          have := HC.out
          rw [drop_cons hlt, drop_cons hlt', ord09] at this
          exact this
        clear HC
        go_wp2_with fail
        clear HH c0 c1 d0 d1 H
        go_region_held3 (fun W => Kept w [(⟨w.heap.size, 0, none⟩, .slice (some ⟨g, off, none⟩) xs.length cap), (⟨w.heap.size + 1, 0, none⟩, .slice (some ⟨g', off', none⟩) ys.length cap'), (⟨g, off + k * 2, none⟩, .int .i64 xs[k].n), (⟨g, off + k * 2 + 1, none⟩, .string xs[k].s), (⟨g', off' + k * 2, none⟩, .int .i64 ys[k].n), (⟨g', off' + k * 2 + 1, none⟩, .string ys[k].s)] W ∧ W.cell? ⟨w.heap.size, 0, none⟩ = some (.slice (some ⟨g, off, none⟩) xs.length cap) ∧ W.cell? ⟨w.heap.size + 1, 0, none⟩ = some (.slice (some ⟨g', off', none⟩) ys.length cap') ∧ W.cell? ⟨g, off + k * 2, none⟩ = some (.int .i64 xs[k].n) ∧ W.cell? ⟨g, off + k * 2 + 1, none⟩ = some (.string xs[k].s) ∧ W.cell? ⟨g', off' + k * 2, none⟩ = some (.int .i64 ys[k].n) ∧ W.cell? ⟨g', off' + k * 2 + 1, none⟩ = some (.string ys[k].s))
          (first | exact Kept.c6 (Kept.up (by assumption) (And.left (by assumption))) | exact K.drew.c6)
          ((go_at_call 130; refine (less09_any xs[k] ys[k] _).mono ?_; rintro e w3 ⟨rfl, hb3⟩))
        rename_i hh
        clear K hb3
        cases hl : less09 xs[k] ys[k]
        · have HC2 : Hid (ord09 xs ys = if less09 ys[k] xs[k] then 1 else ord09 (xs.drop (k + 1)) (ys.drop (k + 1))) := by
            have := HC1.out
            rw [hl] at this
            exact this
          have K := hh.1
          clear HC1 hh
          go_wp2_with fail
          go_region_held3 (fun W => Kept w [(⟨w.heap.size, 0, none⟩, .slice (some ⟨g, off, none⟩) xs.length cap), (⟨w.heap.size + 1, 0, none⟩, .slice (some ⟨g', off', none⟩) ys.length cap'), (⟨g, off + k * 2, none⟩, .int .i64 xs[k].n), (⟨g, off + k * 2 + 1, none⟩, .string xs[k].s), (⟨g', off' + k * 2, none⟩, .int .i64 ys[k].n), (⟨g', off' + k * 2 + 1, none⟩, .string ys[k].s)] W ∧ W.cell? ⟨w.heap.size, 0, none⟩ = some (.slice (some ⟨g, off, none⟩) xs.length cap) ∧ W.cell? ⟨w.heap.size + 1, 0, none⟩ = some (.slice (some ⟨g', off', none⟩) ys.length cap') ∧ W.cell? ⟨g, off + k * 2, none⟩ = some (.int .i64 xs[k].n) ∧ W.cell? ⟨g, off + k * 2 + 1, none⟩ = some (.string xs[k].s) ∧ W.cell? ⟨g', off' + k * 2, none⟩ = some (.int .i64 ys[k].n) ∧ W.cell? ⟨g', off' + k * 2 + 1, none⟩ = some (.string ys[k].s))
            (first | exact Kept.c6 (Kept.up (by assumption) (And.left (by assumption))) | exact K.drew.c6)
            ((go_at_call 130; refine (less09_any ys[k] xs[k] _).mono ?_; rintro e w3 ⟨rfl, hb3⟩))
          rename_i hh
          clear K hb3
          cases hl2 : less09 ys[k] xs[k]
          · have HC3 : Hid (ord09 xs ys = ord09 (xs.drop (k + 1)) (ys.drop (k + 1))) := by
              have := HC2.out
              rw [hl2] at this
              exact this
            have K := hh.1
            clear HC2 hh
            go_wp2_with fail
            go_roundw
            case rel => exact ⟨k + 1, by omega, by omega, by go_num, HC3, K.of (by simp)⟩
            case measure => simp [intOf]; omega
          · have HC3 : Hid (ord09 xs ys = 1) := by
              have := HC2.out
              rw [hl2] at this
              exact this
            have K := hh.1
            clear HC2 hh
            go_wp2_with fail
            go_ret
            exact ⟨ret_int HC3.out.symm, K.1⟩
        · have HC2 : Hid (ord09 xs ys = -1) := by
            have := HC1.out
            rw [hl] at this
            exact this
          have K := hh.1
          clear HC1 hh
          go_wp2_with fail
          go_ret
          exact ⟨ret_int HC2.out.symm, K.1⟩
      · obtain rfl : k = ys.length := by omega
        have HC' : Hid (ord09 xs ys = 1) := by
          have := HC.out
          rw [drop_cons hlt, List.drop_length, ord09] at this
          exact this
        clear HC
        go_wp2_with fail
        go_ret
        exact ⟨ret_int HC'.out.symm, H.1⟩
    · obtain rfl : k = xs.length := by omega
      by_cases hlt' : xs.length < ys.length
      · have HC' : Hid (ord09 xs ys = -1) := by
          have := HC.out
          rw [drop_cons hlt', List.drop_length, ord09] at this
          exact this
        clear HC
        go_wp2_with fail
        go_ret
        exact ⟨ret_int HC'.out.symm, H.1⟩
      · have HC' : Hid (ord09 xs ys = 0) := by
          have := HC.out
          rw [show xs.length = ys.length by omega, List.drop_length, ← show xs.length = ys.length by omega, List.drop_length, ord09] at this
          exact this
        clear HC
        go_wp2_with fail
        go_ret
        exact ⟨ret_int HC'.out.symm, H.1⟩

set_option maxHeartbeats 800000 in
theorem rowOrderS_any (a : Option Addr) (n cap : Nat) (xs : List Val) (bs : List Nat) (b : Option Addr) (m cap' : Nat) (ys : List Val) (bs' : List Nat) (w : World) (h : SliceRep valE w a n cap xs bs) (h' : SliceRep valE w b m cap' ys bs') :
    Calls Try.prog 100 #[.agg #[.slice a n cap], .agg #[.slice b m cap']] w fun e w' => e = .returned (.int .i64 (rowOrder xs ys)) ∧ Below w.heap.size w w' := by
  have H0 := ((Held.start w).box_ #[.slice a n cap] 50).box_ #[.slice b m cap'] 50
  have hz : (w.alloc (.cells #[.slice a n cap] 50)).heap.size = w.heap.size + 1 := by simp
  rw [hz] at H0
  clear hz
  cases ha : rowOk xs
  · have HR := Lib.hid (show rowOrder xs ys = 2 by simp [rowOrder, ha])
    go_enter Try.func100, Try.ntmps100
    go_wp2_with fail
    refine (rowOkS_any _ _ _ xs _ _ (h.up H0.below)).mono ?_
    rintro e w1 ⟨rfl, hb1⟩
    go_wp2_with fail
    go_ret
    exact ⟨ret_int HR.out.symm, (H0.up hb1).below⟩
  · cases hb : rowOk ys
    · have HR := Lib.hid (show rowOrder xs ys = 2 by simp [rowOrder, hb])
      go_enter Try.func100, Try.ntmps100
      go_wp2_with fail
      refine (rowOkS_any _ _ _ xs _ _ (h.up H0.below)).mono ?_
      rintro e w1 ⟨rfl, hb1⟩
      have H1 := (H0.up hb1).s2
      clear H0 hb1
      go_wp2_with fail
      refine (rowOkS_any _ _ _ ys _ _ (h'.up H1.1.below)).mono ?_
      rintro e w2 ⟨rfl, hb2⟩
      go_wp2_with fail
      go_ret
      exact ⟨ret_int HR.out.symm, (H1.1.up hb2).below⟩
    · have HR := Lib.hid (show rowOrder xs ys = ord09 xs ys by simp [rowOrder, ha, hb])
      go_enter Try.func100, Try.ntmps100
      go_wp2_with fail
      refine (rowOkS_any _ _ _ xs _ _ (h.up H0.below)).mono ?_
      rintro e w1 ⟨rfl, hb1⟩
      have H1 := (H0.up hb1).s2
      clear H0 hb1
      go_wp2_with fail
      refine (rowOkS_any _ _ _ ys _ _ (h'.up H1.1.below)).mono ?_
      rintro e w2 ⟨rfl, hb2⟩
      have H2 := (H1.1.up hb2).s2
      clear H1 hb2
      go_wp2_with fail
      refine (l09Order_any _ _ _ xs _ _ _ _ ys _ _ (h.up H2.1.below) (h'.up H2.1.below)).mono ?_
      rintro e w3 ⟨rfl, hb3⟩
      have H3 := (H2.1.up hb3)
      clear H2 hb3
      go_wp2_with fail
      go_ret
      exact ⟨ret_int HR.out.symm, H3.below⟩
end Go.Proofs.Ytcgickpnckedcaa

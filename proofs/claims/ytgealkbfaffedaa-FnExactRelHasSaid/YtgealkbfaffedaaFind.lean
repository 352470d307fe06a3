/- The place of a row in a relation: slices.BinarySearchFunc, find, has. -/
import Derived.Test.YtgealkbfaffedaaCmp
namespace Go.Proofs.Ytgealkbfaffedaa
open Go.RowKit
set_option linter.unusedVariables false
set_option maxRecDepth 100000

set_option maxHeartbeats 4000000 in
theorem binSearch_any (a : Option Addr) (n cap : Nat) (rows : List (List Val)) (bs : List Nat) (b : Option Addr) (m cap' : Nat) (row : List Val) (bs' : List Nat) (w : World) (h : SliceRep rowE w a n cap rows bs) (h' : SliceRep valE w b m cap' row bs')
    (hlen : rows.length ≤ 1048576) (hs : Hid (Sorted rows)) (hr : Hid (∀ v ∈ row, valOk v = true)) :
    Calls Try.prog 96 #[.slice a n cap, .agg #[.slice b m cap'], .func (.func 68) #[] #[]] w fun e w' => e = .returned (.tuple #[.int .i64 (pos rows row), .bool (hasRow rows row)]) ∧ Below w.heap.size w w' := by
  have hmax := h.max
  have hmax' := h'.max
  obtain rfl := h.1
  obtain rfl := h'.1
  have H := ((Held.start w).box_ #[.slice b row.length cap'] 42)
  have H2 := H.s1
  have K : Kept w [(⟨w.heap.size, 0, none⟩, .slice b row.length cap')] _ := ((Kept.at_ H.below).cons (H2.2 0))
  clear H H2
  go_enter Try.func96, Try.ntmps96
  go_wp2_with fail
  go_loopw [9, 10] (fun u v W => ∃ i j : Nat, i ≤ j ∧ j ≤ rows.length ∧ u = .int .i64 i ∧ v = .int .i64 j ∧ Between rows row i j ∧ Kept w [(⟨w.heap.size, 0, none⟩, .slice b row.length cap')] W) (fun u v _ => (intOf v).toNat - (intOf u).toNat)
  case atStart => exact ⟨0, rows.length, Nat.zero_le _, Nat.le_refl _, rfl, rfl, .start, K⟩
  case round =>
    clear K
    obtain ⟨i, j, hij, hj, rfl, rfl, HB, K⟩ := hrel
    by_cases hlt : i < j
    · have i0 : (i : Int) < (j : Int) := by omega
      have hsum : IntKind.i64.wrap ((i : Int) + j) = i + j := IntWalk.i64_in _ (by omega)
      obtain ⟨q, hqd⟩ : ∃ q : Nat, q = (i + j) / 2 := ⟨_, rfl⟩
      have hd : ((i : Int) + j) / 2 = (q : Int) := by omega
      have hq1 : q < rows.length := by omega
      have hiq : i ≤ q ∧ q < j := by omega
      clear hqd
      have q0 : (0 : Int) ≤ (q : Int) := by omega
      have q1 : (q : Int) < (rows.length : Int) := by omega
      obtain ⟨g, off, cs, bk, rfl, hrr, hc, hbk, _⟩ := (h.up K.1).get hq1
      obtain ⟨ra, rn, rc, rb, rfl, f0, hbs⟩ := Row_rep.1 hrr
      obtain rfl := hbs.symm
      have c0 : wr.cell? ⟨g, off + q, none⟩ = some (.slice ra rn rc) := by have := hc 0 _ rfl; rw [show rowE.size = 1 from rfl, Nat.mul_one] at this; exact this
      clear hc
      obtain rfl := f0.1
      have hmaxr := f0.max
      have K1 : Kept w [(⟨g, off + q, none⟩, .slice ra (rows[q]).length rc), (⟨w.heap.size, 0, none⟩, .slice b row.length cap')] _ := K.cons c0
      have g0 := h'.up K.1
      by_cases hcm : cmpRow rows[q] row < 0
      · have HB1 := HB.right hs.out hr.out hq1 hcm
        clear HB
        go_wp2_with fail
        clear c0
        have F0 := K1.in_ (a := ⟨g, off + q, none⟩) (v := .slice ra (rows[q]).length rc) (by simp)
        have F1 := K1.in_ (a := ⟨w.heap.size, 0, none⟩) (v := .slice b row.length cap') (by simp)
        go_quiet_in (first | ((go_at_call 68; exact Calls_in (byRow_any _ _ _ rows[q] _ _ _ _ row _ _ (f0.up pq.below) (g0.up pq.below) (hs.out.1 q hq1) hr.out))))
        clear F0 F1
        replace K := K.up hq
        go_wp2_with fail
        go_roundw
        case rel => exact ⟨q + 1, j, by omega, hj, by go_num, rfl, HB1, K⟩
        case measure => simp [intOf]; omega
      · have HB1 := HB.left hs.out hr.out hq1 hcm
        clear HB
        go_wp2_with fail
        clear c0
        have F0 := K1.in_ (a := ⟨g, off + q, none⟩) (v := .slice ra (rows[q]).length rc) (by simp)
        have F1 := K1.in_ (a := ⟨w.heap.size, 0, none⟩) (v := .slice b row.length cap') (by simp)
        go_quiet_in (first | ((go_at_call 68; exact Calls_in (byRow_any _ _ _ rows[q] _ _ _ _ row _ _ (f0.up pq.below) (g0.up pq.below) (hs.out.1 q hq1) hr.out))))
        clear F0 F1
        replace K := K.up hq
        go_wp2_with fail
        go_roundw
        case rel => exact ⟨i, q, by omega, by omega, rfl, rfl, HB1, K⟩
        case measure => simp [intOf]; omega
    · obtain rfl : i = j := by omega
      have HP := Lib.hid (HB.pos hj)
      by_cases hl : i < rows.length
      · have HR := Lib.hid (HB.has hs.out hr.out hl)
        clear HB
        have i0 : (0 : Int) ≤ (i : Int) := by omega
        have i1 : (i : Int) < (rows.length : Int) := by omega
        obtain ⟨g, off, cs, bk, rfl, hrr, hc, hbk, _⟩ := (h.up K.1).get hl
        obtain ⟨ra, rn, rc, rb, rfl, f0, hbs⟩ := Row_rep.1 hrr
        obtain rfl := hbs.symm
        have c0 : wr.cell? ⟨g, off + i, none⟩ = some (.slice ra rn rc) := by have := hc 0 _ rfl; rw [show rowE.size = 1 from rfl, Nat.mul_one] at this; exact this
        clear hc
        obtain rfl := f0.1
        have hmaxr := f0.max
        have K1 : Kept w [(⟨g, off + i, none⟩, .slice ra (rows[i]).length rc), (⟨w.heap.size, 0, none⟩, .slice b row.length cap')] _ := K.cons c0
        have g0 := h'.up K.1
        have hvi := Lib.hid (hs.out.1 i hl)
        cases hcz : (cmpRow rows[i] row == 0)
        · rw [hcz] at HR
          go_wp2_with fail
          clear c0
          have F0 := K1.in_ (a := ⟨g, off + i, none⟩) (v := .slice ra (rows[i]).length rc) (by simp)
          have F1 := K1.in_ (a := ⟨w.heap.size, 0, none⟩) (v := .slice b row.length cap') (by simp)
          go_quiet_in (first | ((go_at_call 68; exact Calls_in (byRow_any _ _ _ rows[i] _ _ _ _ row _ _ (f0.up pq.below) (g0.up pq.below) hvi.out hr.out))))
          clear F0 F1
          replace K := K.up hq
          go_wp2_with fail
          go_ret2
          exact ⟨by rw [HP.out, HR.out]; rfl, K.1⟩
        · rw [hcz] at HR
          go_wp2_with fail
          clear c0
          have F0 := K1.in_ (a := ⟨g, off + i, none⟩) (v := .slice ra (rows[i]).length rc) (by simp)
          have F1 := K1.in_ (a := ⟨w.heap.size, 0, none⟩) (v := .slice b row.length cap') (by simp)
          go_quiet_in (first | ((go_at_call 68; exact Calls_in (byRow_any _ _ _ rows[i] _ _ _ _ row _ _ (f0.up pq.below) (g0.up pq.below) hvi.out hr.out))))
          clear F0 F1
          replace K := K.up hq
          go_wp2_with fail
          go_ret2
          exact ⟨by rw [HP.out, HR.out]; rfl, K.1⟩
      · obtain rfl : i = rows.length := by omega
        have HR := Lib.hid HB.hasNot
        clear HB
        have F1 := K.in_ (a := ⟨w.heap.size, 0, none⟩) (v := .slice b row.length cap') (by simp)
        go_wp2_with fail
        go_quiet_in (fail)
        clear F1
        replace K := K.up hq
        go_wp2_with fail
        go_ret2
        exact ⟨by rw [HP.out, HR.out]; rfl, K.1⟩
end Go.Proofs.Ytgealkbfaffedaa

/- RelOk of the reference. (printed by mkrelok2.py) -/
import Derived.Test.YtgealkbfaffedaaRelOk
namespace Go.Proofs.Ytgealkbfaffedaa
open Go.RowKit
set_option linter.unusedVariables false
set_option maxRecDepth 100000

theorem relOk_out {x : Relt} (h : x.arity < 0 ∨ 6 < x.arity ∨ 300 < (x.rows.length : Int)) : relOk x = false := by
  cases h' : relOk x
  · rfl
  · simp only [relOk, Bool.and_eq_true, decide_eq_true_eq] at h'
    omega
theorem relOk_in {x : Relt} (h1 : 0 ≤ x.arity) (h2 : x.arity ≤ 6) (h3 : (x.rows.length : Int) ≤ 300) : relOk x = relRows x.rows x.arity := by
  have a : decide (0 ≤ x.arity ∧ x.arity ≤ 6) = true := by simp; omega
  have b : decide (x.rows.length ≤ 300) = true := by simp; omega
  rw [relOk, a, b]; simp
theorem rowOrder_lt {x y : List Val} (hx : rowOk x = true) (hy : rowOk y = true) (h : cmpRow x y < 0) : (rowOrder x y != -1) = false := by
  have e : rowOrder x y = -1 := by simp only [rowOrder, hx, hy, ord09_eq]; simp; omega
  rw [e]; rfl
theorem rowOrder_ge {x y : List Val} (hx : rowOk x = true) (hy : rowOk y = true) (h : ¬ cmpRow x y < 0) : (rowOrder x y != -1) = true := by
  have e : rowOrder x y ≠ -1 := by simp only [rowOrder, hx, hy, ord09_eq]; simp; omega
  simpa [bne] using e

set_option maxHeartbeats 4000000 in
theorem relOkS_any (a : Option Addr) (n cap : Nat) (x : Relt) (bs : List Nat) (w : World) (har : (Lit.int .i64 x.arity).wf = true) (h : SliceRep rowE w a n cap x.rows bs) :
    Calls Try.prog 41 #[.agg #[.int .i64 x.arity, .slice a n cap]] w fun e w' => e = .returned (.bool (relOk x)) ∧ Below w.heap.size w w' := by
  have hmax := h.max
  obtain rfl := h.1
  have H := ((Held.start w).box_ #[.int .i64 x.arity, .slice a x.rows.length cap] 60)
  have H2 := H.s1
  have K : Kept w [(⟨w.heap.size, 0, none⟩, .int .i64 x.arity), (⟨w.heap.size, 1, none⟩, .slice a x.rows.length cap)] _ := ((Kept.at_ H.below).cons (H2.2 1)).cons (H2.2 0)
  clear H H2
  go_enter Try.func41, Try.ntmps41
  by_cases h1 : x.arity < 0
  · go_wp2_with fail
    go_ret
    exact ⟨ret_bool (relOk_out (.inl h1)).symm, K.1⟩
  by_cases h2 : 6 < x.arity
  · go_wp2_with fail
    go_ret
    exact ⟨ret_bool (relOk_out (.inr (.inl h2))).symm, K.1⟩
  by_cases h3 : 300 < (x.rows.length : Int)
  · go_wp2_with fail
    go_ret
    exact ⟨ret_bool (relOk_out (.inr (.inr h3))).symm, K.1⟩
  go_wp2_with fail
  have HI := Lib.hid (relOk_in (x := x) (by omega) (by omega) (by omega))
  clear h1 h2 h3
  go_loopw [21] (fun i W => ∃ (k : Nat), k ≤ x.rows.length ∧ i = .int .i64 k ∧ GoodTo x.rows x.arity k ∧ Kept w [(⟨w.heap.size, 0, none⟩, .int .i64 x.arity), (⟨w.heap.size, 1, none⟩, .slice a x.rows.length cap)] W) (fun i _ => x.rows.length - (intOf i).toNat)
  case atStart => exact ⟨0, Nat.zero_le _, rfl, .zero, K⟩
  case round =>
    clear K
    obtain ⟨k, hk, rfl, hgood, K⟩ := hrel
    by_cases hlt : k < x.rows.length
    · obtain ⟨g, off, cs, bk, rfl, hr, hc, hbk, _⟩ := (h.up K.1).get hlt
      obtain ⟨ra, rn, rc, rb, rfl, f0, hbs⟩ := Row_rep.1 hr
      obtain rfl := hbs.symm
      have c0 : wr.cell? ⟨g, off + k, none⟩ = some (.slice ra rn rc) := by have := hc 0 _ rfl; rw [show rowE.size = 1 from rfl, Nat.mul_one] at this; exact this
      clear hc
      obtain rfl := f0.1
      have hmaxr := f0.max
      have kc := K.c2.2
      have i0 : (0 : Int) ≤ (k : Int) := by omega
      have i1 : (k : Int) < (x.rows.length : Int) := by omega
      have g0 := f0
      cases hln : ((x.rows[k].length : Int) == x.arity)
      · have HR := Lib.hid (show relOk x = false by
          rw [HI.out]
          exact relRows_bad hlt (by cases k <;> simp [rowAt, hln]))
        have hne : ((x.rows[k].length : Int) != x.arity) = true := by rw [bne, hln]; rfl
        clear hgood hln
        go_wp2_with fail
        have K1 : Kept wr [(⟨w.heap.size, 0, none⟩, .int .i64 x.arity), (⟨w.heap.size, 1, none⟩, .slice (some ⟨g, off, none⟩) x.rows.length cap), (⟨g, off + k, none⟩, .slice ra (x.rows[k]).length rc)] wr := ((((Kept.start wr)).cons c0).cons kc.2).cons kc.1
        clear c0 kc
        have F0 := K1.in_ (a := ⟨w.heap.size, 0, none⟩) (v := .int .i64 x.arity) (by simp)
        have F1 := K1.in_ (a := ⟨w.heap.size, 1, none⟩) (v := .slice (some ⟨g, off, none⟩) x.rows.length cap) (by simp)
        have F2 := K1.in_ (a := ⟨g, off + k, none⟩) (v := .slice ra (x.rows[k]).length rc) (by simp)
        go_quiet_in (first | (go_at_call 31; exact Calls_in (rowOkS_any _ _ _ x.rows[k] _ _ (g0.up pq.below))))
        clear F0 F1 F2
        have K2 := ((K1.up hq).of (L' := [(⟨w.heap.size, 0, none⟩, .int .i64 x.arity), (⟨w.heap.size, 1, none⟩, .slice (some ⟨g, off, none⟩) x.rows.length cap)]) (by simp))
        have K2 : Kept w [(⟨w.heap.size, 0, none⟩, .int .i64 x.arity), (⟨w.heap.size, 1, none⟩, .slice (some ⟨g, off, none⟩) x.rows.length cap)] wq := ⟨below_up K.1 K2.1 (Nat.le_refl _), K2.2⟩
        go_wp2_with fail
        go_ret
        exact ⟨ret_bool HR.out.symm, K2.1⟩
      have hne : ((x.rows[k].length : Int) != x.arity) = false := by rw [bne, hln]; rfl
      cases hro : rowOk x.rows[k]
      · have HR := Lib.hid (show relOk x = false by
          rw [HI.out]
          exact relRows_bad hlt (by cases k <;> simp [rowAt, hro]))
        clear hgood hln
        go_wp2_with fail
        have K1 : Kept wr [(⟨w.heap.size, 0, none⟩, .int .i64 x.arity), (⟨w.heap.size, 1, none⟩, .slice (some ⟨g, off, none⟩) x.rows.length cap), (⟨g, off + k, none⟩, .slice ra (x.rows[k]).length rc)] wr := ((((Kept.start wr)).cons c0).cons kc.2).cons kc.1
        clear c0 kc
        have F0 := K1.in_ (a := ⟨w.heap.size, 0, none⟩) (v := .int .i64 x.arity) (by simp)
        have F1 := K1.in_ (a := ⟨w.heap.size, 1, none⟩) (v := .slice (some ⟨g, off, none⟩) x.rows.length cap) (by simp)
        have F2 := K1.in_ (a := ⟨g, off + k, none⟩) (v := .slice ra (x.rows[k]).length rc) (by simp)
        go_quiet_in (first | (go_at_call 31; exact Calls_in (rowOkS_any _ _ _ x.rows[k] _ _ (g0.up pq.below))))
        clear F0 F1 F2
        have K2 := ((K1.up hq).of (L' := [(⟨w.heap.size, 0, none⟩, .int .i64 x.arity), (⟨w.heap.size, 1, none⟩, .slice (some ⟨g, off, none⟩) x.rows.length cap)]) (by simp))
        have K2 : Kept w [(⟨w.heap.size, 0, none⟩, .int .i64 x.arity), (⟨w.heap.size, 1, none⟩, .slice (some ⟨g, off, none⟩) x.rows.length cap)] wq := ⟨below_up K.1 K2.1 (Nat.le_refl _), K2.2⟩
        go_wp2_with fail
        go_ret
        exact ⟨ret_bool HR.out.symm, K2.1⟩
      cases k with
      | zero =>
        have hg1 := hgood.succ hlt (by simp [rowAt, hro, hln])
        have c00 : wr.cell? ⟨g, off, none⟩ = some (.slice ra (x.rows[0]).length rc) := c0
        have i2 : (0 : Int) < (x.rows.length : Int) := by omega
        have i3 : 0 < x.rows.length := by omega
        clear hgood hln
        go_wp2_with fail
        have K1 : Kept wr [(⟨w.heap.size, 0, none⟩, .int .i64 x.arity), (⟨w.heap.size, 1, none⟩, .slice (some ⟨g, off, none⟩) x.rows.length cap), (⟨g, off, none⟩, .slice ra (x.rows[0]).length rc)] wr := ((((Kept.start wr)).cons c00).cons kc.2).cons kc.1
        clear c0 c00 kc
        have F0 := K1.in_ (a := ⟨w.heap.size, 0, none⟩) (v := .int .i64 x.arity) (by simp)
        have F1 := K1.in_ (a := ⟨w.heap.size, 1, none⟩) (v := .slice (some ⟨g, off, none⟩) x.rows.length cap) (by simp)
        have F2 := K1.in_ (a := ⟨g, off, none⟩) (v := .slice ra (x.rows[0]).length rc) (by simp)
        go_quiet_in (first | (go_at_call 31; exact Calls_in (rowOkS_any _ _ _ x.rows[0] _ _ (g0.up pq.below))))
        clear F0 F1 F2
        have KQ := K1.up hq
        obtain ⟨w6, hw6⟩ : ∃ v, v = wq := ⟨_, rfl⟩
        subst hw6
        clear hq
        go_wp2_with fail
        have F0 := KQ.in_ (a := ⟨w.heap.size, 0, none⟩) (v := .int .i64 x.arity) (by simp)
        have F1 := KQ.in_ (a := ⟨w.heap.size, 1, none⟩) (v := .slice (some ⟨g, off, none⟩) x.rows.length cap) (by simp)
        have F2 := KQ.in_ (a := ⟨g, off, none⟩) (v := .slice ra (x.rows[0]).length rc) (by simp)
        go_quiet_in (fail)
        clear F0 F1 F2
        have K2 := ((KQ.up hq).of (L' := [(⟨w.heap.size, 0, none⟩, .int .i64 x.arity), (⟨w.heap.size, 1, none⟩, .slice (some ⟨g, off, none⟩) x.rows.length cap)]) (by simp))
        have K2 : Kept w [(⟨w.heap.size, 0, none⟩, .int .i64 x.arity), (⟨w.heap.size, 1, none⟩, .slice (some ⟨g, off, none⟩) x.rows.length cap)] wq := ⟨below_up K.1 K2.1 (Nat.le_refl _), K2.2⟩
        go_wp2_with fail
        go_roundw
        case rel => exact ⟨1, by omega, rfl, hg1, K2⟩
        case measure => simp [intOf]; omega
      | succ j =>
        have hltj : j < x.rows.length := by omega
        obtain ⟨g', off', csj, bkj, ha', hrj, hcj, hbkj, _⟩ := (h.up K.1).get hltj
        simp only [Option.some.injEq, Addr.mk.injEq, and_true] at ha'
        obtain ⟨rfl, rfl⟩ := ha'
        obtain ⟨ja, jn, jc, jb, rfl, fj, hbs⟩ := Row_rep.1 hrj
        obtain rfl := hbs.symm
        have c1 : wr.cell? ⟨g, off + j, none⟩ = some (.slice ja jn jc) := by have := hcj 0 _ rfl; rw [show rowE.size = 1 from rfl, Nat.mul_one] at this; exact this
        clear hcj
        have hvj := Lib.hid (hgood.row hltj (by omega))
        have hvk := Lib.hid hro
        have hw : IntKind.i64.wrap (j : Int) = j := IntWalk.i64_in _ (by omega)
        have j0 : (0 : Int) ≤ (j : Int) := by omega
        have j1 : (j : Int) < (x.rows.length : Int) := by omega
        have j2 : (0 : Int) < (j : Int) + 1 := by omega
        have j3 : (0 : Int) ≤ (j : Int) + 1 := by omega
        have j4 : (j : Int) + 1 < (x.rows.length : Int) := by omega
        have j5 : ((j : Int) + 1).toNat = j + 1 := by omega
        by_cases hcm : cmpRow x.rows[j] x.rows[j + 1] < 0
        · have hg1 := hgood.succ hlt (by simp [rowAt, hro, hln, hcm])
          have hrr := rowOrder_lt hvj.out hvk.out hcm
          clear hgood hln
          go_wp2_with fail
          have K1 : Kept wr [(⟨w.heap.size, 0, none⟩, .int .i64 x.arity), (⟨w.heap.size, 1, none⟩, .slice (some ⟨g, off, none⟩) x.rows.length cap), (⟨g, off + (j + 1), none⟩, .slice ra (x.rows[j + 1]).length rc), (⟨g, off + j, none⟩, .slice ja jn jc)] wr := (((((Kept.start wr).cons c1).cons c0).cons kc.2).cons kc.1)
          clear c0 c1 kc
          have F0 := K1.in_ (a := ⟨w.heap.size, 0, none⟩) (v := .int .i64 x.arity) (by simp)
          have F1 := K1.in_ (a := ⟨w.heap.size, 1, none⟩) (v := .slice (some ⟨g, off, none⟩) x.rows.length cap) (by simp)
          have F2 := K1.in_ (a := ⟨g, off + (j + 1), none⟩) (v := .slice ra (x.rows[j + 1]).length rc) (by simp)
          have F3 := K1.in_ (a := ⟨g, off + j, none⟩) (v := .slice ja jn jc) (by simp)
          go_quiet_in (first | (go_at_call 31; exact Calls_in (rowOkS_any _ _ _ x.rows[j + 1] _ _ (g0.up pq.below))))
          clear F0 F1 F2 F3
          have KQ := K1.up hq
          obtain ⟨w6, hw6⟩ : ∃ v, v = wq := ⟨_, rfl⟩
          subst hw6
          clear hq
          have g0 := f0.up KQ.1
          have gj := fj.up KQ.1
          go_wp2_with fail
          have F0 := KQ.in_ (a := ⟨w.heap.size, 0, none⟩) (v := .int .i64 x.arity) (by simp)
          have F1 := KQ.in_ (a := ⟨w.heap.size, 1, none⟩) (v := .slice (some ⟨g, off, none⟩) x.rows.length cap) (by simp)
          have F2 := KQ.in_ (a := ⟨g, off + (j + 1), none⟩) (v := .slice ra (x.rows[j + 1]).length rc) (by simp)
          have F3 := KQ.in_ (a := ⟨g, off + j, none⟩) (v := .slice ja jn jc) (by simp)
          go_quiet_in (first | (go_at_call 36; exact Calls_in (rowOrderS_any _ _ _ x.rows[j] _ _ _ _ x.rows[j + 1] _ _ (gj.up pq.below) (g0.up pq.below))))
          clear F0 F1 F2 F3
          have K2 := ((KQ.up hq).of (L' := [(⟨w.heap.size, 0, none⟩, .int .i64 x.arity), (⟨w.heap.size, 1, none⟩, .slice (some ⟨g, off, none⟩) x.rows.length cap)]) (by simp))
          have K2 : Kept w [(⟨w.heap.size, 0, none⟩, .int .i64 x.arity), (⟨w.heap.size, 1, none⟩, .slice (some ⟨g, off, none⟩) x.rows.length cap)] wq := ⟨below_up K.1 K2.1 (Nat.le_refl _), K2.2⟩
          go_wp2_with fail
          go_roundw
          case rel => exact ⟨j + 2, by omega, by go_num, hg1, K2⟩
          case measure => simp [intOf]; omega
        · have HR := Lib.hid (show relOk x = false by
            rw [HI.out]
            exact relRows_bad hlt (by simp [rowAt]; intro _ _; omega))
          have hrr := rowOrder_ge hvj.out hvk.out hcm
          clear hgood hln
          go_wp2_with fail
          have K1 : Kept wr [(⟨w.heap.size, 0, none⟩, .int .i64 x.arity), (⟨w.heap.size, 1, none⟩, .slice (some ⟨g, off, none⟩) x.rows.length cap), (⟨g, off + (j + 1), none⟩, .slice ra (x.rows[j + 1]).length rc), (⟨g, off + j, none⟩, .slice ja jn jc)] wr := (((((Kept.start wr).cons c1).cons c0).cons kc.2).cons kc.1)
          clear c0 c1 kc
          have F0 := K1.in_ (a := ⟨w.heap.size, 0, none⟩) (v := .int .i64 x.arity) (by simp)
          have F1 := K1.in_ (a := ⟨w.heap.size, 1, none⟩) (v := .slice (some ⟨g, off, none⟩) x.rows.length cap) (by simp)
          have F2 := K1.in_ (a := ⟨g, off + (j + 1), none⟩) (v := .slice ra (x.rows[j + 1]).length rc) (by simp)
          have F3 := K1.in_ (a := ⟨g, off + j, none⟩) (v := .slice ja jn jc) (by simp)
          go_quiet_in (first | (go_at_call 31; exact Calls_in (rowOkS_any _ _ _ x.rows[j + 1] _ _ (g0.up pq.below))))
          clear F0 F1 F2 F3
          have KQ := K1.up hq
          obtain ⟨w6, hw6⟩ : ∃ v, v = wq := ⟨_, rfl⟩
          subst hw6
          clear hq
          have g0 := f0.up KQ.1
          have gj := fj.up KQ.1
          go_wp2_with fail
          have F0 := KQ.in_ (a := ⟨w.heap.size, 0, none⟩) (v := .int .i64 x.arity) (by simp)
          have F1 := KQ.in_ (a := ⟨w.heap.size, 1, none⟩) (v := .slice (some ⟨g, off, none⟩) x.rows.length cap) (by simp)
          have F2 := KQ.in_ (a := ⟨g, off + (j + 1), none⟩) (v := .slice ra (x.rows[j + 1]).length rc) (by simp)
          have F3 := KQ.in_ (a := ⟨g, off + j, none⟩) (v := .slice ja jn jc) (by simp)
          go_quiet_in (first | (go_at_call 36; exact Calls_in (rowOrderS_any _ _ _ x.rows[j] _ _ _ _ x.rows[j + 1] _ _ (gj.up pq.below) (g0.up pq.below))))
          clear F0 F1 F2 F3
          have K2 := ((KQ.up hq).of (L' := [(⟨w.heap.size, 0, none⟩, .int .i64 x.arity), (⟨w.heap.size, 1, none⟩, .slice (some ⟨g, off, none⟩) x.rows.length cap)]) (by simp))
          have K2 : Kept w [(⟨w.heap.size, 0, none⟩, .int .i64 x.arity), (⟨w.heap.size, 1, none⟩, .slice (some ⟨g, off, none⟩) x.rows.length cap)] wq := ⟨below_up K.1 K2.1 (Nat.le_refl _), K2.2⟩
          go_wp2_with fail
          go_ret
          exact ⟨ret_bool HR.out.symm, K2.1⟩
    · obtain rfl : k = x.rows.length := by omega
      have HA := Lib.hid hgood.all
      clear hgood
      have HR := Lib.hid (show relOk x = true by rw [HI.out, HA.out])
      have kc := K.c2.2
      go_wp2_with fail
      go_ret
      exact ⟨ret_bool HR.out.symm, K.1⟩
end Go.Proofs.Ytgealkbfaffedaa

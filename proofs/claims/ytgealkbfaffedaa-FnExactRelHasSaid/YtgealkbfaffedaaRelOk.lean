/- RelOk of the program and of the reference. -/
import Derived.Test.YtgealkbfaffedaaGenB
import Derived.Test.YtgealkbfaffedaaWalkRows
import Derived.Test.YtgealkbfaffedaaIn
namespace Go.Proofs.Ytgealkbfaffedaa
open Go.RowKit
set_option linter.unusedVariables false
set_option maxRecDepth 100000

def rowAt (rows : List (List Val)) (ar : Int) : (k : Nat) → k < rows.length → Bool
  | 0, hk => rowOk rows[0] && ((rows[0].length : Int) == ar)
  | j + 1, hk => rowOk rows[j + 1] && ((rows[j + 1].length : Int) == ar) && decide (cmpRow rows[j] rows[j + 1] < 0)
def GoodTo (rows : List (List Val)) (ar : Int) (k : Nat) : Prop := ∀ j (h : j < rows.length), j < k → rowAt rows ar j h = true
theorem GoodTo.zero {rows : List (List Val)} {ar : Int} : GoodTo rows ar 0 := fun _ _ h => absurd h (by omega)
theorem GoodTo.succ {rows : List (List Val)} {ar : Int} {k : Nat} (h : GoodTo rows ar k) (hk : k < rows.length) (hp : rowAt rows ar k hk = true) : GoodTo rows ar (k + 1) := fun j hj hjk => by
  rcases Nat.lt_or_ge j k with h1 | h1
  · exact h j hj h1
  · obtain rfl : j = k := by omega
    exact hp
def relRows (rows : List (List Val)) (ar : Int) : Bool := (List.range rows.length).all fun k => if h : k < rows.length then rowAt rows ar k h else true
theorem GoodTo.all {rows : List (List Val)} {ar : Int} (h : GoodTo rows ar rows.length) : relRows rows ar = true := by
  unfold relRows
  rw [List.all_eq_true]
  intro k hk
  have hk' : k < rows.length := by simpa using hk
  rw [dif_pos hk']
  exact h k hk' hk'
theorem relRows_good {rows : List (List Val)} {ar : Int} (h : relRows rows ar = true) : GoodTo rows ar rows.length := by
  intro j hj _
  unfold relRows at h
  rw [List.all_eq_true] at h
  have := h j (by simpa using hj)
  rwa [dif_pos hj] at this
theorem relRows_bad {rows : List (List Val)} {ar : Int} {k : Nat} (hk : k < rows.length) (hp : rowAt rows ar k hk = false) : relRows rows ar = false := by
  cases h : relRows rows ar
  · rfl
  · have := relRows_good h k hk hk
    rw [hp] at this; cases this
theorem GoodTo.row {rows : List (List Val)} {ar : Int} {k j : Nat} (h : GoodTo rows ar k) (hj : j < rows.length) (hjk : j < k) : rowOk rows[j] = true := by
  have := h j hj hjk
  cases j with
  | zero => simp only [rowAt, Bool.and_eq_true] at this; exact this.1
  | succ j => simp only [rowAt, Bool.and_eq_true] at this; exact this.1.1
def relOk (r : Relt) : Bool := relRows r.rows r.arity && (decide (0 ≤ r.arity ∧ r.arity ≤ 6) && decide (r.rows.length ≤ 300))

def upToB (n m : Int) : Bool := decide (0 ≤ n ∧ n ≤ m)
theorem upTo_any (n m : Int) (w : World) :
    Calls Try.prog 72 #[.int .i64 n, .int .i64 m] w fun e w' => e = .returned (.bool (upToB n m)) ∧ w = w' := by
  go_enter Try.func72, Try.ntmps72
  go_wp2
  all_goals
    go_ret
    exact ⟨ret_bool (by simp [upToB, *]; try omega), rfl⟩

set_option maxHeartbeats 4000000 in
theorem relOkI_any (a : Option Addr) (n cap : Nat) (x : Relt) (bs : List Nat) (w : World) (har : (Lit.int .i64 x.arity).wf = true) (h : SliceRep rowE w a n cap x.rows bs) :
    Calls Try.prog 43 #[.agg #[.int .i64 x.arity, .slice a n cap]] w fun e w' => e = .returned (.bool (relOk x)) ∧ Below w.heap.size w w' := by
  have hmax := h.max
  obtain rfl := h.1
  have H := ((Held.start w).box_ #[.int .i64 x.arity, .slice a x.rows.length cap] 60)
  have H2 := H.s1
  have K : Kept w [(⟨w.heap.size, 0, none⟩, .int .i64 x.arity), (⟨w.heap.size, 1, none⟩, .slice a x.rows.length cap)] _ := ((Kept.at_ H.below).cons (H2.2 1)).cons (H2.2 0)
  clear H H2
  go_enter Try.func43, Try.ntmps43
  go_wp2_with fail
  go_loopw [8] (fun i W => ∃ (k : Nat), k ≤ x.rows.length ∧ i = .int .i64 k ∧ GoodTo x.rows x.arity k ∧ Kept w [(⟨w.heap.size, 0, none⟩, .int .i64 x.arity), (⟨w.heap.size, 1, none⟩, .slice a x.rows.length cap)] W) (fun i _ => x.rows.length - (intOf i).toNat)
  case atStart => exact ⟨0, Nat.zero_le _, rfl, .zero, K⟩
  case round =>
    clear K
    obtain ⟨k, hk, rfl, hgood, K⟩ := hrel
    by_cases hlt : k < x.rows.length
    · obtain ⟨g, off, cs, bk, rfl, hr, hc, hbk, _⟩ := (h.up K.1).get hlt
      obtain ⟨ra, rn, rc, rb, rfl, f0, hbs⟩ := Row_rep.1 hr
      obtain rfl := hbs.symm
      have c0 : wr.cell? ⟨g, off + k, none⟩ = some (.slice ra rn rc) := by have := hc 0 _ rfl; rw [show rowE.size = 1 from rfl, Nat.mul_one] at this; exact this
      clear hc
      obtain rfl := f0.1
      have hmaxr := f0.max
      have Bx := Box.new wr #[.slice ra (x.rows[k]).length rc] 42
      have hal := (Below.refl wr.heap.size wr).alloc (Nat.le_refl _) (.cells #[.slice ra (x.rows[k]).length rc] 42)
      have kc := K.c2.2
      have K1 : Kept wr [(⟨wr.heap.size, 0, none⟩, .slice ra (x.rows[k]).length rc), (⟨w.heap.size, 0, none⟩, .int .i64 x.arity), (⟨w.heap.size, 1, none⟩, .slice (some ⟨g, off, none⟩) x.rows.length cap)] _ := ((((Kept.start wr).cons kc.2).cons kc.1).up hal).cons (Bx.cell 0)
      have i0 : (0 : Int) ≤ (k : Int) := by omega
      have i1 : (k : Int) < (x.rows.length : Int) := by omega
      cases hro : rowOk x.rows[k]
      · have HR := Lib.hid (show relOk x = false by
          have hb : rowAt x.rows x.arity k hlt = false := by cases k <;> simp [rowAt, hro]
          simp [relOk, relRows_bad hlt hb])
        clear hgood
        go_wp2_with fail
        clear c0 kc Bx hal
        have F0 := K1.in_ (a := ⟨wr.heap.size, 0, none⟩) (v := .slice ra (x.rows[k]).length rc) (by simp)
        have F1 := K1.in_ (a := ⟨w.heap.size, 0, none⟩) (v := .int .i64 x.arity) (by simp)
        have F2 := K1.in_ (a := ⟨w.heap.size, 1, none⟩) (v := .slice (some ⟨g, off, none⟩) x.rows.length cap) (by simp)
        have g0 := f0.up K1.1

        go_quiet_in (first | (go_at_call 33; exact Calls_in (rowOkI_any _ _ _ x.rows[k] _ _ (g0.up pq.below))))
        have K2 := ((K1.up hq).of (L' := [(⟨w.heap.size, 0, none⟩, .int .i64 x.arity), (⟨w.heap.size, 1, none⟩, .slice (some ⟨g, off, none⟩) x.rows.length cap)]) (by simp))
        have K2 : Kept w [(⟨w.heap.size, 0, none⟩, .int .i64 x.arity), (⟨w.heap.size, 1, none⟩, .slice (some ⟨g, off, none⟩) x.rows.length cap)] wq := ⟨below_up K.1 K2.1 (Nat.le_refl _), K2.2⟩
        clear F0 F1 F2 hq
        go_wp2_with fail
        go_ret
        exact ⟨ret_bool HR.out.symm, K2.1⟩
      · cases hln : ((x.rows[k].length : Int) == x.arity)
        · have HR := Lib.hid (show relOk x = false by
            have hb : rowAt x.rows x.arity k hlt = false := by cases k <;> simp [rowAt, hln]
            simp [relOk, relRows_bad hlt hb])
          have hne : ((x.rows[k].length : Int) != x.arity) = true := by rw [bne, hln]; rfl
          clear hgood hln
          go_wp2_with fail
          clear c0 kc Bx hal
          have F0 := K1.in_ (a := ⟨wr.heap.size, 0, none⟩) (v := .slice ra (x.rows[k]).length rc) (by simp)
          have F1 := K1.in_ (a := ⟨w.heap.size, 0, none⟩) (v := .int .i64 x.arity) (by simp)
          have F2 := K1.in_ (a := ⟨w.heap.size, 1, none⟩) (v := .slice (some ⟨g, off, none⟩) x.rows.length cap) (by simp)
          have g0 := f0.up K1.1

          go_quiet_in (first | (go_at_call 33; exact Calls_in (rowOkI_any _ _ _ x.rows[k] _ _ (g0.up pq.below))))
          have K2 := ((K1.up hq).of (L' := [(⟨w.heap.size, 0, none⟩, .int .i64 x.arity), (⟨w.heap.size, 1, none⟩, .slice (some ⟨g, off, none⟩) x.rows.length cap)]) (by simp))
          have K2 : Kept w [(⟨w.heap.size, 0, none⟩, .int .i64 x.arity), (⟨w.heap.size, 1, none⟩, .slice (some ⟨g, off, none⟩) x.rows.length cap)] wq := ⟨below_up K.1 K2.1 (Nat.le_refl _), K2.2⟩
          clear F0 F1 F2 hq
          go_wp2_with fail
          go_ret
          exact ⟨ret_bool HR.out.symm, K2.1⟩
        · have hne : ((x.rows[k].length : Int) != x.arity) = false := by rw [bne, hln]; rfl
          cases k with
          | zero =>
            have hg1 := hgood.succ hlt (by simp [rowAt, hro, hln])
            have c00 : wr.cell? ⟨g, off, none⟩ = some (.slice ra (x.rows[0]).length rc) := c0
            have i2 : (0 : Int) < (x.rows.length : Int) := by omega
            have i3 : 0 < x.rows.length := by omega
            clear hgood hln
            go_wp2_with fail
            clear c0 c00 kc Bx hal
            have F0 := K1.in_ (a := ⟨wr.heap.size, 0, none⟩) (v := .slice ra (x.rows[0]).length rc) (by simp)
            have F1 := K1.in_ (a := ⟨w.heap.size, 0, none⟩) (v := .int .i64 x.arity) (by simp)
            have F2 := K1.in_ (a := ⟨w.heap.size, 1, none⟩) (v := .slice (some ⟨g, off, none⟩) x.rows.length cap) (by simp)
            have g0 := f0.up K1.1

            go_quiet_in (first | (go_at_call 33; exact Calls_in (rowOkI_any _ _ _ x.rows[0] _ _ (g0.up pq.below))))
            have K2 := ((K1.up hq).of (L' := [(⟨w.heap.size, 0, none⟩, .int .i64 x.arity), (⟨w.heap.size, 1, none⟩, .slice (some ⟨g, off, none⟩) x.rows.length cap)]) (by simp))
            have K2 : Kept w [(⟨w.heap.size, 0, none⟩, .int .i64 x.arity), (⟨w.heap.size, 1, none⟩, .slice (some ⟨g, off, none⟩) x.rows.length cap)] wq := ⟨below_up K.1 K2.1 (Nat.le_refl _), K2.2⟩
            clear F0 F1 F2 hq
            go_wp2_with fail
            go_roundw
            case rel => exact ⟨1, by omega, rfl, hg1, K2⟩
            case measure => simp [intOf]; omega
          | succ j =>
            have hltj : j < x.rows.length := by omega
            obtain ⟨g', off', csj, bkj, ha', hrj, hcj, hbkj, _⟩ := (h.up K.1).get hltj
            simp only [Option.some.injEq, Addr.mk.injEq, and_true] at ha'
            obtain ⟨rfl, rfl⟩ := ha'
            obtain ⟨ja, jn, jc, jb, rfl, fj, hbs⟩ := Row_rep.1 hrj
            obtain rfl := hbs.symm
            have c1 : wr.cell? ⟨g, off + j, none⟩ = some (.slice ja jn jc) := by have := hcj 0 _ rfl; rw [show rowE.size = 1 from rfl, Nat.mul_one] at this; exact this
            clear hcj
            have hvj := Lib.hid (hgood.row hltj (by omega))
            have hvk := Lib.hid hro
            have K1 := (K1.cons (cell_alloc c1 (.cells #[.slice ra (x.rows[j + 1]).length rc] 42))).of (L' := [(⟨wr.heap.size, 0, none⟩, .slice ra (x.rows[j + 1]).length rc), (⟨w.heap.size, 0, none⟩, .int .i64 x.arity), (⟨w.heap.size, 1, none⟩, .slice (some ⟨g, off, none⟩) x.rows.length cap), (⟨g, off + j, none⟩, .slice ja jn jc)]) (by simp)
            have hw : IntKind.i64.wrap (j : Int) = j := IntWalk.i64_in _ (by omega)
            have j0 : (0 : Int) ≤ (j : Int) := by omega
            have j1 : (j : Int) < (x.rows.length : Int) := by omega
            have j2 : (0 : Int) < (j : Int) + 1 := by omega
            by_cases hcm : cmpRow x.rows[j] x.rows[j + 1] < 0
            · have hg1 := hgood.succ hlt (by simp [rowAt, hro, hln, hcm])
              clear hgood hln
              go_wp2_with fail
              clear c0 c1 kc Bx hal
              have F0 := K1.in_ (a := ⟨wr.heap.size, 0, none⟩) (v := .slice ra (x.rows[j + 1]).length rc) (by simp)
              have F1 := K1.in_ (a := ⟨w.heap.size, 0, none⟩) (v := .int .i64 x.arity) (by simp)
              have F2 := K1.in_ (a := ⟨w.heap.size, 1, none⟩) (v := .slice (some ⟨g, off, none⟩) x.rows.length cap) (by simp)
              have F3 := K1.in_ (a := ⟨g, off + j, none⟩) (v := .slice ja jn jc) (by simp)
              have g0 := f0.up K1.1
              have gj := fj.up K1.1
              go_quiet_in (first | (go_at_call 33; exact Calls_in (rowOkI_any _ _ _ x.rows[j + 1] _ _ (g0.up pq.below))) | (go_at_call 68; exact Calls_in (byRow_any _ _ _ x.rows[j] _ _ _ _ x.rows[j + 1] _ _ (gj.up pq.below) (g0.up pq.below) (rowOk_vals hvj.out) (rowOk_vals hvk.out))))
              have K2 := ((K1.up hq).of (L' := [(⟨w.heap.size, 0, none⟩, .int .i64 x.arity), (⟨w.heap.size, 1, none⟩, .slice (some ⟨g, off, none⟩) x.rows.length cap)]) (by simp))
              have K2 : Kept w [(⟨w.heap.size, 0, none⟩, .int .i64 x.arity), (⟨w.heap.size, 1, none⟩, .slice (some ⟨g, off, none⟩) x.rows.length cap)] wq := ⟨below_up K.1 K2.1 (Nat.le_refl _), K2.2⟩
              clear F0 F1 F2 F3 hq
              go_wp2_with fail
              go_roundw
              case rel => exact ⟨j + 2, by omega, by go_num, hg1, K2⟩
              case measure => simp [intOf]; omega
            · have HR := Lib.hid (show relOk x = false by
                have hb : rowAt x.rows x.arity (j + 1) hlt = false := by simp [rowAt]; intro _ _; omega
                simp [relOk, relRows_bad hlt hb])
              clear hgood hln
              go_wp2_with fail
              clear c0 c1 kc Bx hal
              have F0 := K1.in_ (a := ⟨wr.heap.size, 0, none⟩) (v := .slice ra (x.rows[j + 1]).length rc) (by simp)
              have F1 := K1.in_ (a := ⟨w.heap.size, 0, none⟩) (v := .int .i64 x.arity) (by simp)
              have F2 := K1.in_ (a := ⟨w.heap.size, 1, none⟩) (v := .slice (some ⟨g, off, none⟩) x.rows.length cap) (by simp)
              have F3 := K1.in_ (a := ⟨g, off + j, none⟩) (v := .slice ja jn jc) (by simp)
              have g0 := f0.up K1.1
              have gj := fj.up K1.1
              go_quiet_in (first | (go_at_call 33; exact Calls_in (rowOkI_any _ _ _ x.rows[j + 1] _ _ (g0.up pq.below))) | (go_at_call 68; exact Calls_in (byRow_any _ _ _ x.rows[j] _ _ _ _ x.rows[j + 1] _ _ (gj.up pq.below) (g0.up pq.below) (rowOk_vals hvj.out) (rowOk_vals hvk.out))))
              have K2 := ((K1.up hq).of (L' := [(⟨w.heap.size, 0, none⟩, .int .i64 x.arity), (⟨w.heap.size, 1, none⟩, .slice (some ⟨g, off, none⟩) x.rows.length cap)]) (by simp))
              have K2 : Kept w [(⟨w.heap.size, 0, none⟩, .int .i64 x.arity), (⟨w.heap.size, 1, none⟩, .slice (some ⟨g, off, none⟩) x.rows.length cap)] wq := ⟨below_up K.1 K2.1 (Nat.le_refl _), K2.2⟩
              clear F0 F1 F2 F3 hq
              go_wp2_with fail
              go_ret
              exact ⟨ret_bool HR.out.symm, K2.1⟩
    · obtain rfl : k = x.rows.length := by omega
      have HA := Lib.hid hgood.all
      clear hgood
      have kc := K.c2.2
      cases hu : upToB x.arity 6
      · have HR := Lib.hid (show relOk x = false by have : ¬ (0 ≤ x.arity ∧ x.arity ≤ 6) := by simpa [upToB] using hu
                                                    simp [relOk, HA.out]; intro _; omega)
        go_wp2_with fail
        refine (upTo_any _ _ _).mono ?_
        rintro e w3 ⟨rfl, rfl⟩
        go_wp2_with fail
        go_ret
        exact ⟨ret_bool HR.out.symm, K.1⟩
      · have HR := Lib.hid (show relOk x = decide ((x.rows.length : Int) ≤ 300) by have : (0 ≤ x.arity ∧ x.arity ≤ 6) := by simpa [upToB] using hu
                                                                                   simp [relOk, HA.out, this]; try omega)
        go_wp2_with fail
        refine (upTo_any _ _ _).mono ?_
        rintro e w3 ⟨rfl, rfl⟩
        go_wp2_with fail
        go_ret
        exact ⟨ret_bool HR.out.symm, K.1⟩
end Go.Proofs.Ytgealkbfaffedaa

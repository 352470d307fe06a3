/- RelHas of the program and of the reference. -/
import Derived.Test.YtgealkbfaffedaaFind
namespace Go.Proofs.Ytgealkbfaffedaa
open Go.RowKit
set_option linter.unusedVariables false
set_option maxRecDepth 100000

/-- The two boxes of a relation and a row. -/
theorem two_boxes (w : World) (ar : Int) (a : Option Addr) (n cap : Nat) (b : Option Addr) (m cap' : Nat) :
    Kept w [(⟨w.heap.size, 0, none⟩, .int .i64 ar), (⟨w.heap.size, 1, none⟩, .slice a n cap), (⟨w.heap.size + 1, 0, none⟩, .slice b m cap')] ((w.alloc (.cells #[.int .i64 ar, .slice a n cap] 60)).alloc (.cells #[.slice b m cap'] 42)) := by
  have H := ((Held.start w).box_ #[.int .i64 ar, .slice a n cap] 60).box_ #[.slice b m cap'] 42
  rw [show (w.alloc (.cells #[.int .i64 ar, .slice a n cap] 60)).heap.size = w.heap.size + 1 by simp] at H
  have H2 := H.s2
  exact (((Kept.at_ H.below).cons (H2.2.2 0)).cons (H2.2.1 1)).cons (H2.2.1 0)

set_option maxHeartbeats 1600000 in
theorem find_any (ar : Int) (a : Option Addr) (n cap : Nat) (rows : List (List Val)) (bs : List Nat) (b : Option Addr) (m cap' : Nat) (row : List Val) (bs' : List Nat) (w : World) (h : SliceRep rowE w a n cap rows bs) (h' : SliceRep valE w b m cap' row bs')
    (hlen : rows.length ≤ 1048576) (hs : Hid (Sorted rows)) (hr : Hid (∀ v ∈ row, valOk v = true)) :
    Calls Try.prog 88 #[.agg #[.int .i64 ar, .slice a n cap], .agg #[.slice b m cap']] w fun e w' => e = .returned (.tuple #[.int .i64 (pos rows row), .bool (hasRow rows row)]) ∧ Below w.heap.size w w' := by
  have K := two_boxes w ar a n cap b m cap'
  have kk := K.c3.2
  go_enter Try.func88, Try.ntmps88
  go_wp2_with fail
  refine (binSearch_any _ _ _ rows _ _ _ _ row _ _ (h.up K.1) (h'.up K.1) hlen hs hr).mono ?_
  rintro e w1 ⟨rfl, hb⟩
  replace K := K.up hb
  clear kk
  go_wp2_with fail
  go_ret2
  exact ⟨rfl, K.1⟩

set_option maxHeartbeats 1600000 in
theorem has_any (ar : Int) (a : Option Addr) (n cap : Nat) (rows : List (List Val)) (bs : List Nat) (b : Option Addr) (m cap' : Nat) (row : List Val) (bs' : List Nat) (w : World) (h : SliceRep rowE w a n cap rows bs) (h' : SliceRep valE w b m cap' row bs')
    (hlen : rows.length ≤ 1048576) (hs : Hid (Sorted rows)) (hr : Hid (∀ v ∈ row, valOk v = true)) :
    Calls Try.prog 75 #[.agg #[.int .i64 ar, .slice a n cap], .agg #[.slice b m cap']] w fun e w' => e = .returned (.bool (hasRow rows row)) ∧ Below w.heap.size w w' := by
  have K := two_boxes w ar a n cap b m cap'
  have kk := K.c3.2
  go_enter Try.func75, Try.ntmps75
  go_wp2_with fail
  refine (find_any _ _ _ _ rows _ _ _ _ row _ _ (h.up K.1) (h'.up K.1) hlen hs hr).mono ?_
  rintro e w1 ⟨rfl, hb⟩
  replace K := K.up hb
  clear kk
  go_wp2_with fail
  go_ret
  exact ⟨rfl, K.1⟩

noncomputable def relHas (x : Relt) (row : List Val) : Bool := relOk x && hasRow x.rows row
theorem relHas_bad {x : Relt} {row : List Val} (h : relOk x = false) : relHas x row = false := by rw [relHas, h]; rfl
theorem relHas_row {x : Relt} {row : List Val} (h : relOk x = true) (hr : rowOk row = false) : relHas x row = false := by rw [relHas, hasRow_bad (relOk_rows h) hr]; simp
theorem relHas_ok {x : Relt} {row : List Val} (h : relOk x = true) : relHas x row = hasRow x.rows row := by rw [relHas, h]; simp
theorem relOk_len {x : Relt} (h : relOk x = true) : x.rows.length ≤ 1048576 := by
  simp only [relOk, Bool.and_eq_true, decide_eq_true_eq] at h
  omega

set_option maxHeartbeats 1600000 in
theorem relHasI_any (a : Option Addr) (n cap : Nat) (x : Relt) (bs : List Nat) (b : Option Addr) (m cap' : Nat) (row : List Val) (bs' : List Nat) (w : World) (har : (Lit.int .i64 x.arity).wf = true) (h : SliceRep rowE w a n cap x.rows bs) (h' : SliceRep valE w b m cap' row bs') :
    Calls Try.prog 46 #[.agg #[.int .i64 x.arity, .slice a n cap], .agg #[.slice b m cap']] w fun e w' => e = .returned (.bool (relHas x row)) ∧ Below w.heap.size w w' := by
  have K := two_boxes w x.arity a n cap b m cap'
  have kk := K.c3.2
  go_enter Try.func46, Try.ntmps46
  go_wp2_with fail
  refine (relOkI_any _ _ _ x _ _ har (h.up K.1)).mono ?_
  rintro e w1 ⟨rfl, hb⟩
  replace K := K.up hb
  clear kk
  have kk := K.c3.2
  cases ho : relOk x
  · have HR := Lib.hid (relHas_bad (row := row) ho)
    go_wp2_with fail
    go_ret
    exact ⟨ret_bool HR.out.symm, K.1⟩
  · have HO := Lib.hid ho
    go_wp2_with fail
    refine (rowOkI_any _ _ _ row _ _ (h'.up K.1)).mono ?_
    rintro e w2 ⟨rfl, hb2⟩
    replace K := K.up hb2
    clear kk
    have kk := K.c3.2
    cases hro : rowOk row
    · have HR := Lib.hid (relHas_row HO.out hro)
      go_wp2_with fail
      go_ret
      exact ⟨ret_bool HR.out.symm, K.1⟩
    · have HR := Lib.hid (relHas_ok (row := row) HO.out)
      go_wp2_with fail
      refine (has_any _ _ _ _ x.rows _ _ _ _ row _ _ (h.up K.1) (h'.up K.1) (relOk_len HO.out) (Lib.hid (relOk_sorted HO.out)) (Lib.hid (rowOk_vals hro))).mono ?_
      rintro e w3 ⟨rfl, hb3⟩
      replace K := K.up hb3
      clear kk
      go_wp2_with fail
      go_ret
      exact ⟨ret_bool HR.out.symm, K.1⟩

set_option maxHeartbeats 1600000 in
theorem relHasS_any (a : Option Addr) (n cap : Nat) (x : Relt) (bs : List Nat) (b : Option Addr) (m cap' : Nat) (row : List Val) (bs' : List Nat) (w : World) (har : (Lit.int .i64 x.arity).wf = true) (h : SliceRep rowE w a n cap x.rows bs) (h' : SliceRep valE w b m cap' row bs') :
    Calls Try.prog 45 #[.agg #[.int .i64 x.arity, .slice a n cap], .agg #[.slice b m cap']] w fun e w' => e = .returned (.bool (relHas x row)) ∧ Below w.heap.size w w' := by
  have K := two_boxes w x.arity a n cap b m cap'
  have kk := K.c3.2
  go_enter Try.func45, Try.ntmps45
  go_wp2_with fail
  refine (relOkS_any _ _ _ x _ _ har (h.up K.1)).mono ?_
  rintro e w1 ⟨rfl, hb⟩
  replace K := K.up hb
  clear kk
  have kk := K.c3.2
  cases ho : relOk x
  · have HR := Lib.hid (relHas_bad (row := row) ho)
    go_wp2_with fail
    go_ret
    exact ⟨ret_bool HR.out.symm, K.1⟩
  · have HR := Lib.hid (relHas_ok (row := row) ho)
    go_wp2_with fail
    refine (hasRow_any _ _ _ x.rows _ _ _ _ row _ _ (h.up K.1) (h'.up K.1)).mono ?_
    rintro e w2 ⟨rfl, hb2⟩
    replace K := K.up hb2
    clear kk
    go_wp2_with fail
    go_ret
    exact ⟨ret_bool HR.out.symm, K.1⟩

theorem relHasI_w (cs ds : Array Value) (x : Relt) (y : List Val) (bs bs' : List Nat) (w : World) (h : relE.rep w cs.toList x bs) (h' : rowE.rep w ds.toList y bs') :
    Calls Try.prog 46 #[.agg cs, .agg ds] w fun e w' => e = .returned (.bool (relHas x y)) ∧ Below w.heap.size w w' := by
  obtain ⟨a, n, cap, b, hc, h1, hS, hb⟩ := Rel_rep.1 h
  obtain rfl : cs = #[.int .i64 x.arity, .slice a n cap] := by cases cs; simpa using hc
  obtain ⟨a', n', cap', b', hc', hS', hb'⟩ := Row_rep.1 h'
  obtain rfl : ds = #[.slice a' n' cap'] := by cases ds; simpa using hc'
  exact relHasI_any _ _ _ x _ _ _ _ y _ _ h1 hS hS'
theorem relHasS_w (cs ds : Array Value) (x : Relt) (y : List Val) (bs bs' : List Nat) (w : World) (h : relE.rep w cs.toList x bs) (h' : rowE.rep w ds.toList y bs') :
    Calls Try.prog 45 #[.agg cs, .agg ds] w fun e w' => e = .returned (.bool (relHas x y)) ∧ Below w.heap.size w w' := by
  obtain ⟨a, n, cap, b, hc, h1, hS, hb⟩ := Rel_rep.1 h
  obtain rfl : cs = #[.int .i64 x.arity, .slice a n cap] := by cases cs; simpa using hc
  obtain ⟨a', n', cap', b', hc', hS', hb'⟩ := Row_rep.1 h'
  obtain rfl : ds = #[.slice a' n' cap'] := by cases ds; simpa using hc'
  exact relHasS_any _ _ _ x _ _ _ _ y _ _ h1 hS hS'
end Go.Proofs.Ytgealkbfaffedaa

/- Rows alike, and a row among a relation's rows: the reference's side. (printed by mkhas.py) -/
import Derived.Test.YtgealkbfaffedaaRelOk2
import Derived.Laws.StructEq
namespace Go.Proofs.Ytgealkbfaffedaa
open Go.RowKit
set_option linter.unusedVariables false
set_option maxRecDepth 100000

def sameVal (x y : Val) : Bool := x.n == y.n && x.s.toList == y.s.toList
theorem sameVal_iff {x y : Val} : sameVal x y = true ↔ x = y := by
  obtain ⟨n, ⟨⟨s⟩⟩⟩ := x
  obtain ⟨m, ⟨⟨r⟩⟩⟩ := y
  simp [sameVal, ByteArray.toList_eq]
theorem equalIn_val (x y : Val) (w : World) : (Op.equalIn 10000 27 (.agg #[.int .i64 x.n, .string x.s]) (.agg #[.int .i64 y.n, .string y.s])).run Try.prog w = .ok (sameVal x y) w := by
  have hS : Try.prog.underlying 27 = some (.struct (Try.prog.fieldsOf 27)) := by kernel_rfl
  have hp : Try.prog.stoodInHeld 27 = false := by kernel_rfl
  rw [show (10000 : Nat) = 9999 + 1 from rfl, run_equalIn_agg w 9999 27 _ _ hS hp]
  simp only [Program.fieldsOf, Try.underlying27]
  go_simp
  by_cases h1 : x.n = y.n <;> by_cases h2 : x.s.toList = y.s.toList <;> simp [h1, h2, sameVal]

def SameTo (xs ys : List Val) (k : Nat) : Prop := ∀ j (h : j < xs.length) (h' : j < ys.length), j < k → sameVal xs[j] ys[j] = true
theorem SameTo.zero {xs ys : List Val} : SameTo xs ys 0 := fun _ _ _ h => absurd h (by omega)
theorem SameTo.succ {xs ys : List Val} {k : Nat} (h : SameTo xs ys k) (hk : k < xs.length) (hk' : k < ys.length) (hs : sameVal xs[k] ys[k] = true) : SameTo xs ys (k + 1) := fun j hj hj' hjk => by
  rcases Nat.lt_or_ge j k with h1 | h1
  · exact h j hj hj' h1
  · obtain rfl : j = k := by omega
    exact hs
theorem SameTo.eq {xs ys : List Val} (hl : xs.length = ys.length) (h : SameTo xs ys xs.length) : xs = ys :=
  List.ext_getElem hl fun j h1 h2 => sameVal_iff.1 (h j h1 h2 h1)
open Classical in
noncomputable def sameRow (xs ys : List Val) : Bool := decide (xs = ys)
open Classical in
theorem sameRow_len {xs ys : List Val} (h : xs.length ≠ ys.length) : sameRow xs ys = false := by
  rw [sameRow, decide_eq_false_iff_not]
  intro e; rw [e] at h; exact h rfl
open Classical in
theorem sameRow_at {xs ys : List Val} {k : Nat} (hk : k < xs.length) (hk' : k < ys.length) (hs : sameVal xs[k] ys[k] = false) : sameRow xs ys = false := by
  rw [sameRow, decide_eq_false_iff_not]
  intro e; subst e
  rw [sameVal_iff.2 rfl] at hs; cases hs
open Classical in
theorem sameRow_eq {xs ys : List Val} (h : xs = ys) : sameRow xs ys = true := by rw [sameRow, decide_eq_true_iff]; exact h

set_option maxHeartbeats 1600000 in
theorem sameRow_any (a : Option Addr) (n cap : Nat) (xs : List Val) (bs : List Nat) (b : Option Addr) (m cap' : Nat) (ys : List Val) (bs' : List Nat) (w : World) (h : SliceRep valE w a n cap xs bs) (h' : SliceRep valE w b m cap' ys bs') :
    Calls Try.prog 87 #[.agg #[.slice a n cap], .agg #[.slice b m cap']] w fun e w' => e = .returned (.bool (sameRow xs ys)) ∧ Below w.heap.size w w' := by
  have hmax := h.max
  have hmax' := h'.max
  obtain rfl := h.1
  obtain rfl := h'.1
  have H0 := ((Held.start w).box_ #[.slice a xs.length cap] 42).box_ #[.slice b ys.length cap'] 42
  have hz : (w.alloc (.cells #[.slice a xs.length cap] 42)).heap.size = w.heap.size + 1 := by simp
  rw [hz] at H0
  clear hz
  go_enter Try.func87, Try.ntmps87
  by_cases hl : xs.length = ys.length
  · have hne : ((xs.length : Int) != (ys.length : Int)) = false := by simp [hl]
    have hll := Lib.hid hl
    clear hl
    go_wp2_with fail
    have K0 : Kept w [(⟨w.heap.size, 0, none⟩, .slice a xs.length cap), (⟨w.heap.size + 1, 0, none⟩, .slice b ys.length cap')] _ := (H0.kept.cons (H0.s2.2.2 0)).cons (H0.s2.2.1 0)
    clear hne
    go_loopw [16] (fun i W => ∃ k : Nat, k ≤ xs.length ∧ i = .int .i64 k ∧ SameTo xs ys k ∧ Kept w [(⟨w.heap.size, 0, none⟩, .slice a xs.length cap), (⟨w.heap.size + 1, 0, none⟩, .slice b ys.length cap')] W) (fun i _ => xs.length - (intOf i).toNat)
    case atStart => exact ⟨0, Nat.zero_le _, rfl, .zero, K0⟩
    case round =>
      clear H0 K0
      obtain ⟨k, hk, rfl, HS, H⟩ := hrel
      by_cases hlt : k < xs.length
      · have hlt' : k < ys.length := by have := hll.out; omega
        obtain ⟨g, off, rfl, c0, c1, hs, hn⟩ := (h.up H.1).val hlt
        obtain ⟨g', off', rfl, d0, d1, hs', hn'⟩ := (h'.up H.1).val hlt'
        have i0 : (0 : Int) ≤ (k : Int) := by omega
        have i1 : (k : Int) < (xs.length : Int) := by omega
        have i2 : (k : Int) < (ys.length : Int) := by omega
        have HH := H.c2
        have K : Kept w [(⟨w.heap.size, 0, none⟩, .slice (some ⟨g, off, none⟩) xs.length cap), (⟨w.heap.size + 1, 0, none⟩, .slice (some ⟨g', off', none⟩) ys.length cap'), (⟨g, off + k * 2, none⟩, .int .i64 xs[k].n), (⟨g, off + k * 2 + 1, none⟩, .string xs[k].s), (⟨g', off' + k * 2, none⟩, .int .i64 ys[k].n), (⟨g', off' + k * 2 + 1, none⟩, .string ys[k].s)] _ := (((((Kept.at_ H.1).cons d1).cons d0).cons c1).cons c0 |>.cons HH.2.2).cons HH.2.1
        have N := equalIn_val xs[k] ys[k]
        cases hv : sameVal xs[k] ys[k]
        · have HR := Lib.hid (sameRow_at hlt hlt' hv)
          clear HS
          go_wp2_with fail
          clear HH c0 c1 d0 d1 H
          have F0 := K.in_ (a := ⟨w.heap.size, 0, none⟩) (v := .slice (some ⟨g, off, none⟩) xs.length cap) (by simp)
          have F1 := K.in_ (a := ⟨w.heap.size + 1, 0, none⟩) (v := .slice (some ⟨g', off', none⟩) ys.length cap') (by simp)
          have F2 := K.in_ (a := ⟨g, off + k * 2, none⟩) (v := .int .i64 xs[k].n) (by simp)
          have F3 := K.in_ (a := ⟨g, off + k * 2 + 1, none⟩) (v := .string xs[k].s) (by simp)
          have F4 := K.in_ (a := ⟨g', off' + k * 2, none⟩) (v := .int .i64 ys[k].n) (by simp)
          have F5 := K.in_ (a := ⟨g', off' + k * 2 + 1, none⟩) (v := .string ys[k].s) (by simp)
          go_quiet_in (fail)
          clear F0 F1 F2 F3 F4 F5 N
          replace K := K.up hq
          go_wp2_with fail
          go_ret
          exact ⟨ret_bool HR.out.symm, K.1⟩
        · have HS1 := HS.succ hlt hlt' hv
          clear HS
          go_wp2_with fail
          clear HH c0 c1 d0 d1 H
          have F0 := K.in_ (a := ⟨w.heap.size, 0, none⟩) (v := .slice (some ⟨g, off, none⟩) xs.length cap) (by simp)
          have F1 := K.in_ (a := ⟨w.heap.size + 1, 0, none⟩) (v := .slice (some ⟨g', off', none⟩) ys.length cap') (by simp)
          have F2 := K.in_ (a := ⟨g, off + k * 2, none⟩) (v := .int .i64 xs[k].n) (by simp)
          have F3 := K.in_ (a := ⟨g, off + k * 2 + 1, none⟩) (v := .string xs[k].s) (by simp)
          have F4 := K.in_ (a := ⟨g', off' + k * 2, none⟩) (v := .int .i64 ys[k].n) (by simp)
          have F5 := K.in_ (a := ⟨g', off' + k * 2 + 1, none⟩) (v := .string ys[k].s) (by simp)
          go_quiet_in (fail)
          clear F0 F1 F2 F3 F4 F5 N
          replace K := K.up hq
          go_wp2_with fail
          go_roundw
          case rel => exact ⟨k + 1, by omega, by go_num, HS1, K.of (by simp)⟩
          case measure => simp [intOf]; omega
      · obtain rfl : k = xs.length := by omega
        have HR := Lib.hid (sameRow_eq (HS.eq hll.out))
        clear HS
        have HH := H.c2
        go_wp2_with fail
        go_ret
        exact ⟨ret_bool HR.out.symm, H.1⟩
  · have hne : ((xs.length : Int) != (ys.length : Int)) = true := by simp [bne]; omega
    have HR := Lib.hid (sameRow_len hl)
    clear hl
    go_wp2_with fail
    go_ret
    exact ⟨ret_bool HR.out.symm, H0.below⟩

open Classical in
noncomputable def hasRow (rows : List (List Val)) (row : List Val) : Bool := decide (row ∈ rows)
open Classical in
theorem hasRow_at {rows : List (List Val)} {row : List Val} {k : Nat} (hk : k < rows.length) (h : sameRow rows[k] row = true) : hasRow rows row = true := by
  rw [sameRow, decide_eq_true_iff] at h
  rw [hasRow, decide_eq_true_iff, ← h]
  exact List.getElem_mem hk
open Classical in
theorem hasRow_none {rows : List (List Val)} {row : List Val} (h : NoneTo (fun r => sameRow r row) rows rows.length) : hasRow rows row = false := by
  rw [hasRow, decide_eq_false_iff_not]
  intro hm
  obtain ⟨j, hj, e⟩ := List.getElem_of_mem hm
  have := h j hj hj
  simp only [e, sameRow_eq rfl] at this
  cases this

set_option maxHeartbeats 1600000 in
theorem hasRow_any (a : Option Addr) (n cap : Nat) (rows : List (List Val)) (bs : List Nat) (b : Option Addr) (m cap' : Nat) (row : List Val) (bs' : List Nat) (w : World) (h : SliceRep rowE w a n cap rows bs) (h' : SliceRep valE w b m cap' row bs') :
    Calls Try.prog 74 #[.slice a n cap, .agg #[.slice b m cap']] w fun e w' => e = .returned (.bool (hasRow rows row)) ∧ Below w.heap.size w w' := by
  have hmax := h.max
  have hmax' := h'.max
  obtain rfl := h.1
  obtain rfl := h'.1
  have H := ((Held.start w).box_ #[.slice b row.length cap'] 42)
  have H2 := H.s1
  have K : Kept w [(⟨w.heap.size, 0, none⟩, .slice b row.length cap')] _ := ((Kept.at_ H.below).cons (H2.2 0))
  clear H H2
  go_enter Try.func74, Try.ntmps74
  go_wp2_with fail
  go_loopw [8] (fun i W => ∃ k : Nat, k ≤ rows.length ∧ i = .int .i64 k ∧ NoneTo (fun r => sameRow r row) rows k ∧ Kept w [(⟨w.heap.size, 0, none⟩, .slice b row.length cap')] W) (fun i _ => rows.length - (intOf i).toNat)
  case atStart => exact ⟨0, Nat.zero_le _, rfl, .zero, K⟩
  case round =>
    clear K
    obtain ⟨k, hk, rfl, HN, K⟩ := hrel
    by_cases hlt : k < rows.length
    · obtain ⟨g, off, cs, bk, rfl, hr, hc, hbk, _⟩ := (h.up K.1).get hlt
      obtain ⟨ra, rn, rc, rb, rfl, f0, hbs⟩ := Row_rep.1 hr
      obtain rfl := hbs.symm
      have c0 : wr.cell? ⟨g, off + k, none⟩ = some (.slice ra rn rc) := by have := hc 0 _ rfl; rw [show rowE.size = 1 from rfl, Nat.mul_one] at this; exact this
      clear hc
      obtain rfl := f0.1
      have hmaxr := f0.max
      have i0 : (0 : Int) ≤ (k : Int) := by omega
      have i1 : (k : Int) < (rows.length : Int) := by omega
      have K1 : Kept w [(⟨g, off + k, none⟩, .slice ra (rows[k]).length rc), (⟨w.heap.size, 0, none⟩, .slice b row.length cap')] _ := K.cons c0
      have g0 := h'.up K.1
      cases hs : sameRow rows[k] row
      · have HN1 := HN.succ hlt hs
        clear HN
        go_wp2_with fail
        clear c0
        have F0 := K1.in_ (a := ⟨g, off + k, none⟩) (v := .slice ra (rows[k]).length rc) (by simp)
        have F1 := K1.in_ (a := ⟨w.heap.size, 0, none⟩) (v := .slice b row.length cap') (by simp)
        go_quiet_in ((go_at_call 87; exact Calls_in ((sameRow_any _ _ _ rows[k] _ _ _ _ row _ _ (f0.up pq.below) (g0.up pq.below)).mono (fun e w' h => ⟨h.1.trans (congrArg (fun b => Ending.returned (Value.bool b)) hs), h.2⟩))))
        clear F0 F1
        replace K := K.up hq
        go_wp2_with fail
        go_roundw
        case rel => exact ⟨k + 1, by omega, by go_num, HN1, K⟩
        case measure => simp [intOf]; omega
      · have HR := Lib.hid (hasRow_at hlt hs)
        clear HN
        go_wp2_with fail
        clear c0
        have F0 := K1.in_ (a := ⟨g, off + k, none⟩) (v := .slice ra (rows[k]).length rc) (by simp)
        have F1 := K1.in_ (a := ⟨w.heap.size, 0, none⟩) (v := .slice b row.length cap') (by simp)
        go_quiet_in ((go_at_call 87; exact Calls_in ((sameRow_any _ _ _ rows[k] _ _ _ _ row _ _ (f0.up pq.below) (g0.up pq.below)).mono (fun e w' h => ⟨h.1.trans (congrArg (fun b => Ending.returned (Value.bool b)) hs), h.2⟩))))
        clear F0 F1
        replace K := K.up hq
        go_wp2_with fail
        go_ret
        exact ⟨ret_bool HR.out.symm, K.1⟩
    · obtain rfl : k = rows.length := by omega
      have HR := Lib.hid (hasRow_none HN)
      clear HN
      go_wp2_with fail
      go_ret
      exact ⟨ret_bool HR.out.symm, K.1⟩
end Go.Proofs.Ytgealkbfaffedaa

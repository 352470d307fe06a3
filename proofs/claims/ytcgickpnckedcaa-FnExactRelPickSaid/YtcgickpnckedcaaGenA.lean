/- The laws' own functions: GenA (printed by gen.py) -/
import Derived.Test.YtcgickpnckedcaaRow
import Derived.Test.YtcgickpnckedcaaMem
import Derived.Test.YtcgickpnckedcaaText
import Derived.Test.YtcgickpnckedcaaGenBase
import Derived.Deep.RegionHeld3
namespace Go.Proofs.Ytcgickpnckedcaa
open Go.RowKit
set_option linter.unusedVariables false
set_option maxRecDepth 100000

def smallValue (x : Val) : Prop := x.s.size ≤ 1048576

set_option maxHeartbeats 800000 in
theorem szValueA_any (cs : List Value) (x : Val) (bs : List Nat) (left : Int) (w : World) (h : valE.rep w cs x bs) (l0 : 0 ≤ left) (l1 : left ≤ 1048576) :
    Calls Try.prog 20 #[.agg cs.toArray, .int .i64 left] w (RetSz (smallValue x) left w) := by
  obtain ⟨rfl, f0, f1, hbs⟩ := Value_rep.1 h
  obtain rfl := hbs.symm
  unfold maxLen at *
  have H := ((Held.start w).box_ #[.int .i64 x.n, .string x.s] 33).s1
  go_enter Try.func20, Try.ntmps20
  by_cases n0 : left - (x.s.size : Int) < 0
  · go_wp2_with fail
    go_ret
    exact ⟨-1, rfl, by omega, by omega, fun h => absurd h (by omega), H.1.below⟩
  · have m0 : 0 ≤ left - (x.s.size : Int) := by omega
    go_wp2_with fail
    go_ret
    exact ⟨(left - (x.s.size : Int)), rfl, by omega, by omega, fun _ => by unfold smallValue; exact (show x.s.size ≤ 1048576 by omega), H.1.below⟩

set_option maxHeartbeats 800000 in
theorem eqValueA_any (cs ds : List Value) (x : Val) (bs bs' : List Nat) (w : World) (h : valE.rep w cs x bs) (h' : valE.rep w ds x bs') :
    Calls Try.prog 108 #[.agg cs.toArray, .agg ds.toArray] w fun e w' => e = .returned (.bool true) ∧ Below w.heap.size w w' := by
  obtain ⟨rfl, f0, f1, hbs⟩ := Value_rep.1 h
  obtain rfl := hbs.symm
  obtain ⟨rfl, g0, g1, hbs⟩ := Value_rep.1 h'
  obtain rfl := hbs.symm
  have H := ((Held.start w).box_ #[.int .i64 x.n, .string x.s] 37).box_ #[.int .i64 x.n, .string x.s] 37
  rw [show (w.alloc (.cells #[.int .i64 x.n, .string x.s] 37)).heap.size = w.heap.size + 1 by simp] at H
  replace H := H.s2
  go_enter Try.func108, Try.ntmps108
  go_wp2_with fail
  go_ret
  exact ⟨rfl, H.1.below⟩

set_option maxHeartbeats 800000 in
theorem szValueS_any (a : Option Addr) (n cap : Nat) (xs : List (Val)) (bs : List Nat) (left : Int) (w : World) (h : SliceRep valE w a n cap xs bs) (l0 : 0 ≤ left) (l1 : left ≤ 1048576) :
    Calls Try.prog 73 #[.slice a n cap, .int .i64 left] w (RetSz (xs.length ≤ 1048576 ∧ ∀ y ∈ xs, smallValue y) left w) := by
  have hmax := h.max
  obtain rfl := h.1
  by_cases n0 : left - (xs.length : Int) < 0
  · go_enter Try.func73, Try.ntmps73
    go_wp2_with fail
    go_ret
    exact ⟨-1, rfl, by omega, by omega, fun h => absurd h (by omega), Below.refl _ _⟩
  · have m0 : 0 ≤ left - (xs.length : Int) := by omega
    go_enter Try.func73, Try.ntmps73
    go_wp2_with fail
    go_loopw [1, 5] (fun l i W => ∃ (k : Nat) (r : Int), k ≤ xs.length ∧ i = .int .i64 k ∧ l = .int .i64 r ∧ 0 ≤ r ∧ r ≤ left ∧ AllTo smallValue xs k ∧ Below w.heap.size w W) (fun _ i _ => xs.length - (intOf i).toNat)
    case atStart => exact ⟨0, _, Nat.zero_le _, rfl, rfl, m0, by omega, .zero, Below.refl _ _⟩
    case round =>
      obtain ⟨k, r, hk, rfl, rfl, r0, r1, hall, hB⟩ := hrel
      by_cases hlt : k < xs.length
      · obtain ⟨g, off, cs, bk, rfl, hr, hc, hbk, _⟩ := (h.up hB).get hlt
        obtain ⟨rfl, f0, f1, hbs⟩ := Value_rep.1 hr
        obtain rfl := hbs.symm
        have c0 : wr.cell? ⟨g, off + k * 2, none⟩ = some (.int .i64 xs[k].n) := hc 0 _ rfl
        have c1 : wr.cell? ⟨g, off + k * 2 + 1, none⟩ = some (.string xs[k].s) := hc 1 _ rfl
        clear hc
        go_wp2_with fail
        refine (szValueA_any _ xs[k] _ _ _ hr r0 (by omega)).mono ?_
        rintro e w1 ⟨r', rfl, g0, g1, hs, hb⟩
        have hB1 := below_up hB hb (Nat.le_refl _)
        clear hb
        by_cases n1 : r' < 0
        · go_wp2_with fail
          go_ret
          exact ⟨-1, rfl, by omega, by omega, fun h => absurd h (by omega), hB1⟩
        · have m1 : 0 ≤ r' := by omega
          have hall1 := hall.succ hlt (hs m1)
          go_wp2_with fail
          go_roundw
          case rel => exact ⟨k + 1, r', by omega, by go_num, rfl, m1, by omega, hall1, hB1⟩
          case measure => simp [intOf]; omega
      · obtain rfl : k = xs.length := by omega
        have hall1 := hall.done
        clear hall
        go_wp2_with fail
        go_ret
        exact ⟨r, rfl, by omega, by omega, fun _ => ⟨by omega, hall1⟩, hB⟩

set_option maxHeartbeats 1600000 in
theorem eqValueS_any (a : Option Addr) (n cap : Nat) (a' : Option Addr) (n' cap' : Nat) (xs : List (Val)) (bs bs' : List Nat) (w : World) (h : SliceRep valE w a n cap xs bs) (h' : SliceRep valE w a' n' cap' xs bs') :
    Calls Try.prog 80 #[.slice a n cap, .slice a' n' cap'] w fun e w' => e = .returned (.bool true) ∧ Below w.heap.size w w' := by
  have hmax := h.max
  obtain rfl := h.1
  obtain rfl := h'.1
  go_enter Try.func80, Try.ntmps80
  go_wp2_with fail
  go_loopw [5] (fun i W => ∃ (k : Nat), k ≤ xs.length ∧ i = .int .i64 k ∧ Below w.heap.size w W) (fun i _ => xs.length - (intOf i).toNat)
  case atStart => exact ⟨0, Nat.zero_le _, rfl, Below.refl _ _⟩
  case round =>
    obtain ⟨k, hk, rfl, hB⟩ := hrel
    by_cases hlt : k < xs.length
    · obtain ⟨g, off, cs, bk, rfl, hr, hc, hbk, _⟩ := (h.up hB).get hlt
      obtain ⟨rfl, f0, f1, hbs⟩ := Value_rep.1 hr
      obtain rfl := hbs.symm
      have c0 : wr.cell? ⟨g, off + k * 2, none⟩ = some (.int .i64 xs[k].n) := hc 0 _ rfl
      have c1 : wr.cell? ⟨g, off + k * 2 + 1, none⟩ = some (.string xs[k].s) := hc 1 _ rfl
      clear hc
      have hlty := hlt
      obtain ⟨g', off', csy, bky, rfl, hry, hcy, hbky, _⟩ := (h'.up hB).get hlty
      obtain ⟨rfl, p0, p1, hbs⟩ := Value_rep.1 hry
      obtain rfl := hbs.symm
      have d0 : wr.cell? ⟨g', off' + k * 2, none⟩ = some (.int .i64 xs[k].n) := hcy 0 _ rfl
      have d1 : wr.cell? ⟨g', off' + k * 2 + 1, none⟩ = some (.string xs[k].s) := hcy 1 _ rfl
      clear hcy
      have i0 : (0 : Int) ≤ (k : Int) := by omega
      have i1 : (k : Int) < (xs.length : Int) := by omega
      have K : Kept w [(⟨g, off + k * 2, none⟩, .int .i64 xs[k].n), (⟨g, off + k * 2 + 1, none⟩, .string xs[k].s), (⟨g', off' + k * 2, none⟩, .int .i64 xs[k].n), (⟨g', off' + k * 2 + 1, none⟩, .string xs[k].s)] wr := (((((Kept.at_ hB).cons d1).cons d0).cons c1).cons c0)
      go_wp2_with fail
      go_region_held3 (fun W => Kept w [(⟨g, off + k * 2, none⟩, .int .i64 xs[k].n), (⟨g, off + k * 2 + 1, none⟩, .string xs[k].s), (⟨g', off' + k * 2, none⟩, .int .i64 xs[k].n), (⟨g', off' + k * 2 + 1, none⟩, .string xs[k].s)] W ∧ W.cell? ⟨g, off + k * 2, none⟩ = some (.int .i64 xs[k].n) ∧ W.cell? ⟨g, off + k * 2 + 1, none⟩ = some (.string xs[k].s) ∧ W.cell? ⟨g', off' + k * 2, none⟩ = some (.int .i64 xs[k].n) ∧ W.cell? ⟨g', off' + k * 2 + 1, none⟩ = some (.string xs[k].s))
        (first | exact Kept.c4 (Kept.up (by assumption) (And.left (by assumption))) | exact K.drew.c4)
        ((go_at_call 108; refine (eqValueA_any _ _ xs[k] _ _ _ (valE.up hr (by first | exact (Below.refl _ _).drew | exact (Below.refl _ _))) (valE.up hry (by first | exact (Below.refl _ _).drew | exact (Below.refl _ _)))).mono ?_; rintro e w3 ⟨rfl, hb3⟩))
      rename_i hh
      have hB1 := hh.1.1
      clear hh K c0 c1 d0 d1
      go_wp2_with fail
      go_roundw
      case rel => exact ⟨k + 1, by omega, by go_num, hB1⟩
      case measure => simp [intOf]; omega
    · obtain rfl : k = xs.length := by omega
      go_wp2_with fail
      go_ret
      exact ⟨rfl, hB⟩

theorem toValueA_any (cs : List Value) (x : Val) (bs : List Nat) (w : World) (h : valE.rep w cs x bs) (hsm : smallValue x) :
    Calls Try.prog 22 #[.agg cs.toArray] w (RetAgg valE w x) := by
  obtain ⟨rfl, f0, f1, rfl⟩ := Value_rep.1 h
  refine (toValue_any x w).mono ?_
  rintro e w' ⟨rfl, hb⟩
  exact ⟨_, _, rfl, Value_rep.2 ⟨rfl, f0, f1, rfl⟩, Fresh.nil, hb⟩
theorem zeroValue (w : World) : valE.rep w [.int .i64 0, .string ByteArray.empty] ⟨0, ByteArray.empty⟩ [] := by
  exact Value_rep.2 ⟨rfl, by decide, by simp, rfl⟩
theorem infoValue : (Try.prog.info? 37).map (fun i => (i.zero, i.size, i.bytes)) = some (some (.agg #[.int .i64 0, .string ByteArray.empty]), 2, 24) := by kernel_rfl
set_option maxHeartbeats 1600000 in
theorem toValueS_any (a : Option Addr) (n cap : Nat) (xs : List (Val)) (bs : List Nat) (w : World) (h : SliceRep valE w a n cap xs bs) (hsm : xs.length ≤ 1048576 ∧ ∀ y ∈ xs, smallValue y) :
    Calls Try.prog 75 #[.slice a n cap] w (RetSlice valE w xs) := by
  have hmax := h.max
  have hsm0 := hsm.1
  have HSM := Lib.hid hsm.2
  clear hsm
  obtain rfl := h.1
  obtain ⟨i0, hi, hz0, hz1, hz2⟩ := info_parts infoValue
  have hmk := fun W => run_make_rowN (P := Try.prog) 48 37 i0 _ Try.underlying48 hi hz0 .i64 .i64 xs.length xs.length (Nat.le_refl _) (by rw [hz2]; omega) hmax W
  rw [hz1] at hmk
  clear hi hz0 hz1 hz2
  go_enter Try.func75, Try.ntmps75
  go_wp2_with fail
  obtain ⟨bs0, hS0, hF0⟩ := SliceRep.made (e := valE) (z := #[.int .i64 0, .string ByteArray.empty]) (x0 := ⟨0, ByteArray.empty⟩) (fun w => zeroValue w) (by decide) xs.length (by unfold maxLen; omega) w 37
  have hb0 := (Below.refl w.heap.size w).alloc (Nat.le_refl _) (.cells (madeCells #[.int .i64 0, .string ByteArray.empty] (xs.length * valE.size)) 37)
  have hg0 : w.heap.size < (w.alloc (.cells (madeCells #[.int .i64 0, .string ByteArray.empty] (xs.length * valE.size)) 37)).heap.size := by simp
  rw [show valE.size = 2 from rfl] at hS0 hF0 hb0 hg0
  generalize w.alloc (.cells (madeCells #[.int .i64 0, .string ByteArray.empty] (xs.length * 2)) 37) = w0 at *
  clear hmk
  go_loopw [4] (fun i W => ∃ (k : Nat) (ys : List (Val)) (bs' : List Nat), k ≤ xs.length ∧ i = .int .i64 k ∧ Filled xs ⟨0, ByteArray.empty⟩ k ys ∧ SliceRep valE W (some ⟨w.heap.size, 0, none⟩) xs.length xs.length ys bs' ∧ Fresh w.heap.size W bs' ∧ Below w.heap.size w W ∧ w.heap.size < W.heap.size) (fun i _ => xs.length - (intOf i).toNat)
  case atStart => exact ⟨0, _, bs0, Nat.zero_le _, rfl, .zero, hS0, hF0, hb0, hg0⟩
  case round =>
    clear hS0 hF0 hb0 hg0
    obtain ⟨k, ys, bs', hk, rfl, hfill, hS, hF, hB, hG⟩ := hrel
    by_cases hlt : k < xs.length
    · obtain ⟨g, off, cs, bk, rfl, hr, hc, hbk, _⟩ := (h.up hB).get hlt
      obtain ⟨rfl, f0, f1, hbs⟩ := Value_rep.1 hr
      obtain rfl := hbs.symm
      have c0 : wr.cell? ⟨g, off + k * 2, none⟩ = some (.int .i64 xs[k].n) := hc 0 _ rfl
      have c1 : wr.cell? ⟨g, off + k * 2 + 1, none⟩ = some (.string xs[k].s) := hc 1 _ rfl
      clear hc
      go_wp2_with fail
      refine (toValueA_any _ xs[k] _ _ hr (HSM.out _ (List.getElem_mem hlt))).mono ?_
      rintro e w1 ⟨cz, bz, rfl, hrz, hFz, hb1⟩
      have hcz := Value_rep.1 hrz
      obtain ⟨hcz, q0, q1, hbz⟩ := hcz
      obtain rfl : cz = #[.int .i64 xs[k].n, .string xs[k].s] := by cases cz; simpa using hcz
      clear hcz
      have hS1 := hS.up hb1
      have hF1 := hF.up hb1
      have hB1 := below_up hB hb1 (Nat.le_refl _)
      have hly := hfill.len hk
      have hdis : ∀ c ∈ bz, c ∉ bs' := fun c hc hc' => by have h1 := (hFz.2 c hc).1; have h2 := hF.lt c hc'; omega
      have hFz1 : Fresh w.heap.size w1 bz := hFz.mono (Nat.le_of_lt hG)
      obtain ⟨cs1, bo, hr1, _, hsl⟩ := hS1.slot hF1 (k := k) (by omega)
      obtain ⟨rfl, _, _, hbo⟩ := Value_rep.1 hr1
      have s0 := hsl 0 _ rfl
      have s1 := hsl 1 _ rfl
      rw [Nat.zero_add, show valE.size = 2 from rfl] at s0 s1
      simp only [Nat.add_zero] at s0
      clear hsl
      obtain ⟨bs2, hS2, hF2, _⟩ := hS1.store hF1 (by decide) (k := k) (by omega) hrz hFz1 hdis
      have hB2 := setCells_below (Nat.le_refl w.heap.size) [.int .i64 xs[k].n, .string xs[k].s] w1 (0 + k * valE.size) hB1
      have hG2 : w.heap.size < (setCells w1 w.heap.size (0 + k * valE.size) [.int .i64 xs[k].n, .string xs[k].s]).heap.size := by rw [setCells_size]; have := hb1.size; omega
      rw [Nat.zero_add, show valE.size = 2 from rfl] at hS2 hF2 hB2 hG2
      have hf2 := hfill.succ hlt
      clear hfill hS hF hS1 hF1 hdis c0 c1 
      go_wp2_with fail
      go_roundw
      case rel => exact ⟨k + 1, _, bs2, by omega, by go_num, hf2, hS2, hF2, hB2, hG2⟩
      case measure => simp [intOf]; omega
    · obtain rfl : k = xs.length := by omega
      obtain rfl := hfill.done
      go_wp2_with fail
      go_ret
      exact ⟨_, _, _, _, rfl, hS, hF, hB⟩

end Go.Proofs.Ytcgickpnckedcaa

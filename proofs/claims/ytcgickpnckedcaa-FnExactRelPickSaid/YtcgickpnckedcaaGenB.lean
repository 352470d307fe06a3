/- The laws' own functions: GenB (printed by gen.py) -/
import Derived.Test.YtcgickpnckedcaaRow
import Derived.Test.YtcgickpnckedcaaMem
import Derived.Test.YtcgickpnckedcaaText
import Derived.Test.YtcgickpnckedcaaGenA
import Derived.Deep.RegionHeld3
namespace Go.Proofs.Ytcgickpnckedcaa
open Go.RowKit
set_option linter.unusedVariables false
set_option maxRecDepth 100000

def smallRow (x : List Val) : Prop := (x.length ≤ 1048576 ∧ ∀ y ∈ x, smallValue y)

set_option maxHeartbeats 800000 in
theorem szRow_any (cs : List Value) (x : List Val) (bs : List Nat) (left : Int) (w : World) (h : rowE.rep w cs x bs) (l0 : 0 ≤ left) (l1 : left ≤ 1048576) :
    Calls Try.prog 30 #[.agg cs.toArray, .int .i64 left] w (RetSz (smallRow x) left w) := by
  obtain ⟨sa0, sn0, sc0, sb0, rfl, f0, hbs⟩ := Row_rep.1 h
  obtain rfl := hbs.symm
  have H := ((Held.start w).box_ #[.slice sa0 sn0 sc0] 44).s1
  go_enter Try.func30, Try.ntmps30
  go_wp2_with fail
  refine (szValueS_any sa0 sn0 sc0 x sb0 _ _ (f0.up H.1.below) (by omega) (by omega)).mono ?_
  rintro e w0 ⟨r0, rfl, g0, k0, s0, hb⟩
  replace H := (H.1.up hb).s1
  clear hb
  by_cases n0 : r0 < 0
  · go_wp2_with fail
    go_ret
    exact ⟨-1, rfl, by omega, by omega, fun h => absurd h (by omega), H.1.below⟩
  · have m0 : 0 ≤ r0 := by omega
    go_wp2_with fail
    go_ret
    exact ⟨r0, rfl, by omega, by omega, fun _ => by unfold smallRow; exact s0 m0, H.1.below⟩

set_option maxHeartbeats 800000 in
theorem eqRow_any (cs ds : List Value) (x : List Val) (bs bs' : List Nat) (w : World) (h : rowE.rep w cs x bs) (h' : rowE.rep w ds x bs') :
    Calls Try.prog 34 #[.agg cs.toArray, .agg ds.toArray] w fun e w' => e = .returned (.bool true) ∧ Below w.heap.size w w' := by
  obtain ⟨sa0, sn0, sc0, sb0, rfl, f0, hbs⟩ := Row_rep.1 h
  obtain rfl := hbs.symm
  obtain ⟨say0, sny0, scy0, sby0, rfl, g0, hbs⟩ := Row_rep.1 h'
  obtain rfl := hbs.symm
  have H := ((Held.start w).box_ #[.slice sa0 sn0 sc0] 50).box_ #[.slice say0 sny0 scy0] 50
  rw [show (w.alloc (.cells #[.slice sa0 sn0 sc0] 50)).heap.size = w.heap.size + 1 by simp] at H
  replace H := H.s2
  go_enter Try.func34, Try.ntmps34
  go_wp2_with fail
  refine (eqValueS_any _ _ _ _ _ _ x _ _ _ (f0.up H.1.below) (g0.up H.1.below)).mono ?_
  rintro e w0 ⟨rfl, hb⟩
  replace H := (H.1.up hb).s2
  clear hb
  go_wp2_with fail
  go_ret
  exact ⟨rfl, H.1.below⟩

set_option maxHeartbeats 1600000 in
theorem toRow_any (cs : List Value) (x : List Val) (bs : List Nat) (w : World) (h : rowE.rep w cs x bs) (hsm : smallRow x) :
    Calls Try.prog 32 #[.agg cs.toArray] w (RetAgg rowE w x) := by
  obtain ⟨sa0, sn0, sc0, sb0, rfl, f0, hbs⟩ := Row_rep.1 h
  obtain rfl := hbs.symm
  have HSM := Lib.hid hsm
  clear hsm h
  have H := Three.start w #[.slice sa0 sn0 sc0] #[.slice none 0 0] #[.slice none 0 0] 44 50 50
  go_enter Try.func32, Try.ntmps32
  go_wp2_with fail
  generalize ((w.alloc (.cells #[.slice sa0 sn0 sc0] 44)).alloc (.cells #[.slice none 0 0] 50)).alloc (.cells #[.slice none 0 0] 50) = w0 at *
  have hz0 := H.lt
  have ca0 := H.a.cell
  refine (toValueS_any _ _ _ x _ _ (f0.up H.below) HSM.out).mono ?_
  rintro e w1 ⟨ra0, rn0, rc0, rb0, rfl, q0_0, F0, hb⟩
  replace H := H.up hb
  clear hb ca0
  have hcz0 := H.c.cell
  have hfz0 := H.c.free
  have H0_0 : Three w #[.slice sa0 sn0 sc0] #[.slice none 0 0] #[.slice ra0 rn0 rc0] _ := H.set 0 (.slice ra0 rn0 rc0) (by simp) rfl
  have hS0 := ((Same.refl (w.heap.size + 1 + 1 + 1) w1).set (g := w.heap.size + 1 + 1) (by omega) 0 (.slice ra0 rn0 rc0))
  have hge0 : ∀ c ∈ rb0, w.heap.size + 1 + 1 + 1 ≤ c := fun c hc => Nat.le_trans hz0 (F0.ge c hc)
  replace q0_0 := q0_0.same hS0 hge0
  replace F0 := F0.same hS0 hge0
  replace H := H0_0
  have dz := H.z.cell
  have ez := H.z.free
  have hcc := H.c.cell
  go_wp2_with fail
  refine bodyPost_ret (v := .agg #[.slice ra0 rn0 rc0]) (by simp [results, Try.results32, go_sem, dz]; try rfl) rfl ?_
  have hSf := ((Same.refl (w.heap.size + 1 + 1 + 1) (w1.setCell ⟨w.heap.size + 1 + 1, 0, none⟩ (.slice ra0 rn0 rc0))).set (g := w.heap.size + 1) (by omega) 0 (.slice ra0 rn0 rc0))
  refine ⟨#[.slice ra0 rn0 rc0], _, rfl, Row_rep.2 ⟨ra0, rn0, rc0, _, rfl, q0_0.same hSf hge0, rfl⟩, ?_, (H.below.setCell (p := ⟨w.heap.size + 1, 0, none⟩) (by simp) (.slice ra0 rn0 rc0))⟩
  exact ((F0.same hSf hge0).mono (by omega))

set_option maxHeartbeats 800000 in
theorem szRowS_any (a : Option Addr) (n cap : Nat) (xs : List (List Val)) (bs : List Nat) (left : Int) (w : World) (h : SliceRep rowE w a n cap xs bs) (l0 : 0 ≤ left) (l1 : left ≤ 1048576) :
    Calls Try.prog 52 #[.slice a n cap, .int .i64 left] w (RetSz (xs.length ≤ 1048576 ∧ ∀ y ∈ xs, smallRow y) left w) := by
  have hmax := h.max
  obtain rfl := h.1
  by_cases n0 : left - (xs.length : Int) < 0
  · go_enter Try.func52, Try.ntmps52
    go_wp2_with fail
    go_ret
    exact ⟨-1, rfl, by omega, by omega, fun h => absurd h (by omega), Below.refl _ _⟩
  · have m0 : 0 ≤ left - (xs.length : Int) := by omega
    go_enter Try.func52, Try.ntmps52
    go_wp2_with fail
    go_loopw [1, 5] (fun l i W => ∃ (k : Nat) (r : Int), k ≤ xs.length ∧ i = .int .i64 k ∧ l = .int .i64 r ∧ 0 ≤ r ∧ r ≤ left ∧ AllTo smallRow xs k ∧ Below w.heap.size w W) (fun _ i _ => xs.length - (intOf i).toNat)
    case atStart => exact ⟨0, _, Nat.zero_le _, rfl, rfl, m0, by omega, .zero, Below.refl _ _⟩
    case round =>
      obtain ⟨k, r, hk, rfl, rfl, r0, r1, hall, hB⟩ := hrel
      by_cases hlt : k < xs.length
      · obtain ⟨g, off, cs, bk, rfl, hr, hc, hbk, _⟩ := (h.up hB).get hlt
        obtain ⟨sa0, sn0, sc0, sb0, rfl, f0, hbs⟩ := Row_rep.1 hr
        obtain rfl := hbs.symm
        have c0 : wr.cell? ⟨g, off + k, none⟩ = some (.slice sa0 sn0 sc0) := by have := hc 0 _ rfl; rw [show rowE.size = 1 from rfl, Nat.mul_one] at this; exact this
        clear hc
        go_wp2_with fail
        refine (szRow_any _ xs[k] _ _ _ hr r0 (by omega)).mono ?_
        rintro e w1 ⟨r', rfl, g0, g1, hs, hb⟩
        have hB1 := below_up hB hb (Nat.le_refl _)
        clear hb
        by_cases n1 : r' < 0
        · go_wp2_with fail
          go_ret
          exact ⟨-1, rfl, by omega, by omega, fun h => absurd h (by omega), hB1⟩
        · have m1 : 0 ≤ r' := by omega
          have hall1 := hall.succ hlt (hs m1)
          go_wp2_with fail
          go_roundw
          case rel => exact ⟨k + 1, r', by omega, by go_num, rfl, m1, by omega, hall1, hB1⟩
          case measure => simp [intOf]; omega
      · obtain rfl : k = xs.length := by omega
        have hall1 := hall.done
        clear hall
        go_wp2_with fail
        go_ret
        exact ⟨r, rfl, by omega, by omega, fun _ => ⟨by omega, hall1⟩, hB⟩

set_option maxHeartbeats 1600000 in
theorem eqRowS_any (a : Option Addr) (n cap : Nat) (a' : Option Addr) (n' cap' : Nat) (xs : List (List Val)) (bs bs' : List Nat) (w : World) (h : SliceRep rowE w a n cap xs bs) (h' : SliceRep rowE w a' n' cap' xs bs') :
    Calls Try.prog 58 #[.slice a n cap, .slice a' n' cap'] w fun e w' => e = .returned (.bool true) ∧ Below w.heap.size w w' := by
  have hmax := h.max
  obtain rfl := h.1
  obtain rfl := h'.1
  go_enter Try.func58, Try.ntmps58
  go_wp2_with fail
  go_loopw [5] (fun i W => ∃ (k : Nat), k ≤ xs.length ∧ i = .int .i64 k ∧ Below w.heap.size w W) (fun i _ => xs.length - (intOf i).toNat)
  case atStart => exact ⟨0, Nat.zero_le _, rfl, Below.refl _ _⟩
  case round =>
    obtain ⟨k, hk, rfl, hB⟩ := hrel
    by_cases hlt : k < xs.length
    · obtain ⟨g, off, cs, bk, rfl, hr, hc, hbk, _⟩ := (h.up hB).get hlt
      obtain ⟨sa0, sn0, sc0, sb0, rfl, f0, hbs⟩ := Row_rep.1 hr
      obtain rfl := hbs.symm
      have c0 : wr.cell? ⟨g, off + k, none⟩ = some (.slice sa0 sn0 sc0) := by have := hc 0 _ rfl; rw [show rowE.size = 1 from rfl, Nat.mul_one] at this; exact this
      clear hc
      have hlty := hlt
      obtain ⟨g', off', csy, bky, rfl, hry, hcy, hbky, _⟩ := (h'.up hB).get hlty
      obtain ⟨say0, sny0, scy0, sby0, rfl, p0, hbs⟩ := Row_rep.1 hry
      obtain rfl := hbs.symm
      have d0 : wr.cell? ⟨g', off' + k, none⟩ = some (.slice say0 sny0 scy0) := by have := hcy 0 _ rfl; rw [show rowE.size = 1 from rfl, Nat.mul_one] at this; exact this
      clear hcy
      have i0 : (0 : Int) ≤ (k : Int) := by omega
      have i1 : (k : Int) < (xs.length : Int) := by omega
      have K : Kept w [(⟨g, off + k, none⟩, .slice sa0 sn0 sc0), (⟨g', off' + k, none⟩, .slice say0 sny0 scy0)] wr := (((Kept.at_ hB).cons d0).cons c0)
      go_wp2_with fail
      go_region_held3 (fun W => Kept w [(⟨g, off + k, none⟩, .slice sa0 sn0 sc0), (⟨g', off' + k, none⟩, .slice say0 sny0 scy0)] W ∧ W.cell? ⟨g, off + k, none⟩ = some (.slice sa0 sn0 sc0) ∧ W.cell? ⟨g', off' + k, none⟩ = some (.slice say0 sny0 scy0))
        (first | exact Kept.c2 (Kept.up (by assumption) (And.left (by assumption))) | exact K.drew.c2)
        ((go_at_call 34; refine (eqRow_any _ _ xs[k] _ _ _ (rowE.up hr (by first | exact (Below.refl _ _).drew | exact (Below.refl _ _))) (rowE.up hry (by first | exact (Below.refl _ _).drew | exact (Below.refl _ _)))).mono ?_; rintro e w3 ⟨rfl, hb3⟩))
      rename_i hh
      have hB1 := hh.1.1
      clear hh K c0 d0
      go_wp2_with fail
      go_roundw
      case rel => exact ⟨k + 1, by omega, by go_num, hB1⟩
      case measure => simp [intOf]; omega
    · obtain rfl : k = xs.length := by omega
      go_wp2_with fail
      go_ret
      exact ⟨rfl, hB⟩

theorem zeroRow (w : World) : rowE.rep w [.slice none 0 0] [] [] := by
  exact Row_rep.2 ⟨none, 0, 0, [], rfl, ⟨rfl, Nat.le_refl _, Nat.zero_le _, (fun _ => rfl), .inl ⟨rfl, rfl⟩⟩, rfl⟩
theorem infoRow : (Try.prog.info? 50).map (fun i => (i.zero, i.size, i.bytes)) = some (some (.agg #[.slice none 0 0]), 1, 24) := by kernel_rfl
set_option maxHeartbeats 1600000 in
theorem toRowS_any (a : Option Addr) (n cap : Nat) (xs : List (List Val)) (bs : List Nat) (w : World) (h : SliceRep rowE w a n cap xs bs) (hsm : xs.length ≤ 1048576 ∧ ∀ y ∈ xs, smallRow y) :
    Calls Try.prog 55 #[.slice a n cap] w (RetSlice rowE w xs) := by
  have hmax := h.max
  have hsm0 := hsm.1
  have HSM := Lib.hid hsm.2
  clear hsm
  obtain rfl := h.1
  obtain ⟨i0, hi, hz0, hz1, hz2⟩ := info_parts infoRow
  have hmk := fun W => run_make_rowN (P := Try.prog) 27 50 i0 _ Try.underlying27 hi hz0 .i64 .i64 xs.length xs.length (Nat.le_refl _) (by rw [hz2]; omega) hmax W
  rw [hz1] at hmk
  clear hi hz0 hz1 hz2
  go_enter Try.func55, Try.ntmps55
  go_wp2_with fail
  obtain ⟨bs0, hS0, hF0⟩ := SliceRep.made (e := rowE) (z := #[.slice none 0 0]) (x0 := []) (fun w => zeroRow w) (by decide) xs.length (by unfold maxLen; omega) w 50
  have hb0 := (Below.refl w.heap.size w).alloc (Nat.le_refl _) (.cells (madeCells #[.slice none 0 0] (xs.length * rowE.size)) 50)
  have hg0 : w.heap.size < (w.alloc (.cells (madeCells #[.slice none 0 0] (xs.length * rowE.size)) 50)).heap.size := by simp
  rw [show rowE.size = 1 from rfl, Nat.mul_one] at hS0 hF0 hb0 hg0
  generalize w.alloc (.cells (madeCells #[.slice none 0 0] (xs.length)) 50) = w0 at *
  clear hmk
  go_loopw [4] (fun i W => ∃ (k : Nat) (ys : List (List Val)) (bs' : List Nat), k ≤ xs.length ∧ i = .int .i64 k ∧ Filled xs [] k ys ∧ SliceRep rowE W (some ⟨w.heap.size, 0, none⟩) xs.length xs.length ys bs' ∧ Fresh w.heap.size W bs' ∧ Below w.heap.size w W ∧ w.heap.size < W.heap.size) (fun i _ => xs.length - (intOf i).toNat)
  case atStart => exact ⟨0, _, bs0, Nat.zero_le _, rfl, .zero, hS0, hF0, hb0, hg0⟩
  case round =>
    clear hS0 hF0 hb0 hg0
    obtain ⟨k, ys, bs', hk, rfl, hfill, hS, hF, hB, hG⟩ := hrel
    by_cases hlt : k < xs.length
    · obtain ⟨g, off, cs, bk, rfl, hr, hc, hbk, _⟩ := (h.up hB).get hlt
      obtain ⟨sa0, sn0, sc0, sb0, rfl, f0, hbs⟩ := Row_rep.1 hr
      obtain rfl := hbs.symm
      have c0 : wr.cell? ⟨g, off + k, none⟩ = some (.slice sa0 sn0 sc0) := by have := hc 0 _ rfl; rw [show rowE.size = 1 from rfl, Nat.mul_one] at this; exact this
      clear hc
      go_wp2_with fail
      refine (toRow_any _ xs[k] _ _ hr (HSM.out _ (List.getElem_mem hlt))).mono ?_
      rintro e w1 ⟨cz, bz, rfl, hrz, hFz, hb1⟩
      have hcz := Row_rep.1 hrz
      obtain ⟨saz0, snz0, scz0, sbz0, hcz, q0, hbz⟩ := hcz
      obtain rfl : cz = #[.slice saz0 snz0 scz0] := by cases cz; simpa using hcz
      clear hcz
      have hS1 := hS.up hb1
      have hF1 := hF.up hb1
      have hB1 := below_up hB hb1 (Nat.le_refl _)
      have hly := hfill.len hk
      have hdis : ∀ c ∈ bz, c ∉ bs' := fun c hc hc' => by have h1 := (hFz.2 c hc).1; have h2 := hF.lt c hc'; omega
      have hFz1 : Fresh w.heap.size w1 bz := hFz.mono (Nat.le_of_lt hG)
      obtain ⟨cs1, bo, hr1, _, hsl⟩ := hS1.slot hF1 (k := k) (by omega)
      obtain ⟨sao0, sno0, sco0, sbo0, rfl, _, hbo⟩ := Row_rep.1 hr1
      have s0 := hsl 0 _ rfl
      rw [Nat.zero_add, show rowE.size = 1 from rfl, Nat.mul_one] at s0
      simp only [Nat.add_zero] at s0
      clear hsl
      obtain ⟨bs2, hS2, hF2, _⟩ := hS1.store hF1 (by decide) (k := k) (by omega) hrz hFz1 hdis
      have hB2 := setCells_below (Nat.le_refl w.heap.size) [.slice saz0 snz0 scz0] w1 (0 + k * rowE.size) hB1
      have hG2 : w.heap.size < (setCells w1 w.heap.size (0 + k * rowE.size) [.slice saz0 snz0 scz0]).heap.size := by rw [setCells_size]; have := hb1.size; omega
      rw [Nat.zero_add, show rowE.size = 1 from rfl, Nat.mul_one] at hS2 hF2 hB2 hG2
      have hf2 := hfill.succ hlt
      clear hfill hS hF hS1 hF1 hdis c0 
      go_wp2_with fail
      go_roundw
      case rel => exact ⟨k + 1, _, bs2, by omega, by go_num, hf2, hS2, hF2, hB2, hG2⟩
      case measure => simp [intOf]; omega
    · obtain rfl : k = xs.length := by omega
      obtain rfl := hfill.done
      go_wp2_with fail
      go_ret
      exact ⟨_, _, _, _, rfl, hS, hF, hB⟩

structure Relt where
  arity : Int
  rows : List (List Val)
def relE : Enc Relt := isoE (pairE (intE .i64) (pairE (sliceE rowE) unitE)) (fun x => (x.arity, x.rows, ()))
theorem Rel_rep {w : World} {cs : List Value} {x : Relt} {bs : List Nat} : relE.rep w cs x bs ↔ ∃ (sa0 : Option Addr) (sn0 sc0 : Nat) (sb0 : List Nat), cs = [.int .i64 x.arity, .slice sa0 sn0 sc0] ∧ (Lit.int .i64 x.arity).wf = true ∧ SliceRep rowE w sa0 sn0 sc0 x.rows sb0 ∧ bs = sb0 := by
  constructor
  · rintro ⟨c0, r0, d0, q0, rfl, rfl, h0, c1, r1, d1, q1, rfl, rfl, h1, rfl, rfl⟩
    obtain ⟨rfl, f0, rfl⟩ := h0
    obtain ⟨va0, vn0, vc0, rfl, f1⟩ := h1
    exact ⟨va0, vn0, vc0, _, by simp, f0, f1, by simp⟩
  · rintro ⟨sa0, sn0, sc0, sb0, rfl, f0, f1, hbs⟩
    obtain rfl := hbs.symm
    exact ⟨[.int .i64 x.arity], [.slice sa0 sn0 sc0], [], sb0, rfl, by simp, ⟨rfl, f0, rfl⟩, ⟨[.slice sa0 sn0 sc0], [], sb0, [], rfl, by simp, ⟨sa0, sn0, sc0, rfl, f1⟩, ⟨rfl, rfl⟩⟩⟩
theorem opens_lRel : Opens Try.prog relE 24 :=
  opens_iso (fun x => ⟨x.1, x.2.1⟩) (fun _ => rfl) (opens_struct Try.underlying24 (by kernel_rfl) (opensF_cons rfl (by kernel_rfl) (opens_int Try.underlying3) (opensF_cons rfl (by kernel_rfl) (opens_slice Try.underlying22 (by kernel_rfl) (by decide) opens_lRow) opensF_nil)))
def smallRel (x : Relt) : Prop := (x.rows.length ≤ 1048576 ∧ ∀ y ∈ x.rows, smallRow y)

set_option maxHeartbeats 800000 in
theorem szRel_any (cs : List Value) (x : Relt) (bs : List Nat) (left : Int) (w : World) (h : relE.rep w cs x bs) (l0 : 0 ≤ left) (l1 : left ≤ 1048576) :
    Calls Try.prog 15 #[.agg cs.toArray, .int .i64 left] w (RetSz (smallRel x) left w) := by
  obtain ⟨sa0, sn0, sc0, sb0, rfl, f0, f1, hbs⟩ := Rel_rep.1 h
  obtain rfl := hbs.symm
  have H := ((Held.start w).box_ #[.int .i64 x.arity, .slice sa0 sn0 sc0] 24).s1
  go_enter Try.func15, Try.ntmps15
  go_wp2_with fail
  refine (szRowS_any sa0 sn0 sc0 x.rows sb0 _ _ (f1.up H.1.below) (by omega) (by omega)).mono ?_
  rintro e w0 ⟨r0, rfl, g0, k0, s0, hb⟩
  replace H := (H.1.up hb).s1
  clear hb
  by_cases n0 : r0 < 0
  · go_wp2_with fail
    go_ret
    exact ⟨-1, rfl, by omega, by omega, fun h => absurd h (by omega), H.1.below⟩
  · have m0 : 0 ≤ r0 := by omega
    go_wp2_with fail
    go_ret
    exact ⟨r0, rfl, by omega, by omega, fun _ => by unfold smallRel; exact s0 m0, H.1.below⟩

set_option maxHeartbeats 800000 in
theorem eqRel_any (cs ds : List Value) (x : Relt) (bs bs' : List Nat) (w : World) (h : relE.rep w cs x bs) (h' : relE.rep w ds x bs') :
    Calls Try.prog 19 #[.agg cs.toArray, .agg ds.toArray] w fun e w' => e = .returned (.bool true) ∧ Below w.heap.size w w' := by
  obtain ⟨sa0, sn0, sc0, sb0, rfl, f0, f1, hbs⟩ := Rel_rep.1 h
  obtain rfl := hbs.symm
  obtain ⟨say0, sny0, scy0, sby0, rfl, g0, g1, hbs⟩ := Rel_rep.1 h'
  obtain rfl := hbs.symm
  have H := ((Held.start w).box_ #[.int .i64 x.arity, .slice sa0 sn0 sc0] 29).box_ #[.int .i64 x.arity, .slice say0 sny0 scy0] 29
  rw [show (w.alloc (.cells #[.int .i64 x.arity, .slice sa0 sn0 sc0] 29)).heap.size = w.heap.size + 1 by simp] at H
  replace H := H.s2
  go_enter Try.func19, Try.ntmps19
  go_wp2_with fail
  refine (eqRowS_any _ _ _ _ _ _ x.rows _ _ _ (f1.up H.1.below) (g1.up H.1.below)).mono ?_
  rintro e w1 ⟨rfl, hb⟩
  replace H := (H.1.up hb).s2
  clear hb
  go_wp2_with fail
  go_ret
  exact ⟨rfl, H.1.below⟩

set_option maxHeartbeats 1600000 in
theorem toRel_any (cs : List Value) (x : Relt) (bs : List Nat) (w : World) (h : relE.rep w cs x bs) (hsm : smallRel x) :
    Calls Try.prog 17 #[.agg cs.toArray] w (RetAgg relE w x) := by
  obtain ⟨sa0, sn0, sc0, sb0, rfl, f0, f1, hbs⟩ := Rel_rep.1 h
  obtain rfl := hbs.symm
  have HSM := Lib.hid hsm
  clear hsm h
  have H := Three.start w #[.int .i64 x.arity, .slice sa0 sn0 sc0] #[.int .i64 0, .slice none 0 0] #[.int .i64 x.arity, .slice none 0 0] 24 29 29
  go_enter Try.func17, Try.ntmps17
  go_wp2_with fail
  generalize ((w.alloc (.cells #[.int .i64 x.arity, .slice sa0 sn0 sc0] 24)).alloc (.cells #[.int .i64 0, .slice none 0 0] 29)).alloc (.cells #[.int .i64 x.arity, .slice none 0 0] 29) = w0 at *
  have hz0 := H.lt
  have ca0 := H.a.cell
  refine (toRowS_any _ _ _ x.rows _ _ (f1.up H.below) HSM.out).mono ?_
  rintro e w1 ⟨ra0, rn0, rc0, rb0, rfl, q0_0, F0, hb⟩
  replace H := H.up hb
  clear hb ca0
  have hcz0 := H.c.cell
  have hfz0 := H.c.free
  have H0_0 : Three w #[.int .i64 x.arity, .slice sa0 sn0 sc0] #[.int .i64 0, .slice none 0 0] #[.int .i64 x.arity, .slice ra0 rn0 rc0] _ := H.set 1 (.slice ra0 rn0 rc0) (by simp) rfl
  have hS0 := ((Same.refl (w.heap.size + 1 + 1 + 1) w1).set (g := w.heap.size + 1 + 1) (by omega) 1 (.slice ra0 rn0 rc0))
  have hge0 : ∀ c ∈ rb0, w.heap.size + 1 + 1 + 1 ≤ c := fun c hc => Nat.le_trans hz0 (F0.ge c hc)
  replace q0_0 := q0_0.same hS0 hge0
  replace F0 := F0.same hS0 hge0
  replace H := H0_0
  have dz := H.z.cell
  have ez := H.z.free
  have hcc := H.c.cell
  go_wp2_with fail
  refine bodyPost_ret (v := .agg #[.int .i64 x.arity, .slice ra0 rn0 rc0]) (by simp [results, Try.results17, go_sem, dz]; try rfl) rfl ?_
  have hSf := (((Same.refl (w.heap.size + 1 + 1 + 1) (w1.setCell ⟨w.heap.size + 1 + 1, 1, none⟩ (.slice ra0 rn0 rc0))).set (g := w.heap.size + 1) (by omega) 0 (.int .i64 x.arity)).set (g := w.heap.size + 1) (by omega) 1 (.slice ra0 rn0 rc0))
  refine ⟨#[.int .i64 x.arity, .slice ra0 rn0 rc0], _, rfl, Rel_rep.2 ⟨ra0, rn0, rc0, _, rfl, f0, q0_0.same hSf hge0, rfl⟩, ?_, ((H.below.setCell (p := ⟨w.heap.size + 1, 0, none⟩) (by simp) (.int .i64 x.arity)).setCell (p := ⟨w.heap.size + 1, 1, none⟩) (by simp) (.slice ra0 rn0 rc0))⟩
  exact ((F0.same hSf hge0).mono (by omega))

end Go.Proofs.Ytcgickpnckedcaa

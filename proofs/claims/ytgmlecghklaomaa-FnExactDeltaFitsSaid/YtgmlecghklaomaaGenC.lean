/- The laws' own functions: GenC (printed by gen.py) -/
import Derived.Test.YtgmlecghklaomaaRow
import Derived.Test.YtgmlecghklaomaaMem
import Derived.Test.YtgmlecghklaomaaText
import Derived.Test.YtgmlecghklaomaaGenB
import Derived.Deep.RegionHeld3
namespace Go.Proofs.Ytgmlecghklaomaa
open Go.RowKit
set_option linter.unusedVariables false
set_option maxRecDepth 100000

structure Namedt where
  name : ByteArray
  rel : Relt
def namedE : Enc Namedt := isoE (pairE strE (pairE relE unitE)) (fun x => (x.name, x.rel, ()))
theorem Named_rep {w : World} {cs : List Value} {x : Namedt} {bs : List Nat} : namedE.rep w cs x bs ↔ ∃ (sa0 : Option Addr) (sn0 sc0 : Nat) (sb0 : List Nat), cs = [.string x.name, .int .i64 x.rel.arity, .slice sa0 sn0 sc0] ∧ x.name.size ≤ maxLen ∧ (Lit.int .i64 x.rel.arity).wf = true ∧ SliceRep rowE w sa0 sn0 sc0 x.rel.rows sb0 ∧ bs = sb0 := by
  constructor
  · rintro ⟨c0, r0, d0, q0, rfl, rfl, h0, c1, r1, d1, q1, rfl, rfl, h1, rfl, rfl⟩
    obtain ⟨rfl, f0, rfl⟩ := h0
    obtain ⟨va0, vn0, vc0, vb0, rfl, f1_0, f1_1, hbs⟩ := Rel_rep.1 h1
    obtain rfl := hbs.symm
    exact ⟨_, _, _, _, by simp, f0, f1_0, f1_1, by simp⟩
  · rintro ⟨sa0, sn0, sc0, sb0, rfl, f0, f1, f2, hbs⟩
    obtain rfl := hbs.symm
    exact ⟨[.string x.name], [.int .i64 x.rel.arity, .slice sa0 sn0 sc0], [], (sb0), rfl, by simp, ⟨rfl, f0, rfl⟩, ⟨[.int .i64 x.rel.arity, .slice sa0 sn0 sc0], [], (sb0), [], rfl, by simp, Rel_rep.2 ⟨sa0, sn0, sc0, sb0, rfl, f1, f2, rfl⟩, ⟨rfl, rfl⟩⟩⟩
theorem opens_lNamed : Opens Try.prog namedE 180 :=
  opens_iso (fun x => ⟨x.1, x.2.1⟩) (fun _ => rfl) (opens_struct Try.underlying180 (by kernel_rfl) (opensF_cons rfl (by kernel_rfl) (opens_string Try.underlying9) (opensF_cons rfl (by kernel_rfl) opens_lRel opensF_nil)))
def smallNamed (x : Namedt) : Prop := x.name.size ≤ 1048576 ∧ smallRel x.rel

set_option maxHeartbeats 800000 in
theorem szNamed_any (cs : List Value) (x : Namedt) (bs : List Nat) (left : Int) (w : World) (h : namedE.rep w cs x bs) (l0 : 0 ≤ left) (l1 : left ≤ 1048576) :
    Calls Try.prog 121 #[.agg cs.toArray, .int .i64 left] w (RetSz (smallNamed x) left w) := by
  obtain ⟨sa0, sn0, sc0, sb0, rfl, f0, f1, f2, hbs⟩ := Named_rep.1 h
  obtain rfl := hbs.symm
  unfold maxLen at *
  have H := ((Held.start w).box_ #[.string x.name, .int .i64 x.rel.arity, .slice sa0 sn0 sc0] 180).s1
  go_enter Try.func121, Try.ntmps121
  by_cases n0 : left - (x.name.size : Int) < 0
  · go_wp2_with fail
    go_ret
    exact ⟨-1, rfl, by omega, by omega, fun h => absurd h (by omega), H.1.below⟩
  · have m0 : 0 ≤ left - (x.name.size : Int) := by omega
    go_wp2_with fail
    refine (szRel_any _ x.rel _ _ _ (Rel_rep.2 ⟨sa0, sn0, sc0, sb0, rfl, f1, f2.up H.1.below, rfl⟩) (by omega) (by omega)).mono ?_
    rintro e w1 ⟨r1, rfl, g1, k1, s1, hb⟩
    replace H := (H.1.up hb).s1
    clear hb
    by_cases n1 : r1 < 0
    · go_wp2_with fail
      go_ret
      exact ⟨-1, rfl, by omega, by omega, fun h => absurd h (by omega), H.1.below⟩
    · have m1 : 0 ≤ r1 := by omega
      go_wp2_with fail
      go_ret
      exact ⟨r1, rfl, by omega, by omega, fun _ => by unfold smallNamed; exact ⟨(show x.name.size ≤ 1048576 by omega), s1 m1⟩, H.1.below⟩

set_option maxHeartbeats 800000 in
theorem eqNamed_any (cs ds : List Value) (x : Namedt) (bs bs' : List Nat) (w : World) (h : namedE.rep w cs x bs) (h' : namedE.rep w ds x bs') :
    Calls Try.prog 129 #[.agg cs.toArray, .agg ds.toArray] w fun e w' => e = .returned (.bool true) ∧ Below w.heap.size w w' := by
  obtain ⟨sa0, sn0, sc0, sb0, rfl, f0, f1, f2, hbs⟩ := Named_rep.1 h
  obtain rfl := hbs.symm
  obtain ⟨say0, sny0, scy0, sby0, rfl, g0, g1, g2, hbs⟩ := Named_rep.1 h'
  obtain rfl := hbs.symm
  have H := ((Held.start w).box_ #[.string x.name, .int .i64 x.rel.arity, .slice sa0 sn0 sc0] 123).box_ #[.string x.name, .int .i64 x.rel.arity, .slice say0 sny0 scy0] 123
  rw [show (w.alloc (.cells #[.string x.name, .int .i64 x.rel.arity, .slice sa0 sn0 sc0] 123)).heap.size = w.heap.size + 1 by simp] at H
  replace H := H.s2
  go_enter Try.func129, Try.ntmps129
  go_wp2_with fail
  refine (eqRel_any _ _ x.rel _ _ _ (Rel_rep.2 ⟨sa0, sn0, sc0, sb0, rfl, f1, f2.up H.1.below, rfl⟩) (Rel_rep.2 ⟨say0, sny0, scy0, sby0, rfl, g1, g2.up H.1.below, rfl⟩)).mono ?_
  rintro e w1 ⟨rfl, hb⟩
  replace H := (H.1.up hb).s2
  clear hb
  go_wp2_with fail
  go_ret
  exact ⟨rfl, H.1.below⟩

set_option maxHeartbeats 1600000 in
theorem toNamed_any (cs : List Value) (x : Namedt) (bs : List Nat) (w : World) (h : namedE.rep w cs x bs) (hsm : smallNamed x) :
    Calls Try.prog 124 #[.agg cs.toArray] w (RetAgg namedE w x) := by
  obtain ⟨sa0, sn0, sc0, sb0, rfl, f0, f1, f2, hbs⟩ := Named_rep.1 h
  obtain rfl := hbs.symm
  have HSM := Lib.hid hsm
  clear hsm h
  have H := Three.start w #[.string x.name, .int .i64 x.rel.arity, .slice sa0 sn0 sc0] #[.string ⟨#[]⟩, .int .i64 0, .slice none 0 0] #[.string x.name, .int .i64 0, .slice none 0 0] 180 123 123
  go_enter Try.func124, Try.ntmps124
  go_wp2_with fail
  generalize ((w.alloc (.cells #[.string x.name, .int .i64 x.rel.arity, .slice sa0 sn0 sc0] 180)).alloc (.cells #[.string ⟨#[]⟩, .int .i64 0, .slice none 0 0] 123)).alloc (.cells #[.string x.name, .int .i64 0, .slice none 0 0] 123) = w0 at *
  have hz0 := H.lt
  have ca0 := H.a.cell
  refine (toRel_any _ x.rel _ _ (Rel_rep.2 ⟨sa0, sn0, sc0, sb0, rfl, f1, f2.up H.below, rfl⟩) HSM.out.2).mono ?_
  rintro e w1 ⟨cz0, bz0, rfl, hrz0, F0, hb⟩
  obtain ⟨sar0_0, snr0_0, scr0_0, sbr0_0, hcz, _, q0_0, hbz⟩ := Rel_rep.1 hrz0
  obtain rfl : cz0 = #[.int .i64 x.rel.arity, .slice sar0_0 snr0_0 scr0_0] := by cases cz0; simpa using hcz
  obtain rfl := hbz.symm
  clear hcz hrz0
  replace H := H.up hb
  clear hb ca0
  have hcz0 := H.c.cell
  have hfz0 := H.c.free
  have H0_0 : Three w #[.string x.name, .int .i64 x.rel.arity, .slice sa0 sn0 sc0] #[.string ⟨#[]⟩, .int .i64 0, .slice none 0 0] #[.string x.name, .int .i64 x.rel.arity, .slice none 0 0] _ := H.set 1 (.int .i64 x.rel.arity) (by simp) rfl
  have H0_1 : Three w #[.string x.name, .int .i64 x.rel.arity, .slice sa0 sn0 sc0] #[.string ⟨#[]⟩, .int .i64 0, .slice none 0 0] #[.string x.name, .int .i64 x.rel.arity, .slice sar0_0 snr0_0 scr0_0] _ := H0_0.set 2 (.slice sar0_0 snr0_0 scr0_0) (by simp) rfl
  have hS0 := (((Same.refl (w.heap.size + 1 + 1 + 1) w1).set (g := w.heap.size + 1 + 1) (by omega) 1 (.int .i64 x.rel.arity)).set (g := w.heap.size + 1 + 1) (by omega) 2 (.slice sar0_0 snr0_0 scr0_0))
  have hge0 : ∀ c ∈ sbr0_0, w.heap.size + 1 + 1 + 1 ≤ c := fun c hc => Nat.le_trans hz0 (F0.ge c hc)
  replace q0_0 := q0_0.same hS0 hge0
  replace F0 := F0.same hS0 hge0
  replace H := H0_1
  have dz := H.z.cell
  have ez := H.z.free
  have hcc := H.c.cell
  go_wp2_with fail
  refine bodyPost_ret (v := .agg #[.string x.name, .int .i64 x.rel.arity, .slice sar0_0 snr0_0 scr0_0]) (by simp [results, Try.results124, go_sem, dz]; try rfl) rfl ?_
  have hSf := ((((Same.refl (w.heap.size + 1 + 1 + 1) ((w1.setCell ⟨w.heap.size + 1 + 1, 1, none⟩ (.int .i64 x.rel.arity)).setCell ⟨w.heap.size + 1 + 1, 2, none⟩ (.slice sar0_0 snr0_0 scr0_0))).set (g := w.heap.size + 1) (by omega) 0 (.string x.name)).set (g := w.heap.size + 1) (by omega) 1 (.int .i64 x.rel.arity)).set (g := w.heap.size + 1) (by omega) 2 (.slice sar0_0 snr0_0 scr0_0))
  refine ⟨#[.string x.name, .int .i64 x.rel.arity, .slice sar0_0 snr0_0 scr0_0], _, rfl, Named_rep.2 ⟨sar0_0, snr0_0, scr0_0, _, rfl, f0, f1, q0_0.same hSf hge0, rfl⟩, ?_, (((H.below.setCell (p := ⟨w.heap.size + 1, 0, none⟩) (by simp) (.string x.name)).setCell (p := ⟨w.heap.size + 1, 1, none⟩) (by simp) (.int .i64 x.rel.arity)).setCell (p := ⟨w.heap.size + 1, 2, none⟩) (by simp) (.slice sar0_0 snr0_0 scr0_0))⟩
  exact ((F0.same hSf hge0).mono (by omega))

set_option maxHeartbeats 800000 in
theorem szNamedS_any (a : Option Addr) (n cap : Nat) (xs : List (Namedt)) (bs : List Nat) (left : Int) (w : World) (h : SliceRep namedE w a n cap xs bs) (l0 : 0 ≤ left) (l1 : left ≤ 1048576) :
    Calls Try.prog 63 #[.slice a n cap, .int .i64 left] w (RetSz (xs.length ≤ 1048576 ∧ ∀ y ∈ xs, smallNamed y) left w) := by
  have hmax := h.max
  obtain rfl := h.1
  by_cases n0 : left - (xs.length : Int) < 0
  · go_enter Try.func63, Try.ntmps63
    go_wp2_with fail
    go_ret
    exact ⟨-1, rfl, by omega, by omega, fun h => absurd h (by omega), Below.refl _ _⟩
  · have m0 : 0 ≤ left - (xs.length : Int) := by omega
    go_enter Try.func63, Try.ntmps63
    go_wp2_with fail
    go_loopw [1, 5] (fun l i W => ∃ (k : Nat) (r : Int), k ≤ xs.length ∧ i = .int .i64 k ∧ l = .int .i64 r ∧ 0 ≤ r ∧ r ≤ left ∧ AllTo smallNamed xs k ∧ Below w.heap.size w W) (fun _ i _ => xs.length - (intOf i).toNat)
    case atStart => exact ⟨0, _, Nat.zero_le _, rfl, rfl, m0, by omega, .zero, Below.refl _ _⟩
    case round =>
      obtain ⟨k, r, hk, rfl, rfl, r0, r1, hall, hB⟩ := hrel
      by_cases hlt : k < xs.length
      · obtain ⟨g, off, cs, bk, rfl, hr, hc, hbk, _⟩ := (h.up hB).get hlt
        obtain ⟨sa0, sn0, sc0, sb0, rfl, f0, f1, f2, hbs⟩ := Named_rep.1 hr
        obtain rfl := hbs.symm
        have c0 : wr.cell? ⟨g, off + k * 3, none⟩ = some (.string xs[k].name) := hc 0 _ rfl
        have c1 : wr.cell? ⟨g, off + k * 3 + 1, none⟩ = some (.int .i64 xs[k].rel.arity) := hc 1 _ rfl
        have c2 : wr.cell? ⟨g, off + k * 3 + 2, none⟩ = some (.slice sa0 sn0 sc0) := hc 2 _ rfl
        clear hc
        go_wp2_with fail
        refine (szNamed_any _ xs[k] _ _ _ hr r0 (by omega)).mono ?_
        rintro e w1 ⟨r', rfl, g0, g1, hs, hb⟩
        have hB1 := below_up hB hb (Nat.le_refl _)
        clear hb
        by_cases n1 : r' < 0
        · go_wp2_with fail
          go_ret
          exact ⟨-1, rfl, by omega, by omega, fun h => absurd h (by omega), hB1⟩
        · have m1 : 0 ≤ r' := by omega
          have hall1 := hall.succ hlt (hs m1)
          go_wp2_with fail
          go_roundw
          case rel => exact ⟨k + 1, r', by omega, by go_num, rfl, m1, by omega, hall1, hB1⟩
          case measure => simp [intOf]; omega
      · obtain rfl : k = xs.length := by omega
        have hall1 := hall.done
        clear hall
        go_wp2_with fail
        go_ret
        exact ⟨r, rfl, by omega, by omega, fun _ => ⟨by omega, hall1⟩, hB⟩

set_option maxHeartbeats 1600000 in
theorem eqNamedS_any (a : Option Addr) (n cap : Nat) (a' : Option Addr) (n' cap' : Nat) (xs : List (Namedt)) (bs bs' : List Nat) (w : World) (h : SliceRep namedE w a n cap xs bs) (h' : SliceRep namedE w a' n' cap' xs bs') :
    Calls Try.prog 69 #[.slice a n cap, .slice a' n' cap'] w fun e w' => e = .returned (.bool true) ∧ Below w.heap.size w w' := by
  have hmax := h.max
  obtain rfl := h.1
  obtain rfl := h'.1
  go_enter Try.func69, Try.ntmps69
  go_wp2_with fail
  go_loopw [5] (fun i W => ∃ (k : Nat), k ≤ xs.length ∧ i = .int .i64 k ∧ Below w.heap.size w W) (fun i _ => xs.length - (intOf i).toNat)
  case atStart => exact ⟨0, Nat.zero_le _, rfl, Below.refl _ _⟩
  case round =>
    obtain ⟨k, hk, rfl, hB⟩ := hrel
    by_cases hlt : k < xs.length
    · obtain ⟨g, off, cs, bk, rfl, hr, hc, hbk, _⟩ := (h.up hB).get hlt
      obtain ⟨sa0, sn0, sc0, sb0, rfl, f0, f1, f2, hbs⟩ := Named_rep.1 hr
      obtain rfl := hbs.symm
      have c0 : wr.cell? ⟨g, off + k * 3, none⟩ = some (.string xs[k].name) := hc 0 _ rfl
      have c1 : wr.cell? ⟨g, off + k * 3 + 1, none⟩ = some (.int .i64 xs[k].rel.arity) := hc 1 _ rfl
      have c2 : wr.cell? ⟨g, off + k * 3 + 2, none⟩ = some (.slice sa0 sn0 sc0) := hc 2 _ rfl
      clear hc
      have hlty := hlt
      obtain ⟨g', off', csy, bky, rfl, hry, hcy, hbky, _⟩ := (h'.up hB).get hlty
      obtain ⟨say0, sny0, scy0, sby0, rfl, p0, p1, p2, hbs⟩ := Named_rep.1 hry
      obtain rfl := hbs.symm
      have d0 : wr.cell? ⟨g', off' + k * 3, none⟩ = some (.string xs[k].name) := hcy 0 _ rfl
      have d1 : wr.cell? ⟨g', off' + k * 3 + 1, none⟩ = some (.int .i64 xs[k].rel.arity) := hcy 1 _ rfl
      have d2 : wr.cell? ⟨g', off' + k * 3 + 2, none⟩ = some (.slice say0 sny0 scy0) := hcy 2 _ rfl
      clear hcy
      have i0 : (0 : Int) ≤ (k : Int) := by omega
      have i1 : (k : Int) < (xs.length : Int) := by omega
      have K : Kept w [(⟨g, off + k * 3, none⟩, .string xs[k].name), (⟨g, off + k * 3 + 1, none⟩, .int .i64 xs[k].rel.arity), (⟨g, off + k * 3 + 2, none⟩, .slice sa0 sn0 sc0), (⟨g', off' + k * 3, none⟩, .string xs[k].name), (⟨g', off' + k * 3 + 1, none⟩, .int .i64 xs[k].rel.arity), (⟨g', off' + k * 3 + 2, none⟩, .slice say0 sny0 scy0)] wr := (((((((Kept.at_ hB).cons d2).cons d1).cons d0).cons c2).cons c1).cons c0)
      go_wp2_with fail
      go_region_held3 (fun W => Kept w [(⟨g, off + k * 3, none⟩, .string xs[k].name), (⟨g, off + k * 3 + 1, none⟩, .int .i64 xs[k].rel.arity), (⟨g, off + k * 3 + 2, none⟩, .slice sa0 sn0 sc0), (⟨g', off' + k * 3, none⟩, .string xs[k].name), (⟨g', off' + k * 3 + 1, none⟩, .int .i64 xs[k].rel.arity), (⟨g', off' + k * 3 + 2, none⟩, .slice say0 sny0 scy0)] W ∧ W.cell? ⟨g, off + k * 3, none⟩ = some (.string xs[k].name) ∧ W.cell? ⟨g, off + k * 3 + 1, none⟩ = some (.int .i64 xs[k].rel.arity) ∧ W.cell? ⟨g, off + k * 3 + 2, none⟩ = some (.slice sa0 sn0 sc0) ∧ W.cell? ⟨g', off' + k * 3, none⟩ = some (.string xs[k].name) ∧ W.cell? ⟨g', off' + k * 3 + 1, none⟩ = some (.int .i64 xs[k].rel.arity) ∧ W.cell? ⟨g', off' + k * 3 + 2, none⟩ = some (.slice say0 sny0 scy0))
        (first | exact Kept.c6 (Kept.up (by assumption) (And.left (by assumption))) | exact K.drew.c6)
        ((go_at_call 129; refine (eqNamed_any _ _ xs[k] _ _ _ (namedE.up hr (by first | exact (Below.refl _ _).drew | exact (Below.refl _ _))) (namedE.up hry (by first | exact (Below.refl _ _).drew | exact (Below.refl _ _)))).mono ?_; rintro e w3 ⟨rfl, hb3⟩))
      rename_i hh
      have hB1 := hh.1.1
      clear hh K c0 c1 c2 d0 d1 d2
      go_wp2_with fail
      go_roundw
      case rel => exact ⟨k + 1, by omega, by go_num, hB1⟩
      case measure => simp [intOf]; omega
    · obtain rfl : k = xs.length := by omega
      go_wp2_with fail
      go_ret
      exact ⟨rfl, hB⟩

theorem zeroNamed (w : World) : namedE.rep w [.string ⟨#[]⟩, .int .i64 0, .slice none 0 0] ⟨ByteArray.empty, ⟨0, []⟩⟩ [] := by
  exact Named_rep.2 ⟨none, 0, 0, [], rfl, by simp, by decide, ⟨rfl, Nat.le_refl _, Nat.zero_le _, (fun _ => rfl), .inl ⟨rfl, rfl⟩⟩, rfl⟩
theorem infoNamed : (Try.prog.info? 123).map (fun i => (i.zero, i.size, i.bytes)) = some (some (.agg #[.string ⟨#[]⟩, .int .i64 0, .slice none 0 0]), 3, 48) := by kernel_rfl
set_option maxHeartbeats 1600000 in
theorem toNamedS_any (a : Option Addr) (n cap : Nat) (xs : List (Namedt)) (bs : List Nat) (w : World) (h : SliceRep namedE w a n cap xs bs) (hsm : xs.length ≤ 1048576 ∧ ∀ y ∈ xs, smallNamed y) :
    Calls Try.prog 66 #[.slice a n cap] w (RetSlice namedE w xs) := by
  have hmax := h.max
  have hsm0 := hsm.1
  have HSM := Lib.hid hsm.2
  clear hsm
  obtain rfl := h.1
  obtain ⟨i0, hi, hz0, hz1, hz2⟩ := info_parts infoNamed
  have hmk := fun W => run_make_rowN (P := Try.prog) 45 123 i0 _ Try.underlying45 hi hz0 .i64 .i64 xs.length xs.length (Nat.le_refl _) (by rw [hz2]; omega) hmax W
  rw [hz1] at hmk
  clear hi hz0 hz1 hz2
  go_enter Try.func66, Try.ntmps66
  go_wp2_with fail
  obtain ⟨bs0, hS0, hF0⟩ := SliceRep.made (e := namedE) (z := #[.string ⟨#[]⟩, .int .i64 0, .slice none 0 0]) (x0 := ⟨ByteArray.empty, ⟨0, []⟩⟩) (fun w => zeroNamed w) (by decide) xs.length (by unfold maxLen; omega) w 123
  have hb0 := (Below.refl w.heap.size w).alloc (Nat.le_refl _) (.cells (madeCells #[.string ⟨#[]⟩, .int .i64 0, .slice none 0 0] (xs.length * namedE.size)) 123)
  have hg0 : w.heap.size < (w.alloc (.cells (madeCells #[.string ⟨#[]⟩, .int .i64 0, .slice none 0 0] (xs.length * namedE.size)) 123)).heap.size := by simp
  rw [show namedE.size = 3 from rfl] at hS0 hF0 hb0 hg0
  generalize w.alloc (.cells (madeCells #[.string ⟨#[]⟩, .int .i64 0, .slice none 0 0] (xs.length * 3)) 123) = w0 at *
  clear hmk
  go_loopw [4] (fun i W => ∃ (k : Nat) (ys : List (Namedt)) (bs' : List Nat), k ≤ xs.length ∧ i = .int .i64 k ∧ Filled xs ⟨ByteArray.empty, ⟨0, []⟩⟩ k ys ∧ SliceRep namedE W (some ⟨w.heap.size, 0, none⟩) xs.length xs.length ys bs' ∧ Fresh w.heap.size W bs' ∧ Below w.heap.size w W ∧ w.heap.size < W.heap.size) (fun i _ => xs.length - (intOf i).toNat)
  case atStart => exact ⟨0, _, bs0, Nat.zero_le _, rfl, .zero, hS0, hF0, hb0, hg0⟩
  case round =>
    clear hS0 hF0 hb0 hg0
    obtain ⟨k, ys, bs', hk, rfl, hfill, hS, hF, hB, hG⟩ := hrel
    by_cases hlt : k < xs.length
    · obtain ⟨g, off, cs, bk, rfl, hr, hc, hbk, _⟩ := (h.up hB).get hlt
      obtain ⟨sa0, sn0, sc0, sb0, rfl, f0, f1, f2, hbs⟩ := Named_rep.1 hr
      obtain rfl := hbs.symm
      have c0 : wr.cell? ⟨g, off + k * 3, none⟩ = some (.string xs[k].name) := hc 0 _ rfl
      have c1 : wr.cell? ⟨g, off + k * 3 + 1, none⟩ = some (.int .i64 xs[k].rel.arity) := hc 1 _ rfl
      have c2 : wr.cell? ⟨g, off + k * 3 + 2, none⟩ = some (.slice sa0 sn0 sc0) := hc 2 _ rfl
      clear hc
      go_wp2_with fail
      refine (toNamed_any _ xs[k] _ _ hr (HSM.out _ (List.getElem_mem hlt))).mono ?_
      rintro e w1 ⟨cz, bz, rfl, hrz, hFz, hb1⟩
      have hcz := Named_rep.1 hrz
      obtain ⟨saz0, snz0, scz0, sbz0, hcz, q0, q1, q2, hbz⟩ := hcz
      obtain rfl : cz = #[.string xs[k].name, .int .i64 xs[k].rel.arity, .slice saz0 snz0 scz0] := by cases cz; simpa using hcz
      clear hcz
      have hS1 := hS.up hb1
      have hF1 := hF.up hb1
      have hB1 := below_up hB hb1 (Nat.le_refl _)
      have hly := hfill.len hk
      have hdis : ∀ c ∈ bz, c ∉ bs' := fun c hc hc' => by have h1 := (hFz.2 c hc).1; have h2 := hF.lt c hc'; omega
      have hFz1 : Fresh w.heap.size w1 bz := hFz.mono (Nat.le_of_lt hG)
      obtain ⟨cs1, bo, hr1, _, hsl⟩ := hS1.slot hF1 (k := k) (by omega)
      obtain ⟨sao0, sno0, sco0, sbo0, rfl, _, _, _, hbo⟩ := Named_rep.1 hr1
      have s0 := hsl 0 _ rfl
      have s1 := hsl 1 _ rfl
      have s2 := hsl 2 _ rfl
      rw [Nat.zero_add, show namedE.size = 3 from rfl] at s0 s1 s2
      simp only [Nat.add_zero] at s0
      clear hsl
      obtain ⟨bs2, hS2, hF2, _⟩ := hS1.store hF1 (by decide) (k := k) (by omega) hrz hFz1 hdis
      have hB2 := setCells_below (Nat.le_refl w.heap.size) [.string xs[k].name, .int .i64 xs[k].rel.arity, .slice saz0 snz0 scz0] w1 (0 + k * namedE.size) hB1
      have hG2 : w.heap.size < (setCells w1 w.heap.size (0 + k * namedE.size) [.string xs[k].name, .int .i64 xs[k].rel.arity, .slice saz0 snz0 scz0]).heap.size := by rw [setCells_size]; have := hb1.size; omega
      rw [Nat.zero_add, show namedE.size = 3 from rfl] at hS2 hF2 hB2 hG2
      have hf2 := hfill.succ hlt
      clear hfill hS hF hS1 hF1 hdis c0 c1 c2 
      go_wp2_with fail
      go_roundw
      case rel => exact ⟨k + 1, _, bs2, by omega, by go_num, hf2, hS2, hF2, hB2, hG2⟩
      case measure => simp [intOf]; omega
    · obtain rfl : k = xs.length := by omega
      obtain rfl := hfill.done
      go_wp2_with fail
      go_ret
      exact ⟨_, _, _, _, rfl, hS, hF, hB⟩

structure Storet where
  rels : List (Namedt)
def storeE : Enc Storet := isoE (pairE (sliceE namedE) unitE) (fun x => (x.rels, ()))
theorem Store_rep {w : World} {cs : List Value} {x : Storet} {bs : List Nat} : storeE.rep w cs x bs ↔ ∃ (sa0 : Option Addr) (sn0 sc0 : Nat) (sb0 : List Nat), cs = [.slice sa0 sn0 sc0] ∧ SliceRep namedE w sa0 sn0 sc0 x.rels sb0 ∧ bs = sb0 := by
  constructor
  · rintro ⟨c0, r0, d0, q0, rfl, rfl, h0, rfl, rfl⟩
    obtain ⟨va0, vn0, vc0, rfl, f0⟩ := h0
    exact ⟨va0, vn0, vc0, _, by simp, f0, by simp⟩
  · rintro ⟨sa0, sn0, sc0, sb0, rfl, f0, hbs⟩
    obtain rfl := hbs.symm
    exact ⟨[.slice sa0 sn0 sc0], [], sb0, [], rfl, by simp, ⟨sa0, sn0, sc0, rfl, f0⟩, ⟨rfl, rfl⟩⟩
theorem opens_lStore : Opens Try.prog storeE 42 :=
  opens_iso (fun x => ⟨x.1⟩) (fun _ => rfl) (opens_struct Try.underlying42 (by kernel_rfl) (opensF_cons rfl (by kernel_rfl) (opens_slice Try.underlying40 (by kernel_rfl) (by decide) opens_lNamed) opensF_nil))
def smallStore (x : Storet) : Prop := (x.rels.length ≤ 1048576 ∧ ∀ y ∈ x.rels, smallNamed y)

set_option maxHeartbeats 800000 in
theorem szStore_any (cs : List Value) (x : Storet) (bs : List Nat) (left : Int) (w : World) (h : storeE.rep w cs x bs) (l0 : 0 ≤ left) (l1 : left ≤ 1048576) :
    Calls Try.prog 17 #[.agg cs.toArray, .int .i64 left] w (RetSz (smallStore x) left w) := by
  obtain ⟨sa0, sn0, sc0, sb0, rfl, f0, hbs⟩ := Store_rep.1 h
  obtain rfl := hbs.symm
  have H := ((Held.start w).box_ #[.slice sa0 sn0 sc0] 42).s1
  go_enter Try.func17, Try.ntmps17
  go_wp2_with fail
  refine (szNamedS_any sa0 sn0 sc0 x.rels sb0 _ _ (f0.up H.1.below) (by omega) (by omega)).mono ?_
  rintro e w0 ⟨r0, rfl, g0, k0, s0, hb⟩
  replace H := (H.1.up hb).s1
  clear hb
  by_cases n0 : r0 < 0
  · go_wp2_with fail
    go_ret
    exact ⟨-1, rfl, by omega, by omega, fun h => absurd h (by omega), H.1.below⟩
  · have m0 : 0 ≤ r0 := by omega
    go_wp2_with fail
    go_ret
    exact ⟨r0, rfl, by omega, by omega, fun _ => by unfold smallStore; exact s0 m0, H.1.below⟩

set_option maxHeartbeats 800000 in
theorem eqStore_any (cs ds : List Value) (x : Storet) (bs bs' : List Nat) (w : World) (h : storeE.rep w cs x bs) (h' : storeE.rep w ds x bs') :
    Calls Try.prog 21 #[.agg cs.toArray, .agg ds.toArray] w fun e w' => e = .returned (.bool true) ∧ Below w.heap.size w w' := by
  obtain ⟨sa0, sn0, sc0, sb0, rfl, f0, hbs⟩ := Store_rep.1 h
  obtain rfl := hbs.symm
  obtain ⟨say0, sny0, scy0, sby0, rfl, g0, hbs⟩ := Store_rep.1 h'
  obtain rfl := hbs.symm
  have H := ((Held.start w).box_ #[.slice sa0 sn0 sc0] 47).box_ #[.slice say0 sny0 scy0] 47
  rw [show (w.alloc (.cells #[.slice sa0 sn0 sc0] 47)).heap.size = w.heap.size + 1 by simp] at H
  replace H := H.s2
  go_enter Try.func21, Try.ntmps21
  go_wp2_with fail
  refine (eqNamedS_any _ _ _ _ _ _ x.rels _ _ _ (f0.up H.1.below) (g0.up H.1.below)).mono ?_
  rintro e w0 ⟨rfl, hb⟩
  replace H := (H.1.up hb).s2
  clear hb
  go_wp2_with fail
  go_ret
  exact ⟨rfl, H.1.below⟩

set_option maxHeartbeats 1600000 in
theorem toStore_any (cs : List Value) (x : Storet) (bs : List Nat) (w : World) (h : storeE.rep w cs x bs) (hsm : smallStore x) :
    Calls Try.prog 19 #[.agg cs.toArray] w (RetAgg storeE w x) := by
  obtain ⟨sa0, sn0, sc0, sb0, rfl, f0, hbs⟩ := Store_rep.1 h
  obtain rfl := hbs.symm
  have HSM := Lib.hid hsm
  clear hsm h
  have H := Three.start w #[.slice sa0 sn0 sc0] #[.slice none 0 0] #[.slice none 0 0] 42 47 47
  go_enter Try.func19, Try.ntmps19
  go_wp2_with fail
  generalize ((w.alloc (.cells #[.slice sa0 sn0 sc0] 42)).alloc (.cells #[.slice none 0 0] 47)).alloc (.cells #[.slice none 0 0] 47) = w0 at *
  have hz0 := H.lt
  have ca0 := H.a.cell
  refine (toNamedS_any _ _ _ x.rels _ _ (f0.up H.below) HSM.out).mono ?_
  rintro e w1 ⟨ra0, rn0, rc0, rb0, rfl, q0_0, F0, hb⟩
  replace H := H.up hb
  clear hb ca0
  have hcz0 := H.c.cell
  have hfz0 := H.c.free
  have H0_0 : Three w #[.slice sa0 sn0 sc0] #[.slice none 0 0] #[.slice ra0 rn0 rc0] _ := H.set 0 (.slice ra0 rn0 rc0) (by simp) rfl
  have hS0 := ((Same.refl (w.heap.size + 1 + 1 + 1) w1).set (g := w.heap.size + 1 + 1) (by omega) 0 (.slice ra0 rn0 rc0))
  have hge0 : ∀ c ∈ rb0, w.heap.size + 1 + 1 + 1 ≤ c := fun c hc => Nat.le_trans hz0 (F0.ge c hc)
  replace q0_0 := q0_0.same hS0 hge0
  replace F0 := F0.same hS0 hge0
  replace H := H0_0
  have dz := H.z.cell
  have ez := H.z.free
  have hcc := H.c.cell
  go_wp2_with fail
  refine bodyPost_ret (v := .agg #[.slice ra0 rn0 rc0]) (by simp [results, Try.results19, go_sem, dz]; try rfl) rfl ?_
  have hSf := ((Same.refl (w.heap.size + 1 + 1 + 1) (w1.setCell ⟨w.heap.size + 1 + 1, 0, none⟩ (.slice ra0 rn0 rc0))).set (g := w.heap.size + 1) (by omega) 0 (.slice ra0 rn0 rc0))
  refine ⟨#[.slice ra0 rn0 rc0], _, rfl, Store_rep.2 ⟨ra0, rn0, rc0, _, rfl, q0_0.same hSf hge0, rfl⟩, ?_, (H.below.setCell (p := ⟨w.heap.size + 1, 0, none⟩) (by simp) (.slice ra0 rn0 rc0))⟩
  exact ((F0.same hSf hge0).mono (by omega))

end Go.Proofs.Ytgmlecghklaomaa

/- The laws' own functions: GenD (printed by gen.py) -/
import Derived.Test.YtgmlecghklaomaaRow
import Derived.Test.YtgmlecghklaomaaMem
import Derived.Test.YtgmlecghklaomaaText
import Derived.Test.YtgmlecghklaomaaGenC
import Derived.Deep.RegionHeld3
namespace Go.Proofs.Ytgmlecghklaomaa
open Go.RowKit
set_option linter.unusedVariables false
set_option maxRecDepth 100000

structure Changet where
  name : ByteArray
  plus : Relt
  minus : Relt
def changeE : Enc Changet := isoE (pairE strE (pairE relE (pairE relE unitE))) (fun x => (x.name, x.plus, x.minus, ()))
theorem Change_rep {w : World} {cs : List Value} {x : Changet} {bs : List Nat} : changeE.rep w cs x bs ↔ ∃ (sa0 : Option Addr) (sn0 sc0 : Nat) (sb0 : List Nat) (sa1 : Option Addr) (sn1 sc1 : Nat) (sb1 : List Nat), cs = [.string x.name, .int .i64 x.plus.arity, .slice sa0 sn0 sc0, .int .i64 x.minus.arity, .slice sa1 sn1 sc1] ∧ x.name.size ≤ maxLen ∧ (Lit.int .i64 x.plus.arity).wf = true ∧ SliceRep rowE w sa0 sn0 sc0 x.plus.rows sb0 ∧ (Lit.int .i64 x.minus.arity).wf = true ∧ SliceRep rowE w sa1 sn1 sc1 x.minus.rows sb1 ∧ bs = sb0 ++ sb1 := by
  constructor
  · rintro ⟨c0, r0, d0, q0, rfl, rfl, h0, c1, r1, d1, q1, rfl, rfl, h1, c2, r2, d2, q2, rfl, rfl, h2, rfl, rfl⟩
    obtain ⟨rfl, f0, rfl⟩ := h0
    obtain ⟨va0, vn0, vc0, vb0, rfl, f1_0, f1_1, hbs⟩ := Rel_rep.1 h1
    obtain rfl := hbs.symm
    obtain ⟨va1, vn1, vc1, vb1, rfl, f2_0, f2_1, hbs⟩ := Rel_rep.1 h2
    obtain rfl := hbs.symm
    exact ⟨_, _, _, _, _, _, _, _, by simp, f0, f1_0, f1_1, f2_0, f2_1, by simp⟩
  · rintro ⟨sa0, sn0, sc0, sb0, sa1, sn1, sc1, sb1, rfl, f0, f1, f2, f3, f4, hbs⟩
    obtain rfl := hbs.symm
    exact ⟨[.string x.name], [.int .i64 x.plus.arity, .slice sa0 sn0 sc0, .int .i64 x.minus.arity, .slice sa1 sn1 sc1], [], (sb0) ++ (sb1), rfl, by simp, ⟨rfl, f0, rfl⟩, ⟨[.int .i64 x.plus.arity, .slice sa0 sn0 sc0], [.int .i64 x.minus.arity, .slice sa1 sn1 sc1], (sb0), (sb1), rfl, by simp, Rel_rep.2 ⟨sa0, sn0, sc0, sb0, rfl, f1, f2, rfl⟩, ⟨[.int .i64 x.minus.arity, .slice sa1 sn1 sc1], [], (sb1), [], rfl, by simp, Rel_rep.2 ⟨sa1, sn1, sc1, sb1, rfl, f3, f4, rfl⟩, ⟨rfl, rfl⟩⟩⟩⟩
theorem opens_lChange : Opens Try.prog changeE 193 :=
  opens_iso (fun x => ⟨x.1, x.2.1, x.2.2.1⟩) (fun _ => rfl) (opens_struct Try.underlying193 (by kernel_rfl) (opensF_cons rfl (by kernel_rfl) (opens_string Try.underlying9) (opensF_cons rfl (by kernel_rfl) opens_lRel (opensF_cons rfl (by kernel_rfl) opens_lRel opensF_nil))))
def smallChange (x : Changet) : Prop := x.name.size ≤ 1048576 ∧ smallRel x.plus ∧ smallRel x.minus

set_option maxHeartbeats 800000 in
theorem szChange_any (cs : List Value) (x : Changet) (bs : List Nat) (left : Int) (w : World) (h : changeE.rep w cs x bs) (l0 : 0 ≤ left) (l1 : left ≤ 1048576) :
    Calls Try.prog 134 #[.agg cs.toArray, .int .i64 left] w (RetSz (smallChange x) left w) := by
  obtain ⟨sa0, sn0, sc0, sb0, sa1, sn1, sc1, sb1, rfl, f0, f1, f2, f3, f4, hbs⟩ := Change_rep.1 h
  obtain rfl := hbs.symm
  unfold maxLen at *
  have H := ((Held.start w).box_ #[.string x.name, .int .i64 x.plus.arity, .slice sa0 sn0 sc0, .int .i64 x.minus.arity, .slice sa1 sn1 sc1] 193).s1
  go_enter Try.func134, Try.ntmps134
  by_cases n0 : left - (x.name.size : Int) < 0
  · go_wp2_with fail
    go_ret
    exact ⟨-1, rfl, by omega, by omega, fun h => absurd h (by omega), H.1.below⟩
  · have m0 : 0 ≤ left - (x.name.size : Int) := by omega
    go_wp2_with fail
    refine (szRel_any _ x.plus _ _ _ (Rel_rep.2 ⟨sa0, sn0, sc0, sb0, rfl, f1, f2.up H.1.below, rfl⟩) (by omega) (by omega)).mono ?_
    rintro e w1 ⟨r1, rfl, g1, k1, s1, hb⟩
    replace H := (H.1.up hb).s1
    clear hb
    by_cases n1 : r1 < 0
    · go_wp2_with fail
      go_ret
      exact ⟨-1, rfl, by omega, by omega, fun h => absurd h (by omega), H.1.below⟩
    · have m1 : 0 ≤ r1 := by omega
      go_wp2_with fail
      refine (szRel_any _ x.minus _ _ _ (Rel_rep.2 ⟨sa1, sn1, sc1, sb1, rfl, f3, f4.up H.1.below, rfl⟩) (by omega) (by omega)).mono ?_
      rintro e w2 ⟨r2, rfl, g2, k2, s2, hb⟩
      replace H := (H.1.up hb).s1
      clear hb
      by_cases n2 : r2 < 0
      · go_wp2_with fail
        go_ret
        exact ⟨-1, rfl, by omega, by omega, fun h => absurd h (by omega), H.1.below⟩
      · have m2 : 0 ≤ r2 := by omega
        go_wp2_with fail
        go_ret
        exact ⟨r2, rfl, by omega, by omega, fun _ => by unfold smallChange; exact ⟨(show x.name.size ≤ 1048576 by omega), s1 m1, s2 m2⟩, H.1.below⟩

set_option maxHeartbeats 800000 in
theorem eqChange_any (cs ds : List Value) (x : Changet) (bs bs' : List Nat) (w : World) (h : changeE.rep w cs x bs) (h' : changeE.rep w ds x bs') :
    Calls Try.prog 139 #[.agg cs.toArray, .agg ds.toArray] w fun e w' => e = .returned (.bool true) ∧ Below w.heap.size w w' := by
  obtain ⟨sa0, sn0, sc0, sb0, sa1, sn1, sc1, sb1, rfl, f0, f1, f2, f3, f4, hbs⟩ := Change_rep.1 h
  obtain rfl := hbs.symm
  obtain ⟨say0, sny0, scy0, sby0, say1, sny1, scy1, sby1, rfl, g0, g1, g2, g3, g4, hbs⟩ := Change_rep.1 h'
  obtain rfl := hbs.symm
  have H := ((Held.start w).box_ #[.string x.name, .int .i64 x.plus.arity, .slice sa0 sn0 sc0, .int .i64 x.minus.arity, .slice sa1 sn1 sc1] 130).box_ #[.string x.name, .int .i64 x.plus.arity, .slice say0 sny0 scy0, .int .i64 x.minus.arity, .slice say1 sny1 scy1] 130
  rw [show (w.alloc (.cells #[.string x.name, .int .i64 x.plus.arity, .slice sa0 sn0 sc0, .int .i64 x.minus.arity, .slice sa1 sn1 sc1] 130)).heap.size = w.heap.size + 1 by simp] at H
  replace H := H.s2
  go_enter Try.func139, Try.ntmps139
  go_wp2_with fail
  refine (eqRel_any _ _ x.plus _ _ _ (Rel_rep.2 ⟨sa0, sn0, sc0, sb0, rfl, f1, f2.up H.1.below, rfl⟩) (Rel_rep.2 ⟨say0, sny0, scy0, sby0, rfl, g1, g2.up H.1.below, rfl⟩)).mono ?_
  rintro e w1 ⟨rfl, hb⟩
  replace H := (H.1.up hb).s2
  clear hb
  go_wp2_with fail
  refine (eqRel_any _ _ x.minus _ _ _ (Rel_rep.2 ⟨sa1, sn1, sc1, sb1, rfl, f3, f4.up H.1.below, rfl⟩) (Rel_rep.2 ⟨say1, sny1, scy1, sby1, rfl, g3, g4.up H.1.below, rfl⟩)).mono ?_
  rintro e w2 ⟨rfl, hb⟩
  replace H := (H.1.up hb).s2
  clear hb
  go_wp2_with fail
  go_ret
  exact ⟨rfl, H.1.below⟩

set_option maxHeartbeats 1600000 in
theorem toChange_any (cs : List Value) (x : Changet) (bs : List Nat) (w : World) (h : changeE.rep w cs x bs) (hsm : smallChange x) :
    Calls Try.prog 135 #[.agg cs.toArray] w (RetAgg changeE w x) := by
  obtain ⟨sa0, sn0, sc0, sb0, sa1, sn1, sc1, sb1, rfl, f0, f1, f2, f3, f4, hbs⟩ := Change_rep.1 h
  obtain rfl := hbs.symm
  have HSM := Lib.hid hsm
  clear hsm h
  have H := Three.start w #[.string x.name, .int .i64 x.plus.arity, .slice sa0 sn0 sc0, .int .i64 x.minus.arity, .slice sa1 sn1 sc1] #[.string ⟨#[]⟩, .int .i64 0, .slice none 0 0, .int .i64 0, .slice none 0 0] #[.string x.name, .int .i64 0, .slice none 0 0, .int .i64 0, .slice none 0 0] 193 130 130
  go_enter Try.func135, Try.ntmps135
  go_wp2_with fail
  generalize ((w.alloc (.cells #[.string x.name, .int .i64 x.plus.arity, .slice sa0 sn0 sc0, .int .i64 x.minus.arity, .slice sa1 sn1 sc1] 193)).alloc (.cells #[.string ⟨#[]⟩, .int .i64 0, .slice none 0 0, .int .i64 0, .slice none 0 0] 130)).alloc (.cells #[.string x.name, .int .i64 0, .slice none 0 0, .int .i64 0, .slice none 0 0] 130) = w0 at *
  have hz0 := H.lt
  have ca0 := H.a.cell
  refine (toRel_any _ x.plus _ _ (Rel_rep.2 ⟨sa0, sn0, sc0, sb0, rfl, f1, f2.up H.below, rfl⟩) HSM.out.2.1).mono ?_
  rintro e w1 ⟨cz0, bz0, rfl, hrz0, F0, hb⟩
  obtain ⟨sar0_0, snr0_0, scr0_0, sbr0_0, hcz, _, q0_0, hbz⟩ := Rel_rep.1 hrz0
  obtain rfl : cz0 = #[.int .i64 x.plus.arity, .slice sar0_0 snr0_0 scr0_0] := by cases cz0; simpa using hcz
  obtain rfl := hbz.symm
  clear hcz hrz0
  replace H := H.up hb
  clear hb ca0
  have hcz0 := H.c.cell
  have hfz0 := H.c.free
  have H0_0 : Three w #[.string x.name, .int .i64 x.plus.arity, .slice sa0 sn0 sc0, .int .i64 x.minus.arity, .slice sa1 sn1 sc1] #[.string ⟨#[]⟩, .int .i64 0, .slice none 0 0, .int .i64 0, .slice none 0 0] #[.string x.name, .int .i64 x.plus.arity, .slice none 0 0, .int .i64 0, .slice none 0 0] _ := H.set 1 (.int .i64 x.plus.arity) (by simp) rfl
  have H0_1 : Three w #[.string x.name, .int .i64 x.plus.arity, .slice sa0 sn0 sc0, .int .i64 x.minus.arity, .slice sa1 sn1 sc1] #[.string ⟨#[]⟩, .int .i64 0, .slice none 0 0, .int .i64 0, .slice none 0 0] #[.string x.name, .int .i64 x.plus.arity, .slice sar0_0 snr0_0 scr0_0, .int .i64 0, .slice none 0 0] _ := H0_0.set 2 (.slice sar0_0 snr0_0 scr0_0) (by simp) rfl
  have hS0 := (((Same.refl (w.heap.size + 1 + 1 + 1) w1).set (g := w.heap.size + 1 + 1) (by omega) 1 (.int .i64 x.plus.arity)).set (g := w.heap.size + 1 + 1) (by omega) 2 (.slice sar0_0 snr0_0 scr0_0))
  have hge0 : ∀ c ∈ sbr0_0, w.heap.size + 1 + 1 + 1 ≤ c := fun c hc => Nat.le_trans hz0 (F0.ge c hc)
  replace q0_0 := q0_0.same hS0 hge0
  replace F0 := F0.same hS0 hge0
  have cb0 := H0_1.a.cell
  go_wp2_with fail
  clear cb0
  replace H := H0_1
  clear hS0 H0_0 H0_1  hcz0 hfz0
  generalize ((w1.setCell ⟨w.heap.size + 1 + 1, 1, none⟩ (.int .i64 x.plus.arity)).setCell ⟨w.heap.size + 1 + 1, 2, none⟩ (.slice sar0_0 snr0_0 scr0_0)) = W1 at *
  have hz1 := H.lt
  have hltF0_1 := F0.lt
  have ca1 := H.a.cell
  refine (toRel_any _ x.minus _ _ (Rel_rep.2 ⟨sa1, sn1, sc1, sb1, rfl, f3, f4.up H.below, rfl⟩) HSM.out.2.2).mono ?_
  rintro e w2 ⟨cz1, bz1, rfl, hrz1, F1, hb⟩
  obtain ⟨sar1_0, snr1_0, scr1_0, sbr1_0, hcz, _, q1_0, hbz⟩ := Rel_rep.1 hrz1
  obtain rfl : cz1 = #[.int .i64 x.minus.arity, .slice sar1_0 snr1_0 scr1_0] := by cases cz1; simpa using hcz
  obtain rfl := hbz.symm
  clear hcz hrz1
  replace H := H.up hb
  replace q0_0 := q0_0.up hb
  have hltF0 := F0.lt
  replace F0 := F0.up hb
  clear hb ca1
  have hcz1 := H.c.cell
  have hfz1 := H.c.free
  have H1_0 : Three w #[.string x.name, .int .i64 x.plus.arity, .slice sa0 sn0 sc0, .int .i64 x.minus.arity, .slice sa1 sn1 sc1] #[.string ⟨#[]⟩, .int .i64 0, .slice none 0 0, .int .i64 0, .slice none 0 0] #[.string x.name, .int .i64 x.plus.arity, .slice sar0_0 snr0_0 scr0_0, .int .i64 x.minus.arity, .slice none 0 0] _ := H.set 3 (.int .i64 x.minus.arity) (by simp) rfl
  have H1_1 : Three w #[.string x.name, .int .i64 x.plus.arity, .slice sa0 sn0 sc0, .int .i64 x.minus.arity, .slice sa1 sn1 sc1] #[.string ⟨#[]⟩, .int .i64 0, .slice none 0 0, .int .i64 0, .slice none 0 0] #[.string x.name, .int .i64 x.plus.arity, .slice sar0_0 snr0_0 scr0_0, .int .i64 x.minus.arity, .slice sar1_0 snr1_0 scr1_0] _ := H1_0.set 4 (.slice sar1_0 snr1_0 scr1_0) (by simp) rfl
  have hS1 := (((Same.refl (w.heap.size + 1 + 1 + 1) w2).set (g := w.heap.size + 1 + 1) (by omega) 3 (.int .i64 x.minus.arity)).set (g := w.heap.size + 1 + 1) (by omega) 4 (.slice sar1_0 snr1_0 scr1_0))
  have hge1 : ∀ c ∈ sbr1_0, w.heap.size + 1 + 1 + 1 ≤ c := fun c hc => Nat.le_trans hz1 (F1.ge c hc)
  replace q0_0 := q0_0.same hS1 hge0
  replace F0 := F0.same hS1 hge0
  replace q1_0 := q1_0.same hS1 hge1
  replace F1 := F1.same hS1 hge1
  replace H := H1_1
  have dz := H.z.cell
  have ez := H.z.free
  have hcc := H.c.cell
  go_wp2_with fail
  refine bodyPost_ret (v := .agg #[.string x.name, .int .i64 x.plus.arity, .slice sar0_0 snr0_0 scr0_0, .int .i64 x.minus.arity, .slice sar1_0 snr1_0 scr1_0]) (by simp [results, Try.results135, go_sem, dz]; try rfl) rfl ?_
  have hSf := ((((((Same.refl (w.heap.size + 1 + 1 + 1) ((w2.setCell ⟨w.heap.size + 1 + 1, 3, none⟩ (.int .i64 x.minus.arity)).setCell ⟨w.heap.size + 1 + 1, 4, none⟩ (.slice sar1_0 snr1_0 scr1_0))).set (g := w.heap.size + 1) (by omega) 0 (.string x.name)).set (g := w.heap.size + 1) (by omega) 1 (.int .i64 x.plus.arity)).set (g := w.heap.size + 1) (by omega) 2 (.slice sar0_0 snr0_0 scr0_0)).set (g := w.heap.size + 1) (by omega) 3 (.int .i64 x.minus.arity)).set (g := w.heap.size + 1) (by omega) 4 (.slice sar1_0 snr1_0 scr1_0))
  refine ⟨#[.string x.name, .int .i64 x.plus.arity, .slice sar0_0 snr0_0 scr0_0, .int .i64 x.minus.arity, .slice sar1_0 snr1_0 scr1_0], _, rfl, Change_rep.2 ⟨sar0_0, snr0_0, scr0_0, _, sar1_0, snr1_0, scr1_0, _, rfl, f0, f1, q0_0.same hSf hge0, f3, q1_0.same hSf hge1, rfl⟩, ?_, (((((H.below.setCell (p := ⟨w.heap.size + 1, 0, none⟩) (by simp) (.string x.name)).setCell (p := ⟨w.heap.size + 1, 1, none⟩) (by simp) (.int .i64 x.plus.arity)).setCell (p := ⟨w.heap.size + 1, 2, none⟩) (by simp) (.slice sar0_0 snr0_0 scr0_0)).setCell (p := ⟨w.heap.size + 1, 3, none⟩) (by simp) (.int .i64 x.minus.arity)).setCell (p := ⟨w.heap.size + 1, 4, none⟩) (by simp) (.slice sar1_0 snr1_0 scr1_0))⟩
  exact (Fresh.app ((F0.same hSf hge0).mono (by omega)) ((F1.same hSf hge1).mono (by omega)) (fun c hc hc' => by have h1 := F1.ge c hc'; first | (have h2 := hltF0_1 c hc; omega)))

set_option maxHeartbeats 800000 in
theorem szChangeS_any (a : Option Addr) (n cap : Nat) (xs : List (Changet)) (bs : List Nat) (left : Int) (w : World) (h : SliceRep changeE w a n cap xs bs) (l0 : 0 ≤ left) (l1 : left ≤ 1048576) :
    Calls Try.prog 72 #[.slice a n cap, .int .i64 left] w (RetSz (xs.length ≤ 1048576 ∧ ∀ y ∈ xs, smallChange y) left w) := by
  have hmax := h.max
  obtain rfl := h.1
  by_cases n0 : left - (xs.length : Int) < 0
  · go_enter Try.func72, Try.ntmps72
    go_wp2_with fail
    go_ret
    exact ⟨-1, rfl, by omega, by omega, fun h => absurd h (by omega), Below.refl _ _⟩
  · have m0 : 0 ≤ left - (xs.length : Int) := by omega
    go_enter Try.func72, Try.ntmps72
    go_wp2_with fail
    go_loopw [1, 5] (fun l i W => ∃ (k : Nat) (r : Int), k ≤ xs.length ∧ i = .int .i64 k ∧ l = .int .i64 r ∧ 0 ≤ r ∧ r ≤ left ∧ AllTo smallChange xs k ∧ Below w.heap.size w W) (fun _ i _ => xs.length - (intOf i).toNat)
    case atStart => exact ⟨0, _, Nat.zero_le _, rfl, rfl, m0, by omega, .zero, Below.refl _ _⟩
    case round =>
      obtain ⟨k, r, hk, rfl, rfl, r0, r1, hall, hB⟩ := hrel
      by_cases hlt : k < xs.length
      · obtain ⟨g, off, cs, bk, rfl, hr, hc, hbk, _⟩ := (h.up hB).get hlt
        obtain ⟨sa0, sn0, sc0, sb0, sa1, sn1, sc1, sb1, rfl, f0, f1, f2, f3, f4, hbs⟩ := Change_rep.1 hr
        obtain rfl := hbs.symm
        have c0 : wr.cell? ⟨g, off + k * 5, none⟩ = some (.string xs[k].name) := hc 0 _ rfl
        have c1 : wr.cell? ⟨g, off + k * 5 + 1, none⟩ = some (.int .i64 xs[k].plus.arity) := hc 1 _ rfl
        have c2 : wr.cell? ⟨g, off + k * 5 + 2, none⟩ = some (.slice sa0 sn0 sc0) := hc 2 _ rfl
        have c3 : wr.cell? ⟨g, off + k * 5 + 3, none⟩ = some (.int .i64 xs[k].minus.arity) := hc 3 _ rfl
        have c4 : wr.cell? ⟨g, off + k * 5 + 4, none⟩ = some (.slice sa1 sn1 sc1) := hc 4 _ rfl
        clear hc
        go_wp2_with fail
        refine (szChange_any _ xs[k] _ _ _ hr r0 (by omega)).mono ?_
        rintro e w1 ⟨r', rfl, g0, g1, hs, hb⟩
        have hB1 := below_up hB hb (Nat.le_refl _)
        clear hb
        by_cases n1 : r' < 0
        · go_wp2_with fail
          go_ret
          exact ⟨-1, rfl, by omega, by omega, fun h => absurd h (by omega), hB1⟩
        · have m1 : 0 ≤ r' := by omega
          have hall1 := hall.succ hlt (hs m1)
          go_wp2_with fail
          go_roundw
          case rel => exact ⟨k + 1, r', by omega, by go_num, rfl, m1, by omega, hall1, hB1⟩
          case measure => simp [intOf]; omega
      · obtain rfl : k = xs.length := by omega
        have hall1 := hall.done
        clear hall
        go_wp2_with fail
        go_ret
        exact ⟨r, rfl, by omega, by omega, fun _ => ⟨by omega, hall1⟩, hB⟩

set_option maxHeartbeats 1600000 in
theorem eqChangeS_any (a : Option Addr) (n cap : Nat) (a' : Option Addr) (n' cap' : Nat) (xs : List (Changet)) (bs bs' : List Nat) (w : World) (h : SliceRep changeE w a n cap xs bs) (h' : SliceRep changeE w a' n' cap' xs bs') :
    Calls Try.prog 78 #[.slice a n cap, .slice a' n' cap'] w fun e w' => e = .returned (.bool true) ∧ Below w.heap.size w w' := by
  have hmax := h.max
  obtain rfl := h.1
  obtain rfl := h'.1
  go_enter Try.func78, Try.ntmps78
  go_wp2_with fail
  go_loopw [5] (fun i W => ∃ (k : Nat), k ≤ xs.length ∧ i = .int .i64 k ∧ Below w.heap.size w W) (fun i _ => xs.length - (intOf i).toNat)
  case atStart => exact ⟨0, Nat.zero_le _, rfl, Below.refl _ _⟩
  case round =>
    obtain ⟨k, hk, rfl, hB⟩ := hrel
    by_cases hlt : k < xs.length
    · obtain ⟨g, off, cs, bk, rfl, hr, hc, hbk, _⟩ := (h.up hB).get hlt
      obtain ⟨sa0, sn0, sc0, sb0, sa1, sn1, sc1, sb1, rfl, f0, f1, f2, f3, f4, hbs⟩ := Change_rep.1 hr
      obtain rfl := hbs.symm
      have c0 : wr.cell? ⟨g, off + k * 5, none⟩ = some (.string xs[k].name) := hc 0 _ rfl
      have c1 : wr.cell? ⟨g, off + k * 5 + 1, none⟩ = some (.int .i64 xs[k].plus.arity) := hc 1 _ rfl
      have c2 : wr.cell? ⟨g, off + k * 5 + 2, none⟩ = some (.slice sa0 sn0 sc0) := hc 2 _ rfl
      have c3 : wr.cell? ⟨g, off + k * 5 + 3, none⟩ = some (.int .i64 xs[k].minus.arity) := hc 3 _ rfl
      have c4 : wr.cell? ⟨g, off + k * 5 + 4, none⟩ = some (.slice sa1 sn1 sc1) := hc 4 _ rfl
      clear hc
      have hlty := hlt
      obtain ⟨g', off', csy, bky, rfl, hry, hcy, hbky, _⟩ := (h'.up hB).get hlty
      obtain ⟨say0, sny0, scy0, sby0, say1, sny1, scy1, sby1, rfl, p0, p1, p2, p3, p4, hbs⟩ := Change_rep.1 hry
      obtain rfl := hbs.symm
      have d0 : wr.cell? ⟨g', off' + k * 5, none⟩ = some (.string xs[k].name) := hcy 0 _ rfl
      have d1 : wr.cell? ⟨g', off' + k * 5 + 1, none⟩ = some (.int .i64 xs[k].plus.arity) := hcy 1 _ rfl
      have d2 : wr.cell? ⟨g', off' + k * 5 + 2, none⟩ = some (.slice say0 sny0 scy0) := hcy 2 _ rfl
      have d3 : wr.cell? ⟨g', off' + k * 5 + 3, none⟩ = some (.int .i64 xs[k].minus.arity) := hcy 3 _ rfl
      have d4 : wr.cell? ⟨g', off' + k * 5 + 4, none⟩ = some (.slice say1 sny1 scy1) := hcy 4 _ rfl
      clear hcy
      have i0 : (0 : Int) ≤ (k : Int) := by omega
      have i1 : (k : Int) < (xs.length : Int) := by omega
      have K : Kept w [(⟨g, off + k * 5, none⟩, .string xs[k].name), (⟨g, off + k * 5 + 1, none⟩, .int .i64 xs[k].plus.arity), (⟨g, off + k * 5 + 2, none⟩, .slice sa0 sn0 sc0), (⟨g, off + k * 5 + 3, none⟩, .int .i64 xs[k].minus.arity), (⟨g, off + k * 5 + 4, none⟩, .slice sa1 sn1 sc1), (⟨g', off' + k * 5, none⟩, .string xs[k].name), (⟨g', off' + k * 5 + 1, none⟩, .int .i64 xs[k].plus.arity), (⟨g', off' + k * 5 + 2, none⟩, .slice say0 sny0 scy0), (⟨g', off' + k * 5 + 3, none⟩, .int .i64 xs[k].minus.arity), (⟨g', off' + k * 5 + 4, none⟩, .slice say1 sny1 scy1)] wr := (((((((((((Kept.at_ hB).cons d4).cons d3).cons d2).cons d1).cons d0).cons c4).cons c3).cons c2).cons c1).cons c0)
      go_wp2_with fail
      go_region_held3 (fun W => Kept w [(⟨g, off + k * 5, none⟩, .string xs[k].name), (⟨g, off + k * 5 + 1, none⟩, .int .i64 xs[k].plus.arity), (⟨g, off + k * 5 + 2, none⟩, .slice sa0 sn0 sc0), (⟨g, off + k * 5 + 3, none⟩, .int .i64 xs[k].minus.arity), (⟨g, off + k * 5 + 4, none⟩, .slice sa1 sn1 sc1), (⟨g', off' + k * 5, none⟩, .string xs[k].name), (⟨g', off' + k * 5 + 1, none⟩, .int .i64 xs[k].plus.arity), (⟨g', off' + k * 5 + 2, none⟩, .slice say0 sny0 scy0), (⟨g', off' + k * 5 + 3, none⟩, .int .i64 xs[k].minus.arity), (⟨g', off' + k * 5 + 4, none⟩, .slice say1 sny1 scy1)] W ∧ W.cell? ⟨g, off + k * 5, none⟩ = some (.string xs[k].name) ∧ W.cell? ⟨g, off + k * 5 + 1, none⟩ = some (.int .i64 xs[k].plus.arity) ∧ W.cell? ⟨g, off + k * 5 + 2, none⟩ = some (.slice sa0 sn0 sc0) ∧ W.cell? ⟨g, off + k * 5 + 3, none⟩ = some (.int .i64 xs[k].minus.arity) ∧ W.cell? ⟨g, off + k * 5 + 4, none⟩ = some (.slice sa1 sn1 sc1) ∧ W.cell? ⟨g', off' + k * 5, none⟩ = some (.string xs[k].name) ∧ W.cell? ⟨g', off' + k * 5 + 1, none⟩ = some (.int .i64 xs[k].plus.arity) ∧ W.cell? ⟨g', off' + k * 5 + 2, none⟩ = some (.slice say0 sny0 scy0) ∧ W.cell? ⟨g', off' + k * 5 + 3, none⟩ = some (.int .i64 xs[k].minus.arity) ∧ W.cell? ⟨g', off' + k * 5 + 4, none⟩ = some (.slice say1 sny1 scy1))
        (first | exact Kept.c10 (Kept.up (by assumption) (And.left (by assumption))) | exact K.drew.c10)
        ((go_at_call 139; refine (eqChange_any _ _ xs[k] _ _ _ (changeE.up hr (by first | exact (Below.refl _ _).drew | exact (Below.refl _ _))) (changeE.up hry (by first | exact (Below.refl _ _).drew | exact (Below.refl _ _)))).mono ?_; rintro e w3 ⟨rfl, hb3⟩))
      rename_i hh
      have hB1 := hh.1.1
      clear hh K c0 c1 c2 c3 c4 d0 d1 d2 d3 d4
      go_wp2_with fail
      go_roundw
      case rel => exact ⟨k + 1, by omega, by go_num, hB1⟩
      case measure => simp [intOf]; omega
    · obtain rfl : k = xs.length := by omega
      go_wp2_with fail
      go_ret
      exact ⟨rfl, hB⟩

theorem zeroChange (w : World) : changeE.rep w [.string ⟨#[]⟩, .int .i64 0, .slice none 0 0, .int .i64 0, .slice none 0 0] ⟨ByteArray.empty, ⟨0, []⟩, ⟨0, []⟩⟩ [] := by
  exact Change_rep.2 ⟨none, 0, 0, [], none, 0, 0, [], rfl, by simp, by decide, ⟨rfl, Nat.le_refl _, Nat.zero_le _, (fun _ => rfl), .inl ⟨rfl, rfl⟩⟩, by decide, ⟨rfl, Nat.le_refl _, Nat.zero_le _, (fun _ => rfl), .inl ⟨rfl, rfl⟩⟩, rfl⟩
theorem infoChange : (Try.prog.info? 130).map (fun i => (i.zero, i.size, i.bytes)) = some (some (.agg #[.string ⟨#[]⟩, .int .i64 0, .slice none 0 0, .int .i64 0, .slice none 0 0]), 5, 80) := by kernel_rfl
set_option maxHeartbeats 1600000 in
theorem toChangeS_any (a : Option Addr) (n cap : Nat) (xs : List (Changet)) (bs : List Nat) (w : World) (h : SliceRep changeE w a n cap xs bs) (hsm : xs.length ≤ 1048576 ∧ ∀ y ∈ xs, smallChange y) :
    Calls Try.prog 75 #[.slice a n cap] w (RetSlice changeE w xs) := by
  have hmax := h.max
  have hsm0 := hsm.1
  have HSM := Lib.hid hsm.2
  clear hsm
  obtain rfl := h.1
  obtain ⟨i0, hi, hz0, hz1, hz2⟩ := info_parts infoChange
  have hmk := fun W => run_make_rowN (P := Try.prog) 57 130 i0 _ Try.underlying57 hi hz0 .i64 .i64 xs.length xs.length (Nat.le_refl _) (by rw [hz2]; omega) hmax W
  rw [hz1] at hmk
  clear hi hz0 hz1 hz2
  go_enter Try.func75, Try.ntmps75
  go_wp2_with fail
  obtain ⟨bs0, hS0, hF0⟩ := SliceRep.made (e := changeE) (z := #[.string ⟨#[]⟩, .int .i64 0, .slice none 0 0, .int .i64 0, .slice none 0 0]) (x0 := ⟨ByteArray.empty, ⟨0, []⟩, ⟨0, []⟩⟩) (fun w => zeroChange w) (by decide) xs.length (by unfold maxLen; omega) w 130
  have hb0 := (Below.refl w.heap.size w).alloc (Nat.le_refl _) (.cells (madeCells #[.string ⟨#[]⟩, .int .i64 0, .slice none 0 0, .int .i64 0, .slice none 0 0] (xs.length * changeE.size)) 130)
  have hg0 : w.heap.size < (w.alloc (.cells (madeCells #[.string ⟨#[]⟩, .int .i64 0, .slice none 0 0, .int .i64 0, .slice none 0 0] (xs.length * changeE.size)) 130)).heap.size := by simp
  rw [show changeE.size = 5 from rfl] at hS0 hF0 hb0 hg0
  generalize w.alloc (.cells (madeCells #[.string ⟨#[]⟩, .int .i64 0, .slice none 0 0, .int .i64 0, .slice none 0 0] (xs.length * 5)) 130) = w0 at *
  clear hmk
  go_loopw [4] (fun i W => ∃ (k : Nat) (ys : List (Changet)) (bs' : List Nat), k ≤ xs.length ∧ i = .int .i64 k ∧ Filled xs ⟨ByteArray.empty, ⟨0, []⟩, ⟨0, []⟩⟩ k ys ∧ SliceRep changeE W (some ⟨w.heap.size, 0, none⟩) xs.length xs.length ys bs' ∧ Fresh w.heap.size W bs' ∧ Below w.heap.size w W ∧ w.heap.size < W.heap.size) (fun i _ => xs.length - (intOf i).toNat)
  case atStart => exact ⟨0, _, bs0, Nat.zero_le _, rfl, .zero, hS0, hF0, hb0, hg0⟩
  case round =>
    clear hS0 hF0 hb0 hg0
    obtain ⟨k, ys, bs', hk, rfl, hfill, hS, hF, hB, hG⟩ := hrel
    by_cases hlt : k < xs.length
    · obtain ⟨g, off, cs, bk, rfl, hr, hc, hbk, _⟩ := (h.up hB).get hlt
      obtain ⟨sa0, sn0, sc0, sb0, sa1, sn1, sc1, sb1, rfl, f0, f1, f2, f3, f4, hbs⟩ := Change_rep.1 hr
      obtain rfl := hbs.symm
      have c0 : wr.cell? ⟨g, off + k * 5, none⟩ = some (.string xs[k].name) := hc 0 _ rfl
      have c1 : wr.cell? ⟨g, off + k * 5 + 1, none⟩ = some (.int .i64 xs[k].plus.arity) := hc 1 _ rfl
      have c2 : wr.cell? ⟨g, off + k * 5 + 2, none⟩ = some (.slice sa0 sn0 sc0) := hc 2 _ rfl
      have c3 : wr.cell? ⟨g, off + k * 5 + 3, none⟩ = some (.int .i64 xs[k].minus.arity) := hc 3 _ rfl
      have c4 : wr.cell? ⟨g, off + k * 5 + 4, none⟩ = some (.slice sa1 sn1 sc1) := hc 4 _ rfl
      clear hc
      go_wp2_with fail
      refine (toChange_any _ xs[k] _ _ hr (HSM.out _ (List.getElem_mem hlt))).mono ?_
      rintro e w1 ⟨cz, bz, rfl, hrz, hFz, hb1⟩
      have hcz := Change_rep.1 hrz
      obtain ⟨saz0, snz0, scz0, sbz0, saz1, snz1, scz1, sbz1, hcz, q0, q1, q2, q3, q4, hbz⟩ := hcz
      obtain rfl : cz = #[.string xs[k].name, .int .i64 xs[k].plus.arity, .slice saz0 snz0 scz0, .int .i64 xs[k].minus.arity, .slice saz1 snz1 scz1] := by cases cz; simpa using hcz
      clear hcz
      have hS1 := hS.up hb1
      have hF1 := hF.up hb1
      have hB1 := below_up hB hb1 (Nat.le_refl _)
      have hly := hfill.len hk
      have hdis : ∀ c ∈ bz, c ∉ bs' := fun c hc hc' => by have h1 := (hFz.2 c hc).1; have h2 := hF.lt c hc'; omega
      have hFz1 : Fresh w.heap.size w1 bz := hFz.mono (Nat.le_of_lt hG)
      obtain ⟨cs1, bo, hr1, _, hsl⟩ := hS1.slot hF1 (k := k) (by omega)
      obtain ⟨sao0, sno0, sco0, sbo0, sao1, sno1, sco1, sbo1, rfl, _, _, _, _, _, hbo⟩ := Change_rep.1 hr1
      have s0 := hsl 0 _ rfl
      have s1 := hsl 1 _ rfl
      have s2 := hsl 2 _ rfl
      have s3 := hsl 3 _ rfl
      have s4 := hsl 4 _ rfl
      rw [Nat.zero_add, show changeE.size = 5 from rfl] at s0 s1 s2 s3 s4
      simp only [Nat.add_zero] at s0
      clear hsl
      obtain ⟨bs2, hS2, hF2, _⟩ := hS1.store hF1 (by decide) (k := k) (by omega) hrz hFz1 hdis
      have hB2 := setCells_below (Nat.le_refl w.heap.size) [.string xs[k].name, .int .i64 xs[k].plus.arity, .slice saz0 snz0 scz0, .int .i64 xs[k].minus.arity, .slice saz1 snz1 scz1] w1 (0 + k * changeE.size) hB1
      have hG2 : w.heap.size < (setCells w1 w.heap.size (0 + k * changeE.size) [.string xs[k].name, .int .i64 xs[k].plus.arity, .slice saz0 snz0 scz0, .int .i64 xs[k].minus.arity, .slice saz1 snz1 scz1]).heap.size := by rw [setCells_size]; have := hb1.size; omega
      rw [Nat.zero_add, show changeE.size = 5 from rfl] at hS2 hF2 hB2 hG2
      have hf2 := hfill.succ hlt
      clear hfill hS hF hS1 hF1 hdis c0 c1 c2 c3 c4 
      go_wp2_with fail
      go_roundw
      case rel => exact ⟨k + 1, _, bs2, by omega, by go_num, hf2, hS2, hF2, hB2, hG2⟩
      case measure => simp [intOf]; omega
    · obtain rfl : k = xs.length := by omega
      obtain rfl := hfill.done
      go_wp2_with fail
      go_ret
      exact ⟨_, _, _, _, rfl, hS, hF, hB⟩

structure Deltat where
  changes : List (Changet)
def deltaE : Enc Deltat := isoE (pairE (sliceE changeE) unitE) (fun x => (x.changes, ()))
theorem Delta_rep {w : World} {cs : List Value} {x : Deltat} {bs : List Nat} : deltaE.rep w cs x bs ↔ ∃ (sa0 : Option Addr) (sn0 sc0 : Nat) (sb0 : List Nat), cs = [.slice sa0 sn0 sc0] ∧ SliceRep changeE w sa0 sn0 sc0 x.changes sb0 ∧ bs = sb0 := by
  constructor
  · rintro ⟨c0, r0, d0, q0, rfl, rfl, h0, rfl, rfl⟩
    obtain ⟨va0, vn0, vc0, rfl, f0⟩ := h0
    exact ⟨va0, vn0, vc0, _, by simp, f0, by simp⟩
  · rintro ⟨sa0, sn0, sc0, sb0, rfl, f0, hbs⟩
    obtain rfl := hbs.symm
    exact ⟨[.slice sa0 sn0 sc0], [], sb0, [], rfl, by simp, ⟨sa0, sn0, sc0, rfl, f0⟩, ⟨rfl, rfl⟩⟩
theorem opens_lDelta : Opens Try.prog deltaE 54 :=
  opens_iso (fun x => ⟨x.1⟩) (fun _ => rfl) (opens_struct Try.underlying54 (by kernel_rfl) (opensF_cons rfl (by kernel_rfl) (opens_slice Try.underlying52 (by kernel_rfl) (by decide) opens_lChange) opensF_nil))
def smallDelta (x : Deltat) : Prop := (x.changes.length ≤ 1048576 ∧ ∀ y ∈ x.changes, smallChange y)

set_option maxHeartbeats 800000 in
theorem szDelta_any (cs : List Value) (x : Deltat) (bs : List Nat) (left : Int) (w : World) (h : deltaE.rep w cs x bs) (l0 : 0 ≤ left) (l1 : left ≤ 1048576) :
    Calls Try.prog 24 #[.agg cs.toArray, .int .i64 left] w (RetSz (smallDelta x) left w) := by
  obtain ⟨sa0, sn0, sc0, sb0, rfl, f0, hbs⟩ := Delta_rep.1 h
  obtain rfl := hbs.symm
  have H := ((Held.start w).box_ #[.slice sa0 sn0 sc0] 54).s1
  go_enter Try.func24, Try.ntmps24
  go_wp2_with fail
  refine (szChangeS_any sa0 sn0 sc0 x.changes sb0 _ _ (f0.up H.1.below) (by omega) (by omega)).mono ?_
  rintro e w0 ⟨r0, rfl, g0, k0, s0, hb⟩
  replace H := (H.1.up hb).s1
  clear hb
  by_cases n0 : r0 < 0
  · go_wp2_with fail
    go_ret
    exact ⟨-1, rfl, by omega, by omega, fun h => absurd h (by omega), H.1.below⟩
  · have m0 : 0 ≤ r0 := by omega
    go_wp2_with fail
    go_ret
    exact ⟨r0, rfl, by omega, by omega, fun _ => by unfold smallDelta; exact s0 m0, H.1.below⟩

set_option maxHeartbeats 800000 in
theorem eqDelta_any (cs ds : List Value) (x : Deltat) (bs bs' : List Nat) (w : World) (h : deltaE.rep w cs x bs) (h' : deltaE.rep w ds x bs') :
    Calls Try.prog 28 #[.agg cs.toArray, .agg ds.toArray] w fun e w' => e = .returned (.bool true) ∧ Below w.heap.size w w' := by
  obtain ⟨sa0, sn0, sc0, sb0, rfl, f0, hbs⟩ := Delta_rep.1 h
  obtain rfl := hbs.symm
  obtain ⟨say0, sny0, scy0, sby0, rfl, g0, hbs⟩ := Delta_rep.1 h'
  obtain rfl := hbs.symm
  have H := ((Held.start w).box_ #[.slice sa0 sn0 sc0] 59).box_ #[.slice say0 sny0 scy0] 59
  rw [show (w.alloc (.cells #[.slice sa0 sn0 sc0] 59)).heap.size = w.heap.size + 1 by simp] at H
  replace H := H.s2
  go_enter Try.func28, Try.ntmps28
  go_wp2_with fail
  refine (eqChangeS_any _ _ _ _ _ _ x.changes _ _ _ (f0.up H.1.below) (g0.up H.1.below)).mono ?_
  rintro e w0 ⟨rfl, hb⟩
  replace H := (H.1.up hb).s2
  clear hb
  go_wp2_with fail
  go_ret
  exact ⟨rfl, H.1.below⟩

set_option maxHeartbeats 1600000 in
theorem toDelta_any (cs : List Value) (x : Deltat) (bs : List Nat) (w : World) (h : deltaE.rep w cs x bs) (hsm : smallDelta x) :
    Calls Try.prog 26 #[.agg cs.toArray] w (RetAgg deltaE w x) := by
  obtain ⟨sa0, sn0, sc0, sb0, rfl, f0, hbs⟩ := Delta_rep.1 h
  obtain rfl := hbs.symm
  have HSM := Lib.hid hsm
  clear hsm h
  have H := Three.start w #[.slice sa0 sn0 sc0] #[.slice none 0 0] #[.slice none 0 0] 54 59 59
  go_enter Try.func26, Try.ntmps26
  go_wp2_with fail
  generalize ((w.alloc (.cells #[.slice sa0 sn0 sc0] 54)).alloc (.cells #[.slice none 0 0] 59)).alloc (.cells #[.slice none 0 0] 59) = w0 at *
  have hz0 := H.lt
  have ca0 := H.a.cell
  refine (toChangeS_any _ _ _ x.changes _ _ (f0.up H.below) HSM.out).mono ?_
  rintro e w1 ⟨ra0, rn0, rc0, rb0, rfl, q0_0, F0, hb⟩
  replace H := H.up hb
  clear hb ca0
  have hcz0 := H.c.cell
  have hfz0 := H.c.free
  have H0_0 : Three w #[.slice sa0 sn0 sc0] #[.slice none 0 0] #[.slice ra0 rn0 rc0] _ := H.set 0 (.slice ra0 rn0 rc0) (by simp) rfl
  have hS0 := ((Same.refl (w.heap.size + 1 + 1 + 1) w1).set (g := w.heap.size + 1 + 1) (by omega) 0 (.slice ra0 rn0 rc0))
  have hge0 : ∀ c ∈ rb0, w.heap.size + 1 + 1 + 1 ≤ c := fun c hc => Nat.le_trans hz0 (F0.ge c hc)
  replace q0_0 := q0_0.same hS0 hge0
  replace F0 := F0.same hS0 hge0
  replace H := H0_0
  have dz := H.z.cell
  have ez := H.z.free
  have hcc := H.c.cell
  go_wp2_with fail
  refine bodyPost_ret (v := .agg #[.slice ra0 rn0 rc0]) (by simp [results, Try.results26, go_sem, dz]; try rfl) rfl ?_
  have hSf := ((Same.refl (w.heap.size + 1 + 1 + 1) (w1.setCell ⟨w.heap.size + 1 + 1, 0, none⟩ (.slice ra0 rn0 rc0))).set (g := w.heap.size + 1) (by omega) 0 (.slice ra0 rn0 rc0))
  refine ⟨#[.slice ra0 rn0 rc0], _, rfl, Delta_rep.2 ⟨ra0, rn0, rc0, _, rfl, q0_0.same hSf hge0, rfl⟩, ?_, (H.below.setCell (p := ⟨w.heap.size + 1, 0, none⟩) (by simp) (.slice ra0 rn0 rc0))⟩
  exact ((F0.same hSf hge0).mono (by omega))

end Go.Proofs.Ytgmlecghklaomaa

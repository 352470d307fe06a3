/- The walk of the exact law over DeltaFits. (printed by mkex.py with genlaw.py) -/
import Derived.Test.YtgmlecghklaomaaAbsLaw
import Derived.Test.YtgmlecghklaomaaAFits
namespace Go.Proofs.Ytgmlecghklaomaa
open Go.RowKit
set_option linter.unusedVariables false
set_option maxRecDepth 100000

theorem deltaFitsS_w (c0 : Array Value) (c1 : Array Value) (x0 : Storet) (x1 : Deltat) (b0 : List Nat) (b1 : List Nat) (w : World) (h0 : storeE.rep w c0.toList x0 b0) (h1 : deltaE.rep w c1.toList x1 b1) (s0 : smallStore x0) (s1 : smallDelta x1) :
    Calls Try.prog 29 #[.agg c0, .agg c1] w fun e w' => e = .returned (.bool (deltaFits x0 x1)) ∧ Below w.heap.size w w' :=
  (deltaFitsS_c x0 x1 s0 s1).calls w _ ⟨arg_agg h0, arg_agg h1, trivial⟩
theorem deltaFitsI_w (c0 : Array Value) (c1 : Array Value) (x0 : Storet) (x1 : Deltat) (b0 : List Nat) (b1 : List Nat) (w : World) (h0 : storeE.rep w c0.toList x0 b0) (h1 : deltaE.rep w c1.toList x1 b1) (s0 : smallStore x0) (s1 : smallDelta x1) :
    Calls Try.prog 30 #[.agg c0, .agg c1] w fun e w' => e = .returned (.bool (deltaFits x0 x1)) ∧ Below w.heap.size w w' :=
  (deltaFitsI_c x0 x1 s0 s1).calls w _ ⟨arg_agg h0, arg_agg h1, trivial⟩

set_option maxHeartbeats 4000000 in
theorem lawFnExactDeltaFits.walk (w : World) (c0 : Array Value) (x0 : Storet) (b0 : List Nat) (h0 : storeE.rep w c0.toList x0 b0) (c1 : Array Value) (x1 : Deltat) (b1 : List Nat) (h1 : deltaE.rep w c1.toList x1 b1) :
    Calls Try.prog 7 #[.agg c0, .agg c1] w fun e w' => e = .returned (.bool true) ∧ Below w.heap.size w w' := by
  obtain ⟨sap0_0, snp0_0, scp0_0, sbp0_0, hc, f0_0, hbs⟩ := Store_rep.1 h0
  obtain rfl : c0 = #[.slice sap0_0 snp0_0 scp0_0] := by cases c0; simpa using hc
  clear hc hbs f0_0
  obtain ⟨sap1_0, snp1_0, scp1_0, sbp1_0, hc, f1_0, hbs⟩ := Delta_rep.1 h1
  obtain rfl : c1 = #[.slice sap1_0 snp1_0 scp1_0] := by cases c1; simpa using hc
  clear hc hbs f1_0
  have H := (((Held.start w).box_ #[.slice sap0_0 snp0_0 scp0_0] 42).box_ #[.slice sap1_0 snp1_0 scp1_0] 54)
  rw [show (w.alloc (.cells #[.slice sap0_0 snp0_0 scp0_0] 42)).heap.size = w.heap.size + 1 by simp] at H
  have H2 := H.s2
  have K : Kept w [(⟨w.heap.size, 0, none⟩, .slice sap0_0 snp0_0 scp0_0), (⟨w.heap.size + 1, 0, none⟩, .slice sap1_0 snp1_0 scp1_0)] _ := (((Kept.at_ H.below).cons (H2.2.2 0)).cons (H2.2.1 0))
  clear H H2
  go_enter Try.func7, Try.ntmps7
  go_wp2_with fail
  generalize ((w.alloc (.cells #[.slice sap0_0 snp0_0 scp0_0] 42)).alloc (.cells #[.slice sap1_0 snp1_0 scp1_0] 54)) = w0 at *
  refine (szStore_any _ x0 _ _ _ (Enc.up h0 K.1) (by omega) (by omega)).mono ?_
  rintro e w1 ⟨r0, rfl, u0, v0, s0, hb⟩
  replace K := K.up hb
  have kk := K.c2.2
  clear hb
  by_cases n0 : r0 < 0
  · go_wp2_with fail
    go_ret
    exact ⟨rfl, K.1⟩
  · replace s0 := Lib.hid (s0 (by omega))
    go_wp2_with fail
    clear kk
    refine (szDelta_any _ x1 _ _ _ (Enc.up h1 K.1) (by omega) (by omega)).mono ?_
    rintro e w2 ⟨r1, rfl, u1, v1, s1, hb⟩
    replace K := K.up hb
    have kk := K.c2.2
    clear hb
    by_cases n1 : r1 < 0
    · go_wp2_with fail
      go_ret
      exact ⟨rfl, K.1⟩
    · replace s1 := Lib.hid (s1 (by omega))
      go_wp2_with fail
      clear kk
      have K0 := K
      go_region_held3 (fun W => Kept w [(⟨w.heap.size, 0, none⟩, .slice sap0_0 snp0_0 scp0_0), (⟨w.heap.size + 1, 0, none⟩, .slice sap1_0 snp1_0 scp1_0)] W ∧ W.cell? ⟨w.heap.size, 0, none⟩ = some (.slice sap0_0 snp0_0 scp0_0) ∧ W.cell? ⟨w.heap.size + 1, 0, none⟩ = some (.slice sap1_0 snp1_0 scp1_0))
        (first | exact Kept.c2 (Kept.up (by assumption) (And.left (by assumption))) | exact K0.drew.c2)
        (first | (go_at_call_of 19 (Value.agg #[.slice sap0_0 snp0_0 scp0_0]); refine (toStore_any _ x0 _ _ (Enc.up h0 (And.left (And.left (by assumption)))) s0.out).mono ?_; rintro e ws0 ⟨zs0, bs0, rfl, hs0, Fs0, hbs0⟩; obtain ⟨sas0_0, sns0_0, scs0_0, sbs0_0, hc, _, hbs⟩ := Store_rep.1 hs0; obtain rfl : zs0 = #[.slice sas0_0 sns0_0 scs0_0] := (by cases zs0; simpa using hc); clear hc hbs) | (go_at_call_of 26 (Value.agg #[.slice sap1_0 snp1_0 scp1_0]); refine (toDelta_any _ x1 _ _ (Enc.up h1 (And.left (And.left (by assumption)))) s1.out).mono ?_; rintro e ws1 ⟨zs1, bs1, rfl, hs1, Fs1, hbs1⟩; obtain ⟨sas1_0, sns1_0, scs1_0, sbs1_0, hc, _, hbs⟩ := Delta_rep.1 hs1; obtain rfl : zs1 = #[.slice sas1_0 sns1_0 scs1_0] := (by cases zs1; simpa using hc); clear hc hbs; replace hs0 := Enc.up hs0 hbs1) | (go_at_call 29; refine (deltaFitsS_w _ _ x0 x1 _ _ _ hs0 hs1 s0.out s1.out).mono ?_; rintro e wsp ⟨rfl, hbsp⟩))
      rename_i hh
      replace K := hh.1
      clear hh K0 hbsp hbs0 hs0 Fs0 hbs1 hs1 Fs1
      have kk := K.c2.2
      go_wp2_with fail
      clear kk
      refine (toStore_any _ x0 _ _ (Enc.up h0 K.1) s0.out).mono ?_
      rintro e wx0 ⟨zx0, bx0, rfl, hx0, Fx0, hbx0⟩
      obtain ⟨sax0_0, snx0_0, scx0_0, sbx0_0, hc, _, hbs⟩ := Store_rep.1 hx0
      obtain rfl : zx0 = #[.slice sax0_0 snx0_0 scx0_0] := (by cases zx0; simpa using hc)
      clear hc hbs
      replace K := K.up hbx0
      have kk := K.c2.2
      have B0 := Box.new wx0 #[.slice sax0_0 snx0_0 scx0_0] 47
      have hal := (Below.refl wx0.heap.size wx0).alloc (Nat.le_refl _) (.cells #[.slice sax0_0 snx0_0 scx0_0] 47)
      replace K := K.up hal
      replace K := K.cons (B0.cell 0)
      replace hx0 := Enc.up hx0 hal
      have K1 : Kept w [(⟨wx0.heap.size, 0, none⟩, .slice sax0_0 snx0_0 scx0_0), (⟨w.heap.size, 0, none⟩, .slice sap0_0 snp0_0 scp0_0), (⟨w.heap.size + 1, 0, none⟩, .slice sap1_0 snp1_0 scp1_0)] _ := K
      clear hal kk B0 K hbx0
      have K := K1
      clear K1
      have kk := K.c3.2
      go_wp2_with fail
      clear kk
      generalize wx0.alloc (.cells #[.slice sax0_0 snx0_0 scx0_0] 47) = wy0 at *
      generalize wx0.heap.size = g0 at *
      have kk := K.c3.2
      go_wp2_with fail
      clear kk
      refine (toDelta_any _ x1 _ _ (Enc.up h1 K.1) s1.out).mono ?_
      rintro e wx1 ⟨zx1, bx1, rfl, hx1, Fx1, hbx1⟩
      obtain ⟨sax1_0, snx1_0, scx1_0, sbx1_0, hc, _, hbs⟩ := Delta_rep.1 hx1
      obtain rfl : zx1 = #[.slice sax1_0 snx1_0 scx1_0] := (by cases zx1; simpa using hc)
      clear hc hbs
      replace K := K.up hbx1
      replace hx0 := Enc.up hx0 hbx1
      have kk := K.c3.2
      have B1 := Box.new wx1 #[.slice sax1_0 snx1_0 scx1_0] 59
      have hal := (Below.refl wx1.heap.size wx1).alloc (Nat.le_refl _) (.cells #[.slice sax1_0 snx1_0 scx1_0] 59)
      replace K := K.up hal
      replace K := K.cons (B1.cell 0)
      replace hx0 := Enc.up hx0 hal
      replace hx1 := Enc.up hx1 hal
      have K1 : Kept w [(⟨wx1.heap.size, 0, none⟩, .slice sax1_0 snx1_0 scx1_0), (⟨g0, 0, none⟩, .slice sax0_0 snx0_0 scx0_0), (⟨w.heap.size, 0, none⟩, .slice sap0_0 snp0_0 scp0_0), (⟨w.heap.size + 1, 0, none⟩, .slice sap1_0 snp1_0 scp1_0)] _ := K
      clear hal kk B1 K hbx1
      have K := K1
      clear K1
      have kk := K.c4.2
      go_wp2_with fail
      clear kk
      generalize wx1.alloc (.cells #[.slice sax1_0 snx1_0 scx1_0] 59) = wy1 at *
      generalize wx1.heap.size = g1 at *
      refine (deltaFitsI_w _ _ x0 x1 _ _ _ hx0 hx1 s0.out s1.out).mono ?_
      rintro e wi ⟨rfl, hb⟩
      replace K := K.up hb
      replace hx0 := Enc.up hx0 hb
      replace hx1 := Enc.up hx1 hb
      clear hb
      have kk := K.c4.2
      go_wp2_with fail
      clear kk
      have K0 := K
      go_region_held3 (fun W => Kept w [(⟨g1, 0, none⟩, .slice sax1_0 snx1_0 scx1_0), (⟨g0, 0, none⟩, .slice sax0_0 snx0_0 scx0_0), (⟨w.heap.size, 0, none⟩, .slice sap0_0 snp0_0 scp0_0), (⟨w.heap.size + 1, 0, none⟩, .slice sap1_0 snp1_0 scp1_0)] W ∧ W.cell? ⟨g1, 0, none⟩ = some (.slice sax1_0 snx1_0 scx1_0) ∧ W.cell? ⟨g0, 0, none⟩ = some (.slice sax0_0 snx0_0 scx0_0) ∧ W.cell? ⟨w.heap.size, 0, none⟩ = some (.slice sap0_0 snp0_0 scp0_0) ∧ W.cell? ⟨w.heap.size + 1, 0, none⟩ = some (.slice sap1_0 snp1_0 scp1_0))
        (first | exact Kept.c4 (Kept.up (by assumption) (And.left (by assumption))) | exact K0.drew.c4)
        (first | (go_at_call 19; refine (toStore_any _ x0 _ _ (Enc.up h0 (And.left (And.left (by assumption)))) s0.out).mono ?_; rintro e we0 ⟨ze0, be0, rfl, he0, Fe0, hbe0⟩; obtain ⟨sae0_0, sne0_0, sce0_0, sbe0_0, hc, _, hbs⟩ := Store_rep.1 he0; obtain rfl : ze0 = #[.slice sae0_0 sne0_0 sce0_0] := (by cases ze0; simpa using hc); clear hc hbs; have hxx := Enc.up (Enc.up hx0 (Below.refl _ _).drew) hbe0) | (go_at_call 21; refine (eqStore_any _ _ x0 _ _ _ hxx he0).mono ?_; rintro e wq ⟨rfl, hbq⟩))
      rename_i hh
      replace K := hh.1
      replace hx1 := Enc.up (Enc.up (Enc.up hx1 (Below.refl _ _).drew) hbe0) hbq
      clear hh K0 hbe0 hbq hxx he0 Fe0
      have kk := K.c4.2
      go_wp2_with fail
      clear kk
      have K0 := K
      go_region_held3 (fun W => Kept w [(⟨g1, 0, none⟩, .slice sax1_0 snx1_0 scx1_0), (⟨g0, 0, none⟩, .slice sax0_0 snx0_0 scx0_0), (⟨w.heap.size, 0, none⟩, .slice sap0_0 snp0_0 scp0_0), (⟨w.heap.size + 1, 0, none⟩, .slice sap1_0 snp1_0 scp1_0)] W ∧ W.cell? ⟨g1, 0, none⟩ = some (.slice sax1_0 snx1_0 scx1_0) ∧ W.cell? ⟨g0, 0, none⟩ = some (.slice sax0_0 snx0_0 scx0_0) ∧ W.cell? ⟨w.heap.size, 0, none⟩ = some (.slice sap0_0 snp0_0 scp0_0) ∧ W.cell? ⟨w.heap.size + 1, 0, none⟩ = some (.slice sap1_0 snp1_0 scp1_0))
        (first | exact Kept.c4 (Kept.up (by assumption) (And.left (by assumption))) | exact K0.drew.c4)
        (first | (go_at_call 26; refine (toDelta_any _ x1 _ _ (Enc.up h1 (And.left (And.left (by assumption)))) s1.out).mono ?_; rintro e we1 ⟨ze1, be1, rfl, he1, Fe1, hbe1⟩; obtain ⟨sae1_0, sne1_0, sce1_0, sbe1_0, hc, _, hbs⟩ := Delta_rep.1 he1; obtain rfl : ze1 = #[.slice sae1_0 sne1_0 sce1_0] := (by cases ze1; simpa using hc); clear hc hbs; have hxx := Enc.up (Enc.up hx1 (Below.refl _ _).drew) hbe1) | (go_at_call 28; refine (eqDelta_any _ _ x1 _ _ _ hxx he1).mono ?_; rintro e wq ⟨rfl, hbq⟩))
      rename_i hh
      replace K := hh.1
      clear hh K0 hbe1 hbq hxx he1 Fe1
      go_wp2_with fail
      go_ret
      exact ⟨rfl, K.1⟩
end Go.Proofs.Ytgmlecghklaomaa

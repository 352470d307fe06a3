/- The walk of the exact law over DeltaOk. (printed by mkex.py with genlaw.py) -/
import Derived.Test.YtgmlecghklaomaaAbsLaw
import Derived.Test.YtgmlecghklaomaaADelta
namespace Go.Proofs.Ytgmlecghklaomaa
open Go.RowKit
set_option linter.unusedVariables false
set_option maxRecDepth 100000

theorem deltaOkS_w (c0 : Array Value) (x0 : Deltat) (b0 : List Nat) (w : World) (h0 : deltaE.rep w c0.toList x0 b0) (s0 : smallDelta x0) :
    Calls Try.prog 25 #[.agg c0] w fun e w' => e = .returned (.bool (deltaOk x0)) ∧ Below w.heap.size w w' :=
  (deltaOkS_c x0 s0).calls w _ ⟨arg_agg h0, trivial⟩
theorem deltaOkI_w (c0 : Array Value) (x0 : Deltat) (b0 : List Nat) (w : World) (h0 : deltaE.rep w c0.toList x0 b0) (s0 : smallDelta x0) :
    Calls Try.prog 27 #[.agg c0] w fun e w' => e = .returned (.bool (deltaOk x0)) ∧ Below w.heap.size w w' :=
  (deltaOkI_c x0 s0).calls w _ ⟨arg_agg h0, trivial⟩

set_option maxHeartbeats 4000000 in
theorem lawFnExactDeltaOk.walk (w : World) (c0 : Array Value) (x0 : Deltat) (b0 : List Nat) (h0 : deltaE.rep w c0.toList x0 b0) :
    Calls Try.prog 6 #[.agg c0] w fun e w' => e = .returned (.bool true) ∧ Below w.heap.size w w' := by
  obtain ⟨sap0_0, snp0_0, scp0_0, sbp0_0, hc, f0_0, hbs⟩ := Delta_rep.1 h0
  obtain rfl : c0 = #[.slice sap0_0 snp0_0 scp0_0] := by cases c0; simpa using hc
  clear hc hbs f0_0
  have H := ((Held.start w).box_ #[.slice sap0_0 snp0_0 scp0_0] 54)
  have H2 := H.s1
  have K : Kept w [(⟨w.heap.size, 0, none⟩, .slice sap0_0 snp0_0 scp0_0)] _ := ((Kept.at_ H.below).cons (H2.2 0))
  clear H H2
  go_enter Try.func6, Try.ntmps6
  go_wp2_with fail
  generalize (w.alloc (.cells #[.slice sap0_0 snp0_0 scp0_0] 54)) = w0 at *
  refine (szDelta_any _ x0 _ _ _ (Enc.up h0 K.1) (by omega) (by omega)).mono ?_
  rintro e w1 ⟨r0, rfl, u0, v0, s0, hb⟩
  replace K := K.up hb
  have kk := K.c1.2
  clear hb
  by_cases n0 : r0 < 0
  · go_wp2_with fail
    go_ret
    exact ⟨rfl, K.1⟩
  · replace s0 := Lib.hid (s0 (by omega))
    go_wp2_with fail
    clear kk
    refine (toDelta_any _ x0 _ _ (Enc.up h0 K.1) s0.out).mono ?_
    rintro e ws0 ⟨zs0, bs0, rfl, hs0, Fs0, hbs0⟩
    obtain ⟨sas0_0, sns0_0, scs0_0, sbs0_0, hc, _, hbs⟩ := Delta_rep.1 hs0
    obtain rfl : zs0 = #[.slice sas0_0 sns0_0 scs0_0] := (by cases zs0; simpa using hc)
    clear hc hbs
    replace K := K.up hbs0
    have kk := K.c1.2
    go_wp2_with fail
    refine (deltaOkS_w _ x0 _ _ hs0 s0.out).mono ?_
    rintro e wsp ⟨rfl, hbsp⟩
    replace K := K.up hbsp
    clear kk hbsp hbs0 hs0 Fs0
    have kk := K.c1.2
    go_wp2_with fail
    clear kk
    refine (toDelta_any _ x0 _ _ (Enc.up h0 K.1) s0.out).mono ?_
    rintro e wx0 ⟨zx0, bx0, rfl, hx0, Fx0, hbx0⟩
    obtain ⟨sax0_0, snx0_0, scx0_0, sbx0_0, hc, _, hbs⟩ := Delta_rep.1 hx0
    obtain rfl : zx0 = #[.slice sax0_0 snx0_0 scx0_0] := (by cases zx0; simpa using hc)
    clear hc hbs
    replace K := K.up hbx0
    have kk := K.c1.2
    have B0 := Box.new wx0 #[.slice sax0_0 snx0_0 scx0_0] 59
    have hal := (Below.refl wx0.heap.size wx0).alloc (Nat.le_refl _) (.cells #[.slice sax0_0 snx0_0 scx0_0] 59)
    replace K := K.up hal
    replace K := K.cons (B0.cell 0)
    replace hx0 := Enc.up hx0 hal
    have K1 : Kept w [(⟨wx0.heap.size, 0, none⟩, .slice sax0_0 snx0_0 scx0_0), (⟨w.heap.size, 0, none⟩, .slice sap0_0 snp0_0 scp0_0)] _ := K
    clear hal kk B0 K hbx0
    have K := K1
    clear K1
    have kk := K.c2.2
    go_wp2_with fail
    clear kk
    generalize wx0.alloc (.cells #[.slice sax0_0 snx0_0 scx0_0] 59) = wy0 at *
    generalize wx0.heap.size = g0 at *
    refine (deltaOkI_w _ x0 _ _ hx0 s0.out).mono ?_
    rintro e wi ⟨rfl, hb⟩
    replace K := K.up hb
    replace hx0 := Enc.up hx0 hb
    clear hb
    have kk := K.c2.2
    go_wp2_with fail
    clear kk
    have K0 := K
    go_region_held3 (fun W => Kept w [(⟨g0, 0, none⟩, .slice sax0_0 snx0_0 scx0_0), (⟨w.heap.size, 0, none⟩, .slice sap0_0 snp0_0 scp0_0)] W ∧ W.cell? ⟨g0, 0, none⟩ = some (.slice sax0_0 snx0_0 scx0_0) ∧ W.cell? ⟨w.heap.size, 0, none⟩ = some (.slice sap0_0 snp0_0 scp0_0))
      (first | exact Kept.c2 (Kept.up (by assumption) (And.left (by assumption))) | exact K0.drew.c2)
      (first | (go_at_call 26; refine (toDelta_any _ x0 _ _ (Enc.up h0 (And.left (And.left (by assumption)))) s0.out).mono ?_; rintro e we0 ⟨ze0, be0, rfl, he0, Fe0, hbe0⟩; obtain ⟨sae0_0, sne0_0, sce0_0, sbe0_0, hc, _, hbs⟩ := Delta_rep.1 he0; obtain rfl : ze0 = #[.slice sae0_0 sne0_0 sce0_0] := (by cases ze0; simpa using hc); clear hc hbs; have hxx := Enc.up (Enc.up hx0 (Below.refl _ _).drew) hbe0) | (go_at_call 28; refine (eqDelta_any _ _ x0 _ _ _ hxx he0).mono ?_; rintro e wq ⟨rfl, hbq⟩))
    rename_i hh
    replace K := hh.1
    clear hh K0 hbe0 hbq hxx he0 Fe0
    go_wp2_with fail
    go_ret
    exact ⟨rfl, K.1⟩
end Go.Proofs.Ytgmlecghklaomaa

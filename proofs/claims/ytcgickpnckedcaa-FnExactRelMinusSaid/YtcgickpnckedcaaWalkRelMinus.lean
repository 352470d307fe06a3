/- The walk of FnExactRelMinus (printed by walk.py) -/
import Derived.Test.YtcgickpnckedcaaACopy
import Derived.Test.YtcgickpnckedcaaATo
import Derived.Test.YtcgickpnckedcaaAFn
import Derived.Test.YtcgickpnckedcaaAHeld
import Derived.Test.YtcgickpnckedcaaAbsPh
import Derived.Test.YtcgickpnckedcaaRelMem
namespace Go.Proofs.Ytcgickpnckedcaa
open Go.RowKit
set_option linter.unusedVariables false
set_option linter.unusedSimpArgs false
set_option maxRecDepth 100000

set_option maxHeartbeats 4000000 in
theorem lawFnExactRelMinus.walk (w : World) (c0 : Array Value) (x0 : Relt) (b0 : List Nat) (h0 : relE.rep w c0.toList x0 b0) (c1 : Array Value) (x1 : Relt) (b1 : List Nat) (h1 : relE.rep w c1.toList x1 b1) :
    Calls Try.prog 6 #[.agg c0, .agg c1] w fun e w' => e = .returned (.bool true) ∧ Below w.heap.size w w' := by
  refine AM_law (r := 4) Try.func6 rfl Try.ntmps6 rfl Try.results6 w _ (args := [.agg (relC x0), .agg (relC x1)]) ⟨arg_agg h0, arg_agg h1, trivial⟩ (fun B => ?_)
  refine AM_seq ?_
  refine AM_region ?_
  refine AL_p (x_box 100 rfl rfl rfl rfl rfl rfl rfl) ?_
  refine AL_p (x_box 101 rfl rfl rfl rfl rfl rfl rfl) ?_
  refine AL_p (x_assign rfl rfl) ?_
  refine AL_nil ?_
  refine AM_seq ?_
  refine AM_region ?_
  refine AL_p (x_assign rfl rfl) ?_
  refine AL_nil ?_
  refine AM_seq ?_
  refine AM_region ?_
  refine AL_p (x_loadN (n := 2) rfl rfl rfl (by kernel_rfl) rfl rfl) ?_
  refine AL_p (x_move rfl rfl) ?_
  refine AL_p (x_call0 rfl rfl rfl (szRel_c _ _ (by omega) (by omega)) rfl rfl) ?_
  refine AL_p (x_assign rfl rfl) ?_
  refine AL_nil ?_
  refine AM_seq ?_
  refine AM_seq ?_
  refine AM_region ?_
  refine AL_p (x_move rfl rfl) ?_
  refine AL_b (x_lss rfl rfl rfl) (fun b21 h21 => ?_)
  refine AL_nil ?_
  cases b21
  rotate_left
  · try simp only [decide_eq_true_eq, decide_eq_false_iff_not, Bool.not_eq_true, Bool.not_eq_false, Bool.not_eq_true', Bool.not_eq_false', beq_iff_eq, bne_iff_ne, beq_eq_false_iff_ne, bne_eq_false_iff_eq, Int.not_lt, Int.not_le, ge_iff_le, gt_iff_lt] at h21
    refine AM_condT rfl ?_
    refine AM_seq ?_
    refine AM_region ?_
    refine AL_p (x_assign rfl rfl) ?_
    refine AL_nil ?_
    refine AM_ret ?_
    exact rfl
  · try simp only [decide_eq_true_eq, decide_eq_false_iff_not, Bool.not_eq_true, Bool.not_eq_false, Bool.not_eq_true', Bool.not_eq_false', beq_iff_eq, bne_iff_ne, beq_eq_false_iff_ne, bne_eq_false_iff_eq, Int.not_lt, Int.not_le, ge_iff_le, gt_iff_lt] at h21
    obtain ⟨f21, e21⟩ := szR_nonneg h21
    refine AM_condF rfl ?_
    refine AM_skip ?_
    refine AM_seq ?_
    refine AM_region ?_
    refine AL_p (x_loadN (n := 2) rfl rfl rfl (by kernel_rfl) rfl rfl) ?_
    refine AL_p (x_move rfl rfl) ?_
    refine AL_p (x_call0 rfl rfl rfl (szRel_c _ _ (by omega) (by omega)) rfl rfl) ?_
    refine AL_p (x_assign rfl rfl) ?_
    refine AL_nil ?_
    refine AM_seq ?_
    refine AM_seq ?_
    refine AM_region ?_
    refine AL_p (x_move rfl rfl) ?_
    refine AL_b (x_lss rfl rfl rfl) (fun b26 h26 => ?_)
    refine AL_nil ?_
    cases b26
    rotate_left
    · try simp only [decide_eq_true_eq, decide_eq_false_iff_not, Bool.not_eq_true, Bool.not_eq_false, Bool.not_eq_true', Bool.not_eq_false', beq_iff_eq, bne_iff_ne, beq_eq_false_iff_ne, bne_eq_false_iff_eq, Int.not_lt, Int.not_le, ge_iff_le, gt_iff_lt] at h26
      refine AM_condT rfl ?_
      refine AM_seq ?_
      refine AM_region ?_
      refine AL_p (x_assign rfl rfl) ?_
      refine AL_nil ?_
      refine AM_ret ?_
      exact rfl
    · try simp only [decide_eq_true_eq, decide_eq_false_iff_not, Bool.not_eq_true, Bool.not_eq_false, Bool.not_eq_true', Bool.not_eq_false', beq_iff_eq, bne_iff_ne, beq_eq_false_iff_ne, bne_eq_false_iff_eq, Int.not_lt, Int.not_le, ge_iff_le, gt_iff_lt] at h26
      obtain ⟨f26, e26⟩ := szR_nonneg h26
      have t0 : totRel x0 ≤ 1048576 := by omega
      have t1 : totRel x1 ≤ 1048576 := by omega
      have s0 := totRel_small t0
      have s1 := totRel_small t1
      refine AM_condF rfl ?_
      refine AM_skip ?_
      refine AM_seq ?_
      refine AM_draw rfl ?_
      refine AL_p (x_loadN (n := 2) rfl rfl rfl (by kernel_rfl) rfl rfl) ?_
      refine AL_p (x_callR rfl rfl rfl (toRel_c x0 s0 102) rfl AllV.rf rfl rfl rfl rfl rfl) ?_
      refine AL_p (x_loadN (n := 2) rfl rfl rfl (by kernel_rfl) rfl rfl) ?_
      refine AL_p (x_callR rfl rfl rfl (toRel_c x1 s1 103) rfl AllV.rf rfl rfl rfl rfl rfl) ?_
      refine AL_p (x_callR rfl rfl rfl (relMinusS_c x0 x1 s0 s1 104) rfl AllV.rf rfl rfl rfl rfl rfl) ?_
      refine AL_p (x_move rfl rfl) ?_
      refine AL_p (x_extract rfl rfl rfl) ?_
      refine AL_p (x_extract rfl rfl rfl) ?_
      refine AL_p (x_alloc (z := .agg #[.int .i64 0, .slice none 0 0]) 105 rfl (by kernel_rfl) rfl rfl rfl rfl) ?_
      refine AL_p (x_store (n := 2) rfl rfl rfl rfl (by kernel_rfl) rfl rfl rfl) ?_
      refine AL_p (x_assign rfl rfl) ?_
      refine AL_nild (by kernel_rfl) ?_
      refine AM_raise (fun B' => [(2, .one (.epo B' relE (x0) 0)), (3, .one (.epo B' relE (x1) 0)), (6, .one (.epo B' relE ((relMinus x0 x1).1) 0)), (7, .one (.c _))]) (fun B' => ⟨⟨_, rfl, .box (f := relC) rfl rfl rfl FitL.rf⟩, ⟨_, rfl, .box (f := relC) rfl rfl rfl FitL.rf⟩, ⟨_, rfl, .box (f := relC) rfl rfl rfl FitL.rf⟩, ⟨_, rfl, .c⟩, trivial⟩) (fun B' => ?_)
      refine AM_seq ?_
      refine AM_region ?_
      refine AL_p (x_pload (f := relC) (n := 2) rfl rfl (by kernel_rfl) rfl rfl) ?_
      refine AL_p (x_callR rfl rfl rfl (toRel_c x0 s0 106) rfl AllV.rf rfl rfl rfl rfl rfl) ?_
      refine AL_p (x_alloc (z := .agg #[.int .i64 0, .slice none 0 0]) 107 rfl (by kernel_rfl) rfl rfl rfl rfl) ?_
      refine AL_p (x_store (n := 2) rfl rfl rfl rfl (by kernel_rfl) rfl rfl rfl) ?_
      refine AL_nil ?_
      refine AM_seq ?_
      refine AM_region ?_
      refine AL_p (x_pload (f := relC) (n := 2) rfl rfl (by kernel_rfl) rfl rfl) ?_
      refine AL_p (x_callR rfl rfl rfl (toRel_c x1 s1 108) rfl AllV.rf rfl rfl rfl rfl rfl) ?_
      refine AL_p (x_alloc (z := .agg #[.int .i64 0, .slice none 0 0]) 109 rfl (by kernel_rfl) rfl rfl rfl rfl) ?_
      refine AL_p (x_store (n := 2) rfl rfl rfl rfl (by kernel_rfl) rfl rfl rfl) ?_
      refine AL_nil ?_
      refine AM_seq ?_
      refine AM_region ?_
      refine AL_p (x_loadN (n := 2) rfl rfl rfl (by kernel_rfl) rfl rfl) ?_
      refine AL_p (x_loadN (n := 2) rfl rfl rfl (by kernel_rfl) rfl rfl) ?_
      refine AL_p (x_callR rfl rfl rfl (relMinusI_c x0 x1 s0 s1 110) rfl AllV.rf rfl rfl rfl rfl rfl) ?_
      refine AL_p (x_move rfl rfl) ?_
      refine AL_p (x_extract rfl rfl rfl) ?_
      refine AL_p (x_extract rfl rfl rfl) ?_
      refine AL_p (x_alloc (z := .agg #[.int .i64 0, .slice none 0 0]) 111 rfl (by kernel_rfl) rfl rfl rfl rfl) ?_
      refine AL_p (x_store (n := 2) rfl rfl rfl rfl (by kernel_rfl) rfl rfl rfl) ?_
      refine AL_p (x_assign rfl rfl) ?_
      refine AL_nil ?_
      refine AM_seq ?_
      refine AM_seq ?_
      refine AM_region ?_
      refine AL_p (x_loadN (n := 2) rfl rfl rfl (by kernel_rfl) rfl rfl) ?_
      refine AL_p (x_pload (f := relC) (n := 2) rfl rfl (by kernel_rfl) rfl rfl) ?_
      refine AL_p (x_callR rfl rfl rfl (eqRel_c ((relMinus x0 x1).1)) rfl AllV.rf rfl rfl rfl rfl rfl) ?_
      refine AL_p (x_not rfl rfl) ?_
      refine AL_p (x_move rfl rfl) ?_
      refine AL_g rfl rfl (x_move rfl rfl) ?_
      refine AL_g rfl rfl (x_move rfl rfl) ?_
      refine AL_gb rfl rfl (x_bneq rfl rfl rfl (by kernel_rfl)) (fun b52 h52 => ?_)
      refine AL_p (x_pickF rfl rfl rfl) ?_
      refine AL_nil ?_
      cases b52
      rotate_left
      · exfalso; first | (simp [ba_beq_self] at h52; done) | (simp at h52; omega)
      · try simp only [decide_eq_true_eq, decide_eq_false_iff_not, Bool.not_eq_true, Bool.not_eq_false, Bool.not_eq_true', Bool.not_eq_false', beq_iff_eq, bne_iff_ne, beq_eq_false_iff_ne, bne_eq_false_iff_eq, Int.not_lt, Int.not_le, ge_iff_le, gt_iff_lt] at h52
        refine AM_condF rfl ?_
        refine AM_skip ?_
        refine AM_seq ?_
        refine AM_seq ?_
        refine AM_draw rfl ?_
        refine AL_p (x_loadN (n := 2) rfl rfl rfl (by kernel_rfl) rfl rfl) ?_
        refine AL_p (x_pload (f := relC) (n := 2) rfl rfl (by kernel_rfl) rfl rfl) ?_
        refine AL_p (x_callR rfl rfl rfl (toRel_c x0 s0 112) rfl AllV.rf rfl rfl rfl rfl rfl) ?_
        refine AL_p (x_callR rfl rfl rfl (eqRel_c (x0)) rfl AllV.rf rfl rfl rfl rfl rfl) ?_
        refine AL_p (x_not rfl rfl) ?_
        refine AL_nild (by kernel_rfl) ?_
        refine AM_condF rfl ?_
        refine AM_skip ?_
        refine AM_seq ?_
        refine AM_seq ?_
        refine AM_draw rfl ?_
        refine AL_p (x_loadN (n := 2) rfl rfl rfl (by kernel_rfl) rfl rfl) ?_
        refine AL_p (x_pload (f := relC) (n := 2) rfl rfl (by kernel_rfl) rfl rfl) ?_
        refine AL_p (x_callR rfl rfl rfl (toRel_c x1 s1 113) rfl AllV.rf rfl rfl rfl rfl rfl) ?_
        refine AL_p (x_callR rfl rfl rfl (eqRel_c (x1)) rfl AllV.rf rfl rfl rfl rfl rfl) ?_
        refine AL_p (x_not rfl rfl) ?_
        refine AL_nild (by kernel_rfl) ?_
        refine AM_condF rfl ?_
        refine AM_skip ?_
        refine AM_seq ?_
        refine AM_region ?_
        refine AL_p (x_assign rfl rfl) ?_
        refine AL_nil ?_
        refine AM_seq ?_
        refine AM_regionM ?_
        refine LM_p (x_loadN (n := 2) rfl rfl rfl (by kernel_rfl) rfl rfl) ?_
        refine LM_p (x_move rfl rfl) ?_
        have n0 : cntDRel (x0) ≤ 1152921504606846976 := cntRel_le s0
        have v0 := markDRel_cnt (x0) (1)
        refine LM_markA (F := relC) (z := x0) (z' := (markDRel x0 (1)).1) [(2, _), (3, _), (6, _), (7, _), (9, _), (10, _), (11, _), (12, _)] [(109, some _), (111, some _), (108, some _), (110, some _)] rfl rfl rfl rfl ⟨_, _, Try.func24, rfl, rfl⟩ (fun w cs bs h hF => markDRel_any cs _ bs _ 0 w h hF (by omega) (by omega)) rfl rfl FitL.rf (wf64 (by omega) (by omega)) ⟨⟨rfl, rfl⟩, ⟨rfl, rfl⟩, ⟨rfl, rfl⟩, ⟨rfl, trivial⟩, ⟨rfl, trivial⟩, ⟨rfl, trivial⟩, ⟨rfl, trivial⟩, ⟨rfl, trivial⟩, trivial⟩ ⟨⟨rfl, ⟨trivial, rfl, trivial⟩⟩, ⟨rfl, ⟨trivial, rfl, trivial⟩⟩, ⟨rfl, rfl, rfl⟩, ⟨rfl, rfl, rfl⟩, trivial⟩ ?_
        refine LM_p (x_assign rfl rfl) ?_
        refine LM_nil ?_
        refine AM_seq ?_
        refine AM_regionM ?_
        refine LM_p (x_loadN (n := 2) rfl rfl rfl (by kernel_rfl) rfl rfl) ?_
        refine LM_p (x_move rfl rfl) ?_
        have n1 : cntDRel (x1) ≤ 1152921504606846976 := cntRel_le s1
        have v1 := markDRel_cnt (x1) ((markDRel x0 (1)).2)
        refine LM_markA (F := relC) (z := x1) (z' := (markDRel x1 ((markDRel x0 (1)).2)).1) [(2, _), (3, _), (6, _), (7, _), (10, _), (11, _), (12, _)] [(111, some _), (110, some _)] rfl rfl rfl rfl ⟨_, _, Try.func24, rfl, rfl⟩ (fun w cs bs h hF => markDRel_any cs _ bs _ 0 w h hF (by omega) (by omega)) rfl rfl FitL.rf (wf64 (by omega) (by omega)) ⟨⟨rfl, rfl⟩, ⟨rfl, rfl⟩, ⟨rfl, rfl⟩, ⟨rfl, trivial⟩, ⟨rfl, trivial⟩, ⟨rfl, trivial⟩, ⟨rfl, trivial⟩, trivial⟩ ⟨⟨rfl, ⟨trivial, rfl, trivial⟩⟩, ⟨rfl, rfl, rfl⟩, trivial⟩ ?_
        refine LM_p (x_assign rfl rfl) ?_
        refine LM_nil ?_
        refine AM_seq ?_
        refine AM_seq ?_
        refine AM_region ?_
        refine AL_p (x_move rfl rfl) ?_
        refine AL_b (x_lss rfl rfl rfl) (fun b71 h71 => ?_)
        refine AL_p (x_move rfl rfl) ?_
        cases b71
        rotate_left
        · exfalso; first | (simp [ba_beq_self] at h71; done) | (simp at h71; omega)
        · try simp only [decide_eq_true_eq, decide_eq_false_iff_not, Bool.not_eq_true, Bool.not_eq_false, Bool.not_eq_true', Bool.not_eq_false', beq_iff_eq, bne_iff_ne, beq_eq_false_iff_ne, bne_eq_false_iff_eq, Int.not_lt, Int.not_le, ge_iff_le, gt_iff_lt] at h71
          refine AL_g rfl rfl (x_loadN (n := 2) rfl rfl rfl (by kernel_rfl) rfl rfl) ?_
          refine AL_g rfl rfl (x_pload (f := relC) (n := 2) rfl rfl (by kernel_rfl) rfl rfl) ?_
          refine AL_g rfl rfl (x_callR rfl rfl rfl (eqRel_c ((relMinus x0 x1).1)) rfl AllV.rf rfl rfl rfl rfl rfl) ?_
          refine AL_g rfl rfl (x_not rfl rfl) ?_
          refine AL_p (x_pickF rfl rfl rfl) ?_
          refine AL_p (x_move rfl rfl) ?_
          refine AL_g rfl rfl (x_move rfl rfl) ?_
          refine AL_g rfl rfl (x_move rfl rfl) ?_
          refine AL_gb rfl rfl (x_bneq rfl rfl rfl (by kernel_rfl)) (fun b81 h81 => ?_)
          refine AL_p (x_pickF rfl rfl rfl) ?_
          refine AL_nil ?_
          cases b81
          rotate_left
          · exfalso; first | (simp [ba_beq_self] at h81; done) | (simp at h81; omega)
          · try simp only [decide_eq_true_eq, decide_eq_false_iff_not, Bool.not_eq_true, Bool.not_eq_false, Bool.not_eq_true', Bool.not_eq_false', beq_iff_eq, bne_iff_ne, beq_eq_false_iff_ne, bne_eq_false_iff_eq, Int.not_lt, Int.not_le, ge_iff_le, gt_iff_lt] at h81
            refine AM_condF rfl ?_
            refine AM_skip ?_
            refine AM_seq ?_
            refine AM_region ?_
            refine AL_p (x_assign rfl rfl) ?_
            refine AL_nil ?_
            refine AM_seq ?_
            refine AM_regionM ?_
            refine LM_p (x_loadN (n := 2) rfl rfl rfl (by kernel_rfl) rfl rfl) ?_
            refine LM_p (x_move rfl rfl) ?_
            have n2 : cntDRel ((relMinus x0 x1).1) ≤ 1152921504606846976 := cntRel_le (relMinus_small s0 s1)
            have v2 := markDRel_cnt ((relMinus x0 x1).1) (1)
            refine LM_markAK (F := relC) (z := (relMinus x0 x1).1) (z' := (markDRel (relMinus x0 x1).1 (1)).1) 10 111 (fun B' => [(2, .one (.epo B' relE (x0) 0)), (3, .one (.epo B' relE (x1) 0)), (6, .one (.epo B' relE ((relMinus x0 x1).1) 0)), (7, .one (.c _)), (13, .one (.c _))]) rfl rfl rfl rfl rfl rfl rfl rfl ⟨_, _, Try.func24, rfl, rfl⟩ (fun w cs bs h hF => markDRel_any cs _ bs _ 0 w h hF (by omega) (by omega)) rfl rfl FitL.rf (wf64 (by omega) (by omega)) (fun B' => ⟨⟨_, rfl, .epo⟩, ⟨_, rfl, .epo⟩, ⟨_, rfl, .epo⟩, ⟨_, rfl, .c⟩, ⟨_, rfl, .c⟩, trivial⟩) (fun B' => ?_)
            refine LM_p (x_assign rfl rfl) ?_
            refine LM_nil ?_
            refine AM_seq ?_
            refine AM_region ?_
            refine AL_p (x_assign rfl rfl) ?_
            refine AL_nil ?_
            refine AM_seq ?_
            refine AM_region ?_
            refine AL_p (x_pload (f := relC) (n := 2) rfl rfl (by kernel_rfl) rfl rfl) ?_
            refine AL_p (x_move rfl rfl) ?_
            refine AL_p (x_callR rfl rfl rfl (heldDRel_c ((relMinus x0 x1).1) (1) (by omega) (by omega)) rfl AllV.rf rfl rfl rfl rfl rfl) ?_
            refine AL_p (x_assign rfl rfl) ?_
            refine AL_nil ?_
            refine AM_seq ?_
            refine AM_seq ?_
            refine AM_region ?_
            refine AL_p (x_move rfl rfl) ?_
            refine AL_b (x_lss rfl rfl rfl) (fun b90 h90 => ?_)
            refine AL_nil ?_
            cases b90
            rotate_left
            · exfalso; first | (simp [ba_beq_self] at h90; done) | (simp at h90; omega)
            · try simp only [decide_eq_true_eq, decide_eq_false_iff_not, Bool.not_eq_true, Bool.not_eq_false, Bool.not_eq_true', Bool.not_eq_false', beq_iff_eq, bne_iff_ne, beq_eq_false_iff_ne, bne_eq_false_iff_eq, Int.not_lt, Int.not_le, ge_iff_le, gt_iff_lt] at h90
              refine AM_condF rfl ?_
              refine AM_skip ?_
              refine AM_seq ?_
              refine AM_seq ?_
              refine AM_region ?_
              refine AL_p (x_move rfl rfl) ?_
              refine AL_p (x_move rfl rfl) ?_
              refine AL_b (x_neq rfl rfl rfl) (fun b93 h93 => ?_)
              refine AL_nil ?_
              cases b93
              rotate_left
              · exfalso; first | (simp [ba_beq_self] at h93; done) | (simp at h93; omega)
              · try simp only [decide_eq_true_eq, decide_eq_false_iff_not, Bool.not_eq_true, Bool.not_eq_false, Bool.not_eq_true', Bool.not_eq_false', beq_iff_eq, bne_iff_ne, beq_eq_false_iff_ne, bne_eq_false_iff_eq, Int.not_lt, Int.not_le, ge_iff_le, gt_iff_lt] at h93
                refine AM_condF rfl ?_
                refine AM_skip ?_
                refine AM_seq ?_
                refine AM_draw rfl ?_
                refine AL_p (x_pload (f := relC) (n := 2) rfl rfl (by kernel_rfl) rfl rfl) ?_
                refine AL_p (x_callR rfl rfl rfl (toRel_c x0 s0 114) rfl AllV.rf rfl rfl rfl rfl rfl) ?_
                refine AL_p (x_pload (f := relC) (n := 2) rfl rfl (by kernel_rfl) rfl rfl) ?_
                refine AL_p (x_callR rfl rfl rfl (toRel_c x1 s1 115) rfl AllV.rf rfl rfl rfl rfl rfl) ?_
                refine AL_p (x_callR rfl rfl rfl (relMinusI_c x0 x1 s0 s1 116) rfl AllV.rf rfl rfl rfl rfl rfl) ?_
                refine AL_p (x_move rfl rfl) ?_
                refine AL_p (x_extract rfl rfl rfl) ?_
                refine AL_p (x_extract rfl rfl rfl) ?_
                refine AL_p (x_alloc (z := .agg #[.int .i64 0, .slice none 0 0]) 117 rfl (by kernel_rfl) rfl rfl rfl rfl) ?_
                refine AL_p (x_store (n := 2) rfl rfl rfl rfl (by kernel_rfl) rfl rfl rfl) ?_
                refine AL_p (x_assign rfl rfl) ?_
                refine AL_nild (by kernel_rfl) ?_
                refine AM_seq ?_
                refine AM_seq ?_
                refine AM_region ?_
                refine AL_p (x_loadN (n := 2) rfl rfl rfl (by kernel_rfl) rfl rfl) ?_
                refine AL_p (x_pload (f := relC) (n := 2) rfl rfl (by kernel_rfl) rfl rfl) ?_
                refine AL_p (x_callR rfl rfl rfl (eqRel_c ((relMinus x0 x1).1)) rfl AllV.rf rfl rfl rfl rfl rfl) ?_
                refine AL_p (x_not rfl rfl) ?_
                refine AL_p (x_move rfl rfl) ?_
                refine AL_g rfl rfl (x_move rfl rfl) ?_
                refine AL_g rfl rfl (x_move rfl rfl) ?_
                refine AL_gb rfl rfl (x_bneq rfl rfl rfl (by kernel_rfl)) (fun b109 h109 => ?_)
                refine AL_p (x_pickF rfl rfl rfl) ?_
                refine AL_nil ?_
                cases b109
                rotate_left
                · exfalso; first | (simp [ba_beq_self] at h109; done) | (simp at h109; omega)
                · try simp only [decide_eq_true_eq, decide_eq_false_iff_not, Bool.not_eq_true, Bool.not_eq_false, Bool.not_eq_true', Bool.not_eq_false', beq_iff_eq, bne_iff_ne, beq_eq_false_iff_ne, bne_eq_false_iff_eq, Int.not_lt, Int.not_le, ge_iff_le, gt_iff_lt] at h109
                  refine AM_condF rfl ?_
                  refine AM_skip ?_
                  refine AM_seq ?_
                  refine AM_region ?_
                  refine AL_p (x_assign rfl rfl) ?_
                  refine AL_nil ?_
                  refine AM_seq ?_
                  refine AM_region ?_
                  refine AL_p (x_pload (f := relC) (n := 2) rfl rfl (by kernel_rfl) rfl rfl) ?_
                  refine AL_p (x_move rfl rfl) ?_
                  refine AL_p (x_callR rfl rfl rfl (heldDRel_c ((relMinus x0 x1).1) (1) (by omega) (by omega)) rfl AllV.rf rfl rfl rfl rfl rfl) ?_
                  refine AL_p (x_assign rfl rfl) ?_
                  refine AL_nil ?_
                  refine AM_seq ?_
                  refine AM_seq ?_
                  refine AM_region ?_
                  refine AL_p (x_move rfl rfl) ?_
                  refine AL_b (x_lss rfl rfl rfl) (fun b115 h115 => ?_)
                  refine AL_nil ?_
                  cases b115
                  rotate_left
                  · exfalso; first | (simp [ba_beq_self] at h115; done) | (simp at h115; omega)
                  · try simp only [decide_eq_true_eq, decide_eq_false_iff_not, Bool.not_eq_true, Bool.not_eq_false, Bool.not_eq_true', Bool.not_eq_false', beq_iff_eq, bne_iff_ne, beq_eq_false_iff_ne, bne_eq_false_iff_eq, Int.not_lt, Int.not_le, ge_iff_le, gt_iff_lt] at h115
                    refine AM_condF rfl ?_
                    refine AM_skip ?_
                    refine AM_seq ?_
                    refine AM_seq ?_
                    refine AM_region ?_
                    refine AL_p (x_move rfl rfl) ?_
                    refine AL_p (x_move rfl rfl) ?_
                    refine AL_b (x_neq rfl rfl rfl) (fun b118 h118 => ?_)
                    refine AL_nil ?_
                    cases b118
                    rotate_left
                    · exfalso; first | (simp [ba_beq_self] at h118; done) | (simp at h118; omega)
                    · try simp only [decide_eq_true_eq, decide_eq_false_iff_not, Bool.not_eq_true, Bool.not_eq_false, Bool.not_eq_true', Bool.not_eq_false', beq_iff_eq, bne_iff_ne, beq_eq_false_iff_ne, bne_eq_false_iff_eq, Int.not_lt, Int.not_le, ge_iff_le, gt_iff_lt] at h118
                      refine AM_condF rfl ?_
                      refine AM_skip ?_
                      refine AM_seq ?_
                      refine AM_region ?_
                      refine AL_p (x_assign rfl rfl) ?_
                      refine AL_nil ?_
                      refine AM_ret ?_
                      exact rfl
end Go.Proofs.Ytcgickpnckedcaa

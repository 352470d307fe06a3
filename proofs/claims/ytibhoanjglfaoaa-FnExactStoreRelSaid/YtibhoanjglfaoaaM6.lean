/- Lemmas of the walks, part 6. -/
import Derived.Test.YtibhoanjglfaoaaM5
/- The walk of FnExactStoreRel (printed by walk.py) -/
namespace Go.Proofs.Ytibhoanjglfaoaa
open Go.RowKit
set_option linter.unusedVariables false
set_option linter.unusedSimpArgs false
set_option maxRecDepth 100000

set_option maxHeartbeats 4000000 in
theorem lawFnExactStoreRel.walk (w : World) (c0 : Array Value) (x0 : Storet) (b0 : List Nat) (h0 : storeE.rep w c0.toList x0 b0) (x1 : ByteArray) (h1 : x1.size ≤ maxLen) :
    Calls Try.prog 3 #[.agg c0, .string x1] w fun e w' => e = .returned (.bool true) ∧ Below w.heap.size w w' := by
  refine AM_law (r := 4) Try.func3 rfl Try.ntmps3 rfl Try.results3 w _ (args := [.agg (storeC x0), .one (.c (.string x1))]) ⟨arg_agg h0, ⟨rfl, h1⟩, trivial⟩ (fun B => ?_)
  refine AM_seq ?_
  refine AM_region ?_
  refine AL_p (x_box 100 rfl rfl rfl rfl rfl rfl rfl) ?_
  refine AL_p (x_assign rfl rfl) ?_
  refine AL_nil ?_
  refine AM_seq ?_
  refine AM_seq ?_
  refine AM_region ?_
  refine AL_p (x_move rfl rfl) ?_
  refine AL_p (x_lens rfl rfl (by kernel_rfl)) ?_
  refine AL_b (x_gtr rfl rfl rfl) (fun b18 h18 => ?_)
  refine AL_nil ?_
  cases b18
  rotate_left
  · try simp only [decide_eq_true_eq, decide_eq_false_iff_not, Bool.not_eq_true, Bool.not_eq_false, Bool.not_eq_true', Bool.not_eq_false', beq_iff_eq, bne_iff_ne, beq_eq_false_iff_ne, bne_eq_false_iff_eq, Int.not_lt, Int.not_le, ge_iff_le, gt_iff_lt] at h18
    refine AM_condT rfl ?_
    refine AM_seq ?_
    refine AM_region ?_
    refine AL_p (x_assign rfl rfl) ?_
    refine AL_nil ?_
    refine AM_ret ?_
    exact rfl
  · try simp only [decide_eq_true_eq, decide_eq_false_iff_not, Bool.not_eq_true, Bool.not_eq_false, Bool.not_eq_true', Bool.not_eq_false', beq_iff_eq, bne_iff_ne, beq_eq_false_iff_ne, bne_eq_false_iff_eq, Int.not_lt, Int.not_le, ge_iff_le, gt_iff_lt] at h18
    refine AM_condF rfl ?_
    refine AM_skip ?_
    refine AM_seq ?_
    refine AM_region ?_
    refine AL_p (x_assign rfl rfl) ?_
    refine AL_nil ?_
    refine AM_seq ?_
    refine AM_region ?_
    refine AL_p (x_loadN (n := 1) rfl rfl rfl (by kernel_rfl) rfl rfl) ?_
    refine AL_p (x_move rfl rfl) ?_
    refine AL_p (x_call0 rfl rfl rfl (szStore_c _ _ (by omega) (by omega)) rfl rfl) ?_
    refine AL_p (x_assign rfl rfl) ?_
    refine AL_nil ?_
    refine AM_seq ?_
    refine AM_seq ?_
    refine AM_region ?_
    refine AL_p (x_move rfl rfl) ?_
    refine AL_b (x_lss rfl rfl rfl) (fun b23 h23 => ?_)
    refine AL_nil ?_
    cases b23
    rotate_left
    · try simp only [decide_eq_true_eq, decide_eq_false_iff_not, Bool.not_eq_true, Bool.not_eq_false, Bool.not_eq_true', Bool.not_eq_false', beq_iff_eq, bne_iff_ne, beq_eq_false_iff_ne, bne_eq_false_iff_eq, Int.not_lt, Int.not_le, ge_iff_le, gt_iff_lt] at h23
      refine AM_condT rfl ?_
      refine AM_seq ?_
      refine AM_region ?_
      refine AL_p (x_assign rfl rfl) ?_
      refine AL_nil ?_
      refine AM_ret ?_
      exact rfl
    · try simp only [decide_eq_true_eq, decide_eq_false_iff_not, Bool.not_eq_true, Bool.not_eq_false, Bool.not_eq_true', Bool.not_eq_false', beq_iff_eq, bne_iff_ne, beq_eq_false_iff_ne, bne_eq_false_iff_eq, Int.not_lt, Int.not_le, ge_iff_le, gt_iff_lt] at h23
      have f23 := (szR_nonneg h23).1
      have e23 := (szR_nonneg h23).2
      have t0 : totStore x0 ≤ 1048576 := by omega
      have s0 := totStore_small t0
      refine AM_condF rfl ?_
      refine AM_skip ?_
      refine AM_seq ?_
      refine AM_region ?_
      refine AL_p (x_loadN (n := 1) rfl rfl rfl (by kernel_rfl) rfl rfl) ?_
      refine AL_p (x_callR rfl rfl rfl (toStore_c x0 s0 101) rfl AllV.rf rfl rfl rfl rfl rfl) ?_
      refine AL_p (x_move rfl rfl) ?_
      refine AL_p (x_callR rfl rfl rfl (storeRelS_c x0 x1 s0 102) rfl AllV.rf rfl rfl rfl rfl rfl) ?_
      refine AL_p (x_move rfl rfl) ?_
      refine AL_p (x_extract rfl rfl rfl) ?_
      refine AL_p (x_extract rfl rfl rfl) ?_
      refine AL_p (x_alloc (z := .agg #[.int .i64 0, .slice none 0 0]) 103 rfl (by kernel_rfl) rfl rfl rfl rfl) ?_
      refine AL_p (x_store (n := 2) rfl rfl rfl rfl (by kernel_rfl) rfl rfl rfl) ?_
      refine AL_p (x_assign rfl rfl) ?_
      refine AL_nil ?_
      refine AM_raise (fun B' => [(1, .one (.c _)), (2, .one (.epo B' storeE (x0) 0)), (6, .one (.epo B' relE ((storeRel x0 x1).1) 0)), (7, .one (.c _))]) (fun B' => ⟨⟨_, rfl, .c⟩, ⟨_, rfl, .box (f := storeC) rfl rfl rfl FitL.rf⟩, ⟨_, rfl, .box (f := relC) rfl rfl rfl FitL.rf⟩, ⟨_, rfl, .c⟩, trivial⟩) (fun B' => ?_)
      refine AM_seq ?_
      refine AM_region ?_
      refine AL_p (x_pload (f := storeC) (n := 1) rfl rfl (by kernel_rfl) rfl rfl) ?_
      refine AL_p (x_callR rfl rfl rfl (toStore_c x0 s0 104) rfl AllV.rf rfl rfl rfl rfl rfl) ?_
      refine AL_p (x_alloc (z := .agg #[.slice none 0 0]) 105 rfl (by kernel_rfl) rfl rfl rfl rfl) ?_
      refine AL_p (x_store (n := 1) rfl rfl rfl rfl (by kernel_rfl) rfl rfl rfl) ?_
      refine AL_nil ?_
      refine AM_seq ?_
      refine AM_region ?_
      refine AL_p (x_loadN (n := 1) rfl rfl rfl (by kernel_rfl) rfl rfl) ?_
      refine AL_p (x_move rfl rfl) ?_
      refine AL_p (x_callR rfl rfl rfl (storeRelI_c x0 x1 s0 106) rfl AllV.rf rfl rfl rfl rfl rfl) ?_
      refine AL_p (x_move rfl rfl) ?_
      refine AL_p (x_extract rfl rfl rfl) ?_
      refine AL_p (x_extract rfl rfl rfl) ?_
      refine AL_p (x_alloc (z := .agg #[.int .i64 0, .slice none 0 0]) 107 rfl (by kernel_rfl) rfl rfl rfl rfl) ?_
      refine AL_p (x_store (n := 2) rfl rfl rfl rfl (by kernel_rfl) rfl rfl rfl) ?_
      refine AL_p (x_assign rfl rfl) ?_
      refine AL_nil ?_
      refine AM_seq ?_
      refine AM_seq ?_
      refine AM_region ?_
      refine AL_p (x_loadN (n := 2) rfl rfl rfl (by kernel_rfl) rfl rfl) ?_
      refine AL_p (x_pload (f := relC) (n := 2) rfl rfl (by kernel_rfl) rfl rfl) ?_
      refine AL_p (x_callR rfl rfl rfl (eqRel_c ((storeRel x0 x1).1)) rfl AllV.rf rfl rfl rfl rfl rfl) ?_
      refine AL_p (x_not rfl rfl) ?_
      refine AL_p (x_move rfl rfl) ?_
      refine AL_g rfl rfl (x_move rfl rfl) ?_
      refine AL_g rfl rfl (x_move rfl rfl) ?_
      refine AL_gb rfl rfl (x_bneq rfl rfl rfl (by kernel_rfl)) (fun b46 h46 => ?_)
      refine AL_p (x_pickF rfl rfl rfl) ?_
      refine AL_nil ?_
      cases b46
      rotate_left
      · exfalso; first | (simp [ba_beq_self] at h46; done) | (simp at h46; omega)
      · try simp only [decide_eq_true_eq, decide_eq_false_iff_not, Bool.not_eq_true, Bool.not_eq_false, Bool.not_eq_true', Bool.not_eq_false', beq_iff_eq, bne_iff_ne, beq_eq_false_iff_ne, bne_eq_false_iff_eq, Int.not_lt, Int.not_le, ge_iff_le, gt_iff_lt] at h46
        refine AM_condF rfl ?_
        refine AM_skip ?_
        refine AM_seq ?_
        refine AM_seq ?_
        refine AM_draw rfl ?_
        refine AL_p (x_loadN (n := 1) rfl rfl rfl (by kernel_rfl) rfl rfl) ?_
        refine AL_p (x_pload (f := storeC) (n := 1) rfl rfl (by kernel_rfl) rfl rfl) ?_
        refine AL_p (x_callR rfl rfl rfl (toStore_c x0 s0 108) rfl AllV.rf rfl rfl rfl rfl rfl) ?_
        refine AL_p (x_callR rfl rfl rfl (eqStore_c (x0)) rfl AllV.rf rfl rfl rfl rfl rfl) ?_
        refine AL_p (x_not rfl rfl) ?_
        refine AL_nild (by kernel_rfl) ?_
        refine AM_condF rfl ?_
        refine AM_skip ?_
        refine AM_seq ?_
        refine AM_region ?_
        refine AL_p (x_assign rfl rfl) ?_
        refine AL_nil ?_
        refine AM_seq ?_
        refine AM_regionM ?_
        refine LM_p (x_loadN (n := 1) rfl rfl rfl (by kernel_rfl) rfl rfl) ?_
        refine LM_p (x_move rfl rfl) ?_
        have n0 : cntDStore (x0) ≤ 1152921504606846976 := cntStore_le t0
        have v0 := markDStore_cnt (x0) (1)
        refine LM_markA (F := storeC) (z := x0) (z' := (markDStore x0 (1)).1) [(1, _), (2, _), (6, _), (7, _), (9, _), (10, _), (11, _)] [(107, some _), (106, some _)] rfl rfl rfl rfl ⟨_, _, Try.func16, rfl, rfl⟩ (fun w cs bs h hF => markDStore_any cs _ bs _ 0 w h hF (by omega) (by omega)) rfl rfl FitL.rf (wf64 (by omega) (by omega)) ⟨⟨rfl, trivial⟩, ⟨rfl, rfl⟩, ⟨rfl, rfl⟩, ⟨rfl, trivial⟩, ⟨rfl, trivial⟩, ⟨rfl, trivial⟩, ⟨rfl, trivial⟩, trivial⟩ ⟨⟨rfl, ⟨trivial, rfl, trivial⟩⟩, ⟨rfl, rfl, rfl⟩, trivial⟩ ?_
        refine LM_p (x_assign rfl rfl) ?_
        refine LM_nil ?_
        refine AM_seq ?_
        refine AM_seq ?_
        refine AM_region ?_
        refine AL_p (x_move rfl rfl) ?_
        refine AL_b (x_lss rfl rfl rfl) (fun b57 h57 => ?_)
        refine AL_p (x_move rfl rfl) ?_
        cases b57
        rotate_left
        · exfalso; first | (simp [ba_beq_self] at h57; done) | (simp at h57; omega)
        · try simp only [decide_eq_true_eq, decide_eq_false_iff_not, Bool.not_eq_true, Bool.not_eq_false, Bool.not_eq_true', Bool.not_eq_false', beq_iff_eq, bne_iff_ne, beq_eq_false_iff_ne, bne_eq_false_iff_eq, Int.not_lt, Int.not_le, ge_iff_le, gt_iff_lt] at h57
          refine AL_g rfl rfl (x_loadN (n := 2) rfl rfl rfl (by kernel_rfl) rfl rfl) ?_
          refine AL_g rfl rfl (x_pload (f := relC) (n := 2) rfl rfl (by kernel_rfl) rfl rfl) ?_
          refine AL_g rfl rfl (x_callR rfl rfl rfl (eqRel_c ((storeRel x0 x1).1)) rfl AllV.rf rfl rfl rfl rfl rfl) ?_
          refine AL_g rfl rfl (x_not rfl rfl) ?_
          refine AL_p (x_pickF rfl rfl rfl) ?_
          refine AL_p (x_move rfl rfl) ?_
          refine AL_g rfl rfl (x_move rfl rfl) ?_
          refine AL_g rfl rfl (x_move rfl rfl) ?_
          refine AL_gb rfl rfl (x_bneq rfl rfl rfl (by kernel_rfl)) (fun b67 h67 => ?_)
          refine AL_p (x_pickF rfl rfl rfl) ?_
          refine AL_nil ?_
          cases b67
          rotate_left
          · exfalso; first | (simp [ba_beq_self] at h67; done) | (simp at h67; omega)
          · try simp only [decide_eq_true_eq, decide_eq_false_iff_not, Bool.not_eq_true, Bool.not_eq_false, Bool.not_eq_true', Bool.not_eq_false', beq_iff_eq, bne_iff_ne, beq_eq_false_iff_ne, bne_eq_false_iff_eq, Int.not_lt, Int.not_le, ge_iff_le, gt_iff_lt] at h67
            refine AM_condF rfl ?_
            refine AM_skip ?_
            refine AM_seq ?_
            refine AM_region ?_
            refine AL_p (x_assign rfl rfl) ?_
            refine AL_nil ?_
            refine AM_seq ?_
            refine AM_regionM ?_
            refine LM_p (x_loadN (n := 2) rfl rfl rfl (by kernel_rfl) rfl rfl) ?_
            refine LM_p (x_move rfl rfl) ?_
            have n1 : cntDRel ((storeRel x0 x1).1) ≤ 1152921504606846976 := cntRel_le (storeRel_small s0)
            have v1 := markDRel_cnt ((storeRel x0 x1).1) (1)
            refine LM_markAK (F := relC) (z := (storeRel x0 x1).1) (z' := (markDRel (storeRel x0 x1).1 (1)).1) 9 107 (fun B' => [(1, .one (.c _)), (2, .one (.epo B' storeE (x0) 0)), (6, .one (.epo B' relE ((storeRel x0 x1).1) 0)), (7, .one (.c _)), (12, .one (.c _))]) rfl rfl rfl rfl rfl rfl rfl rfl ⟨_, _, Try.func17, rfl, rfl⟩ (fun w cs bs h hF => markDRel_any cs _ bs _ 0 w h hF (by omega) (by omega)) rfl rfl FitL.rf (wf64 (by omega) (by omega)) (fun B' => ⟨⟨_, rfl, .c⟩, ⟨_, rfl, .epo⟩, ⟨_, rfl, .epo⟩, ⟨_, rfl, .c⟩, ⟨_, rfl, .c⟩, trivial⟩) (fun B' => ?_)
            refine LM_p (x_assign rfl rfl) ?_
            refine LM_nil ?_
            refine AM_seq ?_
            refine AM_region ?_
            refine AL_p (x_assign rfl rfl) ?_
            refine AL_nil ?_
            refine AM_seq ?_
            refine AM_region ?_
            refine AL_p (x_pload (f := relC) (n := 2) rfl rfl (by kernel_rfl) rfl rfl) ?_
            refine AL_p (x_move rfl rfl) ?_
            refine AL_p (x_callR rfl rfl rfl (heldDRel_c ((storeRel x0 x1).1) (1) (by omega) (by omega)) rfl AllV.rf rfl rfl rfl rfl rfl) ?_
            refine AL_p (x_assign rfl rfl) ?_
            refine AL_nil ?_
            refine AM_seq ?_
            refine AM_seq ?_
            refine AM_region ?_
            refine AL_p (x_move rfl rfl) ?_
            refine AL_b (x_lss rfl rfl rfl) (fun b76 h76 => ?_)
            refine AL_nil ?_
            cases b76
            rotate_left
            · exfalso; first | (simp [ba_beq_self] at h76; done) | (simp at h76; omega)
            · try simp only [decide_eq_true_eq, decide_eq_false_iff_not, Bool.not_eq_true, Bool.not_eq_false, Bool.not_eq_true', Bool.not_eq_false', beq_iff_eq, bne_iff_ne, beq_eq_false_iff_ne, bne_eq_false_iff_eq, Int.not_lt, Int.not_le, ge_iff_le, gt_iff_lt] at h76
              refine AM_condF rfl ?_
              refine AM_skip ?_
              refine AM_seq ?_
              refine AM_seq ?_
              refine AM_region ?_
              refine AL_p (x_move rfl rfl) ?_
              refine AL_p (x_move rfl rfl) ?_
              refine AL_b (x_neq rfl rfl rfl) (fun b79 h79 => ?_)
              refine AL_nil ?_
              cases b79
              rotate_left
              · exfalso; first | (simp [ba_beq_self] at h79; done) | (simp at h79; omega)
              · try simp only [decide_eq_true_eq, decide_eq_false_iff_not, Bool.not_eq_true, Bool.not_eq_false, Bool.not_eq_true', Bool.not_eq_false', beq_iff_eq, bne_iff_ne, beq_eq_false_iff_ne, bne_eq_false_iff_eq, Int.not_lt, Int.not_le, ge_iff_le, gt_iff_lt] at h79
                refine AM_condF rfl ?_
                refine AM_skip ?_
                refine AM_seq ?_
                refine AM_region ?_
                refine AL_p (x_pload (f := storeC) (n := 1) rfl rfl (by kernel_rfl) rfl rfl) ?_
                refine AL_p (x_callR rfl rfl rfl (toStore_c x0 s0 109) rfl AllV.rf rfl rfl rfl rfl rfl) ?_
                refine AL_p (x_move rfl rfl) ?_
                refine AL_p (x_callR rfl rfl rfl (storeRelI_c x0 x1 s0 110) rfl AllV.rf rfl rfl rfl rfl rfl) ?_
                refine AL_p (x_move rfl rfl) ?_
                refine AL_p (x_extract rfl rfl rfl) ?_
                refine AL_p (x_extract rfl rfl rfl) ?_
                refine AL_p (x_alloc (z := .agg #[.int .i64 0, .slice none 0 0]) 111 rfl (by kernel_rfl) rfl rfl rfl rfl) ?_
                refine AL_p (x_store (n := 2) rfl rfl rfl rfl (by kernel_rfl) rfl rfl rfl) ?_
                refine AL_p (x_assign rfl rfl) ?_
                refine AL_nil ?_
                refine AM_seq ?_
                refine AM_seq ?_
                refine AM_region ?_
                refine AL_p (x_loadN (n := 2) rfl rfl rfl (by kernel_rfl) rfl rfl) ?_
                refine AL_p (x_pload (f := relC) (n := 2) rfl rfl (by kernel_rfl) rfl rfl) ?_
                refine AL_p (x_callR rfl rfl rfl (eqRel_c ((storeRel x0 x1).1)) rfl AllV.rf rfl rfl rfl rfl rfl) ?_
                refine AL_p (x_not rfl rfl) ?_
                refine AL_p (x_move rfl rfl) ?_
                refine AL_g rfl rfl (x_move rfl rfl) ?_
                refine AL_g rfl rfl (x_move rfl rfl) ?_
                refine AL_gb rfl rfl (x_bneq rfl rfl rfl (by kernel_rfl)) (fun b94 h94 => ?_)
                refine AL_p (x_pickF rfl rfl rfl) ?_
                refine AL_nil ?_
                cases b94
                rotate_left
                · exfalso; first | (simp [ba_beq_self] at h94; done) | (simp at h94; omega)
                · try simp only [decide_eq_true_eq, decide_eq_false_iff_not, Bool.not_eq_true, Bool.not_eq_false, Bool.not_eq_true', Bool.not_eq_false', beq_iff_eq, bne_iff_ne, beq_eq_false_iff_ne, bne_eq_false_iff_eq, Int.not_lt, Int.not_le, ge_iff_le, gt_iff_lt] at h94
                  refine AM_condF rfl ?_
                  refine AM_skip ?_
                  refine AM_seq ?_
                  refine AM_region ?_
                  refine AL_p (x_assign rfl rfl) ?_
                  refine AL_nil ?_
                  refine AM_seq ?_
                  refine AM_region ?_
                  refine AL_p (x_pload (f := relC) (n := 2) rfl rfl (by kernel_rfl) rfl rfl) ?_
                  refine AL_p (x_move rfl rfl) ?_
                  refine AL_p (x_callR rfl rfl rfl (heldDRel_c ((storeRel x0 x1).1) (1) (by omega) (by omega)) rfl AllV.rf rfl rfl rfl rfl rfl) ?_
                  refine AL_p (x_assign rfl rfl) ?_
                  refine AL_nil ?_
                  refine AM_seq ?_
                  refine AM_seq ?_
                  refine AM_region ?_
                  refine AL_p (x_move rfl rfl) ?_
                  refine AL_b (x_lss rfl rfl rfl) (fun b100 h100 => ?_)
                  refine AL_nil ?_
                  cases b100
                  rotate_left
                  · exfalso; first | (simp [ba_beq_self] at h100; done) | (simp at h100; omega)
                  · try simp only [decide_eq_true_eq, decide_eq_false_iff_not, Bool.not_eq_true, Bool.not_eq_false, Bool.not_eq_true', Bool.not_eq_false', beq_iff_eq, bne_iff_ne, beq_eq_false_iff_ne, bne_eq_false_iff_eq, Int.not_lt, Int.not_le, ge_iff_le, gt_iff_lt] at h100
                    refine AM_condF rfl ?_
                    refine AM_skip ?_
                    refine AM_seq ?_
                    refine AM_seq ?_
                    refine AM_region ?_
                    refine AL_p (x_move rfl rfl) ?_
                    refine AL_p (x_move rfl rfl) ?_
                    refine AL_b (x_neq rfl rfl rfl) (fun b103 h103 => ?_)
                    refine AL_nil ?_
                    cases b103
                    rotate_left
                    · exfalso; first | (simp [ba_beq_self] at h103; done) | (simp at h103; omega)
                    · try simp only [decide_eq_true_eq, decide_eq_false_iff_not, Bool.not_eq_true, Bool.not_eq_false, Bool.not_eq_true', Bool.not_eq_false', beq_iff_eq, bne_iff_ne, beq_eq_false_iff_ne, bne_eq_false_iff_eq, Int.not_lt, Int.not_le, ge_iff_le, gt_iff_lt] at h103
                      refine AM_condF rfl ?_
                      refine AM_skip ?_
                      refine AM_seq ?_
                      refine AM_region ?_
                      refine AL_p (x_assign rfl rfl) ?_
                      refine AL_nil ?_
                      refine AM_ret ?_
                      exact rfl
end Go.Proofs.Ytibhoanjglfaoaa

/- The walk of FnExactDeltaBack (printed by walk.py) -/
namespace Go.Proofs.Ytibhoanjglfaoaa
open Go.RowKit
set_option linter.unusedVariables false
set_option linter.unusedSimpArgs false
set_option maxRecDepth 100000

set_option maxHeartbeats 4000000 in
theorem lawFnExactDeltaBack.walk (w : World) (c0 : Array Value) (x0 : Deltat) (b0 : List Nat) (h0 : deltaE.rep w c0.toList x0 b0) :
    Calls Try.prog 8 #[.agg c0] w fun e w' => e = .returned (.bool true) ∧ Below w.heap.size w w' := by
  refine AM_law (r := 2) Try.func8 rfl Try.ntmps8 rfl Try.results8 w _ (args := [.agg (deltaC x0)]) ⟨arg_agg h0, trivial⟩ (fun B => ?_)
  refine AM_seq ?_
  refine AM_region ?_
  refine AL_p (x_box 100 rfl rfl rfl rfl rfl rfl rfl) ?_
  refine AL_p (x_assign rfl rfl) ?_
  refine AL_nil ?_
  refine AM_seq ?_
  refine AM_region ?_
  refine AL_p (x_assign rfl rfl) ?_
  refine AL_nil ?_
  refine AM_seq ?_
  refine AM_region ?_
  refine AL_p (x_loadN (n := 1) rfl rfl rfl (by kernel_rfl) rfl rfl) ?_
  refine AL_p (x_move rfl rfl) ?_
  refine AL_p (x_call0 rfl rfl rfl (szDelta_c _ _ (by omega) (by omega)) rfl rfl) ?_
  refine AL_p (x_assign rfl rfl) ?_
  refine AL_nil ?_
  refine AM_seq ?_
  refine AM_seq ?_
  refine AM_region ?_
  refine AL_p (x_move rfl rfl) ?_
  refine AL_b (x_lss rfl rfl rfl) (fun b15 h15 => ?_)
  refine AL_nil ?_
  cases b15
  rotate_left
  · try simp only [decide_eq_true_eq, decide_eq_false_iff_not, Bool.not_eq_true, Bool.not_eq_false, Bool.not_eq_true', Bool.not_eq_false', beq_iff_eq, bne_iff_ne, beq_eq_false_iff_ne, bne_eq_false_iff_eq, Int.not_lt, Int.not_le, ge_iff_le, gt_iff_lt] at h15
    refine AM_condT rfl ?_
    refine AM_seq ?_
    refine AM_region ?_
    refine AL_p (x_assign rfl rfl) ?_
    refine AL_nil ?_
    refine AM_ret ?_
    exact rfl
  · try simp only [decide_eq_true_eq, decide_eq_false_iff_not, Bool.not_eq_true, Bool.not_eq_false, Bool.not_eq_true', Bool.not_eq_false', beq_iff_eq, bne_iff_ne, beq_eq_false_iff_ne, bne_eq_false_iff_eq, Int.not_lt, Int.not_le, ge_iff_le, gt_iff_lt] at h15
    have f15 := (szR_nonneg h15).1
    have e15 := (szR_nonneg h15).2
    have t0 : totDelta x0 ≤ 1048576 := by omega
    have s0 := totDelta_small t0
    refine AM_condF rfl ?_
    refine AM_skip ?_
    refine AM_seq ?_
    refine AM_region ?_
    refine AL_p (x_loadN (n := 1) rfl rfl rfl (by kernel_rfl) rfl rfl) ?_
    refine AL_p (x_callR rfl rfl rfl (toDelta_c x0 s0 101) rfl AllV.rf rfl rfl rfl rfl rfl) ?_
    refine AL_p (x_callR rfl rfl rfl (deltaBackS_c x0 s0 102) rfl AllV.rf rfl rfl rfl rfl rfl) ?_
    refine AL_p (x_alloc (z := .agg #[.slice none 0 0]) 103 rfl (by kernel_rfl) rfl rfl rfl rfl) ?_
    refine AL_p (x_store (n := 1) rfl rfl rfl rfl (by kernel_rfl) rfl rfl rfl) ?_
    refine AL_nil ?_
    refine AM_raise (fun B' => [(1, .one (.epo B' deltaE (x0) 0)), (4, .one (.epo B' deltaE ((deltaBack x0)) 0))]) (fun B' => ⟨⟨_, rfl, .box (f := deltaC) rfl rfl rfl FitL.rf⟩, ⟨_, rfl, .box (f := deltaC) rfl rfl rfl FitL.rf⟩, trivial⟩) (fun B' => ?_)
    refine AM_seq ?_
    refine AM_region ?_
    refine AL_p (x_pload (f := deltaC) (n := 1) rfl rfl (by kernel_rfl) rfl rfl) ?_
    refine AL_p (x_callR rfl rfl rfl (toDelta_c x0 s0 104) rfl AllV.rf rfl rfl rfl rfl rfl) ?_
    refine AL_p (x_alloc (z := .agg #[.slice none 0 0]) 105 rfl (by kernel_rfl) rfl rfl rfl rfl) ?_
    refine AL_p (x_store (n := 1) rfl rfl rfl rfl (by kernel_rfl) rfl rfl rfl) ?_
    refine AL_nil ?_
    refine AM_seq ?_
    refine AM_region ?_
    refine AL_p (x_loadN (n := 1) rfl rfl rfl (by kernel_rfl) rfl rfl) ?_
    refine AL_p (x_callR rfl rfl rfl (deltaBackI_c x0 s0 106) rfl AllV.rf rfl rfl rfl rfl rfl) ?_
    refine AL_p (x_alloc (z := .agg #[.slice none 0 0]) 107 rfl (by kernel_rfl) rfl rfl rfl rfl) ?_
    refine AL_p (x_store (n := 1) rfl rfl rfl rfl (by kernel_rfl) rfl rfl rfl) ?_
    refine AL_nil ?_
    refine AM_seq ?_
    refine AM_seq ?_
    refine AM_region ?_
    refine AL_p (x_loadN (n := 1) rfl rfl rfl (by kernel_rfl) rfl rfl) ?_
    refine AL_p (x_pload (f := deltaC) (n := 1) rfl rfl (by kernel_rfl) rfl rfl) ?_
    refine AL_p (x_callR rfl rfl rfl (eqDelta_c ((deltaBack x0))) rfl AllV.rf rfl rfl rfl rfl rfl) ?_
    refine AL_p (x_not rfl rfl) ?_
    refine AL_nil ?_
    refine AM_condF rfl ?_
    refine AM_skip ?_
    refine AM_seq ?_
    refine AM_seq ?_
    refine AM_draw rfl ?_
    refine AL_p (x_loadN (n := 1) rfl rfl rfl (by kernel_rfl) rfl rfl) ?_
    refine AL_p (x_pload (f := deltaC) (n := 1) rfl rfl (by kernel_rfl) rfl rfl) ?_
    refine AL_p (x_callR rfl rfl rfl (toDelta_c x0 s0 108) rfl AllV.rf rfl rfl rfl rfl rfl) ?_
    refine AL_p (x_callR rfl rfl rfl (eqDelta_c (x0)) rfl AllV.rf rfl rfl rfl rfl rfl) ?_
    refine AL_p (x_not rfl rfl) ?_
    refine AL_nild (by kernel_rfl) ?_
    refine AM_condF rfl ?_
    refine AM_skip ?_
    refine AM_seq ?_
    refine AM_region ?_
    refine AL_p (x_assign rfl rfl) ?_
    refine AL_nil ?_
    refine AM_seq ?_
    refine AM_regionM ?_
    refine LM_p (x_loadN (n := 1) rfl rfl rfl (by kernel_rfl) rfl rfl) ?_
    refine LM_p (x_move rfl rfl) ?_
    have n0 : cntDDelta (x0) ≤ 1152921504606846976 := cntDelta_le t0
    have v0 := markDDelta_cnt (x0) (1)
    refine LM_markA (F := deltaC) (z := x0) (z' := (markDDelta x0 (1)).1) [(1, _), (4, _), (6, _), (7, _)] [(107, some _), (106, some _)] rfl rfl rfl rfl ⟨_, _, Try.func40, rfl, rfl⟩ (fun w cs bs h hF => markDDelta_any cs _ bs _ 0 w h hF (by omega) (by omega)) rfl rfl FitL.rf (wf64 (by omega) (by omega)) ⟨⟨rfl, rfl⟩, ⟨rfl, rfl⟩, ⟨rfl, trivial⟩, ⟨rfl, trivial⟩, trivial⟩ ⟨⟨rfl, ⟨rfl, trivial⟩⟩, ⟨rfl, rfl, rfl⟩, trivial⟩ ?_
    refine LM_p (x_assign rfl rfl) ?_
    refine LM_nil ?_
    refine AM_seq ?_
    refine AM_seq ?_
    refine AM_region ?_
    refine AL_p (x_move rfl rfl) ?_
    refine AL_b (x_lss rfl rfl rfl) (fun b36 h36 => ?_)
    refine AL_p (x_move rfl rfl) ?_
    cases b36
    rotate_left
    · exfalso; first | (simp [ba_beq_self] at h36; done) | (simp at h36; omega)
    · try simp only [decide_eq_true_eq, decide_eq_false_iff_not, Bool.not_eq_true, Bool.not_eq_false, Bool.not_eq_true', Bool.not_eq_false', beq_iff_eq, bne_iff_ne, beq_eq_false_iff_ne, bne_eq_false_iff_eq, Int.not_lt, Int.not_le, ge_iff_le, gt_iff_lt] at h36
      refine AL_g rfl rfl (x_loadN (n := 1) rfl rfl rfl (by kernel_rfl) rfl rfl) ?_
      refine AL_g rfl rfl (x_pload (f := deltaC) (n := 1) rfl rfl (by kernel_rfl) rfl rfl) ?_
      refine AL_g rfl rfl (x_callR rfl rfl rfl (eqDelta_c ((deltaBack x0))) rfl AllV.rf rfl rfl rfl rfl rfl) ?_
      refine AL_g rfl rfl (x_not rfl rfl) ?_
      refine AL_p (x_pickF rfl rfl rfl) ?_
      refine AL_nil ?_
      refine AM_condF rfl ?_
      refine AM_skip ?_
      refine AM_seq ?_
      refine AM_region ?_
      refine AL_p (x_assign rfl rfl) ?_
      refine AL_nil ?_
      refine AM_seq ?_
      refine AM_regionM ?_
      refine LM_p (x_loadN (n := 1) rfl rfl rfl (by kernel_rfl) rfl rfl) ?_
      refine LM_p (x_move rfl rfl) ?_
      have n1 : cntDDelta ((deltaBack x0)) ≤ 1152921504606846976 := cntDelta_le (deltaBack_tot t0)
      have v1 := markDDelta_cnt ((deltaBack x0)) (1)
      refine LM_markAK (F := deltaC) (z := (deltaBack x0)) (z' := (markDDelta (deltaBack x0) (1)).1) 6 107 (fun B' => [(1, .one (.epo B' deltaE (x0) 0)), (4, .one (.epo B' deltaE ((deltaBack x0)) 0)), (8, .one (.c _))]) rfl rfl rfl rfl rfl rfl rfl rfl ⟨_, _, Try.func40, rfl, rfl⟩ (fun w cs bs h hF => markDDelta_any cs _ bs _ 0 w h hF (by omega) (by omega)) rfl rfl FitL.rf (wf64 (by omega) (by omega)) (fun B' => ⟨⟨_, rfl, .epo⟩, ⟨_, rfl, .epo⟩, ⟨_, rfl, .c⟩, trivial⟩) (fun B' => ?_)
      refine LM_p (x_assign rfl rfl) ?_
      refine LM_nil ?_
      refine AM_seq ?_
      refine AM_region ?_
      refine AL_p (x_assign rfl rfl) ?_
      refine AL_nil ?_
      refine AM_seq ?_
      refine AM_region ?_
      refine AL_p (x_pload (f := deltaC) (n := 1) rfl rfl (by kernel_rfl) rfl rfl) ?_
      refine AL_p (x_move rfl rfl) ?_
      refine AL_p (x_callR rfl rfl rfl (heldDDelta_c ((deltaBack x0)) (1) (by omega) (by omega)) rfl AllV.rf rfl rfl rfl rfl rfl) ?_
      refine AL_p (x_assign rfl rfl) ?_
      refine AL_nil ?_
      refine AM_seq ?_
      refine AM_seq ?_
      refine AM_region ?_
      refine AL_p (x_move rfl rfl) ?_
      refine AL_b (x_lss rfl rfl rfl) (fun b50 h50 => ?_)
      refine AL_nil ?_
      cases b50
      rotate_left
      · exfalso; first | (simp [ba_beq_self] at h50; done) | (simp at h50; omega)
      · try simp only [decide_eq_true_eq, decide_eq_false_iff_not, Bool.not_eq_true, Bool.not_eq_false, Bool.not_eq_true', Bool.not_eq_false', beq_iff_eq, bne_iff_ne, beq_eq_false_iff_ne, bne_eq_false_iff_eq, Int.not_lt, Int.not_le, ge_iff_le, gt_iff_lt] at h50
        refine AM_condF rfl ?_
        refine AM_skip ?_
        refine AM_seq ?_
        refine AM_seq ?_
        refine AM_region ?_
        refine AL_p (x_move rfl rfl) ?_
        refine AL_p (x_move rfl rfl) ?_
        refine AL_b (x_neq rfl rfl rfl) (fun b53 h53 => ?_)
        refine AL_nil ?_
        cases b53
        rotate_left
        · exfalso; first | (simp [ba_beq_self] at h53; done) | (simp at h53; omega)
        · try simp only [decide_eq_true_eq, decide_eq_false_iff_not, Bool.not_eq_true, Bool.not_eq_false, Bool.not_eq_true', Bool.not_eq_false', beq_iff_eq, bne_iff_ne, beq_eq_false_iff_ne, bne_eq_false_iff_eq, Int.not_lt, Int.not_le, ge_iff_le, gt_iff_lt] at h53
          refine AM_condF rfl ?_
          refine AM_skip ?_
          refine AM_seq ?_
          refine AM_region ?_
          refine AL_p (x_pload (f := deltaC) (n := 1) rfl rfl (by kernel_rfl) rfl rfl) ?_
          refine AL_p (x_callR rfl rfl rfl (toDelta_c x0 s0 109) rfl AllV.rf rfl rfl rfl rfl rfl) ?_
          refine AL_p (x_callR rfl rfl rfl (deltaBackI_c x0 s0 110) rfl AllV.rf rfl rfl rfl rfl rfl) ?_
          refine AL_p (x_alloc (z := .agg #[.slice none 0 0]) 111 rfl (by kernel_rfl) rfl rfl rfl rfl) ?_
          refine AL_p (x_store (n := 1) rfl rfl rfl rfl (by kernel_rfl) rfl rfl rfl) ?_
          refine AL_nil ?_
          refine AM_seq ?_
          refine AM_seq ?_
          refine AM_region ?_
          refine AL_p (x_loadN (n := 1) rfl rfl rfl (by kernel_rfl) rfl rfl) ?_
          refine AL_p (x_pload (f := deltaC) (n := 1) rfl rfl (by kernel_rfl) rfl rfl) ?_
          refine AL_p (x_callR rfl rfl rfl (eqDelta_c ((deltaBack x0))) rfl AllV.rf rfl rfl rfl rfl rfl) ?_
          refine AL_p (x_not rfl rfl) ?_
          refine AL_nil ?_
          refine AM_condF rfl ?_
          refine AM_skip ?_
          refine AM_seq ?_
          refine AM_region ?_
          refine AL_p (x_assign rfl rfl) ?_
          refine AL_nil ?_
          refine AM_seq ?_
          refine AM_region ?_
          refine AL_p (x_pload (f := deltaC) (n := 1) rfl rfl (by kernel_rfl) rfl rfl) ?_
          refine AL_p (x_move rfl rfl) ?_
          refine AL_p (x_callR rfl rfl rfl (heldDDelta_c ((deltaBack x0)) (1) (by omega) (by omega)) rfl AllV.rf rfl rfl rfl rfl rfl) ?_
          refine AL_p (x_assign rfl rfl) ?_
          refine AL_nil ?_
          refine AM_seq ?_
          refine AM_seq ?_
          refine AM_region ?_
          refine AL_p (x_move rfl rfl) ?_
          refine AL_b (x_lss rfl rfl rfl) (fun b65 h65 => ?_)
          refine AL_nil ?_
          cases b65
          rotate_left
          · exfalso; first | (simp [ba_beq_self] at h65; done) | (simp at h65; omega)
          · try simp only [decide_eq_true_eq, decide_eq_false_iff_not, Bool.not_eq_true, Bool.not_eq_false, Bool.not_eq_true', Bool.not_eq_false', beq_iff_eq, bne_iff_ne, beq_eq_false_iff_ne, bne_eq_false_iff_eq, Int.not_lt, Int.not_le, ge_iff_le, gt_iff_lt] at h65
            refine AM_condF rfl ?_
            refine AM_skip ?_
            refine AM_seq ?_
            refine AM_seq ?_
            refine AM_region ?_
            refine AL_p (x_move rfl rfl) ?_
            refine AL_p (x_move rfl rfl) ?_
            refine AL_b (x_neq rfl rfl rfl) (fun b68 h68 => ?_)
            refine AL_nil ?_
            cases b68
            rotate_left
            · exfalso; first | (simp [ba_beq_self] at h68; done) | (simp at h68; omega)
            · try simp only [decide_eq_true_eq, decide_eq_false_iff_not, Bool.not_eq_true, Bool.not_eq_false, Bool.not_eq_true', Bool.not_eq_false', beq_iff_eq, bne_iff_ne, beq_eq_false_iff_ne, bne_eq_false_iff_eq, Int.not_lt, Int.not_le, ge_iff_le, gt_iff_lt] at h68
              refine AM_condF rfl ?_
              refine AM_skip ?_
              refine AM_seq ?_
              refine AM_region ?_
              refine AL_p (x_assign rfl rfl) ?_
              refine AL_nil ?_
              refine AM_ret ?_
              exact rfl
end Go.Proofs.Ytibhoanjglfaoaa

/- The walk of FnExactDeltaOf (printed by walk.py) -/
namespace Go.Proofs.Ytibhoanjglfaoaa
open Go.RowKit
set_option linter.unusedVariables false
set_option linter.unusedSimpArgs false
set_option maxRecDepth 100000

set_option maxHeartbeats 4000000 in
theorem lawFnExactDeltaOf.walk (w : World) (c0 : Array Value) (x0 : Storet) (b0 : List Nat) (h0 : storeE.rep w c0.toList x0 b0) (c1 : Array Value) (x1 : Storet) (b1 : List Nat) (h1 : storeE.rep w c1.toList x1 b1) :
    Calls Try.prog 9 #[.agg c0, .agg c1] w fun e w' => e = .returned (.bool true) ∧ Below w.heap.size w w' := by
  refine AM_law (r := 4) Try.func9 rfl Try.ntmps9 rfl Try.results9 w _ (args := [.agg (storeC x0), .agg (storeC x1)]) ⟨arg_agg h0, arg_agg h1, trivial⟩ (fun B => ?_)
  refine AM_seq ?_
  refine AM_region ?_
  refine AL_p (x_box 100 rfl rfl rfl rfl rfl rfl rfl) ?_
  refine AL_p (x_box 101 rfl rfl rfl rfl rfl rfl rfl) ?_
  refine AL_p (x_assign rfl rfl) ?_
  refine AL_nil ?_
  refine AM_seq ?_
  refine AM_region ?_
  refine AL_p (x_assign rfl rfl) ?_
  refine AL_nil ?_
  refine AM_seq ?_
  refine AM_region ?_
  refine AL_p (x_loadN (n := 1) rfl rfl rfl (by kernel_rfl) rfl rfl) ?_
  refine AL_p (x_move rfl rfl) ?_
  refine AL_p (x_call0 rfl rfl rfl (szStore_c _ _ (by omega) (by omega)) rfl rfl) ?_
  refine AL_p (x_assign rfl rfl) ?_
  refine AL_nil ?_
  refine AM_seq ?_
  refine AM_seq ?_
  refine AM_region ?_
  refine AL_p (x_move rfl rfl) ?_
  refine AL_b (x_lss rfl rfl rfl) (fun b21 h21 => ?_)
  refine AL_nil ?_
  cases b21
  rotate_left
  · try simp only [decide_eq_true_eq, decide_eq_false_iff_not, Bool.not_eq_true, Bool.not_eq_false, Bool.not_eq_true', Bool.not_eq_false', beq_iff_eq, bne_iff_ne, beq_eq_false_iff_ne, bne_eq_false_iff_eq, Int.not_lt, Int.not_le, ge_iff_le, gt_iff_lt] at h21
    refine AM_condT rfl ?_
    refine AM_seq ?_
    refine AM_region ?_
    refine AL_p (x_assign rfl rfl) ?_
    refine AL_nil ?_
    refine AM_ret ?_
    exact rfl
  · try simp only [decide_eq_true_eq, decide_eq_false_iff_not, Bool.not_eq_true, Bool.not_eq_false, Bool.not_eq_true', Bool.not_eq_false', beq_iff_eq, bne_iff_ne, beq_eq_false_iff_ne, bne_eq_false_iff_eq, Int.not_lt, Int.not_le, ge_iff_le, gt_iff_lt] at h21
    have f21 := (szR_nonneg h21).1
    have e21 := (szR_nonneg h21).2
    refine AM_condF rfl ?_
    refine AM_skip ?_
    refine AM_seq ?_
    refine AM_region ?_
    refine AL_p (x_loadN (n := 1) rfl rfl rfl (by kernel_rfl) rfl rfl) ?_
    refine AL_p (x_move rfl rfl) ?_
    refine AL_p (x_call0 rfl rfl rfl (szStore_c _ _ (by omega) (by omega)) rfl rfl) ?_
    refine AL_p (x_assign rfl rfl) ?_
    refine AL_nil ?_
    refine AM_seq ?_
    refine AM_seq ?_
    refine AM_region ?_
    refine AL_p (x_move rfl rfl) ?_
    refine AL_b (x_lss rfl rfl rfl) (fun b26 h26 => ?_)
    refine AL_nil ?_
    cases b26
    rotate_left
    · try simp only [decide_eq_true_eq, decide_eq_false_iff_not, Bool.not_eq_true, Bool.not_eq_false, Bool.not_eq_true', Bool.not_eq_false', beq_iff_eq, bne_iff_ne, beq_eq_false_iff_ne, bne_eq_false_iff_eq, Int.not_lt, Int.not_le, ge_iff_le, gt_iff_lt] at h26
      refine AM_condT rfl ?_
      refine AM_seq ?_
      refine AM_region ?_
      refine AL_p (x_assign rfl rfl) ?_
      refine AL_nil ?_
      refine AM_ret ?_
      exact rfl
    · try simp only [decide_eq_true_eq, decide_eq_false_iff_not, Bool.not_eq_true, Bool.not_eq_false, Bool.not_eq_true', Bool.not_eq_false', beq_iff_eq, bne_iff_ne, beq_eq_false_iff_ne, bne_eq_false_iff_eq, Int.not_lt, Int.not_le, ge_iff_le, gt_iff_lt] at h26
      have f26 := (szR_nonneg h26).1
      have e26 := (szR_nonneg h26).2
      have t0 : totStore x0 ≤ 1048576 := by omega
      have t1 : totStore x1 ≤ 1048576 := by omega
      have s0 := totStore_small t0
      have s1 := totStore_small t1
      refine AM_condF rfl ?_
      refine AM_skip ?_
      refine AM_seq ?_
      refine AM_draw rfl ?_
      refine AL_p (x_loadN (n := 1) rfl rfl rfl (by kernel_rfl) rfl rfl) ?_
      refine AL_p (x_callR rfl rfl rfl (toStore_c x0 s0 102) rfl AllV.rf rfl rfl rfl rfl rfl) ?_
      refine AL_p (x_loadN (n := 1) rfl rfl rfl (by kernel_rfl) rfl rfl) ?_
      refine AL_p (x_callR rfl rfl rfl (toStore_c x1 s1 103) rfl AllV.rf rfl rfl rfl rfl rfl) ?_
      refine AL_p (x_callR rfl rfl rfl (deltaOfS_c x0 x1 s0 s1 104) rfl AllV.rf rfl rfl rfl rfl rfl) ?_
      refine AL_p (x_move rfl rfl) ?_
      refine AL_p (x_extract rfl rfl rfl) ?_
      refine AL_p (x_extract rfl rfl rfl) ?_
      refine AL_p (x_alloc (z := .agg #[.slice none 0 0]) 105 rfl (by kernel_rfl) rfl rfl rfl rfl) ?_
      refine AL_p (x_store (n := 1) rfl rfl rfl rfl (by kernel_rfl) rfl rfl rfl) ?_
      refine AL_p (x_assign rfl rfl) ?_
      refine AL_nild (by kernel_rfl) ?_
      refine AM_raise (fun B' => [(2, .one (.epo B' storeE (x0) 0)), (3, .one (.epo B' storeE (x1) 0)), (6, .one (.epo B' deltaE ((deltaOf x0 x1).1) 0)), (7, .one (.c _))]) (fun B' => ⟨⟨_, rfl, .box (f := storeC) rfl rfl rfl FitL.rf⟩, ⟨_, rfl, .box (f := storeC) rfl rfl rfl FitL.rf⟩, ⟨_, rfl, .box (f := deltaC) rfl rfl rfl FitL.rf⟩, ⟨_, rfl, .c⟩, trivial⟩) (fun B' => ?_)
      refine AM_seq ?_
      refine AM_region ?_
      refine AL_p (x_pload (f := storeC) (n := 1) rfl rfl (by kernel_rfl) rfl rfl) ?_
      refine AL_p (x_callR rfl rfl rfl (toStore_c x0 s0 106) rfl AllV.rf rfl rfl rfl rfl rfl) ?_
      refine AL_p (x_alloc (z := .agg #[.slice none 0 0]) 107 rfl (by kernel_rfl) rfl rfl rfl rfl) ?_
      refine AL_p (x_store (n := 1) rfl rfl rfl rfl (by kernel_rfl) rfl rfl rfl) ?_
      refine AL_nil ?_
      refine AM_seq ?_
      refine AM_region ?_
      refine AL_p (x_pload (f := storeC) (n := 1) rfl rfl (by kernel_rfl) rfl rfl) ?_
      refine AL_p (x_callR rfl rfl rfl (toStore_c x1 s1 108) rfl AllV.rf rfl rfl rfl rfl rfl) ?_
      refine AL_p (x_alloc (z := .agg #[.slice none 0 0]) 109 rfl (by kernel_rfl) rfl rfl rfl rfl) ?_
      refine AL_p (x_store (n := 1) rfl rfl rfl rfl (by kernel_rfl) rfl rfl rfl) ?_
      refine AL_nil ?_
      refine AM_seq ?_
      refine AM_region ?_
      refine AL_p (x_loadN (n := 1) rfl rfl rfl (by kernel_rfl) rfl rfl) ?_
      refine AL_p (x_loadN (n := 1) rfl rfl rfl (by kernel_rfl) rfl rfl) ?_
      refine AL_p (x_callR rfl rfl rfl (deltaOfI_c x0 x1 s0 s1 110) rfl AllV.rf rfl rfl rfl rfl rfl) ?_
      refine AL_p (x_move rfl rfl) ?_
      refine AL_p (x_extract rfl rfl rfl) ?_
      refine AL_p (x_extract rfl rfl rfl) ?_
      refine AL_p (x_alloc (z := .agg #[.slice none 0 0]) 111 rfl (by kernel_rfl) rfl rfl rfl rfl) ?_
      refine AL_p (x_store (n := 1) rfl rfl rfl rfl (by kernel_rfl) rfl rfl rfl) ?_
      refine AL_p (x_assign rfl rfl) ?_
      refine AL_nil ?_
      refine AM_seq ?_
      refine AM_seq ?_
      refine AM_region ?_
      refine AL_p (x_loadN (n := 1) rfl rfl rfl (by kernel_rfl) rfl rfl) ?_
      refine AL_p (x_pload (f := deltaC) (n := 1) rfl rfl (by kernel_rfl) rfl rfl) ?_
      refine AL_p (x_callR rfl rfl rfl (eqDelta_c ((deltaOf x0 x1).1)) rfl AllV.rf rfl rfl rfl rfl rfl) ?_
      refine AL_p (x_not rfl rfl) ?_
      refine AL_p (x_move rfl rfl) ?_
      refine AL_g rfl rfl (x_move rfl rfl) ?_
      refine AL_g rfl rfl (x_move rfl rfl) ?_
      refine AL_gb rfl rfl (x_bneq rfl rfl rfl (by kernel_rfl)) (fun b52 h52 => ?_)
      refine AL_p (x_pickF rfl rfl rfl) ?_
      refine AL_nil ?_
      cases b52
      rotate_left
      · exfalso; first | (simp [ba_beq_self] at h52; done) | (simp at h52; omega)
      · try simp only [decide_eq_true_eq, decide_eq_false_iff_not, Bool.not_eq_true, Bool.not_eq_false, Bool.not_eq_true', Bool.not_eq_false', beq_iff_eq, bne_iff_ne, beq_eq_false_iff_ne, bne_eq_false_iff_eq, Int.not_lt, Int.not_le, ge_iff_le, gt_iff_lt] at h52
        refine AM_condF rfl ?_
        refine AM_skip ?_
        refine AM_seq ?_
        refine AM_seq ?_
        refine AM_draw rfl ?_
        refine AL_p (x_loadN (n := 1) rfl rfl rfl (by kernel_rfl) rfl rfl) ?_
        refine AL_p (x_pload (f := storeC) (n := 1) rfl rfl (by kernel_rfl) rfl rfl) ?_
        refine AL_p (x_callR rfl rfl rfl (toStore_c x0 s0 112) rfl AllV.rf rfl rfl rfl rfl rfl) ?_
        refine AL_p (x_callR rfl rfl rfl (eqStore_c (x0)) rfl AllV.rf rfl rfl rfl rfl rfl) ?_
        refine AL_p (x_not rfl rfl) ?_
        refine AL_nild (by kernel_rfl) ?_
        refine AM_condF rfl ?_
        refine AM_skip ?_
        refine AM_seq ?_
        refine AM_seq ?_
        refine AM_draw rfl ?_
        refine AL_p (x_loadN (n := 1) rfl rfl rfl (by kernel_rfl) rfl rfl) ?_
        refine AL_p (x_pload (f := storeC) (n := 1) rfl rfl (by kernel_rfl) rfl rfl) ?_
        refine AL_p (x_callR rfl rfl rfl (toStore_c x1 s1 113) rfl AllV.rf rfl rfl rfl rfl rfl) ?_
        refine AL_p (x_callR rfl rfl rfl (eqStore_c (x1)) rfl AllV.rf rfl rfl rfl rfl rfl) ?_
        refine AL_p (x_not rfl rfl) ?_
        refine AL_nild (by kernel_rfl) ?_
        refine AM_condF rfl ?_
        refine AM_skip ?_
        refine AM_seq ?_
        refine AM_region ?_
        refine AL_p (x_assign rfl rfl) ?_
        refine AL_nil ?_
        refine AM_seq ?_
        refine AM_regionM ?_
        refine LM_p (x_loadN (n := 1) rfl rfl rfl (by kernel_rfl) rfl rfl) ?_
        refine LM_p (x_move rfl rfl) ?_
        have n0 : cntDStore (x0) ≤ 1152921504606846976 := cntStore_le t0
        have v0 := markDStore_cnt (x0) (1)
        refine LM_markA (F := storeC) (z := x0) (z' := (markDStore x0 (1)).1) [(2, _), (3, _), (6, _), (7, _), (9, _), (10, _), (11, _), (12, _)] [(109, some _), (111, some _), (108, some _), (110, some _)] rfl rfl rfl rfl ⟨_, _, Try.func16, rfl, rfl⟩ (fun w cs bs h hF => markDStore_any cs _ bs _ 0 w h hF (by omega) (by omega)) rfl rfl FitL.rf (wf64 (by omega) (by omega)) ⟨⟨rfl, rfl⟩, ⟨rfl, rfl⟩, ⟨rfl, rfl⟩, ⟨rfl, trivial⟩, ⟨rfl, trivial⟩, ⟨rfl, trivial⟩, ⟨rfl, trivial⟩, ⟨rfl, trivial⟩, trivial⟩ ⟨⟨rfl, ⟨rfl, trivial⟩⟩, ⟨rfl, ⟨rfl, trivial⟩⟩, ⟨rfl, rfl, rfl⟩, ⟨rfl, rfl, rfl⟩, trivial⟩ ?_
        refine LM_p (x_assign rfl rfl) ?_
        refine LM_nil ?_
        refine AM_seq ?_
        refine AM_regionM ?_
        refine LM_p (x_loadN (n := 1) rfl rfl rfl (by kernel_rfl) rfl rfl) ?_
        refine LM_p (x_move rfl rfl) ?_
        have n1 : cntDStore (x1) ≤ 1152921504606846976 := cntStore_le t1
        have v1 := markDStore_cnt (x1) ((markDStore x0 (1)).2)
        refine LM_markA (F := storeC) (z := x1) (z' := (markDStore x1 ((markDStore x0 (1)).2)).1) [(2, _), (3, _), (6, _), (7, _), (10, _), (11, _), (12, _)] [(111, some _), (110, some _)] rfl rfl rfl rfl ⟨_, _, Try.func16, rfl, rfl⟩ (fun w cs bs h hF => markDStore_any cs _ bs _ 0 w h hF (by omega) (by omega)) rfl rfl FitL.rf (wf64 (by omega) (by omega)) ⟨⟨rfl, rfl⟩, ⟨rfl, rfl⟩, ⟨rfl, rfl⟩, ⟨rfl, trivial⟩, ⟨rfl, trivial⟩, ⟨rfl, trivial⟩, ⟨rfl, trivial⟩, trivial⟩ ⟨⟨rfl, ⟨rfl, trivial⟩⟩, ⟨rfl, rfl, rfl⟩, trivial⟩ ?_
        refine LM_p (x_assign rfl rfl) ?_
        refine LM_nil ?_
        refine AM_seq ?_
        refine AM_seq ?_
        refine AM_region ?_
        refine AL_p (x_move rfl rfl) ?_
        refine AL_b (x_lss rfl rfl rfl) (fun b71 h71 => ?_)
        refine AL_p (x_move rfl rfl) ?_
        cases b71
        rotate_left
        · exfalso; first | (simp [ba_beq_self] at h71; done) | (simp at h71; omega)
        · try simp only [decide_eq_true_eq, decide_eq_false_iff_not, Bool.not_eq_true, Bool.not_eq_false, Bool.not_eq_true', Bool.not_eq_false', beq_iff_eq, bne_iff_ne, beq_eq_false_iff_ne, bne_eq_false_iff_eq, Int.not_lt, Int.not_le, ge_iff_le, gt_iff_lt] at h71
          refine AL_g rfl rfl (x_loadN (n := 1) rfl rfl rfl (by kernel_rfl) rfl rfl) ?_
          refine AL_g rfl rfl (x_pload (f := deltaC) (n := 1) rfl rfl (by kernel_rfl) rfl rfl) ?_
          refine AL_g rfl rfl (x_callR rfl rfl rfl (eqDelta_c ((deltaOf x0 x1).1)) rfl AllV.rf rfl rfl rfl rfl rfl) ?_
          refine AL_g rfl rfl (x_not rfl rfl) ?_
          refine AL_p (x_pickF rfl rfl rfl) ?_
          refine AL_p (x_move rfl rfl) ?_
          refine AL_g rfl rfl (x_move rfl rfl) ?_
          refine AL_g rfl rfl (x_move rfl rfl) ?_
          refine AL_gb rfl rfl (x_bneq rfl rfl rfl (by kernel_rfl)) (fun b81 h81 => ?_)
          refine AL_p (x_pickF rfl rfl rfl) ?_
          refine AL_nil ?_
          cases b81
          rotate_left
          · exfalso; first | (simp [ba_beq_self] at h81; done) | (simp at h81; omega)
          · try simp only [decide_eq_true_eq, decide_eq_false_iff_not, Bool.not_eq_true, Bool.not_eq_false, Bool.not_eq_true', Bool.not_eq_false', beq_iff_eq, bne_iff_ne, beq_eq_false_iff_ne, bne_eq_false_iff_eq, Int.not_lt, Int.not_le, ge_iff_le, gt_iff_lt] at h81
            refine AM_condF rfl ?_
            refine AM_skip ?_
            refine AM_seq ?_
            refine AM_region ?_
            refine AL_p (x_assign rfl rfl) ?_
            refine AL_nil ?_
            refine AM_seq ?_
            refine AM_regionM ?_
            refine LM_p (x_loadN (n := 1) rfl rfl rfl (by kernel_rfl) rfl rfl) ?_
            refine LM_p (x_move rfl rfl) ?_
            have n2 : cntDDelta ((deltaOf x0 x1).1) ≤ 1152921504606846976 := deltaOf_bound s0 s1
            have v2 := markDDelta_cnt ((deltaOf x0 x1).1) (1)
            refine LM_markAK (F := deltaC) (z := (deltaOf x0 x1).1) (z' := (markDDelta (deltaOf x0 x1).1 (1)).1) 10 111 (fun B' => [(2, .one (.epo B' storeE (x0) 0)), (3, .one (.epo B' storeE (x1) 0)), (6, .one (.epo B' deltaE ((deltaOf x0 x1).1) 0)), (7, .one (.c _)), (13, .one (.c _))]) rfl rfl rfl rfl rfl rfl rfl rfl ⟨_, _, Try.func40, rfl, rfl⟩ (fun w cs bs h hF => markDDelta_any cs _ bs _ 0 w h hF (by omega) (by omega)) rfl rfl FitL.rf (wf64 (by omega) (by omega)) (fun B' => ⟨⟨_, rfl, .epo⟩, ⟨_, rfl, .epo⟩, ⟨_, rfl, .epo⟩, ⟨_, rfl, .c⟩, ⟨_, rfl, .c⟩, trivial⟩) (fun B' => ?_)
            refine LM_p (x_assign rfl rfl) ?_
            refine LM_nil ?_
            refine AM_seq ?_
            refine AM_region ?_
            refine AL_p (x_assign rfl rfl) ?_
            refine AL_nil ?_
            refine AM_seq ?_
            refine AM_region ?_
            refine AL_p (x_pload (f := deltaC) (n := 1) rfl rfl (by kernel_rfl) rfl rfl) ?_
            refine AL_p (x_move rfl rfl) ?_
            refine AL_p (x_callR rfl rfl rfl (heldDDelta_c ((deltaOf x0 x1).1) (1) (by omega) (by omega)) rfl AllV.rf rfl rfl rfl rfl rfl) ?_
            refine AL_p (x_assign rfl rfl) ?_
            refine AL_nil ?_
            refine AM_seq ?_
            refine AM_seq ?_
            refine AM_region ?_
            refine AL_p (x_move rfl rfl) ?_
            refine AL_b (x_lss rfl rfl rfl) (fun b90 h90 => ?_)
            refine AL_nil ?_
            cases b90
            rotate_left
            · exfalso; first | (simp [ba_beq_self] at h90; done) | (simp at h90; omega)
            · try simp only [decide_eq_true_eq, decide_eq_false_iff_not, Bool.not_eq_true, Bool.not_eq_false, Bool.not_eq_true', Bool.not_eq_false', beq_iff_eq, bne_iff_ne, beq_eq_false_iff_ne, bne_eq_false_iff_eq, Int.not_lt, Int.not_le, ge_iff_le, gt_iff_lt] at h90
              refine AM_condF rfl ?_
              refine AM_skip ?_
              refine AM_seq ?_
              refine AM_seq ?_
              refine AM_region ?_
              refine AL_p (x_move rfl rfl) ?_
              refine AL_p (x_move rfl rfl) ?_
              refine AL_b (x_neq rfl rfl rfl) (fun b93 h93 => ?_)
              refine AL_nil ?_
              cases b93
              rotate_left
              · exfalso; first | (simp [ba_beq_self] at h93; done) | (simp at h93; omega)
              · try simp only [decide_eq_true_eq, decide_eq_false_iff_not, Bool.not_eq_true, Bool.not_eq_false, Bool.not_eq_true', Bool.not_eq_false', beq_iff_eq, bne_iff_ne, beq_eq_false_iff_ne, bne_eq_false_iff_eq, Int.not_lt, Int.not_le, ge_iff_le, gt_iff_lt] at h93
                refine AM_condF rfl ?_
                refine AM_skip ?_
                refine AM_seq ?_
                refine AM_draw rfl ?_
                refine AL_p (x_pload (f := storeC) (n := 1) rfl rfl (by kernel_rfl) rfl rfl) ?_
                refine AL_p (x_callR rfl rfl rfl (toStore_c x0 s0 114) rfl AllV.rf rfl rfl rfl rfl rfl) ?_
                refine AL_p (x_pload (f := storeC) (n := 1) rfl rfl (by kernel_rfl) rfl rfl) ?_
                refine AL_p (x_callR rfl rfl rfl (toStore_c x1 s1 115) rfl AllV.rf rfl rfl rfl rfl rfl) ?_
                refine AL_p (x_callR rfl rfl rfl (deltaOfI_c x0 x1 s0 s1 116) rfl AllV.rf rfl rfl rfl rfl rfl) ?_
                refine AL_p (x_move rfl rfl) ?_
                refine AL_p (x_extract rfl rfl rfl) ?_
                refine AL_p (x_extract rfl rfl rfl) ?_
                refine AL_p (x_alloc (z := .agg #[.slice none 0 0]) 117 rfl (by kernel_rfl) rfl rfl rfl rfl) ?_
                refine AL_p (x_store (n := 1) rfl rfl rfl rfl (by kernel_rfl) rfl rfl rfl) ?_
                refine AL_p (x_assign rfl rfl) ?_
                refine AL_nild (by kernel_rfl) ?_
                refine AM_seq ?_
                refine AM_seq ?_
                refine AM_region ?_
                refine AL_p (x_loadN (n := 1) rfl rfl rfl (by kernel_rfl) rfl rfl) ?_
                refine AL_p (x_pload (f := deltaC) (n := 1) rfl rfl (by kernel_rfl) rfl rfl) ?_
                refine AL_p (x_callR rfl rfl rfl (eqDelta_c ((deltaOf x0 x1).1)) rfl AllV.rf rfl rfl rfl rfl rfl) ?_
                refine AL_p (x_not rfl rfl) ?_
                refine AL_p (x_move rfl rfl) ?_
                refine AL_g rfl rfl (x_move rfl rfl) ?_
                refine AL_g rfl rfl (x_move rfl rfl) ?_
                refine AL_gb rfl rfl (x_bneq rfl rfl rfl (by kernel_rfl)) (fun b109 h109 => ?_)
                refine AL_p (x_pickF rfl rfl rfl) ?_
                refine AL_nil ?_
                cases b109
                rotate_left
                · exfalso; first | (simp [ba_beq_self] at h109; done) | (simp at h109; omega)
                · try simp only [decide_eq_true_eq, decide_eq_false_iff_not, Bool.not_eq_true, Bool.not_eq_false, Bool.not_eq_true', Bool.not_eq_false', beq_iff_eq, bne_iff_ne, beq_eq_false_iff_ne, bne_eq_false_iff_eq, Int.not_lt, Int.not_le, ge_iff_le, gt_iff_lt] at h109
                  refine AM_condF rfl ?_
                  refine AM_skip ?_
                  refine AM_seq ?_
                  refine AM_region ?_
                  refine AL_p (x_assign rfl rfl) ?_
                  refine AL_nil ?_
                  refine AM_seq ?_
                  refine AM_region ?_
                  refine AL_p (x_pload (f := deltaC) (n := 1) rfl rfl (by kernel_rfl) rfl rfl) ?_
                  refine AL_p (x_move rfl rfl) ?_
                  refine AL_p (x_callR rfl rfl rfl (heldDDelta_c ((deltaOf x0 x1).1) (1) (by omega) (by omega)) rfl AllV.rf rfl rfl rfl rfl rfl) ?_
                  refine AL_p (x_assign rfl rfl) ?_
                  refine AL_nil ?_
                  refine AM_seq ?_
                  refine AM_seq ?_
                  refine AM_region ?_
                  refine AL_p (x_move rfl rfl) ?_
                  refine AL_b (x_lss rfl rfl rfl) (fun b115 h115 => ?_)
                  refine AL_nil ?_
                  cases b115
                  rotate_left
                  · exfalso; first | (simp [ba_beq_self] at h115; done) | (simp at h115; omega)
                  · try simp only [decide_eq_true_eq, decide_eq_false_iff_not, Bool.not_eq_true, Bool.not_eq_false, Bool.not_eq_true', Bool.not_eq_false', beq_iff_eq, bne_iff_ne, beq_eq_false_iff_ne, bne_eq_false_iff_eq, Int.not_lt, Int.not_le, ge_iff_le, gt_iff_lt] at h115
                    refine AM_condF rfl ?_
                    refine AM_skip ?_
                    refine AM_seq ?_
                    refine AM_seq ?_
                    refine AM_region ?_
                    refine AL_p (x_move rfl rfl) ?_
                    refine AL_p (x_move rfl rfl) ?_
                    refine AL_b (x_neq rfl rfl rfl) (fun b118 h118 => ?_)
                    refine AL_nil ?_
                    cases b118
                    rotate_left
                    · exfalso; first | (simp [ba_beq_self] at h118; done) | (simp at h118; omega)
                    · try simp only [decide_eq_true_eq, decide_eq_false_iff_not, Bool.not_eq_true, Bool.not_eq_false, Bool.not_eq_true', Bool.not_eq_false', beq_iff_eq, bne_iff_ne, beq_eq_false_iff_ne, bne_eq_false_iff_eq, Int.not_lt, Int.not_le, ge_iff_le, gt_iff_lt] at h118
                      refine AM_condF rfl ?_
                      refine AM_skip ?_
                      refine AM_seq ?_
                      refine AM_region ?_
                      refine AL_p (x_assign rfl rfl) ?_
                      refine AL_nil ?_
                      refine AM_ret ?_
                      exact rfl
end Go.Proofs.Ytibhoanjglfaoaa

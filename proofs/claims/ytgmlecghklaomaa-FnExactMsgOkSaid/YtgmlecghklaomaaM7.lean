/- Lemmas of the walks, part 7. -/
import Derived.Test.YtgmlecghklaomaaM6
/- The walk of FnExactMsgOk (printed by walk.py) -/
namespace Go.Proofs.Ytgmlecghklaomaa
open Go.RowKit
set_option linter.unusedVariables false
set_option linter.unusedSimpArgs false
set_option maxRecDepth 100000

set_option maxHeartbeats 4000000 in
theorem lawFnExactMsgOk.walk (w : World) (c0 : Array Value) (x0 : Msgt) (b0 : List Nat) (h0 : msgE.rep w c0.toList x0 b0) :
    Calls Try.prog 3 #[.agg c0] w fun e w' => e = .returned (.bool true) ∧ Below w.heap.size w w' := by
  refine AM_law (r := 2) Try.func3 rfl Try.ntmps3 rfl Try.results3 w _ (args := [.agg (msgC x0)]) ⟨arg_agg h0, trivial⟩ (fun B => ?_)
  refine AM_seq ?_
  refine AM_region ?_
  refine AL_p (x_box 100 rfl rfl rfl rfl rfl rfl rfl) ?_
  refine AL_p (x_assign rfl rfl) ?_
  refine AL_nil ?_
  refine AM_seq ?_
  refine AM_region ?_
  refine AL_p (x_assign rfl rfl) ?_
  refine AL_nil ?_
  refine AM_seq ?_
  refine AM_region ?_
  refine AL_p (x_loadN (n := 10) rfl rfl rfl (by kernel_rfl) rfl rfl) ?_
  refine AL_p (x_move rfl rfl) ?_
  refine AL_p (x_call0 rfl rfl rfl (szMsg_c _ _ (by omega) (by omega)) rfl rfl) ?_
  refine AL_p (x_assign rfl rfl) ?_
  refine AL_nil ?_
  refine AM_seq ?_
  refine AM_seq ?_
  refine AM_region ?_
  refine AL_p (x_move rfl rfl) ?_
  refine AL_b (x_lss rfl rfl rfl) (fun b11 h11 => ?_)
  refine AL_nil ?_
  cases b11
  rotate_left
  · try simp only [decide_eq_true_eq, decide_eq_false_iff_not, Bool.not_eq_true, Bool.not_eq_false, Bool.not_eq_true', Bool.not_eq_false', beq_iff_eq, bne_iff_ne, beq_eq_false_iff_ne, bne_eq_false_iff_eq, Int.not_lt, Int.not_le, ge_iff_le, gt_iff_lt] at h11
    refine AM_condT rfl ?_
    refine AM_seq ?_
    refine AM_region ?_
    refine AL_p (x_assign rfl rfl) ?_
    refine AL_nil ?_
    refine AM_ret ?_
    exact rfl
  · try simp only [decide_eq_true_eq, decide_eq_false_iff_not, Bool.not_eq_true, Bool.not_eq_false, Bool.not_eq_true', Bool.not_eq_false', beq_iff_eq, bne_iff_ne, beq_eq_false_iff_ne, bne_eq_false_iff_eq, Int.not_lt, Int.not_le, ge_iff_le, gt_iff_lt] at h11
    have f11 := (szR_nonneg h11).1
    have e11 := (szR_nonneg h11).2
    have t0 : totMsg x0 ≤ 1048576 := by omega
    have s0 := totMsg_small t0
    refine AM_condF rfl ?_
    refine AM_skip ?_
    refine AM_seq ?_
    refine AM_region ?_
    refine AL_p (x_loadN (n := 10) rfl rfl rfl (by kernel_rfl) rfl rfl) ?_
    refine AL_p (x_callR rfl rfl rfl ((AC.renum (res := .agg [.c (.int .i64 x0.kind), .c (.int .i64 x0.session), .c (.int .i64 x0.xid), .c (.int .i64 x0.epoch), .c (.int .i64 x0.prio), .own 101, .own 102, .own 103, .c (.bool x0.hand), .own 104]) (L := [(101, some (.arr 3 (intE .i64) x0.mat.v true)), (102, some (.arr 3 (intE .i64) x0.mat.m true)), (103, some (.arr 169 actE x0.acts true)), (104, some (.arr 3 (intE .i64) x0.head.v true))]) (r := rn [(101, 0), (102, 1), (103, 2), (104, 3)]) (toMsg_c x0 s0) ⟨⟨_, rfl, BLe.rf⟩, ⟨_, rfl, BLe.rf⟩, ⟨_, rfl, BLe.rf⟩, ⟨_, rfl, BLe.rf⟩, trivial⟩ rfl)) rfl AllV.rf rfl rfl rfl rfl rfl) ?_
    refine AL_p (x_callR rfl rfl rfl (msgS_c x0) rfl AllV.rf rfl rfl rfl rfl rfl) ?_
    refine AL_p (x_assign rfl rfl) ?_
    refine AL_nil ?_
    refine AM_raise (fun B' => [(1, .one (.epo B' msgE (x0) 0)), (4, .one (.c _))]) (fun B' => ⟨⟨_, rfl, .box (f := msgC) rfl rfl rfl FitL.rf⟩, ⟨_, rfl, .c⟩, trivial⟩) (fun B' => ?_)
    refine AM_seq ?_
    refine AM_region ?_
    refine AL_p (x_pload (f := msgC) (n := 10) rfl rfl (by kernel_rfl) rfl rfl) ?_
    refine AL_p (x_callR rfl rfl rfl ((AC.renum (res := .agg [.c (.int .i64 x0.kind), .c (.int .i64 x0.session), .c (.int .i64 x0.xid), .c (.int .i64 x0.epoch), .c (.int .i64 x0.prio), .own 105, .own 106, .own 107, .c (.bool x0.hand), .own 108]) (L := [(105, some (.arr 3 (intE .i64) x0.mat.v true)), (106, some (.arr 3 (intE .i64) x0.mat.m true)), (107, some (.arr 169 actE x0.acts true)), (108, some (.arr 3 (intE .i64) x0.head.v true))]) (r := rn [(105, 0), (106, 1), (107, 2), (108, 3)]) (toMsg_c x0 s0) ⟨⟨_, rfl, BLe.rf⟩, ⟨_, rfl, BLe.rf⟩, ⟨_, rfl, BLe.rf⟩, ⟨_, rfl, BLe.rf⟩, trivial⟩ rfl)) rfl AllV.rf rfl rfl rfl rfl rfl) ?_
    refine AL_p (x_alloc (z := .agg #[.int .i64 0, .int .i64 0, .int .i64 0, .int .i64 0, .int .i64 0, .slice none 0 0, .slice none 0 0, .slice none 0 0, .bool false, .slice none 0 0]) 109 rfl (by kernel_rfl) rfl rfl rfl rfl) ?_
    refine AL_p (x_store (n := 10) rfl rfl rfl rfl (by kernel_rfl) rfl rfl rfl) ?_
    refine AL_nil ?_
    refine AM_seq ?_
    refine AM_region ?_
    refine AL_p (x_loadN (n := 10) rfl rfl rfl (by kernel_rfl) rfl rfl) ?_
    refine AL_p (x_callR rfl rfl rfl (msgI_c x0) rfl AllV.rf rfl rfl rfl rfl rfl) ?_
    refine AL_p (x_assign rfl rfl) ?_
    refine AL_nil ?_
    refine AM_seq ?_
    refine AM_seq ?_
    refine AM_region ?_
    refine AL_p (x_move rfl rfl) ?_
    refine AL_p (x_move rfl rfl) ?_
    refine AL_b (x_bneq rfl rfl rfl (by kernel_rfl)) (fun b21 h21 => ?_)
    refine AL_nil ?_
    cases b21
    rotate_left
    · exfalso; first | (simp [ba_beq_self] at h21; done) | (simp at h21; omega)
    · try simp only [decide_eq_true_eq, decide_eq_false_iff_not, Bool.not_eq_true, Bool.not_eq_false, Bool.not_eq_true', Bool.not_eq_false', beq_iff_eq, bne_iff_ne, beq_eq_false_iff_ne, bne_eq_false_iff_eq, Int.not_lt, Int.not_le, ge_iff_le, gt_iff_lt] at h21
      refine AM_condF rfl ?_
      refine AM_skip ?_
      refine AM_seq ?_
      refine AM_seq ?_
      refine AM_draw rfl ?_
      refine AL_p (x_loadN (n := 10) rfl rfl rfl (by kernel_rfl) rfl rfl) ?_
      refine AL_p (x_pload (f := msgC) (n := 10) rfl rfl (by kernel_rfl) rfl rfl) ?_
      refine AL_p (x_callR rfl rfl rfl ((AC.renum (res := .agg [.c (.int .i64 x0.kind), .c (.int .i64 x0.session), .c (.int .i64 x0.xid), .c (.int .i64 x0.epoch), .c (.int .i64 x0.prio), .own 110, .own 111, .own 112, .c (.bool x0.hand), .own 113]) (L := [(110, some (.arr 3 (intE .i64) x0.mat.v true)), (111, some (.arr 3 (intE .i64) x0.mat.m true)), (112, some (.arr 169 actE x0.acts true)), (113, some (.arr 3 (intE .i64) x0.head.v true))]) (r := rn [(110, 0), (111, 1), (112, 2), (113, 3)]) (toMsg_c x0 s0) ⟨⟨_, rfl, BLe.rf⟩, ⟨_, rfl, BLe.rf⟩, ⟨_, rfl, BLe.rf⟩, ⟨_, rfl, BLe.rf⟩, trivial⟩ rfl)) rfl AllV.rf rfl rfl rfl rfl rfl) ?_
      refine AL_p (x_callR rfl rfl rfl (eqMsg_c (x0)) rfl AllV.rf rfl rfl rfl rfl rfl) ?_
      refine AL_p (x_not rfl rfl) ?_
      refine AL_nild (by kernel_rfl) ?_
      refine AM_condF rfl ?_
      refine AM_skip ?_
      refine AM_seq ?_
      refine AM_region ?_
      refine AL_p (x_assign rfl rfl) ?_
      refine AL_nil ?_
      refine AM_ret ?_
      exact rfl
end Go.Proofs.Ytgmlecghklaomaa

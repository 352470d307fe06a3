/- Relations (printed by walk.py) -/
import Derived.Test.YtcgickpnckedcaaAbsOld
namespace Go.Proofs.Ytcgickpnckedcaa
open Go.RowKit
set_option linter.unusedVariables false
set_option linter.unusedSimpArgs false
set_option maxRecDepth 100000

set_option maxHeartbeats 4000000 in
theorem sameRowS_c (a b : List Val) (ha : a.length ≤ 1048576) : AC Try.prog 54 [.agg (rowC a), .agg (rowC b)] [] (.one (.c (.bool (sameRow a b)))) [] := by
  refine AC_body1 Try.func54 rfl rfl Try.ntmps54 rfl Try.results54 ?_
  refine AW_seq ?_
  refine AW_region ?_
  refine AL_p (x_box 100 rfl rfl rfl rfl rfl rfl rfl) ?_
  refine AL_p (x_box 101 rfl rfl rfl rfl rfl rfl rfl) ?_
  refine AL_p (x_assign rfl rfl) ?_
  refine AL_nil ?_
  refine AW_seq ?_
  refine AW_seq ?_
  refine AW_region ?_
  refine AL_p (x_field (off := 0) (o' := 0) rfl rfl rfl (by kernel_rfl) rfl) ?_
  refine AL_p (x_load1 rfl rfl rfl (by kernel_rfl) rfl) ?_
  refine AL_p (x_len (E := 37) (n := 2) rfl rfl (by kernel_rfl)) ?_
  refine AL_p (x_field (off := 0) (o' := 0) rfl rfl rfl (by kernel_rfl) rfl) ?_
  refine AL_p (x_load1 rfl rfl rfl (by kernel_rfl) rfl) ?_
  refine AL_p (x_len (E := 37) (n := 2) rfl rfl (by kernel_rfl)) ?_
  refine AL_b (x_neq rfl rfl rfl) (fun b12 h12 => ?_)
  refine AL_nil ?_
  cases b12
  rotate_left
  · try simp only [decide_eq_true_eq, decide_eq_false_iff_not, Bool.not_eq_true, Bool.not_eq_false, Bool.not_eq_true', Bool.not_eq_false', beq_iff_eq, bne_iff_ne, beq_eq_false_iff_ne, bne_eq_false_iff_eq, Int.not_lt, Int.not_le, ge_iff_le, gt_iff_lt] at h12
    refine AW_condT rfl ?_
    refine AW_seq ?_
    refine AW_region ?_
    refine AL_p (x_assign rfl rfl) ?_
    refine AL_nil ?_
    refine AW_ret ?_
    exact ⟨rn [], ⟨⟨⟨_, rfl, vle_bool ((sameRow_len (by omega)).symm)⟩, trivial⟩, trivial, trivial, rfl⟩⟩
  · try simp only [decide_eq_true_eq, decide_eq_false_iff_not, Bool.not_eq_true, Bool.not_eq_false, Bool.not_eq_true', Bool.not_eq_false', beq_iff_eq, bne_iff_ne, beq_eq_false_iff_ne, bne_eq_false_iff_eq, Int.not_lt, Int.not_le, ge_iff_le, gt_iff_lt] at h12
    refine AW_condF rfl ?_
    refine AW_skip ?_
    refine AW_seq ?_
    refine AW_seq ?_
    refine AW_region ?_
    refine AL_p (x_field (off := 0) (o' := 0) rfl rfl rfl (by kernel_rfl) rfl) ?_
    refine AL_p (x_load1 rfl rfl rfl (by kernel_rfl) rfl) ?_
    refine AL_p (x_len (E := 37) (n := 2) rfl rfl (by kernel_rfl)) ?_
    refine AL_p (x_move rfl rfl) ?_
    refine AL_nil ?_
    refine AW_block ?_
    refine AW_loop2 (ι := {q : Nat // q ≤ a.length ∧ SameTo a b q}) (fun p => [(16, .one (.c (.int .i64 ((p.1) : Int))))]) (fun p => []) [2, 3, 15] [100, 101] (fun p => a.length - (p.1)) ⟨0, ⟨by omega, .zero⟩⟩ (rn []) ?_ ?_
    exact ⟨by (repeat refine ⟨⟨_, rfl, by first | exact VLe.rf | exact vle_int (by dsimp only; omega)⟩, ?_⟩); exact trivial, by (repeat refine ⟨⟨_, rfl, by first | exact BLe.rf | exact BLe.box AllC.rf | exact BLe.arr (by exact rfl)⟩, ?_⟩); exact trivial, by repeat (first | exact trivial | refine ⟨⟨rfl, by first | (left; intro h; cases h) | (right; rfl), fun _ h => ⟨_, h⟩⟩, ?_⟩), rfl⟩
    rintro ⟨k, hinv⟩
    dsimp only
    obtain ⟨hk, hs⟩ := hinv
    refine AW_seq ?_
    refine AW_region ?_
    refine AL_b (x_lss rfl rfl rfl) (fun b17 h17 => ?_)
    refine AL_nil ?_
    refine AW_seq ?_
    cases b17
    rotate_left
    · try simp only [decide_eq_true_eq, decide_eq_false_iff_not, Bool.not_eq_true, Bool.not_eq_false, Bool.not_eq_true', Bool.not_eq_false', beq_iff_eq, bne_iff_ne, beq_eq_false_iff_ne, bne_eq_false_iff_eq, Int.not_lt, Int.not_le, ge_iff_le, gt_iff_lt] at h17
      refine AW_condT rfl ?_
      refine AW_skip ?_
      refine AW_seq ?_
      refine AW_block ?_
      refine AW_seq ?_
      refine AW_region ?_
      refine AL_p (x_move rfl rfl) ?_
      refine AL_p (x_assign rfl rfl) ?_
      refine AL_nil ?_
      refine AW_seq ?_
      refine AW_draw rfl ?_
      refine AL_p (x_field (off := 0) (o' := 0) rfl rfl rfl (by kernel_rfl) rfl) ?_
      refine AL_p (x_load1 rfl rfl rfl (by kernel_rfl) rfl) ?_
      refine AL_p (x_move rfl rfl) ?_
      refine AL_p (x_index (E := 37) (n := 2) rfl rfl rfl (by kernel_rfl) rfl rfl (by omega)) ?_
      refine AL_p (x_eloadW (n := 2) rfl rfl (by kernel_rfl) rfl) ?_
      refine AL_p (x_field (off := 0) (o' := 0) rfl rfl rfl (by kernel_rfl) rfl) ?_
      refine AL_p (x_load1 rfl rfl rfl (by kernel_rfl) rfl) ?_
      refine AL_p (x_move rfl rfl) ?_
      refine AL_p (x_index (E := 37) (n := 2) rfl rfl rfl (by kernel_rfl) rfl rfl (by omega)) ?_
      refine AL_p (x_eloadW (n := 2) rfl rfl (by kernel_rfl) rfl) ?_
      refine AL_b (x_vneq rfl rfl rfl) (fun b29 h29 => ?_)
      refine AL_nild (by kernel_rfl) ?_
      cases b29
      rotate_left
      · try simp only [decide_eq_true_eq, decide_eq_false_iff_not, Bool.not_eq_true, Bool.not_eq_false, Bool.not_eq_true', Bool.not_eq_false', beq_iff_eq, bne_iff_ne, beq_eq_false_iff_ne, bne_eq_false_iff_eq, Int.not_lt, Int.not_le, ge_iff_le, gt_iff_lt] at h29
        refine AW_condT rfl ?_
        refine AW_seq ?_
        refine AW_region ?_
        refine AL_p (x_assign rfl rfl) ?_
        refine AL_nil ?_
        refine AW_ret (BQ_ret (BQ_ret ?_))
        exact ⟨rn [], ⟨⟨⟨_, rfl, vle_bool ((sameRow_at (k := k) (by omega) (by omega) h29).symm)⟩, trivial⟩, trivial, trivial, rfl⟩⟩
      · try simp only [decide_eq_true_eq, decide_eq_false_iff_not, Bool.not_eq_true, Bool.not_eq_false, Bool.not_eq_true', Bool.not_eq_false', beq_iff_eq, bne_iff_ne, beq_eq_false_iff_ne, bne_eq_false_iff_eq, Int.not_lt, Int.not_le, ge_iff_le, gt_iff_lt] at h29
        refine AW_condF rfl ?_
        refine AW_skip ?_
        refine AW_region ?_
        refine AL_p (x_add rfl rfl rfl (IntWalk.i64_in _ (by omega))) ?_
        refine AL_p (x_move rfl rfl) ?_
        refine AL_nil ?_
        refine ⟨⟨k + 1, ⟨by omega, hs.succ (by omega) (by omega) h29⟩⟩, rn [], ?_, by dsimp only; omega⟩
        exact ⟨by (repeat refine ⟨⟨_, rfl, by first | exact VLe.rf | exact vle_int (by dsimp only; omega)⟩, ?_⟩); exact trivial, by (repeat refine ⟨⟨_, rfl, by first | exact BLe.rf | exact BLe.box AllC.rf | exact BLe.arr (by exact rfl)⟩, ?_⟩); exact trivial, by repeat (first | exact trivial | refine ⟨⟨rfl, by first | (left; intro h; cases h) | (right; rfl), fun _ h => ⟨_, h⟩⟩, ?_⟩), rfl⟩
    · try simp only [decide_eq_true_eq, decide_eq_false_iff_not, Bool.not_eq_true, Bool.not_eq_false, Bool.not_eq_true', Bool.not_eq_false', beq_iff_eq, bne_iff_ne, beq_eq_false_iff_ne, bne_eq_false_iff_eq, Int.not_lt, Int.not_le, ge_iff_le, gt_iff_lt] at h17
      refine AW_condF rfl ?_
      refine AW_exit (BQ_hit ?_)
      refine AW_seq ?_
      refine AW_region ?_
      refine AL_p (x_assign rfl rfl) ?_
      refine AL_nil ?_
      refine AW_ret ?_
      exact ⟨rn [], ⟨⟨⟨_, rfl, vle_bool ((sameRow_eq (hs.eq (by omega) (by omega))).symm)⟩, trivial⟩, trivial, trivial, rfl⟩⟩

set_option maxHeartbeats 4000000 in
theorem upToI_c (n m : Int) : AC Try.prog 62 [.one (.c (.int .i64 n)), .one (.c (.int .i64 m))] [] (.one (.c (.bool (upToB n m)))) [] := by
  refine AC_body1 Try.func62 rfl rfl Try.ntmps62 rfl Try.results62 ?_
  refine AW_seq ?_
  refine AW_region ?_
  refine AL_p (x_assign rfl rfl) ?_
  refine AL_nil ?_
  refine AW_seq ?_
  refine AW_region ?_
  refine AL_p (x_move rfl rfl) ?_
  refine AL_b (x_geq rfl rfl rfl) (fun b6 h6 => ?_)
  refine AL_p (x_move rfl rfl) ?_
  cases b6
  rotate_left
  · try simp only [decide_eq_true_eq, decide_eq_false_iff_not, Bool.not_eq_true, Bool.not_eq_false, Bool.not_eq_true', Bool.not_eq_false', beq_iff_eq, bne_iff_ne, beq_eq_false_iff_ne, bne_eq_false_iff_eq, Int.not_lt, Int.not_le, ge_iff_le, gt_iff_lt] at h6
    refine AL_g rfl rfl (x_move rfl rfl) ?_
    refine AL_g rfl rfl (x_move rfl rfl) ?_
    refine AL_gb rfl rfl (x_leq rfl rfl rfl) (fun b10 h10 => ?_)
    refine AL_p (x_pickT rfl rfl rfl) ?_
    refine AL_p (x_assign rfl rfl) ?_
    refine AL_nil ?_
    refine AW_ret ?_
    cases b10
    rotate_left
    · try simp only [decide_eq_true_eq, decide_eq_false_iff_not, Bool.not_eq_true, Bool.not_eq_false, Bool.not_eq_true', Bool.not_eq_false', beq_iff_eq, bne_iff_ne, beq_eq_false_iff_ne, bne_eq_false_iff_eq, Int.not_lt, Int.not_le, ge_iff_le, gt_iff_lt] at h10
      exact ⟨rn [], ⟨⟨⟨_, rfl, vle_bool (by first | exact (decide_eq_true (by omega)).symm | exact (decide_eq_false (by omega)).symm)⟩, trivial⟩, trivial, trivial, rfl⟩⟩
    · try simp only [decide_eq_true_eq, decide_eq_false_iff_not, Bool.not_eq_true, Bool.not_eq_false, Bool.not_eq_true', Bool.not_eq_false', beq_iff_eq, bne_iff_ne, beq_eq_false_iff_ne, bne_eq_false_iff_eq, Int.not_lt, Int.not_le, ge_iff_le, gt_iff_lt] at h10
      exact ⟨rn [], ⟨⟨⟨_, rfl, vle_bool (by first | exact (decide_eq_true (by omega)).symm | exact (decide_eq_false (by omega)).symm)⟩, trivial⟩, trivial, trivial, rfl⟩⟩
  · try simp only [decide_eq_true_eq, decide_eq_false_iff_not, Bool.not_eq_true, Bool.not_eq_false, Bool.not_eq_true', Bool.not_eq_false', beq_iff_eq, bne_iff_ne, beq_eq_false_iff_ne, bne_eq_false_iff_eq, Int.not_lt, Int.not_le, ge_iff_le, gt_iff_lt] at h6
    refine AL_o rfl rfl rfl rfl ?_
    refine AL_o rfl rfl rfl rfl ?_
    refine AL_o rfl rfl rfl rfl ?_
    refine AL_p (x_pickF rfl rfl rfl) ?_
    refine AL_p (x_assign rfl rfl) ?_
    refine AL_nil ?_
    refine AW_ret ?_
    exact ⟨rn [], ⟨⟨⟨_, rfl, vle_bool (by first | exact (decide_eq_true (by omega)).symm | exact (decide_eq_false (by omega)).symm)⟩, trivial⟩, trivial, trivial, rfl⟩⟩

set_option maxHeartbeats 4000000 in
theorem relOkS_c (r : Relt) (hl : r.rows.length ≤ 1048576) : AC Try.prog 59 [.agg (relC r)] [] (.one (.c (.bool (relOk r)))) [] := by
  refine AC_body1 Try.func59 rfl rfl Try.ntmps59 rfl Try.results59 ?_
  refine AW_seq ?_
  refine AW_region ?_
  refine AL_p (x_box 100 rfl rfl rfl rfl rfl rfl rfl) ?_
  refine AL_p (x_assign rfl rfl) ?_
  refine AL_nil ?_
  refine AW_seq ?_
  refine AW_seq ?_
  refine AW_region ?_
  refine AL_p (x_field (off := 0) (o' := 0) rfl rfl rfl (by kernel_rfl) rfl) ?_
  refine AL_p (x_load1 rfl rfl rfl (by kernel_rfl) rfl) ?_
  refine AL_b (x_lss rfl rfl rfl) (fun b6 h6 => ?_)
  refine AL_p (x_move rfl rfl) ?_
  cases b6
  rotate_left
  · try simp only [decide_eq_true_eq, decide_eq_false_iff_not, Bool.not_eq_true, Bool.not_eq_false, Bool.not_eq_true', Bool.not_eq_false', beq_iff_eq, bne_iff_ne, beq_eq_false_iff_ne, bne_eq_false_iff_eq, Int.not_lt, Int.not_le, ge_iff_le, gt_iff_lt] at h6
    refine AL_o rfl rfl rfl rfl ?_
    refine AL_o rfl rfl rfl rfl ?_
    refine AL_o rfl rfl rfl rfl ?_
    refine AL_p (x_pickT rfl rfl rfl) ?_
    refine AL_p (x_move rfl rfl) ?_
    refine AL_o rfl rfl rfl rfl ?_
    refine AL_o rfl rfl rfl rfl ?_
    refine AL_o rfl rfl rfl rfl ?_
    refine AL_o rfl rfl rfl rfl ?_
    refine AL_p (x_pickT rfl rfl rfl) ?_
    refine AL_nil ?_
    refine AW_condT rfl ?_
    refine AW_seq ?_
    refine AW_region ?_
    refine AL_p (x_assign rfl rfl) ?_
    refine AL_nil ?_
    refine AW_ret ?_
    exact ⟨rn [], ⟨⟨⟨_, rfl, vle_bool (by first | exact (relOk_range (by omega)).symm | exact (relOk_bad (k := k) (by omega) (rowAt_len (by omega) (by omega))).symm | exact (relOk_bad (k := k) (by omega) (rowAt_row (by omega) h40)).symm | exact (relOk_bad (k := k) (by omega) (rowAt_order (by omega) (by omega) (by rw [← rowOrder_lt hprev h40]; exact h58))).symm | exact (relOk_good hs (by omega) (by omega) (by omega) (by omega)).symm)⟩, trivial⟩, trivial, trivial, rfl⟩⟩
  · try simp only [decide_eq_true_eq, decide_eq_false_iff_not, Bool.not_eq_true, Bool.not_eq_false, Bool.not_eq_true', Bool.not_eq_false', beq_iff_eq, bne_iff_ne, beq_eq_false_iff_ne, bne_eq_false_iff_eq, Int.not_lt, Int.not_le, ge_iff_le, gt_iff_lt] at h6
    refine AL_g rfl rfl (x_field (off := 0) (o' := 0) rfl rfl rfl (by kernel_rfl) rfl) ?_
    refine AL_g rfl rfl (x_load1 rfl rfl rfl (by kernel_rfl) rfl) ?_
    refine AL_gb rfl rfl (x_gtr rfl rfl rfl) (fun b10 h10 => ?_)
    refine AL_p (x_pickF rfl rfl rfl) ?_
    refine AL_p (x_move rfl rfl) ?_
    cases b10
    rotate_left
    · try simp only [decide_eq_true_eq, decide_eq_false_iff_not, Bool.not_eq_true, Bool.not_eq_false, Bool.not_eq_true', Bool.not_eq_false', beq_iff_eq, bne_iff_ne, beq_eq_false_iff_ne, bne_eq_false_iff_eq, Int.not_lt, Int.not_le, ge_iff_le, gt_iff_lt] at h10
      refine AL_o rfl rfl rfl rfl ?_
      refine AL_o rfl rfl rfl rfl ?_
      refine AL_o rfl rfl rfl rfl ?_
      refine AL_o rfl rfl rfl rfl ?_
      refine AL_p (x_pickT rfl rfl rfl) ?_
      refine AL_nil ?_
      refine AW_condT rfl ?_
      refine AW_seq ?_
      refine AW_region ?_
      refine AL_p (x_assign rfl rfl) ?_
      refine AL_nil ?_
      refine AW_ret ?_
      exact ⟨rn [], ⟨⟨⟨_, rfl, vle_bool (by first | exact (relOk_range (by omega)).symm | exact (relOk_bad (k := k) (by omega) (rowAt_len (by omega) (by omega))).symm | exact (relOk_bad (k := k) (by omega) (rowAt_row (by omega) h40)).symm | exact (relOk_bad (k := k) (by omega) (rowAt_order (by omega) (by omega) (by rw [← rowOrder_lt hprev h40]; exact h58))).symm | exact (relOk_good hs (by omega) (by omega) (by omega) (by omega)).symm)⟩, trivial⟩, trivial, trivial, rfl⟩⟩
    · try simp only [decide_eq_true_eq, decide_eq_false_iff_not, Bool.not_eq_true, Bool.not_eq_false, Bool.not_eq_true', Bool.not_eq_false', beq_iff_eq, bne_iff_ne, beq_eq_false_iff_ne, bne_eq_false_iff_eq, Int.not_lt, Int.not_le, ge_iff_le, gt_iff_lt] at h10
      refine AL_g rfl rfl (x_field (off := 1) (o' := 1) rfl rfl rfl (by kernel_rfl) rfl) ?_
      refine AL_g rfl rfl (x_load1 rfl rfl rfl (by kernel_rfl) rfl) ?_
      refine AL_g rfl rfl (x_len (E := 50) (n := 1) rfl rfl (by kernel_rfl)) ?_
      refine AL_gb rfl rfl (x_gtr rfl rfl rfl) (fun b16 h16 => ?_)
      refine AL_p (x_pickF rfl rfl rfl) ?_
      refine AL_nil ?_
      cases b16
      rotate_left
      · try simp only [decide_eq_true_eq, decide_eq_false_iff_not, Bool.not_eq_true, Bool.not_eq_false, Bool.not_eq_true', Bool.not_eq_false', beq_iff_eq, bne_iff_ne, beq_eq_false_iff_ne, bne_eq_false_iff_eq, Int.not_lt, Int.not_le, ge_iff_le, gt_iff_lt] at h16
        refine AW_condT rfl ?_
        refine AW_seq ?_
        refine AW_region ?_
        refine AL_p (x_assign rfl rfl) ?_
        refine AL_nil ?_
        refine AW_ret ?_
        exact ⟨rn [], ⟨⟨⟨_, rfl, vle_bool (by first | exact (relOk_range (by omega)).symm | exact (relOk_bad (k := k) (by omega) (rowAt_len (by omega) (by omega))).symm | exact (relOk_bad (k := k) (by omega) (rowAt_row (by omega) h40)).symm | exact (relOk_bad (k := k) (by omega) (rowAt_order (by omega) (by omega) (by rw [← rowOrder_lt hprev h40]; exact h58))).symm | exact (relOk_good hs (by omega) (by omega) (by omega) (by omega)).symm)⟩, trivial⟩, trivial, trivial, rfl⟩⟩
      · try simp only [decide_eq_true_eq, decide_eq_false_iff_not, Bool.not_eq_true, Bool.not_eq_false, Bool.not_eq_true', Bool.not_eq_false', beq_iff_eq, bne_iff_ne, beq_eq_false_iff_ne, bne_eq_false_iff_eq, Int.not_lt, Int.not_le, ge_iff_le, gt_iff_lt] at h16
        refine AW_condF rfl ?_
        refine AW_skip ?_
        refine AW_seq ?_
        refine AW_seq ?_
        refine AW_region ?_
        refine AL_p (x_field (off := 1) (o' := 1) rfl rfl rfl (by kernel_rfl) rfl) ?_
        refine AL_p (x_load1 rfl rfl rfl (by kernel_rfl) rfl) ?_
        refine AL_p (x_len (E := 50) (n := 1) rfl rfl (by kernel_rfl)) ?_
        refine AL_p (x_move rfl rfl) ?_
        refine AL_nil ?_
        refine AW_block ?_
        refine AW_loop2 (ι := {q : Nat // q ≤ r.rows.length ∧ GoodTo r.rows r.arity q}) (fun p => [(21, .one (.c (.int .i64 ((p.1) : Int))))]) (fun p => []) [1, 20] [100] (fun p => r.rows.length - (p.1)) ⟨0, ⟨by omega, .zero⟩⟩ (rn []) ?_ ?_
        exact ⟨by (repeat refine ⟨⟨_, rfl, by first | exact VLe.rf | exact vle_int (by dsimp only; omega)⟩, ?_⟩); exact trivial, by (repeat refine ⟨⟨_, rfl, by first | exact BLe.rf | exact BLe.box AllC.rf | exact BLe.arr (by exact rfl)⟩, ?_⟩); exact trivial, by repeat (first | exact trivial | refine ⟨⟨rfl, by first | (left; intro h; cases h) | (right; rfl), fun _ h => ⟨_, h⟩⟩, ?_⟩), rfl⟩
        rintro ⟨k, hinv⟩
        dsimp only
        obtain ⟨hk, hs⟩ := hinv
        refine AW_seq ?_
        refine AW_region ?_
        refine AL_b (x_lss rfl rfl rfl) (fun b22 h22 => ?_)
        refine AL_nil ?_
        refine AW_seq ?_
        cases b22
        rotate_left
        · try simp only [decide_eq_true_eq, decide_eq_false_iff_not, Bool.not_eq_true, Bool.not_eq_false, Bool.not_eq_true', Bool.not_eq_false', beq_iff_eq, bne_iff_ne, beq_eq_false_iff_ne, bne_eq_false_iff_eq, Int.not_lt, Int.not_le, ge_iff_le, gt_iff_lt] at h22
          refine AW_condT rfl ?_
          refine AW_skip ?_
          refine AW_seq ?_
          refine AW_block ?_
          refine AW_seq ?_
          refine AW_region ?_
          refine AL_p (x_move rfl rfl) ?_
          refine AL_p (x_assign rfl rfl) ?_
          refine AL_nil ?_
          refine AW_seq ?_
          refine AW_seq ?_
          refine AW_draw rfl ?_
          refine AL_p (x_field (off := 1) (o' := 1) rfl rfl rfl (by kernel_rfl) rfl) ?_
          refine AL_p (x_load1 rfl rfl rfl (by kernel_rfl) rfl) ?_
          refine AL_p (x_move rfl rfl) ?_
          refine AL_p (x_index (E := 50) (n := 1) rfl rfl rfl (by kernel_rfl) rfl rfl (by omega)) ?_
          refine AL_p (x_efield (off := 0) (o' := 0) rfl rfl (by kernel_rfl) rfl) ?_
          refine AL_p (x_eload1 rfl rfl (by kernel_rfl) rfl) ?_
          refine AL_p (x_len (E := 37) (n := 2) rfl rfl (by kernel_rfl)) ?_
          refine AL_p (x_field (off := 0) (o' := 0) rfl rfl rfl (by kernel_rfl) rfl) ?_
          refine AL_p (x_load1 rfl rfl rfl (by kernel_rfl) rfl) ?_
          refine AL_b (x_neq rfl rfl rfl) (fun b33 h33 => ?_)
          refine AL_p (x_move rfl rfl) ?_
          cases b33
          rotate_left
          · try simp only [decide_eq_true_eq, decide_eq_false_iff_not, Bool.not_eq_true, Bool.not_eq_false, Bool.not_eq_true', Bool.not_eq_false', beq_iff_eq, bne_iff_ne, beq_eq_false_iff_ne, bne_eq_false_iff_eq, Int.not_lt, Int.not_le, ge_iff_le, gt_iff_lt] at h33
            refine AL_o rfl rfl rfl rfl ?_
            refine AL_o rfl rfl rfl rfl ?_
            refine AL_o rfl rfl rfl rfl ?_
            refine AL_o rfl rfl rfl rfl ?_
            refine AL_o rfl rfl rfl rfl ?_
            refine AL_o rfl rfl rfl rfl ?_
            refine AL_o rfl rfl rfl rfl ?_
            refine AL_p (x_pickT rfl rfl rfl) ?_
            refine AL_nild (by kernel_rfl) ?_
            refine AW_condT rfl ?_
            refine AW_seq ?_
            refine AW_region ?_
            refine AL_p (x_assign rfl rfl) ?_
            refine AL_nil ?_
            refine AW_ret (BQ_ret (BQ_ret ?_))
            exact ⟨rn [], ⟨⟨⟨_, rfl, vle_bool (by first | exact (relOk_range (by omega)).symm | exact (relOk_bad (k := k) (by omega) (rowAt_len (by omega) (by omega))).symm | exact (relOk_bad (k := k) (by omega) (rowAt_row (by omega) h40)).symm | exact (relOk_bad (k := k) (by omega) (rowAt_order (by omega) (by omega) (by rw [← rowOrder_lt hprev h40]; exact h58))).symm | exact (relOk_good hs (by omega) (by omega) (by omega) (by omega)).symm)⟩, trivial⟩, trivial, trivial, rfl⟩⟩
          · try simp only [decide_eq_true_eq, decide_eq_false_iff_not, Bool.not_eq_true, Bool.not_eq_false, Bool.not_eq_true', Bool.not_eq_false', beq_iff_eq, bne_iff_ne, beq_eq_false_iff_ne, bne_eq_false_iff_eq, Int.not_lt, Int.not_le, ge_iff_le, gt_iff_lt] at h33
            refine AL_g rfl rfl (x_field (off := 1) (o' := 1) rfl rfl rfl (by kernel_rfl) rfl) ?_
            refine AL_g rfl rfl (x_load1 rfl rfl rfl (by kernel_rfl) rfl) ?_
            refine AL_g rfl rfl (x_move rfl rfl) ?_
            refine AL_g rfl rfl (x_index (E := 50) (n := 1) rfl rfl rfl (by kernel_rfl) rfl rfl (by omega)) ?_
            refine AL_g rfl rfl (x_eloadW (n := 1) rfl rfl (by kernel_rfl) rfl) ?_
            refine AL_gb rfl rfl (x_call0 rfl rfl rfl (rowOkS_c _) rfl rfl) (fun b40 h40 => ?_)
            refine AL_g rfl rfl (x_not rfl rfl) ?_
            refine AL_p (x_pickF rfl rfl rfl) ?_
            refine AL_nild (by kernel_rfl) ?_
            cases b40
            rotate_left
            · try simp only [decide_eq_true_eq, decide_eq_false_iff_not, Bool.not_eq_true, Bool.not_eq_false, Bool.not_eq_true', Bool.not_eq_false', beq_iff_eq, bne_iff_ne, beq_eq_false_iff_ne, bne_eq_false_iff_eq, Int.not_lt, Int.not_le, ge_iff_le, gt_iff_lt] at h40
              refine AW_condF rfl ?_
              refine AW_skip ?_
              refine AW_seq ?_
              refine AW_draw rfl ?_
              refine AL_p (x_move rfl rfl) ?_
              refine AL_b (x_gtr rfl rfl rfl) (fun b44 h44 => ?_)
              refine AL_p (x_move rfl rfl) ?_
              cases b44
              rotate_left
              · try simp only [decide_eq_true_eq, decide_eq_false_iff_not, Bool.not_eq_true, Bool.not_eq_false, Bool.not_eq_true', Bool.not_eq_false', beq_iff_eq, bne_iff_ne, beq_eq_false_iff_ne, bne_eq_false_iff_eq, Int.not_lt, Int.not_le, ge_iff_le, gt_iff_lt] at h44
                refine AL_g rfl rfl (x_field (off := 1) (o' := 1) rfl rfl rfl (by kernel_rfl) rfl) ?_
                refine AL_g rfl rfl (x_load1 rfl rfl rfl (by kernel_rfl) rfl) ?_
                refine AL_g rfl rfl (x_move rfl rfl) ?_
                refine AL_g rfl rfl (x_sub rfl rfl rfl (IntWalk.i64_in _ (by omega))) ?_
                refine AL_g rfl rfl (x_index (E := 50) (n := 1) rfl rfl rfl (by kernel_rfl) rfl (k := k - 1) (by omega) (by omega)) ?_
                refine AL_g rfl rfl (x_eloadW (n := 1) rfl rfl (by kernel_rfl) rfl) ?_
                refine AL_g rfl rfl (x_field (off := 1) (o' := 1) rfl rfl rfl (by kernel_rfl) rfl) ?_
                refine AL_g rfl rfl (x_load1 rfl rfl rfl (by kernel_rfl) rfl) ?_
                refine AL_g rfl rfl (x_move rfl rfl) ?_
                refine AL_g rfl rfl (x_index (E := 50) (n := 1) rfl rfl rfl (by kernel_rfl) rfl rfl (by omega)) ?_
                refine AL_g rfl rfl (x_eloadW (n := 1) rfl rfl (by kernel_rfl) rfl) ?_
                refine AL_g rfl rfl (x_call0 rfl rfl rfl (rowOrderS_c _ _) rfl rfl) ?_
                refine AL_gb rfl rfl (x_neq rfl rfl rfl) (fun b58 h58 => ?_)
                refine AL_p (x_pickT rfl rfl rfl) ?_
                refine AL_nild (by kernel_rfl) ?_
                cases b58
                rotate_left
                · try simp only [decide_eq_true_eq, decide_eq_false_iff_not, Bool.not_eq_true, Bool.not_eq_false, Bool.not_eq_true', Bool.not_eq_false', beq_iff_eq, bne_iff_ne, beq_eq_false_iff_ne, bne_eq_false_iff_eq, Int.not_lt, Int.not_le, ge_iff_le, gt_iff_lt] at h58
                  have hprev := hs.row (j := k - 1) (by omega) (by omega)
                  refine AW_condT rfl ?_
                  refine AW_seq ?_
                  refine AW_region ?_
                  refine AL_p (x_assign rfl rfl) ?_
                  refine AL_nil ?_
                  refine AW_ret (BQ_ret (BQ_ret ?_))
                  exact ⟨rn [], ⟨⟨⟨_, rfl, vle_bool (by first | exact (relOk_range (by omega)).symm | exact (relOk_bad (k := k) (by omega) (rowAt_len (by omega) (by omega))).symm | exact (relOk_bad (k := k) (by omega) (rowAt_row (by omega) h40)).symm | exact (relOk_bad (k := k) (by omega) (rowAt_order (by omega) (by omega) (by rw [← rowOrder_lt hprev h40]; exact h58))).symm | exact (relOk_good hs (by omega) (by omega) (by omega) (by omega)).symm)⟩, trivial⟩, trivial, trivial, rfl⟩⟩
                · try simp only [decide_eq_true_eq, decide_eq_false_iff_not, Bool.not_eq_true, Bool.not_eq_false, Bool.not_eq_true', Bool.not_eq_false', beq_iff_eq, bne_iff_ne, beq_eq_false_iff_ne, bne_eq_false_iff_eq, Int.not_lt, Int.not_le, ge_iff_le, gt_iff_lt] at h58
                  have hprev := hs.row (j := k - 1) (by omega) (by omega)
                  have hat := rowAt_next (ar := r.arity) (k := k) (by omega) (by omega) h40 (by omega) ((rowOrder_lt hprev h40).1 h58)
                  refine AW_condF rfl ?_
                  refine AW_skip ?_
                  refine AW_region ?_
                  refine AL_p (x_add rfl rfl rfl (IntWalk.i64_in _ (by omega))) ?_
                  refine AL_p (x_move rfl rfl) ?_
                  refine AL_nil ?_
                  refine ⟨⟨k + 1, ⟨by omega, hs.succ (by omega) hat⟩⟩, rn [], ?_, by dsimp only; omega⟩
                  exact ⟨by (repeat refine ⟨⟨_, rfl, by first | exact VLe.rf | exact vle_int (by dsimp only; omega)⟩, ?_⟩); exact trivial, by (repeat refine ⟨⟨_, rfl, by first | exact BLe.rf | exact BLe.box AllC.rf | exact BLe.arr (by exact rfl)⟩, ?_⟩); exact trivial, by repeat (first | exact trivial | refine ⟨⟨rfl, by first | (left; intro h; cases h) | (right; rfl), fun _ h => ⟨_, h⟩⟩, ?_⟩), rfl⟩
              · try simp only [decide_eq_true_eq, decide_eq_false_iff_not, Bool.not_eq_true, Bool.not_eq_false, Bool.not_eq_true', Bool.not_eq_false', beq_iff_eq, bne_iff_ne, beq_eq_false_iff_ne, bne_eq_false_iff_eq, Int.not_lt, Int.not_le, ge_iff_le, gt_iff_lt] at h44
                have hat := rowAt_first (ar := r.arity) (k := k) (by omega) (by omega) h40 (by omega)
                refine AL_o rfl rfl rfl rfl ?_
                refine AL_o rfl rfl rfl rfl ?_
                refine AL_o rfl rfl rfl rfl ?_
                refine AL_o rfl rfl rfl rfl ?_
                refine AL_o rfl rfl rfl rfl ?_
                refine AL_o rfl rfl rfl rfl ?_
                refine AL_o rfl rfl rfl rfl ?_
                refine AL_o rfl rfl rfl rfl ?_
                refine AL_o rfl rfl rfl rfl ?_
                refine AL_o rfl rfl rfl rfl ?_
                refine AL_o rfl rfl rfl rfl ?_
                refine AL_o rfl rfl rfl rfl ?_
                refine AL_o rfl rfl rfl rfl ?_
                refine AL_p (x_pickF rfl rfl rfl) ?_
                refine AL_nild (by kernel_rfl) ?_
                refine AW_condF rfl ?_
                refine AW_skip ?_
                refine AW_region ?_
                refine AL_p (x_add rfl rfl rfl (IntWalk.i64_in _ (by omega))) ?_
                refine AL_p (x_move rfl rfl) ?_
                refine AL_nil ?_
                refine ⟨⟨k + 1, ⟨by omega, hs.succ (by omega) hat⟩⟩, rn [], ?_, by dsimp only; omega⟩
                exact ⟨by (repeat refine ⟨⟨_, rfl, by first | exact VLe.rf | exact vle_int (by dsimp only; omega)⟩, ?_⟩); exact trivial, by (repeat refine ⟨⟨_, rfl, by first | exact BLe.rf | exact BLe.box AllC.rf | exact BLe.arr (by exact rfl)⟩, ?_⟩); exact trivial, by repeat (first | exact trivial | refine ⟨⟨rfl, by first | (left; intro h; cases h) | (right; rfl), fun _ h => ⟨_, h⟩⟩, ?_⟩), rfl⟩
            · try simp only [decide_eq_true_eq, decide_eq_false_iff_not, Bool.not_eq_true, Bool.not_eq_false, Bool.not_eq_true', Bool.not_eq_false', beq_iff_eq, bne_iff_ne, beq_eq_false_iff_ne, bne_eq_false_iff_eq, Int.not_lt, Int.not_le, ge_iff_le, gt_iff_lt] at h40
              refine AW_condT rfl ?_
              refine AW_seq ?_
              refine AW_region ?_
              refine AL_p (x_assign rfl rfl) ?_
              refine AL_nil ?_
              refine AW_ret (BQ_ret (BQ_ret ?_))
              exact ⟨rn [], ⟨⟨⟨_, rfl, vle_bool (by first | exact (relOk_range (by omega)).symm | exact (relOk_bad (k := k) (by omega) (rowAt_len (by omega) (by omega))).symm | exact (relOk_bad (k := k) (by omega) (rowAt_row (by omega) h40)).symm | exact (relOk_bad (k := k) (by omega) (rowAt_order (by omega) (by omega) (by rw [← rowOrder_lt hprev h40]; exact h58))).symm | exact (relOk_good hs (by omega) (by omega) (by omega) (by omega)).symm)⟩, trivial⟩, trivial, trivial, rfl⟩⟩
        · try simp only [decide_eq_true_eq, decide_eq_false_iff_not, Bool.not_eq_true, Bool.not_eq_false, Bool.not_eq_true', Bool.not_eq_false', beq_iff_eq, bne_iff_ne, beq_eq_false_iff_ne, bne_eq_false_iff_eq, Int.not_lt, Int.not_le, ge_iff_le, gt_iff_lt] at h22
          refine AW_condF rfl ?_
          refine AW_exit (BQ_hit ?_)
          refine AW_seq ?_
          refine AW_region ?_
          refine AL_p (x_assign rfl rfl) ?_
          refine AL_nil ?_
          refine AW_ret ?_
          exact ⟨rn [], ⟨⟨⟨_, rfl, vle_bool (by first | exact (relOk_range (by omega)).symm | exact (relOk_bad (k := k) (by omega) (rowAt_len (by omega) (by omega))).symm | exact (relOk_bad (k := k) (by omega) (rowAt_row (by omega) h40)).symm | exact (relOk_bad (k := k) (by omega) (rowAt_order (by omega) (by omega) (by rw [← rowOrder_lt hprev h40]; exact h58))).symm | exact (relOk_good hs (by omega) (by omega) (by omega) (by omega)).symm)⟩, trivial⟩, trivial, trivial, rfl⟩⟩

set_option maxHeartbeats 4000000 in
theorem relOkI_c (r : Relt) (hl : r.rows.length ≤ 1048576) : AC Try.prog 56 [.agg (relC r)] [] (.one (.c (.bool (relOk r)))) [] := by
  refine AC_body1 Try.func56 rfl rfl Try.ntmps56 rfl Try.results56 ?_
  refine AW_seq ?_
  refine AW_region ?_
  refine AL_p (x_box 100 rfl rfl rfl rfl rfl rfl rfl) ?_
  refine AL_p (x_assign rfl rfl) ?_
  refine AL_nil ?_
  refine AW_seq ?_
  refine AW_seq ?_
  refine AW_region ?_
  refine AL_p (x_field (off := 1) (o' := 1) rfl rfl rfl (by kernel_rfl) rfl) ?_
  refine AL_p (x_load1 rfl rfl rfl (by kernel_rfl) rfl) ?_
  refine AL_p (x_len (E := 50) (n := 1) rfl rfl (by kernel_rfl)) ?_
  refine AL_p (x_move rfl rfl) ?_
  refine AL_nil ?_
  refine AW_block ?_
  refine AW_loop2 (ι := {q : Nat // q ≤ r.rows.length ∧ GoodTo r.rows r.arity q}) (fun p => [(8, .one (.c (.int .i64 ((p.1) : Int))))]) (fun p => []) [1, 6, 7] [100] (fun p => r.rows.length - (p.1)) ⟨0, ⟨by omega, .zero⟩⟩ (rn []) ?_ ?_
  exact ⟨by (repeat refine ⟨⟨_, rfl, by first | exact VLe.rf | exact vle_int (by dsimp only; omega)⟩, ?_⟩); exact trivial, by (repeat refine ⟨⟨_, rfl, by first | exact BLe.rf | exact BLe.box AllC.rf | exact BLe.arr (by exact rfl)⟩, ?_⟩); exact trivial, by repeat (first | exact trivial | refine ⟨⟨rfl, by first | (left; intro h; cases h) | (right; rfl), fun _ h => ⟨_, h⟩⟩, ?_⟩), rfl⟩
  rintro ⟨k, hinv⟩
  dsimp only
  obtain ⟨hk, hs⟩ := hinv
  refine AW_seq ?_
  refine AW_region ?_
  refine AL_b (x_lss rfl rfl rfl) (fun b9 h9 => ?_)
  refine AL_nil ?_
  refine AW_seq ?_
  cases b9
  rotate_left
  · try simp only [decide_eq_true_eq, decide_eq_false_iff_not, Bool.not_eq_true, Bool.not_eq_false, Bool.not_eq_true', Bool.not_eq_false', beq_iff_eq, bne_iff_ne, beq_eq_false_iff_ne, bne_eq_false_iff_eq, Int.not_lt, Int.not_le, ge_iff_le, gt_iff_lt] at h9
    refine AW_condT rfl ?_
    refine AW_skip ?_
    refine AW_seq ?_
    refine AW_block ?_
    refine AW_seq ?_
    refine AW_region ?_
    refine AL_p (x_move rfl rfl) ?_
    refine AL_p (x_index (E := 50) (n := 1) rfl rfl rfl (by kernel_rfl) rfl rfl (by omega)) ?_
    refine AL_p (x_eloadW (n := 1) rfl rfl (by kernel_rfl) rfl) ?_
    refine AL_p (x_alloc (z := .agg #[.slice none 0 0]) 101 rfl (by kernel_rfl) rfl rfl rfl rfl) ?_
    refine AL_p (x_assign rfl rfl) ?_
    refine AL_p (x_store (n := 1) rfl rfl rfl rfl (by kernel_rfl) rfl rfl rfl) ?_
    refine AL_nil ?_
    refine AW_seq ?_
    refine AW_draw rfl ?_
    refine AL_p (x_loadN (n := 1) rfl rfl rfl (by kernel_rfl) rfl rfl) ?_
    refine AL_b (x_call0 rfl rfl rfl (rowOkI_c _) rfl rfl) (fun b14 h14 => ?_)
    refine AL_p (x_not rfl rfl) ?_
    refine AL_p (x_move rfl rfl) ?_
    cases b14
    rotate_left
    · try simp only [decide_eq_true_eq, decide_eq_false_iff_not, Bool.not_eq_true, Bool.not_eq_false, Bool.not_eq_true', Bool.not_eq_false', beq_iff_eq, bne_iff_ne, beq_eq_false_iff_ne, bne_eq_false_iff_eq, Int.not_lt, Int.not_le, ge_iff_le, gt_iff_lt] at h14
      refine AL_g rfl rfl (x_field (off := 0) (o' := 0) rfl rfl rfl (by kernel_rfl) rfl) ?_
      refine AL_g rfl rfl (x_load1 rfl rfl rfl (by kernel_rfl) rfl) ?_
      refine AL_g rfl rfl (x_len (E := 37) (n := 2) rfl rfl (by kernel_rfl)) ?_
      refine AL_g rfl rfl (x_field (off := 0) (o' := 0) rfl rfl rfl (by kernel_rfl) rfl) ?_
      refine AL_g rfl rfl (x_load1 rfl rfl rfl (by kernel_rfl) rfl) ?_
      refine AL_gb rfl rfl (x_neq rfl rfl rfl) (fun b22 h22 => ?_)
      refine AL_p (x_pickF rfl rfl rfl) ?_
      refine AL_p (x_move rfl rfl) ?_
      cases b22
      rotate_left
      · try simp only [decide_eq_true_eq, decide_eq_false_iff_not, Bool.not_eq_true, Bool.not_eq_false, Bool.not_eq_true', Bool.not_eq_false', beq_iff_eq, bne_iff_ne, beq_eq_false_iff_ne, bne_eq_false_iff_eq, Int.not_lt, Int.not_le, ge_iff_le, gt_iff_lt] at h22
        refine AL_o rfl rfl rfl rfl ?_
        refine AL_o rfl rfl rfl rfl ?_
        refine AL_o rfl rfl rfl rfl ?_
        refine AL_u rfl rfl rfl ?_
        refine AL_u rfl rfl rfl ?_
        refine AL_u rfl rfl rfl ?_
        refine AL_u rfl rfl rfl ?_
        refine AL_u rfl rfl rfl ?_
        refine AL_u rfl rfl rfl ?_
        refine AL_u rfl rfl rfl ?_
        refine AL_u rfl rfl rfl ?_
        refine AL_u rfl rfl rfl ?_
        refine AL_o rfl rfl rfl rfl ?_
        refine AL_p (x_pickT rfl rfl rfl) ?_
        refine AL_nild (by kernel_rfl) ?_
        refine AW_condT rfl ?_
        refine AW_seq ?_
        refine AW_region ?_
        refine AL_p (x_assign rfl rfl) ?_
        refine AL_nil ?_
        refine AW_ret (BQ_ret (BQ_ret ?_))
        exact ⟨rn [], ⟨⟨⟨_, rfl, vle_bool (by first | exact (relOk_bad (k := k) (by omega) (rowAt_row (by omega) h14)).symm | exact (relOk_bad (k := k) (by omega) (rowAt_len (by omega) h22)).symm | exact (relOk_bad (k := k) (by omega) (rowAt_order (by omega) (by omega) (by omega))).symm | exact (relOk_good hs (by omega) (upToB_iff.1 h42).1 (upToB_iff.1 h42).2 (by omega)).symm | exact (relOk_range (by omega)).symm | exact (relOk_range (upToB_not h42 (by omega))).symm)⟩, trivial⟩, trivial, trivial, rfl⟩⟩
      · try simp only [decide_eq_true_eq, decide_eq_false_iff_not, Bool.not_eq_true, Bool.not_eq_false, Bool.not_eq_true', Bool.not_eq_false', beq_iff_eq, bne_iff_ne, beq_eq_false_iff_ne, bne_eq_false_iff_eq, Int.not_lt, Int.not_le, ge_iff_le, gt_iff_lt] at h22
        refine AL_g rfl rfl (x_move rfl rfl) ?_
        refine AL_gb rfl rfl (x_gtr rfl rfl rfl) (fun b26 h26 => ?_)
        refine AL_g rfl rfl (x_move rfl rfl) ?_
        cases b26
        rotate_left
        · try simp only [decide_eq_true_eq, decide_eq_false_iff_not, Bool.not_eq_true, Bool.not_eq_false, Bool.not_eq_true', Bool.not_eq_false', beq_iff_eq, bne_iff_ne, beq_eq_false_iff_ne, bne_eq_false_iff_eq, Int.not_lt, Int.not_le, ge_iff_le, gt_iff_lt] at h26
          refine AL_g rfl rfl (x_field (off := 1) (o' := 1) rfl rfl rfl (by kernel_rfl) rfl) ?_
          refine AL_g rfl rfl (x_load1 rfl rfl rfl (by kernel_rfl) rfl) ?_
          refine AL_g rfl rfl (x_move rfl rfl) ?_
          refine AL_g rfl rfl (x_sub rfl rfl rfl (IntWalk.i64_in _ (by omega))) ?_
          refine AL_g rfl rfl (x_index (E := 50) (n := 1) rfl rfl rfl (by kernel_rfl) rfl (k := k - 1) (by omega) (by omega)) ?_
          refine AL_g rfl rfl (x_eloadW (n := 1) rfl rfl (by kernel_rfl) rfl) ?_
          refine AL_g rfl rfl (x_loadN (n := 1) rfl rfl rfl (by kernel_rfl) rfl rfl) ?_
          refine AL_g rfl rfl (x_call0 rfl rfl rfl (byRow_c _ _ (rowOk_vals (hs.row (by omega) (by omega))) (rowOk_vals h14)) rfl rfl) ?_
          refine AL_gb rfl rfl (x_geq rfl rfl rfl) (fun b36 h36 => ?_)
          refine AL_g rfl rfl (x_pickT rfl rfl rfl) ?_
          refine AL_p (x_pickF rfl rfl rfl) ?_
          refine AL_nild (by kernel_rfl) ?_
          cases b36
          rotate_left
          · try simp only [decide_eq_true_eq, decide_eq_false_iff_not, Bool.not_eq_true, Bool.not_eq_false, Bool.not_eq_true', Bool.not_eq_false', beq_iff_eq, bne_iff_ne, beq_eq_false_iff_ne, bne_eq_false_iff_eq, Int.not_lt, Int.not_le, ge_iff_le, gt_iff_lt] at h36
            refine AW_condT rfl ?_
            refine AW_seq ?_
            refine AW_region ?_
            refine AL_p (x_assign rfl rfl) ?_
            refine AL_nil ?_
            refine AW_ret (BQ_ret (BQ_ret ?_))
            exact ⟨rn [], ⟨⟨⟨_, rfl, vle_bool (by first | exact (relOk_bad (k := k) (by omega) (rowAt_row (by omega) h14)).symm | exact (relOk_bad (k := k) (by omega) (rowAt_len (by omega) h22)).symm | exact (relOk_bad (k := k) (by omega) (rowAt_order (by omega) (by omega) (by omega))).symm | exact (relOk_good hs (by omega) (upToB_iff.1 h42).1 (upToB_iff.1 h42).2 (by omega)).symm | exact (relOk_range (by omega)).symm | exact (relOk_range (upToB_not h42 (by omega))).symm)⟩, trivial⟩, trivial, trivial, rfl⟩⟩
          · try simp only [decide_eq_true_eq, decide_eq_false_iff_not, Bool.not_eq_true, Bool.not_eq_false, Bool.not_eq_true', Bool.not_eq_false', beq_iff_eq, bne_iff_ne, beq_eq_false_iff_ne, bne_eq_false_iff_eq, Int.not_lt, Int.not_le, ge_iff_le, gt_iff_lt] at h36
            have hat := rowAt_next (ar := r.arity) (k := k) (by omega) (by omega) h14 (by omega) (by omega)
            refine AW_condF rfl ?_
            refine AW_skip ?_
            refine AW_region ?_
            refine AL_p (x_add rfl rfl rfl (IntWalk.i64_in _ (by omega))) ?_
            refine AL_p (x_move rfl rfl) ?_
            refine AL_nil ?_
            refine ⟨⟨k + 1, ⟨by omega, hs.succ (by omega) hat⟩⟩, rn [], ?_, by dsimp only; omega⟩
            exact ⟨by (repeat refine ⟨⟨_, rfl, by first | exact VLe.rf | exact vle_int (by dsimp only; omega)⟩, ?_⟩); exact trivial, by (repeat refine ⟨⟨_, rfl, by first | exact BLe.rf | exact BLe.box AllC.rf | exact BLe.arr (by exact rfl)⟩, ?_⟩); exact trivial, by repeat (first | exact trivial | refine ⟨⟨rfl, by first | (left; intro h; cases h) | (right; rfl), fun _ h => ⟨_, h⟩⟩, ?_⟩), rfl⟩
        · try simp only [decide_eq_true_eq, decide_eq_false_iff_not, Bool.not_eq_true, Bool.not_eq_false, Bool.not_eq_true', Bool.not_eq_false', beq_iff_eq, bne_iff_ne, beq_eq_false_iff_ne, bne_eq_false_iff_eq, Int.not_lt, Int.not_le, ge_iff_le, gt_iff_lt] at h26
          have hat := rowAt_first (ar := r.arity) (k := k) (by omega) (by omega) h14 (by omega)
          refine AL_o rfl rfl rfl rfl ?_
          refine AL_o rfl rfl rfl rfl ?_
          refine AL_o rfl rfl rfl rfl ?_
          refine AL_o rfl rfl rfl rfl ?_
          refine AL_o rfl rfl rfl rfl ?_
          refine AL_o rfl rfl rfl rfl ?_
          refine AL_o rfl rfl rfl rfl ?_
          refine AL_o rfl rfl rfl rfl ?_
          refine AL_o rfl rfl rfl rfl ?_
          refine AL_g rfl rfl (x_pickF rfl rfl rfl) ?_
          refine AL_p (x_pickF rfl rfl rfl) ?_
          refine AL_nild (by kernel_rfl) ?_
          refine AW_condF rfl ?_
          refine AW_skip ?_
          refine AW_region ?_
          refine AL_p (x_add rfl rfl rfl (IntWalk.i64_in _ (by omega))) ?_
          refine AL_p (x_move rfl rfl) ?_
          refine AL_nil ?_
          refine ⟨⟨k + 1, ⟨by omega, hs.succ (by omega) hat⟩⟩, rn [], ?_, by dsimp only; omega⟩
          exact ⟨by (repeat refine ⟨⟨_, rfl, by first | exact VLe.rf | exact vle_int (by dsimp only; omega)⟩, ?_⟩); exact trivial, by (repeat refine ⟨⟨_, rfl, by first | exact BLe.rf | exact BLe.box AllC.rf | exact BLe.arr (by exact rfl)⟩, ?_⟩); exact trivial, by repeat (first | exact trivial | refine ⟨⟨rfl, by first | (left; intro h; cases h) | (right; rfl), fun _ h => ⟨_, h⟩⟩, ?_⟩), rfl⟩
    · try simp only [decide_eq_true_eq, decide_eq_false_iff_not, Bool.not_eq_true, Bool.not_eq_false, Bool.not_eq_true', Bool.not_eq_false', beq_iff_eq, bne_iff_ne, beq_eq_false_iff_ne, bne_eq_false_iff_eq, Int.not_lt, Int.not_le, ge_iff_le, gt_iff_lt] at h14
      refine AL_o rfl rfl rfl rfl ?_
      refine AL_o rfl rfl rfl rfl ?_
      refine AL_o rfl rfl rfl rfl ?_
      refine AL_o rfl rfl rfl rfl ?_
      refine AL_o rfl rfl rfl rfl ?_
      refine AL_o rfl rfl rfl rfl ?_
      refine AL_p (x_pickT rfl rfl rfl) ?_
      refine AL_p (x_move rfl rfl) ?_
      refine AL_o rfl rfl rfl rfl ?_
      refine AL_o rfl rfl rfl rfl ?_
      refine AL_o rfl rfl rfl rfl ?_
      refine AL_u rfl rfl rfl ?_
      refine AL_u rfl rfl rfl ?_
      refine AL_u rfl rfl rfl ?_
      refine AL_u rfl rfl rfl ?_
      refine AL_u rfl rfl rfl ?_
      refine AL_u rfl rfl rfl ?_
      refine AL_u rfl rfl rfl ?_
      refine AL_u rfl rfl rfl ?_
      refine AL_u rfl rfl rfl ?_
      refine AL_o rfl rfl rfl rfl ?_
      refine AL_p (x_pickT rfl rfl rfl) ?_
      refine AL_nild (by kernel_rfl) ?_
      refine AW_condT rfl ?_
      refine AW_seq ?_
      refine AW_region ?_
      refine AL_p (x_assign rfl rfl) ?_
      refine AL_nil ?_
      refine AW_ret (BQ_ret (BQ_ret ?_))
      exact ⟨rn [], ⟨⟨⟨_, rfl, vle_bool (by first | exact (relOk_bad (k := k) (by omega) (rowAt_row (by omega) h14)).symm | exact (relOk_bad (k := k) (by omega) (rowAt_len (by omega) h22)).symm | exact (relOk_bad (k := k) (by omega) (rowAt_order (by omega) (by omega) (by omega))).symm | exact (relOk_good hs (by omega) (upToB_iff.1 h42).1 (upToB_iff.1 h42).2 (by omega)).symm | exact (relOk_range (by omega)).symm | exact (relOk_range (upToB_not h42 (by omega))).symm)⟩, trivial⟩, trivial, trivial, rfl⟩⟩
  · try simp only [decide_eq_true_eq, decide_eq_false_iff_not, Bool.not_eq_true, Bool.not_eq_false, Bool.not_eq_true', Bool.not_eq_false', beq_iff_eq, bne_iff_ne, beq_eq_false_iff_ne, bne_eq_false_iff_eq, Int.not_lt, Int.not_le, ge_iff_le, gt_iff_lt] at h9
    refine AW_condF rfl ?_
    refine AW_exit (BQ_hit ?_)
    refine AW_seq ?_
    refine AW_region ?_
    refine AL_p (x_field (off := 0) (o' := 0) rfl rfl rfl (by kernel_rfl) rfl) ?_
    refine AL_p (x_load1 rfl rfl rfl (by kernel_rfl) rfl) ?_
    refine AL_b (x_call0 rfl rfl rfl (upToI_c _ _) rfl rfl) (fun b42 h42 => ?_)
    refine AL_p (x_move rfl rfl) ?_
    cases b42
    rotate_left
    · try simp only [decide_eq_true_eq, decide_eq_false_iff_not, Bool.not_eq_true, Bool.not_eq_false, Bool.not_eq_true', Bool.not_eq_false', beq_iff_eq, bne_iff_ne, beq_eq_false_iff_ne, bne_eq_false_iff_eq, Int.not_lt, Int.not_le, ge_iff_le, gt_iff_lt] at h42
      refine AL_g rfl rfl (x_field (off := 1) (o' := 1) rfl rfl rfl (by kernel_rfl) rfl) ?_
      refine AL_g rfl rfl (x_load1 rfl rfl rfl (by kernel_rfl) rfl) ?_
      refine AL_g rfl rfl (x_len (E := 50) (n := 1) rfl rfl (by kernel_rfl)) ?_
      refine AL_gb rfl rfl (x_leq rfl rfl rfl) (fun b47 h47 => ?_)
      refine AL_p (x_pickT rfl rfl rfl) ?_
      refine AL_p (x_assign rfl rfl) ?_
      refine AL_nil ?_
      refine AW_ret ?_
      cases b47
      rotate_left
      · try simp only [decide_eq_true_eq, decide_eq_false_iff_not, Bool.not_eq_true, Bool.not_eq_false, Bool.not_eq_true', Bool.not_eq_false', beq_iff_eq, bne_iff_ne, beq_eq_false_iff_ne, bne_eq_false_iff_eq, Int.not_lt, Int.not_le, ge_iff_le, gt_iff_lt] at h47
        exact ⟨rn [], ⟨⟨⟨_, rfl, vle_bool (by first | exact (relOk_bad (k := k) (by omega) (rowAt_row (by omega) h14)).symm | exact (relOk_bad (k := k) (by omega) (rowAt_len (by omega) h22)).symm | exact (relOk_bad (k := k) (by omega) (rowAt_order (by omega) (by omega) (by omega))).symm | exact (relOk_good hs (by omega) (upToB_iff.1 h42).1 (upToB_iff.1 h42).2 (by omega)).symm | exact (relOk_range (by omega)).symm | exact (relOk_range (upToB_not h42 (by omega))).symm)⟩, trivial⟩, trivial, trivial, rfl⟩⟩
      · try simp only [decide_eq_true_eq, decide_eq_false_iff_not, Bool.not_eq_true, Bool.not_eq_false, Bool.not_eq_true', Bool.not_eq_false', beq_iff_eq, bne_iff_ne, beq_eq_false_iff_ne, bne_eq_false_iff_eq, Int.not_lt, Int.not_le, ge_iff_le, gt_iff_lt] at h47
        exact ⟨rn [], ⟨⟨⟨_, rfl, vle_bool (by first | exact (relOk_bad (k := k) (by omega) (rowAt_row (by omega) h14)).symm | exact (relOk_bad (k := k) (by omega) (rowAt_len (by omega) h22)).symm | exact (relOk_bad (k := k) (by omega) (rowAt_order (by omega) (by omega) (by omega))).symm | exact (relOk_good hs (by omega) (upToB_iff.1 h42).1 (upToB_iff.1 h42).2 (by omega)).symm | exact (relOk_range (by omega)).symm | exact (relOk_range (upToB_not h42 (by omega))).symm)⟩, trivial⟩, trivial, trivial, rfl⟩⟩
    · try simp only [decide_eq_true_eq, decide_eq_false_iff_not, Bool.not_eq_true, Bool.not_eq_false, Bool.not_eq_true', Bool.not_eq_false', beq_iff_eq, bne_iff_ne, beq_eq_false_iff_ne, bne_eq_false_iff_eq, Int.not_lt, Int.not_le, ge_iff_le, gt_iff_lt] at h42
      refine AL_o rfl rfl rfl rfl ?_
      refine AL_o rfl rfl rfl rfl ?_
      refine AL_o rfl rfl rfl rfl ?_
      refine AL_o rfl rfl rfl rfl ?_
      refine AL_p (x_pickF rfl rfl rfl) ?_
      refine AL_p (x_assign rfl rfl) ?_
      refine AL_nil ?_
      refine AW_ret ?_
      exact ⟨rn [], ⟨⟨⟨_, rfl, vle_bool (by first | exact (relOk_bad (k := k) (by omega) (rowAt_row (by omega) h14)).symm | exact (relOk_bad (k := k) (by omega) (rowAt_len (by omega) h22)).symm | exact (relOk_bad (k := k) (by omega) (rowAt_order (by omega) (by omega) (by omega))).symm | exact (relOk_good hs (by omega) (upToB_iff.1 h42).1 (upToB_iff.1 h42).2 (by omega)).symm | exact (relOk_range (by omega)).symm | exact (relOk_range (upToB_not h42 (by omega))).symm)⟩, trivial⟩, trivial, trivial, rfl⟩⟩
end Go.Proofs.Ytcgickpnckedcaa

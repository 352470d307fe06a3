/- Lemmas of the walks, part 3. -/
import Derived.Test.YtfdpigafekohgaaV2
/- Messages that are well formed (printed by walk.py) -/
namespace Go.Proofs.Ytfdpigafekohgaa
open Go.RowKit
set_option linter.unusedVariables false
set_option linter.unusedSimpArgs false
set_option maxRecDepth 100000

set_option maxHeartbeats 4000000 in
theorem fbI_c (f : Int) : AC Try.prog 156 [.one (.c (.int .i64 f))] [] (.one (.c (.int .i64 (bitsOf f)))) [] := by
  refine AC_body1 Try.func156 rfl rfl Try.ntmps156 rfl Try.results156 ?_
  refine AW_seq ?_
  refine AW_region ?_
  refine AL_p (x_assign rfl rfl) ?_
  refine AL_nil ?_
  refine AW_seq ?_
  refine AW_seq ?_
  refine AW_region ?_
  refine AL_p (x_move rfl rfl) ?_
  refine AL_nil ?_
  refine AW_block ?_
  refine AW_seq ?_
  refine AW_seq ?_
  refine AW_region ?_
  refine AL_b (x_eql rfl rfl rfl) (fun b5 h5 => ?_)
  refine AL_p (x_assign rfl rfl) ?_
  refine AL_nil ?_
  cases b5
  rotate_left
  · try simp only [tdy] at h5
    refine AW_condT rfl ?_
    refine AW_skip ?_
    refine AW_condT rfl ?_
    refine AW_seq ?_
    refine AW_region ?_
    refine AL_p (x_assign rfl rfl) ?_
    refine AL_nil ?_
    refine AW_ret (BQ_ret ?_)
    exact ⟨rn [], ⟨⟨⟨_, rfl, vle_int (by unfold bitsOf; omega)⟩, trivial⟩, trivial, trivial, rfl⟩⟩
  try simp only [tdy] at h5
  refine AW_condF rfl ?_
  refine AW_region ?_
  refine AL_b (x_eql rfl rfl rfl) (fun b6 h6 => ?_)
  refine AL_p (x_assign rfl rfl) ?_
  refine AL_nil ?_
  cases b6
  rotate_left
  · try simp only [tdy] at h6
    refine AW_condT rfl ?_
    refine AW_seq ?_
    refine AW_region ?_
    refine AL_p (x_assign rfl rfl) ?_
    refine AL_nil ?_
    refine AW_ret (BQ_ret ?_)
    exact ⟨rn [], ⟨⟨⟨_, rfl, vle_int (by unfold bitsOf; omega)⟩, trivial⟩, trivial, trivial, rfl⟩⟩
  try simp only [tdy] at h6
  refine AW_condF rfl ?_
  refine AW_seq ?_
  refine AW_seq ?_
  refine AW_region ?_
  refine AL_b (x_eql rfl rfl rfl) (fun b8 h8 => ?_)
  refine AL_p (x_assign rfl rfl) ?_
  refine AL_nil ?_
  cases b8
  rotate_left
  · try simp only [tdy] at h8
    refine AW_condT rfl ?_
    refine AW_skip ?_
    refine AW_condT rfl ?_
    refine AW_seq ?_
    refine AW_region ?_
    refine AL_p (x_assign rfl rfl) ?_
    refine AL_nil ?_
    refine AW_ret (BQ_ret ?_)
    exact ⟨rn [], ⟨⟨⟨_, rfl, vle_int (by unfold bitsOf; omega)⟩, trivial⟩, trivial, trivial, rfl⟩⟩
  try simp only [tdy] at h8
  refine AW_condF rfl ?_
  refine AW_region ?_
  refine AL_b (x_eql rfl rfl rfl) (fun b9 h9 => ?_)
  refine AL_p (x_assign rfl rfl) ?_
  refine AL_nil ?_
  cases b9
  rotate_left
  · try simp only [tdy] at h9
    refine AW_condT rfl ?_
    refine AW_seq ?_
    refine AW_region ?_
    refine AL_p (x_assign rfl rfl) ?_
    refine AL_nil ?_
    refine AW_ret (BQ_ret ?_)
    exact ⟨rn [], ⟨⟨⟨_, rfl, vle_int (by unfold bitsOf; omega)⟩, trivial⟩, trivial, trivial, rfl⟩⟩
  try simp only [tdy] at h9
  refine AW_condF rfl ?_
  refine AW_seq ?_
  refine AW_seq ?_
  refine AW_region ?_
  refine AL_b (x_eql rfl rfl rfl) (fun b11 h11 => ?_)
  refine AL_p (x_assign rfl rfl) ?_
  refine AL_nil ?_
  cases b11
  rotate_left
  · try simp only [tdy] at h11
    refine AW_condT rfl ?_
    refine AW_skip ?_
    refine AW_condT rfl ?_
    refine AW_seq ?_
    refine AW_region ?_
    refine AL_p (x_assign rfl rfl) ?_
    refine AL_nil ?_
    refine AW_ret (BQ_ret ?_)
    exact ⟨rn [], ⟨⟨⟨_, rfl, vle_int (by unfold bitsOf; omega)⟩, trivial⟩, trivial, trivial, rfl⟩⟩
  try simp only [tdy] at h11
  refine AW_condF rfl ?_
  refine AW_region ?_
  refine AL_b (x_eql rfl rfl rfl) (fun b12 h12 => ?_)
  refine AL_p (x_assign rfl rfl) ?_
  refine AL_nil ?_
  cases b12
  rotate_left
  · try simp only [tdy] at h12
    refine AW_condT rfl ?_
    refine AW_seq ?_
    refine AW_region ?_
    refine AL_p (x_assign rfl rfl) ?_
    refine AL_nil ?_
    refine AW_ret (BQ_ret ?_)
    exact ⟨rn [], ⟨⟨⟨_, rfl, vle_int (by unfold bitsOf; omega)⟩, trivial⟩, trivial, trivial, rfl⟩⟩
  try simp only [tdy] at h12
  refine AW_condF rfl ?_
  refine AW_seq ?_
  refine AW_seq ?_
  refine AW_region ?_
  refine AL_b (x_eql rfl rfl rfl) (fun b14 h14 => ?_)
  refine AL_p (x_assign rfl rfl) ?_
  refine AL_nil ?_
  cases b14
  rotate_left
  · try simp only [tdy] at h14
    refine AW_condT rfl ?_
    refine AW_skip ?_
    refine AW_condT rfl ?_
    refine AW_seq ?_
    refine AW_region ?_
    refine AL_p (x_assign rfl rfl) ?_
    refine AL_nil ?_
    refine AW_ret (BQ_ret ?_)
    exact ⟨rn [], ⟨⟨⟨_, rfl, vle_int (by unfold bitsOf; omega)⟩, trivial⟩, trivial, trivial, rfl⟩⟩
  try simp only [tdy] at h14
  refine AW_condF rfl ?_
  refine AW_region ?_
  refine AL_b (x_eql rfl rfl rfl) (fun b15 h15 => ?_)
  refine AL_p (x_assign rfl rfl) ?_
  refine AL_nil ?_
  cases b15
  rotate_left
  · try simp only [tdy] at h15
    refine AW_condT rfl ?_
    refine AW_seq ?_
    refine AW_region ?_
    refine AL_p (x_assign rfl rfl) ?_
    refine AL_nil ?_
    refine AW_ret (BQ_ret ?_)
    exact ⟨rn [], ⟨⟨⟨_, rfl, vle_int (by unfold bitsOf; omega)⟩, trivial⟩, trivial, trivial, rfl⟩⟩
  try simp only [tdy] at h15
  refine AW_condF rfl ?_
  refine AW_skip ?_
  refine AW_seq ?_
  refine AW_region ?_
  refine AL_p (x_assign rfl rfl) ?_
  refine AL_nil ?_
  refine AW_ret ?_
  exact ⟨rn [], ⟨⟨⟨_, rfl, vle_int (by unfold bitsOf; omega)⟩, trivial⟩, trivial, trivial, rfl⟩⟩

set_option maxHeartbeats 4000000 in
theorem fbS_c (f : Int) : AC Try.prog 139 [.one (.c (.int .i64 f))] [] (.one (.c (.int .i64 (bitsOf f)))) [] := by
  refine AC_body1 Try.func139 rfl rfl Try.ntmps139 rfl Try.results139 ?_
  refine AW_seq ?_
  refine AW_region ?_
  refine AL_p (x_assign rfl rfl) ?_
  refine AL_nil ?_
  refine AW_seq ?_
  refine AW_seq ?_
  refine AW_region ?_
  refine AL_p (x_move rfl rfl) ?_
  refine AL_b (x_lss rfl rfl rfl) (fun b4 h4 => ?_)
  refine AL_p (x_move rfl rfl) ?_
  cases b4
  rotate_left
  · try simp only [tdy] at h4
    refine AL_o rfl rfl rfl rfl ?_
    refine AL_o rfl rfl rfl rfl ?_
    refine AL_p (x_pickT rfl rfl rfl) ?_
    refine AL_nil ?_
    refine AW_condT rfl ?_
    refine AW_seq ?_
    refine AW_region ?_
    refine AL_p (x_assign rfl rfl) ?_
    refine AL_nil ?_
    refine AW_ret ?_
    exact ⟨rn [], ⟨⟨⟨_, rfl, vle_int (by first | (rw [bitsOf_out (by omega)]) | exact bitsOf_list (by omega) (by omega) rfl _)⟩, trivial⟩, trivial, trivial, rfl⟩⟩
  try simp only [tdy] at h4
  refine AL_g rfl rfl (x_move rfl rfl) ?_
  refine AL_gb rfl rfl (x_geq rfl rfl rfl) (fun b7 h7 => ?_)
  refine AL_p (x_pickF rfl rfl rfl) ?_
  refine AL_nil ?_
  cases b7
  rotate_left
  · try simp only [tdy] at h7
    refine AW_condT rfl ?_
    refine AW_seq ?_
    refine AW_region ?_
    refine AL_p (x_assign rfl rfl) ?_
    refine AL_nil ?_
    refine AW_ret ?_
    exact ⟨rn [], ⟨⟨⟨_, rfl, vle_int (by first | (rw [bitsOf_out (by omega)]) | exact bitsOf_list (by omega) (by omega) rfl _)⟩, trivial⟩, trivial, trivial, rfl⟩⟩
  try simp only [tdy] at h7
  refine AW_condF rfl ?_
  refine AW_skip ?_
  refine AW_seq ?_
  refine AW_region ?_
  refine AL_p (y_bslice (E := 3) (e := (intE .i64)) [.const (.int .i64 (8)), .const (.int .i64 (48)), .const (.int .i64 (48)), .const (.int .i64 (16)), .const (.int .i64 (16)), .const (.int .i64 (32)), .const (.int .i64 (32)), .const (.int .i64 (8))] ([8, 48, 48, 16, 16, 32, 32, 8]) 100 rfl rfl rfl rfl rfl rfl rfl rfl FitL.rf rfl rfl rfl rfl rfl rfl (by kernel_rfl)) ?_
  refine AL_p (x_move rfl rfl) ?_
  refine AL_p (x_oindex (n := 1) rfl rfl rfl rfl (by kernel_rfl) rfl (k := f.toNat) (by omega) (by simp; omega)) ?_
  refine AL_p (x_oload1 rfl rfl rfl (by kernel_rfl) (by simp; omega) rfl) ?_
  refine AL_p (x_assign rfl rfl) ?_
  refine AL_nil ?_
  refine AW_ret ?_
  exact ⟨rn [], ⟨⟨⟨_, rfl, vle_int (by first | (rw [bitsOf_out (by omega)]) | exact bitsOf_list (by omega) (by omega) rfl _)⟩, trivial⟩, trivial, trivial, rfl⟩⟩

set_option maxHeartbeats 4000000 in
theorem allBits_c (f : Int) : AC Try.prog 157 [.one (.c (.int .i64 f))] [] (.one (.c (.int .i64 (topOf f - 1)))) [] := by
  refine AC_body1 Try.func157 rfl rfl Try.ntmps157 rfl Try.results157 ?_
  refine AW_seq ?_
  refine AW_region ?_
  refine AL_p (x_assign rfl rfl) ?_
  refine AL_nil ?_
  refine AW_seq ?_
  refine AW_region ?_
  refine AL_p (x_move rfl rfl) ?_
  refine AL_p (x_call0 rfl rfl rfl (fbI_c _) rfl rfl) ?_
  refine AL_p (x_shl rfl rfl rfl (by have := bitsOf_le f; omega) (topOf_shl f)) ?_
  refine AL_p (x_sub rfl rfl rfl (IntWalk.i64_in _ (by have := topOf_bound f; omega))) ?_
  refine AL_p (x_assign rfl rfl) ?_
  refine AL_nil ?_
  refine AW_ret ?_
  exact ⟨rn [], ⟨⟨⟨_, rfl, vle_int (rfl)⟩, trivial⟩, trivial, trivial, rfl⟩⟩

set_option maxHeartbeats 4000000 in
theorem fitsI_c (f v : Int) : AC Try.prog 151 [.one (.c (.int .i64 f)), .one (.c (.int .i64 v))] [] (.one (.c (.bool (fitsB f v)))) [] := by
  refine AC_body1 Try.func151 rfl rfl Try.ntmps151 rfl Try.results151 ?_
  refine AW_seq ?_
  refine AW_region ?_
  refine AL_p (x_assign rfl rfl) ?_
  refine AL_nil ?_
  refine AW_seq ?_
  refine AW_region ?_
  refine AL_p (x_move rfl rfl) ?_
  refine AL_p (x_call0 rfl rfl rfl (fbI_c _) rfl rfl) ?_
  refine AL_b (x_gtr rfl rfl rfl) (fun b7 h7 => ?_)
  refine AL_p (x_move rfl rfl) ?_
  cases b7
  · try simp only [tdy] at h7
    refine AL_o rfl rfl rfl rfl ?_
    refine AL_o rfl rfl rfl rfl ?_
    refine AL_p (x_pickF rfl rfl rfl) ?_
    refine AL_p (x_move rfl rfl) ?_
    refine AL_o rfl rfl rfl rfl ?_
    refine AL_o rfl rfl rfl rfl ?_
    refine AL_o rfl rfl rfl rfl ?_
    refine AL_o rfl rfl rfl rfl ?_
    refine AL_p (x_pickF rfl rfl rfl) ?_
    refine AL_p (x_assign rfl rfl) ?_
    refine AL_nil ?_
    refine AW_ret ?_
    exact ⟨rn [], ⟨⟨⟨_, rfl, vle_bool (by (symm; unfold fitsB; first | (rw [decide_eq_true_eq]; omega) | (rw [decide_eq_false_iff_not]; omega)))⟩, trivial⟩, trivial, trivial, rfl⟩⟩
  try simp only [tdy] at h7
  refine AL_g rfl rfl (x_move rfl rfl) ?_
  refine AL_gb rfl rfl (x_geq rfl rfl rfl) (fun b10 h10 => ?_)
  refine AL_p (x_pickT rfl rfl rfl) ?_
  refine AL_p (x_move rfl rfl) ?_
  cases b10
  · try simp only [tdy] at h10
    refine AL_o rfl rfl rfl rfl ?_
    refine AL_o rfl rfl rfl rfl ?_
    refine AL_o rfl rfl rfl rfl ?_
    refine AL_o rfl rfl rfl rfl ?_
    refine AL_p (x_pickF rfl rfl rfl) ?_
    refine AL_p (x_assign rfl rfl) ?_
    refine AL_nil ?_
    refine AW_ret ?_
    exact ⟨rn [], ⟨⟨⟨_, rfl, vle_bool (by (symm; unfold fitsB; first | (rw [decide_eq_true_eq]; omega) | (rw [decide_eq_false_iff_not]; omega)))⟩, trivial⟩, trivial, trivial, rfl⟩⟩
  try simp only [tdy] at h10
  refine AL_g rfl rfl (x_move rfl rfl) ?_
  refine AL_g rfl rfl (x_move rfl rfl) ?_
  refine AL_g rfl rfl (x_call0 rfl rfl rfl (allBits_c _) rfl rfl) ?_
  refine AL_gb rfl rfl (x_leq rfl rfl rfl) (fun b16 h16 => ?_)
  refine AL_p (x_pickT rfl rfl rfl) ?_
  refine AL_p (x_assign rfl rfl) ?_
  refine AL_nil ?_
  refine AW_ret ?_
  cases b16
  rotate_left
  · try simp only [tdy] at h16
    exact ⟨rn [], ⟨⟨⟨_, rfl, vle_bool (by (symm; unfold fitsB; first | (rw [decide_eq_true_eq]; omega) | (rw [decide_eq_false_iff_not]; omega)))⟩, trivial⟩, trivial, trivial, rfl⟩⟩
  try simp only [tdy] at h16
  exact ⟨rn [], ⟨⟨⟨_, rfl, vle_bool (by (symm; unfold fitsB; first | (rw [decide_eq_true_eq]; omega) | (rw [decide_eq_false_iff_not]; omega)))⟩, trivial⟩, trivial, trivial, rfl⟩⟩

set_option maxHeartbeats 4000000 in
theorem powS_c (n : Int) (h0 : 0 ≤ n) (h1 : n ≤ 6) : AC Try.prog 147 [.one (.c (.int .i64 n))] [] (.one (.c (.int .i64 ((256 : Int) ^ n.toNat)))) [] := by
  refine AC_body1 Try.func147 rfl rfl Try.ntmps147 rfl Try.results147 ?_
  refine AW_seq ?_
  refine AW_region ?_
  refine AL_p (x_assign rfl rfl) ?_
  refine AL_nil ?_
  refine AW_seq ?_
  refine AW_region ?_
  refine AL_p (x_assign rfl rfl) ?_
  refine AL_nil ?_
  refine AW_seq ?_
  refine AW_seq ?_
  refine AW_region ?_
  refine AL_p (x_assign rfl rfl) ?_
  refine AL_nil ?_
  refine AW_block ?_
  refine AW_loop2 (ι := {q : Nat // (q : Int) ≤ n}) (fun p => [(3, .one (.c (.int .i64 ((256 : Int) ^ (p.1))))), (4, .one (.c (.int .i64 ((p.1) : Int))))]) (fun p => []) [0] [] (fun p => n.toNat - (p.1)) ⟨0, by omega⟩ (rn []) ?_ ?_
  exact ⟨by (repeat refine ⟨⟨_, rfl, by first | exact VLe.rf | exact vle_int (by dsimp only; omega)⟩, ?_⟩); exact trivial, by (repeat refine ⟨⟨_, rfl, by first | exact BLe.rf | exact BLe.box AllC.rf | exact BLe.arr (by exact rfl)⟩, ?_⟩); exact trivial, by repeat (first | exact trivial | refine ⟨⟨rfl, by first | (left; intro h; cases h) | (right; rfl), by first | exact (fun _ h => ⟨_, h⟩) | exact (fun _ _ => ⟨_, rfl⟩)⟩, ?_⟩), rfl⟩
  rintro ⟨k, hinv⟩
  dsimp only
  have hp := pow256_bound (k := k) (by omega)
  have hs := Int.pow_succ (256 : Int) k
  refine AW_seq ?_
  refine AW_seq ?_
  refine AW_region ?_
  refine AL_p (x_move rfl rfl) ?_
  refine AL_p (x_move rfl rfl) ?_
  refine AL_b (x_lss rfl rfl rfl) (fun b7 h7 => ?_)
  refine AL_nil ?_
  cases b7
  · try simp only [tdy] at h7
    refine AW_condF rfl ?_
    refine AW_exit (BQ_hit ?_)
    refine AW_seq ?_
    refine AW_region ?_
    refine AL_p (x_move rfl rfl) ?_
    refine AL_p (x_assign rfl rfl) ?_
    refine AL_nil ?_
    refine AW_ret ?_
    exact ⟨rn [], ⟨⟨⟨_, rfl, vle_int (by rw [show n.toNat = k by omega])⟩, trivial⟩, trivial, trivial, rfl⟩⟩
  try simp only [tdy] at h7
  refine AW_condT rfl ?_
  refine AW_skip ?_
  refine AW_seq ?_
  refine AW_block ?_
  refine AW_region ?_
  refine AL_p (x_move rfl rfl) ?_
  refine AL_p (x_mul rfl rfl rfl (IntWalk.i64_in _ (by omega))) ?_
  refine AL_p (x_assign rfl rfl) ?_
  refine AL_nil ?_
  refine AW_region ?_
  refine AL_p (x_move rfl rfl) ?_
  refine AL_p (x_add rfl rfl rfl (IntWalk.i64_in _ (by omega))) ?_
  refine AL_p (x_assign rfl rfl) ?_
  refine AL_nil ?_
  refine ⟨⟨k + 1, by omega⟩, rn [], ?_, by dsimp only; omega⟩
  exact ⟨by (repeat refine ⟨⟨_, rfl, by first | exact VLe.rf | exact vle_int (by dsimp only; omega)⟩, ?_⟩); exact trivial, by (repeat refine ⟨⟨_, rfl, by first | exact BLe.rf | exact BLe.box AllC.rf | exact BLe.arr (by exact rfl)⟩, ?_⟩); exact trivial, by repeat (first | exact trivial | refine ⟨⟨rfl, by first | (left; intro h; cases h) | (right; rfl), by first | exact (fun _ h => ⟨_, h⟩) | exact (fun _ _ => ⟨_, rfl⟩)⟩, ?_⟩), rfl⟩

set_option maxHeartbeats 4000000 in
theorem numOk_c (n size : Int) : AC Try.prog 129 [.one (.c (.int .i64 n)), .one (.c (.int .i64 size))] [] (.one (.c (.bool (numOkB n size)))) [] := by
  refine AC_body1 Try.func129 rfl rfl Try.ntmps129 rfl Try.results129 ?_
  refine AW_seq ?_
  refine AW_region ?_
  refine AL_p (x_assign rfl rfl) ?_
  refine AL_nil ?_
  refine AW_seq ?_
  refine AW_region ?_
  refine AL_p (x_move rfl rfl) ?_
  refine AL_b (x_geq rfl rfl rfl) (fun b6 h6 => ?_)
  refine AL_p (x_move rfl rfl) ?_
  cases b6
  · try simp only [tdy] at h6
    refine AL_o rfl rfl rfl rfl ?_
    refine AL_o rfl rfl rfl rfl ?_
    refine AL_p (x_pickF rfl rfl rfl) ?_
    refine AL_p (x_move rfl rfl) ?_
    refine AL_o rfl rfl rfl rfl ?_
    refine AL_o rfl rfl rfl rfl ?_
    refine AL_p (x_pickF rfl rfl rfl) ?_
    refine AL_p (x_move rfl rfl) ?_
    refine AL_o rfl rfl rfl rfl ?_
    refine AL_o rfl rfl rfl rfl ?_
    refine AL_o rfl rfl rfl rfl ?_
    refine AL_o rfl rfl rfl rfl ?_
    refine AL_p (x_pickF rfl rfl rfl) ?_
    refine AL_p (x_assign rfl rfl) ?_
    refine AL_nil ?_
    refine AW_ret ?_
    exact ⟨rn [], ⟨⟨⟨_, rfl, vle_bool (by (symm; unfold numOkB; first | (rw [decide_eq_true_eq]; omega) | (rw [decide_eq_false_iff_not]; omega)))⟩, trivial⟩, trivial, trivial, rfl⟩⟩
  try simp only [tdy] at h6
  refine AL_g rfl rfl (x_move rfl rfl) ?_
  refine AL_gb rfl rfl (x_leq rfl rfl rfl) (fun b9 h9 => ?_)
  refine AL_p (x_pickT rfl rfl rfl) ?_
  refine AL_p (x_move rfl rfl) ?_
  cases b9
  · try simp only [tdy] at h9
    refine AL_o rfl rfl rfl rfl ?_
    refine AL_o rfl rfl rfl rfl ?_
    refine AL_p (x_pickF rfl rfl rfl) ?_
    refine AL_p (x_move rfl rfl) ?_
    refine AL_o rfl rfl rfl rfl ?_
    refine AL_o rfl rfl rfl rfl ?_
    refine AL_o rfl rfl rfl rfl ?_
    refine AL_o rfl rfl rfl rfl ?_
    refine AL_p (x_pickF rfl rfl rfl) ?_
    refine AL_p (x_assign rfl rfl) ?_
    refine AL_nil ?_
    refine AW_ret ?_
    exact ⟨rn [], ⟨⟨⟨_, rfl, vle_bool (by (symm; unfold numOkB; first | (rw [decide_eq_true_eq]; omega) | (rw [decide_eq_false_iff_not]; omega)))⟩, trivial⟩, trivial, trivial, rfl⟩⟩
  try simp only [tdy] at h9
  refine AL_g rfl rfl (x_move rfl rfl) ?_
  refine AL_gb rfl rfl (x_geq rfl rfl rfl) (fun b13 h13 => ?_)
  refine AL_p (x_pickT rfl rfl rfl) ?_
  refine AL_p (x_move rfl rfl) ?_
  cases b13
  · try simp only [tdy] at h13
    refine AL_o rfl rfl rfl rfl ?_
    refine AL_o rfl rfl rfl rfl ?_
    refine AL_o rfl rfl rfl rfl ?_
    refine AL_o rfl rfl rfl rfl ?_
    refine AL_p (x_pickF rfl rfl rfl) ?_
    refine AL_p (x_assign rfl rfl) ?_
    refine AL_nil ?_
    refine AW_ret ?_
    exact ⟨rn [], ⟨⟨⟨_, rfl, vle_bool (by (symm; unfold numOkB; first | (rw [decide_eq_true_eq]; omega) | (rw [decide_eq_false_iff_not]; omega)))⟩, trivial⟩, trivial, trivial, rfl⟩⟩
  try simp only [tdy] at h13
  refine AL_g rfl rfl (x_move rfl rfl) ?_
  refine AL_g rfl rfl (x_move rfl rfl) ?_
  refine AL_g rfl rfl (x_call0 rfl rfl rfl (powS_c _ (by omega) (by omega)) rfl rfl) ?_
  refine AL_gb rfl rfl (x_lss rfl rfl rfl) (fun b19 h19 => ?_)
  refine AL_p (x_pickT rfl rfl rfl) ?_
  refine AL_p (x_assign rfl rfl) ?_
  refine AL_nil ?_
  refine AW_ret ?_
  cases b19
  rotate_left
  · try simp only [tdy] at h19
    exact ⟨rn [], ⟨⟨⟨_, rfl, vle_bool (by (symm; unfold numOkB; first | (rw [decide_eq_true_eq]; omega) | (rw [decide_eq_false_iff_not]; omega)))⟩, trivial⟩, trivial, trivial, rfl⟩⟩
  try simp only [tdy] at h19
  exact ⟨rn [], ⟨⟨⟨_, rfl, vle_bool (by (symm; unfold numOkB; first | (rw [decide_eq_true_eq]; omega) | (rw [decide_eq_false_iff_not]; omega)))⟩, trivial⟩, trivial, trivial, rfl⟩⟩

set_option maxHeartbeats 4000000 in
theorem fitsS_c (f v : Int) : AC Try.prog 124 [.one (.c (.int .i64 f)), .one (.c (.int .i64 v))] [] (.one (.c (.bool (fitsB f v)))) [] := by
  refine AC_body1 Try.func124 rfl rfl Try.ntmps124 rfl Try.results124 ?_
  refine AW_seq ?_
  refine AW_region ?_
  refine AL_p (x_assign rfl rfl) ?_
  refine AL_nil ?_
  refine AW_seq ?_
  refine AW_region ?_
  refine AL_p (x_move rfl rfl) ?_
  refine AL_b (x_geq rfl rfl rfl) (fun b6 h6 => ?_)
  refine AL_p (x_move rfl rfl) ?_
  cases b6
  · try simp only [tdy] at h6
    refine AL_o rfl rfl rfl rfl ?_
    refine AL_o rfl rfl rfl rfl ?_
    refine AL_p (x_pickF rfl rfl rfl) ?_
    refine AL_p (x_move rfl rfl) ?_
    refine AL_o rfl rfl rfl rfl ?_
    refine AL_o rfl rfl rfl rfl ?_
    refine AL_o rfl rfl rfl rfl ?_
    refine AL_o rfl rfl rfl rfl ?_
    refine AL_o rfl rfl rfl rfl ?_
    refine AL_p (x_pickF rfl rfl rfl) ?_
    refine AL_p (x_assign rfl rfl) ?_
    refine AL_nil ?_
    refine AW_ret ?_
    exact ⟨rn [], ⟨⟨⟨_, rfl, vle_bool (by first | (symm; exact fitsB_out (by omega)) | (rw [← fitsB_num (by omega) (by omega)]; first | rfl | assumption | (symm; assumption)))⟩, trivial⟩, trivial, trivial, rfl⟩⟩
  try simp only [tdy] at h6
  refine AL_g rfl rfl (x_move rfl rfl) ?_
  refine AL_gb rfl rfl (x_lss rfl rfl rfl) (fun b9 h9 => ?_)
  refine AL_p (x_pickT rfl rfl rfl) ?_
  refine AL_p (x_move rfl rfl) ?_
  cases b9
  · try simp only [tdy] at h9
    refine AL_o rfl rfl rfl rfl ?_
    refine AL_o rfl rfl rfl rfl ?_
    refine AL_o rfl rfl rfl rfl ?_
    refine AL_o rfl rfl rfl rfl ?_
    refine AL_o rfl rfl rfl rfl ?_
    refine AL_p (x_pickF rfl rfl rfl) ?_
    refine AL_p (x_assign rfl rfl) ?_
    refine AL_nil ?_
    refine AW_ret ?_
    exact ⟨rn [], ⟨⟨⟨_, rfl, vle_bool (by first | (symm; exact fitsB_out (by omega)) | (rw [← fitsB_num (by omega) (by omega)]; first | rfl | assumption | (symm; assumption)))⟩, trivial⟩, trivial, trivial, rfl⟩⟩
  try simp only [tdy] at h9
  refine AL_g rfl rfl (x_move rfl rfl) ?_
  refine AL_g rfl rfl (x_move rfl rfl) ?_
  refine AL_g rfl rfl (x_call0 rfl rfl rfl (fbS_c _) rfl rfl) ?_
  refine AL_g rfl rfl (x_quo rfl rfl rfl (by decide) (bitsOf_quo f)) ?_
  refine AL_gb rfl rfl (x_call0 rfl rfl rfl (numOk_c _ _) rfl rfl) (fun b16 h16 => ?_)
  refine AL_p (x_pickT rfl rfl rfl) ?_
  refine AL_p (x_assign rfl rfl) ?_
  refine AL_nil ?_
  refine AW_ret ?_
  cases b16
  rotate_left
  · try simp only [tdy] at h16
    exact ⟨rn [], ⟨⟨⟨_, rfl, vle_bool (by first | (symm; exact fitsB_out (by omega)) | (rw [← fitsB_num (by omega) (by omega)]; first | rfl | assumption | (symm; assumption)))⟩, trivial⟩, trivial, trivial, rfl⟩⟩
  try simp only [tdy] at h16
  exact ⟨rn [], ⟨⟨⟨_, rfl, vle_bool (by first | (symm; exact fitsB_out (by omega)) | (rw [← fitsB_num (by omega) (by omega)]; first | rfl | assumption | (symm; assumption)))⟩, trivial⟩, trivial, trivial, rfl⟩⟩

set_option maxHeartbeats 4000000 in
theorem eightI_c (l : List Int) : AC Try.prog 127 [.one (.sl (intE .i64) l)] [] (.one (.c (.bool (eight l)))) [] := by
  refine AC_body1 Try.func127 rfl rfl Try.ntmps127 rfl Try.results127 ?_
  refine AW_slmax 0 rfl (fun hm0 => ?_)
  refine AW_seq ?_
  refine AW_region ?_
  refine AL_p (x_assign rfl rfl) ?_
  refine AL_nil ?_
  refine AW_seq ?_
  refine AW_seq ?_
  refine AW_region ?_
  refine AL_p (x_move rfl rfl) ?_
  refine AL_p (x_len (E := 3) (n := 1) rfl rfl (by kernel_rfl)) ?_
  refine AL_p (x_move rfl rfl) ?_
  refine AL_nil ?_
  refine AW_block ?_
  refine AW_loop2 (ι := {q : Nat // q ≤ l.length ∧ AllAt (fun q (hk : q < l.length) => fitsB (q : Int) l[q]) q}) (fun p => [(7, .one (.c (.int .i64 ((p.1) : Int))))]) (fun p => []) [0, 5, 6] [] (fun p => l.length - (p.1)) ⟨0, ⟨by omega, .zero⟩⟩ (rn []) ?_ ?_
  exact ⟨by (repeat refine ⟨⟨_, rfl, by first | exact VLe.rf | exact vle_int (by dsimp only; omega)⟩, ?_⟩); exact trivial, by (repeat refine ⟨⟨_, rfl, by first | exact BLe.rf | exact BLe.box AllC.rf | exact BLe.arr (by exact rfl)⟩, ?_⟩); exact trivial, by repeat (first | exact trivial | refine ⟨⟨rfl, by first | (left; intro h; cases h) | (right; rfl), by first | exact (fun _ h => ⟨_, h⟩) | exact (fun _ _ => ⟨_, rfl⟩)⟩, ?_⟩), rfl⟩
  rintro ⟨k, hinv⟩
  dsimp only
  have hk := hinv.1
  have hA := hinv.2
  refine AW_seq ?_
  refine AW_region ?_
  refine AL_b (x_lss rfl rfl rfl) (fun b8 h8 => ?_)
  refine AL_nil ?_
  refine AW_seq ?_
  cases b8
  · try simp only [tdy] at h8
    refine AW_condF rfl ?_
    refine AW_exit (BQ_hit ?_)
    refine AW_seq ?_
    refine AW_region ?_
    refine AL_p (x_move rfl rfl) ?_
    refine AL_p (x_len (E := 3) (n := 1) rfl rfl (by kernel_rfl)) ?_
    refine AL_b (x_eql rfl rfl rfl) (fun b19 h19 => ?_)
    refine AL_p (x_assign rfl rfl) ?_
    refine AL_nil ?_
    refine AW_ret ?_
    cases b19
    rotate_left
    · try simp only [tdy] at h19
      exact ⟨rn [], ⟨⟨⟨_, rfl, vle_bool (by first | exact (eight_len (by omega)).symm | exact (eight_bad (k := k) (by omega) h14).symm | exact (eight_good hA (by omega) (by omega)).symm)⟩, trivial⟩, trivial, trivial, rfl⟩⟩
    try simp only [tdy] at h19
    exact ⟨rn [], ⟨⟨⟨_, rfl, vle_bool (by first | exact (eight_len (by omega)).symm | exact (eight_bad (k := k) (by omega) h14).symm | exact (eight_good hA (by omega) (by omega)).symm)⟩, trivial⟩, trivial, trivial, rfl⟩⟩
  try simp only [tdy] at h8
  refine AW_condT rfl ?_
  refine AW_skip ?_
  refine AW_seq ?_
  refine AW_block ?_
  refine AW_seq ?_
  refine AW_region ?_
  refine AL_p (x_move rfl rfl) ?_
  refine AL_p (x_index (E := 3) (n := 1) rfl rfl rfl (by kernel_rfl) rfl (k := k) (by omega) (by omega)) ?_
  refine AL_p (x_eload1 rfl rfl (by kernel_rfl) rfl) ?_
  refine AL_p (x_assign rfl rfl) ?_
  refine AL_p (x_assign rfl rfl) ?_
  refine AL_nil ?_
  refine AW_seq ?_
  refine AW_region ?_
  refine AL_p (x_move rfl rfl) ?_
  refine AL_p (x_move rfl rfl) ?_
  refine AL_b (x_call0 rfl rfl rfl (fitsI_c _ _) rfl rfl) (fun b14 h14 => ?_)
  refine AL_p (x_not rfl rfl) ?_
  refine AL_nil ?_
  cases b14
  · try simp only [tdy] at h14
    refine AW_condT rfl ?_
    refine AW_seq ?_
    refine AW_region ?_
    refine AL_p (x_assign rfl rfl) ?_
    refine AL_nil ?_
    refine AW_ret (BQ_ret (BQ_ret ?_))
    exact ⟨rn [], ⟨⟨⟨_, rfl, vle_bool (by first | exact (eight_len (by omega)).symm | exact (eight_bad (k := k) (by omega) h14).symm | exact (eight_good hA (by omega) (by omega)).symm)⟩, trivial⟩, trivial, trivial, rfl⟩⟩
  try simp only [tdy] at h14
  refine AW_condF rfl ?_
  refine AW_skip ?_
  refine AW_region ?_
  refine AL_p (x_add rfl rfl rfl (IntWalk.i64_in _ (by omega))) ?_
  refine AL_p (x_move rfl rfl) ?_
  refine AL_nil ?_
  refine ⟨⟨k + 1, ⟨by omega, hA.succ (by omega) h14⟩⟩, rn [], ?_, by dsimp only; omega⟩
  exact ⟨by (repeat refine ⟨⟨_, rfl, by first | exact VLe.rf | exact vle_int (by dsimp only; omega)⟩, ?_⟩); exact trivial, by (repeat refine ⟨⟨_, rfl, by first | exact BLe.rf | exact BLe.box AllC.rf | exact BLe.arr (by exact rfl)⟩, ?_⟩); exact trivial, by repeat (first | exact trivial | refine ⟨⟨rfl, by first | (left; intro h; cases h) | (right; rfl), by first | exact (fun _ h => ⟨_, h⟩) | exact (fun _ _ => ⟨_, rfl⟩)⟩, ?_⟩), rfl⟩

set_option maxHeartbeats 4000000 in
theorem matchI_c (m : Matcht) : AC Try.prog 110 [.agg [.sl (intE .i64) m.v, .sl (intE .i64) m.m]] [] (.one (.c (.bool (matchB m)))) [] := by
  refine AC_body1 Try.func110 rfl rfl Try.ntmps110 rfl Try.results110 ?_
  refine AW_aggmax 0 0 rfl rfl (fun hm0_0 => ?_)
  refine AW_aggmax 0 1 rfl rfl (fun hm0_1 => ?_)
  refine AW_seq ?_
  refine AW_region ?_
  refine AL_p (x_box 100 rfl rfl rfl rfl rfl rfl rfl) ?_
  refine AL_p (x_assign rfl rfl) ?_
  refine AL_nil ?_
  refine AW_seq ?_
  refine AW_seq ?_
  refine AW_region ?_
  refine AL_p (x_field (off := 0) (o' := 0) rfl rfl rfl (by kernel_rfl) rfl) ?_
  refine AL_p (x_load1 rfl rfl rfl (by kernel_rfl) rfl) ?_
  refine AL_p (x_len (E := 3) (n := 1) rfl rfl (by kernel_rfl)) ?_
  refine AL_b (x_neq rfl rfl rfl) (fun b8 h8 => ?_)
  refine AL_p (x_move rfl rfl) ?_
  cases b8
  rotate_left
  · try simp only [tdy] at h8
    refine AL_o rfl rfl rfl rfl ?_
    refine AL_o rfl rfl rfl rfl ?_
    refine AL_o rfl rfl rfl rfl ?_
    refine AL_o rfl rfl rfl rfl ?_
    refine AL_p (x_pickT rfl rfl rfl) ?_
    refine AL_nil ?_
    refine AW_condT rfl ?_
    refine AW_seq ?_
    refine AW_region ?_
    refine AL_p (x_assign rfl rfl) ?_
    refine AL_nil ?_
    refine AW_ret ?_
    exact ⟨rn [], ⟨⟨⟨_, rfl, vle_bool (by first | exact (matchB_v (by omega)).symm | exact (matchB_m h12).symm | exact (matchB_bad (k := k) (by omega) (inside_neg (by omega) (by omega) h24)).symm | exact (matchB_bad (k := k) (by omega) (inside_bit (by omega) (by omega) h33)).symm | exact (matchB_good (by omega) h12 hA (by omega)).symm)⟩, trivial⟩, trivial, trivial, rfl⟩⟩
  try simp only [tdy] at h8
  refine AL_g rfl rfl (x_field (off := 1) (o' := 1) rfl rfl rfl (by kernel_rfl) rfl) ?_
  refine AL_g rfl rfl (x_load1 rfl rfl rfl (by kernel_rfl) rfl) ?_
  refine AL_gb rfl rfl (x_call0 rfl rfl rfl (eightI_c _) rfl rfl) (fun b12 h12 => ?_)
  refine AL_g rfl rfl (x_not rfl rfl) ?_
  refine AL_p (x_pickF rfl rfl rfl) ?_
  refine AL_nil ?_
  cases b12
  · try simp only [tdy] at h12
    refine AW_condT rfl ?_
    refine AW_seq ?_
    refine AW_region ?_
    refine AL_p (x_assign rfl rfl) ?_
    refine AL_nil ?_
    refine AW_ret ?_
    exact ⟨rn [], ⟨⟨⟨_, rfl, vle_bool (by first | exact (matchB_v (by omega)).symm | exact (matchB_m h12).symm | exact (matchB_bad (k := k) (by omega) (inside_neg (by omega) (by omega) h24)).symm | exact (matchB_bad (k := k) (by omega) (inside_bit (by omega) (by omega) h33)).symm | exact (matchB_good (by omega) h12 hA (by omega)).symm)⟩, trivial⟩, trivial, trivial, rfl⟩⟩
  try simp only [tdy] at h12
  have h8m := eight_8 h12
  refine AW_condF rfl ?_
  refine AW_skip ?_
  refine AW_seq ?_
  refine AW_seq ?_
  refine AW_region ?_
  refine AL_p (x_field (off := 0) (o' := 0) rfl rfl rfl (by kernel_rfl) rfl) ?_
  refine AL_p (x_load1 rfl rfl rfl (by kernel_rfl) rfl) ?_
  refine AL_p (x_len (E := 3) (n := 1) rfl rfl (by kernel_rfl)) ?_
  refine AL_p (x_move rfl rfl) ?_
  refine AL_nil ?_
  refine AW_block ?_
  refine AW_loop2 (ι := {q : Nat // q ≤ m.v.length ∧ AllAt (inside m.v m.m) q}) (fun p => [(18, .one (.c (.int .i64 ((p.1) : Int))))]) (fun p => []) [1, 16, 17] [100] (fun p => m.v.length - (p.1)) ⟨0, ⟨by omega, .zero⟩⟩ (rn []) ?_ ?_
  exact ⟨by (repeat refine ⟨⟨_, rfl, by first | exact VLe.rf | exact vle_int (by dsimp only; omega)⟩, ?_⟩); exact trivial, by (repeat refine ⟨⟨_, rfl, by first | exact BLe.rf | exact BLe.box AllC.rf | exact BLe.arr (by exact rfl)⟩, ?_⟩); exact trivial, by repeat (first | exact trivial | refine ⟨⟨rfl, by first | (left; intro h; cases h) | (right; rfl), by first | exact (fun _ h => ⟨_, h⟩) | exact (fun _ _ => ⟨_, rfl⟩)⟩, ?_⟩), rfl⟩
  rintro ⟨k, hinv⟩
  dsimp only
  have hk := hinv.1
  have hA := hinv.2
  refine AW_seq ?_
  refine AW_region ?_
  refine AL_b (x_lss rfl rfl rfl) (fun b19 h19 => ?_)
  refine AL_nil ?_
  refine AW_seq ?_
  cases b19
  · try simp only [tdy] at h19
    refine AW_condF rfl ?_
    refine AW_exit (BQ_hit ?_)
    refine AW_seq ?_
    refine AW_region ?_
    refine AL_p (x_assign rfl rfl) ?_
    refine AL_nil ?_
    refine AW_ret ?_
    exact ⟨rn [], ⟨⟨⟨_, rfl, vle_bool (by first | exact (matchB_v (by omega)).symm | exact (matchB_m h12).symm | exact (matchB_bad (k := k) (by omega) (inside_neg (by omega) (by omega) h24)).symm | exact (matchB_bad (k := k) (by omega) (inside_bit (by omega) (by omega) h33)).symm | exact (matchB_good (by omega) h12 hA (by omega)).symm)⟩, trivial⟩, trivial, trivial, rfl⟩⟩
  try simp only [tdy] at h19
  refine AW_condT rfl ?_
  refine AW_skip ?_
  refine AW_seq ?_
  refine AW_block ?_
  refine AW_seq ?_
  refine AW_region ?_
  refine AL_p (x_move rfl rfl) ?_
  refine AL_p (x_index (E := 3) (n := 1) rfl rfl rfl (by kernel_rfl) rfl (k := k) (by omega) (by omega)) ?_
  refine AL_p (x_eload1 rfl rfl (by kernel_rfl) rfl) ?_
  refine AL_p (x_assign rfl rfl) ?_
  refine AL_p (x_assign rfl rfl) ?_
  refine AL_nil ?_
  refine AW_seq ?_
  refine AW_region ?_
  refine AL_p (x_move rfl rfl) ?_
  refine AL_b (x_lss rfl rfl rfl) (fun b24 h24 => ?_)
  refine AL_p (x_move rfl rfl) ?_
  cases b24
  rotate_left
  · try simp only [tdy] at h24
    refine AL_o rfl rfl rfl rfl ?_
    refine AL_o rfl rfl rfl rfl ?_
    refine AL_o rfl rfl rfl rfl ?_
    refine AL_o rfl rfl rfl rfl ?_
    refine AL_o rfl rfl rfl rfl ?_
    refine AL_o rfl rfl rfl rfl ?_
    refine AL_o rfl rfl rfl rfl ?_
    refine AL_o rfl rfl rfl rfl ?_
    refine AL_p (x_pickT rfl rfl rfl) ?_
    refine AL_nil ?_
    refine AW_condT rfl ?_
    refine AW_seq ?_
    refine AW_region ?_
    refine AL_p (x_assign rfl rfl) ?_
    refine AL_nil ?_
    refine AW_ret (BQ_ret (BQ_ret ?_))
    exact ⟨rn [], ⟨⟨⟨_, rfl, vle_bool (by first | exact (matchB_v (by omega)).symm | exact (matchB_m h12).symm | exact (matchB_bad (k := k) (by omega) (inside_neg (by omega) (by omega) h24)).symm | exact (matchB_bad (k := k) (by omega) (inside_bit (by omega) (by omega) h33)).symm | exact (matchB_good (by omega) h12 hA (by omega)).symm)⟩, trivial⟩, trivial, trivial, rfl⟩⟩
  try simp only [tdy] at h24
  refine AL_g rfl rfl (x_move rfl rfl) ?_
  refine AL_g rfl rfl (x_field (off := 1) (o' := 1) rfl rfl rfl (by kernel_rfl) rfl) ?_
  refine AL_g rfl rfl (x_load1 rfl rfl rfl (by kernel_rfl) rfl) ?_
  refine AL_g rfl rfl (x_move rfl rfl) ?_
  refine AL_g rfl rfl (x_index (E := 3) (n := 1) rfl rfl rfl (by kernel_rfl) rfl (k := k) (by omega) (by omega)) ?_
  refine AL_g rfl rfl (x_eload1 rfl rfl (by kernel_rfl) rfl) ?_
  refine AL_g rfl rfl (x_andNot rfl rfl rfl ) ?_
  refine AL_gb rfl rfl (x_neq rfl rfl rfl) (fun b33 h33 => ?_)
  refine AL_p (x_pickF rfl rfl rfl) ?_
  refine AL_nil ?_
  cases b33
  rotate_left
  · try simp only [tdy] at h33
    refine AW_condT rfl ?_
    refine AW_seq ?_
    refine AW_region ?_
    refine AL_p (x_assign rfl rfl) ?_
    refine AL_nil ?_
    refine AW_ret (BQ_ret (BQ_ret ?_))
    exact ⟨rn [], ⟨⟨⟨_, rfl, vle_bool (by first | exact (matchB_v (by omega)).symm | exact (matchB_m h12).symm | exact (matchB_bad (k := k) (by omega) (inside_neg (by omega) (by omega) h24)).symm | exact (matchB_bad (k := k) (by omega) (inside_bit (by omega) (by omega) h33)).symm | exact (matchB_good (by omega) h12 hA (by omega)).symm)⟩, trivial⟩, trivial, trivial, rfl⟩⟩
  try simp only [tdy] at h33
  refine AW_condF rfl ?_
  refine AW_skip ?_
  refine AW_region ?_
  refine AL_p (x_add rfl rfl rfl (IntWalk.i64_in _ (by omega))) ?_
  refine AL_p (x_move rfl rfl) ?_
  refine AL_nil ?_
  refine ⟨⟨k + 1, ⟨by omega, hA.succ (by omega) (inside_yes (by omega) (by omega) h24 h33)⟩⟩, rn [], ?_, by dsimp only; omega⟩
  exact ⟨by (repeat refine ⟨⟨_, rfl, by first | exact VLe.rf | exact vle_int (by dsimp only; omega)⟩, ?_⟩); exact trivial, by (repeat refine ⟨⟨_, rfl, by first | exact BLe.rf | exact BLe.box AllC.rf | exact BLe.arr (by exact rfl)⟩, ?_⟩); exact trivial, by repeat (first | exact trivial | refine ⟨⟨rfl, by first | (left; intro h; cases h) | (right; rfl), by first | exact (fun _ h => ⟨_, h⟩) | exact (fun _ _ => ⟨_, rfl⟩)⟩, ?_⟩), rfl⟩

set_option maxHeartbeats 4000000 in
theorem matchS_c (m : Matcht) : AC Try.prog 106 [.agg [.sl (intE .i64) m.v, .sl (intE .i64) m.m]] [] (.one (.c (.bool (matchB m)))) [] := by
  refine AC_body1 Try.func106 rfl rfl Try.ntmps106 rfl Try.results106 ?_
  refine AW_aggmax 0 0 rfl rfl (fun hm0_0 => ?_)
  refine AW_aggmax 0 1 rfl rfl (fun hm0_1 => ?_)
  refine AW_seq ?_
  refine AW_region ?_
  refine AL_p (x_box 100 rfl rfl rfl rfl rfl rfl rfl) ?_
  refine AL_p (x_assign rfl rfl) ?_
  refine AL_nil ?_
  refine AW_seq ?_
  refine AW_seq ?_
  refine AW_region ?_
  refine AL_p (x_field (off := 0) (o' := 0) rfl rfl rfl (by kernel_rfl) rfl) ?_
  refine AL_p (x_load1 rfl rfl rfl (by kernel_rfl) rfl) ?_
  refine AL_p (x_len (E := 3) (n := 1) rfl rfl (by kernel_rfl)) ?_
  refine AL_b (x_neq rfl rfl rfl) (fun b7 h7 => ?_)
  refine AL_p (x_move rfl rfl) ?_
  cases b7
  rotate_left
  · try simp only [tdy] at h7
    refine AL_o rfl rfl rfl rfl ?_
    refine AL_o rfl rfl rfl rfl ?_
    refine AL_o rfl rfl rfl rfl ?_
    refine AL_o rfl rfl rfl rfl ?_
    refine AL_p (x_pickT rfl rfl rfl) ?_
    refine AL_nil ?_
    refine AW_condT rfl ?_
    refine AW_seq ?_
    refine AW_region ?_
    refine AL_p (x_assign rfl rfl) ?_
    refine AL_nil ?_
    refine AW_ret ?_
    exact ⟨rn [], ⟨⟨⟨_, rfl, vle_bool (by first | exact (matchB_v (by omega)).symm | exact (matchB_m (eight_len (by omega))).symm | exact (matchB_m (eight_bad (k := k) (by omega) h24)).symm | exact (matchB_bad (k := k) (by omega) (inside_neg (by omega) (by omega) h32)).symm | exact (matchB_bad (k := k) (by omega) (inside_bit (by omega) (by omega) (fun q => h51 ((bits_in (by have := fitsB_le h24; omega) (by have := fitsB_le h24; have := topOf_bound (k : Int); omega)).2 q)))).symm | exact (matchB_good (by omega) (eight_good hB (by omega) (by omega)) hA (by omega)).symm)⟩, trivial⟩, trivial, trivial, rfl⟩⟩
  try simp only [tdy] at h7
  refine AL_g rfl rfl (x_field (off := 1) (o' := 1) rfl rfl rfl (by kernel_rfl) rfl) ?_
  refine AL_g rfl rfl (x_load1 rfl rfl rfl (by kernel_rfl) rfl) ?_
  refine AL_g rfl rfl (x_len (E := 3) (n := 1) rfl rfl (by kernel_rfl)) ?_
  refine AL_gb rfl rfl (x_neq rfl rfl rfl) (fun b12 h12 => ?_)
  refine AL_p (x_pickF rfl rfl rfl) ?_
  refine AL_nil ?_
  cases b12
  rotate_left
  · try simp only [tdy] at h12
    refine AW_condT rfl ?_
    refine AW_seq ?_
    refine AW_region ?_
    refine AL_p (x_assign rfl rfl) ?_
    refine AL_nil ?_
    refine AW_ret ?_
    exact ⟨rn [], ⟨⟨⟨_, rfl, vle_bool (by first | exact (matchB_v (by omega)).symm | exact (matchB_m (eight_len (by omega))).symm | exact (matchB_m (eight_bad (k := k) (by omega) h24)).symm | exact (matchB_bad (k := k) (by omega) (inside_neg (by omega) (by omega) h32)).symm | exact (matchB_bad (k := k) (by omega) (inside_bit (by omega) (by omega) (fun q => h51 ((bits_in (by have := fitsB_le h24; omega) (by have := fitsB_le h24; have := topOf_bound (k : Int); omega)).2 q)))).symm | exact (matchB_good (by omega) (eight_good hB (by omega) (by omega)) hA (by omega)).symm)⟩, trivial⟩, trivial, trivial, rfl⟩⟩
  try simp only [tdy] at h12
  refine AW_condF rfl ?_
  refine AW_skip ?_
  refine AW_seq ?_
  refine AW_seq ?_
  refine AW_region ?_
  refine AL_p (x_assign rfl rfl) ?_
  refine AL_nil ?_
  refine AW_block ?_
  refine AW_loop2 (ι := {q : Nat // (q ≤ 8 ∧ AllAt (inside m.v m.m) q) ∧ AllAt (fun q (hk : q < m.m.length) => fitsB (q : Int) m.m[q]) q}) (fun p => [(3, .one (.c (.int .i64 ((p.1) : Int))))]) (fun p => []) [1] [100] (fun p => 8 - (p.1)) ⟨0, ⟨⟨by omega, .zero⟩, .zero⟩⟩ (rn []) ?_ ?_
  exact ⟨by (repeat refine ⟨⟨_, rfl, by first | exact VLe.rf | exact vle_int (by dsimp only; omega)⟩, ?_⟩); exact trivial, by (repeat refine ⟨⟨_, rfl, by first | exact BLe.rf | exact BLe.box AllC.rf | exact BLe.arr (by exact rfl)⟩, ?_⟩); exact trivial, by repeat (first | exact trivial | refine ⟨⟨rfl, by first | (left; intro h; cases h) | (right; rfl), by first | exact (fun _ h => ⟨_, h⟩) | exact (fun _ _ => ⟨_, rfl⟩)⟩, ?_⟩), rfl⟩
  rintro ⟨k, hinv⟩
  dsimp only
  have hk := hinv.1.1
  have hA := hinv.1.2
  have hB := hinv.2
  refine AW_seq ?_
  refine AW_seq ?_
  refine AW_region ?_
  refine AL_p (x_move rfl rfl) ?_
  refine AL_b (x_lss rfl rfl rfl) (fun b15 h15 => ?_)
  refine AL_nil ?_
  cases b15
  · try simp only [tdy] at h15
    refine AW_condF rfl ?_
    refine AW_exit (BQ_hit ?_)
    refine AW_seq ?_
    refine AW_region ?_
    refine AL_p (x_assign rfl rfl) ?_
    refine AL_nil ?_
    refine AW_ret ?_
    exact ⟨rn [], ⟨⟨⟨_, rfl, vle_bool (by first | exact (matchB_v (by omega)).symm | exact (matchB_m (eight_len (by omega))).symm | exact (matchB_m (eight_bad (k := k) (by omega) h24)).symm | exact (matchB_bad (k := k) (by omega) (inside_neg (by omega) (by omega) h32)).symm | exact (matchB_bad (k := k) (by omega) (inside_bit (by omega) (by omega) (fun q => h51 ((bits_in (by have := fitsB_le h24; omega) (by have := fitsB_le h24; have := topOf_bound (k : Int); omega)).2 q)))).symm | exact (matchB_good (by omega) (eight_good hB (by omega) (by omega)) hA (by omega)).symm)⟩, trivial⟩, trivial, trivial, rfl⟩⟩
  try simp only [tdy] at h15
  refine AW_condT rfl ?_
  refine AW_skip ?_
  refine AW_seq ?_
  refine AW_block ?_
  refine AW_seq ?_
  refine AW_draw rfl ?_
  refine AL_p (x_move rfl rfl) ?_
  refine AL_p (x_field (off := 1) (o' := 1) rfl rfl rfl (by kernel_rfl) rfl) ?_
  refine AL_p (x_load1 rfl rfl rfl (by kernel_rfl) rfl) ?_
  refine AL_p (x_move rfl rfl) ?_
  refine AL_p (x_index (E := 3) (n := 1) rfl rfl rfl (by kernel_rfl) rfl (k := k) (by omega) (by omega)) ?_
  refine AL_p (x_eload1 rfl rfl (by kernel_rfl) rfl) ?_
  refine AL_b (x_call0 rfl rfl rfl (fitsS_c _ _) rfl rfl) (fun b24 h24 => ?_)
  refine AL_p (x_not rfl rfl) ?_
  refine AL_p (x_move rfl rfl) ?_
  cases b24
  · try simp only [tdy] at h24
    refine AL_o rfl rfl rfl rfl ?_
    refine AL_o rfl rfl rfl rfl ?_
    refine AL_o rfl rfl rfl rfl ?_
    refine AL_o rfl rfl rfl rfl ?_
    refine AL_o rfl rfl rfl rfl ?_
    refine AL_o rfl rfl rfl rfl ?_
    refine AL_p (x_pickT rfl rfl rfl) ?_
    refine AL_p (x_move rfl rfl) ?_
    refine AL_o rfl rfl rfl rfl ?_
    refine AL_o rfl rfl rfl rfl ?_
    refine AL_o rfl rfl rfl rfl ?_
    refine AL_o rfl rfl rfl rfl ?_
    refine AL_o rfl rfl rfl rfl ?_
    refine AL_o rfl rfl rfl rfl ?_
    refine AL_o rfl rfl rfl rfl ?_
    refine AL_o rfl rfl rfl rfl ?_
    refine AL_o rfl rfl rfl rfl ?_
    refine AL_o rfl rfl rfl rfl ?_
    refine AL_o rfl rfl rfl rfl ?_
    refine AL_o rfl rfl rfl rfl ?_
    refine AL_o rfl rfl rfl rfl ?_
    refine AL_o rfl rfl rfl rfl ?_
    refine AL_o rfl rfl rfl rfl ?_
    refine AL_o rfl rfl rfl rfl ?_
    refine AL_o rfl rfl rfl rfl ?_
    refine AL_p (x_pickT rfl rfl rfl) ?_
    refine AL_nild (by kernel_rfl) ?_
    refine AW_condT rfl ?_
    refine AW_seq ?_
    refine AW_region ?_
    refine AL_p (x_assign rfl rfl) ?_
    refine AL_nil ?_
    refine AW_ret (BQ_ret (BQ_ret ?_))
    exact ⟨rn [], ⟨⟨⟨_, rfl, vle_bool (by first | exact (matchB_v (by omega)).symm | exact (matchB_m (eight_len (by omega))).symm | exact (matchB_m (eight_bad (k := k) (by omega) h24)).symm | exact (matchB_bad (k := k) (by omega) (inside_neg (by omega) (by omega) h32)).symm | exact (matchB_bad (k := k) (by omega) (inside_bit (by omega) (by omega) (fun q => h51 ((bits_in (by have := fitsB_le h24; omega) (by have := fitsB_le h24; have := topOf_bound (k : Int); omega)).2 q)))).symm | exact (matchB_good (by omega) (eight_good hB (by omega) (by omega)) hA (by omega)).symm)⟩, trivial⟩, trivial, trivial, rfl⟩⟩
  try simp only [tdy] at h24
  refine AL_g rfl rfl (x_field (off := 0) (o' := 0) rfl rfl rfl (by kernel_rfl) rfl) ?_
  refine AL_g rfl rfl (x_load1 rfl rfl rfl (by kernel_rfl) rfl) ?_
  refine AL_g rfl rfl (x_move rfl rfl) ?_
  refine AL_g rfl rfl (x_index (E := 3) (n := 1) rfl rfl rfl (by kernel_rfl) rfl (k := k) (by omega) (by omega)) ?_
  refine AL_g rfl rfl (x_eload1 rfl rfl (by kernel_rfl) rfl) ?_
  refine AL_gb rfl rfl (x_lss rfl rfl rfl) (fun b32 h32 => ?_)
  refine AL_p (x_pickF rfl rfl rfl) ?_
  refine AL_p (x_move rfl rfl) ?_
  cases b32
  rotate_left
  · try simp only [tdy] at h32
    refine AL_o rfl rfl rfl rfl ?_
    refine AL_o rfl rfl rfl rfl ?_
    refine AL_o rfl rfl rfl rfl ?_
    refine AL_o rfl rfl rfl rfl ?_
    refine AL_o rfl rfl rfl rfl ?_
    refine AL_o rfl rfl rfl rfl ?_
    refine AL_o rfl rfl rfl rfl ?_
    refine AL_o rfl rfl rfl rfl ?_
    refine AL_o rfl rfl rfl rfl ?_
    refine AL_o rfl rfl rfl rfl ?_
    refine AL_o rfl rfl rfl rfl ?_
    refine AL_o rfl rfl rfl rfl ?_
    refine AL_o rfl rfl rfl rfl ?_
    refine AL_o rfl rfl rfl rfl ?_
    refine AL_o rfl rfl rfl rfl ?_
    refine AL_o rfl rfl rfl rfl ?_
    refine AL_o rfl rfl rfl rfl ?_
    refine AL_p (x_pickT rfl rfl rfl) ?_
    refine AL_nild (by kernel_rfl) ?_
    refine AW_condT rfl ?_
    refine AW_seq ?_
    refine AW_region ?_
    refine AL_p (x_assign rfl rfl) ?_
    refine AL_nil ?_
    refine AW_ret (BQ_ret (BQ_ret ?_))
    exact ⟨rn [], ⟨⟨⟨_, rfl, vle_bool (by first | exact (matchB_v (by omega)).symm | exact (matchB_m (eight_len (by omega))).symm | exact (matchB_m (eight_bad (k := k) (by omega) h24)).symm | exact (matchB_bad (k := k) (by omega) (inside_neg (by omega) (by omega) h32)).symm | exact (matchB_bad (k := k) (by omega) (inside_bit (by omega) (by omega) (fun q => h51 ((bits_in (by have := fitsB_le h24; omega) (by have := fitsB_le h24; have := topOf_bound (k : Int); omega)).2 q)))).symm | exact (matchB_good (by omega) (eight_good hB (by omega) (by omega)) hA (by omega)).symm)⟩, trivial⟩, trivial, trivial, rfl⟩⟩
  try simp only [tdy] at h32
  refine AL_g rfl rfl (x_field (off := 0) (o' := 0) rfl rfl rfl (by kernel_rfl) rfl) ?_
  refine AL_g rfl rfl (x_load1 rfl rfl rfl (by kernel_rfl) rfl) ?_
  refine AL_g rfl rfl (x_move rfl rfl) ?_
  refine AL_g rfl rfl (x_index (E := 3) (n := 1) rfl rfl rfl (by kernel_rfl) rfl (k := k) (by omega) (by omega)) ?_
  refine AL_g rfl rfl (x_eload1 rfl rfl (by kernel_rfl) rfl) ?_
  refine AL_g rfl rfl (x_field (off := 1) (o' := 1) rfl rfl rfl (by kernel_rfl) rfl) ?_
  refine AL_g rfl rfl (x_load1 rfl rfl rfl (by kernel_rfl) rfl) ?_
  refine AL_g rfl rfl (x_move rfl rfl) ?_
  refine AL_g rfl rfl (x_index (E := 3) (n := 1) rfl rfl rfl (by kernel_rfl) rfl (k := k) (by omega) (by omega)) ?_
  refine AL_g rfl rfl (x_eload1 rfl rfl (by kernel_rfl) rfl) ?_
  refine AL_g rfl rfl (x_or rfl rfl rfl ) ?_
  refine AL_g rfl rfl (x_field (off := 1) (o' := 1) rfl rfl rfl (by kernel_rfl) rfl) ?_
  refine AL_g rfl rfl (x_load1 rfl rfl rfl (by kernel_rfl) rfl) ?_
  refine AL_g rfl rfl (x_move rfl rfl) ?_
  refine AL_g rfl rfl (x_index (E := 3) (n := 1) rfl rfl rfl (by kernel_rfl) rfl (k := k) (by omega) (by omega)) ?_
  refine AL_g rfl rfl (x_eload1 rfl rfl (by kernel_rfl) rfl) ?_
  refine AL_gb rfl rfl (x_neq rfl rfl rfl) (fun b51 h51 => ?_)
  refine AL_p (x_pickF rfl rfl rfl) ?_
  refine AL_nild (by kernel_rfl) ?_
  cases b51
  rotate_left
  · try simp only [tdy] at h51
    refine AW_condT rfl ?_
    refine AW_seq ?_
    refine AW_region ?_
    refine AL_p (x_assign rfl rfl) ?_
    refine AL_nil ?_
    refine AW_ret (BQ_ret (BQ_ret ?_))
    exact ⟨rn [], ⟨⟨⟨_, rfl, vle_bool (by first | exact (matchB_v (by omega)).symm | exact (matchB_m (eight_len (by omega))).symm | exact (matchB_m (eight_bad (k := k) (by omega) h24)).symm | exact (matchB_bad (k := k) (by omega) (inside_neg (by omega) (by omega) h32)).symm | exact (matchB_bad (k := k) (by omega) (inside_bit (by omega) (by omega) (fun q => h51 ((bits_in (by have := fitsB_le h24; omega) (by have := fitsB_le h24; have := topOf_bound (k : Int); omega)).2 q)))).symm | exact (matchB_good (by omega) (eight_good hB (by omega) (by omega)) hA (by omega)).symm)⟩, trivial⟩, trivial, trivial, rfl⟩⟩
  try simp only [tdy] at h51
  refine AW_condF rfl ?_
  refine AW_skip ?_
  refine AW_region ?_
  refine AL_p (x_move rfl rfl) ?_
  refine AL_p (x_add rfl rfl rfl (IntWalk.i64_in _ (by omega))) ?_
  refine AL_p (x_assign rfl rfl) ?_
  refine AL_nil ?_
  refine ⟨⟨k + 1, ⟨⟨by omega, hA.succ (by omega) (inside_yes (by omega) (by omega) h32 ((bits_in (by have := fitsB_le h24; omega) (by have := fitsB_le h24; have := topOf_bound (k : Int); omega)).1 h51))⟩, hB.succ (by omega) h24⟩⟩, rn [], ?_, by dsimp only; omega⟩
  exact ⟨by (repeat refine ⟨⟨_, rfl, by first | exact VLe.rf | exact vle_int (by dsimp only; omega)⟩, ?_⟩); exact trivial, by (repeat refine ⟨⟨_, rfl, by first | exact BLe.rf | exact BLe.box AllC.rf | exact BLe.arr (by exact rfl)⟩, ?_⟩); exact trivial, by repeat (first | exact trivial | refine ⟨⟨rfl, by first | (left; intro h; cases h) | (right; rfl), by first | exact (fun _ h => ⟨_, h⟩) | exact (fun _ _ => ⟨_, rfl⟩)⟩, ?_⟩), rfl⟩

set_option maxHeartbeats 4000000 in
theorem port_c (n : Int) : AC Try.prog 149 [.one (.c (.int .i64 n))] [] (.one (.c (.bool (decide (1 ≤ n ∧ n ≤ 255))))) [] := by
  refine AC_body1 Try.func149 rfl rfl Try.ntmps149 rfl Try.results149 ?_
  refine AW_seq ?_
  refine AW_region ?_
  refine AL_p (x_assign rfl rfl) ?_
  refine AL_nil ?_
  refine AW_seq ?_
  refine AW_region ?_
  refine AL_p (x_move rfl rfl) ?_
  refine AL_b (x_geq rfl rfl rfl) (fun b4 h4 => ?_)
  refine AL_p (x_move rfl rfl) ?_
  cases b4
  · try simp only [tdy] at h4
    refine AL_o rfl rfl rfl rfl ?_
    refine AL_o rfl rfl rfl rfl ?_
    refine AL_p (x_pickF rfl rfl rfl) ?_
    refine AL_p (x_assign rfl rfl) ?_
    refine AL_nil ?_
    refine AW_ret ?_
    exact ⟨rn [], ⟨⟨⟨_, rfl, vle_bool (by (symm; first | (rw [decide_eq_true_eq]; omega) | (rw [decide_eq_false_iff_not]; omega)))⟩, trivial⟩, trivial, trivial, rfl⟩⟩
  try simp only [tdy] at h4
  refine AL_g rfl rfl (x_move rfl rfl) ?_
  refine AL_gb rfl rfl (x_leq rfl rfl rfl) (fun b7 h7 => ?_)
  refine AL_p (x_pickT rfl rfl rfl) ?_
  refine AL_p (x_assign rfl rfl) ?_
  refine AL_nil ?_
  refine AW_ret ?_
  cases b7
  rotate_left
  · try simp only [tdy] at h7
    exact ⟨rn [], ⟨⟨⟨_, rfl, vle_bool (by (symm; first | (rw [decide_eq_true_eq]; omega) | (rw [decide_eq_false_iff_not]; omega)))⟩, trivial⟩, trivial, trivial, rfl⟩⟩
  try simp only [tdy] at h7
  exact ⟨rn [], ⟨⟨⟨_, rfl, vle_bool (by (symm; first | (rw [decide_eq_true_eq]; omega) | (rw [decide_eq_false_iff_not]; omega)))⟩, trivial⟩, trivial, trivial, rfl⟩⟩

set_option maxHeartbeats 4000000 in
theorem numI_c (n : Int) : AC Try.prog 150 [.one (.c (.int .i64 n))] [] (.one (.c (.bool (decide (0 ≤ n ∧ n ≤ 281474976710655))))) [] := by
  refine AC_body1 Try.func150 rfl rfl Try.ntmps150 rfl Try.results150 ?_
  refine AW_seq ?_
  refine AW_region ?_
  refine AL_p (x_assign rfl rfl) ?_
  refine AL_nil ?_
  refine AW_seq ?_
  refine AW_region ?_
  refine AL_p (x_move rfl rfl) ?_
  refine AL_b (x_geq rfl rfl rfl) (fun b4 h4 => ?_)
  refine AL_p (x_move rfl rfl) ?_
  cases b4
  · try simp only [tdy] at h4
    refine AL_o rfl rfl rfl rfl ?_
    refine AL_o rfl rfl rfl rfl ?_
    refine AL_p (x_pickF rfl rfl rfl) ?_
    refine AL_p (x_assign rfl rfl) ?_
    refine AL_nil ?_
    refine AW_ret ?_
    exact ⟨rn [], ⟨⟨⟨_, rfl, vle_bool (by (symm; first | (rw [decide_eq_true_eq]; omega) | (rw [decide_eq_false_iff_not]; omega)))⟩, trivial⟩, trivial, trivial, rfl⟩⟩
  try simp only [tdy] at h4
  refine AL_g rfl rfl (x_move rfl rfl) ?_
  refine AL_gb rfl rfl (x_leq rfl rfl rfl) (fun b7 h7 => ?_)
  refine AL_p (x_pickT rfl rfl rfl) ?_
  refine AL_p (x_assign rfl rfl) ?_
  refine AL_nil ?_
  refine AW_ret ?_
  cases b7
  rotate_left
  · try simp only [tdy] at h7
    exact ⟨rn [], ⟨⟨⟨_, rfl, vle_bool (by (symm; first | (rw [decide_eq_true_eq]; omega) | (rw [decide_eq_false_iff_not]; omega)))⟩, trivial⟩, trivial, trivial, rfl⟩⟩
  try simp only [tdy] at h7
  exact ⟨rn [], ⟨⟨⟨_, rfl, vle_bool (by (symm; first | (rw [decide_eq_true_eq]; omega) | (rw [decide_eq_false_iff_not]; omega)))⟩, trivial⟩, trivial, trivial, rfl⟩⟩

set_option maxHeartbeats 4000000 in
theorem numS_c (n : Int) : AC Try.prog 148 [.one (.c (.int .i64 n))] [] (.one (.c (.bool (decide (0 ≤ n ∧ n ≤ 281474976710655))))) [] := by
  refine AC_body1 Try.func148 rfl rfl Try.ntmps148 rfl Try.results148 ?_
  refine AW_seq ?_
  refine AW_region ?_
  refine AL_p (x_assign rfl rfl) ?_
  refine AL_nil ?_
  refine AW_seq ?_
  refine AW_region ?_
  refine AL_p (x_move rfl rfl) ?_
  refine AL_b (x_geq rfl rfl rfl) (fun b4 h4 => ?_)
  refine AL_p (x_move rfl rfl) ?_
  cases b4
  · try simp only [tdy] at h4
    refine AL_o rfl rfl rfl rfl ?_
    refine AL_o rfl rfl rfl rfl ?_
    refine AL_p (x_pickF rfl rfl rfl) ?_
    refine AL_p (x_assign rfl rfl) ?_
    refine AL_nil ?_
    refine AW_ret ?_
    exact ⟨rn [], ⟨⟨⟨_, rfl, vle_bool (by (symm; first | (rw [decide_eq_true_eq]; omega) | (rw [decide_eq_false_iff_not]; omega)))⟩, trivial⟩, trivial, trivial, rfl⟩⟩
  try simp only [tdy] at h4
  refine AL_g rfl rfl (x_move rfl rfl) ?_
  refine AL_gb rfl rfl (x_leq rfl rfl rfl) (fun b7 h7 => ?_)
  refine AL_p (x_pickT rfl rfl rfl) ?_
  refine AL_p (x_assign rfl rfl) ?_
  refine AL_nil ?_
  refine AW_ret ?_
  cases b7
  rotate_left
  · try simp only [tdy] at h7
    exact ⟨rn [], ⟨⟨⟨_, rfl, vle_bool (by (symm; first | (rw [decide_eq_true_eq]; omega) | (rw [decide_eq_false_iff_not]; omega)))⟩, trivial⟩, trivial, trivial, rfl⟩⟩
  try simp only [tdy] at h7
  exact ⟨rn [], ⟨⟨⟨_, rfl, vle_bool (by (symm; first | (rw [decide_eq_true_eq]; omega) | (rw [decide_eq_false_iff_not]; omega)))⟩, trivial⟩, trivial, trivial, rfl⟩⟩

set_option maxHeartbeats 4000000 in
theorem actsI_c (l : List Actt) : AC Try.prog 126 [.one (.sl actE l)] [] (.one (.c (.bool (actsB l)))) [] := by
  refine AC_body1 Try.func126 rfl rfl Try.ntmps126 rfl Try.results126 ?_
  refine AW_slmax 0 rfl (fun hm0 => ?_)
  refine AW_seq ?_
  refine AW_region ?_
  refine AL_p (x_assign rfl rfl) ?_
  refine AL_nil ?_
  refine AW_seq ?_
  refine AW_seq ?_
  refine AW_region ?_
  refine AL_p (x_move rfl rfl) ?_
  refine AL_p (x_len (E := 114) (n := 3) rfl rfl (by kernel_rfl)) ?_
  refine AL_p (x_move rfl rfl) ?_
  refine AL_nil ?_
  refine AW_block ?_
  refine AW_loop2 (ι := {q : Nat // q ≤ l.length ∧ AllAt (fun q (hk : q < l.length) => actB l[q]) q}) (fun p => [(8, .one (.c (.int .i64 ((p.1) : Int))))]) (fun p => []) [0, 6, 7] [] (fun p => l.length - (p.1)) ⟨0, ⟨by omega, .zero⟩⟩ (rn []) ?_ ?_
  exact ⟨by (repeat refine ⟨⟨_, rfl, by first | exact VLe.rf | exact vle_int (by dsimp only; omega)⟩, ?_⟩); exact trivial, by (repeat refine ⟨⟨_, rfl, by first | exact BLe.rf | exact BLe.box AllC.rf | exact BLe.arr (by exact rfl)⟩, ?_⟩); exact trivial, by repeat (first | exact trivial | refine ⟨⟨rfl, by first | (left; intro h; cases h) | (right; rfl), by first | exact (fun _ h => ⟨_, h⟩) | exact (fun _ _ => ⟨_, rfl⟩)⟩, ?_⟩), rfl⟩
  rintro ⟨k, hinv⟩
  dsimp only
  have hk := hinv.1
  have hA := hinv.2
  refine AW_seq ?_
  refine AW_region ?_
  refine AL_b (x_lss rfl rfl rfl) (fun b9 h9 => ?_)
  refine AL_nil ?_
  refine AW_seq ?_
  cases b9
  · try simp only [tdy] at h9
    refine AW_condF rfl ?_
    refine AW_exit (BQ_hit ?_)
    refine AW_seq ?_
    refine AW_region ?_
    refine AL_p (x_move rfl rfl) ?_
    refine AL_p (x_len (E := 114) (n := 3) rfl rfl (by kernel_rfl)) ?_
    refine AL_b (x_leq rfl rfl rfl) (fun b56 h56 => ?_)
    refine AL_p (x_assign rfl rfl) ?_
    refine AL_nil ?_
    refine AW_ret ?_
    cases b56
    rotate_left
    · try simp only [tdy] at h56
      exact ⟨rn [], ⟨⟨⟨_, rfl, vle_bool (by first | exact (actsB_bad (k := k) (by omega) (by unfold actB; first | (rw [decide_eq_true_eq]; omega) | (rw [decide_eq_false_iff_not]; omega))).symm | exact (actsB_good hA (by omega) (by omega)).symm | exact (actsB_len (by omega)).symm)⟩, trivial⟩, trivial, trivial, rfl⟩⟩
    try simp only [tdy] at h56
    exact ⟨rn [], ⟨⟨⟨_, rfl, vle_bool (by first | exact (actsB_bad (k := k) (by omega) (by unfold actB; first | (rw [decide_eq_true_eq]; omega) | (rw [decide_eq_false_iff_not]; omega))).symm | exact (actsB_good hA (by omega) (by omega)).symm | exact (actsB_len (by omega)).symm)⟩, trivial⟩, trivial, trivial, rfl⟩⟩
  try simp only [tdy] at h9
  refine AW_condT rfl ?_
  refine AW_skip ?_
  refine AW_seq ?_
  refine AW_block ?_
  refine AW_seq ?_
  refine AW_region ?_
  refine AL_p (x_index (E := 114) (n := 3) rfl rfl rfl (by kernel_rfl) rfl (k := k) (by omega) (by omega)) ?_
  refine AL_p (x_eloadW (n := 3) rfl rfl (by kernel_rfl) rfl) ?_
  refine AL_p (x_alloc (z := .agg #[.int .i64 0, .int .i64 0, .int .i64 0]) 100 rfl (by kernel_rfl) rfl rfl rfl rfl) ?_
  refine AL_p (x_store (n := 3) rfl rfl rfl rfl (by kernel_rfl) rfl rfl rfl) ?_
  refine AL_nil ?_
  refine AW_seq ?_
  refine AW_region ?_
  refine AL_p (x_assign rfl rfl) ?_
  refine AL_nil ?_
  refine AW_seq ?_
  refine AW_seq ?_
  refine AW_region ?_
  refine AL_p (x_field (off := 0) (o' := 0) rfl rfl rfl (by kernel_rfl) rfl) ?_
  refine AL_p (x_load1 rfl rfl rfl (by kernel_rfl) rfl) ?_
  refine AL_nil ?_
  refine AW_block ?_
  refine AW_seq ?_
  refine AW_region ?_
  refine AL_b (x_eql rfl rfl rfl) (fun b15 h15 => ?_)
  refine AL_p (x_assign rfl rfl) ?_
  refine AL_nil ?_
  cases b15
  rotate_left
  · try simp only [tdy] at h15
    refine AW_condT rfl ?_
    refine AW_region ?_
    refine AL_p (x_field (off := 1) (o' := 1) rfl rfl rfl (by kernel_rfl) rfl) ?_
    refine AL_p (x_load1 rfl rfl rfl (by kernel_rfl) rfl) ?_
    refine AL_b (x_call0 rfl rfl rfl (port_c _) rfl rfl) (fun b18 h18 => ?_)
    refine AL_p (x_move rfl rfl) ?_
    cases b18
    · try simp only [tdy] at h18
      refine AL_o rfl rfl rfl rfl ?_
      refine AL_o rfl rfl rfl rfl ?_
      refine AL_o rfl rfl rfl rfl ?_
      refine AL_p (x_pickF rfl rfl rfl) ?_
      refine AL_p (x_assign rfl rfl) ?_
      refine AL_nil ?_
      refine AW_seq ?_
      refine AW_region ?_
      refine AL_p (x_move rfl rfl) ?_
      refine AL_p (x_not rfl rfl) ?_
      refine AL_nil ?_
      refine AW_condT rfl ?_
      refine AW_seq ?_
      refine AW_region ?_
      refine AL_p (x_assign rfl rfl) ?_
      refine AL_nil ?_
      refine AW_ret (BQ_ret (BQ_ret ?_))
      exact ⟨rn [], ⟨⟨⟨_, rfl, vle_bool (by first | exact (actsB_bad (k := k) (by omega) (by unfold actB; first | (rw [decide_eq_true_eq]; omega) | (rw [decide_eq_false_iff_not]; omega))).symm | exact (actsB_good hA (by omega) (by omega)).symm | exact (actsB_len (by omega)).symm)⟩, trivial⟩, trivial, trivial, rfl⟩⟩
    try simp only [tdy] at h18
    refine AL_g rfl rfl (x_field (off := 2) (o' := 2) rfl rfl rfl (by kernel_rfl) rfl) ?_
    refine AL_g rfl rfl (x_load1 rfl rfl rfl (by kernel_rfl) rfl) ?_
    refine AL_gb rfl rfl (x_eql rfl rfl rfl) (fun b22 h22 => ?_)
    refine AL_p (x_pickT rfl rfl rfl) ?_
    refine AL_p (x_assign rfl rfl) ?_
    refine AL_nil ?_
    refine AW_seq ?_
    refine AW_region ?_
    refine AL_p (x_move rfl rfl) ?_
    refine AL_p (x_not rfl rfl) ?_
    refine AL_nil ?_
    cases b22
    · try simp only [tdy] at h22
      refine AW_condT rfl ?_
      refine AW_seq ?_
      refine AW_region ?_
      refine AL_p (x_assign rfl rfl) ?_
      refine AL_nil ?_
      refine AW_ret (BQ_ret (BQ_ret ?_))
      exact ⟨rn [], ⟨⟨⟨_, rfl, vle_bool (by first | exact (actsB_bad (k := k) (by omega) (by unfold actB; first | (rw [decide_eq_true_eq]; omega) | (rw [decide_eq_false_iff_not]; omega))).symm | exact (actsB_good hA (by omega) (by omega)).symm | exact (actsB_len (by omega)).symm)⟩, trivial⟩, trivial, trivial, rfl⟩⟩
    try simp only [tdy] at h22
    refine AW_condF rfl ?_
    refine AW_skip ?_
    refine AW_region ?_
    refine AL_p (x_add rfl rfl rfl (IntWalk.i64_in _ (by omega))) ?_
    refine AL_p (x_move rfl rfl) ?_
    refine AL_nil ?_
    refine ⟨⟨k + 1, ⟨by omega, hA.succ (by omega) (by unfold actB; first | (rw [decide_eq_true_eq]; omega) | (rw [decide_eq_false_iff_not]; omega))⟩⟩, rn [], ?_, by dsimp only; omega⟩
    exact ⟨by (repeat refine ⟨⟨_, rfl, by first | exact VLe.rf | exact vle_int (by dsimp only; omega)⟩, ?_⟩); exact trivial, by (repeat refine ⟨⟨_, rfl, by first | exact BLe.rf | exact BLe.box AllC.rf | exact BLe.arr (by exact rfl)⟩, ?_⟩); exact trivial, by repeat (first | exact trivial | refine ⟨⟨rfl, by first | (left; intro h; cases h) | (right; rfl), by first | exact (fun _ h => ⟨_, h⟩) | exact (fun _ _ => ⟨_, rfl⟩)⟩, ?_⟩), rfl⟩
  try simp only [tdy] at h15
  refine AW_condF rfl ?_
  refine AW_seq ?_
  refine AW_region ?_
  refine AL_b (x_eql rfl rfl rfl) (fun b25 h25 => ?_)
  refine AL_p (x_assign rfl rfl) ?_
  refine AL_nil ?_
  cases b25
  rotate_left
  · try simp only [tdy] at h25
    refine AW_condT rfl ?_
    refine AW_region ?_
    refine AL_p (x_field (off := 1) (o' := 1) rfl rfl rfl (by kernel_rfl) rfl) ?_
    refine AL_p (x_load1 rfl rfl rfl (by kernel_rfl) rfl) ?_
    refine AL_b (x_eql rfl rfl rfl) (fun b28 h28 => ?_)
    refine AL_p (x_move rfl rfl) ?_
    cases b28
    rotate_left
    · try simp only [tdy] at h28
      refine AL_o rfl rfl rfl rfl ?_
      refine AL_o rfl rfl rfl rfl ?_
      refine AL_o rfl rfl rfl rfl ?_
      refine AL_p (x_pickT rfl rfl rfl) ?_
      refine AL_p (x_move rfl rfl) ?_
      refine AL_g rfl rfl (x_field (off := 2) (o' := 2) rfl rfl rfl (by kernel_rfl) rfl) ?_
      refine AL_g rfl rfl (x_load1 rfl rfl rfl (by kernel_rfl) rfl) ?_
      refine AL_gb rfl rfl (x_call0 rfl rfl rfl (numI_c _) rfl rfl) (fun b37 h37 => ?_)
      refine AL_p (x_pickT rfl rfl rfl) ?_
      refine AL_p (x_assign rfl rfl) ?_
      refine AL_nil ?_
      refine AW_seq ?_
      refine AW_region ?_
      refine AL_p (x_move rfl rfl) ?_
      refine AL_p (x_not rfl rfl) ?_
      refine AL_nil ?_
      cases b37
      · try simp only [tdy] at h37
        refine AW_condT rfl ?_
        refine AW_seq ?_
        refine AW_region ?_
        refine AL_p (x_assign rfl rfl) ?_
        refine AL_nil ?_
        refine AW_ret (BQ_ret (BQ_ret ?_))
        exact ⟨rn [], ⟨⟨⟨_, rfl, vle_bool (by first | exact (actsB_bad (k := k) (by omega) (by unfold actB; first | (rw [decide_eq_true_eq]; omega) | (rw [decide_eq_false_iff_not]; omega))).symm | exact (actsB_good hA (by omega) (by omega)).symm | exact (actsB_len (by omega)).symm)⟩, trivial⟩, trivial, trivial, rfl⟩⟩
      try simp only [tdy] at h37
      refine AW_condF rfl ?_
      refine AW_skip ?_
      refine AW_region ?_
      refine AL_p (x_add rfl rfl rfl (IntWalk.i64_in _ (by omega))) ?_
      refine AL_p (x_move rfl rfl) ?_
      refine AL_nil ?_
      refine ⟨⟨k + 1, ⟨by omega, hA.succ (by omega) (by unfold actB; first | (rw [decide_eq_true_eq]; omega) | (rw [decide_eq_false_iff_not]; omega))⟩⟩, rn [], ?_, by dsimp only; omega⟩
      exact ⟨by (repeat refine ⟨⟨_, rfl, by first | exact VLe.rf | exact vle_int (by dsimp only; omega)⟩, ?_⟩); exact trivial, by (repeat refine ⟨⟨_, rfl, by first | exact BLe.rf | exact BLe.box AllC.rf | exact BLe.arr (by exact rfl)⟩, ?_⟩); exact trivial, by repeat (first | exact trivial | refine ⟨⟨rfl, by first | (left; intro h; cases h) | (right; rfl), by first | exact (fun _ h => ⟨_, h⟩) | exact (fun _ _ => ⟨_, rfl⟩)⟩, ?_⟩), rfl⟩
    try simp only [tdy] at h28
    refine AL_g rfl rfl (x_field (off := 1) (o' := 1) rfl rfl rfl (by kernel_rfl) rfl) ?_
    refine AL_g rfl rfl (x_load1 rfl rfl rfl (by kernel_rfl) rfl) ?_
    refine AL_gb rfl rfl (x_eql rfl rfl rfl) (fun b32 h32 => ?_)
    refine AL_p (x_pickF rfl rfl rfl) ?_
    refine AL_p (x_move rfl rfl) ?_
    cases b32
    · try simp only [tdy] at h32
      refine AL_o rfl rfl rfl rfl ?_
      refine AL_o rfl rfl rfl rfl ?_
      refine AL_o rfl rfl rfl rfl ?_
      refine AL_p (x_pickF rfl rfl rfl) ?_
      refine AL_p (x_assign rfl rfl) ?_
      refine AL_nil ?_
      refine AW_seq ?_
      refine AW_region ?_
      refine AL_p (x_move rfl rfl) ?_
      refine AL_p (x_not rfl rfl) ?_
      refine AL_nil ?_
      refine AW_condT rfl ?_
      refine AW_seq ?_
      refine AW_region ?_
      refine AL_p (x_assign rfl rfl) ?_
      refine AL_nil ?_
      refine AW_ret (BQ_ret (BQ_ret ?_))
      exact ⟨rn [], ⟨⟨⟨_, rfl, vle_bool (by first | exact (actsB_bad (k := k) (by omega) (by unfold actB; first | (rw [decide_eq_true_eq]; omega) | (rw [decide_eq_false_iff_not]; omega))).symm | exact (actsB_good hA (by omega) (by omega)).symm | exact (actsB_len (by omega)).symm)⟩, trivial⟩, trivial, trivial, rfl⟩⟩
    try simp only [tdy] at h32
    refine AL_g rfl rfl (x_field (off := 2) (o' := 2) rfl rfl rfl (by kernel_rfl) rfl) ?_
    refine AL_g rfl rfl (x_load1 rfl rfl rfl (by kernel_rfl) rfl) ?_
    refine AL_gb rfl rfl (x_call0 rfl rfl rfl (numI_c _) rfl rfl) (fun b37 h37 => ?_)
    refine AL_p (x_pickT rfl rfl rfl) ?_
    refine AL_p (x_assign rfl rfl) ?_
    refine AL_nil ?_
    refine AW_seq ?_
    refine AW_region ?_
    refine AL_p (x_move rfl rfl) ?_
    refine AL_p (x_not rfl rfl) ?_
    refine AL_nil ?_
    cases b37
    · try simp only [tdy] at h37
      refine AW_condT rfl ?_
      refine AW_seq ?_
      refine AW_region ?_
      refine AL_p (x_assign rfl rfl) ?_
      refine AL_nil ?_
      refine AW_ret (BQ_ret (BQ_ret ?_))
      exact ⟨rn [], ⟨⟨⟨_, rfl, vle_bool (by first | exact (actsB_bad (k := k) (by omega) (by unfold actB; first | (rw [decide_eq_true_eq]; omega) | (rw [decide_eq_false_iff_not]; omega))).symm | exact (actsB_good hA (by omega) (by omega)).symm | exact (actsB_len (by omega)).symm)⟩, trivial⟩, trivial, trivial, rfl⟩⟩
    try simp only [tdy] at h37
    refine AW_condF rfl ?_
    refine AW_skip ?_
    refine AW_region ?_
    refine AL_p (x_add rfl rfl rfl (IntWalk.i64_in _ (by omega))) ?_
    refine AL_p (x_move rfl rfl) ?_
    refine AL_nil ?_
    refine ⟨⟨k + 1, ⟨by omega, hA.succ (by omega) (by unfold actB; first | (rw [decide_eq_true_eq]; omega) | (rw [decide_eq_false_iff_not]; omega))⟩⟩, rn [], ?_, by dsimp only; omega⟩
    exact ⟨by (repeat refine ⟨⟨_, rfl, by first | exact VLe.rf | exact vle_int (by dsimp only; omega)⟩, ?_⟩); exact trivial, by (repeat refine ⟨⟨_, rfl, by first | exact BLe.rf | exact BLe.box AllC.rf | exact BLe.arr (by exact rfl)⟩, ?_⟩); exact trivial, by repeat (first | exact trivial | refine ⟨⟨rfl, by first | (left; intro h; cases h) | (right; rfl), by first | exact (fun _ h => ⟨_, h⟩) | exact (fun _ _ => ⟨_, rfl⟩)⟩, ?_⟩), rfl⟩
  try simp only [tdy] at h25
  refine AW_condF rfl ?_
  refine AW_seq ?_
  refine AW_seq ?_
  refine AW_region ?_
  refine AL_b (x_eql rfl rfl rfl) (fun b40 h40 => ?_)
  refine AL_p (x_assign rfl rfl) ?_
  refine AL_nil ?_
  cases b40
  rotate_left
  · try simp only [tdy] at h40
    refine AW_condT rfl ?_
    refine AW_skip ?_
    refine AW_condT rfl ?_
    refine AW_region ?_
    refine AL_p (x_field (off := 1) (o' := 1) rfl rfl rfl (by kernel_rfl) rfl) ?_
    refine AL_p (x_load1 rfl rfl rfl (by kernel_rfl) rfl) ?_
    refine AL_b (x_eql rfl rfl rfl) (fun b45 h45 => ?_)
    refine AL_p (x_move rfl rfl) ?_
    cases b45
    · try simp only [tdy] at h45
      refine AL_o rfl rfl rfl rfl ?_
      refine AL_o rfl rfl rfl rfl ?_
      refine AL_o rfl rfl rfl rfl ?_
      refine AL_p (x_pickF rfl rfl rfl) ?_
      refine AL_p (x_assign rfl rfl) ?_
      refine AL_nil ?_
      refine AW_seq ?_
      refine AW_region ?_
      refine AL_p (x_move rfl rfl) ?_
      refine AL_p (x_not rfl rfl) ?_
      refine AL_nil ?_
      refine AW_condT rfl ?_
      refine AW_seq ?_
      refine AW_region ?_
      refine AL_p (x_assign rfl rfl) ?_
      refine AL_nil ?_
      refine AW_ret (BQ_ret (BQ_ret ?_))
      exact ⟨rn [], ⟨⟨⟨_, rfl, vle_bool (by first | exact (actsB_bad (k := k) (by omega) (by unfold actB; first | (rw [decide_eq_true_eq]; omega) | (rw [decide_eq_false_iff_not]; omega))).symm | exact (actsB_good hA (by omega) (by omega)).symm | exact (actsB_len (by omega)).symm)⟩, trivial⟩, trivial, trivial, rfl⟩⟩
    try simp only [tdy] at h45
    refine AL_g rfl rfl (x_field (off := 2) (o' := 2) rfl rfl rfl (by kernel_rfl) rfl) ?_
    refine AL_g rfl rfl (x_load1 rfl rfl rfl (by kernel_rfl) rfl) ?_
    refine AL_gb rfl rfl (x_eql rfl rfl rfl) (fun b49 h49 => ?_)
    refine AL_p (x_pickT rfl rfl rfl) ?_
    refine AL_p (x_assign rfl rfl) ?_
    refine AL_nil ?_
    refine AW_seq ?_
    refine AW_region ?_
    refine AL_p (x_move rfl rfl) ?_
    refine AL_p (x_not rfl rfl) ?_
    refine AL_nil ?_
    cases b49
    · try simp only [tdy] at h49
      refine AW_condT rfl ?_
      refine AW_seq ?_
      refine AW_region ?_
      refine AL_p (x_assign rfl rfl) ?_
      refine AL_nil ?_
      refine AW_ret (BQ_ret (BQ_ret ?_))
      exact ⟨rn [], ⟨⟨⟨_, rfl, vle_bool (by first | exact (actsB_bad (k := k) (by omega) (by unfold actB; first | (rw [decide_eq_true_eq]; omega) | (rw [decide_eq_false_iff_not]; omega))).symm | exact (actsB_good hA (by omega) (by omega)).symm | exact (actsB_len (by omega)).symm)⟩, trivial⟩, trivial, trivial, rfl⟩⟩
    try simp only [tdy] at h49
    refine AW_condF rfl ?_
    refine AW_skip ?_
    refine AW_region ?_
    refine AL_p (x_add rfl rfl rfl (IntWalk.i64_in _ (by omega))) ?_
    refine AL_p (x_move rfl rfl) ?_
    refine AL_nil ?_
    refine ⟨⟨k + 1, ⟨by omega, hA.succ (by omega) (by unfold actB; first | (rw [decide_eq_true_eq]; omega) | (rw [decide_eq_false_iff_not]; omega))⟩⟩, rn [], ?_, by dsimp only; omega⟩
    exact ⟨by (repeat refine ⟨⟨_, rfl, by first | exact VLe.rf | exact vle_int (by dsimp only; omega)⟩, ?_⟩); exact trivial, by (repeat refine ⟨⟨_, rfl, by first | exact BLe.rf | exact BLe.box AllC.rf | exact BLe.arr (by exact rfl)⟩, ?_⟩); exact trivial, by repeat (first | exact trivial | refine ⟨⟨rfl, by first | (left; intro h; cases h) | (right; rfl), by first | exact (fun _ h => ⟨_, h⟩) | exact (fun _ _ => ⟨_, rfl⟩)⟩, ?_⟩), rfl⟩
  try simp only [tdy] at h40
  refine AW_condF rfl ?_
  refine AW_seq ?_
  refine AW_region ?_
  refine AL_b (x_eql rfl rfl rfl) (fun b41 h41 => ?_)
  refine AL_p (x_assign rfl rfl) ?_
  refine AL_nil ?_
  cases b41
  rotate_left
  · try simp only [tdy] at h41
    refine AW_condT rfl ?_
    refine AW_skip ?_
    refine AW_condT rfl ?_
    refine AW_region ?_
    refine AL_p (x_field (off := 1) (o' := 1) rfl rfl rfl (by kernel_rfl) rfl) ?_
    refine AL_p (x_load1 rfl rfl rfl (by kernel_rfl) rfl) ?_
    refine AL_b (x_eql rfl rfl rfl) (fun b45 h45 => ?_)
    refine AL_p (x_move rfl rfl) ?_
    cases b45
    · try simp only [tdy] at h45
      refine AL_o rfl rfl rfl rfl ?_
      refine AL_o rfl rfl rfl rfl ?_
      refine AL_o rfl rfl rfl rfl ?_
      refine AL_p (x_pickF rfl rfl rfl) ?_
      refine AL_p (x_assign rfl rfl) ?_
      refine AL_nil ?_
      refine AW_seq ?_
      refine AW_region ?_
      refine AL_p (x_move rfl rfl) ?_
      refine AL_p (x_not rfl rfl) ?_
      refine AL_nil ?_
      refine AW_condT rfl ?_
      refine AW_seq ?_
      refine AW_region ?_
      refine AL_p (x_assign rfl rfl) ?_
      refine AL_nil ?_
      refine AW_ret (BQ_ret (BQ_ret ?_))
      exact ⟨rn [], ⟨⟨⟨_, rfl, vle_bool (by first | exact (actsB_bad (k := k) (by omega) (by unfold actB; first | (rw [decide_eq_true_eq]; omega) | (rw [decide_eq_false_iff_not]; omega))).symm | exact (actsB_good hA (by omega) (by omega)).symm | exact (actsB_len (by omega)).symm)⟩, trivial⟩, trivial, trivial, rfl⟩⟩
    try simp only [tdy] at h45
    refine AL_g rfl rfl (x_field (off := 2) (o' := 2) rfl rfl rfl (by kernel_rfl) rfl) ?_
    refine AL_g rfl rfl (x_load1 rfl rfl rfl (by kernel_rfl) rfl) ?_
    refine AL_gb rfl rfl (x_eql rfl rfl rfl) (fun b49 h49 => ?_)
    refine AL_p (x_pickT rfl rfl rfl) ?_
    refine AL_p (x_assign rfl rfl) ?_
    refine AL_nil ?_
    refine AW_seq ?_
    refine AW_region ?_
    refine AL_p (x_move rfl rfl) ?_
    refine AL_p (x_not rfl rfl) ?_
    refine AL_nil ?_
    cases b49
    · try simp only [tdy] at h49
      refine AW_condT rfl ?_
      refine AW_seq ?_
      refine AW_region ?_
      refine AL_p (x_assign rfl rfl) ?_
      refine AL_nil ?_
      refine AW_ret (BQ_ret (BQ_ret ?_))
      exact ⟨rn [], ⟨⟨⟨_, rfl, vle_bool (by first | exact (actsB_bad (k := k) (by omega) (by unfold actB; first | (rw [decide_eq_true_eq]; omega) | (rw [decide_eq_false_iff_not]; omega))).symm | exact (actsB_good hA (by omega) (by omega)).symm | exact (actsB_len (by omega)).symm)⟩, trivial⟩, trivial, trivial, rfl⟩⟩
    try simp only [tdy] at h49
    refine AW_condF rfl ?_
    refine AW_skip ?_
    refine AW_region ?_
    refine AL_p (x_add rfl rfl rfl (IntWalk.i64_in _ (by omega))) ?_
    refine AL_p (x_move rfl rfl) ?_
    refine AL_nil ?_
    refine ⟨⟨k + 1, ⟨by omega, hA.succ (by omega) (by unfold actB; first | (rw [decide_eq_true_eq]; omega) | (rw [decide_eq_false_iff_not]; omega))⟩⟩, rn [], ?_, by dsimp only; omega⟩
    exact ⟨by (repeat refine ⟨⟨_, rfl, by first | exact VLe.rf | exact vle_int (by dsimp only; omega)⟩, ?_⟩); exact trivial, by (repeat refine ⟨⟨_, rfl, by first | exact BLe.rf | exact BLe.box AllC.rf | exact BLe.arr (by exact rfl)⟩, ?_⟩); exact trivial, by repeat (first | exact trivial | refine ⟨⟨rfl, by first | (left; intro h; cases h) | (right; rfl), by first | exact (fun _ h => ⟨_, h⟩) | exact (fun _ _ => ⟨_, rfl⟩)⟩, ?_⟩), rfl⟩
  try simp only [tdy] at h41
  refine AW_condF rfl ?_
  refine AW_region ?_
  refine AL_b (x_eql rfl rfl rfl) (fun b42 h42 => ?_)
  refine AL_p (x_assign rfl rfl) ?_
  refine AL_nil ?_
  cases b42
  · try simp only [tdy] at h42
    refine AW_condF rfl ?_
    refine AW_skip ?_
    refine AW_seq ?_
    refine AW_region ?_
    refine AL_p (x_move rfl rfl) ?_
    refine AL_p (x_not rfl rfl) ?_
    refine AL_nil ?_
    refine AW_condT rfl ?_
    refine AW_seq ?_
    refine AW_region ?_
    refine AL_p (x_assign rfl rfl) ?_
    refine AL_nil ?_
    refine AW_ret (BQ_ret (BQ_ret ?_))
    exact ⟨rn [], ⟨⟨⟨_, rfl, vle_bool (by first | exact (actsB_bad (k := k) (by omega) (by unfold actB; first | (rw [decide_eq_true_eq]; omega) | (rw [decide_eq_false_iff_not]; omega))).symm | exact (actsB_good hA (by omega) (by omega)).symm | exact (actsB_len (by omega)).symm)⟩, trivial⟩, trivial, trivial, rfl⟩⟩
  try simp only [tdy] at h42
  refine AW_condT rfl ?_
  refine AW_region ?_
  refine AL_p (x_field (off := 1) (o' := 1) rfl rfl rfl (by kernel_rfl) rfl) ?_
  refine AL_p (x_load1 rfl rfl rfl (by kernel_rfl) rfl) ?_
  refine AL_b (x_eql rfl rfl rfl) (fun b45 h45 => ?_)
  refine AL_p (x_move rfl rfl) ?_
  cases b45
  · try simp only [tdy] at h45
    refine AL_o rfl rfl rfl rfl ?_
    refine AL_o rfl rfl rfl rfl ?_
    refine AL_o rfl rfl rfl rfl ?_
    refine AL_p (x_pickF rfl rfl rfl) ?_
    refine AL_p (x_assign rfl rfl) ?_
    refine AL_nil ?_
    refine AW_seq ?_
    refine AW_region ?_
    refine AL_p (x_move rfl rfl) ?_
    refine AL_p (x_not rfl rfl) ?_
    refine AL_nil ?_
    refine AW_condT rfl ?_
    refine AW_seq ?_
    refine AW_region ?_
    refine AL_p (x_assign rfl rfl) ?_
    refine AL_nil ?_
    refine AW_ret (BQ_ret (BQ_ret ?_))
    exact ⟨rn [], ⟨⟨⟨_, rfl, vle_bool (by first | exact (actsB_bad (k := k) (by omega) (by unfold actB; first | (rw [decide_eq_true_eq]; omega) | (rw [decide_eq_false_iff_not]; omega))).symm | exact (actsB_good hA (by omega) (by omega)).symm | exact (actsB_len (by omega)).symm)⟩, trivial⟩, trivial, trivial, rfl⟩⟩
  try simp only [tdy] at h45
  refine AL_g rfl rfl (x_field (off := 2) (o' := 2) rfl rfl rfl (by kernel_rfl) rfl) ?_
  refine AL_g rfl rfl (x_load1 rfl rfl rfl (by kernel_rfl) rfl) ?_
  refine AL_gb rfl rfl (x_eql rfl rfl rfl) (fun b49 h49 => ?_)
  refine AL_p (x_pickT rfl rfl rfl) ?_
  refine AL_p (x_assign rfl rfl) ?_
  refine AL_nil ?_
  refine AW_seq ?_
  refine AW_region ?_
  refine AL_p (x_move rfl rfl) ?_
  refine AL_p (x_not rfl rfl) ?_
  refine AL_nil ?_
  cases b49
  · try simp only [tdy] at h49
    refine AW_condT rfl ?_
    refine AW_seq ?_
    refine AW_region ?_
    refine AL_p (x_assign rfl rfl) ?_
    refine AL_nil ?_
    refine AW_ret (BQ_ret (BQ_ret ?_))
    exact ⟨rn [], ⟨⟨⟨_, rfl, vle_bool (by first | exact (actsB_bad (k := k) (by omega) (by unfold actB; first | (rw [decide_eq_true_eq]; omega) | (rw [decide_eq_false_iff_not]; omega))).symm | exact (actsB_good hA (by omega) (by omega)).symm | exact (actsB_len (by omega)).symm)⟩, trivial⟩, trivial, trivial, rfl⟩⟩
  try simp only [tdy] at h49
  refine AW_condF rfl ?_
  refine AW_skip ?_
  refine AW_region ?_
  refine AL_p (x_add rfl rfl rfl (IntWalk.i64_in _ (by omega))) ?_
  refine AL_p (x_move rfl rfl) ?_
  refine AL_nil ?_
  refine ⟨⟨k + 1, ⟨by omega, hA.succ (by omega) (by unfold actB; first | (rw [decide_eq_true_eq]; omega) | (rw [decide_eq_false_iff_not]; omega))⟩⟩, rn [], ?_, by dsimp only; omega⟩
  exact ⟨by (repeat refine ⟨⟨_, rfl, by first | exact VLe.rf | exact vle_int (by dsimp only; omega)⟩, ?_⟩); exact trivial, by (repeat refine ⟨⟨_, rfl, by first | exact BLe.rf | exact BLe.box AllC.rf | exact BLe.arr (by exact rfl)⟩, ?_⟩); exact trivial, by repeat (first | exact trivial | refine ⟨⟨rfl, by first | (left; intro h; cases h) | (right; rfl), by first | exact (fun _ h => ⟨_, h⟩) | exact (fun _ _ => ⟨_, rfl⟩)⟩, ?_⟩), rfl⟩

set_option maxHeartbeats 4000000 in
theorem actsS_c (l : List Actt) : AC Try.prog 123 [.one (.sl actE l)] [] (.one (.c (.bool (actsB l)))) [] := by
  refine AC_body1 Try.func123 rfl rfl Try.ntmps123 rfl Try.results123 ?_
  refine AW_slmax 0 rfl (fun hm0 => ?_)
  refine AW_seq ?_
  refine AW_region ?_
  refine AL_p (x_assign rfl rfl) ?_
  refine AL_nil ?_
  refine AW_seq ?_
  refine AW_seq ?_
  refine AW_region ?_
  refine AL_p (x_move rfl rfl) ?_
  refine AL_p (x_len (E := 114) (n := 3) rfl rfl (by kernel_rfl)) ?_
  refine AL_b (x_gtr rfl rfl rfl) (fun b8 h8 => ?_)
  refine AL_nil ?_
  cases b8
  rotate_left
  · try simp only [tdy] at h8
    refine AW_condT rfl ?_
    refine AW_seq ?_
    refine AW_region ?_
    refine AL_p (x_assign rfl rfl) ?_
    refine AL_nil ?_
    refine AW_ret ?_
    exact ⟨rn [], ⟨⟨⟨_, rfl, vle_bool (by first | exact (actsB_bad (k := k) (by omega) (by unfold actB; first | (rw [decide_eq_true_eq]; omega) | (rw [decide_eq_false_iff_not]; omega))).symm | exact (actsB_good hA (by omega) (by omega)).symm | exact (actsB_len (by omega)).symm)⟩, trivial⟩, trivial, trivial, rfl⟩⟩
  try simp only [tdy] at h8
  refine AW_condF rfl ?_
  refine AW_skip ?_
  refine AW_seq ?_
  refine AW_seq ?_
  refine AW_region ?_
  refine AL_p (x_move rfl rfl) ?_
  refine AL_p (x_len (E := 114) (n := 3) rfl rfl (by kernel_rfl)) ?_
  refine AL_p (x_move rfl rfl) ?_
  refine AL_nil ?_
  refine AW_block ?_
  refine AW_loop2 (ι := {q : Nat // q ≤ l.length ∧ AllAt (fun q (hk : q < l.length) => actB l[q]) q}) (fun p => [(11, .one (.c (.int .i64 ((p.1) : Int))))]) (fun p => []) [9, 10] [] (fun p => l.length - (p.1)) ⟨0, ⟨by omega, .zero⟩⟩ (rn []) ?_ ?_
  exact ⟨by (repeat refine ⟨⟨_, rfl, by first | exact VLe.rf | exact vle_int (by dsimp only; omega)⟩, ?_⟩); exact trivial, by (repeat refine ⟨⟨_, rfl, by first | exact BLe.rf | exact BLe.box AllC.rf | exact BLe.arr (by exact rfl)⟩, ?_⟩); exact trivial, by repeat (first | exact trivial | refine ⟨⟨rfl, by first | (left; intro h; cases h) | (right; rfl), by first | exact (fun _ h => ⟨_, h⟩) | exact (fun _ _ => ⟨_, rfl⟩)⟩, ?_⟩), rfl⟩
  rintro ⟨k, hinv⟩
  dsimp only
  have hk := hinv.1
  have hA := hinv.2
  refine AW_seq ?_
  refine AW_region ?_
  refine AL_b (x_lss rfl rfl rfl) (fun b12 h12 => ?_)
  refine AL_nil ?_
  refine AW_seq ?_
  cases b12
  · try simp only [tdy] at h12
    refine AW_condF rfl ?_
    refine AW_exit (BQ_hit ?_)
    refine AW_seq ?_
    refine AW_region ?_
    refine AL_p (x_assign rfl rfl) ?_
    refine AL_nil ?_
    refine AW_ret ?_
    exact ⟨rn [], ⟨⟨⟨_, rfl, vle_bool (by first | exact (actsB_bad (k := k) (by omega) (by unfold actB; first | (rw [decide_eq_true_eq]; omega) | (rw [decide_eq_false_iff_not]; omega))).symm | exact (actsB_good hA (by omega) (by omega)).symm | exact (actsB_len (by omega)).symm)⟩, trivial⟩, trivial, trivial, rfl⟩⟩
  try simp only [tdy] at h12
  refine AW_condT rfl ?_
  refine AW_skip ?_
  refine AW_seq ?_
  refine AW_block ?_
  refine AW_seq ?_
  refine AW_region ?_
  refine AL_p (x_index (E := 114) (n := 3) rfl rfl rfl (by kernel_rfl) rfl (k := k) (by omega) (by omega)) ?_
  refine AL_p (x_eloadW (n := 3) rfl rfl (by kernel_rfl) rfl) ?_
  refine AL_p (x_alloc (z := .agg #[.int .i64 0, .int .i64 0, .int .i64 0]) 100 rfl (by kernel_rfl) rfl rfl rfl rfl) ?_
  refine AL_p (x_store (n := 3) rfl rfl rfl rfl (by kernel_rfl) rfl rfl rfl) ?_
  refine AL_nil ?_
  refine AW_seq ?_
  refine AW_region ?_
  refine AL_p (x_field (off := 1) (o' := 1) rfl rfl rfl (by kernel_rfl) rfl) ?_
  refine AL_p (x_load1 rfl rfl rfl (by kernel_rfl) rfl) ?_
  refine AL_b (x_eql rfl rfl rfl) (fun b17 h17 => ?_)
  refine AL_p (x_move rfl rfl) ?_
  cases b17
  · try simp only [tdy] at h17
    refine AL_o rfl rfl rfl rfl ?_
    refine AL_o rfl rfl rfl rfl ?_
    refine AL_o rfl rfl rfl rfl ?_
    refine AL_p (x_pickF rfl rfl rfl) ?_
    refine AL_p (x_assign rfl rfl) ?_
    refine AL_nil ?_
    refine AW_seq ?_
    refine AW_seq ?_
    refine AW_region ?_
    refine AL_p (x_field (off := 0) (o' := 0) rfl rfl rfl (by kernel_rfl) rfl) ?_
    refine AL_p (x_load1 rfl rfl rfl (by kernel_rfl) rfl) ?_
    refine AL_b (x_eql rfl rfl rfl) (fun b25 h25 => ?_)
    refine AL_nil ?_
    cases b25
    · try simp only [tdy] at h25
      refine AW_condF rfl ?_
      refine AW_skip ?_
      refine AW_seq ?_
      refine AW_seq ?_
      refine AW_region ?_
      refine AL_p (x_field (off := 0) (o' := 0) rfl rfl rfl (by kernel_rfl) rfl) ?_
      refine AL_p (x_load1 rfl rfl rfl (by kernel_rfl) rfl) ?_
      refine AL_b (x_eql rfl rfl rfl) (fun b41 h41 => ?_)
      refine AL_nil ?_
      cases b41
      · try simp only [tdy] at h41
        refine AW_condF rfl ?_
        refine AW_skip ?_
        refine AW_seq ?_
        refine AW_region ?_
        refine AL_p (x_move rfl rfl) ?_
        refine AL_p (x_not rfl rfl) ?_
        refine AL_p (x_move rfl rfl) ?_
        refine AL_o rfl rfl rfl rfl ?_
        refine AL_o rfl rfl rfl rfl ?_
        refine AL_o rfl rfl rfl rfl ?_
        refine AL_p (x_pickT rfl rfl rfl) ?_
        refine AL_p (x_move rfl rfl) ?_
        refine AL_o rfl rfl rfl rfl ?_
        refine AL_o rfl rfl rfl rfl ?_
        refine AL_o rfl rfl rfl rfl ?_
        refine AL_p (x_pickT rfl rfl rfl) ?_
        refine AL_nil ?_
        refine AW_condT rfl ?_
        refine AW_seq ?_
        refine AW_region ?_
        refine AL_p (x_assign rfl rfl) ?_
        refine AL_nil ?_
        refine AW_ret (BQ_ret (BQ_ret ?_))
        exact ⟨rn [], ⟨⟨⟨_, rfl, vle_bool (by first | exact (actsB_bad (k := k) (by omega) (by unfold actB; first | (rw [decide_eq_true_eq]; omega) | (rw [decide_eq_false_iff_not]; omega))).symm | exact (actsB_good hA (by omega) (by omega)).symm | exact (actsB_len (by omega)).symm)⟩, trivial⟩, trivial, trivial, rfl⟩⟩
      try simp only [tdy] at h41
      refine AW_condT rfl ?_
      refine AW_region ?_
      refine AL_p (x_field (off := 1) (o' := 1) rfl rfl rfl (by kernel_rfl) rfl) ?_
      refine AL_p (x_load1 rfl rfl rfl (by kernel_rfl) rfl) ?_
      refine AL_b (x_eql rfl rfl rfl) (fun b44 h44 => ?_)
      refine AL_p (x_move rfl rfl) ?_
      cases b44
      rotate_left
      · try simp only [tdy] at h44
        refine AL_o rfl rfl rfl rfl ?_
        refine AL_o rfl rfl rfl rfl ?_
        refine AL_o rfl rfl rfl rfl ?_
        refine AL_p (x_pickT rfl rfl rfl) ?_
        refine AL_p (x_move rfl rfl) ?_
        refine AL_g rfl rfl (x_field (off := 2) (o' := 2) rfl rfl rfl (by kernel_rfl) rfl) ?_
        refine AL_g rfl rfl (x_load1 rfl rfl rfl (by kernel_rfl) rfl) ?_
        refine AL_gb rfl rfl (x_call0 rfl rfl rfl (numS_c _) rfl rfl) (fun b53 h53 => ?_)
        refine AL_p (x_pickT rfl rfl rfl) ?_
        refine AL_p (x_assign rfl rfl) ?_
        refine AL_nil ?_
        refine AW_seq ?_
        refine AW_region ?_
        refine AL_p (x_move rfl rfl) ?_
        refine AL_p (x_not rfl rfl) ?_
        refine AL_p (x_move rfl rfl) ?_
        cases b53
        · try simp only [tdy] at h53
          refine AL_o rfl rfl rfl rfl ?_
          refine AL_o rfl rfl rfl rfl ?_
          refine AL_o rfl rfl rfl rfl ?_
          refine AL_p (x_pickT rfl rfl rfl) ?_
          refine AL_p (x_move rfl rfl) ?_
          refine AL_o rfl rfl rfl rfl ?_
          refine AL_o rfl rfl rfl rfl ?_
          refine AL_o rfl rfl rfl rfl ?_
          refine AL_p (x_pickT rfl rfl rfl) ?_
          refine AL_nil ?_
          refine AW_condT rfl ?_
          refine AW_seq ?_
          refine AW_region ?_
          refine AL_p (x_assign rfl rfl) ?_
          refine AL_nil ?_
          refine AW_ret (BQ_ret (BQ_ret ?_))
          exact ⟨rn [], ⟨⟨⟨_, rfl, vle_bool (by first | exact (actsB_bad (k := k) (by omega) (by unfold actB; first | (rw [decide_eq_true_eq]; omega) | (rw [decide_eq_false_iff_not]; omega))).symm | exact (actsB_good hA (by omega) (by omega)).symm | exact (actsB_len (by omega)).symm)⟩, trivial⟩, trivial, trivial, rfl⟩⟩
        try simp only [tdy] at h53
        refine AL_g rfl rfl (x_field (off := 0) (o' := 0) rfl rfl rfl (by kernel_rfl) rfl) ?_
        refine AL_g rfl rfl (x_load1 rfl rfl rfl (by kernel_rfl) rfl) ?_
        refine AL_gb rfl rfl (x_lss rfl rfl rfl) (fun b60 h60 => ?_)
        refine AL_p (x_pickF rfl rfl rfl) ?_
        refine AL_p (x_move rfl rfl) ?_
        cases b60
        rotate_left
        · try simp only [tdy] at h60
          refine AL_o rfl rfl rfl rfl ?_
          refine AL_o rfl rfl rfl rfl ?_
          refine AL_o rfl rfl rfl rfl ?_
          refine AL_p (x_pickT rfl rfl rfl) ?_
          refine AL_nil ?_
          refine AW_condT rfl ?_
          refine AW_seq ?_
          refine AW_region ?_
          refine AL_p (x_assign rfl rfl) ?_
          refine AL_nil ?_
          refine AW_ret (BQ_ret (BQ_ret ?_))
          exact ⟨rn [], ⟨⟨⟨_, rfl, vle_bool (by first | exact (actsB_bad (k := k) (by omega) (by unfold actB; first | (rw [decide_eq_true_eq]; omega) | (rw [decide_eq_false_iff_not]; omega))).symm | exact (actsB_good hA (by omega) (by omega)).symm | exact (actsB_len (by omega)).symm)⟩, trivial⟩, trivial, trivial, rfl⟩⟩
        try simp only [tdy] at h60
        refine AL_g rfl rfl (x_field (off := 0) (o' := 0) rfl rfl rfl (by kernel_rfl) rfl) ?_
        refine AL_g rfl rfl (x_load1 rfl rfl rfl (by kernel_rfl) rfl) ?_
        refine AL_gb rfl rfl (x_gtr rfl rfl rfl) (fun b65 h65 => ?_)
        refine AL_p (x_pickF rfl rfl rfl) ?_
        refine AL_nil ?_
        cases b65
        rotate_left
        · try simp only [tdy] at h65
          refine AW_condT rfl ?_
          refine AW_seq ?_
          refine AW_region ?_
          refine AL_p (x_assign rfl rfl) ?_
          refine AL_nil ?_
          refine AW_ret (BQ_ret (BQ_ret ?_))
          exact ⟨rn [], ⟨⟨⟨_, rfl, vle_bool (by first | exact (actsB_bad (k := k) (by omega) (by unfold actB; first | (rw [decide_eq_true_eq]; omega) | (rw [decide_eq_false_iff_not]; omega))).symm | exact (actsB_good hA (by omega) (by omega)).symm | exact (actsB_len (by omega)).symm)⟩, trivial⟩, trivial, trivial, rfl⟩⟩
        try simp only [tdy] at h65
        refine AW_condF rfl ?_
        refine AW_skip ?_
        refine AW_region ?_
        refine AL_p (x_add rfl rfl rfl (IntWalk.i64_in _ (by omega))) ?_
        refine AL_p (x_move rfl rfl) ?_
        refine AL_nil ?_
        refine ⟨⟨k + 1, ⟨by omega, hA.succ (by omega) (by unfold actB; first | (rw [decide_eq_true_eq]; omega) | (rw [decide_eq_false_iff_not]; omega))⟩⟩, rn [], ?_, by dsimp only; omega⟩
        exact ⟨by (repeat refine ⟨⟨_, rfl, by first | exact VLe.rf | exact vle_int (by dsimp only; omega)⟩, ?_⟩); exact trivial, by (repeat refine ⟨⟨_, rfl, by first | exact BLe.rf | exact BLe.box AllC.rf | exact BLe.arr (by exact rfl)⟩, ?_⟩); exact trivial, by repeat (first | exact trivial | refine ⟨⟨rfl, by first | (left; intro h; cases h) | (right; rfl), by first | exact (fun _ h => ⟨_, h⟩) | exact (fun _ _ => ⟨_, rfl⟩)⟩, ?_⟩), rfl⟩
      try simp only [tdy] at h44
      refine AL_g rfl rfl (x_field (off := 1) (o' := 1) rfl rfl rfl (by kernel_rfl) rfl) ?_
      refine AL_g rfl rfl (x_load1 rfl rfl rfl (by kernel_rfl) rfl) ?_
      refine AL_gb rfl rfl (x_eql rfl rfl rfl) (fun b48 h48 => ?_)
      refine AL_p (x_pickF rfl rfl rfl) ?_
      refine AL_p (x_move rfl rfl) ?_
      cases b48
      · try simp only [tdy] at h48
        refine AL_o rfl rfl rfl rfl ?_
        refine AL_o rfl rfl rfl rfl ?_
        refine AL_o rfl rfl rfl rfl ?_
        refine AL_p (x_pickF rfl rfl rfl) ?_
        refine AL_p (x_assign rfl rfl) ?_
        refine AL_nil ?_
        refine AW_seq ?_
        refine AW_region ?_
        refine AL_p (x_move rfl rfl) ?_
        refine AL_p (x_not rfl rfl) ?_
        refine AL_p (x_move rfl rfl) ?_
        refine AL_o rfl rfl rfl rfl ?_
        refine AL_o rfl rfl rfl rfl ?_
        refine AL_o rfl rfl rfl rfl ?_
        refine AL_p (x_pickT rfl rfl rfl) ?_
        refine AL_p (x_move rfl rfl) ?_
        refine AL_o rfl rfl rfl rfl ?_
        refine AL_o rfl rfl rfl rfl ?_
        refine AL_o rfl rfl rfl rfl ?_
        refine AL_p (x_pickT rfl rfl rfl) ?_
        refine AL_nil ?_
        refine AW_condT rfl ?_
        refine AW_seq ?_
        refine AW_region ?_
        refine AL_p (x_assign rfl rfl) ?_
        refine AL_nil ?_
        refine AW_ret (BQ_ret (BQ_ret ?_))
        exact ⟨rn [], ⟨⟨⟨_, rfl, vle_bool (by first | exact (actsB_bad (k := k) (by omega) (by unfold actB; first | (rw [decide_eq_true_eq]; omega) | (rw [decide_eq_false_iff_not]; omega))).symm | exact (actsB_good hA (by omega) (by omega)).symm | exact (actsB_len (by omega)).symm)⟩, trivial⟩, trivial, trivial, rfl⟩⟩
      try simp only [tdy] at h48
      refine AL_g rfl rfl (x_field (off := 2) (o' := 2) rfl rfl rfl (by kernel_rfl) rfl) ?_
      refine AL_g rfl rfl (x_load1 rfl rfl rfl (by kernel_rfl) rfl) ?_
      refine AL_gb rfl rfl (x_call0 rfl rfl rfl (numS_c _) rfl rfl) (fun b53 h53 => ?_)
      refine AL_p (x_pickT rfl rfl rfl) ?_
      refine AL_p (x_assign rfl rfl) ?_
      refine AL_nil ?_
      refine AW_seq ?_
      refine AW_region ?_
      refine AL_p (x_move rfl rfl) ?_
      refine AL_p (x_not rfl rfl) ?_
      refine AL_p (x_move rfl rfl) ?_
      cases b53
      · try simp only [tdy] at h53
        refine AL_o rfl rfl rfl rfl ?_
        refine AL_o rfl rfl rfl rfl ?_
        refine AL_o rfl rfl rfl rfl ?_
        refine AL_p (x_pickT rfl rfl rfl) ?_
        refine AL_p (x_move rfl rfl) ?_
        refine AL_o rfl rfl rfl rfl ?_
        refine AL_o rfl rfl rfl rfl ?_
        refine AL_o rfl rfl rfl rfl ?_
        refine AL_p (x_pickT rfl rfl rfl) ?_
        refine AL_nil ?_
        refine AW_condT rfl ?_
        refine AW_seq ?_
        refine AW_region ?_
        refine AL_p (x_assign rfl rfl) ?_
        refine AL_nil ?_
        refine AW_ret (BQ_ret (BQ_ret ?_))
        exact ⟨rn [], ⟨⟨⟨_, rfl, vle_bool (by first | exact (actsB_bad (k := k) (by omega) (by unfold actB; first | (rw [decide_eq_true_eq]; omega) | (rw [decide_eq_false_iff_not]; omega))).symm | exact (actsB_good hA (by omega) (by omega)).symm | exact (actsB_len (by omega)).symm)⟩, trivial⟩, trivial, trivial, rfl⟩⟩
      try simp only [tdy] at h53
      refine AL_g rfl rfl (x_field (off := 0) (o' := 0) rfl rfl rfl (by kernel_rfl) rfl) ?_
      refine AL_g rfl rfl (x_load1 rfl rfl rfl (by kernel_rfl) rfl) ?_
      refine AL_gb rfl rfl (x_lss rfl rfl rfl) (fun b60 h60 => ?_)
      refine AL_p (x_pickF rfl rfl rfl) ?_
      refine AL_p (x_move rfl rfl) ?_
      cases b60
      rotate_left
      · try simp only [tdy] at h60
        refine AL_o rfl rfl rfl rfl ?_
        refine AL_o rfl rfl rfl rfl ?_
        refine AL_o rfl rfl rfl rfl ?_
        refine AL_p (x_pickT rfl rfl rfl) ?_
        refine AL_nil ?_
        refine AW_condT rfl ?_
        refine AW_seq ?_
        refine AW_region ?_
        refine AL_p (x_assign rfl rfl) ?_
        refine AL_nil ?_
        refine AW_ret (BQ_ret (BQ_ret ?_))
        exact ⟨rn [], ⟨⟨⟨_, rfl, vle_bool (by first | exact (actsB_bad (k := k) (by omega) (by unfold actB; first | (rw [decide_eq_true_eq]; omega) | (rw [decide_eq_false_iff_not]; omega))).symm | exact (actsB_good hA (by omega) (by omega)).symm | exact (actsB_len (by omega)).symm)⟩, trivial⟩, trivial, trivial, rfl⟩⟩
      try simp only [tdy] at h60
      refine AL_g rfl rfl (x_field (off := 0) (o' := 0) rfl rfl rfl (by kernel_rfl) rfl) ?_
      refine AL_g rfl rfl (x_load1 rfl rfl rfl (by kernel_rfl) rfl) ?_
      refine AL_gb rfl rfl (x_gtr rfl rfl rfl) (fun b65 h65 => ?_)
      refine AL_p (x_pickF rfl rfl rfl) ?_
      refine AL_nil ?_
      cases b65
      rotate_left
      · try simp only [tdy] at h65
        refine AW_condT rfl ?_
        refine AW_seq ?_
        refine AW_region ?_
        refine AL_p (x_assign rfl rfl) ?_
        refine AL_nil ?_
        refine AW_ret (BQ_ret (BQ_ret ?_))
        exact ⟨rn [], ⟨⟨⟨_, rfl, vle_bool (by first | exact (actsB_bad (k := k) (by omega) (by unfold actB; first | (rw [decide_eq_true_eq]; omega) | (rw [decide_eq_false_iff_not]; omega))).symm | exact (actsB_good hA (by omega) (by omega)).symm | exact (actsB_len (by omega)).symm)⟩, trivial⟩, trivial, trivial, rfl⟩⟩
      try simp only [tdy] at h65
      refine AW_condF rfl ?_
      refine AW_skip ?_
      refine AW_region ?_
      refine AL_p (x_add rfl rfl rfl (IntWalk.i64_in _ (by omega))) ?_
      refine AL_p (x_move rfl rfl) ?_
      refine AL_nil ?_
      refine ⟨⟨k + 1, ⟨by omega, hA.succ (by omega) (by unfold actB; first | (rw [decide_eq_true_eq]; omega) | (rw [decide_eq_false_iff_not]; omega))⟩⟩, rn [], ?_, by dsimp only; omega⟩
      exact ⟨by (repeat refine ⟨⟨_, rfl, by first | exact VLe.rf | exact vle_int (by dsimp only; omega)⟩, ?_⟩); exact trivial, by (repeat refine ⟨⟨_, rfl, by first | exact BLe.rf | exact BLe.box AllC.rf | exact BLe.arr (by exact rfl)⟩, ?_⟩); exact trivial, by repeat (first | exact trivial | refine ⟨⟨rfl, by first | (left; intro h; cases h) | (right; rfl), by first | exact (fun _ h => ⟨_, h⟩) | exact (fun _ _ => ⟨_, rfl⟩)⟩, ?_⟩), rfl⟩
    try simp only [tdy] at h25
    refine AW_condT rfl ?_
    refine AW_region ?_
    refine AL_p (x_field (off := 1) (o' := 1) rfl rfl rfl (by kernel_rfl) rfl) ?_
    refine AL_p (x_load1 rfl rfl rfl (by kernel_rfl) rfl) ?_
    refine AL_b (x_geq rfl rfl rfl) (fun b28 h28 => ?_)
    refine AL_p (x_move rfl rfl) ?_
    cases b28
    · try simp only [tdy] at h28
      refine AL_o rfl rfl rfl rfl ?_
      refine AL_o rfl rfl rfl rfl ?_
      refine AL_o rfl rfl rfl rfl ?_
      refine AL_p (x_pickF rfl rfl rfl) ?_
      refine AL_p (x_move rfl rfl) ?_
      refine AL_o rfl rfl rfl rfl ?_
      refine AL_o rfl rfl rfl rfl ?_
      refine AL_o rfl rfl rfl rfl ?_
      refine AL_p (x_pickF rfl rfl rfl) ?_
      refine AL_p (x_assign rfl rfl) ?_
      refine AL_nil ?_
      refine AW_seq ?_
      refine AW_seq ?_
      refine AW_region ?_
      refine AL_p (x_field (off := 0) (o' := 0) rfl rfl rfl (by kernel_rfl) rfl) ?_
      refine AL_p (x_load1 rfl rfl rfl (by kernel_rfl) rfl) ?_
      refine AL_b (x_eql rfl rfl rfl) (fun b41 h41 => ?_)
      refine AL_nil ?_
      cases b41
      · try simp only [tdy] at h41
        refine AW_condF rfl ?_
        refine AW_skip ?_
        refine AW_seq ?_
        refine AW_region ?_
        refine AL_p (x_move rfl rfl) ?_
        refine AL_p (x_not rfl rfl) ?_
        refine AL_p (x_move rfl rfl) ?_
        refine AL_o rfl rfl rfl rfl ?_
        refine AL_o rfl rfl rfl rfl ?_
        refine AL_o rfl rfl rfl rfl ?_
        refine AL_p (x_pickT rfl rfl rfl) ?_
        refine AL_p (x_move rfl rfl) ?_
        refine AL_o rfl rfl rfl rfl ?_
        refine AL_o rfl rfl rfl rfl ?_
        refine AL_o rfl rfl rfl rfl ?_
        refine AL_p (x_pickT rfl rfl rfl) ?_
        refine AL_nil ?_
        refine AW_condT rfl ?_
        refine AW_seq ?_
        refine AW_region ?_
        refine AL_p (x_assign rfl rfl) ?_
        refine AL_nil ?_
        refine AW_ret (BQ_ret (BQ_ret ?_))
        exact ⟨rn [], ⟨⟨⟨_, rfl, vle_bool (by first | exact (actsB_bad (k := k) (by omega) (by unfold actB; first | (rw [decide_eq_true_eq]; omega) | (rw [decide_eq_false_iff_not]; omega))).symm | exact (actsB_good hA (by omega) (by omega)).symm | exact (actsB_len (by omega)).symm)⟩, trivial⟩, trivial, trivial, rfl⟩⟩
      try simp only [tdy] at h41
      refine AW_condT rfl ?_
      refine AW_region ?_
      refine AL_p (x_field (off := 1) (o' := 1) rfl rfl rfl (by kernel_rfl) rfl) ?_
      refine AL_p (x_load1 rfl rfl rfl (by kernel_rfl) rfl) ?_
      refine AL_b (x_eql rfl rfl rfl) (fun b44 h44 => ?_)
      refine AL_p (x_move rfl rfl) ?_
      cases b44
      rotate_left
      · try simp only [tdy] at h44
        refine AL_o rfl rfl rfl rfl ?_
        refine AL_o rfl rfl rfl rfl ?_
        refine AL_o rfl rfl rfl rfl ?_
        refine AL_p (x_pickT rfl rfl rfl) ?_
        refine AL_p (x_move rfl rfl) ?_
        refine AL_g rfl rfl (x_field (off := 2) (o' := 2) rfl rfl rfl (by kernel_rfl) rfl) ?_
        refine AL_g rfl rfl (x_load1 rfl rfl rfl (by kernel_rfl) rfl) ?_
        refine AL_gb rfl rfl (x_call0 rfl rfl rfl (numS_c _) rfl rfl) (fun b53 h53 => ?_)
        refine AL_p (x_pickT rfl rfl rfl) ?_
        refine AL_p (x_assign rfl rfl) ?_
        refine AL_nil ?_
        refine AW_seq ?_
        refine AW_region ?_
        refine AL_p (x_move rfl rfl) ?_
        refine AL_p (x_not rfl rfl) ?_
        refine AL_p (x_move rfl rfl) ?_
        cases b53
        · try simp only [tdy] at h53
          refine AL_o rfl rfl rfl rfl ?_
          refine AL_o rfl rfl rfl rfl ?_
          refine AL_o rfl rfl rfl rfl ?_
          refine AL_p (x_pickT rfl rfl rfl) ?_
          refine AL_p (x_move rfl rfl) ?_
          refine AL_o rfl rfl rfl rfl ?_
          refine AL_o rfl rfl rfl rfl ?_
          refine AL_o rfl rfl rfl rfl ?_
          refine AL_p (x_pickT rfl rfl rfl) ?_
          refine AL_nil ?_
          refine AW_condT rfl ?_
          refine AW_seq ?_
          refine AW_region ?_
          refine AL_p (x_assign rfl rfl) ?_
          refine AL_nil ?_
          refine AW_ret (BQ_ret (BQ_ret ?_))
          exact ⟨rn [], ⟨⟨⟨_, rfl, vle_bool (by first | exact (actsB_bad (k := k) (by omega) (by unfold actB; first | (rw [decide_eq_true_eq]; omega) | (rw [decide_eq_false_iff_not]; omega))).symm | exact (actsB_good hA (by omega) (by omega)).symm | exact (actsB_len (by omega)).symm)⟩, trivial⟩, trivial, trivial, rfl⟩⟩
        try simp only [tdy] at h53
        refine AL_g rfl rfl (x_field (off := 0) (o' := 0) rfl rfl rfl (by kernel_rfl) rfl) ?_
        refine AL_g rfl rfl (x_load1 rfl rfl rfl (by kernel_rfl) rfl) ?_
        refine AL_gb rfl rfl (x_lss rfl rfl rfl) (fun b60 h60 => ?_)
        refine AL_p (x_pickF rfl rfl rfl) ?_
        refine AL_p (x_move rfl rfl) ?_
        cases b60
        rotate_left
        · try simp only [tdy] at h60
          refine AL_o rfl rfl rfl rfl ?_
          refine AL_o rfl rfl rfl rfl ?_
          refine AL_o rfl rfl rfl rfl ?_
          refine AL_p (x_pickT rfl rfl rfl) ?_
          refine AL_nil ?_
          refine AW_condT rfl ?_
          refine AW_seq ?_
          refine AW_region ?_
          refine AL_p (x_assign rfl rfl) ?_
          refine AL_nil ?_
          refine AW_ret (BQ_ret (BQ_ret ?_))
          exact ⟨rn [], ⟨⟨⟨_, rfl, vle_bool (by first | exact (actsB_bad (k := k) (by omega) (by unfold actB; first | (rw [decide_eq_true_eq]; omega) | (rw [decide_eq_false_iff_not]; omega))).symm | exact (actsB_good hA (by omega) (by omega)).symm | exact (actsB_len (by omega)).symm)⟩, trivial⟩, trivial, trivial, rfl⟩⟩
        try simp only [tdy] at h60
        refine AL_g rfl rfl (x_field (off := 0) (o' := 0) rfl rfl rfl (by kernel_rfl) rfl) ?_
        refine AL_g rfl rfl (x_load1 rfl rfl rfl (by kernel_rfl) rfl) ?_
        refine AL_gb rfl rfl (x_gtr rfl rfl rfl) (fun b65 h65 => ?_)
        refine AL_p (x_pickF rfl rfl rfl) ?_
        refine AL_nil ?_
        cases b65
        rotate_left
        · try simp only [tdy] at h65
          refine AW_condT rfl ?_
          refine AW_seq ?_
          refine AW_region ?_
          refine AL_p (x_assign rfl rfl) ?_
          refine AL_nil ?_
          refine AW_ret (BQ_ret (BQ_ret ?_))
          exact ⟨rn [], ⟨⟨⟨_, rfl, vle_bool (by first | exact (actsB_bad (k := k) (by omega) (by unfold actB; first | (rw [decide_eq_true_eq]; omega) | (rw [decide_eq_false_iff_not]; omega))).symm | exact (actsB_good hA (by omega) (by omega)).symm | exact (actsB_len (by omega)).symm)⟩, trivial⟩, trivial, trivial, rfl⟩⟩
        try simp only [tdy] at h65
        refine AW_condF rfl ?_
        refine AW_skip ?_
        refine AW_region ?_
        refine AL_p (x_add rfl rfl rfl (IntWalk.i64_in _ (by omega))) ?_
        refine AL_p (x_move rfl rfl) ?_
        refine AL_nil ?_
        refine ⟨⟨k + 1, ⟨by omega, hA.succ (by omega) (by unfold actB; first | (rw [decide_eq_true_eq]; omega) | (rw [decide_eq_false_iff_not]; omega))⟩⟩, rn [], ?_, by dsimp only; omega⟩
        exact ⟨by (repeat refine ⟨⟨_, rfl, by first | exact VLe.rf | exact vle_int (by dsimp only; omega)⟩, ?_⟩); exact trivial, by (repeat refine ⟨⟨_, rfl, by first | exact BLe.rf | exact BLe.box AllC.rf | exact BLe.arr (by exact rfl)⟩, ?_⟩); exact trivial, by repeat (first | exact trivial | refine ⟨⟨rfl, by first | (left; intro h; cases h) | (right; rfl), by first | exact (fun _ h => ⟨_, h⟩) | exact (fun _ _ => ⟨_, rfl⟩)⟩, ?_⟩), rfl⟩
      try simp only [tdy] at h44
      refine AL_g rfl rfl (x_field (off := 1) (o' := 1) rfl rfl rfl (by kernel_rfl) rfl) ?_
      refine AL_g rfl rfl (x_load1 rfl rfl rfl (by kernel_rfl) rfl) ?_
      refine AL_gb rfl rfl (x_eql rfl rfl rfl) (fun b48 h48 => ?_)
      refine AL_p (x_pickF rfl rfl rfl) ?_
      refine AL_p (x_move rfl rfl) ?_
      cases b48
      · try simp only [tdy] at h48
        refine AL_o rfl rfl rfl rfl ?_
        refine AL_o rfl rfl rfl rfl ?_
        refine AL_o rfl rfl rfl rfl ?_
        refine AL_p (x_pickF rfl rfl rfl) ?_
        refine AL_p (x_assign rfl rfl) ?_
        refine AL_nil ?_
        refine AW_seq ?_
        refine AW_region ?_
        refine AL_p (x_move rfl rfl) ?_
        refine AL_p (x_not rfl rfl) ?_
        refine AL_p (x_move rfl rfl) ?_
        refine AL_o rfl rfl rfl rfl ?_
        refine AL_o rfl rfl rfl rfl ?_
        refine AL_o rfl rfl rfl rfl ?_
        refine AL_p (x_pickT rfl rfl rfl) ?_
        refine AL_p (x_move rfl rfl) ?_
        refine AL_o rfl rfl rfl rfl ?_
        refine AL_o rfl rfl rfl rfl ?_
        refine AL_o rfl rfl rfl rfl ?_
        refine AL_p (x_pickT rfl rfl rfl) ?_
        refine AL_nil ?_
        refine AW_condT rfl ?_
        refine AW_seq ?_
        refine AW_region ?_
        refine AL_p (x_assign rfl rfl) ?_
        refine AL_nil ?_
        refine AW_ret (BQ_ret (BQ_ret ?_))
        exact ⟨rn [], ⟨⟨⟨_, rfl, vle_bool (by first | exact (actsB_bad (k := k) (by omega) (by unfold actB; first | (rw [decide_eq_true_eq]; omega) | (rw [decide_eq_false_iff_not]; omega))).symm | exact (actsB_good hA (by omega) (by omega)).symm | exact (actsB_len (by omega)).symm)⟩, trivial⟩, trivial, trivial, rfl⟩⟩
      try simp only [tdy] at h48
      refine AL_g rfl rfl (x_field (off := 2) (o' := 2) rfl rfl rfl (by kernel_rfl) rfl) ?_
      refine AL_g rfl rfl (x_load1 rfl rfl rfl (by kernel_rfl) rfl) ?_
      refine AL_gb rfl rfl (x_call0 rfl rfl rfl (numS_c _) rfl rfl) (fun b53 h53 => ?_)
      refine AL_p (x_pickT rfl rfl rfl) ?_
      refine AL_p (x_assign rfl rfl) ?_
      refine AL_nil ?_
      refine AW_seq ?_
      refine AW_region ?_
      refine AL_p (x_move rfl rfl) ?_
      refine AL_p (x_not rfl rfl) ?_
      refine AL_p (x_move rfl rfl) ?_
      cases b53
      · try simp only [tdy] at h53
        refine AL_o rfl rfl rfl rfl ?_
        refine AL_o rfl rfl rfl rfl ?_
        refine AL_o rfl rfl rfl rfl ?_
        refine AL_p (x_pickT rfl rfl rfl) ?_
        refine AL_p (x_move rfl rfl) ?_
        refine AL_o rfl rfl rfl rfl ?_
        refine AL_o rfl rfl rfl rfl ?_
        refine AL_o rfl rfl rfl rfl ?_
        refine AL_p (x_pickT rfl rfl rfl) ?_
        refine AL_nil ?_
        refine AW_condT rfl ?_
        refine AW_seq ?_
        refine AW_region ?_
        refine AL_p (x_assign rfl rfl) ?_
        refine AL_nil ?_
        refine AW_ret (BQ_ret (BQ_ret ?_))
        exact ⟨rn [], ⟨⟨⟨_, rfl, vle_bool (by first | exact (actsB_bad (k := k) (by omega) (by unfold actB; first | (rw [decide_eq_true_eq]; omega) | (rw [decide_eq_false_iff_not]; omega))).symm | exact (actsB_good hA (by omega) (by omega)).symm | exact (actsB_len (by omega)).symm)⟩, trivial⟩, trivial, trivial, rfl⟩⟩
      try simp only [tdy] at h53
      refine AL_g rfl rfl (x_field (off := 0) (o' := 0) rfl rfl rfl (by kernel_rfl) rfl) ?_
      refine AL_g rfl rfl (x_load1 rfl rfl rfl (by kernel_rfl) rfl) ?_
      refine AL_gb rfl rfl (x_lss rfl rfl rfl) (fun b60 h60 => ?_)
      refine AL_p (x_pickF rfl rfl rfl) ?_
      refine AL_p (x_move rfl rfl) ?_
      cases b60
      rotate_left
      · try simp only [tdy] at h60
        refine AL_o rfl rfl rfl rfl ?_
        refine AL_o rfl rfl rfl rfl ?_
        refine AL_o rfl rfl rfl rfl ?_
        refine AL_p (x_pickT rfl rfl rfl) ?_
        refine AL_nil ?_
        refine AW_condT rfl ?_
        refine AW_seq ?_
        refine AW_region ?_
        refine AL_p (x_assign rfl rfl) ?_
        refine AL_nil ?_
        refine AW_ret (BQ_ret (BQ_ret ?_))
        exact ⟨rn [], ⟨⟨⟨_, rfl, vle_bool (by first | exact (actsB_bad (k := k) (by omega) (by unfold actB; first | (rw [decide_eq_true_eq]; omega) | (rw [decide_eq_false_iff_not]; omega))).symm | exact (actsB_good hA (by omega) (by omega)).symm | exact (actsB_len (by omega)).symm)⟩, trivial⟩, trivial, trivial, rfl⟩⟩
      try simp only [tdy] at h60
      refine AL_g rfl rfl (x_field (off := 0) (o' := 0) rfl rfl rfl (by kernel_rfl) rfl) ?_
      refine AL_g rfl rfl (x_load1 rfl rfl rfl (by kernel_rfl) rfl) ?_
      refine AL_gb rfl rfl (x_gtr rfl rfl rfl) (fun b65 h65 => ?_)
      refine AL_p (x_pickF rfl rfl rfl) ?_
      refine AL_nil ?_
      cases b65
      rotate_left
      · try simp only [tdy] at h65
        refine AW_condT rfl ?_
        refine AW_seq ?_
        refine AW_region ?_
        refine AL_p (x_assign rfl rfl) ?_
        refine AL_nil ?_
        refine AW_ret (BQ_ret (BQ_ret ?_))
        exact ⟨rn [], ⟨⟨⟨_, rfl, vle_bool (by first | exact (actsB_bad (k := k) (by omega) (by unfold actB; first | (rw [decide_eq_true_eq]; omega) | (rw [decide_eq_false_iff_not]; omega))).symm | exact (actsB_good hA (by omega) (by omega)).symm | exact (actsB_len (by omega)).symm)⟩, trivial⟩, trivial, trivial, rfl⟩⟩
      try simp only [tdy] at h65
      refine AW_condF rfl ?_
      refine AW_skip ?_
      refine AW_region ?_
      refine AL_p (x_add rfl rfl rfl (IntWalk.i64_in _ (by omega))) ?_
      refine AL_p (x_move rfl rfl) ?_
      refine AL_nil ?_
      refine ⟨⟨k + 1, ⟨by omega, hA.succ (by omega) (by unfold actB; first | (rw [decide_eq_true_eq]; omega) | (rw [decide_eq_false_iff_not]; omega))⟩⟩, rn [], ?_, by dsimp only; omega⟩
      exact ⟨by (repeat refine ⟨⟨_, rfl, by first | exact VLe.rf | exact vle_int (by dsimp only; omega)⟩, ?_⟩); exact trivial, by (repeat refine ⟨⟨_, rfl, by first | exact BLe.rf | exact BLe.box AllC.rf | exact BLe.arr (by exact rfl)⟩, ?_⟩); exact trivial, by repeat (first | exact trivial | refine ⟨⟨rfl, by first | (left; intro h; cases h) | (right; rfl), by first | exact (fun _ h => ⟨_, h⟩) | exact (fun _ _ => ⟨_, rfl⟩)⟩, ?_⟩), rfl⟩
    try simp only [tdy] at h28
    refine AL_g rfl rfl (x_field (off := 1) (o' := 1) rfl rfl rfl (by kernel_rfl) rfl) ?_
    refine AL_g rfl rfl (x_load1 rfl rfl rfl (by kernel_rfl) rfl) ?_
    refine AL_gb rfl rfl (x_leq rfl rfl rfl) (fun b32 h32 => ?_)
    refine AL_p (x_pickT rfl rfl rfl) ?_
    refine AL_p (x_move rfl rfl) ?_
    cases b32
    · try simp only [tdy] at h32
      refine AL_o rfl rfl rfl rfl ?_
      refine AL_o rfl rfl rfl rfl ?_
      refine AL_o rfl rfl rfl rfl ?_
      refine AL_p (x_pickF rfl rfl rfl) ?_
      refine AL_p (x_assign rfl rfl) ?_
      refine AL_nil ?_
      refine AW_seq ?_
      refine AW_seq ?_
      refine AW_region ?_
      refine AL_p (x_field (off := 0) (o' := 0) rfl rfl rfl (by kernel_rfl) rfl) ?_
      refine AL_p (x_load1 rfl rfl rfl (by kernel_rfl) rfl) ?_
      refine AL_b (x_eql rfl rfl rfl) (fun b41 h41 => ?_)
      refine AL_nil ?_
      cases b41
      · try simp only [tdy] at h41
        refine AW_condF rfl ?_
        refine AW_skip ?_
        refine AW_seq ?_
        refine AW_region ?_
        refine AL_p (x_move rfl rfl) ?_
        refine AL_p (x_not rfl rfl) ?_
        refine AL_p (x_move rfl rfl) ?_
        refine AL_o rfl rfl rfl rfl ?_
        refine AL_o rfl rfl rfl rfl ?_
        refine AL_o rfl rfl rfl rfl ?_
        refine AL_p (x_pickT rfl rfl rfl) ?_
        refine AL_p (x_move rfl rfl) ?_
        refine AL_o rfl rfl rfl rfl ?_
        refine AL_o rfl rfl rfl rfl ?_
        refine AL_o rfl rfl rfl rfl ?_
        refine AL_p (x_pickT rfl rfl rfl) ?_
        refine AL_nil ?_
        refine AW_condT rfl ?_
        refine AW_seq ?_
        refine AW_region ?_
        refine AL_p (x_assign rfl rfl) ?_
        refine AL_nil ?_
        refine AW_ret (BQ_ret (BQ_ret ?_))
        exact ⟨rn [], ⟨⟨⟨_, rfl, vle_bool (by first | exact (actsB_bad (k := k) (by omega) (by unfold actB; first | (rw [decide_eq_true_eq]; omega) | (rw [decide_eq_false_iff_not]; omega))).symm | exact (actsB_good hA (by omega) (by omega)).symm | exact (actsB_len (by omega)).symm)⟩, trivial⟩, trivial, trivial, rfl⟩⟩
      try simp only [tdy] at h41
      refine AW_condT rfl ?_
      refine AW_region ?_
      refine AL_p (x_field (off := 1) (o' := 1) rfl rfl rfl (by kernel_rfl) rfl) ?_
      refine AL_p (x_load1 rfl rfl rfl (by kernel_rfl) rfl) ?_
      refine AL_b (x_eql rfl rfl rfl) (fun b44 h44 => ?_)
      refine AL_p (x_move rfl rfl) ?_
      cases b44
      rotate_left
      · try simp only [tdy] at h44
        refine AL_o rfl rfl rfl rfl ?_
        refine AL_o rfl rfl rfl rfl ?_
        refine AL_o rfl rfl rfl rfl ?_
        refine AL_p (x_pickT rfl rfl rfl) ?_
        refine AL_p (x_move rfl rfl) ?_
        refine AL_g rfl rfl (x_field (off := 2) (o' := 2) rfl rfl rfl (by kernel_rfl) rfl) ?_
        refine AL_g rfl rfl (x_load1 rfl rfl rfl (by kernel_rfl) rfl) ?_
        refine AL_gb rfl rfl (x_call0 rfl rfl rfl (numS_c _) rfl rfl) (fun b53 h53 => ?_)
        refine AL_p (x_pickT rfl rfl rfl) ?_
        refine AL_p (x_assign rfl rfl) ?_
        refine AL_nil ?_
        refine AW_seq ?_
        refine AW_region ?_
        refine AL_p (x_move rfl rfl) ?_
        refine AL_p (x_not rfl rfl) ?_
        refine AL_p (x_move rfl rfl) ?_
        cases b53
        · try simp only [tdy] at h53
          refine AL_o rfl rfl rfl rfl ?_
          refine AL_o rfl rfl rfl rfl ?_
          refine AL_o rfl rfl rfl rfl ?_
          refine AL_p (x_pickT rfl rfl rfl) ?_
          refine AL_p (x_move rfl rfl) ?_
          refine AL_o rfl rfl rfl rfl ?_
          refine AL_o rfl rfl rfl rfl ?_
          refine AL_o rfl rfl rfl rfl ?_
          refine AL_p (x_pickT rfl rfl rfl) ?_
          refine AL_nil ?_
          refine AW_condT rfl ?_
          refine AW_seq ?_
          refine AW_region ?_
          refine AL_p (x_assign rfl rfl) ?_
          refine AL_nil ?_
          refine AW_ret (BQ_ret (BQ_ret ?_))
          exact ⟨rn [], ⟨⟨⟨_, rfl, vle_bool (by first | exact (actsB_bad (k := k) (by omega) (by unfold actB; first | (rw [decide_eq_true_eq]; omega) | (rw [decide_eq_false_iff_not]; omega))).symm | exact (actsB_good hA (by omega) (by omega)).symm | exact (actsB_len (by omega)).symm)⟩, trivial⟩, trivial, trivial, rfl⟩⟩
        try simp only [tdy] at h53
        refine AL_g rfl rfl (x_field (off := 0) (o' := 0) rfl rfl rfl (by kernel_rfl) rfl) ?_
        refine AL_g rfl rfl (x_load1 rfl rfl rfl (by kernel_rfl) rfl) ?_
        refine AL_gb rfl rfl (x_lss rfl rfl rfl) (fun b60 h60 => ?_)
        refine AL_p (x_pickF rfl rfl rfl) ?_
        refine AL_p (x_move rfl rfl) ?_
        cases b60
        rotate_left
        · try simp only [tdy] at h60
          refine AL_o rfl rfl rfl rfl ?_
          refine AL_o rfl rfl rfl rfl ?_
          refine AL_o rfl rfl rfl rfl ?_
          refine AL_p (x_pickT rfl rfl rfl) ?_
          refine AL_nil ?_
          refine AW_condT rfl ?_
          refine AW_seq ?_
          refine AW_region ?_
          refine AL_p (x_assign rfl rfl) ?_
          refine AL_nil ?_
          refine AW_ret (BQ_ret (BQ_ret ?_))
          exact ⟨rn [], ⟨⟨⟨_, rfl, vle_bool (by first | exact (actsB_bad (k := k) (by omega) (by unfold actB; first | (rw [decide_eq_true_eq]; omega) | (rw [decide_eq_false_iff_not]; omega))).symm | exact (actsB_good hA (by omega) (by omega)).symm | exact (actsB_len (by omega)).symm)⟩, trivial⟩, trivial, trivial, rfl⟩⟩
        try simp only [tdy] at h60
        refine AL_g rfl rfl (x_field (off := 0) (o' := 0) rfl rfl rfl (by kernel_rfl) rfl) ?_
        refine AL_g rfl rfl (x_load1 rfl rfl rfl (by kernel_rfl) rfl) ?_
        refine AL_gb rfl rfl (x_gtr rfl rfl rfl) (fun b65 h65 => ?_)
        refine AL_p (x_pickF rfl rfl rfl) ?_
        refine AL_nil ?_
        cases b65
        rotate_left
        · try simp only [tdy] at h65
          refine AW_condT rfl ?_
          refine AW_seq ?_
          refine AW_region ?_
          refine AL_p (x_assign rfl rfl) ?_
          refine AL_nil ?_
          refine AW_ret (BQ_ret (BQ_ret ?_))
          exact ⟨rn [], ⟨⟨⟨_, rfl, vle_bool (by first | exact (actsB_bad (k := k) (by omega) (by unfold actB; first | (rw [decide_eq_true_eq]; omega) | (rw [decide_eq_false_iff_not]; omega))).symm | exact (actsB_good hA (by omega) (by omega)).symm | exact (actsB_len (by omega)).symm)⟩, trivial⟩, trivial, trivial, rfl⟩⟩
        try simp only [tdy] at h65
        refine AW_condF rfl ?_
        refine AW_skip ?_
        refine AW_region ?_
        refine AL_p (x_add rfl rfl rfl (IntWalk.i64_in _ (by omega))) ?_
        refine AL_p (x_move rfl rfl) ?_
        refine AL_nil ?_
        refine ⟨⟨k + 1, ⟨by omega, hA.succ (by omega) (by unfold actB; first | (rw [decide_eq_true_eq]; omega) | (rw [decide_eq_false_iff_not]; omega))⟩⟩, rn [], ?_, by dsimp only; omega⟩
        exact ⟨by (repeat refine ⟨⟨_, rfl, by first | exact VLe.rf | exact vle_int (by dsimp only; omega)⟩, ?_⟩); exact trivial, by (repeat refine ⟨⟨_, rfl, by first | exact BLe.rf | exact BLe.box AllC.rf | exact BLe.arr (by exact rfl)⟩, ?_⟩); exact trivial, by repeat (first | exact trivial | refine ⟨⟨rfl, by first | (left; intro h; cases h) | (right; rfl), by first | exact (fun _ h => ⟨_, h⟩) | exact (fun _ _ => ⟨_, rfl⟩)⟩, ?_⟩), rfl⟩
      try simp only [tdy] at h44
      refine AL_g rfl rfl (x_field (off := 1) (o' := 1) rfl rfl rfl (by kernel_rfl) rfl) ?_
      refine AL_g rfl rfl (x_load1 rfl rfl rfl (by kernel_rfl) rfl) ?_
      refine AL_gb rfl rfl (x_eql rfl rfl rfl) (fun b48 h48 => ?_)
      refine AL_p (x_pickF rfl rfl rfl) ?_
      refine AL_p (x_move rfl rfl) ?_
      cases b48
      · try simp only [tdy] at h48
        refine AL_o rfl rfl rfl rfl ?_
        refine AL_o rfl rfl rfl rfl ?_
        refine AL_o rfl rfl rfl rfl ?_
        refine AL_p (x_pickF rfl rfl rfl) ?_
        refine AL_p (x_assign rfl rfl) ?_
        refine AL_nil ?_
        refine AW_seq ?_
        refine AW_region ?_
        refine AL_p (x_move rfl rfl) ?_
        refine AL_p (x_not rfl rfl) ?_
        refine AL_p (x_move rfl rfl) ?_
        refine AL_o rfl rfl rfl rfl ?_
        refine AL_o rfl rfl rfl rfl ?_
        refine AL_o rfl rfl rfl rfl ?_
        refine AL_p (x_pickT rfl rfl rfl) ?_
        refine AL_p (x_move rfl rfl) ?_
        refine AL_o rfl rfl rfl rfl ?_
        refine AL_o rfl rfl rfl rfl ?_
        refine AL_o rfl rfl rfl rfl ?_
        refine AL_p (x_pickT rfl rfl rfl) ?_
        refine AL_nil ?_
        refine AW_condT rfl ?_
        refine AW_seq ?_
        refine AW_region ?_
        refine AL_p (x_assign rfl rfl) ?_
        refine AL_nil ?_
        refine AW_ret (BQ_ret (BQ_ret ?_))
        exact ⟨rn [], ⟨⟨⟨_, rfl, vle_bool (by first | exact (actsB_bad (k := k) (by omega) (by unfold actB; first | (rw [decide_eq_true_eq]; omega) | (rw [decide_eq_false_iff_not]; omega))).symm | exact (actsB_good hA (by omega) (by omega)).symm | exact (actsB_len (by omega)).symm)⟩, trivial⟩, trivial, trivial, rfl⟩⟩
      try simp only [tdy] at h48
      refine AL_g rfl rfl (x_field (off := 2) (o' := 2) rfl rfl rfl (by kernel_rfl) rfl) ?_
      refine AL_g rfl rfl (x_load1 rfl rfl rfl (by kernel_rfl) rfl) ?_
      refine AL_gb rfl rfl (x_call0 rfl rfl rfl (numS_c _) rfl rfl) (fun b53 h53 => ?_)
      refine AL_p (x_pickT rfl rfl rfl) ?_
      refine AL_p (x_assign rfl rfl) ?_
      refine AL_nil ?_
      refine AW_seq ?_
      refine AW_region ?_
      refine AL_p (x_move rfl rfl) ?_
      refine AL_p (x_not rfl rfl) ?_
      refine AL_p (x_move rfl rfl) ?_
      cases b53
      · try simp only [tdy] at h53
        refine AL_o rfl rfl rfl rfl ?_
        refine AL_o rfl rfl rfl rfl ?_
        refine AL_o rfl rfl rfl rfl ?_
        refine AL_p (x_pickT rfl rfl rfl) ?_
        refine AL_p (x_move rfl rfl) ?_
        refine AL_o rfl rfl rfl rfl ?_
        refine AL_o rfl rfl rfl rfl ?_
        refine AL_o rfl rfl rfl rfl ?_
        refine AL_p (x_pickT rfl rfl rfl) ?_
        refine AL_nil ?_
        refine AW_condT rfl ?_
        refine AW_seq ?_
        refine AW_region ?_
        refine AL_p (x_assign rfl rfl) ?_
        refine AL_nil ?_
        refine AW_ret (BQ_ret (BQ_ret ?_))
        exact ⟨rn [], ⟨⟨⟨_, rfl, vle_bool (by first | exact (actsB_bad (k := k) (by omega) (by unfold actB; first | (rw [decide_eq_true_eq]; omega) | (rw [decide_eq_false_iff_not]; omega))).symm | exact (actsB_good hA (by omega) (by omega)).symm | exact (actsB_len (by omega)).symm)⟩, trivial⟩, trivial, trivial, rfl⟩⟩
      try simp only [tdy] at h53
      refine AL_g rfl rfl (x_field (off := 0) (o' := 0) rfl rfl rfl (by kernel_rfl) rfl) ?_
      refine AL_g rfl rfl (x_load1 rfl rfl rfl (by kernel_rfl) rfl) ?_
      refine AL_gb rfl rfl (x_lss rfl rfl rfl) (fun b60 h60 => ?_)
      refine AL_p (x_pickF rfl rfl rfl) ?_
      refine AL_p (x_move rfl rfl) ?_
      cases b60
      rotate_left
      · try simp only [tdy] at h60
        refine AL_o rfl rfl rfl rfl ?_
        refine AL_o rfl rfl rfl rfl ?_
        refine AL_o rfl rfl rfl rfl ?_
        refine AL_p (x_pickT rfl rfl rfl) ?_
        refine AL_nil ?_
        refine AW_condT rfl ?_
        refine AW_seq ?_
        refine AW_region ?_
        refine AL_p (x_assign rfl rfl) ?_
        refine AL_nil ?_
        refine AW_ret (BQ_ret (BQ_ret ?_))
        exact ⟨rn [], ⟨⟨⟨_, rfl, vle_bool (by first | exact (actsB_bad (k := k) (by omega) (by unfold actB; first | (rw [decide_eq_true_eq]; omega) | (rw [decide_eq_false_iff_not]; omega))).symm | exact (actsB_good hA (by omega) (by omega)).symm | exact (actsB_len (by omega)).symm)⟩, trivial⟩, trivial, trivial, rfl⟩⟩
      try simp only [tdy] at h60
      refine AL_g rfl rfl (x_field (off := 0) (o' := 0) rfl rfl rfl (by kernel_rfl) rfl) ?_
      refine AL_g rfl rfl (x_load1 rfl rfl rfl (by kernel_rfl) rfl) ?_
      refine AL_gb rfl rfl (x_gtr rfl rfl rfl) (fun b65 h65 => ?_)
      refine AL_p (x_pickF rfl rfl rfl) ?_
      refine AL_nil ?_
      cases b65
      rotate_left
      · try simp only [tdy] at h65
        refine AW_condT rfl ?_
        refine AW_seq ?_
        refine AW_region ?_
        refine AL_p (x_assign rfl rfl) ?_
        refine AL_nil ?_
        refine AW_ret (BQ_ret (BQ_ret ?_))
        exact ⟨rn [], ⟨⟨⟨_, rfl, vle_bool (by first | exact (actsB_bad (k := k) (by omega) (by unfold actB; first | (rw [decide_eq_true_eq]; omega) | (rw [decide_eq_false_iff_not]; omega))).symm | exact (actsB_good hA (by omega) (by omega)).symm | exact (actsB_len (by omega)).symm)⟩, trivial⟩, trivial, trivial, rfl⟩⟩
      try simp only [tdy] at h65
      refine AW_condF rfl ?_
      refine AW_skip ?_
      refine AW_region ?_
      refine AL_p (x_add rfl rfl rfl (IntWalk.i64_in _ (by omega))) ?_
      refine AL_p (x_move rfl rfl) ?_
      refine AL_nil ?_
      refine ⟨⟨k + 1, ⟨by omega, hA.succ (by omega) (by unfold actB; first | (rw [decide_eq_true_eq]; omega) | (rw [decide_eq_false_iff_not]; omega))⟩⟩, rn [], ?_, by dsimp only; omega⟩
      exact ⟨by (repeat refine ⟨⟨_, rfl, by first | exact VLe.rf | exact vle_int (by dsimp only; omega)⟩, ?_⟩); exact trivial, by (repeat refine ⟨⟨_, rfl, by first | exact BLe.rf | exact BLe.box AllC.rf | exact BLe.arr (by exact rfl)⟩, ?_⟩); exact trivial, by repeat (first | exact trivial | refine ⟨⟨rfl, by first | (left; intro h; cases h) | (right; rfl), by first | exact (fun _ h => ⟨_, h⟩) | exact (fun _ _ => ⟨_, rfl⟩)⟩, ?_⟩), rfl⟩
    try simp only [tdy] at h32
    refine AL_g rfl rfl (x_field (off := 2) (o' := 2) rfl rfl rfl (by kernel_rfl) rfl) ?_
    refine AL_g rfl rfl (x_load1 rfl rfl rfl (by kernel_rfl) rfl) ?_
    refine AL_gb rfl rfl (x_eql rfl rfl rfl) (fun b37 h37 => ?_)
    refine AL_p (x_pickT rfl rfl rfl) ?_
    refine AL_p (x_assign rfl rfl) ?_
    refine AL_nil ?_
    refine AW_seq ?_
    refine AW_seq ?_
    refine AW_region ?_
    refine AL_p (x_field (off := 0) (o' := 0) rfl rfl rfl (by kernel_rfl) rfl) ?_
    refine AL_p (x_load1 rfl rfl rfl (by kernel_rfl) rfl) ?_
    refine AL_b (x_eql rfl rfl rfl) (fun b41 h41 => ?_)
    refine AL_nil ?_
    cases b41
    · try simp only [tdy] at h41
      refine AW_condF rfl ?_
      refine AW_skip ?_
      refine AW_seq ?_
      refine AW_region ?_
      refine AL_p (x_move rfl rfl) ?_
      refine AL_p (x_not rfl rfl) ?_
      refine AL_p (x_move rfl rfl) ?_
      cases b37
      · try simp only [tdy] at h37
        refine AL_o rfl rfl rfl rfl ?_
        refine AL_o rfl rfl rfl rfl ?_
        refine AL_o rfl rfl rfl rfl ?_
        refine AL_p (x_pickT rfl rfl rfl) ?_
        refine AL_p (x_move rfl rfl) ?_
        refine AL_o rfl rfl rfl rfl ?_
        refine AL_o rfl rfl rfl rfl ?_
        refine AL_o rfl rfl rfl rfl ?_
        refine AL_p (x_pickT rfl rfl rfl) ?_
        refine AL_nil ?_
        refine AW_condT rfl ?_
        refine AW_seq ?_
        refine AW_region ?_
        refine AL_p (x_assign rfl rfl) ?_
        refine AL_nil ?_
        refine AW_ret (BQ_ret (BQ_ret ?_))
        exact ⟨rn [], ⟨⟨⟨_, rfl, vle_bool (by first | exact (actsB_bad (k := k) (by omega) (by unfold actB; first | (rw [decide_eq_true_eq]; omega) | (rw [decide_eq_false_iff_not]; omega))).symm | exact (actsB_good hA (by omega) (by omega)).symm | exact (actsB_len (by omega)).symm)⟩, trivial⟩, trivial, trivial, rfl⟩⟩
      try simp only [tdy] at h37
      refine AL_g rfl rfl (x_field (off := 0) (o' := 0) rfl rfl rfl (by kernel_rfl) rfl) ?_
      refine AL_g rfl rfl (x_load1 rfl rfl rfl (by kernel_rfl) rfl) ?_
      refine AL_gb rfl rfl (x_lss rfl rfl rfl) (fun b60 h60 => ?_)
      refine AL_p (x_pickF rfl rfl rfl) ?_
      refine AL_p (x_move rfl rfl) ?_
      cases b60
      rotate_left
      · try simp only [tdy] at h60
        refine AL_o rfl rfl rfl rfl ?_
        refine AL_o rfl rfl rfl rfl ?_
        refine AL_o rfl rfl rfl rfl ?_
        refine AL_p (x_pickT rfl rfl rfl) ?_
        refine AL_nil ?_
        refine AW_condT rfl ?_
        refine AW_seq ?_
        refine AW_region ?_
        refine AL_p (x_assign rfl rfl) ?_
        refine AL_nil ?_
        refine AW_ret (BQ_ret (BQ_ret ?_))
        exact ⟨rn [], ⟨⟨⟨_, rfl, vle_bool (by first | exact (actsB_bad (k := k) (by omega) (by unfold actB; first | (rw [decide_eq_true_eq]; omega) | (rw [decide_eq_false_iff_not]; omega))).symm | exact (actsB_good hA (by omega) (by omega)).symm | exact (actsB_len (by omega)).symm)⟩, trivial⟩, trivial, trivial, rfl⟩⟩
      try simp only [tdy] at h60
      refine AL_g rfl rfl (x_field (off := 0) (o' := 0) rfl rfl rfl (by kernel_rfl) rfl) ?_
      refine AL_g rfl rfl (x_load1 rfl rfl rfl (by kernel_rfl) rfl) ?_
      refine AL_gb rfl rfl (x_gtr rfl rfl rfl) (fun b65 h65 => ?_)
      refine AL_p (x_pickF rfl rfl rfl) ?_
      refine AL_nil ?_
      cases b65
      rotate_left
      · try simp only [tdy] at h65
        refine AW_condT rfl ?_
        refine AW_seq ?_
        refine AW_region ?_
        refine AL_p (x_assign rfl rfl) ?_
        refine AL_nil ?_
        refine AW_ret (BQ_ret (BQ_ret ?_))
        exact ⟨rn [], ⟨⟨⟨_, rfl, vle_bool (by first | exact (actsB_bad (k := k) (by omega) (by unfold actB; first | (rw [decide_eq_true_eq]; omega) | (rw [decide_eq_false_iff_not]; omega))).symm | exact (actsB_good hA (by omega) (by omega)).symm | exact (actsB_len (by omega)).symm)⟩, trivial⟩, trivial, trivial, rfl⟩⟩
      try simp only [tdy] at h65
      refine AW_condF rfl ?_
      refine AW_skip ?_
      refine AW_region ?_
      refine AL_p (x_add rfl rfl rfl (IntWalk.i64_in _ (by omega))) ?_
      refine AL_p (x_move rfl rfl) ?_
      refine AL_nil ?_
      refine ⟨⟨k + 1, ⟨by omega, hA.succ (by omega) (by unfold actB; first | (rw [decide_eq_true_eq]; omega) | (rw [decide_eq_false_iff_not]; omega))⟩⟩, rn [], ?_, by dsimp only; omega⟩
      exact ⟨by (repeat refine ⟨⟨_, rfl, by first | exact VLe.rf | exact vle_int (by dsimp only; omega)⟩, ?_⟩); exact trivial, by (repeat refine ⟨⟨_, rfl, by first | exact BLe.rf | exact BLe.box AllC.rf | exact BLe.arr (by exact rfl)⟩, ?_⟩); exact trivial, by repeat (first | exact trivial | refine ⟨⟨rfl, by first | (left; intro h; cases h) | (right; rfl), by first | exact (fun _ h => ⟨_, h⟩) | exact (fun _ _ => ⟨_, rfl⟩)⟩, ?_⟩), rfl⟩
    try simp only [tdy] at h41
    refine AW_condT rfl ?_
    refine AW_region ?_
    refine AL_p (x_field (off := 1) (o' := 1) rfl rfl rfl (by kernel_rfl) rfl) ?_
    refine AL_p (x_load1 rfl rfl rfl (by kernel_rfl) rfl) ?_
    refine AL_b (x_eql rfl rfl rfl) (fun b44 h44 => ?_)
    refine AL_p (x_move rfl rfl) ?_
    cases b44
    rotate_left
    · try simp only [tdy] at h44
      refine AL_o rfl rfl rfl rfl ?_
      refine AL_o rfl rfl rfl rfl ?_
      refine AL_o rfl rfl rfl rfl ?_
      refine AL_p (x_pickT rfl rfl rfl) ?_
      refine AL_p (x_move rfl rfl) ?_
      refine AL_g rfl rfl (x_field (off := 2) (o' := 2) rfl rfl rfl (by kernel_rfl) rfl) ?_
      refine AL_g rfl rfl (x_load1 rfl rfl rfl (by kernel_rfl) rfl) ?_
      refine AL_gb rfl rfl (x_call0 rfl rfl rfl (numS_c _) rfl rfl) (fun b53 h53 => ?_)
      refine AL_p (x_pickT rfl rfl rfl) ?_
      refine AL_p (x_assign rfl rfl) ?_
      refine AL_nil ?_
      refine AW_seq ?_
      refine AW_region ?_
      refine AL_p (x_move rfl rfl) ?_
      refine AL_p (x_not rfl rfl) ?_
      refine AL_p (x_move rfl rfl) ?_
      cases b53
      · try simp only [tdy] at h53
        refine AL_o rfl rfl rfl rfl ?_
        refine AL_o rfl rfl rfl rfl ?_
        refine AL_o rfl rfl rfl rfl ?_
        refine AL_p (x_pickT rfl rfl rfl) ?_
        refine AL_p (x_move rfl rfl) ?_
        refine AL_o rfl rfl rfl rfl ?_
        refine AL_o rfl rfl rfl rfl ?_
        refine AL_o rfl rfl rfl rfl ?_
        refine AL_p (x_pickT rfl rfl rfl) ?_
        refine AL_nil ?_
        refine AW_condT rfl ?_
        refine AW_seq ?_
        refine AW_region ?_
        refine AL_p (x_assign rfl rfl) ?_
        refine AL_nil ?_
        refine AW_ret (BQ_ret (BQ_ret ?_))
        exact ⟨rn [], ⟨⟨⟨_, rfl, vle_bool (by first | exact (actsB_bad (k := k) (by omega) (by unfold actB; first | (rw [decide_eq_true_eq]; omega) | (rw [decide_eq_false_iff_not]; omega))).symm | exact (actsB_good hA (by omega) (by omega)).symm | exact (actsB_len (by omega)).symm)⟩, trivial⟩, trivial, trivial, rfl⟩⟩
      try simp only [tdy] at h53
      refine AL_g rfl rfl (x_field (off := 0) (o' := 0) rfl rfl rfl (by kernel_rfl) rfl) ?_
      refine AL_g rfl rfl (x_load1 rfl rfl rfl (by kernel_rfl) rfl) ?_
      refine AL_gb rfl rfl (x_lss rfl rfl rfl) (fun b60 h60 => ?_)
      refine AL_p (x_pickF rfl rfl rfl) ?_
      refine AL_p (x_move rfl rfl) ?_
      cases b60
      rotate_left
      · try simp only [tdy] at h60
        refine AL_o rfl rfl rfl rfl ?_
        refine AL_o rfl rfl rfl rfl ?_
        refine AL_o rfl rfl rfl rfl ?_
        refine AL_p (x_pickT rfl rfl rfl) ?_
        refine AL_nil ?_
        refine AW_condT rfl ?_
        refine AW_seq ?_
        refine AW_region ?_
        refine AL_p (x_assign rfl rfl) ?_
        refine AL_nil ?_
        refine AW_ret (BQ_ret (BQ_ret ?_))
        exact ⟨rn [], ⟨⟨⟨_, rfl, vle_bool (by first | exact (actsB_bad (k := k) (by omega) (by unfold actB; first | (rw [decide_eq_true_eq]; omega) | (rw [decide_eq_false_iff_not]; omega))).symm | exact (actsB_good hA (by omega) (by omega)).symm | exact (actsB_len (by omega)).symm)⟩, trivial⟩, trivial, trivial, rfl⟩⟩
      try simp only [tdy] at h60
      refine AL_g rfl rfl (x_field (off := 0) (o' := 0) rfl rfl rfl (by kernel_rfl) rfl) ?_
      refine AL_g rfl rfl (x_load1 rfl rfl rfl (by kernel_rfl) rfl) ?_
      refine AL_gb rfl rfl (x_gtr rfl rfl rfl) (fun b65 h65 => ?_)
      refine AL_p (x_pickF rfl rfl rfl) ?_
      refine AL_nil ?_
      cases b65
      rotate_left
      · try simp only [tdy] at h65
        refine AW_condT rfl ?_
        refine AW_seq ?_
        refine AW_region ?_
        refine AL_p (x_assign rfl rfl) ?_
        refine AL_nil ?_
        refine AW_ret (BQ_ret (BQ_ret ?_))
        exact ⟨rn [], ⟨⟨⟨_, rfl, vle_bool (by first | exact (actsB_bad (k := k) (by omega) (by unfold actB; first | (rw [decide_eq_true_eq]; omega) | (rw [decide_eq_false_iff_not]; omega))).symm | exact (actsB_good hA (by omega) (by omega)).symm | exact (actsB_len (by omega)).symm)⟩, trivial⟩, trivial, trivial, rfl⟩⟩
      try simp only [tdy] at h65
      refine AW_condF rfl ?_
      refine AW_skip ?_
      refine AW_region ?_
      refine AL_p (x_add rfl rfl rfl (IntWalk.i64_in _ (by omega))) ?_
      refine AL_p (x_move rfl rfl) ?_
      refine AL_nil ?_
      refine ⟨⟨k + 1, ⟨by omega, hA.succ (by omega) (by unfold actB; first | (rw [decide_eq_true_eq]; omega) | (rw [decide_eq_false_iff_not]; omega))⟩⟩, rn [], ?_, by dsimp only; omega⟩
      exact ⟨by (repeat refine ⟨⟨_, rfl, by first | exact VLe.rf | exact vle_int (by dsimp only; omega)⟩, ?_⟩); exact trivial, by (repeat refine ⟨⟨_, rfl, by first | exact BLe.rf | exact BLe.box AllC.rf | exact BLe.arr (by exact rfl)⟩, ?_⟩); exact trivial, by repeat (first | exact trivial | refine ⟨⟨rfl, by first | (left; intro h; cases h) | (right; rfl), by first | exact (fun _ h => ⟨_, h⟩) | exact (fun _ _ => ⟨_, rfl⟩)⟩, ?_⟩), rfl⟩
    try simp only [tdy] at h44
    refine AL_g rfl rfl (x_field (off := 1) (o' := 1) rfl rfl rfl (by kernel_rfl) rfl) ?_
    refine AL_g rfl rfl (x_load1 rfl rfl rfl (by kernel_rfl) rfl) ?_
    refine AL_gb rfl rfl (x_eql rfl rfl rfl) (fun b48 h48 => ?_)
    refine AL_p (x_pickF rfl rfl rfl) ?_
    refine AL_p (x_move rfl rfl) ?_
    cases b48
    · try simp only [tdy] at h48
      refine AL_o rfl rfl rfl rfl ?_
      refine AL_o rfl rfl rfl rfl ?_
      refine AL_o rfl rfl rfl rfl ?_
      refine AL_p (x_pickF rfl rfl rfl) ?_
      refine AL_p (x_assign rfl rfl) ?_
      refine AL_nil ?_
      refine AW_seq ?_
      refine AW_region ?_
      refine AL_p (x_move rfl rfl) ?_
      refine AL_p (x_not rfl rfl) ?_
      refine AL_p (x_move rfl rfl) ?_
      refine AL_o rfl rfl rfl rfl ?_
      refine AL_o rfl rfl rfl rfl ?_
      refine AL_o rfl rfl rfl rfl ?_
      refine AL_p (x_pickT rfl rfl rfl) ?_
      refine AL_p (x_move rfl rfl) ?_
      refine AL_o rfl rfl rfl rfl ?_
      refine AL_o rfl rfl rfl rfl ?_
      refine AL_o rfl rfl rfl rfl ?_
      refine AL_p (x_pickT rfl rfl rfl) ?_
      refine AL_nil ?_
      refine AW_condT rfl ?_
      refine AW_seq ?_
      refine AW_region ?_
      refine AL_p (x_assign rfl rfl) ?_
      refine AL_nil ?_
      refine AW_ret (BQ_ret (BQ_ret ?_))
      exact ⟨rn [], ⟨⟨⟨_, rfl, vle_bool (by first | exact (actsB_bad (k := k) (by omega) (by unfold actB; first | (rw [decide_eq_true_eq]; omega) | (rw [decide_eq_false_iff_not]; omega))).symm | exact (actsB_good hA (by omega) (by omega)).symm | exact (actsB_len (by omega)).symm)⟩, trivial⟩, trivial, trivial, rfl⟩⟩
    try simp only [tdy] at h48
    refine AL_g rfl rfl (x_field (off := 2) (o' := 2) rfl rfl rfl (by kernel_rfl) rfl) ?_
    refine AL_g rfl rfl (x_load1 rfl rfl rfl (by kernel_rfl) rfl) ?_
    refine AL_gb rfl rfl (x_call0 rfl rfl rfl (numS_c _) rfl rfl) (fun b53 h53 => ?_)
    refine AL_p (x_pickT rfl rfl rfl) ?_
    refine AL_p (x_assign rfl rfl) ?_
    refine AL_nil ?_
    refine AW_seq ?_
    refine AW_region ?_
    refine AL_p (x_move rfl rfl) ?_
    refine AL_p (x_not rfl rfl) ?_
    refine AL_p (x_move rfl rfl) ?_
    cases b53
    · try simp only [tdy] at h53
      refine AL_o rfl rfl rfl rfl ?_
      refine AL_o rfl rfl rfl rfl ?_
      refine AL_o rfl rfl rfl rfl ?_
      refine AL_p (x_pickT rfl rfl rfl) ?_
      refine AL_p (x_move rfl rfl) ?_
      refine AL_o rfl rfl rfl rfl ?_
      refine AL_o rfl rfl rfl rfl ?_
      refine AL_o rfl rfl rfl rfl ?_
      refine AL_p (x_pickT rfl rfl rfl) ?_
      refine AL_nil ?_
      refine AW_condT rfl ?_
      refine AW_seq ?_
      refine AW_region ?_
      refine AL_p (x_assign rfl rfl) ?_
      refine AL_nil ?_
      refine AW_ret (BQ_ret (BQ_ret ?_))
      exact ⟨rn [], ⟨⟨⟨_, rfl, vle_bool (by first | exact (actsB_bad (k := k) (by omega) (by unfold actB; first | (rw [decide_eq_true_eq]; omega) | (rw [decide_eq_false_iff_not]; omega))).symm | exact (actsB_good hA (by omega) (by omega)).symm | exact (actsB_len (by omega)).symm)⟩, trivial⟩, trivial, trivial, rfl⟩⟩
    try simp only [tdy] at h53
    refine AL_g rfl rfl (x_field (off := 0) (o' := 0) rfl rfl rfl (by kernel_rfl) rfl) ?_
    refine AL_g rfl rfl (x_load1 rfl rfl rfl (by kernel_rfl) rfl) ?_
    refine AL_gb rfl rfl (x_lss rfl rfl rfl) (fun b60 h60 => ?_)
    refine AL_p (x_pickF rfl rfl rfl) ?_
    refine AL_p (x_move rfl rfl) ?_
    cases b60
    rotate_left
    · try simp only [tdy] at h60
      refine AL_o rfl rfl rfl rfl ?_
      refine AL_o rfl rfl rfl rfl ?_
      refine AL_o rfl rfl rfl rfl ?_
      refine AL_p (x_pickT rfl rfl rfl) ?_
      refine AL_nil ?_
      refine AW_condT rfl ?_
      refine AW_seq ?_
      refine AW_region ?_
      refine AL_p (x_assign rfl rfl) ?_
      refine AL_nil ?_
      refine AW_ret (BQ_ret (BQ_ret ?_))
      exact ⟨rn [], ⟨⟨⟨_, rfl, vle_bool (by first | exact (actsB_bad (k := k) (by omega) (by unfold actB; first | (rw [decide_eq_true_eq]; omega) | (rw [decide_eq_false_iff_not]; omega))).symm | exact (actsB_good hA (by omega) (by omega)).symm | exact (actsB_len (by omega)).symm)⟩, trivial⟩, trivial, trivial, rfl⟩⟩
    try simp only [tdy] at h60
    refine AL_g rfl rfl (x_field (off := 0) (o' := 0) rfl rfl rfl (by kernel_rfl) rfl) ?_
    refine AL_g rfl rfl (x_load1 rfl rfl rfl (by kernel_rfl) rfl) ?_
    refine AL_gb rfl rfl (x_gtr rfl rfl rfl) (fun b65 h65 => ?_)
    refine AL_p (x_pickF rfl rfl rfl) ?_
    refine AL_nil ?_
    cases b65
    rotate_left
    · try simp only [tdy] at h65
      refine AW_condT rfl ?_
      refine AW_seq ?_
      refine AW_region ?_
      refine AL_p (x_assign rfl rfl) ?_
      refine AL_nil ?_
      refine AW_ret (BQ_ret (BQ_ret ?_))
      exact ⟨rn [], ⟨⟨⟨_, rfl, vle_bool (by first | exact (actsB_bad (k := k) (by omega) (by unfold actB; first | (rw [decide_eq_true_eq]; omega) | (rw [decide_eq_false_iff_not]; omega))).symm | exact (actsB_good hA (by omega) (by omega)).symm | exact (actsB_len (by omega)).symm)⟩, trivial⟩, trivial, trivial, rfl⟩⟩
    try simp only [tdy] at h65
    refine AW_condF rfl ?_
    refine AW_skip ?_
    refine AW_region ?_
    refine AL_p (x_add rfl rfl rfl (IntWalk.i64_in _ (by omega))) ?_
    refine AL_p (x_move rfl rfl) ?_
    refine AL_nil ?_
    refine ⟨⟨k + 1, ⟨by omega, hA.succ (by omega) (by unfold actB; first | (rw [decide_eq_true_eq]; omega) | (rw [decide_eq_false_iff_not]; omega))⟩⟩, rn [], ?_, by dsimp only; omega⟩
    exact ⟨by (repeat refine ⟨⟨_, rfl, by first | exact VLe.rf | exact vle_int (by dsimp only; omega)⟩, ?_⟩); exact trivial, by (repeat refine ⟨⟨_, rfl, by first | exact BLe.rf | exact BLe.box AllC.rf | exact BLe.arr (by exact rfl)⟩, ?_⟩); exact trivial, by repeat (first | exact trivial | refine ⟨⟨rfl, by first | (left; intro h; cases h) | (right; rfl), by first | exact (fun _ h => ⟨_, h⟩) | exact (fun _ _ => ⟨_, rfl⟩)⟩, ?_⟩), rfl⟩
  try simp only [tdy] at h17
  refine AL_g rfl rfl (x_field (off := 2) (o' := 2) rfl rfl rfl (by kernel_rfl) rfl) ?_
  refine AL_g rfl rfl (x_load1 rfl rfl rfl (by kernel_rfl) rfl) ?_
  refine AL_gb rfl rfl (x_eql rfl rfl rfl) (fun b21 h21 => ?_)
  refine AL_p (x_pickT rfl rfl rfl) ?_
  refine AL_p (x_assign rfl rfl) ?_
  refine AL_nil ?_
  refine AW_seq ?_
  refine AW_seq ?_
  refine AW_region ?_
  refine AL_p (x_field (off := 0) (o' := 0) rfl rfl rfl (by kernel_rfl) rfl) ?_
  refine AL_p (x_load1 rfl rfl rfl (by kernel_rfl) rfl) ?_
  refine AL_b (x_eql rfl rfl rfl) (fun b25 h25 => ?_)
  refine AL_nil ?_
  cases b25
  · try simp only [tdy] at h25
    refine AW_condF rfl ?_
    refine AW_skip ?_
    refine AW_seq ?_
    refine AW_seq ?_
    refine AW_region ?_
    refine AL_p (x_field (off := 0) (o' := 0) rfl rfl rfl (by kernel_rfl) rfl) ?_
    refine AL_p (x_load1 rfl rfl rfl (by kernel_rfl) rfl) ?_
    refine AL_b (x_eql rfl rfl rfl) (fun b41 h41 => ?_)
    refine AL_nil ?_
    cases b41
    · try simp only [tdy] at h41
      refine AW_condF rfl ?_
      refine AW_skip ?_
      refine AW_seq ?_
      refine AW_region ?_
      refine AL_p (x_move rfl rfl) ?_
      refine AL_p (x_not rfl rfl) ?_
      refine AL_p (x_move rfl rfl) ?_
      cases b21
      · try simp only [tdy] at h21
        refine AL_o rfl rfl rfl rfl ?_
        refine AL_o rfl rfl rfl rfl ?_
        refine AL_o rfl rfl rfl rfl ?_
        refine AL_p (x_pickT rfl rfl rfl) ?_
        refine AL_p (x_move rfl rfl) ?_
        refine AL_o rfl rfl rfl rfl ?_
        refine AL_o rfl rfl rfl rfl ?_
        refine AL_o rfl rfl rfl rfl ?_
        refine AL_p (x_pickT rfl rfl rfl) ?_
        refine AL_nil ?_
        refine AW_condT rfl ?_
        refine AW_seq ?_
        refine AW_region ?_
        refine AL_p (x_assign rfl rfl) ?_
        refine AL_nil ?_
        refine AW_ret (BQ_ret (BQ_ret ?_))
        exact ⟨rn [], ⟨⟨⟨_, rfl, vle_bool (by first | exact (actsB_bad (k := k) (by omega) (by unfold actB; first | (rw [decide_eq_true_eq]; omega) | (rw [decide_eq_false_iff_not]; omega))).symm | exact (actsB_good hA (by omega) (by omega)).symm | exact (actsB_len (by omega)).symm)⟩, trivial⟩, trivial, trivial, rfl⟩⟩
      try simp only [tdy] at h21
      refine AL_g rfl rfl (x_field (off := 0) (o' := 0) rfl rfl rfl (by kernel_rfl) rfl) ?_
      refine AL_g rfl rfl (x_load1 rfl rfl rfl (by kernel_rfl) rfl) ?_
      refine AL_gb rfl rfl (x_lss rfl rfl rfl) (fun b60 h60 => ?_)
      refine AL_p (x_pickF rfl rfl rfl) ?_
      refine AL_p (x_move rfl rfl) ?_
      cases b60
      rotate_left
      · try simp only [tdy] at h60
        refine AL_o rfl rfl rfl rfl ?_
        refine AL_o rfl rfl rfl rfl ?_
        refine AL_o rfl rfl rfl rfl ?_
        refine AL_p (x_pickT rfl rfl rfl) ?_
        refine AL_nil ?_
        refine AW_condT rfl ?_
        refine AW_seq ?_
        refine AW_region ?_
        refine AL_p (x_assign rfl rfl) ?_
        refine AL_nil ?_
        refine AW_ret (BQ_ret (BQ_ret ?_))
        exact ⟨rn [], ⟨⟨⟨_, rfl, vle_bool (by first | exact (actsB_bad (k := k) (by omega) (by unfold actB; first | (rw [decide_eq_true_eq]; omega) | (rw [decide_eq_false_iff_not]; omega))).symm | exact (actsB_good hA (by omega) (by omega)).symm | exact (actsB_len (by omega)).symm)⟩, trivial⟩, trivial, trivial, rfl⟩⟩
      try simp only [tdy] at h60
      refine AL_g rfl rfl (x_field (off := 0) (o' := 0) rfl rfl rfl (by kernel_rfl) rfl) ?_
      refine AL_g rfl rfl (x_load1 rfl rfl rfl (by kernel_rfl) rfl) ?_
      refine AL_gb rfl rfl (x_gtr rfl rfl rfl) (fun b65 h65 => ?_)
      refine AL_p (x_pickF rfl rfl rfl) ?_
      refine AL_nil ?_
      cases b65
      rotate_left
      · try simp only [tdy] at h65
        refine AW_condT rfl ?_
        refine AW_seq ?_
        refine AW_region ?_
        refine AL_p (x_assign rfl rfl) ?_
        refine AL_nil ?_
        refine AW_ret (BQ_ret (BQ_ret ?_))
        exact ⟨rn [], ⟨⟨⟨_, rfl, vle_bool (by first | exact (actsB_bad (k := k) (by omega) (by unfold actB; first | (rw [decide_eq_true_eq]; omega) | (rw [decide_eq_false_iff_not]; omega))).symm | exact (actsB_good hA (by omega) (by omega)).symm | exact (actsB_len (by omega)).symm)⟩, trivial⟩, trivial, trivial, rfl⟩⟩
      try simp only [tdy] at h65
      refine AW_condF rfl ?_
      refine AW_skip ?_
      refine AW_region ?_
      refine AL_p (x_add rfl rfl rfl (IntWalk.i64_in _ (by omega))) ?_
      refine AL_p (x_move rfl rfl) ?_
      refine AL_nil ?_
      refine ⟨⟨k + 1, ⟨by omega, hA.succ (by omega) (by unfold actB; first | (rw [decide_eq_true_eq]; omega) | (rw [decide_eq_false_iff_not]; omega))⟩⟩, rn [], ?_, by dsimp only; omega⟩
      exact ⟨by (repeat refine ⟨⟨_, rfl, by first | exact VLe.rf | exact vle_int (by dsimp only; omega)⟩, ?_⟩); exact trivial, by (repeat refine ⟨⟨_, rfl, by first | exact BLe.rf | exact BLe.box AllC.rf | exact BLe.arr (by exact rfl)⟩, ?_⟩); exact trivial, by repeat (first | exact trivial | refine ⟨⟨rfl, by first | (left; intro h; cases h) | (right; rfl), by first | exact (fun _ h => ⟨_, h⟩) | exact (fun _ _ => ⟨_, rfl⟩)⟩, ?_⟩), rfl⟩
    try simp only [tdy] at h41
    refine AW_condT rfl ?_
    refine AW_region ?_
    refine AL_p (x_field (off := 1) (o' := 1) rfl rfl rfl (by kernel_rfl) rfl) ?_
    refine AL_p (x_load1 rfl rfl rfl (by kernel_rfl) rfl) ?_
    refine AL_b (x_eql rfl rfl rfl) (fun b44 h44 => ?_)
    refine AL_p (x_move rfl rfl) ?_
    cases b44
    rotate_left
    · try simp only [tdy] at h44
      refine AL_o rfl rfl rfl rfl ?_
      refine AL_o rfl rfl rfl rfl ?_
      refine AL_o rfl rfl rfl rfl ?_
      refine AL_p (x_pickT rfl rfl rfl) ?_
      refine AL_p (x_move rfl rfl) ?_
      refine AL_g rfl rfl (x_field (off := 2) (o' := 2) rfl rfl rfl (by kernel_rfl) rfl) ?_
      refine AL_g rfl rfl (x_load1 rfl rfl rfl (by kernel_rfl) rfl) ?_
      refine AL_gb rfl rfl (x_call0 rfl rfl rfl (numS_c _) rfl rfl) (fun b53 h53 => ?_)
      refine AL_p (x_pickT rfl rfl rfl) ?_
      refine AL_p (x_assign rfl rfl) ?_
      refine AL_nil ?_
      refine AW_seq ?_
      refine AW_region ?_
      refine AL_p (x_move rfl rfl) ?_
      refine AL_p (x_not rfl rfl) ?_
      refine AL_p (x_move rfl rfl) ?_
      cases b53
      · try simp only [tdy] at h53
        refine AL_o rfl rfl rfl rfl ?_
        refine AL_o rfl rfl rfl rfl ?_
        refine AL_o rfl rfl rfl rfl ?_
        refine AL_p (x_pickT rfl rfl rfl) ?_
        refine AL_p (x_move rfl rfl) ?_
        refine AL_o rfl rfl rfl rfl ?_
        refine AL_o rfl rfl rfl rfl ?_
        refine AL_o rfl rfl rfl rfl ?_
        refine AL_p (x_pickT rfl rfl rfl) ?_
        refine AL_nil ?_
        refine AW_condT rfl ?_
        refine AW_seq ?_
        refine AW_region ?_
        refine AL_p (x_assign rfl rfl) ?_
        refine AL_nil ?_
        refine AW_ret (BQ_ret (BQ_ret ?_))
        exact ⟨rn [], ⟨⟨⟨_, rfl, vle_bool (by first | exact (actsB_bad (k := k) (by omega) (by unfold actB; first | (rw [decide_eq_true_eq]; omega) | (rw [decide_eq_false_iff_not]; omega))).symm | exact (actsB_good hA (by omega) (by omega)).symm | exact (actsB_len (by omega)).symm)⟩, trivial⟩, trivial, trivial, rfl⟩⟩
      try simp only [tdy] at h53
      refine AL_g rfl rfl (x_field (off := 0) (o' := 0) rfl rfl rfl (by kernel_rfl) rfl) ?_
      refine AL_g rfl rfl (x_load1 rfl rfl rfl (by kernel_rfl) rfl) ?_
      refine AL_gb rfl rfl (x_lss rfl rfl rfl) (fun b60 h60 => ?_)
      refine AL_p (x_pickF rfl rfl rfl) ?_
      refine AL_p (x_move rfl rfl) ?_
      cases b60
      rotate_left
      · try simp only [tdy] at h60
        refine AL_o rfl rfl rfl rfl ?_
        refine AL_o rfl rfl rfl rfl ?_
        refine AL_o rfl rfl rfl rfl ?_
        refine AL_p (x_pickT rfl rfl rfl) ?_
        refine AL_nil ?_
        refine AW_condT rfl ?_
        refine AW_seq ?_
        refine AW_region ?_
        refine AL_p (x_assign rfl rfl) ?_
        refine AL_nil ?_
        refine AW_ret (BQ_ret (BQ_ret ?_))
        exact ⟨rn [], ⟨⟨⟨_, rfl, vle_bool (by first | exact (actsB_bad (k := k) (by omega) (by unfold actB; first | (rw [decide_eq_true_eq]; omega) | (rw [decide_eq_false_iff_not]; omega))).symm | exact (actsB_good hA (by omega) (by omega)).symm | exact (actsB_len (by omega)).symm)⟩, trivial⟩, trivial, trivial, rfl⟩⟩
      try simp only [tdy] at h60
      refine AL_g rfl rfl (x_field (off := 0) (o' := 0) rfl rfl rfl (by kernel_rfl) rfl) ?_
      refine AL_g rfl rfl (x_load1 rfl rfl rfl (by kernel_rfl) rfl) ?_
      refine AL_gb rfl rfl (x_gtr rfl rfl rfl) (fun b65 h65 => ?_)
      refine AL_p (x_pickF rfl rfl rfl) ?_
      refine AL_nil ?_
      cases b65
      rotate_left
      · try simp only [tdy] at h65
        refine AW_condT rfl ?_
        refine AW_seq ?_
        refine AW_region ?_
        refine AL_p (x_assign rfl rfl) ?_
        refine AL_nil ?_
        refine AW_ret (BQ_ret (BQ_ret ?_))
        exact ⟨rn [], ⟨⟨⟨_, rfl, vle_bool (by first | exact (actsB_bad (k := k) (by omega) (by unfold actB; first | (rw [decide_eq_true_eq]; omega) | (rw [decide_eq_false_iff_not]; omega))).symm | exact (actsB_good hA (by omega) (by omega)).symm | exact (actsB_len (by omega)).symm)⟩, trivial⟩, trivial, trivial, rfl⟩⟩
      try simp only [tdy] at h65
      refine AW_condF rfl ?_
      refine AW_skip ?_
      refine AW_region ?_
      refine AL_p (x_add rfl rfl rfl (IntWalk.i64_in _ (by omega))) ?_
      refine AL_p (x_move rfl rfl) ?_
      refine AL_nil ?_
      refine ⟨⟨k + 1, ⟨by omega, hA.succ (by omega) (by unfold actB; first | (rw [decide_eq_true_eq]; omega) | (rw [decide_eq_false_iff_not]; omega))⟩⟩, rn [], ?_, by dsimp only; omega⟩
      exact ⟨by (repeat refine ⟨⟨_, rfl, by first | exact VLe.rf | exact vle_int (by dsimp only; omega)⟩, ?_⟩); exact trivial, by (repeat refine ⟨⟨_, rfl, by first | exact BLe.rf | exact BLe.box AllC.rf | exact BLe.arr (by exact rfl)⟩, ?_⟩); exact trivial, by repeat (first | exact trivial | refine ⟨⟨rfl, by first | (left; intro h; cases h) | (right; rfl), by first | exact (fun _ h => ⟨_, h⟩) | exact (fun _ _ => ⟨_, rfl⟩)⟩, ?_⟩), rfl⟩
    try simp only [tdy] at h44
    refine AL_g rfl rfl (x_field (off := 1) (o' := 1) rfl rfl rfl (by kernel_rfl) rfl) ?_
    refine AL_g rfl rfl (x_load1 rfl rfl rfl (by kernel_rfl) rfl) ?_
    refine AL_gb rfl rfl (x_eql rfl rfl rfl) (fun b48 h48 => ?_)
    refine AL_p (x_pickF rfl rfl rfl) ?_
    refine AL_p (x_move rfl rfl) ?_
    cases b48
    · try simp only [tdy] at h48
      refine AL_o rfl rfl rfl rfl ?_
      refine AL_o rfl rfl rfl rfl ?_
      refine AL_o rfl rfl rfl rfl ?_
      refine AL_p (x_pickF rfl rfl rfl) ?_
      refine AL_p (x_assign rfl rfl) ?_
      refine AL_nil ?_
      refine AW_seq ?_
      refine AW_region ?_
      refine AL_p (x_move rfl rfl) ?_
      refine AL_p (x_not rfl rfl) ?_
      refine AL_p (x_move rfl rfl) ?_
      refine AL_o rfl rfl rfl rfl ?_
      refine AL_o rfl rfl rfl rfl ?_
      refine AL_o rfl rfl rfl rfl ?_
      refine AL_p (x_pickT rfl rfl rfl) ?_
      refine AL_p (x_move rfl rfl) ?_
      refine AL_o rfl rfl rfl rfl ?_
      refine AL_o rfl rfl rfl rfl ?_
      refine AL_o rfl rfl rfl rfl ?_
      refine AL_p (x_pickT rfl rfl rfl) ?_
      refine AL_nil ?_
      refine AW_condT rfl ?_
      refine AW_seq ?_
      refine AW_region ?_
      refine AL_p (x_assign rfl rfl) ?_
      refine AL_nil ?_
      refine AW_ret (BQ_ret (BQ_ret ?_))
      exact ⟨rn [], ⟨⟨⟨_, rfl, vle_bool (by first | exact (actsB_bad (k := k) (by omega) (by unfold actB; first | (rw [decide_eq_true_eq]; omega) | (rw [decide_eq_false_iff_not]; omega))).symm | exact (actsB_good hA (by omega) (by omega)).symm | exact (actsB_len (by omega)).symm)⟩, trivial⟩, trivial, trivial, rfl⟩⟩
    try simp only [tdy] at h48
    refine AL_g rfl rfl (x_field (off := 2) (o' := 2) rfl rfl rfl (by kernel_rfl) rfl) ?_
    refine AL_g rfl rfl (x_load1 rfl rfl rfl (by kernel_rfl) rfl) ?_
    refine AL_gb rfl rfl (x_call0 rfl rfl rfl (numS_c _) rfl rfl) (fun b53 h53 => ?_)
    refine AL_p (x_pickT rfl rfl rfl) ?_
    refine AL_p (x_assign rfl rfl) ?_
    refine AL_nil ?_
    refine AW_seq ?_
    refine AW_region ?_
    refine AL_p (x_move rfl rfl) ?_
    refine AL_p (x_not rfl rfl) ?_
    refine AL_p (x_move rfl rfl) ?_
    cases b53
    · try simp only [tdy] at h53
      refine AL_o rfl rfl rfl rfl ?_
      refine AL_o rfl rfl rfl rfl ?_
      refine AL_o rfl rfl rfl rfl ?_
      refine AL_p (x_pickT rfl rfl rfl) ?_
      refine AL_p (x_move rfl rfl) ?_
      refine AL_o rfl rfl rfl rfl ?_
      refine AL_o rfl rfl rfl rfl ?_
      refine AL_o rfl rfl rfl rfl ?_
      refine AL_p (x_pickT rfl rfl rfl) ?_
      refine AL_nil ?_
      refine AW_condT rfl ?_
      refine AW_seq ?_
      refine AW_region ?_
      refine AL_p (x_assign rfl rfl) ?_
      refine AL_nil ?_
      refine AW_ret (BQ_ret (BQ_ret ?_))
      exact ⟨rn [], ⟨⟨⟨_, rfl, vle_bool (by first | exact (actsB_bad (k := k) (by omega) (by unfold actB; first | (rw [decide_eq_true_eq]; omega) | (rw [decide_eq_false_iff_not]; omega))).symm | exact (actsB_good hA (by omega) (by omega)).symm | exact (actsB_len (by omega)).symm)⟩, trivial⟩, trivial, trivial, rfl⟩⟩
    try simp only [tdy] at h53
    refine AL_g rfl rfl (x_field (off := 0) (o' := 0) rfl rfl rfl (by kernel_rfl) rfl) ?_
    refine AL_g rfl rfl (x_load1 rfl rfl rfl (by kernel_rfl) rfl) ?_
    refine AL_gb rfl rfl (x_lss rfl rfl rfl) (fun b60 h60 => ?_)
    refine AL_p (x_pickF rfl rfl rfl) ?_
    refine AL_p (x_move rfl rfl) ?_
    cases b60
    rotate_left
    · try simp only [tdy] at h60
      refine AL_o rfl rfl rfl rfl ?_
      refine AL_o rfl rfl rfl rfl ?_
      refine AL_o rfl rfl rfl rfl ?_
      refine AL_p (x_pickT rfl rfl rfl) ?_
      refine AL_nil ?_
      refine AW_condT rfl ?_
      refine AW_seq ?_
      refine AW_region ?_
      refine AL_p (x_assign rfl rfl) ?_
      refine AL_nil ?_
      refine AW_ret (BQ_ret (BQ_ret ?_))
      exact ⟨rn [], ⟨⟨⟨_, rfl, vle_bool (by first | exact (actsB_bad (k := k) (by omega) (by unfold actB; first | (rw [decide_eq_true_eq]; omega) | (rw [decide_eq_false_iff_not]; omega))).symm | exact (actsB_good hA (by omega) (by omega)).symm | exact (actsB_len (by omega)).symm)⟩, trivial⟩, trivial, trivial, rfl⟩⟩
    try simp only [tdy] at h60
    refine AL_g rfl rfl (x_field (off := 0) (o' := 0) rfl rfl rfl (by kernel_rfl) rfl) ?_
    refine AL_g rfl rfl (x_load1 rfl rfl rfl (by kernel_rfl) rfl) ?_
    refine AL_gb rfl rfl (x_gtr rfl rfl rfl) (fun b65 h65 => ?_)
    refine AL_p (x_pickF rfl rfl rfl) ?_
    refine AL_nil ?_
    cases b65
    rotate_left
    · try simp only [tdy] at h65
      refine AW_condT rfl ?_
      refine AW_seq ?_
      refine AW_region ?_
      refine AL_p (x_assign rfl rfl) ?_
      refine AL_nil ?_
      refine AW_ret (BQ_ret (BQ_ret ?_))
      exact ⟨rn [], ⟨⟨⟨_, rfl, vle_bool (by first | exact (actsB_bad (k := k) (by omega) (by unfold actB; first | (rw [decide_eq_true_eq]; omega) | (rw [decide_eq_false_iff_not]; omega))).symm | exact (actsB_good hA (by omega) (by omega)).symm | exact (actsB_len (by omega)).symm)⟩, trivial⟩, trivial, trivial, rfl⟩⟩
    try simp only [tdy] at h65
    refine AW_condF rfl ?_
    refine AW_skip ?_
    refine AW_region ?_
    refine AL_p (x_add rfl rfl rfl (IntWalk.i64_in _ (by omega))) ?_
    refine AL_p (x_move rfl rfl) ?_
    refine AL_nil ?_
    refine ⟨⟨k + 1, ⟨by omega, hA.succ (by omega) (by unfold actB; first | (rw [decide_eq_true_eq]; omega) | (rw [decide_eq_false_iff_not]; omega))⟩⟩, rn [], ?_, by dsimp only; omega⟩
    exact ⟨by (repeat refine ⟨⟨_, rfl, by first | exact VLe.rf | exact vle_int (by dsimp only; omega)⟩, ?_⟩); exact trivial, by (repeat refine ⟨⟨_, rfl, by first | exact BLe.rf | exact BLe.box AllC.rf | exact BLe.arr (by exact rfl)⟩, ?_⟩); exact trivial, by repeat (first | exact trivial | refine ⟨⟨rfl, by first | (left; intro h; cases h) | (right; rfl), by first | exact (fun _ h => ⟨_, h⟩) | exact (fun _ _ => ⟨_, rfl⟩)⟩, ?_⟩), rfl⟩
  try simp only [tdy] at h25
  refine AW_condT rfl ?_
  refine AW_region ?_
  refine AL_p (x_field (off := 1) (o' := 1) rfl rfl rfl (by kernel_rfl) rfl) ?_
  refine AL_p (x_load1 rfl rfl rfl (by kernel_rfl) rfl) ?_
  refine AL_b (x_geq rfl rfl rfl) (fun b28 h28 => ?_)
  refine AL_p (x_move rfl rfl) ?_
  cases b28
  · try simp only [tdy] at h28
    refine AL_o rfl rfl rfl rfl ?_
    refine AL_o rfl rfl rfl rfl ?_
    refine AL_o rfl rfl rfl rfl ?_
    refine AL_p (x_pickF rfl rfl rfl) ?_
    refine AL_p (x_move rfl rfl) ?_
    refine AL_o rfl rfl rfl rfl ?_
    refine AL_o rfl rfl rfl rfl ?_
    refine AL_o rfl rfl rfl rfl ?_
    refine AL_p (x_pickF rfl rfl rfl) ?_
    refine AL_p (x_assign rfl rfl) ?_
    refine AL_nil ?_
    refine AW_seq ?_
    refine AW_seq ?_
    refine AW_region ?_
    refine AL_p (x_field (off := 0) (o' := 0) rfl rfl rfl (by kernel_rfl) rfl) ?_
    refine AL_p (x_load1 rfl rfl rfl (by kernel_rfl) rfl) ?_
    refine AL_b (x_eql rfl rfl rfl) (fun b41 h41 => ?_)
    refine AL_nil ?_
    cases b41
    · try simp only [tdy] at h41
      refine AW_condF rfl ?_
      refine AW_skip ?_
      refine AW_seq ?_
      refine AW_region ?_
      refine AL_p (x_move rfl rfl) ?_
      refine AL_p (x_not rfl rfl) ?_
      refine AL_p (x_move rfl rfl) ?_
      refine AL_o rfl rfl rfl rfl ?_
      refine AL_o rfl rfl rfl rfl ?_
      refine AL_o rfl rfl rfl rfl ?_
      refine AL_p (x_pickT rfl rfl rfl) ?_
      refine AL_p (x_move rfl rfl) ?_
      refine AL_o rfl rfl rfl rfl ?_
      refine AL_o rfl rfl rfl rfl ?_
      refine AL_o rfl rfl rfl rfl ?_
      refine AL_p (x_pickT rfl rfl rfl) ?_
      refine AL_nil ?_
      refine AW_condT rfl ?_
      refine AW_seq ?_
      refine AW_region ?_
      refine AL_p (x_assign rfl rfl) ?_
      refine AL_nil ?_
      refine AW_ret (BQ_ret (BQ_ret ?_))
      exact ⟨rn [], ⟨⟨⟨_, rfl, vle_bool (by first | exact (actsB_bad (k := k) (by omega) (by unfold actB; first | (rw [decide_eq_true_eq]; omega) | (rw [decide_eq_false_iff_not]; omega))).symm | exact (actsB_good hA (by omega) (by omega)).symm | exact (actsB_len (by omega)).symm)⟩, trivial⟩, trivial, trivial, rfl⟩⟩
    try simp only [tdy] at h41
    refine AW_condT rfl ?_
    refine AW_region ?_
    refine AL_p (x_field (off := 1) (o' := 1) rfl rfl rfl (by kernel_rfl) rfl) ?_
    refine AL_p (x_load1 rfl rfl rfl (by kernel_rfl) rfl) ?_
    refine AL_b (x_eql rfl rfl rfl) (fun b44 h44 => ?_)
    refine AL_p (x_move rfl rfl) ?_
    cases b44
    rotate_left
    · try simp only [tdy] at h44
      refine AL_o rfl rfl rfl rfl ?_
      refine AL_o rfl rfl rfl rfl ?_
      refine AL_o rfl rfl rfl rfl ?_
      refine AL_p (x_pickT rfl rfl rfl) ?_
      refine AL_p (x_move rfl rfl) ?_
      refine AL_g rfl rfl (x_field (off := 2) (o' := 2) rfl rfl rfl (by kernel_rfl) rfl) ?_
      refine AL_g rfl rfl (x_load1 rfl rfl rfl (by kernel_rfl) rfl) ?_
      refine AL_gb rfl rfl (x_call0 rfl rfl rfl (numS_c _) rfl rfl) (fun b53 h53 => ?_)
      refine AL_p (x_pickT rfl rfl rfl) ?_
      refine AL_p (x_assign rfl rfl) ?_
      refine AL_nil ?_
      refine AW_seq ?_
      refine AW_region ?_
      refine AL_p (x_move rfl rfl) ?_
      refine AL_p (x_not rfl rfl) ?_
      refine AL_p (x_move rfl rfl) ?_
      cases b53
      · try simp only [tdy] at h53
        refine AL_o rfl rfl rfl rfl ?_
        refine AL_o rfl rfl rfl rfl ?_
        refine AL_o rfl rfl rfl rfl ?_
        refine AL_p (x_pickT rfl rfl rfl) ?_
        refine AL_p (x_move rfl rfl) ?_
        refine AL_o rfl rfl rfl rfl ?_
        refine AL_o rfl rfl rfl rfl ?_
        refine AL_o rfl rfl rfl rfl ?_
        refine AL_p (x_pickT rfl rfl rfl) ?_
        refine AL_nil ?_
        refine AW_condT rfl ?_
        refine AW_seq ?_
        refine AW_region ?_
        refine AL_p (x_assign rfl rfl) ?_
        refine AL_nil ?_
        refine AW_ret (BQ_ret (BQ_ret ?_))
        exact ⟨rn [], ⟨⟨⟨_, rfl, vle_bool (by first | exact (actsB_bad (k := k) (by omega) (by unfold actB; first | (rw [decide_eq_true_eq]; omega) | (rw [decide_eq_false_iff_not]; omega))).symm | exact (actsB_good hA (by omega) (by omega)).symm | exact (actsB_len (by omega)).symm)⟩, trivial⟩, trivial, trivial, rfl⟩⟩
      try simp only [tdy] at h53
      refine AL_g rfl rfl (x_field (off := 0) (o' := 0) rfl rfl rfl (by kernel_rfl) rfl) ?_
      refine AL_g rfl rfl (x_load1 rfl rfl rfl (by kernel_rfl) rfl) ?_
      refine AL_gb rfl rfl (x_lss rfl rfl rfl) (fun b60 h60 => ?_)
      refine AL_p (x_pickF rfl rfl rfl) ?_
      refine AL_p (x_move rfl rfl) ?_
      cases b60
      rotate_left
      · try simp only [tdy] at h60
        refine AL_o rfl rfl rfl rfl ?_
        refine AL_o rfl rfl rfl rfl ?_
        refine AL_o rfl rfl rfl rfl ?_
        refine AL_p (x_pickT rfl rfl rfl) ?_
        refine AL_nil ?_
        refine AW_condT rfl ?_
        refine AW_seq ?_
        refine AW_region ?_
        refine AL_p (x_assign rfl rfl) ?_
        refine AL_nil ?_
        refine AW_ret (BQ_ret (BQ_ret ?_))
        exact ⟨rn [], ⟨⟨⟨_, rfl, vle_bool (by first | exact (actsB_bad (k := k) (by omega) (by unfold actB; first | (rw [decide_eq_true_eq]; omega) | (rw [decide_eq_false_iff_not]; omega))).symm | exact (actsB_good hA (by omega) (by omega)).symm | exact (actsB_len (by omega)).symm)⟩, trivial⟩, trivial, trivial, rfl⟩⟩
      try simp only [tdy] at h60
      refine AL_g rfl rfl (x_field (off := 0) (o' := 0) rfl rfl rfl (by kernel_rfl) rfl) ?_
      refine AL_g rfl rfl (x_load1 rfl rfl rfl (by kernel_rfl) rfl) ?_
      refine AL_gb rfl rfl (x_gtr rfl rfl rfl) (fun b65 h65 => ?_)
      refine AL_p (x_pickF rfl rfl rfl) ?_
      refine AL_nil ?_
      cases b65
      rotate_left
      · try simp only [tdy] at h65
        refine AW_condT rfl ?_
        refine AW_seq ?_
        refine AW_region ?_
        refine AL_p (x_assign rfl rfl) ?_
        refine AL_nil ?_
        refine AW_ret (BQ_ret (BQ_ret ?_))
        exact ⟨rn [], ⟨⟨⟨_, rfl, vle_bool (by first | exact (actsB_bad (k := k) (by omega) (by unfold actB; first | (rw [decide_eq_true_eq]; omega) | (rw [decide_eq_false_iff_not]; omega))).symm | exact (actsB_good hA (by omega) (by omega)).symm | exact (actsB_len (by omega)).symm)⟩, trivial⟩, trivial, trivial, rfl⟩⟩
      try simp only [tdy] at h65
      refine AW_condF rfl ?_
      refine AW_skip ?_
      refine AW_region ?_
      refine AL_p (x_add rfl rfl rfl (IntWalk.i64_in _ (by omega))) ?_
      refine AL_p (x_move rfl rfl) ?_
      refine AL_nil ?_
      refine ⟨⟨k + 1, ⟨by omega, hA.succ (by omega) (by unfold actB; first | (rw [decide_eq_true_eq]; omega) | (rw [decide_eq_false_iff_not]; omega))⟩⟩, rn [], ?_, by dsimp only; omega⟩
      exact ⟨by (repeat refine ⟨⟨_, rfl, by first | exact VLe.rf | exact vle_int (by dsimp only; omega)⟩, ?_⟩); exact trivial, by (repeat refine ⟨⟨_, rfl, by first | exact BLe.rf | exact BLe.box AllC.rf | exact BLe.arr (by exact rfl)⟩, ?_⟩); exact trivial, by repeat (first | exact trivial | refine ⟨⟨rfl, by first | (left; intro h; cases h) | (right; rfl), by first | exact (fun _ h => ⟨_, h⟩) | exact (fun _ _ => ⟨_, rfl⟩)⟩, ?_⟩), rfl⟩
    try simp only [tdy] at h44
    refine AL_g rfl rfl (x_field (off := 1) (o' := 1) rfl rfl rfl (by kernel_rfl) rfl) ?_
    refine AL_g rfl rfl (x_load1 rfl rfl rfl (by kernel_rfl) rfl) ?_
    refine AL_gb rfl rfl (x_eql rfl rfl rfl) (fun b48 h48 => ?_)
    refine AL_p (x_pickF rfl rfl rfl) ?_
    refine AL_p (x_move rfl rfl) ?_
    cases b48
    · try simp only [tdy] at h48
      refine AL_o rfl rfl rfl rfl ?_
      refine AL_o rfl rfl rfl rfl ?_
      refine AL_o rfl rfl rfl rfl ?_
      refine AL_p (x_pickF rfl rfl rfl) ?_
      refine AL_p (x_assign rfl rfl) ?_
      refine AL_nil ?_
      refine AW_seq ?_
      refine AW_region ?_
      refine AL_p (x_move rfl rfl) ?_
      refine AL_p (x_not rfl rfl) ?_
      refine AL_p (x_move rfl rfl) ?_
      refine AL_o rfl rfl rfl rfl ?_
      refine AL_o rfl rfl rfl rfl ?_
      refine AL_o rfl rfl rfl rfl ?_
      refine AL_p (x_pickT rfl rfl rfl) ?_
      refine AL_p (x_move rfl rfl) ?_
      refine AL_o rfl rfl rfl rfl ?_
      refine AL_o rfl rfl rfl rfl ?_
      refine AL_o rfl rfl rfl rfl ?_
      refine AL_p (x_pickT rfl rfl rfl) ?_
      refine AL_nil ?_
      refine AW_condT rfl ?_
      refine AW_seq ?_
      refine AW_region ?_
      refine AL_p (x_assign rfl rfl) ?_
      refine AL_nil ?_
      refine AW_ret (BQ_ret (BQ_ret ?_))
      exact ⟨rn [], ⟨⟨⟨_, rfl, vle_bool (by first | exact (actsB_bad (k := k) (by omega) (by unfold actB; first | (rw [decide_eq_true_eq]; omega) | (rw [decide_eq_false_iff_not]; omega))).symm | exact (actsB_good hA (by omega) (by omega)).symm | exact (actsB_len (by omega)).symm)⟩, trivial⟩, trivial, trivial, rfl⟩⟩
    try simp only [tdy] at h48
    refine AL_g rfl rfl (x_field (off := 2) (o' := 2) rfl rfl rfl (by kernel_rfl) rfl) ?_
    refine AL_g rfl rfl (x_load1 rfl rfl rfl (by kernel_rfl) rfl) ?_
    refine AL_gb rfl rfl (x_call0 rfl rfl rfl (numS_c _) rfl rfl) (fun b53 h53 => ?_)
    refine AL_p (x_pickT rfl rfl rfl) ?_
    refine AL_p (x_assign rfl rfl) ?_
    refine AL_nil ?_
    refine AW_seq ?_
    refine AW_region ?_
    refine AL_p (x_move rfl rfl) ?_
    refine AL_p (x_not rfl rfl) ?_
    refine AL_p (x_move rfl rfl) ?_
    cases b53
    · try simp only [tdy] at h53
      refine AL_o rfl rfl rfl rfl ?_
      refine AL_o rfl rfl rfl rfl ?_
      refine AL_o rfl rfl rfl rfl ?_
      refine AL_p (x_pickT rfl rfl rfl) ?_
      refine AL_p (x_move rfl rfl) ?_
      refine AL_o rfl rfl rfl rfl ?_
      refine AL_o rfl rfl rfl rfl ?_
      refine AL_o rfl rfl rfl rfl ?_
      refine AL_p (x_pickT rfl rfl rfl) ?_
      refine AL_nil ?_
      refine AW_condT rfl ?_
      refine AW_seq ?_
      refine AW_region ?_
      refine AL_p (x_assign rfl rfl) ?_
      refine AL_nil ?_
      refine AW_ret (BQ_ret (BQ_ret ?_))
      exact ⟨rn [], ⟨⟨⟨_, rfl, vle_bool (by first | exact (actsB_bad (k := k) (by omega) (by unfold actB; first | (rw [decide_eq_true_eq]; omega) | (rw [decide_eq_false_iff_not]; omega))).symm | exact (actsB_good hA (by omega) (by omega)).symm | exact (actsB_len (by omega)).symm)⟩, trivial⟩, trivial, trivial, rfl⟩⟩
    try simp only [tdy] at h53
    refine AL_g rfl rfl (x_field (off := 0) (o' := 0) rfl rfl rfl (by kernel_rfl) rfl) ?_
    refine AL_g rfl rfl (x_load1 rfl rfl rfl (by kernel_rfl) rfl) ?_
    refine AL_gb rfl rfl (x_lss rfl rfl rfl) (fun b60 h60 => ?_)
    refine AL_p (x_pickF rfl rfl rfl) ?_
    refine AL_p (x_move rfl rfl) ?_
    cases b60
    rotate_left
    · try simp only [tdy] at h60
      refine AL_o rfl rfl rfl rfl ?_
      refine AL_o rfl rfl rfl rfl ?_
      refine AL_o rfl rfl rfl rfl ?_
      refine AL_p (x_pickT rfl rfl rfl) ?_
      refine AL_nil ?_
      refine AW_condT rfl ?_
      refine AW_seq ?_
      refine AW_region ?_
      refine AL_p (x_assign rfl rfl) ?_
      refine AL_nil ?_
      refine AW_ret (BQ_ret (BQ_ret ?_))
      exact ⟨rn [], ⟨⟨⟨_, rfl, vle_bool (by first | exact (actsB_bad (k := k) (by omega) (by unfold actB; first | (rw [decide_eq_true_eq]; omega) | (rw [decide_eq_false_iff_not]; omega))).symm | exact (actsB_good hA (by omega) (by omega)).symm | exact (actsB_len (by omega)).symm)⟩, trivial⟩, trivial, trivial, rfl⟩⟩
    try simp only [tdy] at h60
    refine AL_g rfl rfl (x_field (off := 0) (o' := 0) rfl rfl rfl (by kernel_rfl) rfl) ?_
    refine AL_g rfl rfl (x_load1 rfl rfl rfl (by kernel_rfl) rfl) ?_
    refine AL_gb rfl rfl (x_gtr rfl rfl rfl) (fun b65 h65 => ?_)
    refine AL_p (x_pickF rfl rfl rfl) ?_
    refine AL_nil ?_
    cases b65
    rotate_left
    · try simp only [tdy] at h65
      refine AW_condT rfl ?_
      refine AW_seq ?_
      refine AW_region ?_
      refine AL_p (x_assign rfl rfl) ?_
      refine AL_nil ?_
      refine AW_ret (BQ_ret (BQ_ret ?_))
      exact ⟨rn [], ⟨⟨⟨_, rfl, vle_bool (by first | exact (actsB_bad (k := k) (by omega) (by unfold actB; first | (rw [decide_eq_true_eq]; omega) | (rw [decide_eq_false_iff_not]; omega))).symm | exact (actsB_good hA (by omega) (by omega)).symm | exact (actsB_len (by omega)).symm)⟩, trivial⟩, trivial, trivial, rfl⟩⟩
    try simp only [tdy] at h65
    refine AW_condF rfl ?_
    refine AW_skip ?_
    refine AW_region ?_
    refine AL_p (x_add rfl rfl rfl (IntWalk.i64_in _ (by omega))) ?_
    refine AL_p (x_move rfl rfl) ?_
    refine AL_nil ?_
    refine ⟨⟨k + 1, ⟨by omega, hA.succ (by omega) (by unfold actB; first | (rw [decide_eq_true_eq]; omega) | (rw [decide_eq_false_iff_not]; omega))⟩⟩, rn [], ?_, by dsimp only; omega⟩
    exact ⟨by (repeat refine ⟨⟨_, rfl, by first | exact VLe.rf | exact vle_int (by dsimp only; omega)⟩, ?_⟩); exact trivial, by (repeat refine ⟨⟨_, rfl, by first | exact BLe.rf | exact BLe.box AllC.rf | exact BLe.arr (by exact rfl)⟩, ?_⟩); exact trivial, by repeat (first | exact trivial | refine ⟨⟨rfl, by first | (left; intro h; cases h) | (right; rfl), by first | exact (fun _ h => ⟨_, h⟩) | exact (fun _ _ => ⟨_, rfl⟩)⟩, ?_⟩), rfl⟩
  try simp only [tdy] at h28
  refine AL_g rfl rfl (x_field (off := 1) (o' := 1) rfl rfl rfl (by kernel_rfl) rfl) ?_
  refine AL_g rfl rfl (x_load1 rfl rfl rfl (by kernel_rfl) rfl) ?_
  refine AL_gb rfl rfl (x_leq rfl rfl rfl) (fun b32 h32 => ?_)
  refine AL_p (x_pickT rfl rfl rfl) ?_
  refine AL_p (x_move rfl rfl) ?_
  cases b32
  · try simp only [tdy] at h32
    refine AL_o rfl rfl rfl rfl ?_
    refine AL_o rfl rfl rfl rfl ?_
    refine AL_o rfl rfl rfl rfl ?_
    refine AL_p (x_pickF rfl rfl rfl) ?_
    refine AL_p (x_assign rfl rfl) ?_
    refine AL_nil ?_
    refine AW_seq ?_
    refine AW_seq ?_
    refine AW_region ?_
    refine AL_p (x_field (off := 0) (o' := 0) rfl rfl rfl (by kernel_rfl) rfl) ?_
    refine AL_p (x_load1 rfl rfl rfl (by kernel_rfl) rfl) ?_
    refine AL_b (x_eql rfl rfl rfl) (fun b41 h41 => ?_)
    refine AL_nil ?_
    cases b41
    · try simp only [tdy] at h41
      refine AW_condF rfl ?_
      refine AW_skip ?_
      refine AW_seq ?_
      refine AW_region ?_
      refine AL_p (x_move rfl rfl) ?_
      refine AL_p (x_not rfl rfl) ?_
      refine AL_p (x_move rfl rfl) ?_
      refine AL_o rfl rfl rfl rfl ?_
      refine AL_o rfl rfl rfl rfl ?_
      refine AL_o rfl rfl rfl rfl ?_
      refine AL_p (x_pickT rfl rfl rfl) ?_
      refine AL_p (x_move rfl rfl) ?_
      refine AL_o rfl rfl rfl rfl ?_
      refine AL_o rfl rfl rfl rfl ?_
      refine AL_o rfl rfl rfl rfl ?_
      refine AL_p (x_pickT rfl rfl rfl) ?_
      refine AL_nil ?_
      refine AW_condT rfl ?_
      refine AW_seq ?_
      refine AW_region ?_
      refine AL_p (x_assign rfl rfl) ?_
      refine AL_nil ?_
      refine AW_ret (BQ_ret (BQ_ret ?_))
      exact ⟨rn [], ⟨⟨⟨_, rfl, vle_bool (by first | exact (actsB_bad (k := k) (by omega) (by unfold actB; first | (rw [decide_eq_true_eq]; omega) | (rw [decide_eq_false_iff_not]; omega))).symm | exact (actsB_good hA (by omega) (by omega)).symm | exact (actsB_len (by omega)).symm)⟩, trivial⟩, trivial, trivial, rfl⟩⟩
    try simp only [tdy] at h41
    refine AW_condT rfl ?_
    refine AW_region ?_
    refine AL_p (x_field (off := 1) (o' := 1) rfl rfl rfl (by kernel_rfl) rfl) ?_
    refine AL_p (x_load1 rfl rfl rfl (by kernel_rfl) rfl) ?_
    refine AL_b (x_eql rfl rfl rfl) (fun b44 h44 => ?_)
    refine AL_p (x_move rfl rfl) ?_
    cases b44
    rotate_left
    · try simp only [tdy] at h44
      refine AL_o rfl rfl rfl rfl ?_
      refine AL_o rfl rfl rfl rfl ?_
      refine AL_o rfl rfl rfl rfl ?_
      refine AL_p (x_pickT rfl rfl rfl) ?_
      refine AL_p (x_move rfl rfl) ?_
      refine AL_g rfl rfl (x_field (off := 2) (o' := 2) rfl rfl rfl (by kernel_rfl) rfl) ?_
      refine AL_g rfl rfl (x_load1 rfl rfl rfl (by kernel_rfl) rfl) ?_
      refine AL_gb rfl rfl (x_call0 rfl rfl rfl (numS_c _) rfl rfl) (fun b53 h53 => ?_)
      refine AL_p (x_pickT rfl rfl rfl) ?_
      refine AL_p (x_assign rfl rfl) ?_
      refine AL_nil ?_
      refine AW_seq ?_
      refine AW_region ?_
      refine AL_p (x_move rfl rfl) ?_
      refine AL_p (x_not rfl rfl) ?_
      refine AL_p (x_move rfl rfl) ?_
      cases b53
      · try simp only [tdy] at h53
        refine AL_o rfl rfl rfl rfl ?_
        refine AL_o rfl rfl rfl rfl ?_
        refine AL_o rfl rfl rfl rfl ?_
        refine AL_p (x_pickT rfl rfl rfl) ?_
        refine AL_p (x_move rfl rfl) ?_
        refine AL_o rfl rfl rfl rfl ?_
        refine AL_o rfl rfl rfl rfl ?_
        refine AL_o rfl rfl rfl rfl ?_
        refine AL_p (x_pickT rfl rfl rfl) ?_
        refine AL_nil ?_
        refine AW_condT rfl ?_
        refine AW_seq ?_
        refine AW_region ?_
        refine AL_p (x_assign rfl rfl) ?_
        refine AL_nil ?_
        refine AW_ret (BQ_ret (BQ_ret ?_))
        exact ⟨rn [], ⟨⟨⟨_, rfl, vle_bool (by first | exact (actsB_bad (k := k) (by omega) (by unfold actB; first | (rw [decide_eq_true_eq]; omega) | (rw [decide_eq_false_iff_not]; omega))).symm | exact (actsB_good hA (by omega) (by omega)).symm | exact (actsB_len (by omega)).symm)⟩, trivial⟩, trivial, trivial, rfl⟩⟩
      try simp only [tdy] at h53
      refine AL_g rfl rfl (x_field (off := 0) (o' := 0) rfl rfl rfl (by kernel_rfl) rfl) ?_
      refine AL_g rfl rfl (x_load1 rfl rfl rfl (by kernel_rfl) rfl) ?_
      refine AL_gb rfl rfl (x_lss rfl rfl rfl) (fun b60 h60 => ?_)
      refine AL_p (x_pickF rfl rfl rfl) ?_
      refine AL_p (x_move rfl rfl) ?_
      cases b60
      rotate_left
      · try simp only [tdy] at h60
        refine AL_o rfl rfl rfl rfl ?_
        refine AL_o rfl rfl rfl rfl ?_
        refine AL_o rfl rfl rfl rfl ?_
        refine AL_p (x_pickT rfl rfl rfl) ?_
        refine AL_nil ?_
        refine AW_condT rfl ?_
        refine AW_seq ?_
        refine AW_region ?_
        refine AL_p (x_assign rfl rfl) ?_
        refine AL_nil ?_
        refine AW_ret (BQ_ret (BQ_ret ?_))
        exact ⟨rn [], ⟨⟨⟨_, rfl, vle_bool (by first | exact (actsB_bad (k := k) (by omega) (by unfold actB; first | (rw [decide_eq_true_eq]; omega) | (rw [decide_eq_false_iff_not]; omega))).symm | exact (actsB_good hA (by omega) (by omega)).symm | exact (actsB_len (by omega)).symm)⟩, trivial⟩, trivial, trivial, rfl⟩⟩
      try simp only [tdy] at h60
      refine AL_g rfl rfl (x_field (off := 0) (o' := 0) rfl rfl rfl (by kernel_rfl) rfl) ?_
      refine AL_g rfl rfl (x_load1 rfl rfl rfl (by kernel_rfl) rfl) ?_
      refine AL_gb rfl rfl (x_gtr rfl rfl rfl) (fun b65 h65 => ?_)
      refine AL_p (x_pickF rfl rfl rfl) ?_
      refine AL_nil ?_
      cases b65
      rotate_left
      · try simp only [tdy] at h65
        refine AW_condT rfl ?_
        refine AW_seq ?_
        refine AW_region ?_
        refine AL_p (x_assign rfl rfl) ?_
        refine AL_nil ?_
        refine AW_ret (BQ_ret (BQ_ret ?_))
        exact ⟨rn [], ⟨⟨⟨_, rfl, vle_bool (by first | exact (actsB_bad (k := k) (by omega) (by unfold actB; first | (rw [decide_eq_true_eq]; omega) | (rw [decide_eq_false_iff_not]; omega))).symm | exact (actsB_good hA (by omega) (by omega)).symm | exact (actsB_len (by omega)).symm)⟩, trivial⟩, trivial, trivial, rfl⟩⟩
      try simp only [tdy] at h65
      refine AW_condF rfl ?_
      refine AW_skip ?_
      refine AW_region ?_
      refine AL_p (x_add rfl rfl rfl (IntWalk.i64_in _ (by omega))) ?_
      refine AL_p (x_move rfl rfl) ?_
      refine AL_nil ?_
      refine ⟨⟨k + 1, ⟨by omega, hA.succ (by omega) (by unfold actB; first | (rw [decide_eq_true_eq]; omega) | (rw [decide_eq_false_iff_not]; omega))⟩⟩, rn [], ?_, by dsimp only; omega⟩
      exact ⟨by (repeat refine ⟨⟨_, rfl, by first | exact VLe.rf | exact vle_int (by dsimp only; omega)⟩, ?_⟩); exact trivial, by (repeat refine ⟨⟨_, rfl, by first | exact BLe.rf | exact BLe.box AllC.rf | exact BLe.arr (by exact rfl)⟩, ?_⟩); exact trivial, by repeat (first | exact trivial | refine ⟨⟨rfl, by first | (left; intro h; cases h) | (right; rfl), by first | exact (fun _ h => ⟨_, h⟩) | exact (fun _ _ => ⟨_, rfl⟩)⟩, ?_⟩), rfl⟩
    try simp only [tdy] at h44
    refine AL_g rfl rfl (x_field (off := 1) (o' := 1) rfl rfl rfl (by kernel_rfl) rfl) ?_
    refine AL_g rfl rfl (x_load1 rfl rfl rfl (by kernel_rfl) rfl) ?_
    refine AL_gb rfl rfl (x_eql rfl rfl rfl) (fun b48 h48 => ?_)
    refine AL_p (x_pickF rfl rfl rfl) ?_
    refine AL_p (x_move rfl rfl) ?_
    cases b48
    · try simp only [tdy] at h48
      refine AL_o rfl rfl rfl rfl ?_
      refine AL_o rfl rfl rfl rfl ?_
      refine AL_o rfl rfl rfl rfl ?_
      refine AL_p (x_pickF rfl rfl rfl) ?_
      refine AL_p (x_assign rfl rfl) ?_
      refine AL_nil ?_
      refine AW_seq ?_
      refine AW_region ?_
      refine AL_p (x_move rfl rfl) ?_
      refine AL_p (x_not rfl rfl) ?_
      refine AL_p (x_move rfl rfl) ?_
      refine AL_o rfl rfl rfl rfl ?_
      refine AL_o rfl rfl rfl rfl ?_
      refine AL_o rfl rfl rfl rfl ?_
      refine AL_p (x_pickT rfl rfl rfl) ?_
      refine AL_p (x_move rfl rfl) ?_
      refine AL_o rfl rfl rfl rfl ?_
      refine AL_o rfl rfl rfl rfl ?_
      refine AL_o rfl rfl rfl rfl ?_
      refine AL_p (x_pickT rfl rfl rfl) ?_
      refine AL_nil ?_
      refine AW_condT rfl ?_
      refine AW_seq ?_
      refine AW_region ?_
      refine AL_p (x_assign rfl rfl) ?_
      refine AL_nil ?_
      refine AW_ret (BQ_ret (BQ_ret ?_))
      exact ⟨rn [], ⟨⟨⟨_, rfl, vle_bool (by first | exact (actsB_bad (k := k) (by omega) (by unfold actB; first | (rw [decide_eq_true_eq]; omega) | (rw [decide_eq_false_iff_not]; omega))).symm | exact (actsB_good hA (by omega) (by omega)).symm | exact (actsB_len (by omega)).symm)⟩, trivial⟩, trivial, trivial, rfl⟩⟩
    try simp only [tdy] at h48
    refine AL_g rfl rfl (x_field (off := 2) (o' := 2) rfl rfl rfl (by kernel_rfl) rfl) ?_
    refine AL_g rfl rfl (x_load1 rfl rfl rfl (by kernel_rfl) rfl) ?_
    refine AL_gb rfl rfl (x_call0 rfl rfl rfl (numS_c _) rfl rfl) (fun b53 h53 => ?_)
    refine AL_p (x_pickT rfl rfl rfl) ?_
    refine AL_p (x_assign rfl rfl) ?_
    refine AL_nil ?_
    refine AW_seq ?_
    refine AW_region ?_
    refine AL_p (x_move rfl rfl) ?_
    refine AL_p (x_not rfl rfl) ?_
    refine AL_p (x_move rfl rfl) ?_
    cases b53
    · try simp only [tdy] at h53
      refine AL_o rfl rfl rfl rfl ?_
      refine AL_o rfl rfl rfl rfl ?_
      refine AL_o rfl rfl rfl rfl ?_
      refine AL_p (x_pickT rfl rfl rfl) ?_
      refine AL_p (x_move rfl rfl) ?_
      refine AL_o rfl rfl rfl rfl ?_
      refine AL_o rfl rfl rfl rfl ?_
      refine AL_o rfl rfl rfl rfl ?_
      refine AL_p (x_pickT rfl rfl rfl) ?_
      refine AL_nil ?_
      refine AW_condT rfl ?_
      refine AW_seq ?_
      refine AW_region ?_
      refine AL_p (x_assign rfl rfl) ?_
      refine AL_nil ?_
      refine AW_ret (BQ_ret (BQ_ret ?_))
      exact ⟨rn [], ⟨⟨⟨_, rfl, vle_bool (by first | exact (actsB_bad (k := k) (by omega) (by unfold actB; first | (rw [decide_eq_true_eq]; omega) | (rw [decide_eq_false_iff_not]; omega))).symm | exact (actsB_good hA (by omega) (by omega)).symm | exact (actsB_len (by omega)).symm)⟩, trivial⟩, trivial, trivial, rfl⟩⟩
    try simp only [tdy] at h53
    refine AL_g rfl rfl (x_field (off := 0) (o' := 0) rfl rfl rfl (by kernel_rfl) rfl) ?_
    refine AL_g rfl rfl (x_load1 rfl rfl rfl (by kernel_rfl) rfl) ?_
    refine AL_gb rfl rfl (x_lss rfl rfl rfl) (fun b60 h60 => ?_)
    refine AL_p (x_pickF rfl rfl rfl) ?_
    refine AL_p (x_move rfl rfl) ?_
    cases b60
    rotate_left
    · try simp only [tdy] at h60
      refine AL_o rfl rfl rfl rfl ?_
      refine AL_o rfl rfl rfl rfl ?_
      refine AL_o rfl rfl rfl rfl ?_
      refine AL_p (x_pickT rfl rfl rfl) ?_
      refine AL_nil ?_
      refine AW_condT rfl ?_
      refine AW_seq ?_
      refine AW_region ?_
      refine AL_p (x_assign rfl rfl) ?_
      refine AL_nil ?_
      refine AW_ret (BQ_ret (BQ_ret ?_))
      exact ⟨rn [], ⟨⟨⟨_, rfl, vle_bool (by first | exact (actsB_bad (k := k) (by omega) (by unfold actB; first | (rw [decide_eq_true_eq]; omega) | (rw [decide_eq_false_iff_not]; omega))).symm | exact (actsB_good hA (by omega) (by omega)).symm | exact (actsB_len (by omega)).symm)⟩, trivial⟩, trivial, trivial, rfl⟩⟩
    try simp only [tdy] at h60
    refine AL_g rfl rfl (x_field (off := 0) (o' := 0) rfl rfl rfl (by kernel_rfl) rfl) ?_
    refine AL_g rfl rfl (x_load1 rfl rfl rfl (by kernel_rfl) rfl) ?_
    refine AL_gb rfl rfl (x_gtr rfl rfl rfl) (fun b65 h65 => ?_)
    refine AL_p (x_pickF rfl rfl rfl) ?_
    refine AL_nil ?_
    cases b65
    rotate_left
    · try simp only [tdy] at h65
      refine AW_condT rfl ?_
      refine AW_seq ?_
      refine AW_region ?_
      refine AL_p (x_assign rfl rfl) ?_
      refine AL_nil ?_
      refine AW_ret (BQ_ret (BQ_ret ?_))
      exact ⟨rn [], ⟨⟨⟨_, rfl, vle_bool (by first | exact (actsB_bad (k := k) (by omega) (by unfold actB; first | (rw [decide_eq_true_eq]; omega) | (rw [decide_eq_false_iff_not]; omega))).symm | exact (actsB_good hA (by omega) (by omega)).symm | exact (actsB_len (by omega)).symm)⟩, trivial⟩, trivial, trivial, rfl⟩⟩
    try simp only [tdy] at h65
    refine AW_condF rfl ?_
    refine AW_skip ?_
    refine AW_region ?_
    refine AL_p (x_add rfl rfl rfl (IntWalk.i64_in _ (by omega))) ?_
    refine AL_p (x_move rfl rfl) ?_
    refine AL_nil ?_
    refine ⟨⟨k + 1, ⟨by omega, hA.succ (by omega) (by unfold actB; first | (rw [decide_eq_true_eq]; omega) | (rw [decide_eq_false_iff_not]; omega))⟩⟩, rn [], ?_, by dsimp only; omega⟩
    exact ⟨by (repeat refine ⟨⟨_, rfl, by first | exact VLe.rf | exact vle_int (by dsimp only; omega)⟩, ?_⟩); exact trivial, by (repeat refine ⟨⟨_, rfl, by first | exact BLe.rf | exact BLe.box AllC.rf | exact BLe.arr (by exact rfl)⟩, ?_⟩); exact trivial, by repeat (first | exact trivial | refine ⟨⟨rfl, by first | (left; intro h; cases h) | (right; rfl), by first | exact (fun _ h => ⟨_, h⟩) | exact (fun _ _ => ⟨_, rfl⟩)⟩, ?_⟩), rfl⟩
  try simp only [tdy] at h32
  refine AL_g rfl rfl (x_field (off := 2) (o' := 2) rfl rfl rfl (by kernel_rfl) rfl) ?_
  refine AL_g rfl rfl (x_load1 rfl rfl rfl (by kernel_rfl) rfl) ?_
  refine AL_gb rfl rfl (x_eql rfl rfl rfl) (fun b37 h37 => ?_)
  refine AL_p (x_pickT rfl rfl rfl) ?_
  refine AL_p (x_assign rfl rfl) ?_
  refine AL_nil ?_
  refine AW_seq ?_
  refine AW_seq ?_
  refine AW_region ?_
  refine AL_p (x_field (off := 0) (o' := 0) rfl rfl rfl (by kernel_rfl) rfl) ?_
  refine AL_p (x_load1 rfl rfl rfl (by kernel_rfl) rfl) ?_
  refine AL_b (x_eql rfl rfl rfl) (fun b41 h41 => ?_)
  refine AL_nil ?_
  cases b41
  · try simp only [tdy] at h41
    refine AW_condF rfl ?_
    refine AW_skip ?_
    refine AW_seq ?_
    refine AW_region ?_
    refine AL_p (x_move rfl rfl) ?_
    refine AL_p (x_not rfl rfl) ?_
    refine AL_p (x_move rfl rfl) ?_
    cases b37
    · try simp only [tdy] at h37
      refine AL_o rfl rfl rfl rfl ?_
      refine AL_o rfl rfl rfl rfl ?_
      refine AL_o rfl rfl rfl rfl ?_
      refine AL_p (x_pickT rfl rfl rfl) ?_
      refine AL_p (x_move rfl rfl) ?_
      refine AL_o rfl rfl rfl rfl ?_
      refine AL_o rfl rfl rfl rfl ?_
      refine AL_o rfl rfl rfl rfl ?_
      refine AL_p (x_pickT rfl rfl rfl) ?_
      refine AL_nil ?_
      refine AW_condT rfl ?_
      refine AW_seq ?_
      refine AW_region ?_
      refine AL_p (x_assign rfl rfl) ?_
      refine AL_nil ?_
      refine AW_ret (BQ_ret (BQ_ret ?_))
      exact ⟨rn [], ⟨⟨⟨_, rfl, vle_bool (by first | exact (actsB_bad (k := k) (by omega) (by unfold actB; first | (rw [decide_eq_true_eq]; omega) | (rw [decide_eq_false_iff_not]; omega))).symm | exact (actsB_good hA (by omega) (by omega)).symm | exact (actsB_len (by omega)).symm)⟩, trivial⟩, trivial, trivial, rfl⟩⟩
    try simp only [tdy] at h37
    refine AL_g rfl rfl (x_field (off := 0) (o' := 0) rfl rfl rfl (by kernel_rfl) rfl) ?_
    refine AL_g rfl rfl (x_load1 rfl rfl rfl (by kernel_rfl) rfl) ?_
    refine AL_gb rfl rfl (x_lss rfl rfl rfl) (fun b60 h60 => ?_)
    refine AL_p (x_pickF rfl rfl rfl) ?_
    refine AL_p (x_move rfl rfl) ?_
    cases b60
    rotate_left
    · try simp only [tdy] at h60
      refine AL_o rfl rfl rfl rfl ?_
      refine AL_o rfl rfl rfl rfl ?_
      refine AL_o rfl rfl rfl rfl ?_
      refine AL_p (x_pickT rfl rfl rfl) ?_
      refine AL_nil ?_
      refine AW_condT rfl ?_
      refine AW_seq ?_
      refine AW_region ?_
      refine AL_p (x_assign rfl rfl) ?_
      refine AL_nil ?_
      refine AW_ret (BQ_ret (BQ_ret ?_))
      exact ⟨rn [], ⟨⟨⟨_, rfl, vle_bool (by first | exact (actsB_bad (k := k) (by omega) (by unfold actB; first | (rw [decide_eq_true_eq]; omega) | (rw [decide_eq_false_iff_not]; omega))).symm | exact (actsB_good hA (by omega) (by omega)).symm | exact (actsB_len (by omega)).symm)⟩, trivial⟩, trivial, trivial, rfl⟩⟩
    try simp only [tdy] at h60
    refine AL_g rfl rfl (x_field (off := 0) (o' := 0) rfl rfl rfl (by kernel_rfl) rfl) ?_
    refine AL_g rfl rfl (x_load1 rfl rfl rfl (by kernel_rfl) rfl) ?_
    refine AL_gb rfl rfl (x_gtr rfl rfl rfl) (fun b65 h65 => ?_)
    refine AL_p (x_pickF rfl rfl rfl) ?_
    refine AL_nil ?_
    cases b65
    rotate_left
    · try simp only [tdy] at h65
      refine AW_condT rfl ?_
      refine AW_seq ?_
      refine AW_region ?_
      refine AL_p (x_assign rfl rfl) ?_
      refine AL_nil ?_
      refine AW_ret (BQ_ret (BQ_ret ?_))
      exact ⟨rn [], ⟨⟨⟨_, rfl, vle_bool (by first | exact (actsB_bad (k := k) (by omega) (by unfold actB; first | (rw [decide_eq_true_eq]; omega) | (rw [decide_eq_false_iff_not]; omega))).symm | exact (actsB_good hA (by omega) (by omega)).symm | exact (actsB_len (by omega)).symm)⟩, trivial⟩, trivial, trivial, rfl⟩⟩
    try simp only [tdy] at h65
    refine AW_condF rfl ?_
    refine AW_skip ?_
    refine AW_region ?_
    refine AL_p (x_add rfl rfl rfl (IntWalk.i64_in _ (by omega))) ?_
    refine AL_p (x_move rfl rfl) ?_
    refine AL_nil ?_
    refine ⟨⟨k + 1, ⟨by omega, hA.succ (by omega) (by unfold actB; first | (rw [decide_eq_true_eq]; omega) | (rw [decide_eq_false_iff_not]; omega))⟩⟩, rn [], ?_, by dsimp only; omega⟩
    exact ⟨by (repeat refine ⟨⟨_, rfl, by first | exact VLe.rf | exact vle_int (by dsimp only; omega)⟩, ?_⟩); exact trivial, by (repeat refine ⟨⟨_, rfl, by first | exact BLe.rf | exact BLe.box AllC.rf | exact BLe.arr (by exact rfl)⟩, ?_⟩); exact trivial, by repeat (first | exact trivial | refine ⟨⟨rfl, by first | (left; intro h; cases h) | (right; rfl), by first | exact (fun _ h => ⟨_, h⟩) | exact (fun _ _ => ⟨_, rfl⟩)⟩, ?_⟩), rfl⟩
  try simp only [tdy] at h41
  refine AW_condT rfl ?_
  refine AW_region ?_
  refine AL_p (x_field (off := 1) (o' := 1) rfl rfl rfl (by kernel_rfl) rfl) ?_
  refine AL_p (x_load1 rfl rfl rfl (by kernel_rfl) rfl) ?_
  refine AL_b (x_eql rfl rfl rfl) (fun b44 h44 => ?_)
  refine AL_p (x_move rfl rfl) ?_
  cases b44
  rotate_left
  · try simp only [tdy] at h44
    refine AL_o rfl rfl rfl rfl ?_
    refine AL_o rfl rfl rfl rfl ?_
    refine AL_o rfl rfl rfl rfl ?_
    refine AL_p (x_pickT rfl rfl rfl) ?_
    refine AL_p (x_move rfl rfl) ?_
    refine AL_g rfl rfl (x_field (off := 2) (o' := 2) rfl rfl rfl (by kernel_rfl) rfl) ?_
    refine AL_g rfl rfl (x_load1 rfl rfl rfl (by kernel_rfl) rfl) ?_
    refine AL_gb rfl rfl (x_call0 rfl rfl rfl (numS_c _) rfl rfl) (fun b53 h53 => ?_)
    refine AL_p (x_pickT rfl rfl rfl) ?_
    refine AL_p (x_assign rfl rfl) ?_
    refine AL_nil ?_
    refine AW_seq ?_
    refine AW_region ?_
    refine AL_p (x_move rfl rfl) ?_
    refine AL_p (x_not rfl rfl) ?_
    refine AL_p (x_move rfl rfl) ?_
    cases b53
    · try simp only [tdy] at h53
      refine AL_o rfl rfl rfl rfl ?_
      refine AL_o rfl rfl rfl rfl ?_
      refine AL_o rfl rfl rfl rfl ?_
      refine AL_p (x_pickT rfl rfl rfl) ?_
      refine AL_p (x_move rfl rfl) ?_
      refine AL_o rfl rfl rfl rfl ?_
      refine AL_o rfl rfl rfl rfl ?_
      refine AL_o rfl rfl rfl rfl ?_
      refine AL_p (x_pickT rfl rfl rfl) ?_
      refine AL_nil ?_
      refine AW_condT rfl ?_
      refine AW_seq ?_
      refine AW_region ?_
      refine AL_p (x_assign rfl rfl) ?_
      refine AL_nil ?_
      refine AW_ret (BQ_ret (BQ_ret ?_))
      exact ⟨rn [], ⟨⟨⟨_, rfl, vle_bool (by first | exact (actsB_bad (k := k) (by omega) (by unfold actB; first | (rw [decide_eq_true_eq]; omega) | (rw [decide_eq_false_iff_not]; omega))).symm | exact (actsB_good hA (by omega) (by omega)).symm | exact (actsB_len (by omega)).symm)⟩, trivial⟩, trivial, trivial, rfl⟩⟩
    try simp only [tdy] at h53
    refine AL_g rfl rfl (x_field (off := 0) (o' := 0) rfl rfl rfl (by kernel_rfl) rfl) ?_
    refine AL_g rfl rfl (x_load1 rfl rfl rfl (by kernel_rfl) rfl) ?_
    refine AL_gb rfl rfl (x_lss rfl rfl rfl) (fun b60 h60 => ?_)
    refine AL_p (x_pickF rfl rfl rfl) ?_
    refine AL_p (x_move rfl rfl) ?_
    cases b60
    rotate_left
    · try simp only [tdy] at h60
      refine AL_o rfl rfl rfl rfl ?_
      refine AL_o rfl rfl rfl rfl ?_
      refine AL_o rfl rfl rfl rfl ?_
      refine AL_p (x_pickT rfl rfl rfl) ?_
      refine AL_nil ?_
      refine AW_condT rfl ?_
      refine AW_seq ?_
      refine AW_region ?_
      refine AL_p (x_assign rfl rfl) ?_
      refine AL_nil ?_
      refine AW_ret (BQ_ret (BQ_ret ?_))
      exact ⟨rn [], ⟨⟨⟨_, rfl, vle_bool (by first | exact (actsB_bad (k := k) (by omega) (by unfold actB; first | (rw [decide_eq_true_eq]; omega) | (rw [decide_eq_false_iff_not]; omega))).symm | exact (actsB_good hA (by omega) (by omega)).symm | exact (actsB_len (by omega)).symm)⟩, trivial⟩, trivial, trivial, rfl⟩⟩
    try simp only [tdy] at h60
    refine AL_g rfl rfl (x_field (off := 0) (o' := 0) rfl rfl rfl (by kernel_rfl) rfl) ?_
    refine AL_g rfl rfl (x_load1 rfl rfl rfl (by kernel_rfl) rfl) ?_
    refine AL_gb rfl rfl (x_gtr rfl rfl rfl) (fun b65 h65 => ?_)
    refine AL_p (x_pickF rfl rfl rfl) ?_
    refine AL_nil ?_
    cases b65
    rotate_left
    · try simp only [tdy] at h65
      refine AW_condT rfl ?_
      refine AW_seq ?_
      refine AW_region ?_
      refine AL_p (x_assign rfl rfl) ?_
      refine AL_nil ?_
      refine AW_ret (BQ_ret (BQ_ret ?_))
      exact ⟨rn [], ⟨⟨⟨_, rfl, vle_bool (by first | exact (actsB_bad (k := k) (by omega) (by unfold actB; first | (rw [decide_eq_true_eq]; omega) | (rw [decide_eq_false_iff_not]; omega))).symm | exact (actsB_good hA (by omega) (by omega)).symm | exact (actsB_len (by omega)).symm)⟩, trivial⟩, trivial, trivial, rfl⟩⟩
    try simp only [tdy] at h65
    refine AW_condF rfl ?_
    refine AW_skip ?_
    refine AW_region ?_
    refine AL_p (x_add rfl rfl rfl (IntWalk.i64_in _ (by omega))) ?_
    refine AL_p (x_move rfl rfl) ?_
    refine AL_nil ?_
    refine ⟨⟨k + 1, ⟨by omega, hA.succ (by omega) (by unfold actB; first | (rw [decide_eq_true_eq]; omega) | (rw [decide_eq_false_iff_not]; omega))⟩⟩, rn [], ?_, by dsimp only; omega⟩
    exact ⟨by (repeat refine ⟨⟨_, rfl, by first | exact VLe.rf | exact vle_int (by dsimp only; omega)⟩, ?_⟩); exact trivial, by (repeat refine ⟨⟨_, rfl, by first | exact BLe.rf | exact BLe.box AllC.rf | exact BLe.arr (by exact rfl)⟩, ?_⟩); exact trivial, by repeat (first | exact trivial | refine ⟨⟨rfl, by first | (left; intro h; cases h) | (right; rfl), by first | exact (fun _ h => ⟨_, h⟩) | exact (fun _ _ => ⟨_, rfl⟩)⟩, ?_⟩), rfl⟩
  try simp only [tdy] at h44
  refine AL_g rfl rfl (x_field (off := 1) (o' := 1) rfl rfl rfl (by kernel_rfl) rfl) ?_
  refine AL_g rfl rfl (x_load1 rfl rfl rfl (by kernel_rfl) rfl) ?_
  refine AL_gb rfl rfl (x_eql rfl rfl rfl) (fun b48 h48 => ?_)
  refine AL_p (x_pickF rfl rfl rfl) ?_
  refine AL_p (x_move rfl rfl) ?_
  cases b48
  · try simp only [tdy] at h48
    refine AL_o rfl rfl rfl rfl ?_
    refine AL_o rfl rfl rfl rfl ?_
    refine AL_o rfl rfl rfl rfl ?_
    refine AL_p (x_pickF rfl rfl rfl) ?_
    refine AL_p (x_assign rfl rfl) ?_
    refine AL_nil ?_
    refine AW_seq ?_
    refine AW_region ?_
    refine AL_p (x_move rfl rfl) ?_
    refine AL_p (x_not rfl rfl) ?_
    refine AL_p (x_move rfl rfl) ?_
    refine AL_o rfl rfl rfl rfl ?_
    refine AL_o rfl rfl rfl rfl ?_
    refine AL_o rfl rfl rfl rfl ?_
    refine AL_p (x_pickT rfl rfl rfl) ?_
    refine AL_p (x_move rfl rfl) ?_
    refine AL_o rfl rfl rfl rfl ?_
    refine AL_o rfl rfl rfl rfl ?_
    refine AL_o rfl rfl rfl rfl ?_
    refine AL_p (x_pickT rfl rfl rfl) ?_
    refine AL_nil ?_
    refine AW_condT rfl ?_
    refine AW_seq ?_
    refine AW_region ?_
    refine AL_p (x_assign rfl rfl) ?_
    refine AL_nil ?_
    refine AW_ret (BQ_ret (BQ_ret ?_))
    exact ⟨rn [], ⟨⟨⟨_, rfl, vle_bool (by first | exact (actsB_bad (k := k) (by omega) (by unfold actB; first | (rw [decide_eq_true_eq]; omega) | (rw [decide_eq_false_iff_not]; omega))).symm | exact (actsB_good hA (by omega) (by omega)).symm | exact (actsB_len (by omega)).symm)⟩, trivial⟩, trivial, trivial, rfl⟩⟩
  try simp only [tdy] at h48
  refine AL_g rfl rfl (x_field (off := 2) (o' := 2) rfl rfl rfl (by kernel_rfl) rfl) ?_
  refine AL_g rfl rfl (x_load1 rfl rfl rfl (by kernel_rfl) rfl) ?_
  refine AL_gb rfl rfl (x_call0 rfl rfl rfl (numS_c _) rfl rfl) (fun b53 h53 => ?_)
  refine AL_p (x_pickT rfl rfl rfl) ?_
  refine AL_p (x_assign rfl rfl) ?_
  refine AL_nil ?_
  refine AW_seq ?_
  refine AW_region ?_
  refine AL_p (x_move rfl rfl) ?_
  refine AL_p (x_not rfl rfl) ?_
  refine AL_p (x_move rfl rfl) ?_
  cases b53
  · try simp only [tdy] at h53
    refine AL_o rfl rfl rfl rfl ?_
    refine AL_o rfl rfl rfl rfl ?_
    refine AL_o rfl rfl rfl rfl ?_
    refine AL_p (x_pickT rfl rfl rfl) ?_
    refine AL_p (x_move rfl rfl) ?_
    refine AL_o rfl rfl rfl rfl ?_
    refine AL_o rfl rfl rfl rfl ?_
    refine AL_o rfl rfl rfl rfl ?_
    refine AL_p (x_pickT rfl rfl rfl) ?_
    refine AL_nil ?_
    refine AW_condT rfl ?_
    refine AW_seq ?_
    refine AW_region ?_
    refine AL_p (x_assign rfl rfl) ?_
    refine AL_nil ?_
    refine AW_ret (BQ_ret (BQ_ret ?_))
    exact ⟨rn [], ⟨⟨⟨_, rfl, vle_bool (by first | exact (actsB_bad (k := k) (by omega) (by unfold actB; first | (rw [decide_eq_true_eq]; omega) | (rw [decide_eq_false_iff_not]; omega))).symm | exact (actsB_good hA (by omega) (by omega)).symm | exact (actsB_len (by omega)).symm)⟩, trivial⟩, trivial, trivial, rfl⟩⟩
  try simp only [tdy] at h53
  refine AL_g rfl rfl (x_field (off := 0) (o' := 0) rfl rfl rfl (by kernel_rfl) rfl) ?_
  refine AL_g rfl rfl (x_load1 rfl rfl rfl (by kernel_rfl) rfl) ?_
  refine AL_gb rfl rfl (x_lss rfl rfl rfl) (fun b60 h60 => ?_)
  refine AL_p (x_pickF rfl rfl rfl) ?_
  refine AL_p (x_move rfl rfl) ?_
  cases b60
  rotate_left
  · try simp only [tdy] at h60
    refine AL_o rfl rfl rfl rfl ?_
    refine AL_o rfl rfl rfl rfl ?_
    refine AL_o rfl rfl rfl rfl ?_
    refine AL_p (x_pickT rfl rfl rfl) ?_
    refine AL_nil ?_
    refine AW_condT rfl ?_
    refine AW_seq ?_
    refine AW_region ?_
    refine AL_p (x_assign rfl rfl) ?_
    refine AL_nil ?_
    refine AW_ret (BQ_ret (BQ_ret ?_))
    exact ⟨rn [], ⟨⟨⟨_, rfl, vle_bool (by first | exact (actsB_bad (k := k) (by omega) (by unfold actB; first | (rw [decide_eq_true_eq]; omega) | (rw [decide_eq_false_iff_not]; omega))).symm | exact (actsB_good hA (by omega) (by omega)).symm | exact (actsB_len (by omega)).symm)⟩, trivial⟩, trivial, trivial, rfl⟩⟩
  try simp only [tdy] at h60
  refine AL_g rfl rfl (x_field (off := 0) (o' := 0) rfl rfl rfl (by kernel_rfl) rfl) ?_
  refine AL_g rfl rfl (x_load1 rfl rfl rfl (by kernel_rfl) rfl) ?_
  refine AL_gb rfl rfl (x_gtr rfl rfl rfl) (fun b65 h65 => ?_)
  refine AL_p (x_pickF rfl rfl rfl) ?_
  refine AL_nil ?_
  cases b65
  rotate_left
  · try simp only [tdy] at h65
    refine AW_condT rfl ?_
    refine AW_seq ?_
    refine AW_region ?_
    refine AL_p (x_assign rfl rfl) ?_
    refine AL_nil ?_
    refine AW_ret (BQ_ret (BQ_ret ?_))
    exact ⟨rn [], ⟨⟨⟨_, rfl, vle_bool (by first | exact (actsB_bad (k := k) (by omega) (by unfold actB; first | (rw [decide_eq_true_eq]; omega) | (rw [decide_eq_false_iff_not]; omega))).symm | exact (actsB_good hA (by omega) (by omega)).symm | exact (actsB_len (by omega)).symm)⟩, trivial⟩, trivial, trivial, rfl⟩⟩
  try simp only [tdy] at h65
  refine AW_condF rfl ?_
  refine AW_skip ?_
  refine AW_region ?_
  refine AL_p (x_add rfl rfl rfl (IntWalk.i64_in _ (by omega))) ?_
  refine AL_p (x_move rfl rfl) ?_
  refine AL_nil ?_
  refine ⟨⟨k + 1, ⟨by omega, hA.succ (by omega) (by unfold actB; first | (rw [decide_eq_true_eq]; omega) | (rw [decide_eq_false_iff_not]; omega))⟩⟩, rn [], ?_, by dsimp only; omega⟩
  exact ⟨by (repeat refine ⟨⟨_, rfl, by first | exact VLe.rf | exact vle_int (by dsimp only; omega)⟩, ?_⟩); exact trivial, by (repeat refine ⟨⟨_, rfl, by first | exact BLe.rf | exact BLe.box AllC.rf | exact BLe.arr (by exact rfl)⟩, ?_⟩); exact trivial, by repeat (first | exact trivial | refine ⟨⟨rfl, by first | (left; intro h; cases h) | (right; rfl), by first | exact (fun _ h => ⟨_, h⟩) | exact (fun _ _ => ⟨_, rfl⟩)⟩, ?_⟩), rfl⟩

set_option maxHeartbeats 4000000 in
theorem entryI_c (ep pr hits : Int) (m : Matcht) (l : List Actt) : AC Try.prog 70 [.agg [.c (.int .i64 ep), .c (.int .i64 pr), .sl (intE .i64) m.v, .sl (intE .i64) m.m, .sl actE l, .c (.int .i64 hits)]] [] (.one (.c (.bool (entryB ep pr hits m l)))) [] := by
  refine AC_body1 Try.func70 rfl rfl Try.ntmps70 rfl Try.results70 ?_
  refine AW_seq ?_
  refine AW_region ?_
  refine AL_p (x_box 100 rfl rfl rfl rfl rfl rfl rfl) ?_
  refine AL_p (x_assign rfl rfl) ?_
  refine AL_nil ?_
  refine AW_seq ?_
  refine AW_region ?_
  refine AL_p (x_field (off := 0) (o' := 0) rfl rfl rfl (by kernel_rfl) rfl) ?_
  refine AL_p (x_load1 rfl rfl rfl (by kernel_rfl) rfl) ?_
  refine AL_b (x_call0 rfl rfl rfl (upToI_c _ _) rfl rfl) (fun b5 h5 => ?_)
  refine AL_p (x_move rfl rfl) ?_
  cases b5
  · try simp only [tdy] at h5
    refine AL_o rfl rfl rfl rfl ?_
    refine AL_o rfl rfl rfl rfl ?_
    refine AL_o rfl rfl rfl rfl ?_
    refine AL_p (x_pickF rfl rfl rfl) ?_
    refine AL_p (x_move rfl rfl) ?_
    refine AL_o rfl rfl rfl rfl ?_
    refine AL_o rfl rfl rfl rfl ?_
    refine AL_o rfl rfl rfl rfl ?_
    refine AL_p (x_pickF rfl rfl rfl) ?_
    refine AL_p (x_move rfl rfl) ?_
    refine AL_o rfl rfl rfl rfl ?_
    refine AL_o rfl rfl rfl rfl ?_
    refine AL_o rfl rfl rfl rfl ?_
    refine AL_p (x_pickF rfl rfl rfl) ?_
    refine AL_p (x_move rfl rfl) ?_
    refine AL_o rfl rfl rfl rfl ?_
    refine AL_o rfl rfl rfl rfl ?_
    refine AL_o rfl rfl rfl rfl ?_
    refine AL_p (x_pickF rfl rfl rfl) ?_
    refine AL_p (x_assign rfl rfl) ?_
    refine AL_nil ?_
    refine AW_ret ?_
    exact ⟨rn [], ⟨⟨⟨_, rfl, vle_bool (by grind [entryB, upToB])⟩, trivial⟩, trivial, trivial, rfl⟩⟩
  try simp only [tdy] at h5
  refine AL_g rfl rfl (x_field (off := 1) (o' := 1) rfl rfl rfl (by kernel_rfl) rfl) ?_
  refine AL_g rfl rfl (x_load1 rfl rfl rfl (by kernel_rfl) rfl) ?_
  refine AL_gb rfl rfl (x_call0 rfl rfl rfl (upToI_c _ _) rfl rfl) (fun b9 h9 => ?_)
  refine AL_p (x_pickT rfl rfl rfl) ?_
  refine AL_p (x_move rfl rfl) ?_
  cases b9
  · try simp only [tdy] at h9
    refine AL_o rfl rfl rfl rfl ?_
    refine AL_o rfl rfl rfl rfl ?_
    refine AL_o rfl rfl rfl rfl ?_
    refine AL_p (x_pickF rfl rfl rfl) ?_
    refine AL_p (x_move rfl rfl) ?_
    refine AL_o rfl rfl rfl rfl ?_
    refine AL_o rfl rfl rfl rfl ?_
    refine AL_o rfl rfl rfl rfl ?_
    refine AL_p (x_pickF rfl rfl rfl) ?_
    refine AL_p (x_move rfl rfl) ?_
    refine AL_o rfl rfl rfl rfl ?_
    refine AL_o rfl rfl rfl rfl ?_
    refine AL_o rfl rfl rfl rfl ?_
    refine AL_p (x_pickF rfl rfl rfl) ?_
    refine AL_p (x_assign rfl rfl) ?_
    refine AL_nil ?_
    refine AW_ret ?_
    exact ⟨rn [], ⟨⟨⟨_, rfl, vle_bool (by grind [entryB, upToB])⟩, trivial⟩, trivial, trivial, rfl⟩⟩
  try simp only [tdy] at h9
  refine AL_g rfl rfl (x_field (off := 5) (o' := 5) rfl rfl rfl (by kernel_rfl) rfl) ?_
  refine AL_g rfl rfl (x_load1 rfl rfl rfl (by kernel_rfl) rfl) ?_
  refine AL_gb rfl rfl (x_call0 rfl rfl rfl (upToI_c _ _) rfl rfl) (fun b14 h14 => ?_)
  refine AL_p (x_pickT rfl rfl rfl) ?_
  refine AL_p (x_move rfl rfl) ?_
  cases b14
  · try simp only [tdy] at h14
    refine AL_o rfl rfl rfl rfl ?_
    refine AL_o rfl rfl rfl rfl ?_
    refine AL_o rfl rfl rfl rfl ?_
    refine AL_p (x_pickF rfl rfl rfl) ?_
    refine AL_p (x_move rfl rfl) ?_
    refine AL_o rfl rfl rfl rfl ?_
    refine AL_o rfl rfl rfl rfl ?_
    refine AL_o rfl rfl rfl rfl ?_
    refine AL_p (x_pickF rfl rfl rfl) ?_
    refine AL_p (x_assign rfl rfl) ?_
    refine AL_nil ?_
    refine AW_ret ?_
    exact ⟨rn [], ⟨⟨⟨_, rfl, vle_bool (by grind [entryB, upToB])⟩, trivial⟩, trivial, trivial, rfl⟩⟩
  try simp only [tdy] at h14
  refine AL_g rfl rfl (x_field (off := 2) (o' := 2) rfl rfl rfl (by kernel_rfl) rfl) ?_
  refine AL_g rfl rfl (x_loadN (n := 2) rfl rfl rfl (by kernel_rfl) rfl rfl) ?_
  refine AL_gb rfl rfl (x_call0 rfl rfl rfl (matchI_c m) rfl rfl) (fun b19 h19 => ?_)
  refine AL_p (x_pickT rfl rfl rfl) ?_
  refine AL_p (x_move rfl rfl) ?_
  cases b19
  · try simp only [tdy] at h19
    refine AL_o rfl rfl rfl rfl ?_
    refine AL_o rfl rfl rfl rfl ?_
    refine AL_o rfl rfl rfl rfl ?_
    refine AL_p (x_pickF rfl rfl rfl) ?_
    refine AL_p (x_assign rfl rfl) ?_
    refine AL_nil ?_
    refine AW_ret ?_
    exact ⟨rn [], ⟨⟨⟨_, rfl, vle_bool (by grind [entryB, upToB])⟩, trivial⟩, trivial, trivial, rfl⟩⟩
  try simp only [tdy] at h19
  refine AL_g rfl rfl (x_field (off := 4) (o' := 4) rfl rfl rfl (by kernel_rfl) rfl) ?_
  refine AL_g rfl rfl (x_load1 rfl rfl rfl (by kernel_rfl) rfl) ?_
  refine AL_gb rfl rfl (x_call0 rfl rfl rfl (actsI_c l) rfl rfl) (fun b24 h24 => ?_)
  refine AL_p (x_pickT rfl rfl rfl) ?_
  refine AL_p (x_assign rfl rfl) ?_
  refine AL_nil ?_
  refine AW_ret ?_
  cases b24
  rotate_left
  · try simp only [tdy] at h24
    exact ⟨rn [], ⟨⟨⟨_, rfl, vle_bool (by grind [entryB, upToB])⟩, trivial⟩, trivial, trivial, rfl⟩⟩
  try simp only [tdy] at h24
  exact ⟨rn [], ⟨⟨⟨_, rfl, vle_bool (by grind [entryB, upToB])⟩, trivial⟩, trivial, trivial, rfl⟩⟩

set_option maxHeartbeats 4000000 in
theorem entryS_c (ep pr hits : Int) (m : Matcht) (l : List Actt) : AC Try.prog 64 [.agg [.c (.int .i64 ep), .c (.int .i64 pr), .sl (intE .i64) m.v, .sl (intE .i64) m.m, .sl actE l, .c (.int .i64 hits)]] [] (.one (.c (.bool (entryB ep pr hits m l)))) [] := by
  refine AC_body1 Try.func64 rfl rfl Try.ntmps64 rfl Try.results64 ?_
  refine AW_seq ?_
  refine AW_region ?_
  refine AL_p (x_box 100 rfl rfl rfl rfl rfl rfl rfl) ?_
  refine AL_p (x_assign rfl rfl) ?_
  refine AL_nil ?_
  refine AW_seq ?_
  refine AW_seq ?_
  refine AW_region ?_
  refine AL_p (x_field (off := 0) (o' := 0) rfl rfl rfl (by kernel_rfl) rfl) ?_
  refine AL_p (x_load1 rfl rfl rfl (by kernel_rfl) rfl) ?_
  refine AL_b (x_lss rfl rfl rfl) (fun b5 h5 => ?_)
  refine AL_p (x_move rfl rfl) ?_
  cases b5
  rotate_left
  · try simp only [tdy] at h5
    refine AL_o rfl rfl rfl rfl ?_
    refine AL_o rfl rfl rfl rfl ?_
    refine AL_o rfl rfl rfl rfl ?_
    refine AL_p (x_pickT rfl rfl rfl) ?_
    refine AL_p (x_move rfl rfl) ?_
    refine AL_o rfl rfl rfl rfl ?_
    refine AL_o rfl rfl rfl rfl ?_
    refine AL_o rfl rfl rfl rfl ?_
    refine AL_p (x_pickT rfl rfl rfl) ?_
    refine AL_p (x_move rfl rfl) ?_
    refine AL_o rfl rfl rfl rfl ?_
    refine AL_o rfl rfl rfl rfl ?_
    refine AL_o rfl rfl rfl rfl ?_
    refine AL_p (x_pickT rfl rfl rfl) ?_
    refine AL_p (x_move rfl rfl) ?_
    refine AL_o rfl rfl rfl rfl ?_
    refine AL_o rfl rfl rfl rfl ?_
    refine AL_o rfl rfl rfl rfl ?_
    refine AL_p (x_pickT rfl rfl rfl) ?_
    refine AL_p (x_move rfl rfl) ?_
    refine AL_o rfl rfl rfl rfl ?_
    refine AL_o rfl rfl rfl rfl ?_
    refine AL_o rfl rfl rfl rfl ?_
    refine AL_p (x_pickT rfl rfl rfl) ?_
    refine AL_nil ?_
    refine AW_condT rfl ?_
    refine AW_seq ?_
    refine AW_region ?_
    refine AL_p (x_assign rfl rfl) ?_
    refine AL_nil ?_
    refine AW_ret ?_
    exact ⟨rn [], ⟨⟨⟨_, rfl, vle_bool (by grind [entryB, upToB])⟩, trivial⟩, trivial, trivial, rfl⟩⟩
  try simp only [tdy] at h5
  refine AL_g rfl rfl (x_field (off := 0) (o' := 0) rfl rfl rfl (by kernel_rfl) rfl) ?_
  refine AL_g rfl rfl (x_load1 rfl rfl rfl (by kernel_rfl) rfl) ?_
  refine AL_gb rfl rfl (x_gtr rfl rfl rfl) (fun b9 h9 => ?_)
  refine AL_p (x_pickF rfl rfl rfl) ?_
  refine AL_p (x_move rfl rfl) ?_
  cases b9
  rotate_left
  · try simp only [tdy] at h9
    refine AL_o rfl rfl rfl rfl ?_
    refine AL_o rfl rfl rfl rfl ?_
    refine AL_o rfl rfl rfl rfl ?_
    refine AL_p (x_pickT rfl rfl rfl) ?_
    refine AL_p (x_move rfl rfl) ?_
    refine AL_o rfl rfl rfl rfl ?_
    refine AL_o rfl rfl rfl rfl ?_
    refine AL_o rfl rfl rfl rfl ?_
    refine AL_p (x_pickT rfl rfl rfl) ?_
    refine AL_p (x_move rfl rfl) ?_
    refine AL_o rfl rfl rfl rfl ?_
    refine AL_o rfl rfl rfl rfl ?_
    refine AL_o rfl rfl rfl rfl ?_
    refine AL_p (x_pickT rfl rfl rfl) ?_
    refine AL_p (x_move rfl rfl) ?_
    refine AL_o rfl rfl rfl rfl ?_
    refine AL_o rfl rfl rfl rfl ?_
    refine AL_o rfl rfl rfl rfl ?_
    refine AL_p (x_pickT rfl rfl rfl) ?_
    refine AL_nil ?_
    refine AW_condT rfl ?_
    refine AW_seq ?_
    refine AW_region ?_
    refine AL_p (x_assign rfl rfl) ?_
    refine AL_nil ?_
    refine AW_ret ?_
    exact ⟨rn [], ⟨⟨⟨_, rfl, vle_bool (by grind [entryB, upToB])⟩, trivial⟩, trivial, trivial, rfl⟩⟩
  try simp only [tdy] at h9
  refine AL_g rfl rfl (x_field (off := 1) (o' := 1) rfl rfl rfl (by kernel_rfl) rfl) ?_
  refine AL_g rfl rfl (x_load1 rfl rfl rfl (by kernel_rfl) rfl) ?_
  refine AL_gb rfl rfl (x_lss rfl rfl rfl) (fun b14 h14 => ?_)
  refine AL_p (x_pickF rfl rfl rfl) ?_
  refine AL_p (x_move rfl rfl) ?_
  cases b14
  rotate_left
  · try simp only [tdy] at h14
    refine AL_o rfl rfl rfl rfl ?_
    refine AL_o rfl rfl rfl rfl ?_
    refine AL_o rfl rfl rfl rfl ?_
    refine AL_p (x_pickT rfl rfl rfl) ?_
    refine AL_p (x_move rfl rfl) ?_
    refine AL_o rfl rfl rfl rfl ?_
    refine AL_o rfl rfl rfl rfl ?_
    refine AL_o rfl rfl rfl rfl ?_
    refine AL_p (x_pickT rfl rfl rfl) ?_
    refine AL_p (x_move rfl rfl) ?_
    refine AL_o rfl rfl rfl rfl ?_
    refine AL_o rfl rfl rfl rfl ?_
    refine AL_o rfl rfl rfl rfl ?_
    refine AL_p (x_pickT rfl rfl rfl) ?_
    refine AL_nil ?_
    refine AW_condT rfl ?_
    refine AW_seq ?_
    refine AW_region ?_
    refine AL_p (x_assign rfl rfl) ?_
    refine AL_nil ?_
    refine AW_ret ?_
    exact ⟨rn [], ⟨⟨⟨_, rfl, vle_bool (by grind [entryB, upToB])⟩, trivial⟩, trivial, trivial, rfl⟩⟩
  try simp only [tdy] at h14
  refine AL_g rfl rfl (x_field (off := 1) (o' := 1) rfl rfl rfl (by kernel_rfl) rfl) ?_
  refine AL_g rfl rfl (x_load1 rfl rfl rfl (by kernel_rfl) rfl) ?_
  refine AL_gb rfl rfl (x_gtr rfl rfl rfl) (fun b19 h19 => ?_)
  refine AL_p (x_pickF rfl rfl rfl) ?_
  refine AL_p (x_move rfl rfl) ?_
  cases b19
  rotate_left
  · try simp only [tdy] at h19
    refine AL_o rfl rfl rfl rfl ?_
    refine AL_o rfl rfl rfl rfl ?_
    refine AL_o rfl rfl rfl rfl ?_
    refine AL_p (x_pickT rfl rfl rfl) ?_
    refine AL_p (x_move rfl rfl) ?_
    refine AL_o rfl rfl rfl rfl ?_
    refine AL_o rfl rfl rfl rfl ?_
    refine AL_o rfl rfl rfl rfl ?_
    refine AL_p (x_pickT rfl rfl rfl) ?_
    refine AL_nil ?_
    refine AW_condT rfl ?_
    refine AW_seq ?_
    refine AW_region ?_
    refine AL_p (x_assign rfl rfl) ?_
    refine AL_nil ?_
    refine AW_ret ?_
    exact ⟨rn [], ⟨⟨⟨_, rfl, vle_bool (by grind [entryB, upToB])⟩, trivial⟩, trivial, trivial, rfl⟩⟩
  try simp only [tdy] at h19
  refine AL_g rfl rfl (x_field (off := 5) (o' := 5) rfl rfl rfl (by kernel_rfl) rfl) ?_
  refine AL_g rfl rfl (x_load1 rfl rfl rfl (by kernel_rfl) rfl) ?_
  refine AL_gb rfl rfl (x_lss rfl rfl rfl) (fun b24 h24 => ?_)
  refine AL_p (x_pickF rfl rfl rfl) ?_
  refine AL_p (x_move rfl rfl) ?_
  cases b24
  rotate_left
  · try simp only [tdy] at h24
    refine AL_o rfl rfl rfl rfl ?_
    refine AL_o rfl rfl rfl rfl ?_
    refine AL_o rfl rfl rfl rfl ?_
    refine AL_p (x_pickT rfl rfl rfl) ?_
    refine AL_nil ?_
    refine AW_condT rfl ?_
    refine AW_seq ?_
    refine AW_region ?_
    refine AL_p (x_assign rfl rfl) ?_
    refine AL_nil ?_
    refine AW_ret ?_
    exact ⟨rn [], ⟨⟨⟨_, rfl, vle_bool (by grind [entryB, upToB])⟩, trivial⟩, trivial, trivial, rfl⟩⟩
  try simp only [tdy] at h24
  refine AL_g rfl rfl (x_field (off := 5) (o' := 5) rfl rfl rfl (by kernel_rfl) rfl) ?_
  refine AL_g rfl rfl (x_load1 rfl rfl rfl (by kernel_rfl) rfl) ?_
  refine AL_gb rfl rfl (x_gtr rfl rfl rfl) (fun b29 h29 => ?_)
  refine AL_p (x_pickF rfl rfl rfl) ?_
  refine AL_nil ?_
  cases b29
  rotate_left
  · try simp only [tdy] at h29
    refine AW_condT rfl ?_
    refine AW_seq ?_
    refine AW_region ?_
    refine AL_p (x_assign rfl rfl) ?_
    refine AL_nil ?_
    refine AW_ret ?_
    exact ⟨rn [], ⟨⟨⟨_, rfl, vle_bool (by grind [entryB, upToB])⟩, trivial⟩, trivial, trivial, rfl⟩⟩
  try simp only [tdy] at h29
  refine AW_condF rfl ?_
  refine AW_skip ?_
  refine AW_seq ?_
  refine AW_region ?_
  refine AL_p (x_field (off := 2) (o' := 2) rfl rfl rfl (by kernel_rfl) rfl) ?_
  refine AL_p (x_loadN (n := 2) rfl rfl rfl (by kernel_rfl) rfl rfl) ?_
  refine AL_b (x_call0 rfl rfl rfl (matchS_c m) rfl rfl) (fun b33 h33 => ?_)
  refine AL_p (x_move rfl rfl) ?_
  cases b33
  · try simp only [tdy] at h33
    refine AL_o rfl rfl rfl rfl ?_
    refine AL_o rfl rfl rfl rfl ?_
    refine AL_o rfl rfl rfl rfl ?_
    refine AL_p (x_pickF rfl rfl rfl) ?_
    refine AL_p (x_assign rfl rfl) ?_
    refine AL_nil ?_
    refine AW_ret ?_
    exact ⟨rn [], ⟨⟨⟨_, rfl, vle_bool (by grind [entryB, upToB])⟩, trivial⟩, trivial, trivial, rfl⟩⟩
  try simp only [tdy] at h33
  refine AL_g rfl rfl (x_field (off := 4) (o' := 4) rfl rfl rfl (by kernel_rfl) rfl) ?_
  refine AL_g rfl rfl (x_load1 rfl rfl rfl (by kernel_rfl) rfl) ?_
  refine AL_gb rfl rfl (x_call0 rfl rfl rfl (actsS_c l) rfl rfl) (fun b37 h37 => ?_)
  refine AL_p (x_pickT rfl rfl rfl) ?_
  refine AL_p (x_assign rfl rfl) ?_
  refine AL_nil ?_
  refine AW_ret ?_
  cases b37
  rotate_left
  · try simp only [tdy] at h37
    exact ⟨rn [], ⟨⟨⟨_, rfl, vle_bool (by grind [entryB, upToB])⟩, trivial⟩, trivial, trivial, rfl⟩⟩
  try simp only [tdy] at h37
  exact ⟨rn [], ⟨⟨⟨_, rfl, vle_bool (by grind [entryB, upToB])⟩, trivial⟩, trivial, trivial, rfl⟩⟩

end Go.Proofs.Ytfdpigafekohgaa

/- The abstract walk: contracts that leave open what a function returns; it is something good. -/
namespace Go.Proofs.Ytfdpigafekohgaa
open Go.RowKit
set_option linter.unusedVariables false

/-- Called with such arguments, the function returns one of some values. -/
structure AX (P : Program) (f : FuncId) (args : List AVal) (L : Locs) {ι : Type} (G : ι → Prop) (res : ι → AVal) (L' : ι → Locs) : Prop where
  fn : Callable P f
  run : ∀ (g : Gh) (w : World) (cargs : Array Value), MemR g L w → All2 (VR1 g L w) cargs.toList args →
    Calls P f cargs w fun e w' => ∃ i v g', G i ∧ e = .returned v ∧ MemR g' (L' i) w' ∧ VR g' (L' i) w' v (res i) ∧ Step (keys L) g L w g' (L' i) w'
theorem AX.mono {P : Program} {f : FuncId} {args : List AVal} {L : Locs} {ι : Type} {G G' : ι → Prop} {res : ι → AVal} {L' : ι → Locs} (h : AX P f args L G res L') (hg : ∀ i, G i → G' i) : AX P f args L G' res L' :=
  ⟨h.fn, fun g w cargs m ha => (h.run g w cargs m ha).mono (by
    rintro e w' ⟨i, v, g', h0, h1, h2, h3, h4⟩
    exact ⟨i, v, g', hg i h0, h1, h2, h3, h4⟩)⟩

/-! ### How a body must end -/
def RetXS {ι : Type} (K : List Nat) (G : ι → Prop) (T : ι → Tmps) (L' : ι → Locs) (s : St) : Prop := ∃ i, G i ∧ ∃ r, LeS K r s ⟨T i, L' i⟩
def RetXQ {ι : Type} (K : List Nat) (G : ι → Prop) (T : ι → Tmps) (L' : ι → Locs) : Exit → St → Prop
  | .ret, s => RetXS K G T L' s
  | _, _ => False
section body
variable {P : Program} {N : Nat} {f : FuncId} {fn : Func} {c : Code} {args : List AVal} {L : Locs} {ι : Type} {G : ι → Prop} {res : ι → AVal} {L' Lf : ι → Locs} {T : ι → Tmps}
theorem AX_of (hf : P.funcs[f]? = some fn) (hb : fn.body = some c) (hn : (fn.name == "runtime.NumGoroutine") = false) (hN : fn.ntmps = N) (hA : Nat.ble args.length N = true)
    (hr : ∀ (i : ι) (g : Gh) (a : Act) (w : World), Rep N g ⟨T i, L' i⟩ a w → ∃ v, (results fn a.tmps).run P w = .ok v w ∧ VR g (L' i) w v (res i))
    (h : AW P N (keys L) c (RetXS (keys L) G T L') (RetXQ (keys L) G T L') ⟨args0 args 0, L⟩) : AX P f args L G res L' := by
  refine ⟨⟨fn, c, hf, hb, hn⟩, fun g w cargs m ha => ?_⟩
  subst hN
  have R := entry_rep m ha (Nat.le_of_ble_eq_true hA)
  refine calls_of_wp hf hb (Go.wp_mono (h g _ w R) ?_)
  rintro e a1 w1 ⟨g1, s1, R1, hs, hR⟩
  have fin : RetXS (keys L) G T L' s1 → a1.defers = [] ∧ ∃ v, (results fn a1.tmps).run P w1 = .ok v w1 ∧ ∃ i v' g', G i ∧ Ending.returned v = .returned v' ∧ MemR g' (L' i) w1 ∧ VR g' (L' i) w1 v' (res i) ∧ Step (keys L) g L w g' (L' i) w1 := by
    rintro ⟨i, hG, r, hle⟩
    have R2 := R1.le hle
    obtain ⟨v, h1, h2⟩ := hr i _ a1 w1 R2
    exact ⟨R1.defers, v, h1, i, v, _, hG, rfl, R2.mem, h2, hs.trans m R1.mem (Step.unren hle.l hle.k)⟩
  cases e with
  | normal => exact fin hR
  | ret => exact fin hR
  | exit id => exact hR
  | goto l => exact hR
  | panic ch => exact hR.elim
  | outgrown => exact hR.elim
theorem AX_ofB (hf : P.funcs[f]? = some fn) (hb : fn.body = some c) (hn : (fn.name == "runtime.NumGoroutine") = false) (hN : fn.ntmps = N) (hA : Nat.ble args.length N = true)
    (hren : ∀ i, (res i).ren (rn []) = res i) (hle : ∀ i, LeS (keys L) (rn []) ⟨T i, Lf i⟩ ⟨[], L' i⟩)
    (hr : ∀ (i : ι) (g : Gh) (a : Act) (w : World), Rep N g ⟨T i, Lf i⟩ a w → ∃ v, (results fn a.tmps).run P w = .ok v w ∧ VR g (Lf i) w v (res i))
    (h : AW P N (keys L) c (RetXS (keys L) G T Lf) (RetXQ (keys L) G T Lf) ⟨args0 args 0, L⟩) : AX P f args L G res L' := by
  have h0 := AX_of (L' := Lf) hf hb hn hN hA hr h
  refine ⟨h0.fn, fun g w cargs m ha => (h0.run g w cargs m ha).mono ?_⟩
  rintro e w' ⟨i, v, g1, hG, rfl, m1, hv, hs⟩
  exact ⟨i, v, g1.ren (rn []), hG, rfl, m1.unren (hle i).l (hle i).inj, VR.unren (hle i).l (by rw [hren]; exact hv), hs.trans m m1 (Step.unren (hle i).l (hle i).k)⟩
theorem AX_body1 {r : Nat} {x : ι → AVal} (hf : P.funcs[f]? = some fn) (hb : fn.body = some c) (hn : (fn.name == "runtime.NumGoroutine") = false) (hN : fn.ntmps = N) (hA : Nat.ble args.length N = true) (hr : fn.results = #[.tmp r])
    (h : AW P N (keys L) c (RetXS (keys L) G (fun i => [(r, x i)]) L') (RetXQ (keys L) G (fun i => [(r, x i)]) L') ⟨args0 args 0, L⟩) : AX P f args L G x L' :=
  AX_of hf hb hn hN hA (fun i g a w R => ⟨_, results_tmp hr _ _ _, R.tmp r (x i) lk_cons_self⟩) h
theorem AX_bodyC {ty : TypeId} {r n k : Nat} {cs : ι → List Cell} (hf : P.funcs[f]? = some fn) (hb : fn.body = some c) (hn : (fn.name == "runtime.NumGoroutine") = false) (hN : fn.ntmps = N) (hA : Nat.ble args.length N = true) (hr : fn.results = #[.cell r ty])
    (ht : ∀ i, lk (T i) r = some (.one (.ptr k 0))) (hl : ∀ i, lkl (Lf i) k = some (.box (cs i))) (hk : kindT P ty = some (some n)) (hcn : ∀ i, (cs i).length = n) (hren : ∀ i, (AVal.agg (cs i)).ren (rn []) = .agg (cs i)) (hle : ∀ i, LeS (keys L) (rn []) ⟨T i, Lf i⟩ ⟨[], L' i⟩)
    (h : AW P N (keys L) c (RetXS (keys L) G T Lf) (RetXQ (keys L) G T Lf) ⟨args0 args 0, L⟩) : AX P f args L G (fun i => .agg (cs i)) L' :=
  AX_ofB hf hb hn hN hA hren hle (fun i g a w R => by
    obtain ⟨ad, v, h1, h2, h3⟩ := run_results_c R (ht i) (hl i) hk (hcn i)
    refine ⟨v, ?_, h3⟩
    simp only [Array.getD_eq_getD_getElem?] at h1
    simp [results, hr, h1, h2]) h
theorem AX_bodyCC {ty ty2 : TypeId} {r r2 n n2 k k2 : Nat} {cs cs2 : ι → List Cell} (hf : P.funcs[f]? = some fn) (hb : fn.body = some c) (hn : (fn.name == "runtime.NumGoroutine") = false) (hN : fn.ntmps = N) (hA : Nat.ble args.length N = true) (hr : fn.results = #[.cell r ty, .cell r2 ty2])
    (ht : ∀ i, lk (T i) r = some (.one (.ptr k 0))) (hl : ∀ i, lkl (Lf i) k = some (.box (cs i))) (hk : kindT P ty = some (some n)) (hcn : ∀ i, (cs i).length = n) (ht2 : ∀ i, lk (T i) r2 = some (.one (.ptr k2 0))) (hl2 : ∀ i, lkl (Lf i) k2 = some (.box (cs2 i))) (hk2 : kindT P ty2 = some (some n2)) (hcn2 : ∀ i, (cs2 i).length = n2)
    (hren : ∀ i, (AVal.tup [.agg (cs i), .agg (cs2 i)]).ren (rn []) = .tup [.agg (cs i), .agg (cs2 i)]) (hle : ∀ i, LeS (keys L) (rn []) ⟨T i, Lf i⟩ ⟨[], L' i⟩)
    (h : AW P N (keys L) c (RetXS (keys L) G T Lf) (RetXQ (keys L) G T Lf) ⟨args0 args 0, L⟩) : AX P f args L G (fun i => .tup [.agg (cs i), .agg (cs2 i)]) L' :=
  AX_ofB hf hb hn hN hA hren hle (fun i g a w R => by
    obtain ⟨ad, v, h1, h2, h3⟩ := run_results_c R (ht i) (hl i) hk (hcn i)
    obtain ⟨ad2, v2, g1, g2, g3⟩ := run_results_c R (ht2 i) (hl2 i) hk2 (hcn2 i)
    refine ⟨.tuple #[v, v2], ?_, ⟨[v, v2], rfl, h3, g3, trivial⟩⟩
    simp only [Array.getD_eq_getD_getElem?] at h1 g1
    simp [results, hr, h1, h2, g1, g2]) h
end body

/-! ### A region in the order of its text -/
def AN (P : Program) (N : Nat) (ops : Array Oper) (Kn : St → Prop) (l : List Oper) (s : St) : Prop :=
  ∀ (K : List Nat) (Q : Exit → St → Prop) (g0 : Gh) (l0 : Locs) (w0 : World), MemR g0 l0 w0 → ∀ (g : Gh) (a : Act) (w : World), Rep N g s a w → Step K g0 l0 w0 g s.l w → wpList P ops (Ends N K g0 l0 w0 (NormR Kn Q)) l a w
section walk
variable {P : Program} {N : Nat} {ops : Array Oper} {Kn : St → Prop} {r : List Oper} {s s' : St} {c : Cert}
theorem AW_regionN {K : List Nat} {Q : Exit → St → Prop} {id : Nat} {l : List Oper} (h : AN P N l.toArray Kn l s) : AW P N K (.region id l.toArray false) Kn Q s := fun g a w r =>
  wp_region_lit (h K Q g s.l w r.mem g a w r (Step.refl ..))
theorem AN_nil (h : Kn s) : AN P N ops Kn [] s := fun K Q g0 l0 w0 m0 g a w r hs => ⟨g, s, r, hs, h⟩
theorem AN_cons {o : Oper} (h1 : OpG P N ops o c) (h2 : c.pre s) (h3 : AN P N ops Kn r (c.upd s)) : AN P N ops Kn (o :: r) s := fun K Q g0 l0 w0 m0 g a w R hs => by
  have h4 := h1 K g s a w h2 R
  unfold wpList
  split
  · rename_i hw
    rw [if_pos hw] at h4
    exact .inl (Oper.wp_weak (fun a' w' ⟨g', r', hs'⟩ => h3 K Q g0 l0 w0 m0 g' a' w' r' (hs.trans m0 R.mem hs')) h4)
  · rename_i hw
    rw [if_neg hw] at h4
    obtain ⟨g', r', hs'⟩ := h4
    exact h3 K Q g0 l0 w0 m0 g' _ w r' (hs.trans m0 R.mem hs')
theorem AN_p {dst : Option Nat} {op : Op} {ty : TypeId} {pos : String} {after : Array Edge} (h : Stp P N ⟨dst, op, ty, pos, after, none⟩ s s' c) (next : AN P N ops Kn r s') : AN P N ops Kn (⟨dst, op, ty, pos, after, none⟩ :: r) s :=
  AN_cons (OpG.plain rfl h.1) h.2.1 (by rw [h.2.2]; exact next)
theorem AN_g {dst : Option Nat} {op : Op} {ty : TypeId} {pos : String} {after : Array Edge} {j t : Nat} {b : Bool} (hj : gslot ops j = some t) (hb : lk s.t t = some (.one (.c (.bool b)))) (h : Stp P N ⟨dst, op, ty, pos, after, some (j, b)⟩ s s' c)
    (next : AN P N ops Kn r s') : AN P N ops Kn (⟨dst, op, ty, pos, after, some (j, b)⟩ :: r) s :=
  AN_cons (c := { c with rt := (t, .one (.c (.bool b))) :: c.rt }) (OpG.on rfl hj h.1) ⟨fun p hp => by
    rcases List.mem_cons.1 hp with rfl | hp
    · exact hb
    · exact h.2.1.1 p hp, h.2.1.2⟩ (by
    show AN P N ops Kn r (c.upd s)
    rw [h.2.2]; exact next)
theorem AN_o {d : Nat} {op : Op} {ty : TypeId} {pos : String} {after : Array Edge} {j t : Nat} {b b' : Bool} (hN : Nat.blt d N = true) (hj : gslot ops j = some t) (hb : lk s.t t = some (.one (.c (.bool b')))) (hne : (b' == b) = false)
    (next : AN P N ops Kn r ⟨(d, .tup []) :: s.t, s.l⟩) : AN P N ops Kn (⟨some d, op, ty, pos, after, some (j, b)⟩ :: r) s :=
  AN_cons (OpG.off rfl hj (by simpa using hne) rfl (blt_lt hN)) ⟨fun p hp => by simp at hp; subst hp; exact hb, by simp, by simp⟩ next
theorem AN_b {d : Nat} {op : Op} {ty : TypeId} {pos : String} {after : Array Edge} {e : Bool} {rt : List (Nat × AVal)} {rl : List (Nat × Blk)} (h : Stp P N ⟨some d, op, ty, pos, after, none⟩ s ⟨(d, .one (.c (.bool e))) :: s.t, s.l⟩ ⟨rt, rl, [(d, .one (.c (.bool e)))], [], []⟩)
    (next : ∀ b, e = b → AN P N ops Kn r ⟨(d, .one (.c (.bool b))) :: s.t, s.l⟩) : AN P N ops Kn (⟨some d, op, ty, pos, after, none⟩ :: r) s :=
  AN_p h (next e rfl)
theorem AN_gb {d : Nat} {op : Op} {ty : TypeId} {pos : String} {after : Array Edge} {j t : Nat} {g : Bool} {e : Bool} {rt : List (Nat × AVal)} {rl : List (Nat × Blk)} (hj : gslot ops j = some t) (hb : lk s.t t = some (.one (.c (.bool g)))) (h : Stp P N ⟨some d, op, ty, pos, after, some (j, g)⟩ s ⟨(d, .one (.c (.bool e))) :: s.t, s.l⟩ ⟨rt, rl, [(d, .one (.c (.bool e)))], [], []⟩)
    (next : ∀ b, e = b → AN P N ops Kn r ⟨(d, .one (.c (.bool b))) :: s.t, s.l⟩) : AN P N ops Kn (⟨some d, op, ty, pos, after, some (j, g)⟩ :: r) s :=
  AN_g hj hb h (next e rfl)
/-- A call whose contract leaves open what it returns. -/
theorem AN_x {ι : Type} {G : ι → Prop} {res : ι → AVal} {L' : ι → Locs} {d : Nat} {fo : Operand} {f : FuncId} {ars : Array Operand} {ats : Array TypeId} {xs : List AVal} {L : Locs} {ty : TypeId} {pos : String} {after : Array Edge} (hN : Nat.blt d N = true)
    (hev : evo s.t fo = some (.one (.clo f []))) (hxs : evl s.t ars.toList = some xs) (hac : AX P f xs L G res L') (hfl : flats xs = true) (hLs : okL L = true) (hsc : ∀ i, closedIn (keys (L' i)) (L' i).ids = true) (hsr : ∀ i, closedIn (keys (L' i)) (res i).ids = true)
    (hsub : sub s.l L) (hnew : ∀ i, newOk s (newOf L (L' i)) = true) (next : ∀ i, G i → AN P N ops Kn r ⟨(d, res i) :: s.t, L' i ++ (goneL L ++ s.l)⟩) :
    AN P N ops Kn (⟨some d, .call { callee := .value fo, args := ars, argTypes := ats }, ty, pos, after, none⟩ :: r) s := fun K Q g0 l0 w0 m0 g a w R hst => by
  have hfe : a.eval fo = .func (.func f) #[] #[] := (eval_ok R (evs_of hev) (rdo_of hev) : VR g s.l w (a.eval fo) (.one (.clo f []))) fun k hk => by cases hk
  have hargs : All2 (VR1 g s.l w) ((ars.map a.eval) ++ #[]).toList xs := by
    rw [Array.append_empty, Array.toList_map]
    exact ((evl_ok hxs).2 R (evl_ok (N := N) hxs).1).vr1 hfl
  unfold wpList
  rw [if_pos (by simp [Region.wanted])]
  refine .inl ?_
  unfold Oper.wp
  rw [run_enter rfl hac.fn hfe, Oper.upon_enter]
  have mL := R.mem.sub hsub
  refine (hac.run g w _ mL (hargs.mono fun v x _ hr => VR1.step (fun _ _ => rfl) (fun _ h => h) (Nat.le_refl _) (fun k _ => okK.sub hsub k) hr)).mono ?_
  rintro e w' ⟨i, v, g', hG, rfl, m', hv, hs⟩
  have p3 := newOk_of (hnew i)
  have hnw : ∀ k ∈ newOf L (L' i), lk s.l k = none ∧ k ∉ s.l.ids := fun k hk => ⟨(p3 k hk).1, fun h => (p3 k hk).2 (List.mem_append_right _ h)⟩
  obtain ⟨c1, c2, c3, c4, c5⟩ := call_mem R.mem hsub m' hs (hsc i) hLs hnw K
  have hmm : ∀ b, g.I b → (g.mix g' (keys (L' i) ++ keys L)).I b := fun b hb => hs.imm b hb
  refine next i hG K Q g0 l0 w0 m0 _ _ w' ?_ (hst.trans m0 R.mem c2)
  exact R.next (blt_lt hN) c3 hmm hs.size (fun k hk => c4 k fun h => (p3 k h).2 hk) (VR.step (g := g') (l := L' i) (fun _ _ => rfl) (fun b hb => hb) (Nat.le_refl _) (fun k hk => c5 k (closedIn_get (hsr i) hk)) hv) c1
end walk
end Go.Proofs.Ytfdpigafekohgaa

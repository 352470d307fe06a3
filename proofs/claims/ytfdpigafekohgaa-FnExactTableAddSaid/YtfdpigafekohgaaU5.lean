/- Lemmas of the walks, part 5. -/
import Derived.Test.YtfdpigafekohgaaU4
import Derived.Lib.AppendStr
import Derived.Lib.ConvBytes
import Derived.Lib.BufferRead
import Derived.Laws.CopyRow
import Derived.Laws.NewBlocks
import Derived.Lib.AppendZerosOnto
import Derived.Lib.Overlaps
import Derived.Lib.SliceRun
import Derived.Lib.JoinLaws
import Derived.Shelf.Spec.SlicesInsert
import Derived.Deep.RegionLaw
import Derived.Deep.RegionHeld3
/- Tables that are right (printed by walk.py) -/
namespace Go.Proofs.Ytfdpigafekohgaa
open Go.RowKit
set_option linter.unusedVariables false
set_option linter.unusedSimpArgs false
set_option maxRecDepth 100000

set_option maxHeartbeats 4000000 in
theorem beforeI_c (a b : Entryt) : AC Try.prog 100 [.agg (entryC a), .agg (entryC b)] [] (.one (.c (.bool (aheadB a b)))) [] := by
  refine AC_body1 Try.func100 rfl rfl Try.ntmps100 rfl Try.results100 ?_
  refine AW_seq ?_
  refine AW_region ?_
  refine AL_p (x_box 100 rfl rfl rfl rfl rfl rfl rfl) ?_
  refine AL_p (x_box 101 rfl rfl rfl rfl rfl rfl rfl) ?_
  refine AL_p (x_assign rfl rfl) ?_
  refine AL_nil ?_
  refine AW_seq ?_
  refine AW_region ?_
  refine AL_p (x_field (off := 0) (o' := 0) rfl rfl rfl (by kernel_rfl) rfl) ?_
  refine AL_p (x_load1 rfl rfl rfl (by kernel_rfl) rfl) ?_
  refine AL_p (x_field (off := 0) (o' := 0) rfl rfl rfl (by kernel_rfl) rfl) ?_
  refine AL_p (x_load1 rfl rfl rfl (by kernel_rfl) rfl) ?_
  refine AL_b (x_lss rfl rfl rfl) (fun b9 h9 => ?_)
  refine AL_p (x_move rfl rfl) ?_
  cases b9
  rotate_left
  · try simp only [tdy] at h9
    refine AL_o rfl rfl rfl rfl ?_
    refine AL_o rfl rfl rfl rfl ?_
    refine AL_o rfl rfl rfl rfl ?_
    refine AL_o rfl rfl rfl rfl ?_
    refine AL_o rfl rfl rfl rfl ?_
    refine AL_o rfl rfl rfl rfl ?_
    refine AL_u rfl rfl rfl ?_
    refine AL_u rfl rfl rfl ?_
    refine AL_u rfl rfl rfl ?_
    refine AL_u rfl rfl rfl ?_
    refine AL_u rfl rfl rfl ?_
    refine AL_o rfl rfl rfl rfl ?_
    refine AL_p (x_pickT rfl rfl rfl) ?_
    refine AL_p (x_assign rfl rfl) ?_
    refine AL_nil ?_
    refine AW_ret ?_
    exact ⟨rn [], ⟨⟨⟨_, rfl, vle_bool (by (symm; unfold aheadB; first | (rw [decide_eq_true_eq]; omega) | (rw [decide_eq_false_iff_not]; omega)))⟩, trivial⟩, trivial, trivial, rfl⟩⟩
  try simp only [tdy] at h9
  refine AL_g rfl rfl (x_field (off := 0) (o' := 0) rfl rfl rfl (by kernel_rfl) rfl) ?_
  refine AL_g rfl rfl (x_load1 rfl rfl rfl (by kernel_rfl) rfl) ?_
  refine AL_g rfl rfl (x_field (off := 0) (o' := 0) rfl rfl rfl (by kernel_rfl) rfl) ?_
  refine AL_g rfl rfl (x_load1 rfl rfl rfl (by kernel_rfl) rfl) ?_
  refine AL_gb rfl rfl (x_eql rfl rfl rfl) (fun b15 h15 => ?_)
  refine AL_g rfl rfl (x_move rfl rfl) ?_
  cases b15
  · try simp only [tdy] at h15
    refine AL_o rfl rfl rfl rfl ?_
    refine AL_o rfl rfl rfl rfl ?_
    refine AL_o rfl rfl rfl rfl ?_
    refine AL_o rfl rfl rfl rfl ?_
    refine AL_o rfl rfl rfl rfl ?_
    refine AL_g rfl rfl (x_pickF rfl rfl rfl) ?_
    refine AL_p (x_pickF rfl rfl rfl) ?_
    refine AL_p (x_assign rfl rfl) ?_
    refine AL_nil ?_
    refine AW_ret ?_
    exact ⟨rn [], ⟨⟨⟨_, rfl, vle_bool (by (symm; unfold aheadB; first | (rw [decide_eq_true_eq]; omega) | (rw [decide_eq_false_iff_not]; omega)))⟩, trivial⟩, trivial, trivial, rfl⟩⟩
  try simp only [tdy] at h15
  refine AL_g rfl rfl (x_field (off := 1) (o' := 1) rfl rfl rfl (by kernel_rfl) rfl) ?_
  refine AL_g rfl rfl (x_load1 rfl rfl rfl (by kernel_rfl) rfl) ?_
  refine AL_g rfl rfl (x_field (off := 1) (o' := 1) rfl rfl rfl (by kernel_rfl) rfl) ?_
  refine AL_g rfl rfl (x_load1 rfl rfl rfl (by kernel_rfl) rfl) ?_
  refine AL_gb rfl rfl (x_gtr rfl rfl rfl) (fun b21 h21 => ?_)
  refine AL_g rfl rfl (x_pickT rfl rfl rfl) ?_
  refine AL_p (x_pickF rfl rfl rfl) ?_
  refine AL_p (x_assign rfl rfl) ?_
  refine AL_nil ?_
  refine AW_ret ?_
  cases b21
  rotate_left
  · try simp only [tdy] at h21
    exact ⟨rn [], ⟨⟨⟨_, rfl, vle_bool (by (symm; unfold aheadB; first | (rw [decide_eq_true_eq]; omega) | (rw [decide_eq_false_iff_not]; omega)))⟩, trivial⟩, trivial, trivial, rfl⟩⟩
  try simp only [tdy] at h21
  exact ⟨rn [], ⟨⟨⟨_, rfl, vle_bool (by (symm; unfold aheadB; first | (rw [decide_eq_true_eq]; omega) | (rw [decide_eq_false_iff_not]; omega)))⟩, trivial⟩, trivial, trivial, rfl⟩⟩

set_option maxHeartbeats 4000000 in
theorem aheadS_c (a b : Entryt) : AC Try.prog 92 [.agg (entryC a), .agg (entryC b)] [] (.one (.c (.bool (aheadB a b)))) [] := by
  refine AC_body1 Try.func92 rfl rfl Try.ntmps92 rfl Try.results92 ?_
  refine AW_seq ?_
  refine AW_region ?_
  refine AL_p (x_box 100 rfl rfl rfl rfl rfl rfl rfl) ?_
  refine AL_p (x_box 101 rfl rfl rfl rfl rfl rfl rfl) ?_
  refine AL_p (x_assign rfl rfl) ?_
  refine AL_nil ?_
  refine AW_seq ?_
  refine AW_region ?_
  refine AL_p (x_field (off := 0) (o' := 0) rfl rfl rfl (by kernel_rfl) rfl) ?_
  refine AL_p (x_load1 rfl rfl rfl (by kernel_rfl) rfl) ?_
  refine AL_p (x_field (off := 0) (o' := 0) rfl rfl rfl (by kernel_rfl) rfl) ?_
  refine AL_p (x_load1 rfl rfl rfl (by kernel_rfl) rfl) ?_
  refine AL_b (x_lss rfl rfl rfl) (fun b9 h9 => ?_)
  refine AL_p (x_move rfl rfl) ?_
  cases b9
  rotate_left
  · try simp only [tdy] at h9
    refine AL_o rfl rfl rfl rfl ?_
    refine AL_o rfl rfl rfl rfl ?_
    refine AL_o rfl rfl rfl rfl ?_
    refine AL_o rfl rfl rfl rfl ?_
    refine AL_o rfl rfl rfl rfl ?_
    refine AL_o rfl rfl rfl rfl ?_
    refine AL_u rfl rfl rfl ?_
    refine AL_u rfl rfl rfl ?_
    refine AL_u rfl rfl rfl ?_
    refine AL_u rfl rfl rfl ?_
    refine AL_u rfl rfl rfl ?_
    refine AL_o rfl rfl rfl rfl ?_
    refine AL_p (x_pickT rfl rfl rfl) ?_
    refine AL_p (x_assign rfl rfl) ?_
    refine AL_nil ?_
    refine AW_ret ?_
    exact ⟨rn [], ⟨⟨⟨_, rfl, vle_bool (by (symm; unfold aheadB; first | (rw [decide_eq_true_eq]; omega) | (rw [decide_eq_false_iff_not]; omega)))⟩, trivial⟩, trivial, trivial, rfl⟩⟩
  try simp only [tdy] at h9
  refine AL_g rfl rfl (x_field (off := 0) (o' := 0) rfl rfl rfl (by kernel_rfl) rfl) ?_
  refine AL_g rfl rfl (x_load1 rfl rfl rfl (by kernel_rfl) rfl) ?_
  refine AL_g rfl rfl (x_field (off := 0) (o' := 0) rfl rfl rfl (by kernel_rfl) rfl) ?_
  refine AL_g rfl rfl (x_load1 rfl rfl rfl (by kernel_rfl) rfl) ?_
  refine AL_gb rfl rfl (x_eql rfl rfl rfl) (fun b15 h15 => ?_)
  refine AL_g rfl rfl (x_move rfl rfl) ?_
  cases b15
  · try simp only [tdy] at h15
    refine AL_o rfl rfl rfl rfl ?_
    refine AL_o rfl rfl rfl rfl ?_
    refine AL_o rfl rfl rfl rfl ?_
    refine AL_o rfl rfl rfl rfl ?_
    refine AL_o rfl rfl rfl rfl ?_
    refine AL_g rfl rfl (x_pickF rfl rfl rfl) ?_
    refine AL_p (x_pickF rfl rfl rfl) ?_
    refine AL_p (x_assign rfl rfl) ?_
    refine AL_nil ?_
    refine AW_ret ?_
    exact ⟨rn [], ⟨⟨⟨_, rfl, vle_bool (by (symm; unfold aheadB; first | (rw [decide_eq_true_eq]; omega) | (rw [decide_eq_false_iff_not]; omega)))⟩, trivial⟩, trivial, trivial, rfl⟩⟩
  try simp only [tdy] at h15
  refine AL_g rfl rfl (x_field (off := 1) (o' := 1) rfl rfl rfl (by kernel_rfl) rfl) ?_
  refine AL_g rfl rfl (x_load1 rfl rfl rfl (by kernel_rfl) rfl) ?_
  refine AL_g rfl rfl (x_field (off := 1) (o' := 1) rfl rfl rfl (by kernel_rfl) rfl) ?_
  refine AL_g rfl rfl (x_load1 rfl rfl rfl (by kernel_rfl) rfl) ?_
  refine AL_gb rfl rfl (x_gtr rfl rfl rfl) (fun b21 h21 => ?_)
  refine AL_g rfl rfl (x_pickT rfl rfl rfl) ?_
  refine AL_p (x_pickF rfl rfl rfl) ?_
  refine AL_p (x_assign rfl rfl) ?_
  refine AL_nil ?_
  refine AW_ret ?_
  cases b21
  rotate_left
  · try simp only [tdy] at h21
    exact ⟨rn [], ⟨⟨⟨_, rfl, vle_bool (by (symm; unfold aheadB; first | (rw [decide_eq_true_eq]; omega) | (rw [decide_eq_false_iff_not]; omega)))⟩, trivial⟩, trivial, trivial, rfl⟩⟩
  try simp only [tdy] at h21
  exact ⟨rn [], ⟨⟨⟨_, rfl, vle_bool (by (symm; unfold aheadB; first | (rw [decide_eq_true_eq]; omega) | (rw [decide_eq_false_iff_not]; omega)))⟩, trivial⟩, trivial, trivial, rfl⟩⟩

set_option maxHeartbeats 4000000 in
theorem intsI_c (a b : List Int) : AC Try.prog 143 [.one (.sl (intE .i64) a), .one (.sl (intE .i64) b)] [] (.one (.c (.bool (decide (a = b))))) [] := by
  refine AC_body1 Try.func143 rfl rfl Try.ntmps143 rfl Try.results143 ?_
  refine AW_slmax 0 rfl (fun hm0 => ?_)
  refine AW_slmax 1 rfl (fun hm1 => ?_)
  refine AW_seq ?_
  refine AW_region ?_
  refine AL_p (x_assign rfl rfl) ?_
  refine AL_nil ?_
  refine AW_seq ?_
  refine AW_seq ?_
  refine AW_region ?_
  refine AL_p (x_move rfl rfl) ?_
  refine AL_p (x_len (E := 3) (n := 1) rfl rfl (by kernel_rfl)) ?_
  refine AL_p (x_move rfl rfl) ?_
  refine AL_p (x_len (E := 3) (n := 1) rfl rfl (by kernel_rfl)) ?_
  refine AL_b (x_neq rfl rfl rfl) (fun b10 h10 => ?_)
  refine AL_nil ?_
  cases b10
  rotate_left
  · try simp only [tdy] at h10
    refine AW_condT rfl ?_
    refine AW_seq ?_
    refine AW_region ?_
    refine AL_p (x_assign rfl rfl) ?_
    refine AL_nil ?_
    refine AW_ret ?_
    exact ⟨rn [], ⟨⟨⟨_, rfl, vle_bool (by first | exact (ints_len (by omega)).symm | exact (ints_bad (k := k) (by omega) (by omega) (by omega)).symm | exact (ints_good hA (by omega) (by omega)).symm)⟩, trivial⟩, trivial, trivial, rfl⟩⟩
  try simp only [tdy] at h10
  refine AW_condF rfl ?_
  refine AW_skip ?_
  refine AW_seq ?_
  refine AW_seq ?_
  refine AW_region ?_
  refine AL_p (x_move rfl rfl) ?_
  refine AL_p (x_len (E := 3) (n := 1) rfl rfl (by kernel_rfl)) ?_
  refine AL_p (x_move rfl rfl) ?_
  refine AL_nil ?_
  refine AW_block ?_
  refine AW_loop2 (ι := {q : Nat // q ≤ a.length ∧ AllAt (n := a.length) (fun q h => if h' : q < b.length then decide (a[q] = b[q]) else false) q}) (fun p => [(13, .one (.c (.int .i64 ((p.1) : Int))))]) (fun p => []) [0, 1, 12] [] (fun p => a.length - (p.1)) ⟨0, ⟨by omega, .zero⟩⟩ (rn []) ?_ ?_
  exact ⟨by (repeat refine ⟨⟨_, rfl, by first | exact VLe.rf | exact vle_int (by dsimp only; omega)⟩, ?_⟩); exact trivial, by (repeat refine ⟨⟨_, rfl, by first | exact BLe.rf | exact BLe.box AllC.rf | exact BLe.arr (by exact rfl)⟩, ?_⟩); exact trivial, by repeat (first | exact trivial | refine ⟨⟨rfl, by first | (left; intro h; cases h) | (right; rfl), by first | exact (fun _ h => ⟨_, h⟩) | exact (fun _ _ => ⟨_, rfl⟩)⟩, ?_⟩), rfl⟩
  rintro ⟨k, hinv⟩
  dsimp only
  obtain ⟨hk, hA⟩ := hinv
  have hk : k ≤ a.length := hk
  refine AW_seq ?_
  refine AW_region ?_
  refine AL_b (x_lss rfl rfl rfl) (fun b14 h14 => ?_)
  refine AL_nil ?_
  refine AW_seq ?_
  cases b14
  · try simp only [tdy] at h14
    refine AW_condF rfl ?_
    refine AW_exit (BQ_hit ?_)
    refine AW_seq ?_
    refine AW_region ?_
    refine AL_p (x_assign rfl rfl) ?_
    refine AL_nil ?_
    refine AW_ret ?_
    exact ⟨rn [], ⟨⟨⟨_, rfl, vle_bool (by first | exact (ints_len (by omega)).symm | exact (ints_bad (k := k) (by omega) (by omega) (by omega)).symm | exact (ints_good hA (by omega) (by omega)).symm)⟩, trivial⟩, trivial, trivial, rfl⟩⟩
  try simp only [tdy] at h14
  refine AW_condT rfl ?_
  refine AW_skip ?_
  refine AW_seq ?_
  refine AW_block ?_
  refine AW_seq ?_
  refine AW_region ?_
  refine AL_p (x_move rfl rfl) ?_
  refine AL_p (x_assign rfl rfl) ?_
  refine AL_nil ?_
  refine AW_seq ?_
  refine AW_draw rfl ?_
  refine AL_p (x_move rfl rfl) ?_
  refine AL_p (x_move rfl rfl) ?_
  refine AL_p (x_index (E := 3) (n := 1) rfl rfl rfl (by kernel_rfl) rfl (k := k) (by omega) (by omega)) ?_
  refine AL_p (x_eload1 rfl rfl (by kernel_rfl) rfl) ?_
  refine AL_p (x_move rfl rfl) ?_
  refine AL_p (x_move rfl rfl) ?_
  refine AL_p (x_index (E := 3) (n := 1) rfl rfl rfl (by kernel_rfl) rfl (k := k) (by omega) (by omega)) ?_
  refine AL_p (x_eload1 rfl rfl (by kernel_rfl) rfl) ?_
  refine AL_b (x_neq rfl rfl rfl) (fun b24 h24 => ?_)
  refine AL_nild (by kernel_rfl) ?_
  cases b24
  rotate_left
  · try simp only [tdy] at h24
    refine AW_condT rfl ?_
    refine AW_seq ?_
    refine AW_region ?_
    refine AL_p (x_assign rfl rfl) ?_
    refine AL_nil ?_
    refine AW_ret (BQ_ret (BQ_ret ?_))
    exact ⟨rn [], ⟨⟨⟨_, rfl, vle_bool (by first | exact (ints_len (by omega)).symm | exact (ints_bad (k := k) (by omega) (by omega) (by omega)).symm | exact (ints_good hA (by omega) (by omega)).symm)⟩, trivial⟩, trivial, trivial, rfl⟩⟩
  try simp only [tdy] at h24
  refine AW_condF rfl ?_
  refine AW_skip ?_
  refine AW_region ?_
  refine AL_p (x_add rfl rfl rfl (IntWalk.i64_in _ (by omega))) ?_
  refine AL_p (x_move rfl rfl) ?_
  refine AL_nil ?_
  refine ⟨⟨k + 1, ⟨by omega, hA.succ (by omega) (by rw [dif_pos (by omega), decide_eq_true_eq]; omega)⟩⟩, rn [], ?_, by dsimp only; omega⟩
  exact ⟨by (repeat refine ⟨⟨_, rfl, by first | exact VLe.rf | exact vle_int (by dsimp only; omega)⟩, ?_⟩); exact trivial, by (repeat refine ⟨⟨_, rfl, by first | exact BLe.rf | exact BLe.box AllC.rf | exact BLe.arr (by exact rfl)⟩, ?_⟩); exact trivial, by repeat (first | exact trivial | refine ⟨⟨rfl, by first | (left; intro h; cases h) | (right; rfl), by first | exact (fun _ h => ⟨_, h⟩) | exact (fun _ _ => ⟨_, rfl⟩)⟩, ?_⟩), rfl⟩

set_option maxHeartbeats 4000000 in
theorem intsS_c (a b : List Int) : AC Try.prog 141 [.one (.sl (intE .i64) a), .one (.sl (intE .i64) b)] [] (.one (.c (.bool (decide (a = b))))) [] := by
  refine AC_body1 Try.func141 rfl rfl Try.ntmps141 rfl Try.results141 ?_
  refine AW_slmax 0 rfl (fun hm0 => ?_)
  refine AW_slmax 1 rfl (fun hm1 => ?_)
  refine AW_seq ?_
  refine AW_region ?_
  refine AL_p (x_assign rfl rfl) ?_
  refine AL_nil ?_
  refine AW_seq ?_
  refine AW_seq ?_
  refine AW_region ?_
  refine AL_p (x_move rfl rfl) ?_
  refine AL_p (x_len (E := 3) (n := 1) rfl rfl (by kernel_rfl)) ?_
  refine AL_p (x_move rfl rfl) ?_
  refine AL_p (x_len (E := 3) (n := 1) rfl rfl (by kernel_rfl)) ?_
  refine AL_b (x_neq rfl rfl rfl) (fun b10 h10 => ?_)
  refine AL_nil ?_
  cases b10
  rotate_left
  · try simp only [tdy] at h10
    refine AW_condT rfl ?_
    refine AW_seq ?_
    refine AW_region ?_
    refine AL_p (x_assign rfl rfl) ?_
    refine AL_nil ?_
    refine AW_ret ?_
    exact ⟨rn [], ⟨⟨⟨_, rfl, vle_bool (by first | exact (ints_len (by omega)).symm | exact (ints_bad (k := k) (by omega) (by omega) (by omega)).symm | exact (ints_good hA (by omega) (by omega)).symm)⟩, trivial⟩, trivial, trivial, rfl⟩⟩
  try simp only [tdy] at h10
  refine AW_condF rfl ?_
  refine AW_skip ?_
  refine AW_seq ?_
  refine AW_seq ?_
  refine AW_region ?_
  refine AL_p (x_move rfl rfl) ?_
  refine AL_p (x_len (E := 3) (n := 1) rfl rfl (by kernel_rfl)) ?_
  refine AL_p (x_move rfl rfl) ?_
  refine AL_nil ?_
  refine AW_block ?_
  refine AW_loop2 (ι := {q : Nat // q ≤ a.length ∧ AllAt (n := a.length) (fun q h => if h' : q < b.length then decide (a[q] = b[q]) else false) q}) (fun p => [(13, .one (.c (.int .i64 ((p.1) : Int))))]) (fun p => []) [0, 1, 12] [] (fun p => a.length - (p.1)) ⟨0, ⟨by omega, .zero⟩⟩ (rn []) ?_ ?_
  exact ⟨by (repeat refine ⟨⟨_, rfl, by first | exact VLe.rf | exact vle_int (by dsimp only; omega)⟩, ?_⟩); exact trivial, by (repeat refine ⟨⟨_, rfl, by first | exact BLe.rf | exact BLe.box AllC.rf | exact BLe.arr (by exact rfl)⟩, ?_⟩); exact trivial, by repeat (first | exact trivial | refine ⟨⟨rfl, by first | (left; intro h; cases h) | (right; rfl), by first | exact (fun _ h => ⟨_, h⟩) | exact (fun _ _ => ⟨_, rfl⟩)⟩, ?_⟩), rfl⟩
  rintro ⟨k, hinv⟩
  dsimp only
  obtain ⟨hk, hA⟩ := hinv
  have hk : k ≤ a.length := hk
  refine AW_seq ?_
  refine AW_region ?_
  refine AL_b (x_lss rfl rfl rfl) (fun b14 h14 => ?_)
  refine AL_nil ?_
  refine AW_seq ?_
  cases b14
  · try simp only [tdy] at h14
    refine AW_condF rfl ?_
    refine AW_exit (BQ_hit ?_)
    refine AW_seq ?_
    refine AW_region ?_
    refine AL_p (x_assign rfl rfl) ?_
    refine AL_nil ?_
    refine AW_ret ?_
    exact ⟨rn [], ⟨⟨⟨_, rfl, vle_bool (by first | exact (ints_len (by omega)).symm | exact (ints_bad (k := k) (by omega) (by omega) (by omega)).symm | exact (ints_good hA (by omega) (by omega)).symm)⟩, trivial⟩, trivial, trivial, rfl⟩⟩
  try simp only [tdy] at h14
  refine AW_condT rfl ?_
  refine AW_skip ?_
  refine AW_seq ?_
  refine AW_block ?_
  refine AW_seq ?_
  refine AW_region ?_
  refine AL_p (x_move rfl rfl) ?_
  refine AL_p (x_assign rfl rfl) ?_
  refine AL_nil ?_
  refine AW_seq ?_
  refine AW_draw rfl ?_
  refine AL_p (x_move rfl rfl) ?_
  refine AL_p (x_move rfl rfl) ?_
  refine AL_p (x_index (E := 3) (n := 1) rfl rfl rfl (by kernel_rfl) rfl (k := k) (by omega) (by omega)) ?_
  refine AL_p (x_eload1 rfl rfl (by kernel_rfl) rfl) ?_
  refine AL_p (x_move rfl rfl) ?_
  refine AL_p (x_move rfl rfl) ?_
  refine AL_p (x_index (E := 3) (n := 1) rfl rfl rfl (by kernel_rfl) rfl (k := k) (by omega) (by omega)) ?_
  refine AL_p (x_eload1 rfl rfl (by kernel_rfl) rfl) ?_
  refine AL_b (x_neq rfl rfl rfl) (fun b24 h24 => ?_)
  refine AL_nild (by kernel_rfl) ?_
  cases b24
  rotate_left
  · try simp only [tdy] at h24
    refine AW_condT rfl ?_
    refine AW_seq ?_
    refine AW_region ?_
    refine AL_p (x_assign rfl rfl) ?_
    refine AL_nil ?_
    refine AW_ret (BQ_ret (BQ_ret ?_))
    exact ⟨rn [], ⟨⟨⟨_, rfl, vle_bool (by first | exact (ints_len (by omega)).symm | exact (ints_bad (k := k) (by omega) (by omega) (by omega)).symm | exact (ints_good hA (by omega) (by omega)).symm)⟩, trivial⟩, trivial, trivial, rfl⟩⟩
  try simp only [tdy] at h24
  refine AW_condF rfl ?_
  refine AW_skip ?_
  refine AW_region ?_
  refine AL_p (x_add rfl rfl rfl (IntWalk.i64_in _ (by omega))) ?_
  refine AL_p (x_move rfl rfl) ?_
  refine AL_nil ?_
  refine ⟨⟨k + 1, ⟨by omega, hA.succ (by omega) (by rw [dif_pos (by omega), decide_eq_true_eq]; omega)⟩⟩, rn [], ?_, by dsimp only; omega⟩
  exact ⟨by (repeat refine ⟨⟨_, rfl, by first | exact VLe.rf | exact vle_int (by dsimp only; omega)⟩, ?_⟩); exact trivial, by (repeat refine ⟨⟨_, rfl, by first | exact BLe.rf | exact BLe.box AllC.rf | exact BLe.arr (by exact rfl)⟩, ?_⟩); exact trivial, by repeat (first | exact trivial | refine ⟨⟨rfl, by first | (left; intro h; cases h) | (right; rfl), by first | exact (fun _ h => ⟨_, h⟩) | exact (fun _ _ => ⟨_, rfl⟩)⟩, ?_⟩), rfl⟩

set_option maxHeartbeats 4000000 in
theorem sameMatchI_c (a b : Matcht) : AC Try.prog 113 [.agg (matchC a), .agg (matchC b)] [] (.one (.c (.bool (sameMatchB a b)))) [] := by
  refine AC_body1 Try.func113 rfl rfl Try.ntmps113 rfl Try.results113 ?_
  refine AW_seq ?_
  refine AW_region ?_
  refine AL_p (x_box 100 rfl rfl rfl rfl rfl rfl rfl) ?_
  refine AL_p (x_box 101 rfl rfl rfl rfl rfl rfl rfl) ?_
  refine AL_p (x_assign rfl rfl) ?_
  refine AL_nil ?_
  refine AW_seq ?_
  refine AW_region ?_
  refine AL_p (x_loadN (n := 2) rfl rfl rfl (by kernel_rfl) rfl rfl) ?_
  refine AL_b (x_call0 rfl rfl rfl (matchI_c a) rfl rfl) (fun b6 h6 => ?_)
  refine AL_p (x_move rfl rfl) ?_
  cases b6
  · try simp only [tdy] at h6
    refine AL_o rfl rfl rfl rfl ?_
    refine AL_o rfl rfl rfl rfl ?_
    refine AL_p (x_pickF rfl rfl rfl) ?_
    refine AL_p (x_move rfl rfl) ?_
    refine AL_o rfl rfl rfl rfl ?_
    refine AL_o rfl rfl rfl rfl ?_
    refine AL_o rfl rfl rfl rfl ?_
    refine AL_o rfl rfl rfl rfl ?_
    refine AL_o rfl rfl rfl rfl ?_
    refine AL_p (x_pickF rfl rfl rfl) ?_
    refine AL_p (x_move rfl rfl) ?_
    refine AL_o rfl rfl rfl rfl ?_
    refine AL_o rfl rfl rfl rfl ?_
    refine AL_o rfl rfl rfl rfl ?_
    refine AL_o rfl rfl rfl rfl ?_
    refine AL_o rfl rfl rfl rfl ?_
    refine AL_p (x_pickF rfl rfl rfl) ?_
    refine AL_p (x_assign rfl rfl) ?_
    refine AL_nil ?_
    refine AW_ret ?_
    exact ⟨rn [], ⟨⟨⟨_, rfl, vle_bool (by grind [sameMatchB])⟩, trivial⟩, trivial, trivial, rfl⟩⟩
  try simp only [tdy] at h6
  refine AL_g rfl rfl (x_loadN (n := 2) rfl rfl rfl (by kernel_rfl) rfl rfl) ?_
  refine AL_gb rfl rfl (x_call0 rfl rfl rfl (matchI_c b) rfl rfl) (fun b9 h9 => ?_)
  refine AL_p (x_pickT rfl rfl rfl) ?_
  refine AL_p (x_move rfl rfl) ?_
  cases b9
  · try simp only [tdy] at h9
    refine AL_o rfl rfl rfl rfl ?_
    refine AL_o rfl rfl rfl rfl ?_
    refine AL_o rfl rfl rfl rfl ?_
    refine AL_o rfl rfl rfl rfl ?_
    refine AL_o rfl rfl rfl rfl ?_
    refine AL_p (x_pickF rfl rfl rfl) ?_
    refine AL_p (x_move rfl rfl) ?_
    refine AL_o rfl rfl rfl rfl ?_
    refine AL_o rfl rfl rfl rfl ?_
    refine AL_o rfl rfl rfl rfl ?_
    refine AL_o rfl rfl rfl rfl ?_
    refine AL_o rfl rfl rfl rfl ?_
    refine AL_p (x_pickF rfl rfl rfl) ?_
    refine AL_p (x_assign rfl rfl) ?_
    refine AL_nil ?_
    refine AW_ret ?_
    exact ⟨rn [], ⟨⟨⟨_, rfl, vle_bool (by grind [sameMatchB])⟩, trivial⟩, trivial, trivial, rfl⟩⟩
  try simp only [tdy] at h9
  refine AL_g rfl rfl (x_field (off := 0) (o' := 0) rfl rfl rfl (by kernel_rfl) rfl) ?_
  refine AL_g rfl rfl (x_load1 rfl rfl rfl (by kernel_rfl) rfl) ?_
  refine AL_g rfl rfl (x_field (off := 0) (o' := 0) rfl rfl rfl (by kernel_rfl) rfl) ?_
  refine AL_g rfl rfl (x_load1 rfl rfl rfl (by kernel_rfl) rfl) ?_
  refine AL_gb rfl rfl (x_call0 rfl rfl rfl (intsI_c a.v b.v) rfl rfl) (fun b16 h16 => ?_)
  refine AL_p (x_pickT rfl rfl rfl) ?_
  refine AL_p (x_move rfl rfl) ?_
  cases b16
  · try simp only [tdy] at h16
    refine AL_o rfl rfl rfl rfl ?_
    refine AL_o rfl rfl rfl rfl ?_
    refine AL_o rfl rfl rfl rfl ?_
    refine AL_o rfl rfl rfl rfl ?_
    refine AL_o rfl rfl rfl rfl ?_
    refine AL_p (x_pickF rfl rfl rfl) ?_
    refine AL_p (x_assign rfl rfl) ?_
    refine AL_nil ?_
    refine AW_ret ?_
    exact ⟨rn [], ⟨⟨⟨_, rfl, vle_bool (by grind [sameMatchB])⟩, trivial⟩, trivial, trivial, rfl⟩⟩
  try simp only [tdy] at h16
  refine AL_g rfl rfl (x_field (off := 1) (o' := 1) rfl rfl rfl (by kernel_rfl) rfl) ?_
  refine AL_g rfl rfl (x_load1 rfl rfl rfl (by kernel_rfl) rfl) ?_
  refine AL_g rfl rfl (x_field (off := 1) (o' := 1) rfl rfl rfl (by kernel_rfl) rfl) ?_
  refine AL_g rfl rfl (x_load1 rfl rfl rfl (by kernel_rfl) rfl) ?_
  refine AL_gb rfl rfl (x_call0 rfl rfl rfl (intsI_c a.m b.m) rfl rfl) (fun b23 h23 => ?_)
  refine AL_p (x_pickT rfl rfl rfl) ?_
  refine AL_p (x_assign rfl rfl) ?_
  refine AL_nil ?_
  refine AW_ret ?_
  cases b23
  rotate_left
  · try simp only [tdy] at h23
    exact ⟨rn [], ⟨⟨⟨_, rfl, vle_bool (by grind [sameMatchB])⟩, trivial⟩, trivial, trivial, rfl⟩⟩
  try simp only [tdy] at h23
  exact ⟨rn [], ⟨⟨⟨_, rfl, vle_bool (by grind [sameMatchB])⟩, trivial⟩, trivial, trivial, rfl⟩⟩

set_option maxHeartbeats 4000000 in
theorem sameMatchS_c (a b : Matcht) : AC Try.prog 108 [.agg (matchC a), .agg (matchC b)] [] (.one (.c (.bool (sameMatchB a b)))) [] := by
  refine AC_body1 Try.func108 rfl rfl Try.ntmps108 rfl Try.results108 ?_
  refine AW_seq ?_
  refine AW_region ?_
  refine AL_p (x_box 100 rfl rfl rfl rfl rfl rfl rfl) ?_
  refine AL_p (x_box 101 rfl rfl rfl rfl rfl rfl rfl) ?_
  refine AL_p (x_assign rfl rfl) ?_
  refine AL_nil ?_
  refine AW_seq ?_
  refine AW_region ?_
  refine AL_p (x_loadN (n := 2) rfl rfl rfl (by kernel_rfl) rfl rfl) ?_
  refine AL_b (x_call0 rfl rfl rfl (matchS_c a) rfl rfl) (fun b6 h6 => ?_)
  refine AL_p (x_move rfl rfl) ?_
  cases b6
  · try simp only [tdy] at h6
    refine AL_o rfl rfl rfl rfl ?_
    refine AL_o rfl rfl rfl rfl ?_
    refine AL_p (x_pickF rfl rfl rfl) ?_
    refine AL_p (x_move rfl rfl) ?_
    refine AL_o rfl rfl rfl rfl ?_
    refine AL_o rfl rfl rfl rfl ?_
    refine AL_o rfl rfl rfl rfl ?_
    refine AL_o rfl rfl rfl rfl ?_
    refine AL_o rfl rfl rfl rfl ?_
    refine AL_p (x_pickF rfl rfl rfl) ?_
    refine AL_p (x_move rfl rfl) ?_
    refine AL_o rfl rfl rfl rfl ?_
    refine AL_o rfl rfl rfl rfl ?_
    refine AL_o rfl rfl rfl rfl ?_
    refine AL_o rfl rfl rfl rfl ?_
    refine AL_o rfl rfl rfl rfl ?_
    refine AL_p (x_pickF rfl rfl rfl) ?_
    refine AL_p (x_assign rfl rfl) ?_
    refine AL_nil ?_
    refine AW_ret ?_
    exact ⟨rn [], ⟨⟨⟨_, rfl, vle_bool (by grind [sameMatchB])⟩, trivial⟩, trivial, trivial, rfl⟩⟩
  try simp only [tdy] at h6
  refine AL_g rfl rfl (x_loadN (n := 2) rfl rfl rfl (by kernel_rfl) rfl rfl) ?_
  refine AL_gb rfl rfl (x_call0 rfl rfl rfl (matchS_c b) rfl rfl) (fun b9 h9 => ?_)
  refine AL_p (x_pickT rfl rfl rfl) ?_
  refine AL_p (x_move rfl rfl) ?_
  cases b9
  · try simp only [tdy] at h9
    refine AL_o rfl rfl rfl rfl ?_
    refine AL_o rfl rfl rfl rfl ?_
    refine AL_o rfl rfl rfl rfl ?_
    refine AL_o rfl rfl rfl rfl ?_
    refine AL_o rfl rfl rfl rfl ?_
    refine AL_p (x_pickF rfl rfl rfl) ?_
    refine AL_p (x_move rfl rfl) ?_
    refine AL_o rfl rfl rfl rfl ?_
    refine AL_o rfl rfl rfl rfl ?_
    refine AL_o rfl rfl rfl rfl ?_
    refine AL_o rfl rfl rfl rfl ?_
    refine AL_o rfl rfl rfl rfl ?_
    refine AL_p (x_pickF rfl rfl rfl) ?_
    refine AL_p (x_assign rfl rfl) ?_
    refine AL_nil ?_
    refine AW_ret ?_
    exact ⟨rn [], ⟨⟨⟨_, rfl, vle_bool (by grind [sameMatchB])⟩, trivial⟩, trivial, trivial, rfl⟩⟩
  try simp only [tdy] at h9
  refine AL_g rfl rfl (x_field (off := 0) (o' := 0) rfl rfl rfl (by kernel_rfl) rfl) ?_
  refine AL_g rfl rfl (x_load1 rfl rfl rfl (by kernel_rfl) rfl) ?_
  refine AL_g rfl rfl (x_field (off := 0) (o' := 0) rfl rfl rfl (by kernel_rfl) rfl) ?_
  refine AL_g rfl rfl (x_load1 rfl rfl rfl (by kernel_rfl) rfl) ?_
  refine AL_gb rfl rfl (x_call0 rfl rfl rfl (intsS_c a.v b.v) rfl rfl) (fun b16 h16 => ?_)
  refine AL_p (x_pickT rfl rfl rfl) ?_
  refine AL_p (x_move rfl rfl) ?_
  cases b16
  · try simp only [tdy] at h16
    refine AL_o rfl rfl rfl rfl ?_
    refine AL_o rfl rfl rfl rfl ?_
    refine AL_o rfl rfl rfl rfl ?_
    refine AL_o rfl rfl rfl rfl ?_
    refine AL_o rfl rfl rfl rfl ?_
    refine AL_p (x_pickF rfl rfl rfl) ?_
    refine AL_p (x_assign rfl rfl) ?_
    refine AL_nil ?_
    refine AW_ret ?_
    exact ⟨rn [], ⟨⟨⟨_, rfl, vle_bool (by grind [sameMatchB])⟩, trivial⟩, trivial, trivial, rfl⟩⟩
  try simp only [tdy] at h16
  refine AL_g rfl rfl (x_field (off := 1) (o' := 1) rfl rfl rfl (by kernel_rfl) rfl) ?_
  refine AL_g rfl rfl (x_load1 rfl rfl rfl (by kernel_rfl) rfl) ?_
  refine AL_g rfl rfl (x_field (off := 1) (o' := 1) rfl rfl rfl (by kernel_rfl) rfl) ?_
  refine AL_g rfl rfl (x_load1 rfl rfl rfl (by kernel_rfl) rfl) ?_
  refine AL_gb rfl rfl (x_call0 rfl rfl rfl (intsS_c a.m b.m) rfl rfl) (fun b23 h23 => ?_)
  refine AL_p (x_pickT rfl rfl rfl) ?_
  refine AL_p (x_assign rfl rfl) ?_
  refine AL_nil ?_
  refine AW_ret ?_
  cases b23
  rotate_left
  · try simp only [tdy] at h23
    exact ⟨rn [], ⟨⟨⟨_, rfl, vle_bool (by grind [sameMatchB])⟩, trivial⟩, trivial, trivial, rfl⟩⟩
  try simp only [tdy] at h23
  exact ⟨rn [], ⟨⟨⟨_, rfl, vle_bool (by grind [sameMatchB])⟩, trivial⟩, trivial, trivial, rfl⟩⟩

set_option maxHeartbeats 4000000 in
theorem sameKeyI_c (a b : Entryt) : AC Try.prog 98 [.agg (entryC a), .agg (entryC b)] [] (.one (.c (.bool (sameKeyB a b)))) [] := by
  refine AC_body1 Try.func98 rfl rfl Try.ntmps98 rfl Try.results98 ?_
  refine AW_seq ?_
  refine AW_region ?_
  refine AL_p (x_box 100 rfl rfl rfl rfl rfl rfl rfl) ?_
  refine AL_p (x_box 101 rfl rfl rfl rfl rfl rfl rfl) ?_
  refine AL_p (x_assign rfl rfl) ?_
  refine AL_nil ?_
  refine AW_seq ?_
  refine AW_region ?_
  refine AL_p (x_field (off := 0) (o' := 0) rfl rfl rfl (by kernel_rfl) rfl) ?_
  refine AL_p (x_load1 rfl rfl rfl (by kernel_rfl) rfl) ?_
  refine AL_p (x_field (off := 0) (o' := 0) rfl rfl rfl (by kernel_rfl) rfl) ?_
  refine AL_p (x_load1 rfl rfl rfl (by kernel_rfl) rfl) ?_
  refine AL_b (x_eql rfl rfl rfl) (fun b9 h9 => ?_)
  refine AL_p (x_move rfl rfl) ?_
  cases b9
  · try simp only [tdy] at h9
    refine AL_o rfl rfl rfl rfl ?_
    refine AL_o rfl rfl rfl rfl ?_
    refine AL_o rfl rfl rfl rfl ?_
    refine AL_o rfl rfl rfl rfl ?_
    refine AL_o rfl rfl rfl rfl ?_
    refine AL_p (x_pickF rfl rfl rfl) ?_
    refine AL_p (x_move rfl rfl) ?_
    refine AL_o rfl rfl rfl rfl ?_
    refine AL_o rfl rfl rfl rfl ?_
    refine AL_o rfl rfl rfl rfl ?_
    refine AL_o rfl rfl rfl rfl ?_
    refine AL_o rfl rfl rfl rfl ?_
    refine AL_p (x_pickF rfl rfl rfl) ?_
    refine AL_p (x_assign rfl rfl) ?_
    refine AL_nil ?_
    refine AW_ret ?_
    exact ⟨rn [], ⟨⟨⟨_, rfl, vle_bool (by grind [sameKeyB])⟩, trivial⟩, trivial, trivial, rfl⟩⟩
  try simp only [tdy] at h9
  refine AL_g rfl rfl (x_field (off := 1) (o' := 1) rfl rfl rfl (by kernel_rfl) rfl) ?_
  refine AL_g rfl rfl (x_load1 rfl rfl rfl (by kernel_rfl) rfl) ?_
  refine AL_g rfl rfl (x_field (off := 1) (o' := 1) rfl rfl rfl (by kernel_rfl) rfl) ?_
  refine AL_g rfl rfl (x_load1 rfl rfl rfl (by kernel_rfl) rfl) ?_
  refine AL_gb rfl rfl (x_eql rfl rfl rfl) (fun b15 h15 => ?_)
  refine AL_p (x_pickT rfl rfl rfl) ?_
  refine AL_p (x_move rfl rfl) ?_
  cases b15
  · try simp only [tdy] at h15
    refine AL_o rfl rfl rfl rfl ?_
    refine AL_o rfl rfl rfl rfl ?_
    refine AL_o rfl rfl rfl rfl ?_
    refine AL_o rfl rfl rfl rfl ?_
    refine AL_o rfl rfl rfl rfl ?_
    refine AL_p (x_pickF rfl rfl rfl) ?_
    refine AL_p (x_assign rfl rfl) ?_
    refine AL_nil ?_
    refine AW_ret ?_
    exact ⟨rn [], ⟨⟨⟨_, rfl, vle_bool (by grind [sameKeyB])⟩, trivial⟩, trivial, trivial, rfl⟩⟩
  try simp only [tdy] at h15
  refine AL_g rfl rfl (x_field (off := 2) (o' := 2) rfl rfl rfl (by kernel_rfl) rfl) ?_
  refine AL_g rfl rfl (x_loadN (n := 2) rfl rfl rfl (by kernel_rfl) rfl rfl) ?_
  refine AL_g rfl rfl (x_field (off := 2) (o' := 2) rfl rfl rfl (by kernel_rfl) rfl) ?_
  refine AL_g rfl rfl (x_loadN (n := 2) rfl rfl rfl (by kernel_rfl) rfl rfl) ?_
  refine AL_gb rfl rfl (x_call0 rfl rfl rfl (sameMatchI_c a.mat b.mat) rfl rfl) (fun b22 h22 => ?_)
  refine AL_p (x_pickT rfl rfl rfl) ?_
  refine AL_p (x_assign rfl rfl) ?_
  refine AL_nil ?_
  refine AW_ret ?_
  cases b22
  rotate_left
  · try simp only [tdy] at h22
    exact ⟨rn [], ⟨⟨⟨_, rfl, vle_bool (by grind [sameKeyB])⟩, trivial⟩, trivial, trivial, rfl⟩⟩
  try simp only [tdy] at h22
  exact ⟨rn [], ⟨⟨⟨_, rfl, vle_bool (by grind [sameKeyB])⟩, trivial⟩, trivial, trivial, rfl⟩⟩

set_option maxHeartbeats 4000000 in
theorem sameKeyS_c (a b : Entryt) : AC Try.prog 90 [.agg (entryC a), .agg (entryC b)] [] (.one (.c (.bool (sameKeyB a b)))) [] := by
  refine AC_body1 Try.func90 rfl rfl Try.ntmps90 rfl Try.results90 ?_
  refine AW_seq ?_
  refine AW_region ?_
  refine AL_p (x_box 100 rfl rfl rfl rfl rfl rfl rfl) ?_
  refine AL_p (x_box 101 rfl rfl rfl rfl rfl rfl rfl) ?_
  refine AL_p (x_assign rfl rfl) ?_
  refine AL_nil ?_
  refine AW_seq ?_
  refine AW_region ?_
  refine AL_p (x_field (off := 0) (o' := 0) rfl rfl rfl (by kernel_rfl) rfl) ?_
  refine AL_p (x_load1 rfl rfl rfl (by kernel_rfl) rfl) ?_
  refine AL_p (x_field (off := 0) (o' := 0) rfl rfl rfl (by kernel_rfl) rfl) ?_
  refine AL_p (x_load1 rfl rfl rfl (by kernel_rfl) rfl) ?_
  refine AL_b (x_eql rfl rfl rfl) (fun b9 h9 => ?_)
  refine AL_p (x_move rfl rfl) ?_
  cases b9
  · try simp only [tdy] at h9
    refine AL_o rfl rfl rfl rfl ?_
    refine AL_o rfl rfl rfl rfl ?_
    refine AL_o rfl rfl rfl rfl ?_
    refine AL_o rfl rfl rfl rfl ?_
    refine AL_o rfl rfl rfl rfl ?_
    refine AL_p (x_pickF rfl rfl rfl) ?_
    refine AL_p (x_move rfl rfl) ?_
    refine AL_o rfl rfl rfl rfl ?_
    refine AL_o rfl rfl rfl rfl ?_
    refine AL_o rfl rfl rfl rfl ?_
    refine AL_o rfl rfl rfl rfl ?_
    refine AL_o rfl rfl rfl rfl ?_
    refine AL_p (x_pickF rfl rfl rfl) ?_
    refine AL_p (x_assign rfl rfl) ?_
    refine AL_nil ?_
    refine AW_ret ?_
    exact ⟨rn [], ⟨⟨⟨_, rfl, vle_bool (by grind [sameKeyB])⟩, trivial⟩, trivial, trivial, rfl⟩⟩
  try simp only [tdy] at h9
  refine AL_g rfl rfl (x_field (off := 1) (o' := 1) rfl rfl rfl (by kernel_rfl) rfl) ?_
  refine AL_g rfl rfl (x_load1 rfl rfl rfl (by kernel_rfl) rfl) ?_
  refine AL_g rfl rfl (x_field (off := 1) (o' := 1) rfl rfl rfl (by kernel_rfl) rfl) ?_
  refine AL_g rfl rfl (x_load1 rfl rfl rfl (by kernel_rfl) rfl) ?_
  refine AL_gb rfl rfl (x_eql rfl rfl rfl) (fun b15 h15 => ?_)
  refine AL_p (x_pickT rfl rfl rfl) ?_
  refine AL_p (x_move rfl rfl) ?_
  cases b15
  · try simp only [tdy] at h15
    refine AL_o rfl rfl rfl rfl ?_
    refine AL_o rfl rfl rfl rfl ?_
    refine AL_o rfl rfl rfl rfl ?_
    refine AL_o rfl rfl rfl rfl ?_
    refine AL_o rfl rfl rfl rfl ?_
    refine AL_p (x_pickF rfl rfl rfl) ?_
    refine AL_p (x_assign rfl rfl) ?_
    refine AL_nil ?_
    refine AW_ret ?_
    exact ⟨rn [], ⟨⟨⟨_, rfl, vle_bool (by grind [sameKeyB])⟩, trivial⟩, trivial, trivial, rfl⟩⟩
  try simp only [tdy] at h15
  refine AL_g rfl rfl (x_field (off := 2) (o' := 2) rfl rfl rfl (by kernel_rfl) rfl) ?_
  refine AL_g rfl rfl (x_loadN (n := 2) rfl rfl rfl (by kernel_rfl) rfl rfl) ?_
  refine AL_g rfl rfl (x_field (off := 2) (o' := 2) rfl rfl rfl (by kernel_rfl) rfl) ?_
  refine AL_g rfl rfl (x_loadN (n := 2) rfl rfl rfl (by kernel_rfl) rfl rfl) ?_
  refine AL_gb rfl rfl (x_call0 rfl rfl rfl (sameMatchS_c a.mat b.mat) rfl rfl) (fun b22 h22 => ?_)
  refine AL_p (x_pickT rfl rfl rfl) ?_
  refine AL_p (x_assign rfl rfl) ?_
  refine AL_nil ?_
  refine AW_ret ?_
  cases b22
  rotate_left
  · try simp only [tdy] at h22
    exact ⟨rn [], ⟨⟨⟨_, rfl, vle_bool (by grind [sameKeyB])⟩, trivial⟩, trivial, trivial, rfl⟩⟩
  try simp only [tdy] at h22
  exact ⟨rn [], ⟨⟨⟨_, rfl, vle_bool (by grind [sameKeyB])⟩, trivial⟩, trivial, trivial, rfl⟩⟩

set_option maxHeartbeats 4000000 in
theorem tableOkI_c (t : Tablet) : AC Try.prog 53 [.agg (tableC t)] [] (.one (.c (.bool (tableB t)))) [] := by
  refine AC_body1 Try.func53 rfl rfl Try.ntmps53 rfl Try.results53 ?_
  refine AW_aggmax 0 1 rfl rfl (fun hm0_1 => ?_)
  refine AW_seq ?_
  refine AW_region ?_
  refine AL_p (x_box 100 rfl rfl rfl rfl rfl rfl rfl) ?_
  refine AL_p (x_assign rfl rfl) ?_
  refine AL_nil ?_
  refine AW_seq ?_
  refine AW_seq ?_
  refine AW_region ?_
  refine AL_p (x_field (off := 1) (o' := 1) rfl rfl rfl (by kernel_rfl) rfl) ?_
  refine AL_p (x_load1 rfl rfl rfl (by kernel_rfl) rfl) ?_
  refine AL_p (x_len (E := 74) (n := 6) rfl rfl (by kernel_rfl)) ?_
  refine AL_p (x_move rfl rfl) ?_
  refine AL_nil ?_
  refine AW_block ?_
  refine AW_loop2 (ι := {q : Nat // q ≤ t.entries.length ∧ AllAt (tableAt t.entries) q}) (fun p => [(9, .one (.c (.int .i64 ((p.1) : Int))))]) (fun p => []) [1, 7, 8] [100] (fun p => t.entries.length - (p.1)) ⟨0, ⟨by omega, .zero⟩⟩ (rn []) ?_ ?_
  exact ⟨by (repeat refine ⟨⟨_, rfl, by first | exact VLe.rf | exact vle_int (by dsimp only; omega)⟩, ?_⟩); exact trivial, by (repeat refine ⟨⟨_, rfl, by first | exact BLe.rf | exact BLe.box AllC.rf | exact BLe.arr (by exact rfl)⟩, ?_⟩); exact trivial, by repeat (first | exact trivial | refine ⟨⟨rfl, by first | (left; intro h; cases h) | (right; rfl), by first | exact (fun _ h => ⟨_, h⟩) | exact (fun _ _ => ⟨_, rfl⟩)⟩, ?_⟩), rfl⟩
  rintro ⟨k, hinv⟩
  dsimp only
  obtain ⟨hk, hA⟩ := hinv
  have hk : k ≤ t.entries.length := hk
  refine AW_seq ?_
  refine AW_region ?_
  refine AL_b (x_lss rfl rfl rfl) (fun b10 h10 => ?_)
  refine AL_nil ?_
  refine AW_seq ?_
  cases b10
  · try simp only [tdy] at h10
    refine AW_condF rfl ?_
    refine AW_exit (BQ_hit ?_)
    refine AW_seq ?_
    refine AW_region ?_
    refine AL_p (x_field (off := 0) (o' := 0) rfl rfl rfl (by kernel_rfl) rfl) ?_
    refine AL_p (x_load1 rfl rfl rfl (by kernel_rfl) rfl) ?_
    refine AL_b (x_call0 rfl rfl rfl (upToI_c t.cap 400) rfl rfl) (fun b69 h69 => ?_)
    refine AL_p (x_move rfl rfl) ?_
    cases b69
    · try simp only [tdy] at h69
      refine AL_o rfl rfl rfl rfl ?_
      refine AL_o rfl rfl rfl rfl ?_
      refine AL_o rfl rfl rfl rfl ?_
      refine AL_o rfl rfl rfl rfl ?_
      refine AL_o rfl rfl rfl rfl ?_
      refine AL_o rfl rfl rfl rfl ?_
      refine AL_p (x_pickF rfl rfl rfl) ?_
      refine AL_p (x_assign rfl rfl) ?_
      refine AL_nil ?_
      refine AW_ret ?_
      exact ⟨rn [], ⟨⟨⟨_, rfl, vle_bool (by first | exact (hbad).symm | ((symm; exact tableB_cap (by omega))) | ((symm; exact tableB_good hA (by omega) ⟨by omega, by omega, by omega⟩)) | exact (tableB_cap (by omega)).symm | (grind [upToB, tableB_cap, tableB_good]))⟩, trivial⟩, trivial, trivial, rfl⟩⟩
    try simp only [tdy] at h69
    refine AL_g rfl rfl (x_field (off := 1) (o' := 1) rfl rfl rfl (by kernel_rfl) rfl) ?_
    refine AL_g rfl rfl (x_load1 rfl rfl rfl (by kernel_rfl) rfl) ?_
    refine AL_g rfl rfl (x_len (E := 74) (n := 6) rfl rfl (by kernel_rfl)) ?_
    refine AL_g rfl rfl (x_field (off := 0) (o' := 0) rfl rfl rfl (by kernel_rfl) rfl) ?_
    refine AL_g rfl rfl (x_load1 rfl rfl rfl (by kernel_rfl) rfl) ?_
    refine AL_gb rfl rfl (x_leq rfl rfl rfl) (fun b76 h76 => ?_)
    refine AL_p (x_pickT rfl rfl rfl) ?_
    refine AL_p (x_assign rfl rfl) ?_
    refine AL_nil ?_
    refine AW_ret ?_
    cases b76
    rotate_left
    · try simp only [tdy] at h76
      exact ⟨rn [], ⟨⟨⟨_, rfl, vle_bool (by first | exact (hbad).symm | ((symm; exact tableB_cap (by omega))) | ((symm; exact tableB_good hA (by omega) ⟨by omega, by omega, by omega⟩)) | exact (tableB_cap (by omega)).symm | (grind [upToB, tableB_cap, tableB_good]))⟩, trivial⟩, trivial, trivial, rfl⟩⟩
    try simp only [tdy] at h76
    exact ⟨rn [], ⟨⟨⟨_, rfl, vle_bool (by first | exact (hbad).symm | ((symm; exact tableB_cap (by omega))) | ((symm; exact tableB_good hA (by omega) ⟨by omega, by omega, by omega⟩)) | exact (tableB_cap (by omega)).symm | (grind [upToB, tableB_cap, tableB_good]))⟩, trivial⟩, trivial, trivial, rfl⟩⟩
  try simp only [tdy] at h10
  refine AW_condT rfl ?_
  refine AW_skip ?_
  refine AW_seq ?_
  refine AW_block ?_
  refine AW_seq ?_
  refine AW_region ?_
  refine AL_p (x_move rfl rfl) ?_
  refine AL_p (x_index (E := 74) (n := 6) rfl rfl rfl (by kernel_rfl) rfl (k := k) (by omega) (by omega)) ?_
  refine AL_p (x_eloadW (n := 6) rfl rfl (by kernel_rfl) rfl) ?_
  refine AL_p (x_alloc (z := .agg #[.int .i64 0, .int .i64 0, .slice none 0 0, .slice none 0 0, .slice none 0 0, .int .i64 0]) 101 rfl (by kernel_rfl) rfl rfl rfl rfl) ?_
  refine AL_p (x_assign rfl rfl) ?_
  refine AL_p (x_store (n := 6) rfl rfl rfl rfl (by kernel_rfl) rfl rfl rfl) ?_
  refine AL_nil ?_
  refine AW_seq ?_
  refine AW_seq ?_
  refine AW_draw rfl ?_
  refine AL_p (x_loadN (n := 6) rfl rfl rfl (by kernel_rfl) rfl rfl) ?_
  refine AL_b (x_call0 rfl rfl rfl (entryI_c (t.entries[k]'(by omega)).epoch (t.entries[k]'(by omega)).prio (t.entries[k]'(by omega)).hits (t.entries[k]'(by omega)).mat (t.entries[k]'(by omega)).acts) rfl rfl) (fun b15 h15 => ?_)
  refine AL_p (x_not rfl rfl) ?_
  refine AL_p (x_move rfl rfl) ?_
  cases b15
  · try simp only [tdy] at h15
    have hbad := tableB_bad (t := t) (k := k) (by omega) (tableAt_ok (by omega) h15)
    refine AL_o rfl rfl rfl rfl ?_
    refine AL_o rfl rfl rfl rfl ?_
    refine AL_o rfl rfl rfl rfl ?_
    refine AL_u rfl rfl rfl ?_
    refine AL_u rfl rfl rfl ?_
    refine AL_u rfl rfl rfl ?_
    refine AL_u rfl rfl rfl ?_
    refine AL_u rfl rfl rfl ?_
    refine AL_u rfl rfl rfl ?_
    refine AL_u rfl rfl rfl ?_
    refine AL_u rfl rfl rfl ?_
    refine AL_o rfl rfl rfl rfl ?_
    refine AL_p (x_pickT rfl rfl rfl) ?_
    refine AL_nild (by kernel_rfl) ?_
    refine AW_condT rfl ?_
    refine AW_seq ?_
    refine AW_region ?_
    refine AL_p (x_assign rfl rfl) ?_
    refine AL_nil ?_
    refine AW_ret (BQ_ret (BQ_ret ?_))
    exact ⟨rn [], ⟨⟨⟨_, rfl, vle_bool (by first | exact (hbad).symm | ((symm; exact tableB_cap (by omega))) | ((symm; exact tableB_good hA (by omega) ⟨by omega, by omega, by omega⟩)) | exact (tableB_cap (by omega)).symm | (grind [upToB, tableB_cap, tableB_good]))⟩, trivial⟩, trivial, trivial, rfl⟩⟩
  try simp only [tdy] at h15
  have ho : entryOkB (t.entries[k]'(by omega)) = true := h15
  refine AL_g rfl rfl (x_move rfl rfl) ?_
  refine AL_gb rfl rfl (x_gtr rfl rfl rfl) (fun b19 h19 => ?_)
  refine AL_g rfl rfl (x_move rfl rfl) ?_
  cases b19
  · try simp only [tdy] at h19
    have hp : 0 < k → aheadB (t.entries[k]'(by omega)) (t.entries[k - 1]'(by omega)) = false := fun h0 => by exfalso; omega
    refine AL_o rfl rfl rfl rfl ?_
    refine AL_o rfl rfl rfl rfl ?_
    refine AL_o rfl rfl rfl rfl ?_
    refine AL_o rfl rfl rfl rfl ?_
    refine AL_o rfl rfl rfl rfl ?_
    refine AL_o rfl rfl rfl rfl ?_
    refine AL_o rfl rfl rfl rfl ?_
    refine AL_o rfl rfl rfl rfl ?_
    refine AL_g rfl rfl (x_pickF rfl rfl rfl) ?_
    refine AL_p (x_pickF rfl rfl rfl) ?_
    refine AL_nild (by kernel_rfl) ?_
    refine AW_condF rfl ?_
    refine AW_skip ?_
    refine AW_seq ?_
    refine AW_region ?_
    refine AL_p (x_move rfl rfl) ?_
    refine AL_p (x_sub rfl rfl rfl (IntWalk.i64_in _ (by omega))) ?_
    refine AL_p (x_assign rfl rfl) ?_
    refine AL_nil ?_
    refine AW_block ?_
    refine AW_loop2 (ι := {q : Nat // q ≤ k ∧ NoKey t.entries k q}) (fun p => [(5, .one (.c (.int .i64 (((p.1) : Int) - 1))))]) (fun p => []) [1, 4, 7, 8, 9] [100, 101] (fun p => (p.1)) ⟨k, ⟨by omega, .start⟩⟩ (rn []) ?_ ?_
    exact ⟨by (repeat refine ⟨⟨_, rfl, by first | exact VLe.rf | exact vle_int (by dsimp only; omega)⟩, ?_⟩); exact trivial, by (repeat refine ⟨⟨_, rfl, by first | exact BLe.rf | exact BLe.box AllC.rf | exact BLe.arr (by exact rfl)⟩, ?_⟩); exact trivial, by repeat (first | exact trivial | refine ⟨⟨rfl, by first | (left; intro h; cases h) | (right; rfl), by first | exact (fun _ h => ⟨_, h⟩) | exact (fun _ _ => ⟨_, rfl⟩)⟩, ?_⟩), rfl⟩
    rintro ⟨j, hinv⟩
    dsimp only
    obtain ⟨hj, hN⟩ := hinv
    have hj : j ≤ k := hj
    refine AW_seq ?_
    refine AW_seq ?_
    refine AW_draw rfl ?_
    refine AL_p (x_move rfl rfl) ?_
    refine AL_b (x_geq rfl rfl rfl) (fun b34 h34 => ?_)
    refine AL_p (x_move rfl rfl) ?_
    cases b34
    · try simp only [tdy] at h34
      have e0 : j = 0 := by omega
      have hz : NoKey t.entries k 0 := by rw [← e0]; exact hN
      refine AL_o rfl rfl rfl rfl ?_
      refine AL_o rfl rfl rfl rfl ?_
      refine AL_o rfl rfl rfl rfl ?_
      refine AL_o rfl rfl rfl rfl ?_
      refine AL_o rfl rfl rfl rfl ?_
      refine AL_o rfl rfl rfl rfl ?_
      refine AL_o rfl rfl rfl rfl ?_
      refine AL_o rfl rfl rfl rfl ?_
      refine AL_o rfl rfl rfl rfl ?_
      refine AL_p (x_pickF rfl rfl rfl) ?_
      refine AL_p (x_move rfl rfl) ?_
      refine AL_o rfl rfl rfl rfl ?_
      refine AL_o rfl rfl rfl rfl ?_
      refine AL_o rfl rfl rfl rfl ?_
      refine AL_o rfl rfl rfl rfl ?_
      refine AL_o rfl rfl rfl rfl ?_
      refine AL_o rfl rfl rfl rfl ?_
      refine AL_o rfl rfl rfl rfl ?_
      refine AL_o rfl rfl rfl rfl ?_
      refine AL_o rfl rfl rfl rfl ?_
      refine AL_p (x_pickF rfl rfl rfl) ?_
      refine AL_nild (by kernel_rfl) ?_
      refine AW_condF rfl ?_
      refine AW_exit (BQ_hit ?_)
      refine AW_region ?_
      refine AL_p (x_add rfl rfl rfl (IntWalk.i64_in _ (by omega))) ?_
      refine AL_p (x_move rfl rfl) ?_
      refine AL_nil ?_
      refine ⟨⟨k + 1, ⟨by omega, hA.succ (by omega) (tableAt_good (l := t.entries) (k := k) (by omega) ho hp hz)⟩⟩, rn [], ?_, by dsimp only; omega⟩
      exact ⟨by (repeat refine ⟨⟨_, rfl, by first | exact VLe.rf | exact vle_int (by dsimp only; omega)⟩, ?_⟩); exact trivial, by (repeat refine ⟨⟨_, rfl, by first | exact BLe.rf | exact BLe.box AllC.rf | exact BLe.arr (by exact rfl)⟩, ?_⟩); exact trivial, by repeat (first | exact trivial | refine ⟨⟨rfl, by first | (left; intro h; cases h) | (right; rfl), by first | exact (fun _ h => ⟨_, h⟩) | exact (fun _ _ => ⟨_, rfl⟩)⟩, ?_⟩), rfl⟩
    try simp only [tdy] at h34
    refine AL_g rfl rfl (x_field (off := 1) (o' := 1) rfl rfl rfl (by kernel_rfl) rfl) ?_
    refine AL_g rfl rfl (x_load1 rfl rfl rfl (by kernel_rfl) rfl) ?_
    refine AL_g rfl rfl (x_move rfl rfl) ?_
    refine AL_g rfl rfl (x_index (E := 74) (n := 6) rfl rfl rfl (by kernel_rfl) rfl (k := (j - 1)) (by omega) (by omega)) ?_
    refine AL_g rfl rfl (x_efield (off := 0) (o' := 0) rfl rfl (by kernel_rfl) rfl) ?_
    refine AL_g rfl rfl (x_eload1 rfl rfl (by kernel_rfl) rfl) ?_
    refine AL_g rfl rfl (x_field (off := 0) (o' := 0) rfl rfl rfl (by kernel_rfl) rfl) ?_
    refine AL_g rfl rfl (x_load1 rfl rfl rfl (by kernel_rfl) rfl) ?_
    refine AL_gb rfl rfl (x_eql rfl rfl rfl) (fun b44 h44 => ?_)
    refine AL_p (x_pickT rfl rfl rfl) ?_
    refine AL_p (x_move rfl rfl) ?_
    cases b44
    · try simp only [tdy] at h44
      have hz : NoKey t.entries k 0 := hN.stop (by omega) hA hp hj (by omega) (fun q => h44 q.1)
      refine AL_o rfl rfl rfl rfl ?_
      refine AL_o rfl rfl rfl rfl ?_
      refine AL_o rfl rfl rfl rfl ?_
      refine AL_o rfl rfl rfl rfl ?_
      refine AL_o rfl rfl rfl rfl ?_
      refine AL_o rfl rfl rfl rfl ?_
      refine AL_o rfl rfl rfl rfl ?_
      refine AL_o rfl rfl rfl rfl ?_
      refine AL_o rfl rfl rfl rfl ?_
      refine AL_p (x_pickF rfl rfl rfl) ?_
      refine AL_nild (by kernel_rfl) ?_
      refine AW_condF rfl ?_
      refine AW_exit (BQ_hit ?_)
      refine AW_region ?_
      refine AL_p (x_add rfl rfl rfl (IntWalk.i64_in _ (by omega))) ?_
      refine AL_p (x_move rfl rfl) ?_
      refine AL_nil ?_
      refine ⟨⟨k + 1, ⟨by omega, hA.succ (by omega) (tableAt_good (l := t.entries) (k := k) (by omega) ho hp hz)⟩⟩, rn [], ?_, by dsimp only; omega⟩
      exact ⟨by (repeat refine ⟨⟨_, rfl, by first | exact VLe.rf | exact vle_int (by dsimp only; omega)⟩, ?_⟩); exact trivial, by (repeat refine ⟨⟨_, rfl, by first | exact BLe.rf | exact BLe.box AllC.rf | exact BLe.arr (by exact rfl)⟩, ?_⟩); exact trivial, by repeat (first | exact trivial | refine ⟨⟨rfl, by first | (left; intro h; cases h) | (right; rfl), by first | exact (fun _ h => ⟨_, h⟩) | exact (fun _ _ => ⟨_, rfl⟩)⟩, ?_⟩), rfl⟩
    try simp only [tdy] at h44
    refine AL_g rfl rfl (x_field (off := 1) (o' := 1) rfl rfl rfl (by kernel_rfl) rfl) ?_
    refine AL_g rfl rfl (x_load1 rfl rfl rfl (by kernel_rfl) rfl) ?_
    refine AL_g rfl rfl (x_move rfl rfl) ?_
    refine AL_g rfl rfl (x_index (E := 74) (n := 6) rfl rfl rfl (by kernel_rfl) rfl (k := (j - 1)) (by omega) (by omega)) ?_
    refine AL_g rfl rfl (x_efield (off := 1) (o' := 1) rfl rfl (by kernel_rfl) rfl) ?_
    refine AL_g rfl rfl (x_eload1 rfl rfl (by kernel_rfl) rfl) ?_
    refine AL_g rfl rfl (x_field (off := 1) (o' := 1) rfl rfl rfl (by kernel_rfl) rfl) ?_
    refine AL_g rfl rfl (x_load1 rfl rfl rfl (by kernel_rfl) rfl) ?_
    refine AL_gb rfl rfl (x_eql rfl rfl rfl) (fun b55 h55 => ?_)
    refine AL_p (x_pickT rfl rfl rfl) ?_
    refine AL_nild (by kernel_rfl) ?_
    cases b55
    · try simp only [tdy] at h55
      have hz : NoKey t.entries k 0 := hN.stop (by omega) hA hp hj (by omega) (fun q => h55 q.2)
      refine AW_condF rfl ?_
      refine AW_exit (BQ_hit ?_)
      refine AW_region ?_
      refine AL_p (x_add rfl rfl rfl (IntWalk.i64_in _ (by omega))) ?_
      refine AL_p (x_move rfl rfl) ?_
      refine AL_nil ?_
      refine ⟨⟨k + 1, ⟨by omega, hA.succ (by omega) (tableAt_good (l := t.entries) (k := k) (by omega) ho hp hz)⟩⟩, rn [], ?_, by dsimp only; omega⟩
      exact ⟨by (repeat refine ⟨⟨_, rfl, by first | exact VLe.rf | exact vle_int (by dsimp only; omega)⟩, ?_⟩); exact trivial, by (repeat refine ⟨⟨_, rfl, by first | exact BLe.rf | exact BLe.box AllC.rf | exact BLe.arr (by exact rfl)⟩, ?_⟩); exact trivial, by repeat (first | exact trivial | refine ⟨⟨rfl, by first | (left; intro h; cases h) | (right; rfl), by first | exact (fun _ h => ⟨_, h⟩) | exact (fun _ _ => ⟨_, rfl⟩)⟩, ?_⟩), rfl⟩
    try simp only [tdy] at h55
    refine AW_condT rfl ?_
    refine AW_skip ?_
    refine AW_seq ?_
    refine AW_block ?_
    refine AW_seq ?_
    refine AW_draw rfl ?_
    refine AL_p (x_field (off := 1) (o' := 1) rfl rfl rfl (by kernel_rfl) rfl) ?_
    refine AL_p (x_load1 rfl rfl rfl (by kernel_rfl) rfl) ?_
    refine AL_p (x_move rfl rfl) ?_
    refine AL_p (x_index (E := 74) (n := 6) rfl rfl rfl (by kernel_rfl) rfl (k := (j - 1)) (by omega) (by omega)) ?_
    refine AL_p (x_eloadW (n := 6) rfl rfl (by kernel_rfl) rfl) ?_
    refine AL_p (x_loadN (n := 6) rfl rfl rfl (by kernel_rfl) rfl rfl) ?_
    refine AL_b (x_call0 rfl rfl rfl (sameKeyI_c (t.entries[j - 1]'(by omega)) (t.entries[k]'(by omega))) rfl rfl) (fun b65 h65 => ?_)
    refine AL_nild (by kernel_rfl) ?_
    cases b65
    rotate_left
    · try simp only [tdy] at h65
      have hbad := tableB_bad (t := t) (k := k) (by omega) (tableAt_key (j := j - 1) (by omega) (by omega) h65)
      refine AW_condT rfl ?_
      refine AW_seq ?_
      refine AW_region ?_
      refine AL_p (x_assign rfl rfl) ?_
      refine AL_nil ?_
      refine AW_ret (BQ_ret (BQ_ret (BQ_ret (BQ_ret ?_))))
      exact ⟨rn [], ⟨⟨⟨_, rfl, vle_bool (by first | exact (hbad).symm | ((symm; exact tableB_cap (by omega))) | ((symm; exact tableB_good hA (by omega) ⟨by omega, by omega, by omega⟩)) | exact (tableB_cap (by omega)).symm | (grind [upToB, tableB_cap, tableB_good]))⟩, trivial⟩, trivial, trivial, rfl⟩⟩
    try simp only [tdy] at h65
    have hN2 := hN.pred (by omega) (by omega) h65
    refine AW_condF rfl ?_
    refine AW_skip ?_
    refine AW_region ?_
    refine AL_p (x_move rfl rfl) ?_
    refine AL_p (x_sub rfl rfl rfl (IntWalk.i64_in _ (by omega))) ?_
    refine AL_p (x_assign rfl rfl) ?_
    refine AL_nil ?_
    refine ⟨⟨j - 1, ⟨by omega, hN2⟩⟩, rn [], ?_, by dsimp only; omega⟩
    exact ⟨by (repeat refine ⟨⟨_, rfl, by first | exact VLe.rf | exact vle_int (by dsimp only; omega)⟩, ?_⟩); exact trivial, by (repeat refine ⟨⟨_, rfl, by first | exact BLe.rf | exact BLe.box AllC.rf | exact BLe.arr (by exact rfl)⟩, ?_⟩); exact trivial, by repeat (first | exact trivial | refine ⟨⟨rfl, by first | (left; intro h; cases h) | (right; rfl), by first | exact (fun _ h => ⟨_, h⟩) | exact (fun _ _ => ⟨_, rfl⟩)⟩, ?_⟩), rfl⟩
  try simp only [tdy] at h19
  refine AL_g rfl rfl (x_loadN (n := 6) rfl rfl rfl (by kernel_rfl) rfl rfl) ?_
  refine AL_g rfl rfl (x_field (off := 1) (o' := 1) rfl rfl rfl (by kernel_rfl) rfl) ?_
  refine AL_g rfl rfl (x_load1 rfl rfl rfl (by kernel_rfl) rfl) ?_
  refine AL_g rfl rfl (x_move rfl rfl) ?_
  refine AL_g rfl rfl (x_sub rfl rfl rfl (IntWalk.i64_in _ (by omega))) ?_
  refine AL_g rfl rfl (x_index (E := 74) (n := 6) rfl rfl rfl (by kernel_rfl) rfl (k := (k - 1)) (by omega) (by omega)) ?_
  refine AL_g rfl rfl (x_eloadW (n := 6) rfl rfl (by kernel_rfl) rfl) ?_
  refine AL_gb rfl rfl (x_call0 rfl rfl rfl (beforeI_c (t.entries[k]'(by omega)) (t.entries[k - 1]'(by omega))) rfl rfl) (fun b28 h28 => ?_)
  refine AL_g rfl rfl (x_pickT rfl rfl rfl) ?_
  refine AL_p (x_pickF rfl rfl rfl) ?_
  refine AL_nild (by kernel_rfl) ?_
  cases b28
  rotate_left
  · try simp only [tdy] at h28
    have hbad := tableB_bad (t := t) (k := k) (by omega) (tableAt_ahead (by omega) (by omega) h28)
    refine AW_condT rfl ?_
    refine AW_seq ?_
    refine AW_region ?_
    refine AL_p (x_assign rfl rfl) ?_
    refine AL_nil ?_
    refine AW_ret (BQ_ret (BQ_ret ?_))
    exact ⟨rn [], ⟨⟨⟨_, rfl, vle_bool (by first | exact (hbad).symm | ((symm; exact tableB_cap (by omega))) | ((symm; exact tableB_good hA (by omega) ⟨by omega, by omega, by omega⟩)) | exact (tableB_cap (by omega)).symm | (grind [upToB, tableB_cap, tableB_good]))⟩, trivial⟩, trivial, trivial, rfl⟩⟩
  try simp only [tdy] at h28
  have hp : 0 < k → aheadB (t.entries[k]'(by omega)) (t.entries[k - 1]'(by omega)) = false := fun h0 => h28
  refine AW_condF rfl ?_
  refine AW_skip ?_
  refine AW_seq ?_
  refine AW_region ?_
  refine AL_p (x_move rfl rfl) ?_
  refine AL_p (x_sub rfl rfl rfl (IntWalk.i64_in _ (by omega))) ?_
  refine AL_p (x_assign rfl rfl) ?_
  refine AL_nil ?_
  refine AW_block ?_
  refine AW_loop2 (ι := {q : Nat // q ≤ k ∧ NoKey t.entries k q}) (fun p => [(5, .one (.c (.int .i64 (((p.1) : Int) - 1))))]) (fun p => []) [1, 4, 7, 8, 9] [100, 101] (fun p => (p.1)) ⟨k, ⟨by omega, .start⟩⟩ (rn []) ?_ ?_
  exact ⟨by (repeat refine ⟨⟨_, rfl, by first | exact VLe.rf | exact vle_int (by dsimp only; omega)⟩, ?_⟩); exact trivial, by (repeat refine ⟨⟨_, rfl, by first | exact BLe.rf | exact BLe.box AllC.rf | exact BLe.arr (by exact rfl)⟩, ?_⟩); exact trivial, by repeat (first | exact trivial | refine ⟨⟨rfl, by first | (left; intro h; cases h) | (right; rfl), by first | exact (fun _ h => ⟨_, h⟩) | exact (fun _ _ => ⟨_, rfl⟩)⟩, ?_⟩), rfl⟩
  rintro ⟨j, hinv⟩
  dsimp only
  obtain ⟨hj, hN⟩ := hinv
  have hj : j ≤ k := hj
  refine AW_seq ?_
  refine AW_seq ?_
  refine AW_draw rfl ?_
  refine AL_p (x_move rfl rfl) ?_
  refine AL_b (x_geq rfl rfl rfl) (fun b34 h34 => ?_)
  refine AL_p (x_move rfl rfl) ?_
  cases b34
  · try simp only [tdy] at h34
    have e0 : j = 0 := by omega
    have hz : NoKey t.entries k 0 := by rw [← e0]; exact hN
    refine AL_o rfl rfl rfl rfl ?_
    refine AL_o rfl rfl rfl rfl ?_
    refine AL_o rfl rfl rfl rfl ?_
    refine AL_o rfl rfl rfl rfl ?_
    refine AL_o rfl rfl rfl rfl ?_
    refine AL_o rfl rfl rfl rfl ?_
    refine AL_o rfl rfl rfl rfl ?_
    refine AL_o rfl rfl rfl rfl ?_
    refine AL_o rfl rfl rfl rfl ?_
    refine AL_p (x_pickF rfl rfl rfl) ?_
    refine AL_p (x_move rfl rfl) ?_
    refine AL_o rfl rfl rfl rfl ?_
    refine AL_o rfl rfl rfl rfl ?_
    refine AL_o rfl rfl rfl rfl ?_
    refine AL_o rfl rfl rfl rfl ?_
    refine AL_o rfl rfl rfl rfl ?_
    refine AL_o rfl rfl rfl rfl ?_
    refine AL_o rfl rfl rfl rfl ?_
    refine AL_o rfl rfl rfl rfl ?_
    refine AL_o rfl rfl rfl rfl ?_
    refine AL_p (x_pickF rfl rfl rfl) ?_
    refine AL_nild (by kernel_rfl) ?_
    refine AW_condF rfl ?_
    refine AW_exit (BQ_hit ?_)
    refine AW_region ?_
    refine AL_p (x_add rfl rfl rfl (IntWalk.i64_in _ (by omega))) ?_
    refine AL_p (x_move rfl rfl) ?_
    refine AL_nil ?_
    refine ⟨⟨k + 1, ⟨by omega, hA.succ (by omega) (tableAt_good (l := t.entries) (k := k) (by omega) ho hp hz)⟩⟩, rn [], ?_, by dsimp only; omega⟩
    exact ⟨by (repeat refine ⟨⟨_, rfl, by first | exact VLe.rf | exact vle_int (by dsimp only; omega)⟩, ?_⟩); exact trivial, by (repeat refine ⟨⟨_, rfl, by first | exact BLe.rf | exact BLe.box AllC.rf | exact BLe.arr (by exact rfl)⟩, ?_⟩); exact trivial, by repeat (first | exact trivial | refine ⟨⟨rfl, by first | (left; intro h; cases h) | (right; rfl), by first | exact (fun _ h => ⟨_, h⟩) | exact (fun _ _ => ⟨_, rfl⟩)⟩, ?_⟩), rfl⟩
  try simp only [tdy] at h34
  refine AL_g rfl rfl (x_field (off := 1) (o' := 1) rfl rfl rfl (by kernel_rfl) rfl) ?_
  refine AL_g rfl rfl (x_load1 rfl rfl rfl (by kernel_rfl) rfl) ?_
  refine AL_g rfl rfl (x_move rfl rfl) ?_
  refine AL_g rfl rfl (x_index (E := 74) (n := 6) rfl rfl rfl (by kernel_rfl) rfl (k := (j - 1)) (by omega) (by omega)) ?_
  refine AL_g rfl rfl (x_efield (off := 0) (o' := 0) rfl rfl (by kernel_rfl) rfl) ?_
  refine AL_g rfl rfl (x_eload1 rfl rfl (by kernel_rfl) rfl) ?_
  refine AL_g rfl rfl (x_field (off := 0) (o' := 0) rfl rfl rfl (by kernel_rfl) rfl) ?_
  refine AL_g rfl rfl (x_load1 rfl rfl rfl (by kernel_rfl) rfl) ?_
  refine AL_gb rfl rfl (x_eql rfl rfl rfl) (fun b44 h44 => ?_)
  refine AL_p (x_pickT rfl rfl rfl) ?_
  refine AL_p (x_move rfl rfl) ?_
  cases b44
  · try simp only [tdy] at h44
    have hz : NoKey t.entries k 0 := hN.stop (by omega) hA hp hj (by omega) (fun q => h44 q.1)
    refine AL_o rfl rfl rfl rfl ?_
    refine AL_o rfl rfl rfl rfl ?_
    refine AL_o rfl rfl rfl rfl ?_
    refine AL_o rfl rfl rfl rfl ?_
    refine AL_o rfl rfl rfl rfl ?_
    refine AL_o rfl rfl rfl rfl ?_
    refine AL_o rfl rfl rfl rfl ?_
    refine AL_o rfl rfl rfl rfl ?_
    refine AL_o rfl rfl rfl rfl ?_
    refine AL_p (x_pickF rfl rfl rfl) ?_
    refine AL_nild (by kernel_rfl) ?_
    refine AW_condF rfl ?_
    refine AW_exit (BQ_hit ?_)
    refine AW_region ?_
    refine AL_p (x_add rfl rfl rfl (IntWalk.i64_in _ (by omega))) ?_
    refine AL_p (x_move rfl rfl) ?_
    refine AL_nil ?_
    refine ⟨⟨k + 1, ⟨by omega, hA.succ (by omega) (tableAt_good (l := t.entries) (k := k) (by omega) ho hp hz)⟩⟩, rn [], ?_, by dsimp only; omega⟩
    exact ⟨by (repeat refine ⟨⟨_, rfl, by first | exact VLe.rf | exact vle_int (by dsimp only; omega)⟩, ?_⟩); exact trivial, by (repeat refine ⟨⟨_, rfl, by first | exact BLe.rf | exact BLe.box AllC.rf | exact BLe.arr (by exact rfl)⟩, ?_⟩); exact trivial, by repeat (first | exact trivial | refine ⟨⟨rfl, by first | (left; intro h; cases h) | (right; rfl), by first | exact (fun _ h => ⟨_, h⟩) | exact (fun _ _ => ⟨_, rfl⟩)⟩, ?_⟩), rfl⟩
  try simp only [tdy] at h44
  refine AL_g rfl rfl (x_field (off := 1) (o' := 1) rfl rfl rfl (by kernel_rfl) rfl) ?_
  refine AL_g rfl rfl (x_load1 rfl rfl rfl (by kernel_rfl) rfl) ?_
  refine AL_g rfl rfl (x_move rfl rfl) ?_
  refine AL_g rfl rfl (x_index (E := 74) (n := 6) rfl rfl rfl (by kernel_rfl) rfl (k := (j - 1)) (by omega) (by omega)) ?_
  refine AL_g rfl rfl (x_efield (off := 1) (o' := 1) rfl rfl (by kernel_rfl) rfl) ?_
  refine AL_g rfl rfl (x_eload1 rfl rfl (by kernel_rfl) rfl) ?_
  refine AL_g rfl rfl (x_field (off := 1) (o' := 1) rfl rfl rfl (by kernel_rfl) rfl) ?_
  refine AL_g rfl rfl (x_load1 rfl rfl rfl (by kernel_rfl) rfl) ?_
  refine AL_gb rfl rfl (x_eql rfl rfl rfl) (fun b55 h55 => ?_)
  refine AL_p (x_pickT rfl rfl rfl) ?_
  refine AL_nild (by kernel_rfl) ?_
  cases b55
  · try simp only [tdy] at h55
    have hz : NoKey t.entries k 0 := hN.stop (by omega) hA hp hj (by omega) (fun q => h55 q.2)
    refine AW_condF rfl ?_
    refine AW_exit (BQ_hit ?_)
    refine AW_region ?_
    refine AL_p (x_add rfl rfl rfl (IntWalk.i64_in _ (by omega))) ?_
    refine AL_p (x_move rfl rfl) ?_
    refine AL_nil ?_
    refine ⟨⟨k + 1, ⟨by omega, hA.succ (by omega) (tableAt_good (l := t.entries) (k := k) (by omega) ho hp hz)⟩⟩, rn [], ?_, by dsimp only; omega⟩
    exact ⟨by (repeat refine ⟨⟨_, rfl, by first | exact VLe.rf | exact vle_int (by dsimp only; omega)⟩, ?_⟩); exact trivial, by (repeat refine ⟨⟨_, rfl, by first | exact BLe.rf | exact BLe.box AllC.rf | exact BLe.arr (by exact rfl)⟩, ?_⟩); exact trivial, by repeat (first | exact trivial | refine ⟨⟨rfl, by first | (left; intro h; cases h) | (right; rfl), by first | exact (fun _ h => ⟨_, h⟩) | exact (fun _ _ => ⟨_, rfl⟩)⟩, ?_⟩), rfl⟩
  try simp only [tdy] at h55
  refine AW_condT rfl ?_
  refine AW_skip ?_
  refine AW_seq ?_
  refine AW_block ?_
  refine AW_seq ?_
  refine AW_draw rfl ?_
  refine AL_p (x_field (off := 1) (o' := 1) rfl rfl rfl (by kernel_rfl) rfl) ?_
  refine AL_p (x_load1 rfl rfl rfl (by kernel_rfl) rfl) ?_
  refine AL_p (x_move rfl rfl) ?_
  refine AL_p (x_index (E := 74) (n := 6) rfl rfl rfl (by kernel_rfl) rfl (k := (j - 1)) (by omega) (by omega)) ?_
  refine AL_p (x_eloadW (n := 6) rfl rfl (by kernel_rfl) rfl) ?_
  refine AL_p (x_loadN (n := 6) rfl rfl rfl (by kernel_rfl) rfl rfl) ?_
  refine AL_b (x_call0 rfl rfl rfl (sameKeyI_c (t.entries[j - 1]'(by omega)) (t.entries[k]'(by omega))) rfl rfl) (fun b65 h65 => ?_)
  refine AL_nild (by kernel_rfl) ?_
  cases b65
  rotate_left
  · try simp only [tdy] at h65
    have hbad := tableB_bad (t := t) (k := k) (by omega) (tableAt_key (j := j - 1) (by omega) (by omega) h65)
    refine AW_condT rfl ?_
    refine AW_seq ?_
    refine AW_region ?_
    refine AL_p (x_assign rfl rfl) ?_
    refine AL_nil ?_
    refine AW_ret (BQ_ret (BQ_ret (BQ_ret (BQ_ret ?_))))
    exact ⟨rn [], ⟨⟨⟨_, rfl, vle_bool (by first | exact (hbad).symm | ((symm; exact tableB_cap (by omega))) | ((symm; exact tableB_good hA (by omega) ⟨by omega, by omega, by omega⟩)) | exact (tableB_cap (by omega)).symm | (grind [upToB, tableB_cap, tableB_good]))⟩, trivial⟩, trivial, trivial, rfl⟩⟩
  try simp only [tdy] at h65
  have hN2 := hN.pred (by omega) (by omega) h65
  refine AW_condF rfl ?_
  refine AW_skip ?_
  refine AW_region ?_
  refine AL_p (x_move rfl rfl) ?_
  refine AL_p (x_sub rfl rfl rfl (IntWalk.i64_in _ (by omega))) ?_
  refine AL_p (x_assign rfl rfl) ?_
  refine AL_nil ?_
  refine ⟨⟨j - 1, ⟨by omega, hN2⟩⟩, rn [], ?_, by dsimp only; omega⟩
  exact ⟨by (repeat refine ⟨⟨_, rfl, by first | exact VLe.rf | exact vle_int (by dsimp only; omega)⟩, ?_⟩); exact trivial, by (repeat refine ⟨⟨_, rfl, by first | exact BLe.rf | exact BLe.box AllC.rf | exact BLe.arr (by exact rfl)⟩, ?_⟩); exact trivial, by repeat (first | exact trivial | refine ⟨⟨rfl, by first | (left; intro h; cases h) | (right; rfl), by first | exact (fun _ h => ⟨_, h⟩) | exact (fun _ _ => ⟨_, rfl⟩)⟩, ?_⟩), rfl⟩

set_option maxHeartbeats 4000000 in
theorem tableOkS_c (t : Tablet) : AC Try.prog 88 [.agg (tableC t)] [] (.one (.c (.bool (tableB t)))) [] := by
  refine AC_body1 Try.func88 rfl rfl Try.ntmps88 rfl Try.results88 ?_
  refine AW_aggmax 0 1 rfl rfl (fun hm0_1 => ?_)
  refine AW_seq ?_
  refine AW_region ?_
  refine AL_p (x_box 100 rfl rfl rfl rfl rfl rfl rfl) ?_
  refine AL_p (x_assign rfl rfl) ?_
  refine AL_nil ?_
  refine AW_seq ?_
  refine AW_seq ?_
  refine AW_region ?_
  refine AL_p (x_field (off := 0) (o' := 0) rfl rfl rfl (by kernel_rfl) rfl) ?_
  refine AL_p (x_load1 rfl rfl rfl (by kernel_rfl) rfl) ?_
  refine AL_b (x_lss rfl rfl rfl) (fun b7 h7 => ?_)
  refine AL_p (x_move rfl rfl) ?_
  cases b7
  rotate_left
  · try simp only [tdy] at h7
    refine AL_o rfl rfl rfl rfl ?_
    refine AL_o rfl rfl rfl rfl ?_
    refine AL_o rfl rfl rfl rfl ?_
    refine AL_p (x_pickT rfl rfl rfl) ?_
    refine AL_p (x_move rfl rfl) ?_
    refine AL_o rfl rfl rfl rfl ?_
    refine AL_o rfl rfl rfl rfl ?_
    refine AL_o rfl rfl rfl rfl ?_
    refine AL_o rfl rfl rfl rfl ?_
    refine AL_o rfl rfl rfl rfl ?_
    refine AL_o rfl rfl rfl rfl ?_
    refine AL_p (x_pickT rfl rfl rfl) ?_
    refine AL_nil ?_
    refine AW_condT rfl ?_
    refine AW_seq ?_
    refine AW_region ?_
    refine AL_p (x_assign rfl rfl) ?_
    refine AL_nil ?_
    refine AW_ret ?_
    exact ⟨rn [], ⟨⟨⟨_, rfl, vle_bool (by first | exact (hbad).symm | exact (tableB_cap (by omega)).symm | exact (tableB_good hA (by omega) ⟨by omega, by omega, by omega⟩).symm)⟩, trivial⟩, trivial, trivial, rfl⟩⟩
  try simp only [tdy] at h7
  refine AL_g rfl rfl (x_field (off := 0) (o' := 0) rfl rfl rfl (by kernel_rfl) rfl) ?_
  refine AL_g rfl rfl (x_load1 rfl rfl rfl (by kernel_rfl) rfl) ?_
  refine AL_gb rfl rfl (x_gtr rfl rfl rfl) (fun b11 h11 => ?_)
  refine AL_p (x_pickF rfl rfl rfl) ?_
  refine AL_p (x_move rfl rfl) ?_
  cases b11
  rotate_left
  · try simp only [tdy] at h11
    refine AL_o rfl rfl rfl rfl ?_
    refine AL_o rfl rfl rfl rfl ?_
    refine AL_o rfl rfl rfl rfl ?_
    refine AL_o rfl rfl rfl rfl ?_
    refine AL_o rfl rfl rfl rfl ?_
    refine AL_o rfl rfl rfl rfl ?_
    refine AL_p (x_pickT rfl rfl rfl) ?_
    refine AL_nil ?_
    refine AW_condT rfl ?_
    refine AW_seq ?_
    refine AW_region ?_
    refine AL_p (x_assign rfl rfl) ?_
    refine AL_nil ?_
    refine AW_ret ?_
    exact ⟨rn [], ⟨⟨⟨_, rfl, vle_bool (by first | exact (hbad).symm | exact (tableB_cap (by omega)).symm | exact (tableB_good hA (by omega) ⟨by omega, by omega, by omega⟩).symm)⟩, trivial⟩, trivial, trivial, rfl⟩⟩
  try simp only [tdy] at h11
  refine AL_g rfl rfl (x_field (off := 1) (o' := 1) rfl rfl rfl (by kernel_rfl) rfl) ?_
  refine AL_g rfl rfl (x_load1 rfl rfl rfl (by kernel_rfl) rfl) ?_
  refine AL_g rfl rfl (x_len (E := 74) (n := 6) rfl rfl (by kernel_rfl)) ?_
  refine AL_g rfl rfl (x_field (off := 0) (o' := 0) rfl rfl rfl (by kernel_rfl) rfl) ?_
  refine AL_g rfl rfl (x_load1 rfl rfl rfl (by kernel_rfl) rfl) ?_
  refine AL_gb rfl rfl (x_gtr rfl rfl rfl) (fun b19 h19 => ?_)
  refine AL_p (x_pickF rfl rfl rfl) ?_
  refine AL_nil ?_
  cases b19
  rotate_left
  · try simp only [tdy] at h19
    refine AW_condT rfl ?_
    refine AW_seq ?_
    refine AW_region ?_
    refine AL_p (x_assign rfl rfl) ?_
    refine AL_nil ?_
    refine AW_ret ?_
    exact ⟨rn [], ⟨⟨⟨_, rfl, vle_bool (by first | exact (hbad).symm | exact (tableB_cap (by omega)).symm | exact (tableB_good hA (by omega) ⟨by omega, by omega, by omega⟩).symm)⟩, trivial⟩, trivial, trivial, rfl⟩⟩
  try simp only [tdy] at h19
  refine AW_condF rfl ?_
  refine AW_skip ?_
  refine AW_seq ?_
  refine AW_seq ?_
  refine AW_region ?_
  refine AL_p (x_field (off := 1) (o' := 1) rfl rfl rfl (by kernel_rfl) rfl) ?_
  refine AL_p (x_load1 rfl rfl rfl (by kernel_rfl) rfl) ?_
  refine AL_p (x_len (E := 74) (n := 6) rfl rfl (by kernel_rfl)) ?_
  refine AL_p (x_move rfl rfl) ?_
  refine AL_nil ?_
  refine AW_block ?_
  refine AW_loop2 (ι := {q : Nat // q ≤ t.entries.length ∧ AllAt (tableAt t.entries) q}) (fun p => [(24, .one (.c (.int .i64 ((p.1) : Int))))]) (fun p => []) [1, 23] [100] (fun p => t.entries.length - (p.1)) ⟨0, ⟨by omega, .zero⟩⟩ (rn []) ?_ ?_
  exact ⟨by (repeat refine ⟨⟨_, rfl, by first | exact VLe.rf | exact vle_int (by dsimp only; omega)⟩, ?_⟩); exact trivial, by (repeat refine ⟨⟨_, rfl, by first | exact BLe.rf | exact BLe.box AllC.rf | exact BLe.arr (by exact rfl)⟩, ?_⟩); exact trivial, by repeat (first | exact trivial | refine ⟨⟨rfl, by first | (left; intro h; cases h) | (right; rfl), by first | exact (fun _ h => ⟨_, h⟩) | exact (fun _ _ => ⟨_, rfl⟩)⟩, ?_⟩), rfl⟩
  rintro ⟨k, hinv⟩
  dsimp only
  obtain ⟨hk, hA⟩ := hinv
  have hk : k ≤ t.entries.length := hk
  refine AW_seq ?_
  refine AW_region ?_
  refine AL_b (x_lss rfl rfl rfl) (fun b25 h25 => ?_)
  refine AL_nil ?_
  refine AW_seq ?_
  cases b25
  · try simp only [tdy] at h25
    refine AW_condF rfl ?_
    refine AW_exit (BQ_hit ?_)
    refine AW_seq ?_
    refine AW_region ?_
    refine AL_p (x_assign rfl rfl) ?_
    refine AL_nil ?_
    refine AW_ret ?_
    exact ⟨rn [], ⟨⟨⟨_, rfl, vle_bool (by first | exact (hbad).symm | exact (tableB_cap (by omega)).symm | exact (tableB_good hA (by omega) ⟨by omega, by omega, by omega⟩).symm)⟩, trivial⟩, trivial, trivial, rfl⟩⟩
  try simp only [tdy] at h25
  refine AW_condT rfl ?_
  refine AW_skip ?_
  refine AW_seq ?_
  refine AW_block ?_
  refine AW_seq ?_
  refine AW_region ?_
  refine AL_p (x_move rfl rfl) ?_
  refine AL_p (x_assign rfl rfl) ?_
  refine AL_nil ?_
  refine AW_seq ?_
  refine AW_seq ?_
  refine AW_region ?_
  refine AL_p (x_field (off := 1) (o' := 1) rfl rfl rfl (by kernel_rfl) rfl) ?_
  refine AL_p (x_load1 rfl rfl rfl (by kernel_rfl) rfl) ?_
  refine AL_p (x_move rfl rfl) ?_
  refine AL_p (x_index (E := 74) (n := 6) rfl rfl rfl (by kernel_rfl) rfl (k := k) (by omega) (by omega)) ?_
  refine AL_p (x_eloadW (n := 6) rfl rfl (by kernel_rfl) rfl) ?_
  refine AL_b (x_call0 rfl rfl rfl (entryS_c (t.entries[k]'(by omega)).epoch (t.entries[k]'(by omega)).prio (t.entries[k]'(by omega)).hits (t.entries[k]'(by omega)).mat (t.entries[k]'(by omega)).acts) rfl rfl) (fun b32 h32 => ?_)
  refine AL_p (x_not rfl rfl) ?_
  refine AL_nil ?_
  cases b32
  · try simp only [tdy] at h32
    have hbad := tableB_bad (t := t) (k := k) (by omega) (tableAt_ok (by omega) h32)
    refine AW_condT rfl ?_
    refine AW_seq ?_
    refine AW_region ?_
    refine AL_p (x_assign rfl rfl) ?_
    refine AL_nil ?_
    refine AW_ret (BQ_ret (BQ_ret ?_))
    exact ⟨rn [], ⟨⟨⟨_, rfl, vle_bool (by first | exact (hbad).symm | exact (tableB_cap (by omega)).symm | exact (tableB_good hA (by omega) ⟨by omega, by omega, by omega⟩).symm)⟩, trivial⟩, trivial, trivial, rfl⟩⟩
  try simp only [tdy] at h32
  have ho : entryOkB (t.entries[k]'(by omega)) = true := h32
  refine AW_condF rfl ?_
  refine AW_skip ?_
  refine AW_seq ?_
  refine AW_seq ?_
  refine AW_draw rfl ?_
  refine AL_p (x_move rfl rfl) ?_
  refine AL_b (x_gtr rfl rfl rfl) (fun b35 h35 => ?_)
  refine AL_p (x_move rfl rfl) ?_
  cases b35
  · try simp only [tdy] at h35
    have hp : 0 < k → aheadB (t.entries[k]'(by omega)) (t.entries[k - 1]'(by omega)) = false := fun h0 => by exfalso; omega
    refine AL_o rfl rfl rfl rfl ?_
    refine AL_o rfl rfl rfl rfl ?_
    refine AL_o rfl rfl rfl rfl ?_
    refine AL_o rfl rfl rfl rfl ?_
    refine AL_o rfl rfl rfl rfl ?_
    refine AL_o rfl rfl rfl rfl ?_
    refine AL_o rfl rfl rfl rfl ?_
    refine AL_o rfl rfl rfl rfl ?_
    refine AL_o rfl rfl rfl rfl ?_
    refine AL_o rfl rfl rfl rfl ?_
    refine AL_o rfl rfl rfl rfl ?_
    refine AL_o rfl rfl rfl rfl ?_
    refine AL_p (x_pickF rfl rfl rfl) ?_
    refine AL_nild (by kernel_rfl) ?_
    refine AW_condF rfl ?_
    refine AW_skip ?_
    refine AW_seq ?_
    refine AW_region ?_
    refine AL_p (x_move rfl rfl) ?_
    refine AL_p (x_sub rfl rfl rfl (IntWalk.i64_in _ (by omega))) ?_
    refine AL_p (x_assign rfl rfl) ?_
    refine AL_nil ?_
    refine AW_block ?_
    refine AW_loop2 (ι := {q : Nat // q ≤ k ∧ NoKey t.entries k q}) (fun p => [(4, .one (.c (.int .i64 (((p.1) : Int) - 1))))]) (fun p => []) [1, 3, 23, 24] [100] (fun p => (p.1)) ⟨k, ⟨by omega, .start⟩⟩ (rn []) ?_ ?_
    exact ⟨by (repeat refine ⟨⟨_, rfl, by first | exact VLe.rf | exact vle_int (by dsimp only; omega)⟩, ?_⟩); exact trivial, by (repeat refine ⟨⟨_, rfl, by first | exact BLe.rf | exact BLe.box AllC.rf | exact BLe.arr (by exact rfl)⟩, ?_⟩); exact trivial, by repeat (first | exact trivial | refine ⟨⟨rfl, by first | (left; intro h; cases h) | (right; rfl), by first | exact (fun _ h => ⟨_, h⟩) | exact (fun _ _ => ⟨_, rfl⟩)⟩, ?_⟩), rfl⟩
    rintro ⟨j, hinv⟩
    dsimp only
    obtain ⟨hj, hN⟩ := hinv
    have hj : j ≤ k := hj
    refine AW_seq ?_
    refine AW_seq ?_
    refine AW_draw rfl ?_
    refine AL_p (x_move rfl rfl) ?_
    refine AL_b (x_geq rfl rfl rfl) (fun b53 h53 => ?_)
    refine AL_p (x_move rfl rfl) ?_
    cases b53
    · try simp only [tdy] at h53
      have e0 : j = 0 := by omega
      have hz : NoKey t.entries k 0 := by rw [← e0]; exact hN
      refine AL_o rfl rfl rfl rfl ?_
      refine AL_o rfl rfl rfl rfl ?_
      refine AL_o rfl rfl rfl rfl ?_
      refine AL_o rfl rfl rfl rfl ?_
      refine AL_o rfl rfl rfl rfl ?_
      refine AL_o rfl rfl rfl rfl ?_
      refine AL_o rfl rfl rfl rfl ?_
      refine AL_o rfl rfl rfl rfl ?_
      refine AL_o rfl rfl rfl rfl ?_
      refine AL_o rfl rfl rfl rfl ?_
      refine AL_o rfl rfl rfl rfl ?_
      refine AL_o rfl rfl rfl rfl ?_
      refine AL_p (x_pickF rfl rfl rfl) ?_
      refine AL_nild (by kernel_rfl) ?_
      refine AW_condF rfl ?_
      refine AW_exit (BQ_hit ?_)
      refine AW_region ?_
      refine AL_p (x_add rfl rfl rfl (IntWalk.i64_in _ (by omega))) ?_
      refine AL_p (x_move rfl rfl) ?_
      refine AL_nil ?_
      refine ⟨⟨k + 1, ⟨by omega, hA.succ (by omega) (tableAt_good (l := t.entries) (k := k) (by omega) ho hp hz)⟩⟩, rn [], ?_, by dsimp only; omega⟩
      exact ⟨by (repeat refine ⟨⟨_, rfl, by first | exact VLe.rf | exact vle_int (by dsimp only; omega)⟩, ?_⟩); exact trivial, by (repeat refine ⟨⟨_, rfl, by first | exact BLe.rf | exact BLe.box AllC.rf | exact BLe.arr (by exact rfl)⟩, ?_⟩); exact trivial, by repeat (first | exact trivial | refine ⟨⟨rfl, by first | (left; intro h; cases h) | (right; rfl), by first | exact (fun _ h => ⟨_, h⟩) | exact (fun _ _ => ⟨_, rfl⟩)⟩, ?_⟩), rfl⟩
    try simp only [tdy] at h53
    refine AL_g rfl rfl (x_field (off := 1) (o' := 1) rfl rfl rfl (by kernel_rfl) rfl) ?_
    refine AL_g rfl rfl (x_load1 rfl rfl rfl (by kernel_rfl) rfl) ?_
    refine AL_g rfl rfl (x_move rfl rfl) ?_
    refine AL_g rfl rfl (x_index (E := 74) (n := 6) rfl rfl rfl (by kernel_rfl) rfl (k := (j - 1)) (by omega) (by omega)) ?_
    refine AL_g rfl rfl (x_eloadW (n := 6) rfl rfl (by kernel_rfl) rfl) ?_
    refine AL_g rfl rfl (x_field (off := 1) (o' := 1) rfl rfl rfl (by kernel_rfl) rfl) ?_
    refine AL_g rfl rfl (x_load1 rfl rfl rfl (by kernel_rfl) rfl) ?_
    refine AL_g rfl rfl (x_move rfl rfl) ?_
    refine AL_g rfl rfl (x_index (E := 74) (n := 6) rfl rfl rfl (by kernel_rfl) rfl (k := k) (by omega) (by omega)) ?_
    refine AL_g rfl rfl (x_eloadW (n := 6) rfl rfl (by kernel_rfl) rfl) ?_
    refine AL_gb rfl rfl (x_call0 rfl rfl rfl (aheadS_c (t.entries[j - 1]'(by omega)) (t.entries[k]'(by omega))) rfl rfl) (fun b65 h65 => ?_)
    refine AL_g rfl rfl (x_not rfl rfl) ?_
    refine AL_p (x_pickT rfl rfl rfl) ?_
    refine AL_nild (by kernel_rfl) ?_
    cases b65
    rotate_left
    · try simp only [tdy] at h65
      have hz : NoKey t.entries k 0 := hN.stop (by omega) hA hp hj (by omega) (fun q => ahead_key h65 q)
      refine AW_condF rfl ?_
      refine AW_exit (BQ_hit ?_)
      refine AW_region ?_
      refine AL_p (x_add rfl rfl rfl (IntWalk.i64_in _ (by omega))) ?_
      refine AL_p (x_move rfl rfl) ?_
      refine AL_nil ?_
      refine ⟨⟨k + 1, ⟨by omega, hA.succ (by omega) (tableAt_good (l := t.entries) (k := k) (by omega) ho hp hz)⟩⟩, rn [], ?_, by dsimp only; omega⟩
      exact ⟨by (repeat refine ⟨⟨_, rfl, by first | exact VLe.rf | exact vle_int (by dsimp only; omega)⟩, ?_⟩); exact trivial, by (repeat refine ⟨⟨_, rfl, by first | exact BLe.rf | exact BLe.box AllC.rf | exact BLe.arr (by exact rfl)⟩, ?_⟩); exact trivial, by repeat (first | exact trivial | refine ⟨⟨rfl, by first | (left; intro h; cases h) | (right; rfl), by first | exact (fun _ h => ⟨_, h⟩) | exact (fun _ _ => ⟨_, rfl⟩)⟩, ?_⟩), rfl⟩
    try simp only [tdy] at h65
    refine AW_condT rfl ?_
    refine AW_skip ?_
    refine AW_seq ?_
    refine AW_block ?_
    refine AW_seq ?_
    refine AW_draw rfl ?_
    refine AL_p (x_field (off := 1) (o' := 1) rfl rfl rfl (by kernel_rfl) rfl) ?_
    refine AL_p (x_load1 rfl rfl rfl (by kernel_rfl) rfl) ?_
    refine AL_p (x_move rfl rfl) ?_
    refine AL_p (x_index (E := 74) (n := 6) rfl rfl rfl (by kernel_rfl) rfl (k := (j - 1)) (by omega) (by omega)) ?_
    refine AL_p (x_eloadW (n := 6) rfl rfl (by kernel_rfl) rfl) ?_
    refine AL_p (x_field (off := 1) (o' := 1) rfl rfl rfl (by kernel_rfl) rfl) ?_
    refine AL_p (x_load1 rfl rfl rfl (by kernel_rfl) rfl) ?_
    refine AL_p (x_move rfl rfl) ?_
    refine AL_p (x_index (E := 74) (n := 6) rfl rfl rfl (by kernel_rfl) rfl (k := k) (by omega) (by omega)) ?_
    refine AL_p (x_eloadW (n := 6) rfl rfl (by kernel_rfl) rfl) ?_
    refine AL_b (x_call0 rfl rfl rfl (sameKeyS_c (t.entries[j - 1]'(by omega)) (t.entries[k]'(by omega))) rfl rfl) (fun b80 h80 => ?_)
    refine AL_nild (by kernel_rfl) ?_
    cases b80
    rotate_left
    · try simp only [tdy] at h80
      have hbad := tableB_bad (t := t) (k := k) (by omega) (tableAt_key (j := j - 1) (by omega) (by omega) h80)
      refine AW_condT rfl ?_
      refine AW_seq ?_
      refine AW_region ?_
      refine AL_p (x_assign rfl rfl) ?_
      refine AL_nil ?_
      refine AW_ret (BQ_ret (BQ_ret (BQ_ret (BQ_ret ?_))))
      exact ⟨rn [], ⟨⟨⟨_, rfl, vle_bool (by first | exact (hbad).symm | exact (tableB_cap (by omega)).symm | exact (tableB_good hA (by omega) ⟨by omega, by omega, by omega⟩).symm)⟩, trivial⟩, trivial, trivial, rfl⟩⟩
    try simp only [tdy] at h80
    have hN2 := hN.pred (by omega) (by omega) h80
    refine AW_condF rfl ?_
    refine AW_skip ?_
    refine AW_region ?_
    refine AL_p (x_move rfl rfl) ?_
    refine AL_p (x_sub rfl rfl rfl (IntWalk.i64_in _ (by omega))) ?_
    refine AL_p (x_assign rfl rfl) ?_
    refine AL_nil ?_
    refine ⟨⟨j - 1, ⟨by omega, hN2⟩⟩, rn [], ?_, by dsimp only; omega⟩
    exact ⟨by (repeat refine ⟨⟨_, rfl, by first | exact VLe.rf | exact vle_int (by dsimp only; omega)⟩, ?_⟩); exact trivial, by (repeat refine ⟨⟨_, rfl, by first | exact BLe.rf | exact BLe.box AllC.rf | exact BLe.arr (by exact rfl)⟩, ?_⟩); exact trivial, by repeat (first | exact trivial | refine ⟨⟨rfl, by first | (left; intro h; cases h) | (right; rfl), by first | exact (fun _ h => ⟨_, h⟩) | exact (fun _ _ => ⟨_, rfl⟩)⟩, ?_⟩), rfl⟩
  try simp only [tdy] at h35
  refine AL_g rfl rfl (x_field (off := 1) (o' := 1) rfl rfl rfl (by kernel_rfl) rfl) ?_
  refine AL_g rfl rfl (x_load1 rfl rfl rfl (by kernel_rfl) rfl) ?_
  refine AL_g rfl rfl (x_move rfl rfl) ?_
  refine AL_g rfl rfl (x_index (E := 74) (n := 6) rfl rfl rfl (by kernel_rfl) rfl (k := k) (by omega) (by omega)) ?_
  refine AL_g rfl rfl (x_eloadW (n := 6) rfl rfl (by kernel_rfl) rfl) ?_
  refine AL_g rfl rfl (x_field (off := 1) (o' := 1) rfl rfl rfl (by kernel_rfl) rfl) ?_
  refine AL_g rfl rfl (x_load1 rfl rfl rfl (by kernel_rfl) rfl) ?_
  refine AL_g rfl rfl (x_move rfl rfl) ?_
  refine AL_g rfl rfl (x_sub rfl rfl rfl (IntWalk.i64_in _ (by omega))) ?_
  refine AL_g rfl rfl (x_index (E := 74) (n := 6) rfl rfl rfl (by kernel_rfl) rfl (k := (k - 1)) (by omega) (by omega)) ?_
  refine AL_g rfl rfl (x_eloadW (n := 6) rfl rfl (by kernel_rfl) rfl) ?_
  refine AL_gb rfl rfl (x_call0 rfl rfl rfl (aheadS_c (t.entries[k]'(by omega)) (t.entries[k - 1]'(by omega))) rfl rfl) (fun b48 h48 => ?_)
  refine AL_p (x_pickT rfl rfl rfl) ?_
  refine AL_nild (by kernel_rfl) ?_
  cases b48
  rotate_left
  · try simp only [tdy] at h48
    have hbad := tableB_bad (t := t) (k := k) (by omega) (tableAt_ahead (by omega) (by omega) h48)
    refine AW_condT rfl ?_
    refine AW_seq ?_
    refine AW_region ?_
    refine AL_p (x_assign rfl rfl) ?_
    refine AL_nil ?_
    refine AW_ret (BQ_ret (BQ_ret ?_))
    exact ⟨rn [], ⟨⟨⟨_, rfl, vle_bool (by first | exact (hbad).symm | exact (tableB_cap (by omega)).symm | exact (tableB_good hA (by omega) ⟨by omega, by omega, by omega⟩).symm)⟩, trivial⟩, trivial, trivial, rfl⟩⟩
  try simp only [tdy] at h48
  have hp : 0 < k → aheadB (t.entries[k]'(by omega)) (t.entries[k - 1]'(by omega)) = false := fun h0 => h48
  refine AW_condF rfl ?_
  refine AW_skip ?_
  refine AW_seq ?_
  refine AW_region ?_
  refine AL_p (x_move rfl rfl) ?_
  refine AL_p (x_sub rfl rfl rfl (IntWalk.i64_in _ (by omega))) ?_
  refine AL_p (x_assign rfl rfl) ?_
  refine AL_nil ?_
  refine AW_block ?_
  refine AW_loop2 (ι := {q : Nat // q ≤ k ∧ NoKey t.entries k q}) (fun p => [(4, .one (.c (.int .i64 (((p.1) : Int) - 1))))]) (fun p => []) [1, 3, 23, 24] [100] (fun p => (p.1)) ⟨k, ⟨by omega, .start⟩⟩ (rn []) ?_ ?_
  exact ⟨by (repeat refine ⟨⟨_, rfl, by first | exact VLe.rf | exact vle_int (by dsimp only; omega)⟩, ?_⟩); exact trivial, by (repeat refine ⟨⟨_, rfl, by first | exact BLe.rf | exact BLe.box AllC.rf | exact BLe.arr (by exact rfl)⟩, ?_⟩); exact trivial, by repeat (first | exact trivial | refine ⟨⟨rfl, by first | (left; intro h; cases h) | (right; rfl), by first | exact (fun _ h => ⟨_, h⟩) | exact (fun _ _ => ⟨_, rfl⟩)⟩, ?_⟩), rfl⟩
  rintro ⟨j, hinv⟩
  dsimp only
  obtain ⟨hj, hN⟩ := hinv
  have hj : j ≤ k := hj
  refine AW_seq ?_
  refine AW_seq ?_
  refine AW_draw rfl ?_
  refine AL_p (x_move rfl rfl) ?_
  refine AL_b (x_geq rfl rfl rfl) (fun b53 h53 => ?_)
  refine AL_p (x_move rfl rfl) ?_
  cases b53
  · try simp only [tdy] at h53
    have e0 : j = 0 := by omega
    have hz : NoKey t.entries k 0 := by rw [← e0]; exact hN
    refine AL_o rfl rfl rfl rfl ?_
    refine AL_o rfl rfl rfl rfl ?_
    refine AL_o rfl rfl rfl rfl ?_
    refine AL_o rfl rfl rfl rfl ?_
    refine AL_o rfl rfl rfl rfl ?_
    refine AL_o rfl rfl rfl rfl ?_
    refine AL_o rfl rfl rfl rfl ?_
    refine AL_o rfl rfl rfl rfl ?_
    refine AL_o rfl rfl rfl rfl ?_
    refine AL_o rfl rfl rfl rfl ?_
    refine AL_o rfl rfl rfl rfl ?_
    refine AL_o rfl rfl rfl rfl ?_
    refine AL_p (x_pickF rfl rfl rfl) ?_
    refine AL_nild (by kernel_rfl) ?_
    refine AW_condF rfl ?_
    refine AW_exit (BQ_hit ?_)
    refine AW_region ?_
    refine AL_p (x_add rfl rfl rfl (IntWalk.i64_in _ (by omega))) ?_
    refine AL_p (x_move rfl rfl) ?_
    refine AL_nil ?_
    refine ⟨⟨k + 1, ⟨by omega, hA.succ (by omega) (tableAt_good (l := t.entries) (k := k) (by omega) ho hp hz)⟩⟩, rn [], ?_, by dsimp only; omega⟩
    exact ⟨by (repeat refine ⟨⟨_, rfl, by first | exact VLe.rf | exact vle_int (by dsimp only; omega)⟩, ?_⟩); exact trivial, by (repeat refine ⟨⟨_, rfl, by first | exact BLe.rf | exact BLe.box AllC.rf | exact BLe.arr (by exact rfl)⟩, ?_⟩); exact trivial, by repeat (first | exact trivial | refine ⟨⟨rfl, by first | (left; intro h; cases h) | (right; rfl), by first | exact (fun _ h => ⟨_, h⟩) | exact (fun _ _ => ⟨_, rfl⟩)⟩, ?_⟩), rfl⟩
  try simp only [tdy] at h53
  refine AL_g rfl rfl (x_field (off := 1) (o' := 1) rfl rfl rfl (by kernel_rfl) rfl) ?_
  refine AL_g rfl rfl (x_load1 rfl rfl rfl (by kernel_rfl) rfl) ?_
  refine AL_g rfl rfl (x_move rfl rfl) ?_
  refine AL_g rfl rfl (x_index (E := 74) (n := 6) rfl rfl rfl (by kernel_rfl) rfl (k := (j - 1)) (by omega) (by omega)) ?_
  refine AL_g rfl rfl (x_eloadW (n := 6) rfl rfl (by kernel_rfl) rfl) ?_
  refine AL_g rfl rfl (x_field (off := 1) (o' := 1) rfl rfl rfl (by kernel_rfl) rfl) ?_
  refine AL_g rfl rfl (x_load1 rfl rfl rfl (by kernel_rfl) rfl) ?_
  refine AL_g rfl rfl (x_move rfl rfl) ?_
  refine AL_g rfl rfl (x_index (E := 74) (n := 6) rfl rfl rfl (by kernel_rfl) rfl (k := k) (by omega) (by omega)) ?_
  refine AL_g rfl rfl (x_eloadW (n := 6) rfl rfl (by kernel_rfl) rfl) ?_
  refine AL_gb rfl rfl (x_call0 rfl rfl rfl (aheadS_c (t.entries[j - 1]'(by omega)) (t.entries[k]'(by omega))) rfl rfl) (fun b65 h65 => ?_)
  refine AL_g rfl rfl (x_not rfl rfl) ?_
  refine AL_p (x_pickT rfl rfl rfl) ?_
  refine AL_nild (by kernel_rfl) ?_
  cases b65
  rotate_left
  · try simp only [tdy] at h65
    have hz : NoKey t.entries k 0 := hN.stop (by omega) hA hp hj (by omega) (fun q => ahead_key h65 q)
    refine AW_condF rfl ?_
    refine AW_exit (BQ_hit ?_)
    refine AW_region ?_
    refine AL_p (x_add rfl rfl rfl (IntWalk.i64_in _ (by omega))) ?_
    refine AL_p (x_move rfl rfl) ?_
    refine AL_nil ?_
    refine ⟨⟨k + 1, ⟨by omega, hA.succ (by omega) (tableAt_good (l := t.entries) (k := k) (by omega) ho hp hz)⟩⟩, rn [], ?_, by dsimp only; omega⟩
    exact ⟨by (repeat refine ⟨⟨_, rfl, by first | exact VLe.rf | exact vle_int (by dsimp only; omega)⟩, ?_⟩); exact trivial, by (repeat refine ⟨⟨_, rfl, by first | exact BLe.rf | exact BLe.box AllC.rf | exact BLe.arr (by exact rfl)⟩, ?_⟩); exact trivial, by repeat (first | exact trivial | refine ⟨⟨rfl, by first | (left; intro h; cases h) | (right; rfl), by first | exact (fun _ h => ⟨_, h⟩) | exact (fun _ _ => ⟨_, rfl⟩)⟩, ?_⟩), rfl⟩
  try simp only [tdy] at h65
  refine AW_condT rfl ?_
  refine AW_skip ?_
  refine AW_seq ?_
  refine AW_block ?_
  refine AW_seq ?_
  refine AW_draw rfl ?_
  refine AL_p (x_field (off := 1) (o' := 1) rfl rfl rfl (by kernel_rfl) rfl) ?_
  refine AL_p (x_load1 rfl rfl rfl (by kernel_rfl) rfl) ?_
  refine AL_p (x_move rfl rfl) ?_
  refine AL_p (x_index (E := 74) (n := 6) rfl rfl rfl (by kernel_rfl) rfl (k := (j - 1)) (by omega) (by omega)) ?_
  refine AL_p (x_eloadW (n := 6) rfl rfl (by kernel_rfl) rfl) ?_
  refine AL_p (x_field (off := 1) (o' := 1) rfl rfl rfl (by kernel_rfl) rfl) ?_
  refine AL_p (x_load1 rfl rfl rfl (by kernel_rfl) rfl) ?_
  refine AL_p (x_move rfl rfl) ?_
  refine AL_p (x_index (E := 74) (n := 6) rfl rfl rfl (by kernel_rfl) rfl (k := k) (by omega) (by omega)) ?_
  refine AL_p (x_eloadW (n := 6) rfl rfl (by kernel_rfl) rfl) ?_
  refine AL_b (x_call0 rfl rfl rfl (sameKeyS_c (t.entries[j - 1]'(by omega)) (t.entries[k]'(by omega))) rfl rfl) (fun b80 h80 => ?_)
  refine AL_nild (by kernel_rfl) ?_
  cases b80
  rotate_left
  · try simp only [tdy] at h80
    have hbad := tableB_bad (t := t) (k := k) (by omega) (tableAt_key (j := j - 1) (by omega) (by omega) h80)
    refine AW_condT rfl ?_
    refine AW_seq ?_
    refine AW_region ?_
    refine AL_p (x_assign rfl rfl) ?_
    refine AL_nil ?_
    refine AW_ret (BQ_ret (BQ_ret (BQ_ret (BQ_ret ?_))))
    exact ⟨rn [], ⟨⟨⟨_, rfl, vle_bool (by first | exact (hbad).symm | exact (tableB_cap (by omega)).symm | exact (tableB_good hA (by omega) ⟨by omega, by omega, by omega⟩).symm)⟩, trivial⟩, trivial, trivial, rfl⟩⟩
  try simp only [tdy] at h80
  have hN2 := hN.pred (by omega) (by omega) h80
  refine AW_condF rfl ?_
  refine AW_skip ?_
  refine AW_region ?_
  refine AL_p (x_move rfl rfl) ?_
  refine AL_p (x_sub rfl rfl rfl (IntWalk.i64_in _ (by omega))) ?_
  refine AL_p (x_assign rfl rfl) ?_
  refine AL_nil ?_
  refine ⟨⟨j - 1, ⟨by omega, hN2⟩⟩, rn [], ?_, by dsimp only; omega⟩
  exact ⟨by (repeat refine ⟨⟨_, rfl, by first | exact VLe.rf | exact vle_int (by dsimp only; omega)⟩, ?_⟩); exact trivial, by (repeat refine ⟨⟨_, rfl, by first | exact BLe.rf | exact BLe.box AllC.rf | exact BLe.arr (by exact rfl)⟩, ?_⟩); exact trivial, by repeat (first | exact trivial | refine ⟨⟨rfl, by first | (left; intro h; cases h) | (right; rfl), by first | exact (fun _ h => ⟨_, h⟩) | exact (fun _ _ => ⟨_, rfl⟩)⟩, ?_⟩), rfl⟩
end Go.Proofs.Ytfdpigafekohgaa

/- Copies of tables (printed by walk.py) -/
namespace Go.Proofs.Ytfdpigafekohgaa
open Go.RowKit
set_option linter.unusedVariables false
set_option linter.unusedSimpArgs false
set_option maxRecDepth 100000

set_option maxHeartbeats 4000000 in
theorem cloneInt_c0 (r : List Int) (hl : r.length ≤ 1048576) : AC Try.prog 152 [.one (.sl (intE .i64) r)] [] (.one (.own 0)) [(0, some (.arr 3 (intE .i64) r true))] := by
  refine AC_body1 Try.func152 rfl rfl Try.ntmps152 rfl Try.results152 ?_
  refine AW_split 0 rfl (fun hx => ?_) ?_
  · subst hx
    refine AW_seq ?_
    refine AW_region ?_
    refine AL_p (x_assign rfl rfl) ?_
    refine AL_nil ?_
    refine AW_seq ?_
    refine AW_seq ?_
    refine AW_region ?_
    refine AL_p (x_move rfl rfl) ?_
    refine AL_p (x_nilnil rfl rfl rfl (E := 3) (n := 1) (by kernel_rfl)) ?_
    refine AL_nil ?_
    refine AW_condT rfl ?_
    refine AW_seq ?_
    refine AW_region ?_
    refine AL_p (x_assign rfl rfl) ?_
    refine AL_nil ?_
    refine AW_adoptT (T := 3) (e := (intE .i64)) 100 2 rfl rfl rfl ?_
    refine AW_ret ?_
    exact ⟨rn [(0, 100)], ⟨⟨⟨_, rfl, VLe.rf⟩, trivial⟩, ⟨⟨_, rfl, BLe.rf⟩, trivial⟩, trivial, rfl⟩⟩
  · refine AW_seq ?_
    refine AW_region ?_
    refine AL_p (x_assign rfl rfl) ?_
    refine AL_nil ?_
    refine AW_seq ?_
    refine AW_seq ?_
    refine AW_region ?_
    refine AL_p (x_move rfl rfl) ?_
    refine AL_p (x_snnil rfl rfl rfl (E := 3) (n := 1) (by kernel_rfl)) ?_
    refine AL_nil ?_
    refine AW_condF rfl ?_
    refine AW_skip ?_
    refine AW_seq ?_
    refine AW_region ?_
    refine AL_p (y_bslice0 (E := 3) (e := (intE .i64)) 101 rfl rfl rfl (by kernel_rfl)) ?_
    refine AL_p (x_move_sn rfl rfl) ?_
    refine AL_p (y_append_sl 102 true (.inr intE_nofp) rfl rfl rfl rfl rfl rfl (by kernel_rfl) (by simp; omega)) ?_
    refine AL_p (x_assign rfl rfl) ?_
    refine AL_nil ?_
    refine AW_ret ?_
    exact ⟨rn [(0, 102)], ⟨⟨⟨_, rfl, VLe.rf⟩, trivial⟩, ⟨⟨_, rfl, BLe.rf⟩, trivial⟩, trivial, rfl⟩⟩
theorem cloneInt_c (r : List Int) (hl : r.length ≤ 1048576) (k : Nat) : AC Try.prog 152 [.one (.sl (intE .i64) r)] [] (.one (.own k)) [(k, some (.arr 3 (intE .i64) r true))] := AC.at (cloneInt_c0 r hl) k

set_option maxHeartbeats 4000000 in
theorem cloneAct_c0 (r : List Actt) (hl : r.length ≤ 1048576) : AC Try.prog 136 [.one (.sl actE r)] [] (.one (.own 0)) [(0, some (.arr 114 actE r true))] := by
  refine AC_body1 Try.func136 rfl rfl Try.ntmps136 rfl Try.results136 ?_
  refine AW_split 0 rfl (fun hx => ?_) ?_
  · subst hx
    refine AW_seq ?_
    refine AW_region ?_
    refine AL_p (x_assign rfl rfl) ?_
    refine AL_nil ?_
    refine AW_seq ?_
    refine AW_seq ?_
    refine AW_region ?_
    refine AL_p (x_move rfl rfl) ?_
    refine AL_p (x_nilnil rfl rfl rfl (E := 114) (n := 3) (by kernel_rfl)) ?_
    refine AL_nil ?_
    refine AW_condT rfl ?_
    refine AW_seq ?_
    refine AW_region ?_
    refine AL_p (x_assign rfl rfl) ?_
    refine AL_nil ?_
    refine AW_adoptT (T := 114) (e := actE) 100 2 rfl rfl rfl ?_
    refine AW_ret ?_
    exact ⟨rn [(0, 100)], ⟨⟨⟨_, rfl, VLe.rf⟩, trivial⟩, ⟨⟨_, rfl, BLe.rf⟩, trivial⟩, trivial, rfl⟩⟩
  · refine AW_seq ?_
    refine AW_region ?_
    refine AL_p (x_assign rfl rfl) ?_
    refine AL_nil ?_
    refine AW_seq ?_
    refine AW_seq ?_
    refine AW_region ?_
    refine AL_p (x_move rfl rfl) ?_
    refine AL_p (x_snnil rfl rfl rfl (E := 114) (n := 3) (by kernel_rfl)) ?_
    refine AL_nil ?_
    refine AW_condF rfl ?_
    refine AW_skip ?_
    refine AW_seq ?_
    refine AW_region ?_
    refine AL_p (y_bslice0 (E := 114) (e := actE) 101 rfl rfl rfl (by kernel_rfl)) ?_
    refine AL_p (x_move_sn rfl rfl) ?_
    refine AL_p (y_append_sl 102 true (.inr actE_nofp) rfl rfl rfl rfl rfl rfl (by kernel_rfl) (by simp; omega)) ?_
    refine AL_p (x_assign rfl rfl) ?_
    refine AL_nil ?_
    refine AW_ret ?_
    exact ⟨rn [(0, 102)], ⟨⟨⟨_, rfl, VLe.rf⟩, trivial⟩, ⟨⟨_, rfl, BLe.rf⟩, trivial⟩, trivial, rfl⟩⟩
theorem cloneAct_c (r : List Actt) (hl : r.length ≤ 1048576) (k : Nat) : AC Try.prog 136 [.one (.sl actE r)] [] (.one (.own k)) [(k, some (.arr 114 actE r true))] := AC.at (cloneAct_c0 r hl) k

set_option maxHeartbeats 4000000 in
theorem copyMatchI_c (m : Matcht) (hm : smallMatch m) : AC Try.prog 135 [.agg (matchC m)] [] (.agg [.own 0, .own 1]) [(0, some (.arr 3 (intE .i64) m.v true)), (1, some (.arr 3 (intE .i64) m.m true))] := by
  refine AC_bodyC (n := 2) (k := 9) (T := [(2, .one (.ptr 9 0))]) (Lf := ((9, some (.box [.own 0, .own 1])) :: [(0, some (.arr 3 (intE .i64) m.v true)), (1, some (.arr 3 (intE .i64) m.m true))])) Try.func135 rfl rfl Try.ntmps135 rfl Try.results135 rfl rfl (by kernel_rfl) rfl rfl ⟨trivial, (by repeat (first | exact trivial | refine ⟨⟨_, rfl, BLe.rf⟩, ?_⟩)), (by repeat (first | exact trivial | refine ⟨⟨rfl, by first | (left; intro h; cases h) | (right; rfl), by first | exact (fun _ h => ⟨_, h⟩) | exact (fun _ _ => ⟨_, rfl⟩)⟩, ?_⟩)), rfl⟩ ?_
  refine AW_seq ?_
  refine AW_region ?_
  refine AL_p (x_box 100 rfl rfl rfl rfl rfl rfl rfl) ?_
  refine AL_p (x_alloc (z := .agg #[.slice none 0 0, .slice none 0 0]) 101 rfl (by kernel_rfl) rfl rfl rfl rfl) ?_
  refine AL_nil ?_
  refine AW_seq ?_
  refine AW_draw rfl ?_
  refine AL_p (x_field (off := 0) (o' := 0) rfl rfl rfl (by kernel_rfl) rfl) ?_
  refine AL_p (x_load1 rfl rfl rfl (by kernel_rfl) rfl) ?_
  refine AL_p (x_call1 rfl rfl rfl (cloneInt_c m.v hm.1 102) rfl rfl rfl rfl) ?_
  refine AL_p (x_field (off := 1) (o' := 1) rfl rfl rfl (by kernel_rfl) rfl) ?_
  refine AL_p (x_load1 rfl rfl rfl (by kernel_rfl) rfl) ?_
  refine AL_p (x_call1 rfl rfl rfl (cloneInt_c m.m hm.2 103) rfl rfl rfl rfl) ?_
  refine AL_p (x_build (zs := [.slice none 0 0, .slice none 0 0]) (places := [(0, 1), (1, 1)]) rfl (by kernel_rfl) rfl rfl rfl rfl rfl) ?_
  refine AL_p (x_store (n := 2) rfl rfl rfl rfl (by kernel_rfl) rfl rfl rfl) ?_
  refine AL_nild (by kernel_rfl) ?_
  refine AW_ret ?_
  exact ⟨rn [(9, 101), (0, 102), (1, 103)], ⟨⟨⟨_, rfl, VLe.rf⟩, trivial⟩, ⟨⟨_, rfl, BLe.rf⟩, ⟨_, rfl, by first | exact BLe.rf | exact BLe.arr (List.nil_append _)⟩, ⟨_, rfl, by first | exact BLe.rf | exact BLe.arr (List.nil_append _)⟩, trivial⟩, trivial, rfl⟩⟩

set_option maxHeartbeats 4000000 in
theorem copyMatchS_c (m : Matcht) (hm : smallMatch m) : AC Try.prog 119 [.agg (matchC m)] [] (.agg [.own 0, .own 1]) [(0, some (.arr 3 (intE .i64) m.v true)), (1, some (.arr 3 (intE .i64) m.m true))] := by
  refine AC_bodyC (n := 2) (k := 9) (T := [(2, .one (.ptr 9 0))]) (Lf := ((9, some (.box [.own 0, .own 1])) :: [(0, some (.arr 3 (intE .i64) m.v true)), (1, some (.arr 3 (intE .i64) m.m true))])) Try.func119 rfl rfl Try.ntmps119 rfl Try.results119 rfl rfl (by kernel_rfl) rfl rfl ⟨trivial, (by repeat (first | exact trivial | refine ⟨⟨_, rfl, BLe.rf⟩, ?_⟩)), (by repeat (first | exact trivial | refine ⟨⟨rfl, by first | (left; intro h; cases h) | (right; rfl), by first | exact (fun _ h => ⟨_, h⟩) | exact (fun _ _ => ⟨_, rfl⟩)⟩, ?_⟩)), rfl⟩ ?_
  refine AW_seq ?_
  refine AW_region ?_
  refine AL_p (x_box 100 rfl rfl rfl rfl rfl rfl rfl) ?_
  refine AL_p (x_alloc (z := .agg #[.slice none 0 0, .slice none 0 0]) 101 rfl (by kernel_rfl) rfl rfl rfl rfl) ?_
  refine AL_nil ?_
  refine AW_seq ?_
  refine AW_draw rfl ?_
  refine AL_p (y_bslice0 (E := 3) (e := (intE .i64)) 102 rfl rfl rfl (by kernel_rfl)) ?_
  refine AL_p (x_field (off := 0) (o' := 0) rfl rfl rfl (by kernel_rfl) rfl) ?_
  refine AL_p (x_load1 rfl rfl rfl (by kernel_rfl) rfl) ?_
  refine AL_p (y_append_sl 103 true (.inr intE_nofp) rfl rfl rfl rfl rfl rfl (by kernel_rfl) (by simp only [List.length_nil]; have := hm.1; omega)) ?_
  refine AL_p (y_bslice0 (E := 3) (e := (intE .i64)) 104 rfl rfl rfl (by kernel_rfl)) ?_
  refine AL_p (x_field (off := 1) (o' := 1) rfl rfl rfl (by kernel_rfl) rfl) ?_
  refine AL_p (x_load1 rfl rfl rfl (by kernel_rfl) rfl) ?_
  refine AL_p (y_append_sl 105 true (.inr intE_nofp) rfl rfl rfl rfl rfl rfl (by kernel_rfl) (by simp only [List.length_nil]; have := hm.2; omega)) ?_
  refine AL_p (x_build (zs := [.slice none 0 0, .slice none 0 0]) (places := [(0, 1), (1, 1)]) rfl (by kernel_rfl) rfl rfl rfl rfl rfl) ?_
  refine AL_p (x_store (n := 2) rfl rfl rfl rfl (by kernel_rfl) rfl rfl rfl) ?_
  refine AL_nild (by kernel_rfl) ?_
  refine AW_ret ?_
  exact ⟨rn [(9, 101), (0, 103), (1, 105)], ⟨⟨⟨_, rfl, VLe.rf⟩, trivial⟩, ⟨⟨_, rfl, BLe.rf⟩, ⟨_, rfl, by first | exact BLe.rf | exact BLe.arr (List.nil_append _)⟩, ⟨_, rfl, by first | exact BLe.rf | exact BLe.arr (List.nil_append _)⟩, trivial⟩, trivial, rfl⟩⟩

set_option maxHeartbeats 4000000 in
theorem copyEntI_c (e : Entryt) (he : smallEntry e) : AC Try.prog 95 [.agg (entryC e)] [] (.agg [.c (.int .i64 e.epoch), .c (.int .i64 e.prio), .own 0, .own 1, .own 2, .c (.int .i64 e.hits)]) [(0, some (.arr 3 (intE .i64) e.mat.v true)), (1, some (.arr 3 (intE .i64) e.mat.m true)), (2, some (.arr 114 actE e.acts true))] := by
  refine AC_bodyC (n := 6) (k := 9) (T := [(2, .one (.ptr 9 0))]) (Lf := ((9, some (.box [.c (.int .i64 e.epoch), .c (.int .i64 e.prio), .own 0, .own 1, .own 2, .c (.int .i64 e.hits)])) :: [(0, some (.arr 3 (intE .i64) e.mat.v true)), (1, some (.arr 3 (intE .i64) e.mat.m true)), (2, some (.arr 114 actE e.acts true))])) Try.func95 rfl rfl Try.ntmps95 rfl Try.results95 rfl rfl (by kernel_rfl) rfl rfl ⟨trivial, (by repeat (first | exact trivial | refine ⟨⟨_, rfl, BLe.rf⟩, ?_⟩)), (by repeat (first | exact trivial | refine ⟨⟨rfl, by first | (left; intro h; cases h) | (right; rfl), by first | exact (fun _ h => ⟨_, h⟩) | exact (fun _ _ => ⟨_, rfl⟩)⟩, ?_⟩)), rfl⟩ ?_
  refine AW_seq ?_
  refine AW_region ?_
  refine AL_p (x_box 100 rfl rfl rfl rfl rfl rfl rfl) ?_
  refine AL_p (x_alloc (z := .agg #[.int .i64 0, .int .i64 0, .slice none 0 0, .slice none 0 0, .slice none 0 0, .int .i64 0]) 101 rfl (by kernel_rfl) rfl rfl rfl rfl) ?_
  refine AL_nil ?_
  refine AW_seq ?_
  refine AW_region ?_
  refine AL_p (x_field (off := 2) (o' := 2) rfl rfl rfl (by kernel_rfl) rfl) ?_
  refine AL_p (x_loadN (n := 2) rfl rfl rfl (by kernel_rfl) rfl rfl) ?_
  refine AL_p (x_callR rfl rfl rfl (AC.renum (res := .agg [.own 102, .own 103]) (L := [(102, some (.arr 3 (intE .i64) e.mat.v true)), (103, some (.arr 3 (intE .i64) e.mat.m true))]) (r := rn [(102, 0), (103, 1)]) (copyMatchI_c e.mat he.1) ⟨⟨_, rfl, BLe.rf⟩, ⟨_, rfl, BLe.rf⟩, trivial⟩ rfl) rfl AllV.rf rfl rfl rfl rfl rfl) ?_
  refine AL_p (x_field (off := 2) (o' := 2) rfl rfl rfl (by kernel_rfl) rfl) ?_
  refine AL_p (x_store (n := 2) rfl rfl rfl rfl (by kernel_rfl) rfl rfl rfl) ?_
  refine AL_nil ?_
  refine AW_seq ?_
  refine AW_region ?_
  refine AL_p (x_field (off := 4) (o' := 4) rfl rfl rfl (by kernel_rfl) rfl) ?_
  refine AL_p (x_load1 rfl rfl rfl (by kernel_rfl) rfl) ?_
  refine AL_p (x_call1 rfl rfl rfl (cloneAct_c e.acts he.2.1 104) rfl rfl rfl rfl) ?_
  refine AL_p (x_field (off := 4) (o' := 4) rfl rfl rfl (by kernel_rfl) rfl) ?_
  refine AL_p (x_store (n := 1) rfl rfl rfl rfl (by kernel_rfl) rfl rfl rfl) ?_
  refine AL_nil ?_
  refine AW_seq ?_
  refine AW_region ?_
  refine AL_p (x_loadN (n := 6) rfl rfl rfl (by kernel_rfl) rfl rfl) ?_
  refine AL_p (x_store (n := 6) rfl rfl rfl rfl (by kernel_rfl) rfl rfl rfl) ?_
  refine AL_nil ?_
  refine AW_ret ?_
  exact ⟨rn [(9, 101), (0, 102), (1, 103), (2, 104)], ⟨⟨⟨_, rfl, VLe.rf⟩, trivial⟩, ⟨⟨_, rfl, BLe.rf⟩, ⟨_, rfl, by first | exact BLe.rf | exact BLe.arr (List.nil_append _)⟩, ⟨_, rfl, by first | exact BLe.rf | exact BLe.arr (List.nil_append _)⟩, ⟨_, rfl, by first | exact BLe.rf | exact BLe.arr (List.nil_append _)⟩, trivial⟩, trivial, rfl⟩⟩

set_option maxHeartbeats 4000000 in
theorem copyEntS_c (e : Entryt) (he : smallEntry e) : AC Try.prog 91 [.agg (entryC e)] [] (.agg [.c (.int .i64 e.epoch), .c (.int .i64 e.prio), .own 0, .own 1, .own 2, .c (.int .i64 e.hits)]) [(0, some (.arr 3 (intE .i64) e.mat.v true)), (1, some (.arr 3 (intE .i64) e.mat.m true)), (2, some (.arr 114 actE e.acts true))] := by
  refine AC_bodyC (n := 6) (k := 9) (T := [(2, .one (.ptr 9 0))]) (Lf := ((9, some (.box [.c (.int .i64 e.epoch), .c (.int .i64 e.prio), .own 0, .own 1, .own 2, .c (.int .i64 e.hits)])) :: [(0, some (.arr 3 (intE .i64) e.mat.v true)), (1, some (.arr 3 (intE .i64) e.mat.m true)), (2, some (.arr 114 actE e.acts true))])) Try.func91 rfl rfl Try.ntmps91 rfl Try.results91 rfl rfl (by kernel_rfl) rfl rfl ⟨trivial, (by repeat (first | exact trivial | refine ⟨⟨_, rfl, BLe.rf⟩, ?_⟩)), (by repeat (first | exact trivial | refine ⟨⟨rfl, by first | (left; intro h; cases h) | (right; rfl), by first | exact (fun _ h => ⟨_, h⟩) | exact (fun _ _ => ⟨_, rfl⟩)⟩, ?_⟩)), rfl⟩ ?_
  refine AW_seq ?_
  refine AW_region ?_
  refine AL_p (x_box 100 rfl rfl rfl rfl rfl rfl rfl) ?_
  refine AL_p (x_alloc (z := .agg #[.int .i64 0, .int .i64 0, .slice none 0 0, .slice none 0 0, .slice none 0 0, .int .i64 0]) 101 rfl (by kernel_rfl) rfl rfl rfl rfl) ?_
  refine AL_nil ?_
  refine AW_seq ?_
  refine AW_region ?_
  refine AL_p (x_field (off := 2) (o' := 2) rfl rfl rfl (by kernel_rfl) rfl) ?_
  refine AL_p (x_loadN (n := 2) rfl rfl rfl (by kernel_rfl) rfl rfl) ?_
  refine AL_p (x_callR rfl rfl rfl (AC.renum (res := .agg [.own 102, .own 103]) (L := [(102, some (.arr 3 (intE .i64) e.mat.v true)), (103, some (.arr 3 (intE .i64) e.mat.m true))]) (r := rn [(102, 0), (103, 1)]) (copyMatchS_c e.mat he.1) ⟨⟨_, rfl, BLe.rf⟩, ⟨_, rfl, BLe.rf⟩, trivial⟩ rfl) rfl AllV.rf rfl rfl rfl rfl rfl) ?_
  refine AL_p (x_field (off := 2) (o' := 2) rfl rfl rfl (by kernel_rfl) rfl) ?_
  refine AL_p (x_store (n := 2) rfl rfl rfl rfl (by kernel_rfl) rfl rfl rfl) ?_
  refine AL_nil ?_
  refine AW_seq ?_
  refine AW_region ?_
  refine AL_p (y_bslice0 (E := 114) (e := actE) 104 rfl rfl rfl (by kernel_rfl)) ?_
  refine AL_p (x_field (off := 4) (o' := 4) rfl rfl rfl (by kernel_rfl) rfl) ?_
  refine AL_p (x_load1 rfl rfl rfl (by kernel_rfl) rfl) ?_
  refine AL_p (y_append_sl 105 true (.inr actE_nofp) rfl rfl rfl rfl rfl rfl (by kernel_rfl) (by simp only [List.length_nil]; have := he.2.1; omega)) ?_
  refine AL_p (x_field (off := 4) (o' := 4) rfl rfl rfl (by kernel_rfl) rfl) ?_
  refine AL_p (x_store (n := 1) rfl rfl rfl rfl (by kernel_rfl) rfl rfl rfl) ?_
  refine AL_nil ?_
  refine AW_seq ?_
  refine AW_region ?_
  refine AL_p (x_loadN (n := 6) rfl rfl rfl (by kernel_rfl) rfl rfl) ?_
  refine AL_p (x_store (n := 6) rfl rfl rfl rfl (by kernel_rfl) rfl rfl rfl) ?_
  refine AL_nil ?_
  refine AW_ret ?_
  exact ⟨rn [(9, 101), (0, 102), (1, 103), (2, 105)], ⟨⟨⟨_, rfl, VLe.rf⟩, trivial⟩, ⟨⟨_, rfl, BLe.rf⟩, ⟨_, rfl, by first | exact BLe.rf | exact BLe.arr (List.nil_append _)⟩, ⟨_, rfl, by first | exact BLe.rf | exact BLe.arr (List.nil_append _)⟩, ⟨_, rfl, by first | exact BLe.rf | exact BLe.arr (List.nil_append _)⟩, trivial⟩, trivial, rfl⟩⟩

set_option maxHeartbeats 4000000 in
theorem copyTabI_c0 (t : Tablet) (ht : smallTable t) : AC Try.prog 94 [.agg (tableC t)] [] (.agg [.c (.int .i64 t.cap), .own 0]) [(0, some (.arr 74 entryE t.entries true))] := by
  refine AC_bodyC (n := 2) (k := 9) (T := [(2, .one (.ptr 9 0))]) (Lf := ((9, some (.box [.c (.int .i64 t.cap), .own 0])) :: [(0, some (.arr 74 entryE t.entries true))])) Try.func94 rfl rfl Try.ntmps94 rfl Try.results94 rfl rfl (by kernel_rfl) rfl rfl ⟨trivial, (by repeat (first | exact trivial | refine ⟨⟨_, rfl, BLe.rf⟩, ?_⟩)), (by repeat (first | exact trivial | refine ⟨⟨rfl, by first | (left; intro h; cases h) | (right; rfl), by first | exact (fun _ h => ⟨_, h⟩) | exact (fun _ _ => ⟨_, rfl⟩)⟩, ?_⟩)), rfl⟩ ?_
  refine AW_aggmax 0 1 rfl rfl (fun hm0_1 => ?_)
  refine AW_seq ?_
  refine AW_region ?_
  refine AL_p (x_box 100 rfl rfl rfl rfl rfl rfl rfl) ?_
  refine AL_p (x_alloc (z := .agg #[.int .i64 0, .slice none 0 0]) 101 rfl (by kernel_rfl) rfl rfl rfl rfl) ?_
  refine AL_nil ?_
  refine AW_seq ?_
  refine AW_region ?_
  refine AL_p (x_field (off := 0) (o' := 0) rfl rfl rfl (by kernel_rfl) rfl) ?_
  refine AL_p (x_load1 rfl rfl rfl (by kernel_rfl) rfl) ?_
  refine AL_p (x_build (zs := [.int .i64 0, .slice none 0 0]) (places := [(0, 1), (1, 1)]) rfl (by kernel_rfl) rfl rfl rfl rfl rfl) ?_
  refine AL_p (x_alloc (z := .agg #[.int .i64 0, .slice none 0 0]) 102 rfl (by kernel_rfl) rfl rfl rfl rfl) ?_
  refine AL_p (x_store (n := 2) rfl rfl rfl rfl (by kernel_rfl) rfl rfl rfl) ?_
  refine AL_nil ?_
  refine AW_seq ?_
  refine AW_seq ?_
  refine AW_region ?_
  refine AL_p (x_field (off := 1) (o' := 1) rfl rfl rfl (by kernel_rfl) rfl) ?_
  refine AL_p (x_load1 rfl rfl rfl (by kernel_rfl) rfl) ?_
  refine AL_p (x_len (E := 74) (n := 6) rfl rfl (by kernel_rfl)) ?_
  refine AL_p (x_move rfl rfl) ?_
  refine AL_nil ?_
  refine AW_block ?_
  refine AW_adopt (T := 74) (e := entryE) 103 102 1 rfl rfl rfl rfl rfl ?_
  refine AW_loop2 (ι := {q : Nat // q ≤ t.entries.length}) (fun p => [(12, .one (.c (.int .i64 ((p.1) : Int))))]) (fun p => [(103, some (.arr 74 entryE (t.entries.take (p.1)) true))]) [2, 3, 10, 11] [100, 101, 102] (fun p => t.entries.length - (p.1)) ⟨0, by omega⟩ (rn []) ?_ ?_
  exact ⟨by (repeat refine ⟨⟨_, rfl, by first | exact VLe.rf | exact vle_int (by dsimp only; omega)⟩, ?_⟩); exact trivial, by (repeat refine ⟨⟨_, rfl, by first | exact BLe.rf | exact BLe.box AllC.rf | exact BLe.arr (by first | exact take_none | exact take_more (by omega))⟩, ?_⟩); exact trivial, by repeat (first | exact trivial | refine ⟨⟨rfl, by first | (left; intro h; cases h) | (right; rfl), by first | exact (fun _ h => ⟨_, h⟩) | exact (fun _ _ => ⟨_, rfl⟩)⟩, ?_⟩), rfl⟩
  rintro ⟨k, hinv⟩
  dsimp only
  have hl := ht.1
  refine AW_seq ?_
  refine AW_region ?_
  refine AL_b (x_lss rfl rfl rfl) (fun b13 h13 => ?_)
  refine AL_nil ?_
  refine AW_seq ?_
  cases b13
  · try simp only [tdy] at h13
    refine AW_condF rfl ?_
    refine AW_exit (BQ_hit ?_)
    refine AW_seq ?_
    refine AW_region ?_
    refine AL_p (x_loadN (n := 2) rfl rfl rfl (by kernel_rfl) rfl rfl) ?_
    refine AL_p (x_store (n := 2) rfl rfl rfl rfl (by kernel_rfl) rfl rfl rfl) ?_
    refine AL_nil ?_
    refine AW_ret ?_
    exact ⟨rn [(9, 101), (0, 103)], ⟨⟨⟨_, rfl, VLe.rf⟩, trivial⟩, ⟨⟨_, rfl, by first | exact BLe.rf | (subst_vars; exact BLe.rf)⟩, ⟨_, rfl, BLe.arr (List.take_of_length_le (by omega))⟩, trivial⟩, trivial, rfl⟩⟩
  try simp only [tdy] at h13
  refine AW_condT rfl ?_
  refine AW_skip ?_
  refine AW_seq ?_
  refine AW_block ?_
  refine AW_seq ?_
  refine AW_region ?_
  refine AL_p (x_index (E := 74) (n := 6) rfl rfl rfl (by kernel_rfl) rfl (k := k) (by omega) (by omega)) ?_
  refine AL_p (x_eloadW (n := 6) rfl rfl (by kernel_rfl) rfl) ?_
  refine AL_p (x_alloc (z := .agg #[.int .i64 0, .int .i64 0, .slice none 0 0, .slice none 0 0, .slice none 0 0, .int .i64 0]) 104 rfl (by kernel_rfl) rfl rfl rfl rfl) ?_
  refine AL_p (x_store (n := 6) rfl rfl rfl rfl (by kernel_rfl) rfl rfl rfl) ?_
  refine AL_nil ?_
  refine AW_draw rfl ?_
  refine AL_p (x_field (off := 1) (o' := 1) rfl rfl rfl (by kernel_rfl) rfl) ?_
  refine AL_p (x_load1 rfl rfl rfl (by kernel_rfl) rfl) ?_
  refine AL_p (x_loadN (n := 6) rfl rfl rfl (by kernel_rfl) rfl rfl) ?_
  refine AL_p (x_callR rfl rfl rfl (AC.renum (res := .agg [.c (.int .i64 (t.entries[k]'(by omega)).epoch), .c (.int .i64 (t.entries[k]'(by omega)).prio), .own 105, .own 106, .own 107, .c (.int .i64 (t.entries[k]'(by omega)).hits)]) (L := [(105, some (.arr 3 (intE .i64) (t.entries[k]'(by omega)).mat.v true)), (106, some (.arr 3 (intE .i64) (t.entries[k]'(by omega)).mat.m true)), (107, some (.arr 114 actE (t.entries[k]'(by omega)).acts true))]) (r := rn [(105, 0), (106, 1), (107, 2)]) (copyEntI_c (t.entries[k]'(by omega)) (ht.2 _ (List.getElem_mem _))) ⟨⟨_, rfl, BLe.rf⟩, ⟨_, rfl, BLe.rf⟩, ⟨_, rfl, BLe.rf⟩, trivial⟩ rfl) rfl AllV.rf rfl rfl rfl rfl rfl) ?_
  refine AL_p (y_bslice (E := 74) (e := entryE) [.tmp 19] ([(t.entries[k]'(by omega))]) 108 rfl rfl rfl rfl rfl rfl rfl rfl FitL.rf rfl rfl rfl rfl rfl rfl (by kernel_rfl)) ?_
  refine AL_p (y_append 109 rfl rfl rfl rfl rfl rfl rfl rfl (by kernel_rfl) (by simp only [List.length_take, List.length_cons, List.length_nil]; omega)) ?_
  refine AL_p (x_field (off := 1) (o' := 1) rfl rfl rfl (by kernel_rfl) rfl) ?_
  refine AL_p (x_store (n := 1) rfl rfl rfl rfl (by kernel_rfl) rfl rfl rfl) ?_
  refine AL_nild (by kernel_rfl) ?_
  refine AW_region ?_
  refine AL_p (x_add rfl rfl rfl (IntWalk.i64_in _ (by omega))) ?_
  refine AL_p (x_move rfl rfl) ?_
  refine AL_nil ?_
  refine ⟨⟨k + 1, by omega⟩, rn [(103, 109)], ?_, by dsimp only; omega⟩
  exact ⟨by (repeat refine ⟨⟨_, rfl, by first | exact VLe.rf | exact vle_int (by dsimp only; omega)⟩, ?_⟩); exact trivial, by (repeat refine ⟨⟨_, rfl, by first | exact BLe.rf | exact BLe.box AllC.rf | exact BLe.arr (by first | exact take_none | exact take_more (by omega))⟩, ?_⟩); exact trivial, by repeat (first | exact trivial | refine ⟨⟨rfl, by first | (left; intro h; cases h) | (right; rfl), by first | exact (fun _ h => ⟨_, h⟩) | exact (fun _ _ => ⟨_, rfl⟩)⟩, ?_⟩), rfl⟩
theorem copyTabI_c (t : Tablet) (ht : smallTable t) (k : Nat) : AC Try.prog 94 [.agg (tableC t)] [] (.agg [.c (.int .i64 t.cap), .own k]) [(k, some (.arr 74 entryE t.entries true))] := AC.at (copyTabI_c0 t ht) k

set_option maxHeartbeats 4000000 in
theorem copyTabS_c0 (t : Tablet) (ht : smallTable t) : AC Try.prog 89 [.agg (tableC t)] [] (.agg [.c (.int .i64 t.cap), .own 0]) [(0, some (.arr 74 entryE t.entries true))] := by
  refine AC_bodyC (n := 2) (k := 9) (T := [(2, .one (.ptr 9 0))]) (Lf := ((9, some (.box [.c (.int .i64 t.cap), .own 0])) :: [(0, some (.arr 74 entryE t.entries true))])) Try.func89 rfl rfl Try.ntmps89 rfl Try.results89 rfl rfl (by kernel_rfl) rfl rfl ⟨trivial, (by repeat (first | exact trivial | refine ⟨⟨_, rfl, BLe.rf⟩, ?_⟩)), (by repeat (first | exact trivial | refine ⟨⟨rfl, by first | (left; intro h; cases h) | (right; rfl), by first | exact (fun _ h => ⟨_, h⟩) | exact (fun _ _ => ⟨_, rfl⟩)⟩, ?_⟩)), rfl⟩ ?_
  refine AW_aggmax 0 1 rfl rfl (fun hm0_1 => ?_)
  refine AW_seq ?_
  refine AW_region ?_
  refine AL_p (x_box 100 rfl rfl rfl rfl rfl rfl rfl) ?_
  refine AL_p (x_alloc (z := .agg #[.int .i64 0, .slice none 0 0]) 101 rfl (by kernel_rfl) rfl rfl rfl rfl) ?_
  refine AL_nil ?_
  refine AW_seq ?_
  refine AW_region ?_
  refine AL_p (x_field (off := 0) (o' := 0) rfl rfl rfl (by kernel_rfl) rfl) ?_
  refine AL_p (x_load1 rfl rfl rfl (by kernel_rfl) rfl) ?_
  refine AL_p (y_bslice0 (E := 74) (e := entryE) 102 rfl rfl rfl (by kernel_rfl)) ?_
  refine AL_p (x_build (zs := [.int .i64 0, .slice none 0 0]) (places := [(0, 1), (1, 1)]) rfl (by kernel_rfl) rfl rfl rfl rfl rfl) ?_
  refine AL_p (x_alloc (z := .agg #[.int .i64 0, .slice none 0 0]) 103 rfl (by kernel_rfl) rfl rfl rfl rfl) ?_
  refine AL_p (x_store (n := 2) rfl rfl rfl rfl (by kernel_rfl) rfl rfl rfl) ?_
  refine AL_nil ?_
  refine AW_seq ?_
  refine AW_seq ?_
  refine AW_region ?_
  refine AL_p (x_field (off := 1) (o' := 1) rfl rfl rfl (by kernel_rfl) rfl) ?_
  refine AL_p (x_load1 rfl rfl rfl (by kernel_rfl) rfl) ?_
  refine AL_p (x_len (E := 74) (n := 6) rfl rfl (by kernel_rfl)) ?_
  refine AL_p (x_move rfl rfl) ?_
  refine AL_nil ?_
  refine AW_block ?_
  refine AW_loop2 (ι := {q : Nat // q ≤ t.entries.length}) (fun p => [(12, .one (.c (.int .i64 ((p.1) : Int))))]) (fun p => [(102, some (.arr 74 entryE (t.entries.take (p.1)) true))]) [1, 2, 3, 11] [100, 101, 103] (fun p => t.entries.length - (p.1)) ⟨0, by omega⟩ (rn []) ?_ ?_
  exact ⟨by (repeat refine ⟨⟨_, rfl, by first | exact VLe.rf | exact vle_int (by dsimp only; omega)⟩, ?_⟩); exact trivial, by (repeat refine ⟨⟨_, rfl, by first | exact BLe.rf | exact BLe.box AllC.rf | exact BLe.arr (by first | exact take_none | exact take_more (by omega))⟩, ?_⟩); exact trivial, by repeat (first | exact trivial | refine ⟨⟨rfl, by first | (left; intro h; cases h) | (right; rfl), by first | exact (fun _ h => ⟨_, h⟩) | exact (fun _ _ => ⟨_, rfl⟩)⟩, ?_⟩), rfl⟩
  rintro ⟨k, hinv⟩
  dsimp only
  have hl := ht.1
  refine AW_seq ?_
  refine AW_region ?_
  refine AL_b (x_lss rfl rfl rfl) (fun b13 h13 => ?_)
  refine AL_nil ?_
  refine AW_seq ?_
  cases b13
  · try simp only [tdy] at h13
    refine AW_condF rfl ?_
    refine AW_exit (BQ_hit ?_)
    refine AW_seq ?_
    refine AW_region ?_
    refine AL_p (x_loadN (n := 2) rfl rfl rfl (by kernel_rfl) rfl rfl) ?_
    refine AL_p (x_store (n := 2) rfl rfl rfl rfl (by kernel_rfl) rfl rfl rfl) ?_
    refine AL_nil ?_
    refine AW_ret ?_
    exact ⟨rn [(9, 101), (0, 102)], ⟨⟨⟨_, rfl, VLe.rf⟩, trivial⟩, ⟨⟨_, rfl, by first | exact BLe.rf | (subst_vars; exact BLe.rf)⟩, ⟨_, rfl, BLe.arr (List.take_of_length_le (by omega))⟩, trivial⟩, trivial, rfl⟩⟩
  try simp only [tdy] at h13
  refine AW_condT rfl ?_
  refine AW_skip ?_
  refine AW_seq ?_
  refine AW_block ?_
  refine AW_seq ?_
  refine AW_region ?_
  refine AL_p (x_move rfl rfl) ?_
  refine AL_p (x_assign rfl rfl) ?_
  refine AL_nil ?_
  refine AW_draw rfl ?_
  refine AL_p (x_field (off := 1) (o' := 1) rfl rfl rfl (by kernel_rfl) rfl) ?_
  refine AL_p (x_load1 rfl rfl rfl (by kernel_rfl) rfl) ?_
  refine AL_p (x_field (off := 1) (o' := 1) rfl rfl rfl (by kernel_rfl) rfl) ?_
  refine AL_p (x_load1 rfl rfl rfl (by kernel_rfl) rfl) ?_
  refine AL_p (x_move rfl rfl) ?_
  refine AL_p (x_index (E := 74) (n := 6) rfl rfl rfl (by kernel_rfl) rfl (k := k) (by omega) (by omega)) ?_
  refine AL_p (x_eloadW (n := 6) rfl rfl (by kernel_rfl) rfl) ?_
  refine AL_p (x_callR rfl rfl rfl (AC.renum (res := .agg [.c (.int .i64 (t.entries[k]'(by omega)).epoch), .c (.int .i64 (t.entries[k]'(by omega)).prio), .own 104, .own 105, .own 106, .c (.int .i64 (t.entries[k]'(by omega)).hits)]) (L := [(104, some (.arr 3 (intE .i64) (t.entries[k]'(by omega)).mat.v true)), (105, some (.arr 3 (intE .i64) (t.entries[k]'(by omega)).mat.m true)), (106, some (.arr 114 actE (t.entries[k]'(by omega)).acts true))]) (r := rn [(104, 0), (105, 1), (106, 2)]) (copyEntS_c (t.entries[k]'(by omega)) (ht.2 _ (List.getElem_mem _))) ⟨⟨_, rfl, BLe.rf⟩, ⟨_, rfl, BLe.rf⟩, ⟨_, rfl, BLe.rf⟩, trivial⟩ rfl) rfl AllV.rf rfl rfl rfl rfl rfl) ?_
  refine AL_p (y_bslice (E := 74) (e := entryE) [.tmp 22] ([(t.entries[k]'(by omega))]) 107 rfl rfl rfl rfl rfl rfl rfl rfl FitL.rf rfl rfl rfl rfl rfl rfl (by kernel_rfl)) ?_
  refine AL_p (y_append 108 rfl rfl rfl rfl rfl rfl rfl rfl (by kernel_rfl) (by simp only [List.length_take, List.length_cons, List.length_nil]; omega)) ?_
  refine AL_p (x_field (off := 1) (o' := 1) rfl rfl rfl (by kernel_rfl) rfl) ?_
  refine AL_p (x_store (n := 1) rfl rfl rfl rfl (by kernel_rfl) rfl rfl rfl) ?_
  refine AL_nild (by kernel_rfl) ?_
  refine AW_region ?_
  refine AL_p (x_add rfl rfl rfl (IntWalk.i64_in _ (by omega))) ?_
  refine AL_p (x_move rfl rfl) ?_
  refine AL_nil ?_
  refine ⟨⟨k + 1, by omega⟩, rn [(102, 108)], ?_, by dsimp only; omega⟩
  exact ⟨by (repeat refine ⟨⟨_, rfl, by first | exact VLe.rf | exact vle_int (by dsimp only; omega)⟩, ?_⟩); exact trivial, by (repeat refine ⟨⟨_, rfl, by first | exact BLe.rf | exact BLe.box AllC.rf | exact BLe.arr (by first | exact take_none | exact take_more (by omega))⟩, ?_⟩); exact trivial, by repeat (first | exact trivial | refine ⟨⟨rfl, by first | (left; intro h; cases h) | (right; rfl), by first | exact (fun _ h => ⟨_, h⟩) | exact (fun _ _ => ⟨_, rfl⟩)⟩, ?_⟩), rfl⟩
theorem copyTabS_c (t : Tablet) (ht : smallTable t) (k : Nat) : AC Try.prog 89 [.agg (tableC t)] [] (.agg [.c (.int .i64 t.cap), .own k]) [(k, some (.arr 74 entryE t.entries true))] := AC.at (copyTabS_c0 t ht) k
end Go.Proofs.Ytfdpigafekohgaa

/- A contract that takes arrays and leaves others, under other numbers. -/
namespace Go.Proofs.Ytfdpigafekohgaa
open Go.RowKit
set_option linter.unusedVariables false

theorem all2_unren {r : Nat → Nat} {l L : Locs} {g : Gh} {w : World} (hL : LeL r l L) : ∀ {vs : List Value} {xs : List AVal}, All2 (VR1 g l w) vs (xs.map (AVal.ren1 r)) → All2 (VR1 (g.ren r) L w) vs xs
  | [], [], _ => trivial
  | v :: vs, x :: xs, h => ⟨VR1.unren hL h.1, all2_unren hL h.2⟩
  | [], _ :: _, h => by cases h
  | _ :: _, [], h => by cases h
/-- A contract that takes the blocks L: what becomes of them is not told. -/
structure AT (P : Program) (f : FuncId) (args : List AVal) (L : Locs) (res : AVal) (L' : Locs) : Prop where
  fn : Callable P f
  run : ∀ (g : Gh) (w : World) (cargs : Array Value), MemR g L w → All2 (VR1 g L w) cargs.toList args →
    Calls P f cargs w fun e w' => ∃ v g', e = .returned v ∧ MemR g' L' w' ∧ VR g' L' w' v res ∧ Step [] g L w g' L' w'
section body
variable {P : Program} {N : Nat} {f : FuncId} {fn : Func} {c : Code} {args : List AVal} {L L' : Locs}
end body
/-- The lent blocks l are all gone behind the call. -/
theorem AT.lend {P : Program} {f : FuncId} {args : List AVal} {L L' l l' : Locs} {res' : AVal} (r s : Nat → Nat) (h : AT P f args L (res'.ren s) L') (hL : LeL r l L) (hi : injL r (keys L) = true) (hL' : LeL s L' l') (hi' : injL s (keys l') = true)
    (hg : ∀ k ∈ keys l, lk l' k = some none) (hb : ∀ k cs, lkl l k ≠ some (.box cs)) : AC P f (args.map (AVal.ren1 r)) l res' l' :=
  ⟨h.fn, fun g w cargs m ha => (h.run (g.ren r) w cargs (m.unren hL hi) (all2_unren hL ha)).mono (by
    rintro e w' ⟨v, g1, rfl, m1, hv, hs⟩
    have m0 := m.unren hL hi
    have A : Step [] g l w (g.ren r) L w := Step.unren hL trivial
    have B : Step [] (g.ren r) L w g1 L' w' := hs
    have C : Step [] g1 L' w' (g1.ren s) l' w' := Step.unren hL' trivial
    have T := (A.trans m m0 B).trans m m1 C
    refine ⟨v, g1.ren s, rfl, m1.unren hL' hi', VR.unren hL' hv, { T with base := fun k hk hn => ?_ }⟩
    have h1 := hg k hk
    have h2 : lkl l' k = none := by unfold lkl; rw [h1]
    exact ⟨by rw [h1]; simp, okK.gone h2, fun cs hc => absurd hc (hb k cs)⟩)⟩
end Go.Proofs.Ytfdpigafekohgaa

/- Texts and bytes in the abstract walk: the bytes of a text, appended. -/
namespace Go.Proofs.Ytfdpigafekohgaa
open Go.RowKit
set_option linter.unusedVariables false

theorem u8_fine (b : UInt8) : (Lit.int .u8 (b.toNat : Int)).wf = true := by
  have := b.toNat_lt
  simp only [Lit.wf, Bool.and_eq_true, decide_eq_true_eq]
  have h1 : IntKind.u8.min = 0 := rfl
  have h2 : IntKind.u8.max = 255 := rfl
  rw [h1, h2]; omega
theorem FR.bytes {w : World} : ∀ (l : List UInt8), FR w (l.map fun b => Value.int .u8 b.toNat) ((l.map fun b => (b.toNat : Int)).flatMap fun n => [Cell.c (.int .u8 n)]) []
  | [] => rfl
  | b :: l => ⟨[], [], rfl, ⟨rfl, u8_fine b, rfl⟩, FR.bytes l⟩
section ops
variable {P : Program} {N : Nat} {s : St} {d : Nat} {ty : TypeId} {pos : String} {after : Array Edge} {gd : Option (Nat × Bool)}
end ops
end Go.Proofs.Ytfdpigafekohgaa

/- Parts of slices and of texts; texts made of bytes; own arrays that are given up to be read alone. -/
namespace Go.Proofs.Ytfdpigafekohgaa
open Go.RowKit
set_option linter.unusedVariables false

/-- A bound of a part: an operand, or the usual one. -/
inductive OB (t : Tmps) (dv : Nat) : Option Operand → List (Nat × AVal) → Nat → Prop
  | no : OB t dv none [] dv
  | yes {o : Operand} {k : IntKind} {v : Int} {l : Nat} (h : evo t o = some (.one (.c (.int k v)))) (hv : v = (l : Int)) : OB t dv (some o) (rdo o (.one (.c (.int k v)))) l
section ops
variable {P : Program} {N : Nat} {s : St} {d : Nat} {ty : TypeId} {pos : String} {after : Array Edge} {gd : Option (Nat × Bool)}
end ops
/-! ### An own array is given up: nobody writes it any more -/
theorem box_re2 {g : Gh} {l : Locs} {w : World} (m : MemR g l w) {b : Nat} {cs cs' : List Cell} (hb : lkl l b = some (.box cs)) (h : ∀ (vs : Array Value) (t : TypeId), w.heap[g.ρ b]? = some (.cells vs t (0, 0)) → All2 (CellR g l w) vs.toList cs → All2 (CellR g l w) vs.toList cs') :
    MemR g ((b, some (.box cs')) :: l) w ∧ (∀ K, Step K g l w g ((b, some (.box cs')) :: l) w) ∧ ∀ j, okK g l g ((b, some (.box cs')) :: l) j := by
  obtain ⟨vs, t, h1, h2, h3⟩ := m.box b cs hb
  have h4 := box_set m hb (vs := vs.toList) (vs' := vs.toList) (T := t) (by simpa using h1) (h _ _ h1 h2)
  have e : w.setRow (g.ρ b) vs.toList.toArray = w := by
    simp only [Array.toArray_toList]
    have hh : (w.setRow (g.ρ b) vs).heap = w.heap := Array.ext_getElem? fun i => by
      by_cases hi : i = g.ρ b
      · subst hi; rw [setRow_heap w _ _ _ t _ h1, h1]
      · exact setRow_other w _ i _ hi
    have h5 : w.setRow (g.ρ b) vs = { w with heap := (w.setRow (g.ρ b) vs).heap } := rfl
    rw [h5, hh]
  rw [e] at h4
  exact ⟨h4.1, h4.2.1, h4.2.2.2⟩
def Gh.shut (g : Gh) (k : Nat) : Gh := { g with I := fun b => g.I b ∨ (g.hd k ≠ .slice none 0 0 ∧ b = g.ρ k) }
section shut
variable {g : Gh} {l : Locs} {w : World}
theorem shut_mem (m : MemR g l w) {k : Nat} {α : Type} {T : TypeId} {e : Enc α} {xs : List α} {dp : Bool} (hk : lkl l k = some (.arr T e xs dp)) :
    MemR (g.shut k) ((k, none) :: l) w ∧ (∀ K, Step K g l w (g.shut k) ((k, none) :: l) w) ∧ CellR (g.shut k) ((k, none) :: l) w (g.hd k) (.sl e xs) ∧ ∀ j, okK g l (g.shut k) ((k, none) :: l) j := by
  have live : g.hd k ≠ .slice none 0 0 → liv g k (.arr T e xs dp) := fun h => h
  have hlt : ∀ b, (g.shut k).I b → b < w.heap.size := fun b hb => hb.elim (m.ilt b) fun h => by rw [h.2]; exact m.lt hk (live h.1)
  have hu : ∀ j, j ≠ k → lkl ((k, none) :: l) j = none ∨ Untouched g l w (g.shut k) ((k, none) :: l) w j := fun j hj =>
    .inr ⟨lkl_cons_ne (Ne.symm hj), rfl, rfl, rfl, fun b hb hl => ⟨rfl, fun h => h.elim (m.notI hb hl) fun h => m.dis j k b _ hj hb hk hl (live h.1) h.2⟩⟩
  have ok : ∀ j, okK g l (g.shut k) ((k, none) :: l) j := fun j => by
    by_cases e : j = k
    · subst e; exact okK.gone lkl_cons_self
    · exact okK.same (lkl_cons_ne (Ne.symm e)) rfl rfl
  have no : ∀ {b : Blk}, lkl ((k, none) :: l) k = some b → False := fun h => by rw [lkl_cons_self] at h; cases h
  refine ⟨m.set1 k (fun _ _ => rfl) (fun _ h => .inl h) (Nat.le_refl _) hlt hu (.inl (ok k)) (fun cs h => (no h).elim) (fun α T e xs d h => (no h).elim) (fun j b b' _ _ _ h => (no h).elim) (fun α T e xs h => (no h).elim) (fun j α β T U e f xs ys _ _ _ h => (no h).elim), fun K => ?_, ?_, ok⟩
  · refine ⟨rfl, rfl, rfl, Nat.le_refl _, fun _ _ _ => rfl, fun _ h => .inl h, fun b h => h.elim .inl fun h => .inr (.inr ⟨k, _, hk, .inl ⟨live h.1, h.2⟩⟩), own_set1 k hu (fun b h => (no h).elim) (fun α T e xs h => (no h).elim), fun j hj hn => ?_⟩
    refine ⟨?_, ok j, fun cs hc => ?_⟩
    · by_cases e : k = j
      · subst e; rw [lk_cons_self]; simp
      · rw [lk_cons_ne e]; exact hn
    · by_cases e : k = j
      · subst e; rw [hk] at hc; cases hc
      · exact ⟨cs, by rw [lkl_cons_ne e]; exact hc⟩
  · obtain ⟨a, n, cap, bs, h1, h2, h3, _⟩ := (m.arr k _ _ _ _ _ hk).slice
    exact ⟨a, n, cap, bs, h1, h2, fun b hb => h3 b hb⟩
variable {P : Program} {N : Nat} {K : List Nat} {Kn : St → Prop} {Q : Exit → St → Prop} {s : St}
/-- .. where it lies in a variable. -/
theorem AW_shutB {α : Type} {T : TypeId} {e : Enc α} {xs : List α} {dp : Bool} {c : Code} (k b off : Nat) {cs cs' : List Cell} (hb : lkl s.l b = some (.box cs)) (hc : nthC cs off = some (.own k)) (hcs : cs.set off (.sl e xs) = cs') (hk : lkl s.l k = some (.arr T e xs dp))
    (h : AW P N K c Kn Q ⟨s.t, (b, some (.box cs')) :: (k, none) :: s.l⟩) : AW P N K c Kn Q s := fun g a w r => by
  obtain ⟨m1, st1, c1, ok1⟩ := shut_mem r.mem hk
  have hkb : k ≠ b := fun e => by subst e; rw [hb] at hk; cases hk
  have hb' : lkl ((k, none) :: s.l) b = some (.box cs) := by rw [lkl_cons_ne hkb]; exact hb
  obtain ⟨m2, st2, ok2⟩ := box_re2 m1 hb' (cs' := cs') (fun vs ty hh hv => by
    obtain ⟨vs0, t0, z1, z2, z3⟩ := r.mem.box b cs hb
    have e0 : vs0 = vs := by
      have hh' : w.heap[g.ρ b]? = some (.cells vs ty (0, 0)) := hh
      rw [z1] at hh'; cases hh'; rfl
    subst e0
    obtain ⟨v, h1, h2⟩ := z2.get (nthC_get hc)
    have hvk : v = g.hd k := h2 _ _ _ _ _ hk
    have h3 := hv.set (i := off) (v := v) (x := .sl e xs) (hvk ▸ c1)
    rw [hcs] at h3
    have h4 : vs0.toList.set off v = vs0.toList := by
      obtain ⟨hl, rfl⟩ := List.getElem?_eq_some_iff.1 h1
      exact List.set_getElem_self hl
    rwa [h4] at h3)
  have r2 := r.next0 (g' := g.shut k) (l' := (b, some (.box cs')) :: (k, none) :: s.l) (w' := w) (fun _ _ => rfl) (fun _ h => .inl h) (Nat.le_refl _) (fun j hj => (ok1 j).trans (ok2 j)) m2
  exact Go.wp_mono (h _ a w r2) fun e a1 w1 h1 => h1.trans r.mem m2 ((st1 K).trans r.mem m1 (st2 K))
end shut
end Go.Proofs.Ytfdpigafekohgaa

/- Elements ars the cells that hold them: what a function that moves elements about does with an array of one's own, footprint and all. -/
namespace Go.Proofs.Ytfdpigafekohgaa
open Go.RowKit
set_option linter.unusedVariables false

/-- A datum, the cells that hold it, and its footprint. -/
structure Raw (α : Type) where
  x : α
  vs : List Value
  b : List Nat
theorem CLe.rx {α : Type} {e : Enc α} {f : α → List Cell} [hc : CellsOf e f] {x : α} {vs : List Value} {b : List Nat} {j : Nat} {y : Cell} (h : nthC (f x) j = some y) : CLe (.rx e x vs b j) y := fun g l w v h1 => by
  obtain ⟨v', h2, h3⟩ := ((hc.iff.1 h1.2.1).all2 h1.2.2).get (nthC_get h)
  have h4 := h1.1.1
  rw [h4] at h2; cases h2
  exact h3
end Go.Proofs.Ytfdpigafekohgaa

/- Contracts told of the cells of a row, ars contracts of arrays of one's own. -/
namespace Go.Proofs.Ytfdpigafekohgaa
open Go.RowKit
set_option linter.unusedVariables false

section
variable {g : Gh} {l : Locs} {w w' : World}
/-- A row of one's own made anew out of others, ars it is seen from numbers. -/
theorem row_lay (m : MemR g l w) {k k' : Nat} (hk' : lk l k' = none) (hki : k' ∉ l.ids) {js : List Nat} (hkj : k ∈ js) (hjs : ∀ j ∈ js, ∃ (α : Type) (T : TypeId) (e : Enc α) (xs : List α) (d : Bool), lkl l j = some (.arr T e xs d))
    {α : Type} {E : TypeId} {e : Enc α} {f : α → List Cell} [hc : CellsOf e f] {zs : List α} {d : Bool} {cells : List Value} {b3 : List Nat} {v' : Value}
    (hF : FR w cells (zs.flatMap f) b3) (hI : ∀ b ∈ b3, g.I b) (hob : ∀ b, (g.hd k).ownBlock = some b → b = g.ρ k)
    (hrow : w'.ownsRow 0 E e.size v' zs.length cells) (hgr : w.grownBy w' (g.hd k).ownBlock) (hblk : ∀ b, v'.ownBlock = some b → (g.hd k).ownBlock = some b ∨ w.heap.size ≤ b)
    (hd : d = true → b3.Nodup ∧ ∀ b ∈ b3, ∃ j ∈ js, Via g l j b) :
    ∃ g', g'.hd k' = v' ∧ MemR g' ((k', some (.arr E e zs d)) :: (gones js ++ l)) w' ∧ (∀ K, Step K g l w g' ((k', some (.arr E e zs d)) :: (gones js ++ l)) w') := by
  obtain ⟨α0, T0, e0, xs0, d0, hk0⟩ := hjs k hkj
  have hlive : ∀ b, (g.hd k).ownBlock = some b → g.hd k ≠ .slice none 0 0 := fun b hb e => by rw [e] at hb; cases hb
  have hnI : ∀ b, (g.hd k).ownBlock = some b → ¬ g.I b := fun b hb => by rw [hob b hb]; exact m.notI hk0 (hlive b hb)
  have hkeepI : ∀ b, g.I b → w'.heap[b]? = w.heap[b]? := fun b hb => hgr.block b (m.ilt b hb) fun e => hnI b e.symm hb
  have hFR := hF.keep (w' := w') (fun b hb => hkeepI b (hI b hb)) hgr.size
  have hIb : ∀ b, v'.ownBlock = some b → ¬ (g.I b ∨ liveA g [] b) := fun b hb h => by
    rcases h with h | ⟨j, hj, _⟩
    · rcases hblk b hb with h1 | h1
      · exact hnI b h1 h
      · have := m.ilt b h; omega
    · cases hj
  obtain ⟨g', q1, q2, q3, q4, q5, q6, q7⟩ := arr_new (w' := w') m hk' hki (js := js) (fz := []) (fun _ h => by cases h) hjs (T := E) (e := e) (xs := zs) (d := d) (blk := (v'.ownBlock).getD 0) (v := v') (fp := b3)
    hgr.os hgr.tape hgr.output hgr.size (fun b hb hn => hgr.block b hb fun e => hn k hkj (by simp) (hlive b e.symm) (hob b e.symm))
    (ArrR.lay hrow hFR (fun b hb => .inl (hI b hb)) (fun b hb => ⟨by rw [hb]; rfl, hIb b hb⟩))
    (fun hv => by
      rcases hrow.2 with ⟨h1, _⟩ | ⟨b, cap, cur, h1, _, h3, _⟩
      · exact absurd h1 hv
      · have hb : v'.ownBlock = some b := by rw [h1]; rfl
        rw [hb]
        refine ⟨(Array.getElem?_eq_some_iff.1 h3).1, ?_⟩
        rcases hblk b hb with h | h
        · exact .inr ⟨k, hkj, by simp, hlive b h, hob b h⟩
        · exact .inl h)
    (fun hdd => ⟨(hd hdd).1, fun b hb => ⟨.inl (hI b hb), by
      obtain ⟨j, hj, hv⟩ := (hd hdd).2 b hb
      obtain ⟨c, t, h⟩ := hv.cells m
      exact ⟨c, t, by rw [hkeepI b (hI b hb)]; exact h⟩, (hd hdd).2 b hb⟩⟩)
  exact ⟨g', q2, q3, q4⟩
end
/-- Only the last-made array is left. -/
theorem MemR.last {g : Gh} {l : Locs} {w : World} {k : Nat} {b : Blk} (m : MemR g ((k, some b) :: l) w) : MemR g [(k, some b)] w := by
  have hlk : ∀ j c, lkl [(k, some b)] j = some c → lkl ((k, some b) :: l) j = some c := fun j c hc => by
    by_cases h : k = j
    · subst h; rw [lkl_cons_self] at hc ⊢; exact hc
    · rw [lkl_cons_ne h] at hc; cases hc
  refine ⟨m.ilt, fun j cs hc => ?_, fun j β T e2 ys2 d hc => m.arr j _ _ _ _ _ (hlk _ _ hc), fun i j b1 b2 hij h1 h2 => m.dis i j _ _ hij (hlk _ _ h1) (hlk _ _ h2), fun j β T e2 ys2 hc => m.fr j _ _ _ _ (hlk _ _ hc), fun i j β γ T U e2 e3 y2 z2 hij h1 h2 => m.fd i j _ _ _ _ _ _ _ _ hij (hlk _ _ h1) (hlk _ _ h2)⟩
  obtain ⟨vs, t, h1, h2, h3⟩ := m.box j cs (hlk _ _ hc)
  refine ⟨vs, t, h1, h2.mono fun a c hcm hr => ?_, h3⟩
  exact CellR.step (fun _ _ => rfl) (fun _ h => h) (Nat.le_refl _) (fun i _ => ⟨fun cs' h => ⟨rfl, cs', hlk _ _ h⟩, fun β T e2 xs d h => ⟨β, T, e2, xs, d, hlk _ _ h, rfl, rfl, rfl⟩⟩) hr
theorem Step.last {g g' : Gh} {l0 l : Locs} {w w' : World} {k : Nat} {b : Blk} (h : Step [] g l0 w g' ((k, some b) :: l) w') : Step [] g l0 w g' [(k, some b)] w' :=
  ⟨h.os, h.tape, h.output, h.size, h.keep, h.imm, h.imm', (fun c hc => by
    obtain ⟨j, blk, h1, h2⟩ := hc
    refine h.own c ⟨j, blk, ?_, h2⟩
    by_cases e : k = j
    · subst e; rw [lkl_cons_self] at h1 ⊢; exact h1
    · rw [lkl_cons_ne e] at h1; exact absurd h1 (by simp [lkl, lk])), fun k hk => by cases hk⟩
/-- .. of two rows: the second lies apart. -/
theorem AT.row2 {P : Program} {fid : FuncId} {rest : List AVal} {α : Type} {e : Enc α} {f : α → List Cell} [hc : CellsOf e f] {E : TypeId} {xs zs ys : List α} {d : Bool} (hfn : Callable P fid)
    (h : ∀ (w : World) (v u : Value) (vs : List Value) (cells news : List Value) (bs b2 : List Nat), All2 (fun v x => x = AVal.one (.c v)) vs rest → w.ownsRow 0 E e.size v xs.length cells → w.ownsRow 0 E e.size u zs.length news → FR w cells (xs.flatMap f) bs → FR w news (zs.flatMap f) b2 → (∀ u ∈ cells ++ news, u.oneCell' = true) →
      (∀ b, u.ownBlock = some b → v.ownBlock ≠ some b) →
      Calls P fid ((v :: vs) ++ [u]).toArray w fun en w' => ∃ v' cells', en = .returned v' ∧ w'.ownsRow 0 E e.size v' ys.length cells' ∧ w.grownBy w' v.ownBlock ∧ (∀ b, v'.ownBlock = some b → v.ownBlock = some b ∨ w.heap.size ≤ b) ∧
        ∃ bs', FR w cells' (ys.flatMap f) bs' ∧ ((bs ++ b2).Nodup → bs'.Nodup) ∧ ∀ b ∈ bs', b ∈ bs ++ b2)
    (hrest : ∀ x ∈ rest, ∃ v, x = AVal.one (.c v)) :
    AT P fid ((.one (.own 0) :: rest) ++ [.one (.own 2)]) [(0, some (.arr E e xs d)), (2, some (.arr E e zs d))] (.one (.own 1)) [(1, some (.arr E e ys d))] := by
  refine ⟨hfn, fun g w cargs m ha => ?_⟩
  have hk : lkl [(0, some (Blk.arr E e xs d)), (2, some (Blk.arr E e zs d))] 0 = some (.arr E e xs d) := rfl
  have hk2 : lkl [(0, some (Blk.arr E e xs d)), (2, some (Blk.arr E e zs d))] 2 = some (.arr E e zs d) := rfl
  obtain ⟨cells, bs, r1, f1, i1, F1, ob1⟩ := (m.arr 0 _ _ _ _ _ hk).row
  obtain ⟨news, b2, r2, f2, i2, F2, ob2⟩ := (m.arr 2 _ _ _ _ _ hk2).row
  have : ∃ v vs u, cargs = ((v :: vs) ++ [u]).toArray ∧ All2 (VR1 g [(0, some (Blk.arr E e xs d)), (2, some (Blk.arr E e zs d))] w) vs rest ∧ v = g.hd 0 ∧ u = g.hd 2 := by
    obtain ⟨l1, l2, h1, h2, h3⟩ := All2.split ha
    cases l1 with
    | nil => exact h2.elim
    | cons v vs =>
      cases l2 with
      | nil => exact h3.elim
      | cons u us =>
        cases us with
        | cons _ _ => exact h3.2.elim
        | nil => exact ⟨v, vs, u, by have q := congrArg List.toArray h1; simpa using q, h2.2, h2.1 _ _ _ _ _ hk, h3.1 _ _ _ _ _ hk2⟩
  obtain ⟨v, vs, u, rfl, ha2, rfl, rfl⟩ := this
  have hvs : All2 (fun v x => x = AVal.one (.c v)) vs rest := ha2.mono fun a x hx hr => by
    obtain ⟨y, rfl⟩ := hrest x hx
    have := (hr : CellR g _ w a (.c y)).1
    rw [this]
  have hlive : ∀ k b, (g.hd k).ownBlock = some b → g.hd k ≠ .slice none 0 0 := fun k b hb e => by rw [e] at hb; cases hb
  refine (h w _ _ vs cells news bs b2 hvs r1 r2 f1 f2 (fun u hu => (List.mem_append.1 hu).elim (FR.one f1 u) (FR.one f2 u)) (fun b hb e0 => ?_)).mono ?_
  · have q1 := ob1 b e0
    have q2 := ob2 b hb
    exact m.dis 0 2 _ _ (by decide) hk hk2 (hlive 0 b e0) (hlive 2 b hb) (q1.symm.trans q2)
  · rintro en w' ⟨v', cells', rfl, t1, t2, t3, bs', t4, t5, t6⟩
    obtain ⟨g', s1, s2, s3⟩ := row_lay (w' := w') m (k := 0) (k' := 1) rfl (by simp [Locs.ids]) (js := [0, 2]) (by simp) (fun j hj => by
        simp at hj
        rcases hj with rfl | rfl
        · exact ⟨α, E, e, xs, d, hk⟩
        · exact ⟨α, E, e, zs, d, hk2⟩) (zs := ys) (d := d) t4 (fun b hb => (List.mem_append.1 (t6 b hb)).elim (i1 b) (i2 b)) ob1 t1 t2 t3 (fun hd => by
      subst hd
      have v1 : ∀ b ∈ bs, Via g _ 0 b := fun b hb => ⟨α, E, e, xs, hk, .inr (by rw [F1 rfl]; exact hb)⟩
      have v2 : ∀ b ∈ b2, Via g _ 2 b := fun b hb => ⟨α, E, e, zs, hk2, .inr (by rw [F2 rfl]; exact hb)⟩
      refine ⟨t5 (List.nodup_append.2 ⟨by rw [← F1 rfl]; exact (m.fr 0 _ _ _ _ hk).1, by rw [← F2 rfl]; exact (m.fr 2 _ _ _ _ hk2).1, fun x hx y hy exy => ?_⟩), fun b hb => ?_⟩
      · subst exy
        have := (v1 x hx).disj m (v2 x hy)
        cases this
      · rcases List.mem_append.1 (t6 b hb) with hb | hb
        · exact ⟨0, by simp, v1 b hb⟩
        · exact ⟨2, by simp, v2 b hb⟩)
    exact ⟨v', g', rfl, s2.last, fun β U e2 ys2 dd hcx => s1.symm, (s3 []).last⟩
/-- .. under numbers of the caller's. -/
theorem AT.lend2 {P : Program} {f : FuncId} {rest : List AVal} {α : Type} {T : TypeId} {e : Enc α} {xs zs ys : List α} {d : Bool}
    (h : AT P f ((.one (.own 0) :: rest) ++ [.one (.own 2)]) [(0, some (.arr T e xs d)), (2, some (.arr T e zs d))] (.one (.own 1)) [(1, some (.arr T e ys d))]) (a b c : Nat) (hac : Nat.beq a c = false) (hbc : Nat.beq b c = false) (hab : Nat.beq a b = false) (hrest : ∀ r, rest.map (AVal.ren1 r) = rest) :
    AC P f ((.one (.own a) :: rest) ++ [.one (.own b)]) [(a, some (.arr T e xs d)), (b, some (.arr T e zs d))] (.one (.own c)) [(a, none), (b, none), (c, some (.arr T e ys d))] := by
  have key : ∀ {p q : Nat}, Nat.beq p q = false → Nat.beq q p = false := fun {p q} h => by
    cases e : Nat.beq q p
    · rfl
    · have h1 := Nat.eq_of_beq_eq_true e
      subst h1
      rw [Nat.beq_refl] at h; cases h
  have hcc : Nat.beq c c = true := Nat.beq_refl c
  have haa : Nat.beq a a = true := Nat.beq_refl a
  have hca := key hac
  have hcb := key hbc
  have hba := key hab
  let r1 : Nat → Nat := fun k => bif Nat.beq k 0 then a else b
  let s1 : Nat → Nat := fun k => bif Nat.beq k c then 1 else bif Nat.beq k a then 0 else 2
  have z20 : Nat.beq 2 0 = false := rfl
  have z10 : Nat.beq 1 0 = false := rfl
  have z12 : Nat.beq 1 2 = false := rfl
  have sc : s1 c = 1 := by show (bif Nat.beq c c then 1 else _) = 1; rw [hcc]; rfl
  have sa : s1 a = 0 := by show (bif Nat.beq a c then 1 else bif Nat.beq a a then 0 else 2) = 0; rw [hac, haa]; rfl
  have sb : s1 b = 2 := by show (bif Nat.beq b c then 1 else bif Nat.beq b a then 0 else 2) = 2; rw [hbc, hba]; rfl
  have := AT.lend (P := P) (f := f) (args := (.one (.own 0) :: rest) ++ [.one (.own 2)]) (res' := .one (.own c)) (l := [(a, some (.arr T e xs d)), (b, some (.arr T e zs d))]) (l' := [(a, none), (b, none), (c, some (.arr T e ys d))]) r1 s1 (L := [(0, some (.arr T e xs d)), (2, some (.arr T e zs d))]) (L' := [(1, some (.arr T e ys d))])
    (by show AT P f _ _ (.one (.own (s1 c))) _; rw [sc]; exact h)
    ⟨⟨.arr T e xs d, by show lkl _ a = _; rw [lkl_cons_self], BLe.rf⟩, ⟨.arr T e zs d, by show lkl _ b = _; rw [lkl_cons_ne (fun q => by subst q; rw [haa] at hab; cases hab), lkl_cons_self], BLe.rf⟩, trivial⟩ (by simp [injL, keys, r1, hba, z20])
    ⟨⟨_, by rw [sc]; rfl, BLe.rf⟩, trivial⟩ (by
      simp [injL, keys, sa, sb, sc, z20, z10, z12]) (fun k hk => by
      simp [keys] at hk
      rcases hk with rfl | rfl
      · rw [lk_cons_self]
      · rw [lk_cons_ne (fun q => by subst q; rw [haa] at hab; cases hab), lk_cons_self]) (fun k cs hc => by
        by_cases q : a = k
        · subst q; rw [lkl_cons_self] at hc; cases hc
        · rw [lkl_cons_ne q] at hc
          by_cases q : b = k
          · subst q; rw [lkl_cons_self] at hc; cases hc
          · rw [lkl_cons_ne q] at hc; cases hc)
  rw [List.map_append, List.map_cons, hrest] at this
  exact this
/-! ### Elements of some cells, copied and cleared -/
theorem run_copy_rowK {P : Program} (w : World) (dT sT ty elem : TypeId) (k g o dLen dCap : Nat) (a : Addr) (sLen sCap : Nat) (cur : Array Value) (t : TypeId) (cs : List Value)
    (hu : P.underlying dT = some (.slice elem)) (hs : (P.info? elem).map (·.size) = some k)
    (hg : w.heap[g]? = some (.cells cur t (0, 0))) (hn : cs.length = Nat.min sLen dLen * k)
    (hsrc : ∀ j v, cs[j]? = some v → w.cell? (a.add j) = some v) (hfit : o + cs.length ≤ cur.size) (h1 : ∀ v ∈ cs, v.oneCell' = true) :
    (Builtin.copy_ #[dT, sT] ty #[.slice (some ⟨g, o, none⟩) dLen dCap, .slice (some a) sLen sCap]).run P w =
      .ok (goInt (Nat.min sLen dLen)) (w.setRow g (cur.toList.take o ++ cs ++ cur.toList.drop (o + cs.length)).toArray) := by
  have hl := run_loadCells_list (P := P) w a cs hsrc
  have hst := run_storeCells_at P g o t cs 0 cur w hg (by simpa using hfit) h1
  cases hq : P.info? elem with
  | none => simp [hq] at hs
  | some i =>
    have hi : i.size = k := by simpa [hq] using hs
    simp [Builtin.copy_, run_underlying hu, Builtin.lenOf, Builtin.firstCells, sizeOf, typeInfo, hq, hi, ← hn, hl, hst]
theorem insRow {A C N : List Value} {x y z : Nat} (hx : x ≤ C.length) (hy : y = x + N.length) (hz : z = C.length + N.length) (hA : A.take C.length = C) (hlen : z ≤ A.length) :
    ((A.take y ++ C.drop x ++ A.drop z).take x ++ N ++ (A.take y ++ C.drop x ++ A.drop z).drop (x + N.length)) = C.take x ++ N ++ C.drop x ++ A.drop z := by
  subst hy; subst hz
  have e1 : (A.take (x + N.length) ++ C.drop x ++ A.drop (C.length + N.length)).take x = C.take x := by
    have e0 : C.take x = A.take x := by
      conv => lhs; rw [← hA]
      rw [List.take_take, Nat.min_eq_left hx]
    rw [List.append_assoc, List.take_append_of_le_length (by simp; omega), List.take_take, Nat.min_eq_left (by omega), e0]
  have e2 : (A.take (x + N.length) ++ C.drop x ++ A.drop (C.length + N.length)).drop (x + N.length) = C.drop x ++ A.drop (C.length + N.length) := by
    rw [List.append_assoc, List.drop_left' (by simp; omega)]
  rw [e1, e2, List.append_assoc, List.append_assoc, List.append_assoc]
theorem FR.flatLen {α : Type} {e : Enc α} {f : α → List Cell} [hc : CellsOf e f] {w : World} : ∀ {xs : List α} {vs : List Value} {b : List Nat}, FR w vs (xs.flatMap f) b → vs.length = xs.length * e.size
  | [], [], b, h => by simp
  | [], _ :: _, b, h => h.elim
  | x :: xs, vs, b, h => by
    rw [List.flatMap_cons] at h
    obtain ⟨v1, v2, b1, b2, rfl, rfl, h1, h2⟩ := FR.app.1 h
    have l1 := e.len (hc.iff.2 h1)
    have l2 := FR.flatLen (e := e) h2
    rw [List.length_append, l1, l2, List.length_cons, Nat.add_mul]; omega
theorem FR.parts {α : Type} {e : Enc α} {f : α → List Cell} [hc : CellsOf e f] {w : World} {xs : List α} {cells : List Value} {bs : List Nat} (h : FR w cells (xs.flatMap f) bs) {i : Nat} (hi : i ≤ xs.length) :
    ∃ b1 b3, bs = b1 ++ b3 ∧ FR w (cells.take (i * e.size)) ((xs.take i).flatMap f) b1 ∧ FR w (cells.drop (i * e.size)) ((xs.drop i).flatMap f) b3 := by
  have e0 : xs.flatMap f = (xs.take i).flatMap f ++ (xs.drop i).flatMap f := by rw [← List.flatMap_append, List.take_append_drop]
  rw [e0] at h
  obtain ⟨v1, v2, b1, b3, rfl, rfl, h1, h2⟩ := FR.app.1 h
  have l1 := FR.flatLen (e := e) h1
  rw [List.length_take, Nat.min_eq_left hi] at l1
  exact ⟨b1, b3, rfl, by rw [List.take_left' l1]; exact h1, by rw [List.drop_left' l1]; exact h2⟩
theorem FR.ins {α : Type} {e : Enc α} {f : α → List Cell} [hc : CellsOf e f] {w : World} {xs zs : List α} {cells news : List Value} {bs b2 : List Nat} (h : FR w cells (xs.flatMap f) bs) (h2 : FR w news (zs.flatMap f) b2) {i : Nat} (hi : i ≤ xs.length) :
    ∃ bs', FR w (cells.take (i * e.size) ++ news ++ cells.drop (i * e.size)) ((xs.take i ++ zs ++ xs.drop i).flatMap f) bs' ∧ ((bs ++ b2).Nodup → bs'.Nodup) ∧ ∀ b ∈ bs', b ∈ bs ++ b2 := by
  obtain ⟨b1, b3, rfl, q1, q3⟩ := FR.parts (e := e) h hi
  refine ⟨b1 ++ b2 ++ b3, ?_, fun hn => ?_, fun b hb => ?_⟩
  · rw [List.flatMap_append, List.flatMap_append]
    exact FR.app.2 ⟨_, _, _, _, rfl, rfl, FR.app.2 ⟨_, _, _, _, rfl, rfl, q1, h2⟩, q3⟩
  · have hp : (b1 ++ b3 ++ b2).Perm (b1 ++ b2 ++ b3) := by
      rw [List.append_assoc, List.append_assoc]
      exact List.Perm.append_left b1 List.perm_append_comm
    exact hp.nodup_iff.1 hn
  · simp only [List.mem_append] at hb ⊢
    rcases hb with (hb | hb) | hb <;> simp [hb]
end Go.Proofs.Ytfdpigafekohgaa

/- Results that nobody writes any more; arrays whose elements are shared; appending and clearing in regions. -/
namespace Go.Proofs.Ytfdpigafekohgaa
open Go.RowKit
set_option linter.unusedVariables false

/-! ### An array's elements are no longer its own alone -/
section
variable {g : Gh} {l : Locs} {w : World}
theorem shallow_mem (m : MemR g l w) {k : Nat} {α : Type} {T : TypeId} {e : Enc α} {xs : List α} {dp : Bool} (hk : lkl l k = some (.arr T e xs dp)) :
    MemR g ((k, some (.arr T e xs false)) :: l) w ∧ (∀ K, Step K g l w g ((k, some (.arr T e xs false)) :: l) w) ∧ ∀ j, okK g l g ((k, some (.arr T e xs false)) :: l) j := by
  have ok : ∀ j, okK g l g ((k, some (.arr T e xs false)) :: l) j := fun j => by
    by_cases q : k = j
    · subst q
      exact ⟨fun cs h => (by rw [lkl_cons_self] at h; cases h), fun β U e2 ys d h => by rw [lkl_cons_self] at h; cases h; exact ⟨_, _, _, _, _, hk, rfl, rfl, rfl⟩⟩
    · exact okK.same (lkl_cons_ne q) rfl rfl
  have back : ∀ j b, lkl ((k, some (Blk.arr T e xs false)) :: l) j = some b → ∃ b', lkl l j = some b' ∧ (liv g j b ↔ liv g j b') ∧ (∀ (β : Type) (U : TypeId) (e2 : Enc β) (ys : List β), b = .arr U e2 ys true → b' = .arr U e2 ys true) := fun j b h => by
    by_cases q : k = j
    · subst q
      rw [lkl_cons_self] at h; cases h
      exact ⟨_, hk, Iff.rfl, fun β U e2 ys h => by cases h⟩
    · rw [lkl_cons_ne q] at h
      exact ⟨b, h, Iff.rfl, fun _ _ _ _ h => h⟩
  refine ⟨⟨m.ilt, fun j cs h => ?_, fun j β U e2 ys d h => ?_, fun i j b b' hij h1 h2 l1 l2 => ?_, fun j β U e2 ys h => ?_, fun i j β γ U V e2 e3 ys zs hij h1 h2 => ?_⟩, fun K => ⟨rfl, rfl, rfl, Nat.le_refl _, fun _ _ _ => rfl, fun _ h => h, fun _ h => .inl h, fun b hb => ?_, fun j hj hn => ⟨?_, ok j, fun cs hc => ?_⟩⟩, ok⟩
  · by_cases q : k = j
    · subst q; rw [lkl_cons_self] at h; cases h
    · rw [lkl_cons_ne q] at h
      obtain ⟨vs, t, h1, h2, h3⟩ := m.box j cs h
      exact ⟨vs, t, h1, h2.mono fun a c _ hr => CellR.step (fun _ _ => rfl) (fun _ h => h) (Nat.le_refl _) (fun i _ => ok i) hr, h3⟩
  · by_cases q : k = j
    · subst q
      rw [lkl_cons_self] at h; cases h
      rcases m.arr k _ _ _ _ _ hk with ⟨h1, h2, _⟩ | ⟨cap, vs, bss, h1, h2, h3, h4, h5, h6, h7, h8, _⟩
      · exact .inl ⟨h1, h2, fun h => by cases h⟩
      · exact .inr ⟨cap, vs, bss, h1, h2, h3, h4, h5, h6, h7, h8, fun h => by cases h⟩
    · rw [lkl_cons_ne q] at h
      exact m.arr j _ _ _ _ _ h
  · obtain ⟨c, q1, q2, _⟩ := back i b h1
    obtain ⟨c', q3, q4, _⟩ := back j b' h2
    exact m.dis i j _ _ hij q1 q3 (q2.1 l1) (q4.1 l2)
  · obtain ⟨c, q1, _, q3⟩ := back j _ h
    rw [q3 _ _ _ _ rfl] at q1
    exact m.fr j _ _ _ _ q1
  · obtain ⟨c, q1, _, q3⟩ := back i _ h1
    obtain ⟨c', q4, _, q6⟩ := back j _ h2
    rw [q3 _ _ _ _ rfl] at q1
    rw [q6 _ _ _ _ rfl] at q4
    exact m.fd i j _ _ _ _ _ _ _ _ hij q1 q4
  · obtain ⟨j, blk, h1, h2⟩ := hb
    obtain ⟨c, q1, q2, q3⟩ := back j blk h1
    rcases h2 with ⟨h2, h3⟩ | ⟨β, U, e2, ys, h2, h3⟩
    · exact .inl ⟨j, c, q1, .inl ⟨q2.1 h2, h3⟩⟩
    · exact .inl ⟨j, c, q1, .inr ⟨β, U, e2, ys, q3 _ _ _ _ h2, h3⟩⟩
  · by_cases q : k = j
    · subst q; rw [lk_cons_self]; simp
    · rw [lk_cons_ne q]; exact hn
  · by_cases q : k = j
    · subst q; rw [hk] at hc; cases hc
    · exact ⟨cs, by rw [lkl_cons_ne q]; exact hc⟩
variable {P : Program} {N : Nat} {K : List Nat} {Kn : St → Prop} {Q : Exit → St → Prop} {s : St}
theorem AW_shallow {α : Type} {T : TypeId} {e : Enc α} {xs : List α} {dp : Bool} {c : Code} (k : Nat) (hk : lkl s.l k = some (.arr T e xs dp))
    (h : AW P N K c Kn Q ⟨s.t, (k, some (.arr T e xs false)) :: s.l⟩) : AW P N K c Kn Q s := fun g a w r => by
  obtain ⟨m1, st1, ok1⟩ := shallow_mem r.mem hk
  have r1 := r.next0 (g' := g) (l' := (k, some (.arr T e xs false)) :: s.l) (w' := w) (fun _ _ => rfl) (fun _ h => h) (Nat.le_refl _) (fun j _ => ok1 j) m1
  exact Go.wp_mono (h g a w r1) fun e a1 w1 h1 => h1.trans r.mem m1 (st1 K)
end

/-! ### A result that is given up to be read alone -/
def frzC {α : Type} (e : Enc α) (xs : List α) : Cell → Cell
  | .own _ => .sl e xs
  | c => c
def AVal.frz1 {α : Type} (e : Enc α) (xs : List α) : AVal → AVal
  | .one x => .one (frzC e xs x)
  | .agg xs' => .agg (xs'.map (frzC e xs))
  | .tup xs' => .tup xs'
def AVal.frz {α : Type} (e : Enc α) (xs : List α) : AVal → AVal
  | .tup xs' => .tup (xs'.map (AVal.frz1 e xs))
  | x => x.frz1 e xs
section
variable {g g' : Gh} {w : World} {α : Type} {T : TypeId} {e : Enc α} {xs : List α} {d : Bool}
theorem frzC_ok (hs : CellR g' [] w (g.hd 0) (.sl e xs)) {v : Value} {c : Cell} (hc : cleanC c = true) (hi : ∀ k ∈ c.ids, k = 0) (h : CellR g [(0, some (.arr T e xs d))] w v c) : CellR g' [] w v (frzC e xs c) := by
  cases c with
  | c u => exact h
  | own k =>
    have hk0 : k = 0 := hi k (by simp [Cell.ids])
    subst hk0
    have : v = g.hd 0 := h _ _ _ _ _ rfl
    rw [this]; exact hs
  | any => trivial
  | _ => cases hc
theorem frz1_ok (hs : CellR g' [] w (g.hd 0) (.sl e xs)) : ∀ {v : Value} {x : AVal}, cleanV x = true → (∀ k ∈ x.ids1, k = 0) → VR1 g [(0, some (.arr T e xs d))] w v x → VR1 g' [] w v (x.frz1 e xs)
  | v, .one c, hc, hi, h => frzC_ok hs hc hi h
  | v, .agg cs, hc, hi, ⟨vs, h1, h2⟩ => by
    refine ⟨vs, h1, ?_⟩
    clear h1
    have hc' : ∀ c ∈ cs, cleanC c = true := fun c hm => List.all_eq_true.1 hc c hm
    have hi' : ∀ c ∈ cs, ∀ k ∈ c.ids, k = 0 := fun c hm k hk => hi k (List.mem_flatMap.2 ⟨c, hm, hk⟩)
    clear hc hi
    induction cs generalizing vs with
    | nil => cases vs with | nil => trivial | cons _ _ => exact h2.elim
    | cons c cs ih =>
      cases vs with
      | nil => exact h2.elim
      | cons u us => exact ⟨frzC_ok hs (hc' c (by simp)) (hi' c (by simp)) h2.1, ih us h2.2 (fun c hm => hc' c (by simp [hm])) (fun c hm => hi' c (by simp [hm]))⟩
  | v, .tup _, _, _, h => h.elim
end
theorem AC.frz {P : Program} {f : FuncId} {args : List AVal} {res : AVal} {α : Type} {T : TypeId} {e : Enc α} {xs : List α} {d : Bool} (h : AC P f args [] res [(0, some (.arr T e xs d))]) (hc : cleanV res = true) (hi : ∀ k ∈ res.ids, k = 0) : AC P f args [] (res.frz e xs) [] := by
  refine ⟨h.fn, fun g w cargs m ha => (h.run g w cargs m ha).mono ?_⟩
  rintro r w' ⟨v, g1, rfl, m1, hv, hs⟩
  have hk : lkl [(0, some (Blk.arr T e xs d))] 0 = some (.arr T e xs d) := rfl
  obtain ⟨m2, s2, c2, _⟩ := shut_mem m1 hk
  have T1 := Step.trans m m1 hs (s2 [])
  have no : ∀ k b, lkl [] k ≠ some b := fun k b h => by simp [lkl, lk] at h
  have m3 : MemR (g1.shut 0) [] w' := ⟨m2.ilt, fun k cs h => (no _ _ h).elim, fun k β T e2 ys d h => (no _ _ h).elim, fun j k b b' _ h => (no _ _ h).elim, fun k β T e2 ys h => (no _ _ h).elim, fun j k β γ T U e2 e3 ys zs _ h => (no _ _ h).elim⟩
  have hsl : CellR (g1.shut 0) [] w' (g1.hd 0) (.sl e xs) := c2
  refine ⟨v, g1.shut 0, rfl, m3, ?_, ⟨T1.os, T1.tape, T1.output, T1.size, T1.keep, T1.imm, T1.imm', fun b hb => ?_, fun k hk => by cases hk⟩⟩
  · cases res with
    | one x => exact frz1_ok (d := d) (T := T) hsl hc (fun k hk => hi k hk) hv
    | agg cs => exact frz1_ok (x := .agg cs) (d := d) (T := T) hsl hc (fun k hk => hi k hk) hv
    | tup ys =>
      obtain ⟨vs, h1, h2⟩ := hv
      refine ⟨vs, h1, ?_⟩
      clear h1
      have hc' : ∀ y ∈ ys, cleanV y = true := fun y hm => by
        have := List.all_eq_true.1 hc y hm
        cases y with
        | one _ => exact this
        | agg _ => exact this
        | tup _ => cases this
      have hi' : ∀ y ∈ ys, ∀ k ∈ y.ids1, k = 0 := fun y hm k hk => hi k (List.mem_flatMap.2 ⟨y, hm, hk⟩)
      clear hc hi h ha
      induction ys generalizing vs with
      | nil => cases vs with | nil => trivial | cons _ _ => exact h2.elim
      | cons y ys ih =>
        cases vs with
        | nil => exact h2.elim
        | cons u us => exact ⟨frz1_ok (d := d) (T := T) hsl (hc' y (by simp)) (hi' y (by simp)) h2.1, ih us h2.2 (fun y hm => hc' y (by simp [hm])) (fun y hm => hi' y (by simp [hm]))⟩
  · obtain ⟨k, blk, h1, _⟩ := hb
    exact (no _ _ h1).elim

/-! ### append and clear, where their runs are known by equations -/
end Go.Proofs.Ytfdpigafekohgaa

/- Functions of the library on rows (printed by walk.py) -/
namespace Go.Proofs.Ytfdpigafekohgaa
open Go.RowKit
set_option linter.unusedVariables false
set_option linter.unusedSimpArgs false
set_option maxRecDepth 100000


theorem insEntry_T : ∃ i z, Try.prog.underlying 67 = some (.slice 74) ∧ Try.prog.info? 74 = some i ∧ i.zero = some z ∧ z.cells.size = 6 ∧ i.size = 6 ∧ i.bytes = 96 := by
  obtain ⟨hu, hn0, ti, z, hti, hz, hzs, htis, htib⟩ := arrT_spec (P := Try.prog) (T := 67) (E := 74) (n := 6) (b := 96) (by kernel_rfl)
  exact ⟨ti, z, hu, hti, hz, hzs, htis, htib⟩
set_option maxHeartbeats 4000000 in
set_option maxRecDepth 100000 in
theorem insEntry_end (w : World) (base : Option Addr) (n c i : Nat) (cells news : List Value) (vb vc m : Nat) (hown : w.ownsRow 0 74 6 (.slice base n c) n cells) (hu : w.ownsRow 0 74 6 (.slice (some ⟨vb, 0, none⟩) m vc) m news) (hin : i = n) (hm : 0 < m) (hm1 : m ≤ 1000) (hn : n ≤ 100000000) (hc63 : c ≤ 9223372036854775807) (h1 : ∀ u ∈ news, u.oneCell' = true) (hnc : n ≤ c) :
    Calls Try.prog 101 #[.slice base n c, .int .i64 (i : Int), .slice (some ⟨vb, 0, none⟩) m vc] w fun en w' => ∃ v', en = .returned v' ∧ w'.ownsRow 0 74 6 v' (n + m) (cells ++ news) ∧ w.grownBy w' (Value.slice base n c).ownBlock ∧ ∀ b, v'.ownBlock = some b → (Value.slice base n c).ownBlock = some b ∨ w.heap.size ≤ b := by
  subst hin
  obtain ⟨ti, z, hT, hti, hz, hzs, htis, htib⟩ := insEntry_T
  obtain ⟨v', w', q1, q2, q3, q4⟩ := run_app (P := Try.prog) w 67 67 74 ti z 6 96 hT hti hz htis htib hzs (by decide) _ _ _ hown ⟨vb, 0, none⟩ m vc news hu.1 (hu.cells rfl) h1 (by unfold maxLen; omega) (by omega)
  have hi : (0 : Int) ≤ (i : Int) := by omega
  have hz1 : ¬ ((m : Int) = 0) := by omega
  clear hown hu
  by_cases hci : c = i
  · subst hci
    go_enter Try.func101, Try.ntmps101
    go_wp2_with (at_builtin; refine Lib.wpList_append_run _ rfl _ _ _ _ rfl _ _ rfl rfl _ _ q1 ?_)
    go_ret
    exact ⟨v', rfl, q2, q3, q4⟩
  · go_enter Try.func101, Try.ntmps101
    go_wp2_with (at_builtin; refine Lib.wpList_append_run _ rfl _ _ _ _ rfl _ _ rfl rfl _ _ q1 ?_)
    go_ret
    exact ⟨v', rfl, q2, q3, q4⟩
set_option maxHeartbeats 4000000 in
set_option maxRecDepth 100000 in
theorem insEntry_shift (w : World) (g n c i : Nat) (cur : Array Value) (cells news : List Value) (vb vc m : Nat) (vcur : Array Value) (hg : w.heap[g]? = some (.cells cur 74 (0, 0))) (hgv : w.heap[vb]? = some (.cells vcur 74 (0, 0))) (hne : vb ≠ g) (hcs : cur.size = c * 6) (htk : cur.toList.take (n * 6) = cells) (hl : cells.length = n * 6) (hnv : ∀ j u, news[j]? = some u → w.cell? ((⟨vb, 0, none⟩ : Addr).add j) = some u) (hnl : news.length = m * 6)
    (hin : i < n) (hroom : n + m ≤ c) (hm : 0 < m) (hc63 : c ≤ 9223372036854775807) (h1 : ∀ u ∈ cells ++ news, u.oneCell' = true) (hvs : vcur.size = vc * 6) (hv1 : m ≤ vc) :
    Calls Try.prog 101 #[.slice (some ⟨g, 0, none⟩) n c, .int .i64 (i : Int), .slice (some ⟨vb, 0, none⟩) m vc] w fun en w' => en = .returned (.slice (some ⟨g, 0, none⟩) (n + m) c) ∧ w'.heap[g]? = some (.cells (cells.take (i * 6) ++ news ++ cells.drop (i * 6) ++ cur.toList.drop ((n + m) * 6)).toArray 74 (0, 0)) ∧ w.grownBy w' (some g) := by
  obtain ⟨ti, z, hT, hti, hz, hzs, htis, htib⟩ := insEntry_T
  have hsz : (Try.prog.info? 74).map (·.size) = some 6 := by rw [hti]; simp [htis]
  have hov : ∀ (W : World), W.heap = w.heap → ∀ lb cb, (callFunc 137 #[.slice (some ⟨vb, 0, none⟩) m vc, .slice (some ⟨g, ((i + m) * 6), none⟩) lb cb]).run Try.prog W = .ok (.value (.bool false)) W := fun W hW lb cb => by
    rw [run_callFunc_extern Try.func137 (by kernel_rfl) (by kernel_rfl) (by kernel_rfl) (e := Extern.SlicesOverlaps.overlaps #[67, 67] #[4]) (by kernel_rfl),
      Lib.run_overlaps_apart W 67 4 74 hT 6 (by intro w; simp [Go.sizeOf, typeInfo, hti, htis]) ⟨vb, 0, none⟩ ⟨g, ((i + m) * 6), none⟩ m vc lb cb hne 74 74 vcur.size cur.size (by simp [World.shape?, hW, hgv]) (by simp [World.shape?, hW, hg]) (by rw [hcs]; omega) (by simp [World.frozen?, hW, hgv]) (by simp [World.frozen?, hW, hgv])]
    rfl
  obtain ⟨A1, hA1⟩ : ∃ A1, A1 = (cur.toList.take ((i + m) * 6) ++ cells.drop (i * 6) ++ cur.toList.drop ((n + m) * 6)) := ⟨_, rfl⟩
  have hcur : cur.toList.length = c * 6 := by rw [← hcs, Array.length_toList]
  have hdl : (cells.drop (i * 6)).length = (n - i) * 6 := by rw [List.length_drop, hl]; omega
  have hcp1 : ∀ W : World, W.heap = w.heap → ∀ ty dc sc, (Builtin.copy_ #[67, 67] ty #[.slice (some ⟨g, ((i + m) * 6), none⟩) (n + m - (i + m)) dc, .slice (some ⟨g, ((i) * 6), none⟩) (n + m - i) sc]).run Try.prog W = .ok (goInt (n - i : Nat)) (W.setRow g A1.toArray) := fun W hW ty dc sc => by
    have hmn : Nat.min (n + m - i) (n + m - (i + m)) = n - i := by simp only [Nat.min_def]; split <;> omega
    have := run_copy_rowK (P := Try.prog) W 67 67 ty 74 6 g ((i + m) * 6) (n + m - (i + m)) dc ⟨g, ((i) * 6), none⟩ (n + m - i) sc cur 74 (cells.drop (i * 6)) hT hsz (by rw [hW]; exact hg) (by rw [hmn, hdl])
      (fun j v hj => by
        rw [Addr.add_lit, cell_of_row W g _ cur 74 (0, 0) (by rw [hW]; exact hg)]
        rw [List.getElem?_drop, ← htk, List.getElem?_take] at hj
        split at hj
        · simpa using hj
        · cases hj) (by rw [hdl, hcs]; omega) (fun v hv => h1 v (List.mem_append_left _ (List.mem_of_mem_drop hv)))
    rw [hmn] at this
    rw [this, hA1, hdl]
    have e : ((i + m) * 6) + (n - i) * 6 = (n + m) * 6 := by omega
    rw [e]
    try simp only [Nat.mul_one]
  have hA1l : A1.length = c * 6 := by rw [hA1]; simp [hdl, hcur]; omega
  have hcp2 : ∀ W0 : World, W0.heap = w.heap → ∀ ty dc, (Builtin.copy_ #[67, 67] ty #[.slice (some ⟨g, ((i) * 6), none⟩) (n + m - i) dc, .slice (some ⟨vb, 0, none⟩) m vc]).run Try.prog (W0.setRow g A1.toArray) = .ok (goInt m) ((W0.setRow g A1.toArray).setRow g (cells.take (i * 6) ++ news ++ cells.drop (i * 6) ++ cur.toList.drop ((n + m) * 6)).toArray) := fun W0 hW0 ty dc => by
    have hW : (W0.setRow g A1.toArray).heap[g]? = some (.cells A1.toArray 74 (0, 0)) := setRow_heap W0 g cur _ _ _ (by rw [hW0]; exact hg)
    have hWv : (W0.setRow g A1.toArray).heap[vb]? = w.heap[vb]? := (setRow_other W0 g vb _ hne).trans (by rw [hW0])
    generalize W0.setRow g A1.toArray = W at *
    have hmn : Nat.min m (n + m - i) = m := by simp only [Nat.min_def]; split <;> omega
    have := run_copy_rowK (P := Try.prog) W 67 67 ty 74 6 g ((i) * 6) (n + m - i) dc ⟨vb, 0, none⟩ m vc A1.toArray 74 news hT hsz hW (by rw [hmn, hnl]) (fun j v hj => by
        have h2 := hnv j v hj
        rw [Addr.add_lit] at h2 ⊢
        simp only [World.cell?, hWv] at h2 ⊢
        exact h2) (by rw [hnl, List.size_toArray, hA1l]; omega) (fun v hv => h1 v (List.mem_append_right _ hv))
    rw [hmn] at this
    rw [this]
    congr 3
    have hx := insRow (A := cur.toList) (C := cells) (N := news) (x := i * 6) (y := (i + m) * 6) (z := (n + m) * 6) (by rw [hl]; omega) (by rw [hnl]; omega) (by rw [hl, hnl]; omega) (by rw [hl]; exact htk) (by rw [hcur]; omega)
    rw [hA1]
    first | exact hx | simpa only [Nat.mul_one] using hx
  have hz1 : ¬ ((m : Int) = 0) := by omega
  have hz2 : ¬ ((i : Int) = (n : Int)) := by omega
  have hw1 : IntKind.i64.wrap ((i : Int) + (m : Int)) = (i : Int) + (m : Int) := by rw [IntKind.wrap_i64]; omega
  have hw2 : IntKind.i64.wrap ((n : Int) + (m : Int)) = (n : Int) + (m : Int) := by rw [IntKind.wrap_i64]; omega
  have hw3 : ¬ ((c : Int) < (n : Int) + (m : Int)) := by omega
  have hb1 : (0 : Int) ≤ (i : Int) + (m : Int) := by omega
  have hb1' : (0 : Int) ≤ (n : Int) + (m : Int) := by omega
  have hin' : i ≤ n := by omega
  have htn : ((i : Int) + (m : Int)).toNat = i + m := by omega
  have htn2 : ((n : Int) + (m : Int)).toNat = n + m := by omega
  have hb2 : ¬ (c = i + m) := by omega
  have hb3 : (i : Int) ≤ (n : Int) + (m : Int) := by omega
  have hb3' : (i : Int) + (m : Int) ≤ (n : Int) + (m : Int) := by omega
  have hb5 : (n : Int) + (m : Int) ≤ (c : Int) := by omega
  have hb4 : ¬ (c = i) := by omega
  have hgw : (w.setRow g A1.toArray).heap[g]? = some (.cells A1.toArray 74 (0, 0)) := setRow_heap w g cur _ _ _ hg
  have hgo : (w.setRow g A1.toArray).heap[vb]? = w.heap[vb]? := setRow_other w g vb _ hne
  clear hA1
  go_enter Try.func101, Try.ntmps101
  go_wp2_with (simp only [hov _ rfl])
  go_region_law (refine step_copy_runI rfl (.tmp 73) (.tmp 76) 67 67 rfl (.slice (some ⟨g, ((i + m) * 6), none⟩) (n + m - (i + m)) (c - (i + m))) (.slice (some ⟨g, ((i) * 6), none⟩) (n + m - i) (c - i)) (by simp [Act.eval, Act.put]) (by simp [Act.eval, Act.put]) (hcp1 _ (by rfl) _ _ _) ?_)
  go_wp2
  rw [hcp2 w.drew rfl]
  go_wp2
  go_ret
  refine ⟨rfl, ?_, ?_⟩
  · have hh := setRow_heap (w.drew.setRow g A1.toArray) g A1.toArray (cells.take (i * 6) ++ news ++ cells.drop (i * 6) ++ cur.toList.drop ((n + m) * 6)).toArray 74 (0, 0) hgw
    simpa only [List.append_assoc, Nat.mul_one] using hh
  · exact ⟨rfl, rfl, rfl, by simp, fun b hb hne => by
      have hb2 : b ≠ g := fun e => hne (by rw [e])
      exact (setRow_other _ g b _ hb2).trans (setRow_other w g b _ hb2)⟩

set_option maxHeartbeats 4000000 in
set_option maxRecDepth 100000 in
theorem insEntry_grow (w : World) (g n c i : Nat) (cur : Array Value) (cells news : List Value) (vb vc m : Nat) (hg : w.heap[g]? = some (.cells cur 74 (0, 0))) (hvbl : vb < w.heap.size) (hcs : cur.size = c * 6) (htk : cur.toList.take (n * 6) = cells) (hl : cells.length = n * 6) (hnv : ∀ j u, news[j]? = some u → w.cell? ((⟨vb, 0, none⟩ : Addr).add j) = some u) (hnl : news.length = m * 6)
    (hin : i < n) (hnc : n ≤ c) (hroom : c < n + m) (hm : 0 < m) (hm1 : m ≤ 1000) (hn : n ≤ 100000000) (hc63 : c ≤ 9223372036854775807) (h1 : ∀ u ∈ cells ++ news, u.oneCell' = true) :
    Calls Try.prog 101 #[.slice (some ⟨g, 0, none⟩) n c, .int .i64 (i : Int), .slice (some ⟨vb, 0, none⟩) m vc] w fun en w' => ∃ (G : Nat) (T : List Value), en = .returned (.slice (some ⟨w.heap.size, 0, none⟩) (n + m) G) ∧ n + m ≤ G ∧ G ≤ maxLen ∧ T.length = G * 6 ∧ T.take ((n + m) * 6) = cells.take (i * 6) ++ news ++ cells.drop (i * 6) ∧ w'.heap[w.heap.size]? = some (.cells T.toArray 74 (0, 0)) ∧ w.grownBy w' none := by
  obtain ⟨ti, z, hT, hti, hz, hzs, htis, htib⟩ := insEntry_T
  have hsz : (Try.prog.info? 74).map (·.size) = some 6 := by rw [hti]; simp [htis]
  have hgl : g < w.heap.size := (Array.getElem?_eq_some_iff.1 hg).1
  have hcell : ∀ j v, cells[j]? = some v → w.cell? ⟨g, j, none⟩ = some v := fun j v hj => by
    rw [cell_of_row w g _ cur 74 (0, 0) hg]
    rw [← htk, List.getElem?_take] at hj
    split at hj
    · simpa using hj
    · cases hj
  have hkk : (n : Int) + (m : Int) - (i : Int) = ((n + m - i : Nat) : Int) := by omega
  have hik : i + (n + m - i) = n + m := by omega
  have hold : (Builtin.firstCells ti.size i (.slice (some ⟨g, 0, none⟩) i c)).run Try.prog w.drew = .ok (cells.take (i * 6)).toArray w.drew := by
    rw [htis]
    exact run_firstCells_some w.drew 6 i ⟨g, 0, none⟩ i c (cells.take (i * 6)) (by rw [List.length_take, hl]; omega) (fun j v hj => by
      rw [Addr.add_lit, Nat.zero_add]
      rw [List.getElem?_take] at hj
      split at hj
      · exact hcell j v hj
      · cases hj)
  obtain ⟨G, hG⟩ : ∃ G, G = grownCap w (n + m) c 74 := ⟨_, rfl⟩
  obtain ⟨ROW, hROW⟩ : ∃ ROW : Array Value, ROW = (cells.take (i * 6)).toArray ++ Builtin.zeroCells z.cells (n + m - i) ++ Builtin.zeroCells z.cells (G - (n + m)) := ⟨_, rfl⟩
  have hrz : ∀ ty, (Builtin.append_ #[67, 3] ty #[.slice (some ⟨g, 0, none⟩) i c, .int .i64 ((n : Int) + (m : Int) - (i : Int))]).run Try.prog w = .ok (.slice (some ⟨w.heap.size, 0, none⟩) (n + m) G) (w.drew.alloc (.cells ROW 74)) := fun ty => by
    have h := Lib.run_append_grow_zeros (P := Try.prog) w 67 3 ty 74 ti z .i64 .i64 hT Try.underlying3 hti hz (some ⟨g, 0, none⟩) i c (cells.take (i * 6)).toArray.toList hold (n + m - i) (by omega) (by rw [htis]; decide) (by omega) (by omega) (by rw [htib]; omega) (by rw [htib, hik]; exact growslice_fits hroom (by omega))
    rw [hik, ← hG] at h
    rw [hkk, hROW]
    exact h
  have hGn : n + m ≤ G := by rw [hG]; exact grownCap_ge w _ _ _
  have hGm : G ≤ maxLen := by rw [hG]; exact grownCap_le_maxLen w (n + m) c 74 (by unfold maxLen; omega)
  have hG63 : G ≤ 9223372036854775807 := by unfold maxLen at hGm; omega
  have hRl : ROW.size = G * 6 := by
    rw [hROW, Array.size_append, Array.size_append, size_zeroCells, size_zeroCells, List.size_toArray, List.length_take, hl, hzs]
    omega
  have hRt : ROW.toList.take (i * 6) = cells.take (i * 6) := by
    rw [hROW]
    simp only [Array.toList_append, List.append_assoc]
    exact List.take_left' (by rw [List.length_take, hl]; omega)
  have hdl : (cells.drop (i * 6)).length = (n - i) * 6 := by rw [List.length_drop, hl]; omega
  obtain ⟨A1, hA1⟩ : ∃ A1, A1 = (ROW.toList.take (i * 6) ++ news ++ ROW.toList.drop ((i + m) * 6)) := ⟨_, rfl⟩
  have hrl : ROW.toList.length = G * 6 := by rw [← hRl, Array.length_toList]
  have hA1l : A1.length = G * 6 := by rw [hA1]; simp [hnl, hrl]; omega
  obtain ⟨A2, hA2⟩ : ∃ A2, A2 = (A1.take ((i + m) * 6) ++ cells.drop (i * 6) ++ A1.drop ((n + m) * 6)) := ⟨_, rfl⟩
  have hA2l : A2.length = G * 6 := by rw [hA2]; simp [hdl, hA1l]; omega
  have hcpA : ∀ W : World, W.heap[w.heap.size]? = some (.cells ROW 74 (0, 0)) → (∀ b, b < w.heap.size → W.heap[b]? = w.heap[b]?) → ∀ ty dc, (Builtin.copy_ #[67, 67] ty #[.slice (some ⟨w.heap.size, ((i) * 6), none⟩) (n + m - i) dc, .slice (some ⟨vb, 0, none⟩) m vc]).run Try.prog W = .ok (goInt m) (W.setRow w.heap.size A1.toArray) := fun W hW hWv ty dc => by
    have hmn : Nat.min m (n + m - i) = m := by simp only [Nat.min_def]; split <;> omega
    have := run_copy_rowK (P := Try.prog) W 67 67 ty 74 6 w.heap.size ((i) * 6) (n + m - i) dc ⟨vb, 0, none⟩ m vc ROW 74 news hT hsz hW (by rw [hmn, hnl]) (fun j v hj => by
        have h2 := hnv j v hj
        rw [Addr.add_lit] at h2 ⊢
        simp only [World.cell?, hWv vb hvbl] at h2 ⊢
        exact h2) (by rw [hnl, hRl]; omega) (fun v hv => h1 v (List.mem_append_right _ hv))
    rw [hmn] at this
    rw [this, hA1, hnl]
    have e : ((i) * 6) + m * 6 = (i + m) * 6 := by omega
    rw [e]
    try simp only [Nat.mul_one]
  have hcpB : ∀ W : World, W.heap[w.heap.size]? = some (.cells A1.toArray 74 (0, 0)) → (∀ b, b < w.heap.size → W.heap[b]? = w.heap[b]?) → ∀ ty dc sc, (Builtin.copy_ #[67, 67] ty #[.slice (some ⟨w.heap.size, ((i + m) * 6), none⟩) (n + m - (i + m)) dc, .slice (some ⟨g, ((i) * 6), none⟩) (n - i) sc]).run Try.prog W = .ok (goInt (n - i : Nat)) (W.setRow w.heap.size A2.toArray) := fun W hW hWv ty dc sc => by
    have hmn : Nat.min (n - i) (n + m - (i + m)) = n - i := by simp only [Nat.min_def]; split <;> omega
    have := run_copy_rowK (P := Try.prog) W 67 67 ty 74 6 w.heap.size ((i + m) * 6) (n + m - (i + m)) dc ⟨g, ((i) * 6), none⟩ (n - i) sc A1.toArray 74 (cells.drop (i * 6)) hT hsz hW (by rw [hmn, hdl]) (fun j v hj => by
        rw [List.getElem?_drop] at hj
        have h2 := hcell _ v hj
        rw [Addr.add_lit]
        simp only [World.cell?, hWv g hgl] at h2 ⊢
        first | exact h2 | simpa only [Nat.mul_one] using h2) (by rw [hdl, List.size_toArray, hA1l]; omega) (fun v hv => h1 v (List.mem_append_left _ (List.mem_of_mem_drop hv)))
    rw [hmn] at this
    rw [this, hA2, hdl]
    have e : ((i + m) * 6) + (n - i) * 6 = (n + m) * 6 := by omega
    rw [e]
    try simp only [Nat.mul_one]
  have hfin : A2.take ((n + m) * 6) = cells.take (i * 6) ++ news ++ cells.drop (i * 6) := by
    rw [hA2, List.take_left' (by rw [List.length_append, List.length_take, hA1l, hdl]; omega)]
    congr 1
    rw [hA1, hRt, List.take_left' (by rw [List.length_append, List.length_take, hl, hnl]; omega)]
  have hz1 : ¬ ((m : Int) = 0) := by omega
  have hz2 : ¬ ((i : Int) = (n : Int)) := by omega
  have hz3 : (c : Int) < (n : Int) + (m : Int) := by omega
  have hw1 : IntKind.i64.wrap ((i : Int) + (m : Int)) = (i : Int) + (m : Int) := by rw [IntKind.wrap_i64]; omega
  have hw2 : IntKind.i64.wrap ((n : Int) + (m : Int)) = (n : Int) + (m : Int) := by rw [IntKind.wrap_i64]; omega
  have hw3 : IntKind.i64.wrap ((n : Int) + (m : Int) - (i : Int)) = (n : Int) + (m : Int) - (i : Int) := by rw [IntKind.wrap_i64]; omega
  have hb1 : (0 : Int) ≤ (i : Int) + (m : Int) := by omega
  have hin' : i ≤ n := by omega
  have hic : i ≤ c := by omega
  have htn : ((i : Int) + (m : Int)).toNat = i + m := by omega
  have hb3 : (i : Int) ≤ (n : Int) + (m : Int) := by omega
  have hb3' : (i : Int) + (m : Int) ≤ (n : Int) + (m : Int) := by omega
  have hGi : ¬ (G = i) := by omega
  have hGim : ¬ (G = i + m) := by omega
  have hci : ¬ (c = i) := by omega
  have hA0 : ∀ W : World, W.heap = w.heap → ((W.alloc (.cells ROW 74)).heap[w.heap.size]? = some (.cells ROW 74 (0, 0)) ∧ ∀ b, b < w.heap.size → (W.alloc (.cells ROW 74)).heap[b]? = w.heap[b]?) := fun W hW => ⟨by rw [← hW]; exact heap_alloc_new W _, fun b hb => by rw [← hW] at hb ⊢; show (W.heap.push _)[b]? = _; rw [Array.getElem?_push, if_neg (Nat.ne_of_lt hb)]⟩
  have hB0 : ∀ W : World, W.heap[w.heap.size]? = some (.cells ROW 74 (0, 0)) → (∀ b, b < w.heap.size → W.heap[b]? = w.heap[b]?) → ((W.setRow w.heap.size A1.toArray).heap[w.heap.size]? = some (.cells A1.toArray 74 (0, 0)) ∧ ∀ b, b < w.heap.size → (W.setRow w.heap.size A1.toArray).heap[b]? = w.heap[b]?) := fun W h1 h2 => ⟨setRow_heap W _ _ _ _ _ h1, fun b hb => by rw [setRow_other W _ b _ (by omega)]; exact h2 b hb⟩
  obtain ⟨a1, a2⟩ := hA0 w.drew rfl
  obtain ⟨b1, b2⟩ := hB0 (w.drew.alloc (.cells ROW 74)) a1 a2
  have hcA := hcpA (w.alloc (.cells ROW 74)).drew a1 a2
  clear hkk hik hold hROW hG hA1 hA2 hcpA hA0 hB0 hRt hRl
  go_enter Try.func101, Try.ntmps101
  go_wp2_with (at_builtin; refine Lib.wpList_append_run _ rfl _ _ _ _ rfl _ _ rfl rfl _ _ (hrz _) ?_)
  first | (rw [hcA]; go_wp2_with fail) | skip
  go_region_law (refine step_copy_runI rfl (.tmp 50) (.tmp 53) 67 67 rfl (.slice (some ⟨w.heap.size, ((i + m) * 6), none⟩) (n + m - (i + m)) (G - (i + m))) (.slice (some ⟨g, ((i) * 6), none⟩) (n - i) (c - i)) (by simp [Act.eval, Act.put]) (by simp [Act.eval, Act.put]) (hcpB _ (by exact b1) (by exact b2) _ _ _) ?_)
  go_wp2
  go_ret
  refine ⟨G, A2, rfl, hGn, hGm, hA2l, hfin, ?_, ?_⟩
  · exact setRow_heap _ _ A1.toArray A2.toArray 74 (0, 0) b1
  · exact ⟨rfl, rfl, rfl, by simp, fun b hb _ => (setRow_other _ _ b _ (by omega)).trans (b2 b hb)⟩
theorem insEntry_t {α : Type} {e : Enc α} {f : α → List Cell} [hc : CellsOf e f] (he : e.size = 6) {d : Bool} {xs zs : List α} {i : Nat} (hi : i ≤ xs.length) (hz : 0 < zs.length) (hz1 : zs.length ≤ 1000) (hx : xs.length ≤ 100000000) :
    AT Try.prog 101 ([.one (.own 0), .one (.c (.int .i64 (i : Int)))] ++ [.one (.own 2)]) [(0, some (.arr 74 e xs d)), (2, some (.arr 74 e zs d))] (.one (.own 1)) [(1, some (.arr 74 e (xs.take i ++ zs ++ xs.drop i) d))] := by
  refine AT.row2 (rest := [.one (.c (.int .i64 (i : Int)))]) ⟨_, _, Try.func101, rfl, rfl⟩ (fun w v u vs cells news bs b2 hvs hown hu hF hF2 h1 hap => ?_) (fun x hx => by simp at hx; exact ⟨_, hx⟩)
  have hv1 : vs = [.int .i64 (i : Int)] := by
    cases vs with
    | nil => exact hvs.elim
    | cons a as' =>
      cases as' with
      | nil => have := hvs.1; cases this; rfl
      | cons _ _ => exact hvs.2.elim
  subst hv1
  obtain ⟨bs', q1, q2, q3⟩ := FR.ins (e := e) hF hF2 hi
  rw [he] at hown hu q1 ⊢
  have hln : (xs.take i ++ zs ++ xs.drop i).length = xs.length + zs.length := by simp; omega
  rw [hln]
  have hcl := hown.1
  rcases hu.2 with ⟨_, h0⟩ | ⟨vb, vc, vcur, rfl, _, g2, g3, g4, g5, g6⟩
  · omega
  have hap' : v.ownBlock ≠ some vb := hap vb rfl
  have hcut : i = xs.length → cells.take (i * 6) ++ news ++ cells.drop (i * 6) = cells ++ news := fun e0 => by
    rw [e0, ← hcl, List.take_length, List.drop_length, List.append_nil]
  show Calls Try.prog 101 #[v, .int .i64 (i : Int), .slice (some ⟨vb, 0, none⟩) zs.length vc] w _
  rcases hown.2 with ⟨rfl, h0⟩ | ⟨g, c, cur, rfl, _, r3, r4, r5, r6, r7⟩
  · rw [h0]
    refine (insEntry_end w none 0 0 i cells news vb vc zs.length (by rw [h0] at hown; exact hown) hu (by omega) hz hz1 (by omega) (by omega) (fun u hu => h1 u (List.mem_append_right _ hu)) (by omega)).mono ?_
    rintro en w' ⟨v', rfl, t1, t2, t3⟩
    exact ⟨v', _, rfl, by rw [hcut (by omega)]; exact t1, t2, t3, bs', q1, q2, q3⟩
  · have hne : vb ≠ g := fun e0 => hap' (by rw [e0]; rfl)
    have hc63 : c ≤ 9223372036854775807 := by unfold maxLen at r5; omega
    by_cases hin : i = xs.length
    · refine (insEntry_end w (some ⟨g, 0, none⟩) xs.length c i cells news vb vc zs.length hown hu hin hz hz1 hx hc63 (fun u hu => h1 u (List.mem_append_right _ hu)) r4).mono ?_
      rintro en w' ⟨v', rfl, t1, t2, t3⟩
      exact ⟨v', _, rfl, by rw [hcut hin]; exact t1, t2, t3, bs', q1, q2, q3⟩
    · have hnv := hu.cells (g := vb) rfl
      by_cases hroom : xs.length + zs.length ≤ c
      · refine (insEntry_shift w g xs.length c i cur cells news vb vc zs.length vcur r3 g2 hne r6 r7 hcl hnv hu.1 (by omega) hroom hz hc63 h1 g5 g3).mono ?_
        rintro en w' ⟨rfl, t1, t2⟩
        refine ⟨_, cells.take (i * 6) ++ news ++ cells.drop (i * 6), rfl, ⟨?_, .inr ⟨g, c, _, rfl, Nat.zero_le _, t1, hroom, r5, ?_, ?_⟩⟩, t2, fun b hb => .inl hb, bs', q1, q2, q3⟩
        · simp [hcl, hu.1]; omega
        · have hz := hu.1
          have hsz : cur.toList.length = c * 6 := by rw [Array.length_toList]; exact r6
          simp [hcl, hz, hsz]; omega
        · have hz := hu.1
          simp only [List.toList_toArray]
          exact List.take_left' (by simp [hcl, hz]; omega)
      · refine (insEntry_grow w g xs.length c i cur cells news vb vc zs.length r3 (Array.getElem?_eq_some_iff.1 g2).1 r6 r7 hcl hnv hu.1 (by omega) r4 (by omega) hz hz1 hx hc63 h1).mono ?_
        rintro en w' ⟨G, T, rfl, t1, t2, t3, t4, t5, t6⟩
        refine ⟨_, cells.take (i * 6) ++ news ++ cells.drop (i * 6), rfl, ⟨?_, .inr ⟨_, G, _, rfl, Nat.zero_le _, t5, t1, t2, ?_, ?_⟩⟩, ⟨t6.os, t6.tape, t6.output, t6.size, fun b hb _ => t6.block b hb (by simp)⟩, fun b hb => .inr ?_, bs', q1, q2, q3⟩
        · simp [hcl, hu.1]; omega
        · simp [t3]
        · simpa using t4
        · have hb' : some w.heap.size = some b := hb
          cases hb'; exact Nat.le_refl _
end Go.Proofs.Ytfdpigafekohgaa

/- The laws' own functions: GenD (printed by gen.py) -/
namespace Go.Proofs.Ytfdpigafekohgaa
open Go.RowKit
set_option linter.unusedVariables false
set_option maxRecDepth 100000

structure Changet where
  name : ByteArray
  plus : Relt
  minus : Relt
structure Deltat where
  changes : List (Changet)
end Go.Proofs.Ytfdpigafekohgaa

/- Right deltas, in plain words; fields of struct values. -/
namespace Go.Proofs.Ytfdpigafekohgaa
open Go.RowKit
set_option linter.unusedVariables false

section ops
variable {P : Program} {N : Nat} {s : St} {d : Nat} {ty : TypeId} {pos : String} {after : Array Edge} {gd : Option (Nat × Bool)}
end ops
end Go.Proofs.Ytfdpigafekohgaa

/- A delta that fits a store, in plain words. -/
namespace Go.Proofs.Ytfdpigafekohgaa
open Go.RowKit
set_option linter.unusedVariables false

section
variable {s : Storet} {l : List Changet} {k : Nat} (hk : k < l.length)
end
end Go.Proofs.Ytfdpigafekohgaa

/- The laws' marks: MarkB (printed by genmark.py) -/
namespace Go.Proofs.Ytfdpigafekohgaa
open Go.RowKit
set_option linter.unusedVariables false
set_option linter.unusedSimpArgs false
set_option maxRecDepth 100000

end Go.Proofs.Ytfdpigafekohgaa

/- The laws' marks: MarkC (printed by genmark.py) -/
namespace Go.Proofs.Ytfdpigafekohgaa
open Go.RowKit
set_option linter.unusedVariables false
set_option linter.unusedSimpArgs false
set_option maxRecDepth 100000

end Go.Proofs.Ytfdpigafekohgaa

/- Sizes of data (printed by mktot.py) -/
namespace Go.Proofs.Ytfdpigafekohgaa
open Go.RowKit
set_option linter.unusedVariables false

end Go.Proofs.Ytfdpigafekohgaa

/- Sizes of data (printed by mktot.py) -/
namespace Go.Proofs.Ytfdpigafekohgaa
open Go.RowKit
set_option linter.unusedVariables false

end Go.Proofs.Ytfdpigafekohgaa

/- Copies of relations, deltas turned back, deltas between stores, in plain words. -/
namespace Go.Proofs.Ytfdpigafekohgaa
open Go.RowKit
set_option linter.unusedVariables false

end Go.Proofs.Ytfdpigafekohgaa

/- Numbers and texts ars bytes, in plain words. -/
namespace Go.Proofs.Ytfdpigafekohgaa
open Go.RowKit
set_option linter.unusedVariables false

end Go.Proofs.Ytfdpigafekohgaa

/- Raw elements, where variables are lent beside the array (a function value with what it has caught). -/
namespace Go.Proofs.Ytfdpigafekohgaa
open Go.RowKit
set_option linter.unusedVariables false

end Go.Proofs.Ytfdpigafekohgaa

/- Matches that cover others, bit by bit; entries kept of raw ones. -/
namespace Go.Proofs.Ytfdpigafekohgaa
open Go.RowKit
set_option linter.unusedVariables false
set_option linter.unusedSimpArgs false

/-! ### Elements kept of raw ones -/
section
variable {α : Type} {p : α → Bool} {us : List (Raw α)}
end
/-! ### Bits at a place -/
section
variable {a b : Matcht} {f i : Nat}
end
/-! ### The place of a key -/
theorem keyIdx_lt {l : List Entryt} {e : Entryt} (h : 0 ≤ keyIdx l e) : (keyIdx l e).toNat < l.length := by
  obtain ⟨k, h1, h2⟩ := firstIdx_nn (p := fun x => sameKeyB x e) (xs := l) (show ¬ keyIdx l e < 0 by omega)
  have h1 : keyIdx l e = (k : Int) := h1
  rw [h1]; simpa using h2
theorem posA_pos {l : List Entryt} {e : Entryt} (h : ¬ firstIdx (fun x => aheadB e x) l < 0) : firstIdx (fun x => aheadB e x) l = (posA l e : Int) ∧ posA l e < l.length := by
  obtain ⟨k, h1, h2⟩ := firstIdx_nn h
  rw [posA_at h1]; exact ⟨h1, h2⟩
theorem posA_le {l : List Entryt} {e : Entryt} : posA l e ≤ l.length := by
  by_cases h : firstIdx (fun x => aheadB e x) l < 0
  · rw [posA_none h]; exact Nat.le_refl _
  · exact Nat.le_of_lt (posA_pos h).2
theorem tableAdd_put' {t : Tablet} {e : Entryt} {k : Nat} (h1 : tableB t = true) (h2 : entryOkB e = true) (h : keyIdx t.entries e < 0) (hc : ¬ (t.entries.length : Int) = t.cap) (hk : t.entries.length ≤ k) : tableAdd t e = (⟨t.cap, (t.entries.filter fun x => !aheadB e x) ++ [e] ++ filtTo (fun x => aheadB e x) t.entries k⟩, 0) := by
  rw [tableAdd_put h1 h2 h hc, filtTo_all hk, (posA_is h1 e).2.1, (posA_is h1 e).2.2]; rfl
theorem tableAdd_two {t : Tablet} {e : Entryt} {k : Nat} (hk : t.entries.length ≤ k) : filtTo (fun x => !aheadB e x) t.entries k ++ [e] = (t.entries.filter fun x => !aheadB e x) ++ [e] ++ filtTo (fun x => aheadB e x) t.entries 0 := by
  rw [filtTo_all hk, ← filtTo_zero, List.append_nil]
end Go.Proofs.Ytfdpigafekohgaa

/- The abstract walk: a field of an element of an own array written anew. -/
namespace Go.Proofs.Ytfdpigafekohgaa
open Go.RowKit
set_option linter.unusedVariables false
section ops
variable {P : Program} {N : Nat} {s : St} {ty : TypeId} {pos : String} {after : Array Edge} {gd : Option (Nat × Bool)}
end ops
end Go.Proofs.Ytfdpigafekohgaa

/- Values, rows and relations that are drawn, in plain words. -/
namespace Go.Proofs.Ytfdpigafekohgaa
open Go.RowKit
set_option linter.unusedVariables false

/-! ### Bounds -/
end Go.Proofs.Ytfdpigafekohgaa

/- Operations whose new array is at once given up to be read alone. -/
namespace Go.Proofs.Ytfdpigafekohgaa
open Go.RowKit
set_option linter.unusedVariables false

theorem above : ∀ L : List Nat, ∃ k, ∀ i ∈ L, i < k
  | [] => ⟨0, fun i h => by cases h⟩
  | a :: L => by
    obtain ⟨k, hk⟩ := above L
    refine ⟨max (a + 1) k, fun i hi => ?_⟩
    rcases List.mem_cons.1 hi with rfl | hi
    · omega
    · have := hk i hi; omega
section
variable {g g' : Gh} {l l' : Locs} {w w' : World}
theorem okK.congr {l2 : Locs} (h : ∀ j, lkl l' j = lkl l2 j) {k : Nat} (hk : okK g l g' l' k) : okK g l g' l2 k :=
  ⟨fun cs hc => hk.1 cs (by rw [h]; exact hc), fun α T e xs d hc => hk.2 α T e xs d (by rw [h]; exact hc)⟩
theorem okK.back {l2 : Locs} (h : ∀ j, lkl l j = lkl l2 j) {k : Nat} : okK g l g l2 k := okK.same (h k).symm rfl rfl
theorem MemR.congr (h : ∀ j, lkl l j = lkl l' j) (m : MemR g l w) : MemR g l' w := by
  refine ⟨m.ilt, fun k cs hc => ?_, fun k α T e xs d hc => m.arr k _ _ _ _ _ (by rw [h]; exact hc), fun j k b b' hjk h1 h2 => m.dis j k _ _ hjk (by rw [h]; exact h1) (by rw [h]; exact h2), fun k α T e xs hc => m.fr k _ _ _ _ (by rw [h]; exact hc), fun j k α β T U e f xs ys hjk h1 h2 => m.fd j k _ _ _ _ _ _ _ _ hjk (by rw [h]; exact h1) (by rw [h]; exact h2)⟩
  obtain ⟨vs, t, h1, h2, h3⟩ := m.box k cs (by rw [h]; exact hc)
  exact ⟨vs, t, h1, h2.mono fun a c _ hr => CellR.step (fun _ _ => rfl) (fun _ h => h) (Nat.le_refl _) (fun i _ => okK.back h) hr, h3⟩
theorem VR.congr (h : ∀ j, lkl l j = lkl l' j) {v : Value} {x : AVal} (hv : VR g l w v x) : VR g l' w v x := hv.step (fun _ _ => rfl) (fun _ h => h) (Nat.le_refl _) (fun i _ => okK.back h)
theorem OwnB.congr (h : ∀ j, lkl l j = lkl l' j) {b : Nat} (hb : OwnB g l b) : OwnB g l' b := by
  obtain ⟨k, blk, h1, h2⟩ := hb
  exact ⟨k, blk, by rw [← h]; exact h1, h2⟩
end
theorem OpOK.frz {P : Program} {N d : Nat} {o : Oper} {rt : List (Nat × AVal)} {rl : List (Nat × Blk)} {α : Type} {T : TypeId} {e : Enc α} {xs : List α} {dp : Bool} {L : List Nat}
    (h : ∀ k, (∀ i ∈ L, i < k) → OpOK P N o ⟨rt, rl, [(d, .one (.own k))], [(k, some (.arr T e xs dp))], [k]⟩) : OpOK P N o ⟨rt, rl, [(d, .one (.sl e xs))], [], []⟩ := fun K g s a w hp r => by
  obtain ⟨k, hk⟩ := above (L ++ (keys s.l ++ s.ids))
  have hkl : lk s.l k = none := by
    cases hq : lk s.l k with
    | none => rfl
    | some y =>
      have h1 : k ∈ keys s.l := List.mem_map.2 ⟨_, lk_mem hq, rfl⟩
      have := hk k (List.mem_append_right _ (List.mem_append_left _ h1))
      omega
  have hki : k ∉ s.ids := fun hm => by
    have := hk k (List.mem_append_right _ (List.mem_append_right _ hm))
    omega
  have hkk : lkl s.l k = none := by unfold lkl; rw [hkl]
  have h1 := h k (fun i hi => hk i (List.mem_append_left _ hi)) K g s a w ⟨hp.1, hp.2.1, fun j hj => by simp at hj; subst hj; exact ⟨hkl, hki⟩⟩ r
  refine Oper.wp_mono ?_ h1
  rintro a' w' ⟨g', r', st⟩
  have hu : (Cert.upd ⟨rt, rl, [(d, .one (.own k))], [(k, some (.arr T e xs dp))], [k]⟩ s) = ⟨(d, .one (.own k)) :: s.t, (k, some (.arr T e xs dp)) :: s.l⟩ := rfl
  rw [hu] at r' st
  have hka : lkl ((k, some (Blk.arr T e xs dp)) :: s.l) k = some (.arr T e xs dp) := lkl_cons_self
  obtain ⟨m1, st1, c1, ok1⟩ := shut_mem r'.mem hka
  have T2 := Step.trans r.mem r'.mem st (st1 K)
  have hl : ∀ j, lkl ((k, none) :: (k, some (Blk.arr T e xs dp)) :: s.l) j = lkl s.l j := fun j => by
    by_cases q : k = j
    · subst q; rw [lkl_cons_self, hkk]
    · rw [lkl_cons_ne q, lkl_cons_ne q]
  have hv : a'.tmps.getD d undef = g'.hd k := (r'.tmp d _ (lk_cons_self ..) : CellR g' _ w' _ (.own k)) _ _ _ _ _ hka
  refine ⟨g'.shut k, ⟨r'.size, r'.defers, fun j x hj => ?_, m1.congr hl⟩, ⟨T2.os, T2.tape, T2.output, T2.size, T2.keep, T2.imm, T2.imm', fun b hb => T2.own b (OwnB.congr (fun j => (hl j).symm) hb), fun j hj hn => ?_⟩⟩
  · have hj : lk ((d, AVal.one (.sl e xs)) :: s.t) j = some x := hj
    by_cases hjt : d = j
    · subst hjt
      rw [lk_cons_self] at hj; cases hj
      rw [hv]; exact VR.congr (x := .one (.sl e xs)) hl c1
    · rw [lk_cons_ne hjt] at hj
      have h2 := r'.tmp j x (by show lk ((d, AVal.one (.own k)) :: s.t) j = some x; rw [lk_cons_ne hjt]; exact hj)
      have h3 : VR (g'.shut k) ((k, none) :: (k, some (Blk.arr T e xs dp)) :: s.l) w' (a'.tmps.getD j undef) x := h2.step (fun _ _ => rfl) (fun _ h => .inl h) (Nat.le_refl _) (fun i _ => ok1 i)
      exact VR.congr hl h3
  · obtain ⟨z1, z2, z3⟩ := T2.base j hj hn
    exact ⟨hn, okK.congr hl z2, fun cs hc => ⟨cs, hc⟩⟩
section ops
variable {P : Program} {N : Nat} {s : St} {d : Nat} {ty : TypeId} {pos : String} {after : Array Edge} {gd : Option (Nat × Bool)}
end ops
end Go.Proofs.Ytfdpigafekohgaa

/- Rules for the draws' contracts: a cursor that is lent while an array is left, two results in variables. -/
namespace Go.Proofs.Ytfdpigafekohgaa
open Go.RowKit
set_option linter.unusedVariables false

def rnC (j : Nat) : Nat := bif Nat.beq j 200 then 200 else 0
theorem rnC_k {k : Nat} (hk : Nat.beq k 200 = false) : rnC k = 0 := by unfold rnC; rw [hk]; rfl
theorem curB_ren (b : List Int) (c : Cur) (r : Nat → Nat) : (curB b c).ren r = curB b c := rfl
/-- The array that is left beside a cursor, under another number. -/
theorem AC.cur {P : Program} {f : FuncId} {args : List AVal} {bs : List Int} {c c' : Cur} {res res0 : AVal} {blk : Blk} (h : AC P f args [(200, some (curB bs c))] res0 [(200, some (curB bs c')), (0, some blk)]) (k : Nat) (hk : Nat.beq k 200 = false)
    (hres : ∀ r : Nat → Nat, r k = 0 → res.ren r = res0) (hbl : ∀ r : Nat → Nat, blk.ren r = blk) : AC P f args [(200, some (curB bs c))] res [(200, some (curB bs c')), (k, some blk)] := by
  have hL : LeL rnC [(200, some (curB bs c')), (0, some blk)] [(200, some (curB bs c')), (k, some blk)] :=
    ⟨⟨curB bs c', rfl, by rw [curB_ren]; exact BLe.rf⟩, ⟨blk, by rw [rnC_k hk]; rfl, by rw [hbl]; exact BLe.rf⟩, trivial⟩
  have hi : injL rnC (keys [(200, some (curB bs c')), (k, some blk)]) = true := by
    have h2 : rnC 200 = 200 := rfl
    simp [injL, keys, rnC_k hk, h2]
    exact .inr rfl
  have hK : LeK rnC [(200, some (curB bs c')), (0, some blk)] [(200, some (curB bs c')), (k, some blk)] (keys [(200, some (curB bs c))]) :=
    ⟨⟨rfl, .inl (by simp [lk]), fun cs _ => ⟨_, rfl⟩⟩, trivial⟩
  refine ⟨h.fn, fun g w cargs m ha => (h.run g w cargs m ha).mono ?_⟩
  rintro e w' ⟨v, g1, rfl, m1, hv, hs⟩
  exact ⟨v, g1.ren rnC, rfl, m1.unren hL hi, VR.unren hL (by rw [hres rnC (rnC_k hk)]; exact hv), hs.trans m m1 (Step.unren hL hK)⟩
/-- What a slot holds, said in other words. -/
theorem AW_slot {P : Program} {N : Nat} {K : List Nat} {c : Code} {Kn : St → Prop} {Q : Exit → St → Prop} {s : St} {t : Nat} {x y : AVal} (ht : lk s.t t = some x) (h : x = y) (hA : AW P N K c Kn Q ⟨(t, y) :: s.t, s.l⟩) : AW P N K c Kn Q s := fun g a w r =>
  hA g a w ⟨r.size, r.defers, fun k z hk => by
    by_cases e : t = k
    · subst e; rw [lk_cons_self] at hk; cases hk; exact r.tmp _ _ (h ▸ ht)
    · rw [lk_cons_ne e] at hk; exact r.tmp k z hk, r.mem⟩
section results
variable {P : Program} {f : FuncId} {fn : Func} {c : Code} {N : Nat} {args : List AVal} {L L' : Locs}
end results
end Go.Proofs.Ytfdpigafekohgaa

/- An entry put in (printed by walk.py) -/
namespace Go.Proofs.Ytfdpigafekohgaa
open Go.RowKit
set_option linter.unusedVariables false
set_option linter.unusedSimpArgs false
set_option maxRecDepth 100000

set_option maxHeartbeats 4000000 in
theorem keyC_c (x e : Entryt) : AC Try.prog 97 [.agg (entryC x), .one (.ptr 200 0)] [(200, some (.box [.c (.int .i64 e.epoch), .c (.int .i64 e.prio), .own 201, .own 202, .own 203, .c (.int .i64 e.hits)])), (201, some (.arr 3 (intE .i64) e.mat.v true)), (202, some (.arr 3 (intE .i64) e.mat.m true)), (203, some (.arr 114 actE e.acts true))] (.one (.c (.bool (sameKeyB x e)))) [(200, some (.box [.c (.int .i64 e.epoch), .c (.int .i64 e.prio), .own 201, .own 202, .own 203, .c (.int .i64 e.hits)])), (201, some (.arr 3 (intE .i64) e.mat.v true)), (202, some (.arr 3 (intE .i64) e.mat.m true)), (203, some (.arr 114 actE e.acts true))] := by
  refine AC_body1 Try.func97 rfl rfl Try.ntmps97 rfl Try.results97 ?_
  refine AW_seq ?_
  refine AW_region ?_
  refine AL_p (x_box 100 rfl rfl rfl rfl rfl rfl rfl) ?_
  refine AL_p (x_assign rfl rfl) ?_
  refine AL_nil ?_
  refine AW_seq ?_
  refine AW_region ?_
  refine AL_p (x_loadN (n := 6) rfl rfl rfl (by kernel_rfl) rfl rfl) ?_
  refine AL_p (x_loadN (n := 6) rfl rfl rfl (by kernel_rfl) rfl rfl) ?_
  refine AL_bc (x_callR rfl rfl rfl (sameKeyI_c x e) rfl AllV.rf rfl rfl rfl rfl rfl) (fun b6 h6 => ?_)
  refine AL_p (x_assign rfl rfl) ?_
  refine AL_nil ?_
  refine AW_ret ?_
  cases b6
  rotate_left
  · try simp only [tdy] at h6
    exact ⟨rn [], ⟨⟨⟨_, rfl, vle_bool (by (symm; assumption))⟩, trivial⟩, ⟨⟨_, rfl, BLe.rf⟩, ⟨_, rfl, BLe.rf⟩, ⟨_, rfl, BLe.rf⟩, ⟨_, rfl, BLe.rf⟩, trivial⟩, by repeat (first | exact trivial | refine ⟨⟨rfl, by first | (left; intro h; cases h) | (right; rfl), by first | exact (fun _ h => ⟨_, h⟩) | exact (fun _ _ => ⟨_, rfl⟩) | (intro _ h; cases h)⟩, ?_⟩), rfl⟩⟩
  try simp only [tdy] at h6
  exact ⟨rn [], ⟨⟨⟨_, rfl, vle_bool (by (symm; assumption))⟩, trivial⟩, ⟨⟨_, rfl, BLe.rf⟩, ⟨_, rfl, BLe.rf⟩, ⟨_, rfl, BLe.rf⟩, ⟨_, rfl, BLe.rf⟩, trivial⟩, by repeat (first | exact trivial | refine ⟨⟨rfl, by first | (left; intro h; cases h) | (right; rfl), by first | exact (fun _ h => ⟨_, h⟩) | exact (fun _ _ => ⟨_, rfl⟩) | (intro _ h; cases h)⟩, ?_⟩), rfl⟩⟩

set_option maxHeartbeats 4000000 in
theorem keyIx_c (es : List Entryt) (e : Entryt) (hl : es.length ≤ 1048576) : AC Try.prog 96 [.one (.own 300), .one (.clo 97 [200])] [(300, some (.arr 74 entryE es true)), (200, some (.box [.c (.int .i64 e.epoch), .c (.int .i64 e.prio), .own 201, .own 202, .own 203, .c (.int .i64 e.hits)])), (201, some (.arr 3 (intE .i64) e.mat.v true)), (202, some (.arr 3 (intE .i64) e.mat.m true)), (203, some (.arr 114 actE e.acts true))] (.one (.c (.int .i64 (firstIdx (fun x => sameKeyB x e) es)))) [(300, some (.arr 74 entryE es true)), (200, some (.box [.c (.int .i64 e.epoch), .c (.int .i64 e.prio), .own 201, .own 202, .own 203, .c (.int .i64 e.hits)])), (201, some (.arr 3 (intE .i64) e.mat.v true)), (202, some (.arr 3 (intE .i64) e.mat.m true)), (203, some (.arr 114 actE e.acts true))] := by
  refine AC_body1 Try.func96 rfl rfl Try.ntmps96 rfl Try.results96 ?_
  refine AW_seq ?_
  refine AW_region ?_
  refine AL_p (x_assign rfl rfl) ?_
  refine AL_nil ?_
  refine AW_seq ?_
  refine AW_seq ?_
  refine AW_region ?_
  refine AL_p (x_move rfl rfl) ?_
  refine AL_p (x_olen (E := 74) (n := 6) rfl rfl rfl (by kernel_rfl)) ?_
  refine AL_p (x_move rfl rfl) ?_
  refine AL_nil ?_
  refine AW_block ?_
  refine AW_loop2 (ι := {q : Nat // q ≤ es.length ∧ NoneTo (fun x => sameKeyB x e) es q}) (fun p => [(8, .one (.c (.int .i64 ((p.1) : Int))))]) (fun p => []) [0, 1, 7] [200, 201, 202, 203, 300] (fun p => es.length - (p.1)) ⟨0, ⟨by omega, .zero⟩⟩ (rn []) ?_ ?_
  exact ⟨by (repeat refine ⟨⟨_, rfl, by first | exact VLe.rf | exact vle_int (by dsimp only; omega)⟩, ?_⟩); exact trivial, by (repeat refine ⟨⟨_, rfl, by first | exact BLe.rf | exact BLe.box AllC.rf | exact BLe.arr (by exact rfl)⟩, ?_⟩); exact trivial, by repeat (first | exact trivial | refine ⟨⟨rfl, by first | (left; intro h; cases h) | (right; rfl), by first | exact (fun _ h => ⟨_, h⟩) | exact (fun _ _ => ⟨_, rfl⟩) | (intro _ h; cases h)⟩, ?_⟩), rfl⟩
  rintro ⟨k, hinv⟩
  dsimp only
  obtain ⟨hk, hn⟩ := hinv
  have hk : k ≤ es.length := hk
  refine AW_seq ?_
  refine AW_region ?_
  refine AL_b (x_lss rfl rfl rfl) (fun b9 h9 => ?_)
  refine AL_nil ?_
  refine AW_seq ?_
  cases b9
  · try simp only [tdy] at h9
    obtain rfl : k = es.length := by omega
    have hno : firstIdx (fun x => sameKeyB x e) es = -1 := hn.none
    refine AW_condF rfl ?_
    refine AW_exit (BQ_hit ?_)
    refine AW_seq ?_
    refine AW_region ?_
    refine AL_p (x_assign rfl rfl) ?_
    refine AL_nil ?_
    refine AW_ret ?_
    exact ⟨rn [], ⟨⟨⟨_, rfl, vle_int (by rw [hno])⟩, trivial⟩, ⟨⟨_, rfl, BLe.rf⟩, ⟨_, rfl, BLe.rf⟩, ⟨_, rfl, BLe.rf⟩, ⟨_, rfl, BLe.rf⟩, ⟨_, rfl, BLe.rf⟩, trivial⟩, by repeat (first | exact trivial | refine ⟨⟨rfl, by first | (left; intro h; cases h) | (right; rfl), by first | exact (fun _ h => ⟨_, h⟩) | exact (fun _ _ => ⟨_, rfl⟩) | (intro _ h; cases h)⟩, ?_⟩), rfl⟩⟩
  try simp only [tdy] at h9
  refine AW_condT rfl ?_
  refine AW_skip ?_
  refine AW_seq ?_
  refine AW_block ?_
  refine AW_seq ?_
  refine AW_region ?_
  refine AL_p (x_move rfl rfl) ?_
  refine AL_p (x_assign rfl rfl) ?_
  refine AL_nil ?_
  refine AW_seq ?_
  refine AW_region ?_
  refine AL_p (x_move rfl rfl) ?_
  refine AL_p (x_move rfl rfl) ?_
  refine AL_p (x_move rfl rfl) ?_
  refine AL_p (x_oindex (n := 6) rfl rfl rfl rfl (by kernel_rfl) rfl (k := k) rfl (by omega)) ?_
  refine AL_p (x_oloadN (n := 6) rfl rfl rfl (by kernel_rfl) (by omega) rfl rfl) ?_
  refine AL_bc (x_call (ks := [200]) (L := [(200, some (.box [.c (.int .i64 e.epoch), .c (.int .i64 e.prio), .own 201, .own 202, .own 203, .c (.int .i64 e.hits)])), (201, some (.arr 3 (intE .i64) e.mat.v true)), (202, some (.arr 3 (intE .i64) e.mat.m true)), (203, some (.arr 114 actE e.acts true))]) (L' := [(200, some (.box [.c (.int .i64 e.epoch), .c (.int .i64 e.prio), .own 201, .own 202, .own 203, .c (.int .i64 e.hits)])), (201, some (.arr 3 (intE .i64) e.mat.v true)), (202, some (.arr 3 (intE .i64) e.mat.m true)), (203, some (.arr 114 actE e.acts true))]) rfl rfl rfl (keyC_c (es[k]'(by omega)) e) rfl AllV.rf (caught_of rfl) rfl rfl rfl (by repeat (first | exact trivial | refine ⟨rfl, ?_⟩)) rfl) (fun b16 h16 => ?_)
  refine AL_nil ?_
  cases b16
  · try simp only [tdy] at h16
    refine AW_condF rfl ?_
    refine AW_skip ?_
    refine AW_region ?_
    refine AL_p (x_add rfl rfl rfl (IntWalk.i64_in _ (by omega))) ?_
    refine AL_p (x_move rfl rfl) ?_
    refine AL_nil ?_
    refine ⟨⟨k + 1, ⟨by omega, hn.succ (by omega) h16⟩⟩, rn [], ?_, by dsimp only; omega⟩
    exact ⟨by (repeat refine ⟨⟨_, rfl, by first | exact VLe.rf | exact vle_int (by dsimp only; omega)⟩, ?_⟩); exact trivial, by (repeat refine ⟨⟨_, rfl, by first | exact BLe.rf | exact BLe.box AllC.rf | exact BLe.arr (by exact rfl)⟩, ?_⟩); exact trivial, by repeat (first | exact trivial | refine ⟨⟨rfl, by first | (left; intro h; cases h) | (right; rfl), by first | exact (fun _ h => ⟨_, h⟩) | exact (fun _ _ => ⟨_, rfl⟩) | (intro _ h; cases h)⟩, ?_⟩), rfl⟩
  try simp only [tdy] at h16
  have hno : firstIdx (fun x => sameKeyB x e) es = (k : Int) := firstIdx_at (by omega) (fun j hj hjk => hn j hj hjk) h16
  refine AW_condT rfl ?_
  refine AW_seq ?_
  refine AW_region ?_
  refine AL_p (x_move rfl rfl) ?_
  refine AL_p (x_assign rfl rfl) ?_
  refine AL_nil ?_
  refine AW_ret (BQ_ret (BQ_ret ?_))
  exact ⟨rn [], ⟨⟨⟨_, rfl, vle_int (by rw [hno])⟩, trivial⟩, ⟨⟨_, rfl, BLe.rf⟩, ⟨_, rfl, BLe.rf⟩, ⟨_, rfl, BLe.rf⟩, ⟨_, rfl, BLe.rf⟩, ⟨_, rfl, BLe.rf⟩, trivial⟩, by repeat (first | exact trivial | refine ⟨⟨rfl, by first | (left; intro h; cases h) | (right; rfl), by first | exact (fun _ h => ⟨_, h⟩) | exact (fun _ _ => ⟨_, rfl⟩) | (intro _ h; cases h)⟩, ?_⟩), rfl⟩⟩

set_option maxHeartbeats 4000000 in
theorem befC_c (x e : Entryt) : AC Try.prog 99 [.agg (entryC x), .one (.ptr 200 0)] [(200, some (.box [.c (.int .i64 e.epoch), .c (.int .i64 e.prio), .own 201, .own 202, .own 203, .c (.int .i64 e.hits)])), (201, some (.arr 3 (intE .i64) e.mat.v true)), (202, some (.arr 3 (intE .i64) e.mat.m true)), (203, some (.arr 114 actE e.acts true))] (.one (.c (.bool (aheadB e x)))) [(200, some (.box [.c (.int .i64 e.epoch), .c (.int .i64 e.prio), .own 201, .own 202, .own 203, .c (.int .i64 e.hits)])), (201, some (.arr 3 (intE .i64) e.mat.v true)), (202, some (.arr 3 (intE .i64) e.mat.m true)), (203, some (.arr 114 actE e.acts true))] := by
  refine AC_body1 Try.func99 rfl rfl Try.ntmps99 rfl Try.results99 ?_
  refine AW_seq ?_
  refine AW_region ?_
  refine AL_p (x_box 100 rfl rfl rfl rfl rfl rfl rfl) ?_
  refine AL_p (x_assign rfl rfl) ?_
  refine AL_nil ?_
  refine AW_seq ?_
  refine AW_region ?_
  refine AL_p (x_loadN (n := 6) rfl rfl rfl (by kernel_rfl) rfl rfl) ?_
  refine AL_p (x_loadN (n := 6) rfl rfl rfl (by kernel_rfl) rfl rfl) ?_
  refine AL_bc (x_callR rfl rfl rfl (beforeI_c e x) rfl AllV.rf rfl rfl rfl rfl rfl) (fun b6 h6 => ?_)
  refine AL_p (x_assign rfl rfl) ?_
  refine AL_nil ?_
  refine AW_ret ?_
  cases b6
  rotate_left
  · try simp only [tdy] at h6
    exact ⟨rn [], ⟨⟨⟨_, rfl, vle_bool (by (symm; assumption))⟩, trivial⟩, ⟨⟨_, rfl, BLe.rf⟩, ⟨_, rfl, BLe.rf⟩, ⟨_, rfl, BLe.rf⟩, ⟨_, rfl, BLe.rf⟩, trivial⟩, by repeat (first | exact trivial | refine ⟨⟨rfl, by first | (left; intro h; cases h) | (right; rfl), by first | exact (fun _ h => ⟨_, h⟩) | exact (fun _ _ => ⟨_, rfl⟩) | (intro _ h; cases h)⟩, ?_⟩), rfl⟩⟩
  try simp only [tdy] at h6
  exact ⟨rn [], ⟨⟨⟨_, rfl, vle_bool (by (symm; assumption))⟩, trivial⟩, ⟨⟨_, rfl, BLe.rf⟩, ⟨_, rfl, BLe.rf⟩, ⟨_, rfl, BLe.rf⟩, ⟨_, rfl, BLe.rf⟩, trivial⟩, by repeat (first | exact trivial | refine ⟨⟨rfl, by first | (left; intro h; cases h) | (right; rfl), by first | exact (fun _ h => ⟨_, h⟩) | exact (fun _ _ => ⟨_, rfl⟩) | (intro _ h; cases h)⟩, ?_⟩), rfl⟩⟩

set_option maxHeartbeats 4000000 in
theorem befIx_c (es : List Entryt) (e : Entryt) (hl : es.length ≤ 1048576) : AC Try.prog 96 [.one (.own 300), .one (.clo 99 [200])] [(300, some (.arr 74 entryE es true)), (200, some (.box [.c (.int .i64 e.epoch), .c (.int .i64 e.prio), .own 201, .own 202, .own 203, .c (.int .i64 e.hits)])), (201, some (.arr 3 (intE .i64) e.mat.v true)), (202, some (.arr 3 (intE .i64) e.mat.m true)), (203, some (.arr 114 actE e.acts true))] (.one (.c (.int .i64 (firstIdx (fun x => aheadB e x) es)))) [(300, some (.arr 74 entryE es true)), (200, some (.box [.c (.int .i64 e.epoch), .c (.int .i64 e.prio), .own 201, .own 202, .own 203, .c (.int .i64 e.hits)])), (201, some (.arr 3 (intE .i64) e.mat.v true)), (202, some (.arr 3 (intE .i64) e.mat.m true)), (203, some (.arr 114 actE e.acts true))] := by
  refine AC_body1 Try.func96 rfl rfl Try.ntmps96 rfl Try.results96 ?_
  refine AW_seq ?_
  refine AW_region ?_
  refine AL_p (x_assign rfl rfl) ?_
  refine AL_nil ?_
  refine AW_seq ?_
  refine AW_seq ?_
  refine AW_region ?_
  refine AL_p (x_move rfl rfl) ?_
  refine AL_p (x_olen (E := 74) (n := 6) rfl rfl rfl (by kernel_rfl)) ?_
  refine AL_p (x_move rfl rfl) ?_
  refine AL_nil ?_
  refine AW_block ?_
  refine AW_loop2 (ι := {q : Nat // q ≤ es.length ∧ NoneTo (fun x => aheadB e x) es q}) (fun p => [(8, .one (.c (.int .i64 ((p.1) : Int))))]) (fun p => []) [0, 1, 7] [200, 201, 202, 203, 300] (fun p => es.length - (p.1)) ⟨0, ⟨by omega, .zero⟩⟩ (rn []) ?_ ?_
  exact ⟨by (repeat refine ⟨⟨_, rfl, by first | exact VLe.rf | exact vle_int (by dsimp only; omega)⟩, ?_⟩); exact trivial, by (repeat refine ⟨⟨_, rfl, by first | exact BLe.rf | exact BLe.box AllC.rf | exact BLe.arr (by exact rfl)⟩, ?_⟩); exact trivial, by repeat (first | exact trivial | refine ⟨⟨rfl, by first | (left; intro h; cases h) | (right; rfl), by first | exact (fun _ h => ⟨_, h⟩) | exact (fun _ _ => ⟨_, rfl⟩) | (intro _ h; cases h)⟩, ?_⟩), rfl⟩
  rintro ⟨k, hinv⟩
  dsimp only
  obtain ⟨hk, hn⟩ := hinv
  have hk : k ≤ es.length := hk
  refine AW_seq ?_
  refine AW_region ?_
  refine AL_b (x_lss rfl rfl rfl) (fun b9 h9 => ?_)
  refine AL_nil ?_
  refine AW_seq ?_
  cases b9
  · try simp only [tdy] at h9
    obtain rfl : k = es.length := by omega
    have hno : firstIdx (fun x => aheadB e x) es = -1 := hn.none
    refine AW_condF rfl ?_
    refine AW_exit (BQ_hit ?_)
    refine AW_seq ?_
    refine AW_region ?_
    refine AL_p (x_assign rfl rfl) ?_
    refine AL_nil ?_
    refine AW_ret ?_
    exact ⟨rn [], ⟨⟨⟨_, rfl, vle_int (by rw [hno])⟩, trivial⟩, ⟨⟨_, rfl, BLe.rf⟩, ⟨_, rfl, BLe.rf⟩, ⟨_, rfl, BLe.rf⟩, ⟨_, rfl, BLe.rf⟩, ⟨_, rfl, BLe.rf⟩, trivial⟩, by repeat (first | exact trivial | refine ⟨⟨rfl, by first | (left; intro h; cases h) | (right; rfl), by first | exact (fun _ h => ⟨_, h⟩) | exact (fun _ _ => ⟨_, rfl⟩) | (intro _ h; cases h)⟩, ?_⟩), rfl⟩⟩
  try simp only [tdy] at h9
  refine AW_condT rfl ?_
  refine AW_skip ?_
  refine AW_seq ?_
  refine AW_block ?_
  refine AW_seq ?_
  refine AW_region ?_
  refine AL_p (x_move rfl rfl) ?_
  refine AL_p (x_assign rfl rfl) ?_
  refine AL_nil ?_
  refine AW_seq ?_
  refine AW_region ?_
  refine AL_p (x_move rfl rfl) ?_
  refine AL_p (x_move rfl rfl) ?_
  refine AL_p (x_move rfl rfl) ?_
  refine AL_p (x_oindex (n := 6) rfl rfl rfl rfl (by kernel_rfl) rfl (k := k) rfl (by omega)) ?_
  refine AL_p (x_oloadN (n := 6) rfl rfl rfl (by kernel_rfl) (by omega) rfl rfl) ?_
  refine AL_bc (x_call (ks := [200]) (L := [(200, some (.box [.c (.int .i64 e.epoch), .c (.int .i64 e.prio), .own 201, .own 202, .own 203, .c (.int .i64 e.hits)])), (201, some (.arr 3 (intE .i64) e.mat.v true)), (202, some (.arr 3 (intE .i64) e.mat.m true)), (203, some (.arr 114 actE e.acts true))]) (L' := [(200, some (.box [.c (.int .i64 e.epoch), .c (.int .i64 e.prio), .own 201, .own 202, .own 203, .c (.int .i64 e.hits)])), (201, some (.arr 3 (intE .i64) e.mat.v true)), (202, some (.arr 3 (intE .i64) e.mat.m true)), (203, some (.arr 114 actE e.acts true))]) rfl rfl rfl (befC_c (es[k]'(by omega)) e) rfl AllV.rf (caught_of rfl) rfl rfl rfl (by repeat (first | exact trivial | refine ⟨rfl, ?_⟩)) rfl) (fun b16 h16 => ?_)
  refine AL_nil ?_
  cases b16
  · try simp only [tdy] at h16
    refine AW_condF rfl ?_
    refine AW_skip ?_
    refine AW_region ?_
    refine AL_p (x_add rfl rfl rfl (IntWalk.i64_in _ (by omega))) ?_
    refine AL_p (x_move rfl rfl) ?_
    refine AL_nil ?_
    refine ⟨⟨k + 1, ⟨by omega, hn.succ (by omega) h16⟩⟩, rn [], ?_, by dsimp only; omega⟩
    exact ⟨by (repeat refine ⟨⟨_, rfl, by first | exact VLe.rf | exact vle_int (by dsimp only; omega)⟩, ?_⟩); exact trivial, by (repeat refine ⟨⟨_, rfl, by first | exact BLe.rf | exact BLe.box AllC.rf | exact BLe.arr (by exact rfl)⟩, ?_⟩); exact trivial, by repeat (first | exact trivial | refine ⟨⟨rfl, by first | (left; intro h; cases h) | (right; rfl), by first | exact (fun _ h => ⟨_, h⟩) | exact (fun _ _ => ⟨_, rfl⟩) | (intro _ h; cases h)⟩, ?_⟩), rfl⟩
  try simp only [tdy] at h16
  have hno : firstIdx (fun x => aheadB e x) es = (k : Int) := firstIdx_at (by omega) (fun j hj hjk => hn j hj hjk) h16
  refine AW_condT rfl ?_
  refine AW_seq ?_
  refine AW_region ?_
  refine AL_p (x_move rfl rfl) ?_
  refine AL_p (x_assign rfl rfl) ?_
  refine AL_nil ?_
  refine AW_ret (BQ_ret (BQ_ret ?_))
  exact ⟨rn [], ⟨⟨⟨_, rfl, vle_int (by rw [hno])⟩, trivial⟩, ⟨⟨_, rfl, BLe.rf⟩, ⟨_, rfl, BLe.rf⟩, ⟨_, rfl, BLe.rf⟩, ⟨_, rfl, BLe.rf⟩, ⟨_, rfl, BLe.rf⟩, trivial⟩, by repeat (first | exact trivial | refine ⟨⟨rfl, by first | (left; intro h; cases h) | (right; rfl), by first | exact (fun _ h => ⟨_, h⟩) | exact (fun _ _ => ⟨_, rfl⟩) | (intro _ h; cases h)⟩, ?_⟩), rfl⟩⟩

set_option maxHeartbeats 4000000 in
theorem tabAddI_c0 (t : Tablet) (e : Entryt) (ht : smallTable t) (he : smallEntry e) : AC Try.prog 39 [.agg (tableC t), .agg (entryC e)] [] (.tup [.agg [.c (.int .i64 (tableAdd t e).1.cap), .own 0], .one (.c (.int .i64 (tableAdd t e).2))]) [(0, some (.arr 74 entryE (tableAdd t e).1.entries true))] := by
  refine AC_bodyCT (n := 2) (k := 9) (T := [(4, .one (.ptr 9 0)), (5, .one (.c (.int .i64 (tableAdd t e).2)))]) (Lf := ((9, some (.box [.c (.int .i64 (tableAdd t e).1.cap), .own 0])) :: [(0, some (.arr 74 entryE (tableAdd t e).1.entries true))])) Try.func39 rfl rfl Try.ntmps39 rfl Try.results39 rfl rfl rfl rfl (by kernel_rfl) rfl rfl ⟨trivial, (by repeat (first | exact trivial | refine ⟨⟨_, rfl, BLe.rf⟩, ?_⟩)), (by repeat (first | exact trivial | refine ⟨⟨rfl, by first | (left; intro h; cases h) | (right; rfl), by first | exact (fun _ h => ⟨_, h⟩) | exact (fun _ _ => ⟨_, rfl⟩) | (intro _ h; cases h)⟩, ?_⟩)), rfl⟩ ?_
  refine AW_seq ?_
  refine AW_region ?_
  refine AL_p (x_box 100 rfl rfl rfl rfl rfl rfl rfl) ?_
  refine AL_p (x_box 200 rfl rfl rfl rfl rfl rfl rfl) ?_
  refine AL_p (x_alloc (z := .agg #[.int .i64 0, .slice none 0 0]) 101 rfl (by kernel_rfl) rfl rfl rfl rfl) ?_
  refine AL_p (x_assign rfl rfl) ?_
  refine AL_nil ?_
  refine AW_seq ?_
  refine AW_seq ?_
  refine AW_region ?_
  refine AL_p (x_loadN (n := 2) rfl rfl rfl (by kernel_rfl) rfl rfl) ?_
  refine AL_b (x_call0 rfl rfl rfl (tableOkI_c t) rfl rfl) (fun b9 h9 => ?_)
  refine AL_p (x_not rfl rfl) ?_
  refine AL_p (x_move rfl rfl) ?_
  cases b9
  · try simp only [tdy] at h9
    have hno := tableAdd_no (t := t) (e := e) (by simp [h9])
    refine AL_o rfl rfl rfl rfl ?_
    refine AL_o rfl rfl rfl rfl ?_
    refine AL_o rfl rfl rfl rfl ?_
    refine AL_p (x_pickT rfl rfl rfl) ?_
    refine AL_nil ?_
    refine AW_condT rfl ?_
    refine AW_seq ?_
    refine AW_region ?_
    refine AL_p (x_build (zs := [.int .i64 0, .slice none 0 0]) (places := [(0, 1), (1, 1)]) rfl (by kernel_rfl) rfl rfl rfl rfl rfl) ?_
    refine AL_p (x_store (n := 2) rfl rfl rfl rfl (by kernel_rfl) rfl rfl rfl) ?_
    refine AL_p (x_assign rfl rfl) ?_
    refine AL_nil ?_
    refine AW_adopt (T := 74) (e := entryE) 102 101 1 rfl rfl rfl rfl rfl ?_
    refine AW_ret ?_
    exact ⟨rn [(9, 101), (0, 102)], ⟨⟨⟨_, rfl, VLe.rf⟩, ⟨_, rfl, by first | (refine vle_int ?_; rw [hno]; done) | exact VLe.rf | (refine vle_int ?_; rw [hno]; apply Eq.symm; assumption) | exact vle_int (by rw [hno])⟩, trivial⟩, ⟨⟨_, rfl, by first | (refine ble_eq ?_; rw [hno]; done) | (refine ble_eq ?_; rw [hno]; rfl) | exact BLe.rf⟩, ⟨_, rfl, by first | (refine BLe.arr ?_; rw [hno]; done) | (refine BLe.arr ?_; rw [hno]; rfl) | exact BLe.rf⟩, trivial⟩, trivial, rfl⟩⟩
  try simp only [tdy] at h9
  refine AL_g rfl rfl (x_loadN (n := 6) rfl rfl rfl (by kernel_rfl) rfl rfl) ?_
  refine AL_gb rfl rfl (x_call0 rfl rfl rfl (entryI_c e.epoch e.prio e.hits e.mat e.acts) rfl rfl) (fun b13 h13 => ?_)
  refine AL_g rfl rfl (x_not rfl rfl) ?_
  refine AL_p (x_pickF rfl rfl rfl) ?_
  refine AL_nil ?_
  cases b13
  · try simp only [tdy] at h13
    have hno := tableAdd_no (t := t) (e := e) (by rw [h9]; exact h13)
    refine AW_condT rfl ?_
    refine AW_seq ?_
    refine AW_region ?_
    refine AL_p (x_build (zs := [.int .i64 0, .slice none 0 0]) (places := [(0, 1), (1, 1)]) rfl (by kernel_rfl) rfl rfl rfl rfl rfl) ?_
    refine AL_p (x_store (n := 2) rfl rfl rfl rfl (by kernel_rfl) rfl rfl rfl) ?_
    refine AL_p (x_assign rfl rfl) ?_
    refine AL_nil ?_
    refine AW_adopt (T := 74) (e := entryE) 102 101 1 rfl rfl rfl rfl rfl ?_
    refine AW_ret ?_
    exact ⟨rn [(9, 101), (0, 102)], ⟨⟨⟨_, rfl, VLe.rf⟩, ⟨_, rfl, by first | (refine vle_int ?_; rw [hno]; done) | exact VLe.rf | (refine vle_int ?_; rw [hno]; apply Eq.symm; assumption) | exact vle_int (by rw [hno])⟩, trivial⟩, ⟨⟨_, rfl, by first | (refine ble_eq ?_; rw [hno]; done) | (refine ble_eq ?_; rw [hno]; rfl) | exact BLe.rf⟩, ⟨_, rfl, by first | (refine BLe.arr ?_; rw [hno]; done) | (refine BLe.arr ?_; rw [hno]; rfl) | exact BLe.rf⟩, trivial⟩, trivial, rfl⟩⟩
  try simp only [tdy] at h13
  have hob : entryOkB e = true := h13
  have hok := tableAdd_ok (t := t) (e := e) (by rw [h9, hob]; rfl)
  have hmx := tableB_max h9
  have hpl := posA_le (l := t.entries) (e := e)
  refine AW_condF rfl ?_
  refine AW_skip ?_
  refine AW_seq ?_
  refine AW_region ?_
  refine AL_p (x_loadN (n := 2) rfl rfl rfl (by kernel_rfl) rfl rfl) ?_
  refine AL_p (x_call1 rfl rfl rfl (copyTabI_c t ht 300) rfl rfl rfl rfl) ?_
  refine AL_p (x_store (n := 2) rfl rfl rfl rfl (by kernel_rfl) rfl rfl rfl) ?_
  refine AL_nil ?_
  refine AW_seq ?_
  refine AW_region ?_
  refine AL_p (x_loadN (n := 6) rfl rfl rfl (by kernel_rfl) rfl rfl) ?_
  refine AL_p (x_callR rfl rfl rfl (AC.renum (res := .agg [.c (.int .i64 e.epoch), .c (.int .i64 e.prio), .own 201, .own 202, .own 203, .c (.int .i64 e.hits)]) (L := [(201, some (.arr 3 (intE .i64) e.mat.v true)), (202, some (.arr 3 (intE .i64) e.mat.m true)), (203, some (.arr 114 actE e.acts true))]) (r := rn [(201, 0), (202, 1), (203, 2)]) (copyEntI_c e he) ⟨⟨_, rfl, BLe.rf⟩, ⟨_, rfl, BLe.rf⟩, ⟨_, rfl, BLe.rf⟩, trivial⟩ rfl) rfl AllV.rf rfl rfl rfl rfl rfl) ?_
  refine AL_p (x_store (n := 6) rfl rfl rfl rfl (by kernel_rfl) rfl rfl rfl) ?_
  refine AL_nil ?_
  refine AW_seq ?_
  refine AW_seq ?_
  refine AW_region ?_
  refine AL_p (x_field (off := 1) (o' := 1) rfl rfl rfl (by kernel_rfl) rfl) ?_
  refine AL_p (x_load1 rfl rfl rfl (by kernel_rfl) rfl) ?_
  refine AL_p (x_makeFunc (ks := [200]) rfl rfl) ?_
  refine AL_p (x_call (ks := []) (L := [(300, some _), (200, some (.box [.c (.int .i64 e.epoch), .c (.int .i64 e.prio), .own 201, .own 202, .own 203, .c (.int .i64 e.hits)])), (201, some (.arr 3 (intE .i64) e.mat.v true)), (202, some (.arr 3 (intE .i64) e.mat.m true)), (203, some (.arr 114 actE e.acts true))]) (L' := [(300, some _), (200, some (.box [.c (.int .i64 e.epoch), .c (.int .i64 e.prio), .own 201, .own 202, .own 203, .c (.int .i64 e.hits)])), (201, some (.arr 3 (intE .i64) e.mat.v true)), (202, some (.arr 3 (intE .i64) e.mat.m true)), (203, some (.arr 114 actE e.acts true))]) rfl rfl rfl (keyIx_c t.entries e ht.1) rfl AllV.rf (caught_of rfl) rfl rfl rfl ⟨rfl, rfl, rfl, rfl, rfl, trivial⟩ rfl) ?_
  refine AL_p (x_assign rfl rfl) ?_
  refine AL_nil ?_
  refine AW_seq ?_
  refine AW_region ?_
  refine AL_p (x_move rfl rfl) ?_
  refine AL_b (x_geq rfl rfl rfl) (fun b26 h26 => ?_)
  refine AL_nil ?_
  cases b26
  rotate_left
  · try simp only [tdy] at h26
    have hkl := keyIdx_lt (l := t.entries) (e := e) h26
    have hno := hok.trans (if_pos (show 0 ≤ (keyIdx t.entries e) from h26))
    have hk0 : 0 ≤ (keyIdx t.entries e) := h26
    refine AW_condT rfl ?_
    refine AW_seq ?_
    refine AW_slot (t := 6) (y := .one (.c (.int .i64 ((keyIdx t.entries e).toNat : Int)))) rfl (by rw [Int.toNat_of_nonneg (by omega)]; rfl) ?_
    refine AW_region ?_
    refine AL_p (x_field (off := 1) (o' := 1) rfl rfl rfl (by kernel_rfl) rfl) ?_
    refine AL_p (x_load1 rfl rfl rfl (by kernel_rfl) rfl) ?_
    refine AL_p (x_move rfl rfl) ?_
    refine AL_p (x_loadN (n := 6) rfl rfl rfl (by kernel_rfl) rfl rfl) ?_
    refine AL_p (x_oindex (n := 6) rfl rfl rfl rfl (by kernel_rfl) rfl (k := (keyIdx t.entries e).toNat) rfl (by omega)) ?_
    refine AL_p (x_ostore (e) rfl rfl rfl rfl (by kernel_rfl) rfl rfl rfl rfl FitL.rf rfl rfl (by first | omega | (rw [filledTo_len (by omega)]; omega) | (simp; omega))) ?_
    refine AL_nil ?_
    refine AW_seq ?_
    refine AW_region ?_
    refine AL_p (x_loadN (n := 2) rfl rfl rfl (by kernel_rfl) rfl rfl) ?_
    refine AL_p (x_store (n := 2) rfl rfl rfl rfl (by kernel_rfl) rfl rfl rfl) ?_
    refine AL_p (x_assign rfl rfl) ?_
    refine AL_nil ?_
    refine AW_ret ?_
    exact ⟨rn [(9, 101), (0, 300)], ⟨⟨⟨_, rfl, VLe.rf⟩, ⟨_, rfl, by first | (refine vle_int ?_; rw [hno]; done) | exact VLe.rf | (refine vle_int ?_; rw [hno]; apply Eq.symm; assumption) | exact vle_int (by rw [hno])⟩, trivial⟩, ⟨⟨_, rfl, by first | (refine ble_eq ?_; rw [hno]; done) | (refine ble_eq ?_; rw [hno]; rfl) | exact BLe.rf⟩, ⟨_, rfl, by first | (refine BLe.arr ?_; rw [hno]; done) | (refine BLe.arr ?_; rw [hno]; rfl) | exact BLe.rf⟩, trivial⟩, trivial, rfl⟩⟩
  try simp only [tdy] at h26
  have hk0 : (keyIdx t.entries e) < 0 := by show firstIdx _ _ < 0; omega
  refine AW_condF rfl ?_
  refine AW_skip ?_
  refine AW_seq ?_
  refine AW_seq ?_
  refine AW_region ?_
  refine AL_p (x_field (off := 1) (o' := 1) rfl rfl rfl (by kernel_rfl) rfl) ?_
  refine AL_p (x_load1 rfl rfl rfl (by kernel_rfl) rfl) ?_
  refine AL_p (x_olen (E := 74) (n := 6) rfl rfl rfl (by kernel_rfl)) ?_
  refine AL_p (x_field (off := 0) (o' := 0) rfl rfl rfl (by kernel_rfl) rfl) ?_
  refine AL_p (x_load1 rfl rfl rfl (by kernel_rfl) rfl) ?_
  refine AL_b (x_eql rfl rfl rfl) (fun b38 h38 => ?_)
  refine AL_nil ?_
  cases b38
  rotate_left
  · try simp only [tdy] at h38
    have hno := tableAdd_full h9 hob hk0 h38
    refine AW_condT rfl ?_
    refine AW_seq ?_
    refine AW_region ?_
    refine AL_p (x_build (zs := [.int .i64 0, .slice none 0 0]) (places := [(0, 1), (1, 1)]) rfl (by kernel_rfl) rfl rfl rfl rfl rfl) ?_
    refine AL_p (x_store (n := 2) rfl rfl rfl rfl (by kernel_rfl) rfl rfl rfl) ?_
    refine AL_p (x_assign rfl rfl) ?_
    refine AL_nil ?_
    refine AW_adopt (T := 74) (e := entryE) 102 101 1 rfl rfl rfl rfl rfl ?_
    refine AW_ret ?_
    exact ⟨rn [(9, 101), (0, 102)], ⟨⟨⟨_, rfl, VLe.rf⟩, ⟨_, rfl, by first | (refine vle_int ?_; rw [hno]; done) | exact VLe.rf | (refine vle_int ?_; rw [hno]; apply Eq.symm; assumption) | exact vle_int (by rw [hno])⟩, trivial⟩, ⟨⟨_, rfl, by first | (refine ble_eq ?_; rw [hno]; done) | (refine ble_eq ?_; rw [hno]; rfl) | exact BLe.rf⟩, ⟨_, rfl, by first | (refine BLe.arr ?_; rw [hno]; done) | (refine BLe.arr ?_; rw [hno]; rfl) | exact BLe.rf⟩, trivial⟩, trivial, rfl⟩⟩
  try simp only [tdy] at h38
  have hno := tableAdd_put h9 hob hk0 h38
  refine AW_condF rfl ?_
  refine AW_skip ?_
  refine AW_seq ?_
  refine AW_region ?_
  refine AL_p (x_field (off := 1) (o' := 1) rfl rfl rfl (by kernel_rfl) rfl) ?_
  refine AL_p (x_load1 rfl rfl rfl (by kernel_rfl) rfl) ?_
  refine AL_p (x_makeFunc (ks := [200]) rfl rfl) ?_
  refine AL_p (x_call (ks := []) (L := [(300, some _), (200, some (.box [.c (.int .i64 e.epoch), .c (.int .i64 e.prio), .own 201, .own 202, .own 203, .c (.int .i64 e.hits)])), (201, some (.arr 3 (intE .i64) e.mat.v true)), (202, some (.arr 3 (intE .i64) e.mat.m true)), (203, some (.arr 114 actE e.acts true))]) (L' := [(300, some _), (200, some (.box [.c (.int .i64 e.epoch), .c (.int .i64 e.prio), .own 201, .own 202, .own 203, .c (.int .i64 e.hits)])), (201, some (.arr 3 (intE .i64) e.mat.v true)), (202, some (.arr 3 (intE .i64) e.mat.m true)), (203, some (.arr 114 actE e.acts true))]) rfl rfl rfl (befIx_c t.entries e ht.1) rfl AllV.rf (caught_of rfl) rfl rfl rfl ⟨rfl, rfl, rfl, rfl, rfl, trivial⟩ rfl) ?_
  refine AL_p (x_assign rfl rfl) ?_
  refine AL_nil ?_
  refine AW_seq ?_
  refine AW_seq ?_
  refine AW_region ?_
  refine AL_p (x_move rfl rfl) ?_
  refine AL_b (x_lss rfl rfl rfl) (fun b45 h45 => ?_)
  refine AL_nil ?_
  cases b45
  · try simp only [tdy] at h45
    have hpe := (posA_pos (l := t.entries) (e := e) (by omega)).1.symm
    refine AW_condF rfl ?_
    refine AW_skip ?_
    refine AW_seq ?_
    refine AW_slot (t := 7) (y := .one (.c (.int .i64 ((posA t.entries e) : Int)))) rfl (by rw [hpe]) ?_
    refine AW_region ?_
    refine AL_p (x_field (off := 1) (o' := 1) rfl rfl rfl (by kernel_rfl) rfl) ?_
    refine AL_p (x_load1 rfl rfl rfl (by kernel_rfl) rfl) ?_
    refine AL_p (x_move rfl rfl) ?_
    refine AL_p (x_loadN (n := 6) rfl rfl rfl (by kernel_rfl) rfl rfl) ?_
    refine AL_p (y_bslice (E := 74) (e := entryE) [.tmp 52] ([e]) 103 rfl rfl rfl rfl rfl rfl rfl rfl FitL.rf rfl rfl rfl rfl rfl rfl (by kernel_rfl)) ?_
    refine AL_p (x_call (ks := []) (L := [(300, some _), (103, some _)]) (L' := [(300, none), (103, none), (104, some _)]) rfl rfl rfl (AT.lend2 (insEntry_t rfl (i := (posA t.entries e)) (zs := [e]) (by omega) (by simp) (by simp) (by omega)) 300 103 104 rfl rfl rfl (fun _ => rfl)) rfl AllV.rf (caught_of rfl) rfl rfl rfl ⟨rfl, rfl, trivial⟩ rfl) ?_
    refine AL_p (x_field (off := 1) (o' := 1) rfl rfl rfl (by kernel_rfl) rfl) ?_
    refine AL_p (x_store (n := 1) rfl rfl rfl rfl (by kernel_rfl) rfl rfl rfl) ?_
    refine AL_nil ?_
    refine AW_seq ?_
    refine AW_region ?_
    refine AL_p (x_loadN (n := 2) rfl rfl rfl (by kernel_rfl) rfl rfl) ?_
    refine AL_p (x_store (n := 2) rfl rfl rfl rfl (by kernel_rfl) rfl rfl rfl) ?_
    refine AL_p (x_assign rfl rfl) ?_
    refine AL_nil ?_
    refine AW_ret ?_
    exact ⟨rn [(9, 101), (0, 104)], ⟨⟨⟨_, rfl, VLe.rf⟩, ⟨_, rfl, by first | (refine vle_int ?_; rw [hno]; done) | exact VLe.rf | (refine vle_int ?_; rw [hno]; apply Eq.symm; assumption) | exact vle_int (by rw [hno])⟩, trivial⟩, ⟨⟨_, rfl, by first | (refine ble_eq ?_; rw [hno]; done) | (refine ble_eq ?_; rw [hno]; rfl) | exact BLe.rf⟩, ⟨_, rfl, by first | (refine BLe.arr ?_; rw [hno]; done) | (refine BLe.arr ?_; rw [hno]; rfl) | exact BLe.rf⟩, trivial⟩, trivial, rfl⟩⟩
  try simp only [tdy] at h45
  have hpe : (((posA t.entries e) : Nat) : Int) = (t.entries.length : Int) := by rw [posA_none h45]
  refine AW_condT rfl ?_
  refine AW_region ?_
  refine AL_p (x_field (off := 1) (o' := 1) rfl rfl rfl (by kernel_rfl) rfl) ?_
  refine AL_p (x_load1 rfl rfl rfl (by kernel_rfl) rfl) ?_
  refine AL_p (x_olen (E := 74) (n := 6) rfl rfl rfl (by kernel_rfl)) ?_
  refine AL_p (x_assign rfl rfl) ?_
  refine AL_nil ?_
  refine AW_seq ?_
  refine AW_slot (t := 7) (y := .one (.c (.int .i64 ((posA t.entries e) : Int)))) rfl (by rw [hpe]) ?_
  refine AW_region ?_
  refine AL_p (x_field (off := 1) (o' := 1) rfl rfl rfl (by kernel_rfl) rfl) ?_
  refine AL_p (x_load1 rfl rfl rfl (by kernel_rfl) rfl) ?_
  refine AL_p (x_move rfl rfl) ?_
  refine AL_p (x_loadN (n := 6) rfl rfl rfl (by kernel_rfl) rfl rfl) ?_
  refine AL_p (y_bslice (E := 74) (e := entryE) [.tmp 52] ([e]) 103 rfl rfl rfl rfl rfl rfl rfl rfl FitL.rf rfl rfl rfl rfl rfl rfl (by kernel_rfl)) ?_
  refine AL_p (x_call (ks := []) (L := [(300, some _), (103, some _)]) (L' := [(300, none), (103, none), (104, some _)]) rfl rfl rfl (AT.lend2 (insEntry_t rfl (i := (posA t.entries e)) (zs := [e]) (by omega) (by simp) (by simp) (by omega)) 300 103 104 rfl rfl rfl (fun _ => rfl)) rfl AllV.rf (caught_of rfl) rfl rfl rfl ⟨rfl, rfl, trivial⟩ rfl) ?_
  refine AL_p (x_field (off := 1) (o' := 1) rfl rfl rfl (by kernel_rfl) rfl) ?_
  refine AL_p (x_store (n := 1) rfl rfl rfl rfl (by kernel_rfl) rfl rfl rfl) ?_
  refine AL_nil ?_
  refine AW_seq ?_
  refine AW_region ?_
  refine AL_p (x_loadN (n := 2) rfl rfl rfl (by kernel_rfl) rfl rfl) ?_
  refine AL_p (x_store (n := 2) rfl rfl rfl rfl (by kernel_rfl) rfl rfl rfl) ?_
  refine AL_p (x_assign rfl rfl) ?_
  refine AL_nil ?_
  refine AW_ret ?_
  exact ⟨rn [(9, 101), (0, 104)], ⟨⟨⟨_, rfl, VLe.rf⟩, ⟨_, rfl, by first | (refine vle_int ?_; rw [hno]; done) | exact VLe.rf | (refine vle_int ?_; rw [hno]; apply Eq.symm; assumption) | exact vle_int (by rw [hno])⟩, trivial⟩, ⟨⟨_, rfl, by first | (refine ble_eq ?_; rw [hno]; done) | (refine ble_eq ?_; rw [hno]; rfl) | exact BLe.rf⟩, ⟨_, rfl, by first | (refine BLe.arr ?_; rw [hno]; done) | (refine BLe.arr ?_; rw [hno]; rfl) | exact BLe.rf⟩, trivial⟩, trivial, rfl⟩⟩
theorem tabAddI_c (t : Tablet) (e : Entryt) (ht : smallTable t) (he : smallEntry e) (k : Nat) : AC Try.prog 39 [.agg (tableC t), .agg (entryC e)] [] (.tup [.agg [.c (.int .i64 (tableAdd t e).1.cap), .own k], .one (.c (.int .i64 (tableAdd t e).2))]) [(k, some (.arr 74 entryE (tableAdd t e).1.entries true))] := AC.at (tabAddI_c0 t e ht he) k

set_option maxHeartbeats 4000000 in
theorem tabAddS_c (t : Tablet) (e : Entryt) (ht : smallTable t) (he : smallEntry e) : AC Try.prog 36 [.agg (tableC t), .agg (entryC e)] [] (.tup [.agg [.c (.int .i64 (tableAdd t e).1.cap), .sl entryE (tableAdd t e).1.entries], .one (.c (.int .i64 (tableAdd t e).2))]) [] := by
  refine AC_bodyCT (n := 2) (k := 9) (T := [(4, .one (.ptr 9 0)), (5, .one (.c (.int .i64 (tableAdd t e).2)))]) (Lf := ((9, some (.box [.c (.int .i64 (tableAdd t e).1.cap), .sl entryE (tableAdd t e).1.entries])) :: [])) Try.func36 rfl rfl Try.ntmps36 rfl Try.results36 rfl rfl rfl rfl (by kernel_rfl) rfl rfl ⟨trivial, (by repeat (first | exact trivial | refine ⟨⟨_, rfl, BLe.rf⟩, ?_⟩)), (by repeat (first | exact trivial | refine ⟨⟨rfl, by first | (left; intro h; cases h) | (right; rfl), by first | exact (fun _ h => ⟨_, h⟩) | exact (fun _ _ => ⟨_, rfl⟩) | (intro _ h; cases h)⟩, ?_⟩)), rfl⟩ ?_
  refine AW_aggmax 0 1 rfl rfl (fun hm0_1 => ?_)
  refine AW_seq ?_
  refine AW_region ?_
  refine AL_p (x_box 100 rfl rfl rfl rfl rfl rfl rfl) ?_
  refine AL_p (x_box 101 rfl rfl rfl rfl rfl rfl rfl) ?_
  refine AL_p (x_alloc (z := .agg #[.int .i64 0, .slice none 0 0]) 102 rfl (by kernel_rfl) rfl rfl rfl rfl) ?_
  refine AL_p (x_assign rfl rfl) ?_
  refine AL_nil ?_
  refine AW_seq ?_
  refine AW_seq ?_
  refine AW_region ?_
  refine AL_p (x_loadN (n := 2) rfl rfl rfl (by kernel_rfl) rfl rfl) ?_
  refine AL_b (x_call0 rfl rfl rfl (tableOkS_c t) rfl rfl) (fun b12 h12 => ?_)
  refine AL_p (x_not rfl rfl) ?_
  refine AL_p (x_move rfl rfl) ?_
  cases b12
  · try simp only [tdy] at h12
    have hno := tableAdd_no (t := t) (e := e) (by simp [h12])
    refine AL_o rfl rfl rfl rfl ?_
    refine AL_o rfl rfl rfl rfl ?_
    refine AL_o rfl rfl rfl rfl ?_
    refine AL_p (x_pickT rfl rfl rfl) ?_
    refine AL_nil ?_
    refine AW_condT rfl ?_
    refine AW_seq ?_
    refine AW_region ?_
    refine AL_p (x_build (zs := [.int .i64 0, .slice none 0 0]) (places := [(0, 1), (1, 1)]) rfl (by kernel_rfl) rfl rfl rfl rfl rfl) ?_
    refine AL_p (x_store (n := 2) rfl rfl rfl rfl (by kernel_rfl) rfl rfl rfl) ?_
    refine AL_p (x_assign rfl rfl) ?_
    refine AL_nil ?_
    refine AW_ret ?_
    exact ⟨rn [(9, 102)], ⟨⟨⟨_, rfl, VLe.rf⟩, ⟨_, rfl, by first | (refine vle_int ?_; rw [hno]; done) | exact VLe.rf⟩, trivial⟩, ⟨⟨_, rfl, by first | (refine ble_eq ?_; rw [hno]; done) | (refine ble_eq ?_; rw [hno]; rfl) | (refine BLe.box ?_; rw [hno]; exact ⟨CLe.rf, CLe.nil, trivial⟩)⟩, trivial⟩, trivial, rfl⟩⟩
  try simp only [tdy] at h12
  refine AL_g rfl rfl (x_loadN (n := 6) rfl rfl rfl (by kernel_rfl) rfl rfl) ?_
  refine AL_gb rfl rfl (x_call0 rfl rfl rfl (entryS_c e.epoch e.prio e.hits e.mat e.acts) rfl rfl) (fun b16 h16 => ?_)
  refine AL_g rfl rfl (x_not rfl rfl) ?_
  refine AL_p (x_pickF rfl rfl rfl) ?_
  refine AL_nil ?_
  cases b16
  · try simp only [tdy] at h16
    have hno := tableAdd_no (t := t) (e := e) (by rw [h12]; exact h16)
    refine AW_condT rfl ?_
    refine AW_seq ?_
    refine AW_region ?_
    refine AL_p (x_build (zs := [.int .i64 0, .slice none 0 0]) (places := [(0, 1), (1, 1)]) rfl (by kernel_rfl) rfl rfl rfl rfl rfl) ?_
    refine AL_p (x_store (n := 2) rfl rfl rfl rfl (by kernel_rfl) rfl rfl rfl) ?_
    refine AL_p (x_assign rfl rfl) ?_
    refine AL_nil ?_
    refine AW_ret ?_
    exact ⟨rn [(9, 102)], ⟨⟨⟨_, rfl, VLe.rf⟩, ⟨_, rfl, by first | (refine vle_int ?_; rw [hno]; done) | exact VLe.rf⟩, trivial⟩, ⟨⟨_, rfl, by first | (refine ble_eq ?_; rw [hno]; done) | (refine ble_eq ?_; rw [hno]; rfl) | (refine BLe.box ?_; rw [hno]; exact ⟨CLe.rf, CLe.nil, trivial⟩)⟩, trivial⟩, trivial, rfl⟩⟩
  try simp only [tdy] at h16
  have hob : entryOkB e = true := h16
  have hmx := tableB_max h12
  refine AW_condF rfl ?_
  refine AW_skip ?_
  refine AW_seq ?_
  refine AW_region ?_
  refine AL_p (x_loadN (n := 2) rfl rfl rfl (by kernel_rfl) rfl rfl) ?_
  refine AL_p (x_call1 rfl rfl rfl (copyTabS_c t ht 103) rfl rfl rfl rfl) ?_
  refine AL_p (x_alloc (z := .agg #[.int .i64 0, .slice none 0 0]) 104 rfl (by kernel_rfl) rfl rfl rfl rfl) ?_
  refine AL_p (x_store (n := 2) rfl rfl rfl rfl (by kernel_rfl) rfl rfl rfl) ?_
  refine AL_nil ?_
  refine AW_seq ?_
  refine AW_seq ?_
  refine AW_region ?_
  refine AL_p (x_field (off := 1) (o' := 1) rfl rfl rfl (by kernel_rfl) rfl) ?_
  refine AL_p (x_load1 rfl rfl rfl (by kernel_rfl) rfl) ?_
  refine AL_p (x_olen (E := 74) (n := 6) rfl rfl rfl (by kernel_rfl)) ?_
  refine AL_p (x_move rfl rfl) ?_
  refine AL_nil ?_
  refine AW_block ?_
  refine AW_loop2 (ι := {q : Nat // q ≤ t.entries.length ∧ NoneTo (fun x => sameKeyB x e) t.entries q}) (fun p => [(25, .one (.c (.int .i64 ((p.1) : Int))))]) (fun p => []) [2, 3, 4, 6, 24] [100, 101, 102, 103, 104] (fun p => t.entries.length - (p.1)) ⟨0, ⟨by omega, .zero⟩⟩ (rn []) ?_ ?_
  exact ⟨by (repeat refine ⟨⟨_, rfl, by first | exact VLe.rf | exact vle_int (by dsimp only; omega)⟩, ?_⟩); exact trivial, by (repeat refine ⟨⟨_, rfl, by first | exact BLe.rf | exact BLe.box AllC.rf | exact BLe.arr (by exact rfl)⟩, ?_⟩); exact trivial, by repeat (first | exact trivial | refine ⟨⟨rfl, by first | (left; intro h; cases h) | (right; rfl), by first | exact (fun _ h => ⟨_, h⟩) | exact (fun _ _ => ⟨_, rfl⟩) | (intro _ h; cases h)⟩, ?_⟩), rfl⟩
  rintro ⟨k, hinv⟩
  dsimp only
  obtain ⟨hk, hn⟩ := hinv
  have hk : k ≤ t.entries.length := hk
  refine AW_seq ?_
  refine AW_region ?_
  refine AL_b (x_lss rfl rfl rfl) (fun b26 h26 => ?_)
  refine AL_nil ?_
  refine AW_seq ?_
  cases b26
  rotate_left
  · try simp only [tdy] at h26
    refine AW_condT rfl ?_
    refine AW_skip ?_
    refine AW_seq ?_
    refine AW_block ?_
    refine AW_seq ?_
    refine AW_region ?_
    refine AL_p (x_move rfl rfl) ?_
    refine AL_p (x_assign rfl rfl) ?_
    refine AL_nil ?_
    refine AW_seq ?_
    refine AW_draw rfl ?_
    refine AL_p (x_field (off := 1) (o' := 1) rfl rfl rfl (by kernel_rfl) rfl) ?_
    refine AL_p (x_load1 rfl rfl rfl (by kernel_rfl) rfl) ?_
    refine AL_p (x_move rfl rfl) ?_
    refine AL_p (x_oindex (n := 6) rfl rfl rfl rfl (by kernel_rfl) rfl (k := k) rfl (by omega)) ?_
    refine AL_p (x_oloadN (n := 6) rfl rfl rfl (by kernel_rfl) (by omega) rfl rfl) ?_
    refine AL_p (x_loadN (n := 6) rfl rfl rfl (by kernel_rfl) rfl rfl) ?_
    refine AL_b (x_call0 rfl rfl rfl (sameKeyS_c (t.entries[k]'(by omega)) e) rfl rfl) (fun b34 h34 => ?_)
    refine AL_nild (by kernel_rfl) ?_
    cases b34
    · try simp only [tdy] at h34
      refine AW_condF rfl ?_
      refine AW_skip ?_
      refine AW_region ?_
      refine AL_p (x_add rfl rfl rfl (IntWalk.i64_in _ (by omega))) ?_
      refine AL_p (x_move rfl rfl) ?_
      refine AL_nil ?_
      refine ⟨⟨k + 1, ⟨by omega, hn.succ (by omega) h34⟩⟩, rn [], ?_, by dsimp only; omega⟩
      exact ⟨by (repeat refine ⟨⟨_, rfl, by first | exact VLe.rf | exact vle_int (by dsimp only; omega)⟩, ?_⟩); exact trivial, by (repeat refine ⟨⟨_, rfl, by first | exact BLe.rf | exact BLe.box AllC.rf | exact BLe.arr (by exact rfl)⟩, ?_⟩); exact trivial, by repeat (first | exact trivial | refine ⟨⟨rfl, by first | (left; intro h; cases h) | (right; rfl), by first | exact (fun _ h => ⟨_, h⟩) | exact (fun _ _ => ⟨_, rfl⟩) | (intro _ h; cases h)⟩, ?_⟩), rfl⟩
    try simp only [tdy] at h34
    have hno := tableAdd_set h12 hob (k := k) (firstIdx_at (by omega) (fun j hj hjk => hn j hj hjk) h34)
    refine AW_condT rfl ?_
    refine AW_seq ?_
    refine AW_draw rfl ?_
    refine AL_p (x_field (off := 1) (o' := 1) rfl rfl rfl (by kernel_rfl) rfl) ?_
    refine AL_p (x_load1 rfl rfl rfl (by kernel_rfl) rfl) ?_
    refine AL_p (x_move rfl rfl) ?_
    refine AL_p (x_loadN (n := 6) rfl rfl rfl (by kernel_rfl) rfl rfl) ?_
    refine AL_p (x_callR rfl rfl rfl (AC.renum (res := .agg [.c (.int .i64 e.epoch), .c (.int .i64 e.prio), .own 105, .own 106, .own 107, .c (.int .i64 e.hits)]) (L := [(105, some (.arr 3 (intE .i64) e.mat.v true)), (106, some (.arr 3 (intE .i64) e.mat.m true)), (107, some (.arr 114 actE e.acts true))]) (r := rn [(105, 0), (106, 1), (107, 2)]) (copyEntS_c e he) ⟨⟨_, rfl, BLe.rf⟩, ⟨_, rfl, BLe.rf⟩, ⟨_, rfl, BLe.rf⟩, trivial⟩ rfl) rfl AllV.rf rfl rfl rfl rfl rfl) ?_
    refine AL_p (x_oindex (n := 6) rfl rfl rfl rfl (by kernel_rfl) rfl (k := k) rfl (by omega)) ?_
    refine AL_p (x_ostore (e) rfl rfl rfl rfl (by kernel_rfl) rfl rfl rfl rfl FitL.rf rfl rfl (by first | omega | (rw [filledTo_len (by omega)]; omega) | (simp; omega))) ?_
    refine AL_nild (by kernel_rfl) ?_
    refine AW_seq ?_
    refine AW_shutB 103 104 1 rfl rfl rfl rfl ?_
    refine AW_region ?_
    refine AL_p (x_loadN (n := 2) rfl rfl rfl (by kernel_rfl) rfl rfl) ?_
    refine AL_p (x_store (n := 2) rfl rfl rfl rfl (by kernel_rfl) rfl rfl rfl) ?_
    refine AL_p (x_assign rfl rfl) ?_
    refine AL_nil ?_
    refine AW_ret (BQ_ret (BQ_ret ?_))
    exact ⟨rn [(9, 102)], ⟨⟨⟨_, rfl, VLe.rf⟩, ⟨_, rfl, by first | (refine vle_int ?_; rw [hno]; done) | exact VLe.rf⟩, trivial⟩, ⟨⟨_, rfl, by first | (refine ble_eq ?_; rw [hno]; done) | (refine ble_eq ?_; rw [hno]; rfl) | (refine BLe.box ?_; rw [hno]; exact ⟨CLe.rf, CLe.nil, trivial⟩)⟩, trivial⟩, trivial, rfl⟩⟩
  try simp only [tdy] at h26
  obtain rfl : k = t.entries.length := by omega
  have hk0 : (keyIdx t.entries e) < 0 := by have q : (keyIdx t.entries e) = -1 := hn.none; rw [q]; decide
  refine AW_condF rfl ?_
  refine AW_exit (BQ_hit ?_)
  refine AW_seq ?_
  refine AW_seq ?_
  refine AW_region ?_
  refine AL_p (x_field (off := 1) (o' := 1) rfl rfl rfl (by kernel_rfl) rfl) ?_
  refine AL_p (x_load1 rfl rfl rfl (by kernel_rfl) rfl) ?_
  refine AL_p (x_olen (E := 74) (n := 6) rfl rfl rfl (by kernel_rfl)) ?_
  refine AL_p (x_field (off := 0) (o' := 0) rfl rfl rfl (by kernel_rfl) rfl) ?_
  refine AL_p (x_load1 rfl rfl rfl (by kernel_rfl) rfl) ?_
  refine AL_b (x_eql rfl rfl rfl) (fun b48 h48 => ?_)
  refine AL_nil ?_
  cases b48
  rotate_left
  · try simp only [tdy] at h48
    have hno := tableAdd_full h12 hob hk0 h48
    refine AW_condT rfl ?_
    refine AW_seq ?_
    refine AW_region ?_
    refine AL_p (x_build (zs := [.int .i64 0, .slice none 0 0]) (places := [(0, 1), (1, 1)]) rfl (by kernel_rfl) rfl rfl rfl rfl rfl) ?_
    refine AL_p (x_store (n := 2) rfl rfl rfl rfl (by kernel_rfl) rfl rfl rfl) ?_
    refine AL_p (x_assign rfl rfl) ?_
    refine AL_nil ?_
    refine AW_ret ?_
    exact ⟨rn [(9, 102)], ⟨⟨⟨_, rfl, VLe.rf⟩, ⟨_, rfl, by first | (refine vle_int ?_; rw [hno]; done) | exact VLe.rf⟩, trivial⟩, ⟨⟨_, rfl, by first | (refine ble_eq ?_; rw [hno]; done) | (refine ble_eq ?_; rw [hno]; rfl) | (refine BLe.box ?_; rw [hno]; exact ⟨CLe.rf, CLe.nil, trivial⟩)⟩, trivial⟩, trivial, rfl⟩⟩
  try simp only [tdy] at h48
  refine AW_condF rfl ?_
  refine AW_skip ?_
  refine AW_seq ?_
  refine AW_shutB 103 104 1 rfl rfl rfl rfl ?_
  refine AW_region ?_
  refine AL_p (y_bslice0 (E := 74) (e := entryE) 108 rfl rfl rfl (by kernel_rfl)) ?_
  refine AL_p (x_assign rfl rfl) ?_
  refine AL_nil ?_
  refine AW_seq ?_
  refine AW_seq ?_
  refine AW_region ?_
  refine AL_p (x_field (off := 1) (o' := 1) rfl rfl rfl (by kernel_rfl) rfl) ?_
  refine AL_p (x_load1 rfl rfl rfl (by kernel_rfl) rfl) ?_
  refine AL_p (x_len (E := 74) (n := 6) rfl rfl (by kernel_rfl)) ?_
  refine AL_p (x_move rfl rfl) ?_
  refine AL_nil ?_
  refine AW_block ?_
  refine AW_shallow 108 rfl ?_
  refine AW_loop2 (ι := {q : Nat // q ≤ t.entries.length}) (fun p => [(8, .one (.own 108)), (54, .one (.c (.int .i64 ((p.1) : Int))))]) (fun p => [(108, some (.arr 74 entryE (filtTo (fun x => !aheadB e x) t.entries (p.1)) false))]) [3, 4, 6, 53] [100, 101, 102, 104] (fun p => t.entries.length - (p.1)) ⟨0, by omega⟩ (rn []) ?_ ?_
  exact ⟨by (repeat refine ⟨⟨_, rfl, by first | exact VLe.rf | exact vle_int (by dsimp only; omega)⟩, ?_⟩); exact trivial, by (repeat refine ⟨⟨_, rfl, by first | exact BLe.rf | exact BLe.box AllC.rf | exact BLe.arr (by first | exact filtTo_zero | (refine filtTo_yes (by omega) ?_; simp [h63]) | (refine filtTo_no (by omega) ?_; simp [h63]))⟩, ?_⟩); exact trivial, by repeat (first | exact trivial | refine ⟨⟨rfl, by first | (left; intro h; cases h) | (right; rfl), by first | exact (fun _ h => ⟨_, h⟩) | exact (fun _ _ => ⟨_, rfl⟩) | (intro _ h; cases h)⟩, ?_⟩), rfl⟩
  rintro ⟨k, hinv⟩
  dsimp only
  have hk := hinv
  refine AW_seq ?_
  refine AW_region ?_
  refine AL_b (x_lss rfl rfl rfl) (fun b55 h55 => ?_)
  refine AL_nil ?_
  refine AW_seq ?_
  cases b55
  rotate_left
  · try simp only [tdy] at h55
    refine AW_condT rfl ?_
    refine AW_skip ?_
    refine AW_seq ?_
    refine AW_block ?_
    refine AW_seq ?_
    refine AW_region ?_
    refine AL_p (x_move rfl rfl) ?_
    refine AL_p (x_assign rfl rfl) ?_
    refine AL_nil ?_
    refine AW_seq ?_
    refine AW_draw rfl ?_
    refine AL_p (x_loadN (n := 6) rfl rfl rfl (by kernel_rfl) rfl rfl) ?_
    refine AL_p (x_field (off := 1) (o' := 1) rfl rfl rfl (by kernel_rfl) rfl) ?_
    refine AL_p (x_load1 rfl rfl rfl (by kernel_rfl) rfl) ?_
    refine AL_p (x_move rfl rfl) ?_
    refine AL_p (x_index (E := 74) (n := 6) rfl rfl rfl (by kernel_rfl) rfl (k := k) (by omega) (by omega)) ?_
    refine AL_p (x_eloadW (n := 6) rfl rfl (by kernel_rfl) rfl) ?_
    refine AL_b (x_call0 rfl rfl rfl (aheadS_c e (t.entries[k]'(by omega))) rfl rfl) (fun b63 h63 => ?_)
    refine AL_p (x_not rfl rfl) ?_
    refine AL_nild (by kernel_rfl) ?_
    cases b63
    rotate_left
    · try simp only [tdy] at h63
      refine AW_condF rfl ?_
      refine AW_skip ?_
      refine AW_region ?_
      refine AL_p (x_add rfl rfl rfl (IntWalk.i64_in _ (by omega))) ?_
      refine AL_p (x_move rfl rfl) ?_
      refine AL_nil ?_
      refine ⟨⟨k + 1, by omega⟩, rn [], ?_, by dsimp only; omega⟩
      exact ⟨by (repeat refine ⟨⟨_, rfl, by first | exact VLe.rf | exact vle_int (by dsimp only; omega)⟩, ?_⟩); exact trivial, by (repeat refine ⟨⟨_, rfl, by first | exact BLe.rf | exact BLe.box AllC.rf | exact BLe.arr (by first | exact filtTo_zero | (refine filtTo_yes (by omega) ?_; simp [h63]) | (refine filtTo_no (by omega) ?_; simp [h63]))⟩, ?_⟩); exact trivial, by repeat (first | exact trivial | refine ⟨⟨rfl, by first | (left; intro h; cases h) | (right; rfl), by first | exact (fun _ h => ⟨_, h⟩) | exact (fun _ _ => ⟨_, rfl⟩) | (intro _ h; cases h)⟩, ?_⟩), rfl⟩
    try simp only [tdy] at h63
    refine AW_condT rfl ?_
    refine AW_region ?_
    refine AL_p (x_move rfl rfl) ?_
    refine AL_p (x_field (off := 1) (o' := 1) rfl rfl rfl (by kernel_rfl) rfl) ?_
    refine AL_p (x_load1 rfl rfl rfl (by kernel_rfl) rfl) ?_
    refine AL_p (x_move rfl rfl) ?_
    refine AL_p (x_index (E := 74) (n := 6) rfl rfl rfl (by kernel_rfl) rfl (k := k) (by omega) (by omega)) ?_
    refine AL_p (x_eloadW (n := 6) rfl rfl (by kernel_rfl) rfl) ?_
    refine AL_p (y_bslice (E := 74) (e := entryE) [.tmp 70] ([(t.entries[k]'(by omega))]) 109 rfl rfl rfl rfl rfl rfl rfl rfl FitL.rf rfl rfl rfl rfl rfl rfl (by kernel_rfl)) ?_
    refine AL_p (y_append 110 rfl rfl rfl rfl rfl rfl rfl rfl (by kernel_rfl) (by have := filtTo_len (p := (fun x => !aheadB e x)) (rows := t.entries) (k := k); simp only [List.length_cons, List.length_nil]; omega)) ?_
    refine AL_p (x_assign rfl rfl) ?_
    refine AL_nil ?_
    refine AW_region ?_
    refine AL_p (x_add rfl rfl rfl (IntWalk.i64_in _ (by omega))) ?_
    refine AL_p (x_move rfl rfl) ?_
    refine AL_nil ?_
    refine ⟨⟨k + 1, by omega⟩, rn [(108, 110)], ?_, by dsimp only; omega⟩
    exact ⟨by (repeat refine ⟨⟨_, rfl, by first | exact VLe.rf | exact vle_int (by dsimp only; omega)⟩, ?_⟩); exact trivial, by (repeat refine ⟨⟨_, rfl, by first | exact BLe.rf | exact BLe.box AllC.rf | exact BLe.arr (by first | exact filtTo_zero | (refine filtTo_yes (by omega) ?_; simp [h63]) | (refine filtTo_no (by omega) ?_; simp [h63]))⟩, ?_⟩); exact trivial, by repeat (first | exact trivial | refine ⟨⟨rfl, by first | (left; intro h; cases h) | (right; rfl), by first | exact (fun _ h => ⟨_, h⟩) | exact (fun _ _ => ⟨_, rfl⟩) | (intro _ h; cases h)⟩, ?_⟩), rfl⟩
  try simp only [tdy] at h55
  have hs3 := tableAdd_two (t := t) (e := e) (k := k) (by omega)
  refine AW_condF rfl ?_
  refine AW_exit (BQ_hit ?_)
  refine AW_seq ?_
  refine AW_region ?_
  refine AL_p (x_move rfl rfl) ?_
  refine AL_p (x_loadN (n := 6) rfl rfl rfl (by kernel_rfl) rfl rfl) ?_
  refine AL_p (x_callR rfl rfl rfl (AC.renum (res := .agg [.c (.int .i64 e.epoch), .c (.int .i64 e.prio), .own 111, .own 112, .own 113, .c (.int .i64 e.hits)]) (L := [(111, some (.arr 3 (intE .i64) e.mat.v true)), (112, some (.arr 3 (intE .i64) e.mat.m true)), (113, some (.arr 114 actE e.acts true))]) (r := rn [(111, 0), (112, 1), (113, 2)]) (copyEntS_c e he) ⟨⟨_, rfl, BLe.rf⟩, ⟨_, rfl, BLe.rf⟩, ⟨_, rfl, BLe.rf⟩, trivial⟩ rfl) rfl AllV.rf rfl rfl rfl rfl rfl) ?_
  refine AL_p (y_bslice (E := 74) (e := entryE) [.tmp 76] ([e]) 114 rfl rfl rfl rfl rfl rfl rfl rfl FitL.rf rfl rfl rfl rfl rfl rfl (by kernel_rfl)) ?_
  refine AL_p (y_append 115 rfl rfl rfl rfl rfl rfl rfl rfl (by kernel_rfl) (by have := filtTo_len (p := (fun x => !aheadB e x)) (rows := t.entries) (k := k); simp only [List.length_cons, List.length_nil]; omega)) ?_
  refine AL_p (x_assign rfl rfl) ?_
  refine AL_nil ?_
  refine AW_seq ?_
  refine AW_seq ?_
  refine AW_region ?_
  refine AL_p (x_field (off := 1) (o' := 1) rfl rfl rfl (by kernel_rfl) rfl) ?_
  refine AL_p (x_load1 rfl rfl rfl (by kernel_rfl) rfl) ?_
  refine AL_p (x_len (E := 74) (n := 6) rfl rfl (by kernel_rfl)) ?_
  refine AL_p (x_move rfl rfl) ?_
  refine AL_nil ?_
  refine AW_block ?_
  refine AW_loop2 (ι := {q : Nat // q ≤ t.entries.length}) (fun p => [(8, .one (.own 115)), (82, .one (.c (.int .i64 ((p.1) : Int))))]) (fun p => [(115, some (.arr 74 entryE (t.entries.filter (fun x => !aheadB e x) ++ [e] ++ filtTo (fun x => aheadB e x) t.entries (p.1)) false))]) [3, 4, 6, 81] [100, 101, 102, 104] (fun p => t.entries.length - (p.1)) ⟨0, by omega⟩ (rn []) ?_ ?_
  exact ⟨by (repeat refine ⟨⟨_, rfl, by first | exact VLe.rf | exact vle_int (by dsimp only; omega)⟩, ?_⟩); exact trivial, by (repeat refine ⟨⟨_, rfl, by first | exact BLe.rf | exact BLe.box AllC.rf | exact BLe.arr (by first | exact hs3 | (rw [List.append_assoc, filtTo_yes (by omega) h91]) | (rw [filtTo_no (by omega) h91]))⟩, ?_⟩); exact trivial, by repeat (first | exact trivial | refine ⟨⟨rfl, by first | (left; intro h; cases h) | (right; rfl), by first | exact (fun _ h => ⟨_, h⟩) | exact (fun _ _ => ⟨_, rfl⟩) | (intro _ h; cases h)⟩, ?_⟩), rfl⟩
  rintro ⟨k, hinv⟩
  dsimp only
  have hk := hinv
  refine AW_seq ?_
  refine AW_region ?_
  refine AL_b (x_lss rfl rfl rfl) (fun b83 h83 => ?_)
  refine AL_nil ?_
  refine AW_seq ?_
  cases b83
  · try simp only [tdy] at h83
    have hno := tableAdd_put' h12 hob hk0 h48 (k := k) (by omega)
    refine AW_condF rfl ?_
    refine AW_exit (BQ_hit ?_)
    refine AW_seq ?_
    refine AW_region ?_
    refine AL_p (x_move rfl rfl) ?_
    refine AL_p (x_field (off := 1) (o' := 1) rfl rfl rfl (by kernel_rfl) rfl) ?_
    refine AL_p (x_store (n := 1) rfl rfl rfl rfl (by kernel_rfl) rfl rfl rfl) ?_
    refine AL_nil ?_
    refine AW_seq ?_
    refine AW_shutB 115 104 1 rfl rfl rfl rfl ?_
    refine AW_region ?_
    refine AL_p (x_loadN (n := 2) rfl rfl rfl (by kernel_rfl) rfl rfl) ?_
    refine AL_p (x_store (n := 2) rfl rfl rfl rfl (by kernel_rfl) rfl rfl rfl) ?_
    refine AL_p (x_assign rfl rfl) ?_
    refine AL_nil ?_
    refine AW_ret ?_
    exact ⟨rn [(9, 102)], ⟨⟨⟨_, rfl, VLe.rf⟩, ⟨_, rfl, by first | (refine vle_int ?_; rw [hno]; done) | exact VLe.rf⟩, trivial⟩, ⟨⟨_, rfl, by first | (refine ble_eq ?_; rw [hno]; done) | (refine ble_eq ?_; rw [hno]; rfl) | (refine BLe.box ?_; rw [hno]; exact ⟨CLe.rf, CLe.nil, trivial⟩)⟩, trivial⟩, trivial, rfl⟩⟩
  try simp only [tdy] at h83
  refine AW_condT rfl ?_
  refine AW_skip ?_
  refine AW_seq ?_
  refine AW_block ?_
  refine AW_seq ?_
  refine AW_region ?_
  refine AL_p (x_move rfl rfl) ?_
  refine AL_p (x_assign rfl rfl) ?_
  refine AL_nil ?_
  refine AW_seq ?_
  refine AW_draw rfl ?_
  refine AL_p (x_loadN (n := 6) rfl rfl rfl (by kernel_rfl) rfl rfl) ?_
  refine AL_p (x_field (off := 1) (o' := 1) rfl rfl rfl (by kernel_rfl) rfl) ?_
  refine AL_p (x_load1 rfl rfl rfl (by kernel_rfl) rfl) ?_
  refine AL_p (x_move rfl rfl) ?_
  refine AL_p (x_index (E := 74) (n := 6) rfl rfl rfl (by kernel_rfl) rfl (k := k) (by omega) (by omega)) ?_
  refine AL_p (x_eloadW (n := 6) rfl rfl (by kernel_rfl) rfl) ?_
  refine AL_b (x_call0 rfl rfl rfl (aheadS_c e (t.entries[k]'(by omega))) rfl rfl) (fun b91 h91 => ?_)
  refine AL_nild (by kernel_rfl) ?_
  cases b91
  · try simp only [tdy] at h91
    refine AW_condF rfl ?_
    refine AW_skip ?_
    refine AW_region ?_
    refine AL_p (x_add rfl rfl rfl (IntWalk.i64_in _ (by omega))) ?_
    refine AL_p (x_move rfl rfl) ?_
    refine AL_nil ?_
    refine ⟨⟨k + 1, by omega⟩, rn [], ?_, by dsimp only; omega⟩
    exact ⟨by (repeat refine ⟨⟨_, rfl, by first | exact VLe.rf | exact vle_int (by dsimp only; omega)⟩, ?_⟩); exact trivial, by (repeat refine ⟨⟨_, rfl, by first | exact BLe.rf | exact BLe.box AllC.rf | exact BLe.arr (by first | exact hs3 | (rw [List.append_assoc, filtTo_yes (by omega) h91]) | (rw [filtTo_no (by omega) h91]))⟩, ?_⟩); exact trivial, by repeat (first | exact trivial | refine ⟨⟨rfl, by first | (left; intro h; cases h) | (right; rfl), by first | exact (fun _ h => ⟨_, h⟩) | exact (fun _ _ => ⟨_, rfl⟩) | (intro _ h; cases h)⟩, ?_⟩), rfl⟩
  try simp only [tdy] at h91
  refine AW_condT rfl ?_
  refine AW_region ?_
  refine AL_p (x_move rfl rfl) ?_
  refine AL_p (x_field (off := 1) (o' := 1) rfl rfl rfl (by kernel_rfl) rfl) ?_
  refine AL_p (x_load1 rfl rfl rfl (by kernel_rfl) rfl) ?_
  refine AL_p (x_move rfl rfl) ?_
  refine AL_p (x_index (E := 74) (n := 6) rfl rfl rfl (by kernel_rfl) rfl (k := k) (by omega) (by omega)) ?_
  refine AL_p (x_eloadW (n := 6) rfl rfl (by kernel_rfl) rfl) ?_
  refine AL_p (y_bslice (E := 74) (e := entryE) [.tmp 97] ([(t.entries[k]'(by omega))]) 116 rfl rfl rfl rfl rfl rfl rfl rfl FitL.rf rfl rfl rfl rfl rfl rfl (by kernel_rfl)) ?_
  refine AL_p (y_append 117 rfl rfl rfl rfl rfl rfl rfl rfl (by kernel_rfl) (by have := filtTo_len (p := (fun x => aheadB e x)) (rows := t.entries) (k := k); have := List.length_filter_le (fun x => !aheadB e x) t.entries; simp only [List.length_append, List.length_cons, List.length_nil]; omega)) ?_
  refine AL_p (x_assign rfl rfl) ?_
  refine AL_nil ?_
  refine AW_region ?_
  refine AL_p (x_add rfl rfl rfl (IntWalk.i64_in _ (by omega))) ?_
  refine AL_p (x_move rfl rfl) ?_
  refine AL_nil ?_
  refine ⟨⟨k + 1, by omega⟩, rn [(115, 117)], ?_, by dsimp only; omega⟩
  exact ⟨by (repeat refine ⟨⟨_, rfl, by first | exact VLe.rf | exact vle_int (by dsimp only; omega)⟩, ?_⟩); exact trivial, by (repeat refine ⟨⟨_, rfl, by first | exact BLe.rf | exact BLe.box AllC.rf | exact BLe.arr (by first | exact hs3 | (rw [List.append_assoc, filtTo_yes (by omega) h91]) | (rw [filtTo_no (by omega) h91]))⟩, ?_⟩); exact trivial, by repeat (first | exact trivial | refine ⟨⟨rfl, by first | (left; intro h; cases h) | (right; rfl), by first | exact (fun _ h => ⟨_, h⟩) | exact (fun _ _ => ⟨_, rfl⟩) | (intro _ h; cases h)⟩, ?_⟩), rfl⟩
end Go.Proofs.Ytfdpigafekohgaa

/- Messages ars bytes, in plain words. -/
namespace Go.Proofs.Ytfdpigafekohgaa
open Go.RowKit
set_option linter.unusedVariables false

end Go.Proofs.Ytfdpigafekohgaa

/- How much a message's marks count. -/
namespace Go.Proofs.Ytfdpigafekohgaa
open Go.RowKit
set_option linter.unusedVariables false

theorem cntInts_le {xs : List Int} {n : Nat} (h : xs.length ≤ n) : cntL cntInt xs ≤ n := by
  have := cntL_le (c := cntInt) (M := 1) (xs := xs) fun x _ => by simp [cntInt]
  omega
theorem cntActs_le {xs : List Actt} {n : Nat} (h : xs.length ≤ n) : cntL cntAct xs ≤ 3 * n := by
  have := cntL_le (c := cntAct) (M := 3) (xs := xs) fun x _ => by simp [cntAct]
  omega
end Go.Proofs.Ytfdpigafekohgaa

/- How much a table's marks count; sizes of tables. -/
namespace Go.Proofs.Ytfdpigafekohgaa
open Go.RowKit
set_option linter.unusedVariables false

theorem totMatch_small {x : Matcht} (h : totMatch x ≤ 1048576) : smallMatch x := by
  simp only [totMatch] at h
  exact ⟨by omega, by omega⟩
theorem totEntry_small {x : Entryt} (h : totEntry x ≤ 1048576) : smallEntry x := by
  simp only [totEntry] at h
  exact ⟨totMatch_small (by omega), by omega, fun _ _ => trivial⟩
theorem totTable_small {x : Tablet} (h : totTable x ≤ 1048576) : smallTable x := by
  simp only [totTable, totL] at h
  refine ⟨by omega, fun y hy => totEntry_small ?_⟩
  have := cntL_mem (c := totEntry) hy
  omega
theorem entry_cnt {x : Entryt} (h : smallEntry x) : cntEntry x ≤ 8388608 := by
  have h1 := cntInts_le h.1.1
  have h2 := cntInts_le h.1.2
  have h3 := cntActs_le h.2.1
  unfold cntEntry; omega
theorem cntEntry_le {x : Entryt} (h : totEntry x ≤ 1048576) : cntDEntry x ≤ 1152921504606846976 := by
  have := entry_cnt (totEntry_small h)
  unfold cntEntry at this
  simp only [cntDEntry]; omega
theorem entries_cnt {l : List Entryt} (hl : l.length ≤ 1048576) (h : ∀ x ∈ l, smallEntry x) : cntL cntEntry l ≤ 1152921504606846976 := by
  have := cntL_le (c := cntEntry) (M := 8388608) (xs := l) fun x hx => entry_cnt (h x hx)
  omega
theorem cntTable_le {x : Tablet} (h : totTable x ≤ 1048576) : cntDTable x ≤ 1152921504606846976 := by
  have := totTable_small h
  exact entries_cnt this.1 this.2
theorem tableAdd_small {t : Tablet} {e : Entryt} (h : smallTable t) (he : smallEntry e) : smallTable (tableAdd t e).1 := by
  unfold tableAdd
  split
  · rename_i hok
    simp only [Bool.and_eq_true] at hok
    have := tableB_max hok.1
    split
    · refine ⟨by rw [List.length_set]; exact h.1, fun x hx => ?_⟩
      rcases List.mem_or_eq_of_mem_set hx with q | q
      · exact h.2 x q
      · rw [q]; exact he
    · split
      · exact ⟨Nat.zero_le _, fun x hx => (by cases hx)⟩
      · refine ⟨by unfold putEntry; simp only [List.length_append, List.length_take, List.length_drop, List.length_cons, List.length_nil]; omega, fun x hx => ?_⟩
        unfold putEntry at hx
        rcases List.mem_append.1 hx with q | q
        · rcases List.mem_append.1 q with q | q
          · exact h.2 x (List.mem_of_mem_take q)
          · rw [List.mem_singleton.1 q]; exact he
        · exact h.2 x (List.mem_of_mem_drop q)
  · exact ⟨Nat.zero_le _, fun x hx => (by cases hx)⟩
theorem tableAdd_cnt {t : Tablet} {e : Entryt} (h : smallTable t) (he : smallEntry e) : cntDTable (tableAdd t e).1 ≤ 1152921504606846976 := by
  have := tableAdd_small h he
  exact entries_cnt this.1 this.2
end Go.Proofs.Ytfdpigafekohgaa

/- A result with several arrays, given up to be read alone. -/
namespace Go.Proofs.Ytfdpigafekohgaa
open Go.RowKit
set_option linter.unusedVariables false

theorem AC.frzA {P : Program} {f : FuncId} {args : List AVal} {res res' : AVal} {L : Locs} (h : AC P f args [] res L) (hr : rdA L res = some res') : AC P f args [] res' [] := by
  refine ⟨h.fn, fun g w cargs m ha => (h.run g w cargs m ha).mono ?_⟩
  rintro r w' ⟨v, g1, rfl, m1, hv, hs⟩
  have no : ∀ k b, lkl [] k ≠ some b := fun k b h => by simp [lkl, lk] at h
  have hf : res.flat = true := by
    cases res with
    | one _ => rfl
    | agg _ => rfl
    | tup _ => cases hr
  have hv1 := rdA_ok m1 (hv.vr1 hf) hr
  refine ⟨v, { g1 with I := fun b => g1.I b ∨ liveR g1 L b }, rfl, ⟨fun b hb => hb.elim (m1.ilt b) fun h => (liveR_lt m1 h).1, fun k cs h => (no _ _ h).elim, fun k β T e2 ys d h => (no _ _ h).elim, fun j k b b' _ h => (no _ _ h).elim, fun k β T e2 ys h => (no _ _ h).elim, fun j k β γ T U e2 e3 ys zs _ h => (no _ _ h).elim⟩, hv1.vr, ⟨hs.os, hs.tape, hs.output, hs.size, hs.keep, fun b hb => .inl (hs.imm b hb), fun b hb => ?_, fun b hb => ?_, fun k hk => by cases hk⟩⟩
  · rcases hb with hb | ⟨k, blk, h1, h2, rfl⟩
    · exact hs.imm' b hb
    · rcases hs.own _ (OwnB.of_live h1 h2) with h3 | h3
      · obtain ⟨k2, blk2, h4, _⟩ := h3
        exact (no _ _ h4).elim
      · exact .inr (.inl h3)
  · obtain ⟨k, blk, h1, _⟩ := hb
    exact (no _ _ h1).elim
end Go.Proofs.Ytfdpigafekohgaa

/- The walk of FnExactTableAdd (printed by walk.py) -/
namespace Go.Proofs.Ytfdpigafekohgaa
open Go.RowKit
set_option linter.unusedVariables false
set_option linter.unusedSimpArgs false
set_option maxRecDepth 100000

theorem frz0 (x : Tablet) (s : smallTable x) : AC Try.prog 37 [.agg (tableC x)] [] (.agg (tableC x)) [] := AC.frz (toTable_c x s 0) rfl (by intro k hk; simpa [AVal.ids, Cell.ids] using hk)
theorem frz1 (x : Entryt) (s : smallEntry x) : AC Try.prog 38 [.agg (entryC x)] [] (.agg (entryC x)) [] := AC.frzA ((AC.renum (res := .agg [.c (.int .i64 x.epoch), .c (.int .i64 x.prio), .own 0, .own 1, .own 2, .c (.int .i64 x.hits)]) (L := [(0, some (.arr 3 (intE .i64) x.mat.v true)), (1, some (.arr 3 (intE .i64) x.mat.m true)), (2, some (.arr 114 actE x.acts true))]) (r := rn [(0, 0), (1, 1), (2, 2)]) (toEntry_c x s) ⟨⟨_, rfl, BLe.rf⟩, ⟨_, rfl, BLe.rf⟩, ⟨_, rfl, BLe.rf⟩, trivial⟩ rfl)) rfl
set_option maxHeartbeats 4000000 in
theorem lawFnExactTableAdd.walk (w : World) (c0 : Array Value) (x0 : Tablet) (b0 : List Nat) (h0 : tableE.rep w c0.toList x0 b0) (c1 : Array Value) (x1 : Entryt) (b1 : List Nat) (h1 : entryE.rep w c1.toList x1 b1) :
    Calls Try.prog 9 #[.agg c0, .agg c1] w fun e w' => e = .returned (.bool true) ∧ Below w.heap.size w w' := by
  refine AM_law (r := 4) Try.func9 rfl Try.ntmps9 rfl Try.results9 w _ (args := [.agg (tableC x0), .agg (entryC x1)]) ⟨arg_agg h0, arg_agg h1, trivial⟩ (fun B => ?_)
  refine AM_seq ?_
  refine AM_region ?_
  refine AL_p (x_box 100 rfl rfl rfl rfl rfl rfl rfl) ?_
  refine AL_p (x_box 101 rfl rfl rfl rfl rfl rfl rfl) ?_
  refine AL_p (x_assign rfl rfl) ?_
  refine AL_nil ?_
  refine AM_seq ?_
  refine AM_region ?_
  refine AL_p (x_assign rfl rfl) ?_
  refine AL_nil ?_
  refine AM_seq ?_
  refine AM_region ?_
  refine AL_p (x_loadN (n := 2) rfl rfl rfl (by kernel_rfl) rfl rfl) ?_
  refine AL_p (x_move rfl rfl) ?_
  refine AL_p (x_call0 rfl rfl rfl (szTable_c _ _ (by omega) (by omega)) rfl rfl) ?_
  refine AL_p (x_assign rfl rfl) ?_
  refine AL_nil ?_
  refine AM_seq ?_
  refine AM_seq ?_
  refine AM_region ?_
  refine AL_p (x_move rfl rfl) ?_
  refine AL_b (x_lss rfl rfl rfl) (fun b21 h21 => ?_)
  refine AL_nil ?_
  cases b21
  rotate_left
  · try simp only [tdy] at h21
    refine AM_condT rfl ?_
    refine AM_seq ?_
    refine AM_region ?_
    refine AL_p (x_assign rfl rfl) ?_
    refine AL_nil ?_
    refine AM_ret ?_
    exact rfl
  try simp only [tdy] at h21
  have f21 := (szR_nonneg h21).1
  have e21 := (szR_nonneg h21).2
  refine AM_condF rfl ?_
  refine AM_skip ?_
  refine AM_seq ?_
  refine AM_region ?_
  refine AL_p (x_loadN (n := 6) rfl rfl rfl (by kernel_rfl) rfl rfl) ?_
  refine AL_p (x_move rfl rfl) ?_
  refine AL_p (x_call0 rfl rfl rfl (szEntry_c _ _ (by omega) (by omega)) rfl rfl) ?_
  refine AL_p (x_assign rfl rfl) ?_
  refine AL_nil ?_
  refine AM_seq ?_
  refine AM_seq ?_
  refine AM_region ?_
  refine AL_p (x_move rfl rfl) ?_
  refine AL_b (x_lss rfl rfl rfl) (fun b26 h26 => ?_)
  refine AL_nil ?_
  cases b26
  rotate_left
  · try simp only [tdy] at h26
    refine AM_condT rfl ?_
    refine AM_seq ?_
    refine AM_region ?_
    refine AL_p (x_assign rfl rfl) ?_
    refine AL_nil ?_
    refine AM_ret ?_
    exact rfl
  try simp only [tdy] at h26
  have f26 := (szR_nonneg h26).1
  have e26 := (szR_nonneg h26).2
  have t0 : totTable x0 ≤ 1048576 := by omega
  have t1 : totEntry x1 ≤ 1048576 := by omega
  have s0 := totTable_small t0
  have s1 := totEntry_small t1
  refine AM_condF rfl ?_
  refine AM_skip ?_
  refine AM_seq ?_
  refine AM_draw rfl ?_
  refine AL_p (x_loadN (n := 2) rfl rfl rfl (by kernel_rfl) rfl rfl) ?_
  refine AL_p (x_call0 rfl rfl rfl (frz0 x0 s0) rfl rfl) ?_
  refine AL_p (x_loadN (n := 6) rfl rfl rfl (by kernel_rfl) rfl rfl) ?_
  refine AL_p (x_call0 rfl rfl rfl (frz1 x1 s1) rfl rfl) ?_
  refine AL_p (x_call0 rfl rfl rfl (tabAddS_c x0 x1 s0 s1) rfl rfl) ?_
  refine AL_p (x_move rfl rfl) ?_
  refine AL_p (x_extract rfl rfl rfl) ?_
  refine AL_p (x_extract rfl rfl rfl) ?_
  refine AL_p (x_alloc (z := .agg #[.int .i64 0, .slice none 0 0]) 102 rfl (by kernel_rfl) rfl rfl rfl rfl) ?_
  refine AL_p (x_store (n := 2) rfl rfl rfl rfl (by kernel_rfl) rfl rfl rfl) ?_
  refine AL_p (x_assign rfl rfl) ?_
  refine AL_nild (by kernel_rfl) ?_
  refine AM_raise (fun B' => [(2, .one (.epo B' tableE (x0) 0)), (3, .one (.epo B' entryE (x1) 0)), (6, .one (.epo B' tableE ((tableAdd x0 x1).1) 0)), (7, .one (.c _))]) (fun B' => ⟨⟨_, rfl, .box (f := tableC) rfl rfl rfl FitL.rf⟩, ⟨_, rfl, .box (f := entryC) rfl rfl rfl FitL.rf⟩, ⟨_, rfl, .box (f := tableC) rfl rfl rfl FitL.rf⟩, ⟨_, rfl, .c⟩, trivial⟩) (fun B' => ?_)
  refine AM_seq ?_
  refine AM_region ?_
  refine AL_p (x_pload (f := tableC) (n := 2) rfl rfl (by kernel_rfl) rfl rfl) ?_
  refine AL_p (x_callR rfl rfl rfl (toTable_c x0 s0 103) rfl AllV.rf rfl rfl rfl rfl rfl) ?_
  refine AL_p (x_alloc (z := .agg #[.int .i64 0, .slice none 0 0]) 104 rfl (by kernel_rfl) rfl rfl rfl rfl) ?_
  refine AL_p (x_store (n := 2) rfl rfl rfl rfl (by kernel_rfl) rfl rfl rfl) ?_
  refine AL_nil ?_
  refine AM_seq ?_
  refine AM_region ?_
  refine AL_p (x_pload (f := entryC) (n := 6) rfl rfl (by kernel_rfl) rfl rfl) ?_
  refine AL_p (x_callR rfl rfl rfl ((AC.renum (res := .agg [.c (.int .i64 x1.epoch), .c (.int .i64 x1.prio), .own 105, .own 106, .own 107, .c (.int .i64 x1.hits)]) (L := [(105, some (.arr 3 (intE .i64) x1.mat.v true)), (106, some (.arr 3 (intE .i64) x1.mat.m true)), (107, some (.arr 114 actE x1.acts true))]) (r := rn [(105, 0), (106, 1), (107, 2)]) (toEntry_c x1 s1) ⟨⟨_, rfl, BLe.rf⟩, ⟨_, rfl, BLe.rf⟩, ⟨_, rfl, BLe.rf⟩, trivial⟩ rfl)) rfl AllV.rf rfl rfl rfl rfl rfl) ?_
  refine AL_p (x_alloc (z := .agg #[.int .i64 0, .int .i64 0, .slice none 0 0, .slice none 0 0, .slice none 0 0, .int .i64 0]) 108 rfl (by kernel_rfl) rfl rfl rfl rfl) ?_
  refine AL_p (x_store (n := 6) rfl rfl rfl rfl (by kernel_rfl) rfl rfl rfl) ?_
  refine AL_nil ?_
  refine AM_seq ?_
  refine AM_region ?_
  refine AL_p (x_loadN (n := 2) rfl rfl rfl (by kernel_rfl) rfl rfl) ?_
  refine AL_p (x_loadN (n := 6) rfl rfl rfl (by kernel_rfl) rfl rfl) ?_
  refine AL_p (x_callR rfl rfl rfl (tabAddI_c x0 x1 s0 s1 109) rfl AllV.rf rfl rfl rfl rfl rfl) ?_
  refine AL_p (x_move rfl rfl) ?_
  refine AL_p (x_extract rfl rfl rfl) ?_
  refine AL_p (x_extract rfl rfl rfl) ?_
  refine AL_p (x_alloc (z := .agg #[.int .i64 0, .slice none 0 0]) 110 rfl (by kernel_rfl) rfl rfl rfl rfl) ?_
  refine AL_p (x_store (n := 2) rfl rfl rfl rfl (by kernel_rfl) rfl rfl rfl) ?_
  refine AL_p (x_assign rfl rfl) ?_
  refine AL_nil ?_
  refine AM_seq ?_
  refine AM_seq ?_
  refine AM_region ?_
  refine AL_p (x_loadN (n := 2) rfl rfl rfl (by kernel_rfl) rfl rfl) ?_
  refine AL_p (x_pload (f := tableC) (n := 2) rfl rfl (by kernel_rfl) rfl rfl) ?_
  refine AL_p (x_callR rfl rfl rfl (eqTable_c ((tableAdd x0 x1).1)) rfl AllV.rf rfl rfl rfl rfl rfl) ?_
  refine AL_p (x_not rfl rfl) ?_
  refine AL_p (x_move rfl rfl) ?_
  refine AL_g rfl rfl (x_move rfl rfl) ?_
  refine AL_g rfl rfl (x_move rfl rfl) ?_
  refine AL_gb rfl rfl (x_neq rfl rfl rfl) (fun b52 h52 => ?_)
  refine AL_p (x_pickF rfl rfl rfl) ?_
  refine AL_nil ?_
  cases b52
  rotate_left
  · exfalso; first | (simp [ba_beq_self] at h52; done) | (simp at h52; omega)
  try simp only [tdy] at h52
  refine AM_condF rfl ?_
  refine AM_skip ?_
  refine AM_seq ?_
  refine AM_seq ?_
  refine AM_draw rfl ?_
  refine AL_p (x_loadN (n := 2) rfl rfl rfl (by kernel_rfl) rfl rfl) ?_
  refine AL_p (x_pload (f := tableC) (n := 2) rfl rfl (by kernel_rfl) rfl rfl) ?_
  refine AL_p (x_callR rfl rfl rfl (toTable_c x0 s0 111) rfl AllV.rf rfl rfl rfl rfl rfl) ?_
  refine AL_p (x_callR rfl rfl rfl (eqTable_c (x0)) rfl AllV.rf rfl rfl rfl rfl rfl) ?_
  refine AL_p (x_not rfl rfl) ?_
  refine AL_nild (by kernel_rfl) ?_
  refine AM_condF rfl ?_
  refine AM_skip ?_
  refine AM_seq ?_
  refine AM_seq ?_
  refine AM_draw rfl ?_
  refine AL_p (x_loadN (n := 6) rfl rfl rfl (by kernel_rfl) rfl rfl) ?_
  refine AL_p (x_pload (f := entryC) (n := 6) rfl rfl (by kernel_rfl) rfl rfl) ?_
  refine AL_p (x_callR rfl rfl rfl ((AC.renum (res := .agg [.c (.int .i64 x1.epoch), .c (.int .i64 x1.prio), .own 112, .own 113, .own 114, .c (.int .i64 x1.hits)]) (L := [(112, some (.arr 3 (intE .i64) x1.mat.v true)), (113, some (.arr 3 (intE .i64) x1.mat.m true)), (114, some (.arr 114 actE x1.acts true))]) (r := rn [(112, 0), (113, 1), (114, 2)]) (toEntry_c x1 s1) ⟨⟨_, rfl, BLe.rf⟩, ⟨_, rfl, BLe.rf⟩, ⟨_, rfl, BLe.rf⟩, trivial⟩ rfl)) rfl AllV.rf rfl rfl rfl rfl rfl) ?_
  refine AL_p (x_callR rfl rfl rfl (eqEntry_c (x1)) rfl AllV.rf rfl rfl rfl rfl rfl) ?_
  refine AL_p (x_not rfl rfl) ?_
  refine AL_nild (by kernel_rfl) ?_
  refine AM_condF rfl ?_
  refine AM_skip ?_
  refine AM_seq ?_
  refine AM_region ?_
  refine AL_p (x_assign rfl rfl) ?_
  refine AL_nil ?_
  refine AM_seq ?_
  refine AM_regionM ?_
  refine LM_p (x_loadN (n := 2) rfl rfl rfl (by kernel_rfl) rfl rfl) ?_
  refine LM_p (x_move rfl rfl) ?_
  have n0 : cntDTable (x0) ≤ 1152921504606846976 := cntTable_le t0
  have v0 := markDTable_cnt (x0) (1)
  refine LM_markA (F := tableC) (z := x0) (z' := (markDTable x0 (1)).1) [(2, _), (3, _), (6, _), (7, _), (9, _), (10, _), (11, _), (12, _)] [(108, some _), (110, some _), (105, some _), (106, some _), (107, some _), (109, some _)] rfl rfl rfl rfl ⟨_, _, Try.func42, rfl, rfl⟩ (fun w cs bs h hF => markDTable_any cs _ bs _ 0 w h hF (by omega) (by omega)) rfl rfl FitL.rf (wf64 (by omega) (by omega)) ⟨⟨rfl, rfl⟩, ⟨rfl, rfl⟩, ⟨rfl, rfl⟩, ⟨rfl, trivial⟩, ⟨rfl, trivial⟩, ⟨rfl, trivial⟩, ⟨rfl, trivial⟩, ⟨rfl, trivial⟩, trivial⟩ ⟨⟨rfl, ⟨trivial, trivial, rfl, rfl, rfl, trivial, trivial⟩⟩, ⟨rfl, ⟨trivial, rfl, trivial⟩⟩, ⟨rfl, rfl, rfl⟩, ⟨rfl, rfl, rfl⟩, ⟨rfl, rfl, rfl⟩, ⟨rfl, rfl, rfl⟩, trivial⟩ ?_
  refine LM_p (x_assign rfl rfl) ?_
  refine LM_nil ?_
  refine AM_seq ?_
  refine AM_regionM ?_
  refine LM_p (x_loadN (n := 6) rfl rfl rfl (by kernel_rfl) rfl rfl) ?_
  refine LM_p (x_move rfl rfl) ?_
  have n1 : cntDEntry (x1) ≤ 1152921504606846976 := cntEntry_le t1
  have v1 := markDEntry_cnt (x1) ((markDTable x0 (1)).2)
  refine LM_markA (F := entryC) (z := x1) (z' := (markDEntry x1 ((markDTable x0 (1)).2)).1) [(2, _), (3, _), (6, _), (7, _), (10, _), (11, _), (12, _)] [(110, some _), (109, some _)] rfl rfl rfl rfl ⟨_, _, Try.func43, rfl, rfl⟩ (fun w cs bs h hF => markDEntry_any cs _ bs _ 0 w h hF (by omega) (by omega)) rfl rfl FitL.rf (wf64 (by omega) (by omega)) ⟨⟨rfl, rfl⟩, ⟨rfl, rfl⟩, ⟨rfl, rfl⟩, ⟨rfl, trivial⟩, ⟨rfl, trivial⟩, ⟨rfl, trivial⟩, ⟨rfl, trivial⟩, trivial⟩ ⟨⟨rfl, ⟨trivial, rfl, trivial⟩⟩, ⟨rfl, rfl, rfl⟩, trivial⟩ ?_
  refine LM_p (x_assign rfl rfl) ?_
  refine LM_nil ?_
  refine AM_seq ?_
  refine AM_seq ?_
  refine AM_region ?_
  refine AL_p (x_move rfl rfl) ?_
  refine AL_b (x_lss rfl rfl rfl) (fun b71 h71 => ?_)
  refine AL_p (x_move rfl rfl) ?_
  cases b71
  rotate_left
  · exfalso; first | (simp [ba_beq_self] at h71; done) | (simp at h71; omega)
  try simp only [tdy] at h71
  refine AL_g rfl rfl (x_loadN (n := 2) rfl rfl rfl (by kernel_rfl) rfl rfl) ?_
  refine AL_g rfl rfl (x_pload (f := tableC) (n := 2) rfl rfl (by kernel_rfl) rfl rfl) ?_
  refine AL_g rfl rfl (x_callR rfl rfl rfl (eqTable_c ((tableAdd x0 x1).1)) rfl AllV.rf rfl rfl rfl rfl rfl) ?_
  refine AL_g rfl rfl (x_not rfl rfl) ?_
  refine AL_p (x_pickF rfl rfl rfl) ?_
  refine AL_p (x_move rfl rfl) ?_
  refine AL_g rfl rfl (x_move rfl rfl) ?_
  refine AL_g rfl rfl (x_move rfl rfl) ?_
  refine AL_gb rfl rfl (x_neq rfl rfl rfl) (fun b81 h81 => ?_)
  refine AL_p (x_pickF rfl rfl rfl) ?_
  refine AL_nil ?_
  cases b81
  rotate_left
  · exfalso; first | (simp [ba_beq_self] at h81; done) | (simp at h81; omega)
  try simp only [tdy] at h81
  refine AM_condF rfl ?_
  refine AM_skip ?_
  refine AM_seq ?_
  refine AM_region ?_
  refine AL_p (x_assign rfl rfl) ?_
  refine AL_nil ?_
  refine AM_seq ?_
  refine AM_regionM ?_
  refine LM_p (x_loadN (n := 2) rfl rfl rfl (by kernel_rfl) rfl rfl) ?_
  refine LM_p (x_move rfl rfl) ?_
  have n2 : cntDTable ((tableAdd x0 x1).1) ≤ 1152921504606846976 := tableAdd_cnt s0 s1
  have v2 := markDTable_cnt ((tableAdd x0 x1).1) (1)
  refine LM_markAK (F := tableC) (z := (tableAdd x0 x1).1) (z' := (markDTable (tableAdd x0 x1).1 (1)).1) 10 110 (fun B' => [(2, .one (.epo B' tableE (x0) 0)), (3, .one (.epo B' entryE (x1) 0)), (6, .one (.epo B' tableE ((tableAdd x0 x1).1) 0)), (7, .one (.c _)), (13, .one (.c _))]) rfl rfl rfl rfl rfl rfl rfl rfl ⟨_, _, Try.func42, rfl, rfl⟩ (fun w cs bs h hF => markDTable_any cs _ bs _ 0 w h hF (by omega) (by omega)) rfl rfl FitL.rf (wf64 (by omega) (by omega)) (fun B' => ⟨⟨_, rfl, .epo⟩, ⟨_, rfl, .epo⟩, ⟨_, rfl, .epo⟩, ⟨_, rfl, .c⟩, ⟨_, rfl, .c⟩, trivial⟩) (fun B' => ?_)
  refine LM_p (x_assign rfl rfl) ?_
  refine LM_nil ?_
  refine AM_seq ?_
  refine AM_region ?_
  refine AL_p (x_assign rfl rfl) ?_
  refine AL_nil ?_
  refine AM_seq ?_
  refine AM_region ?_
  refine AL_p (x_pload (f := tableC) (n := 2) rfl rfl (by kernel_rfl) rfl rfl) ?_
  refine AL_p (x_move rfl rfl) ?_
  refine AL_p (x_callR rfl rfl rfl (heldDTable_c ((tableAdd x0 x1).1) (1) (by omega) (by omega)) rfl AllV.rf rfl rfl rfl rfl rfl) ?_
  refine AL_p (x_assign rfl rfl) ?_
  refine AL_nil ?_
  refine AM_seq ?_
  refine AM_seq ?_
  refine AM_region ?_
  refine AL_p (x_move rfl rfl) ?_
  refine AL_b (x_lss rfl rfl rfl) (fun b90 h90 => ?_)
  refine AL_nil ?_
  cases b90
  rotate_left
  · exfalso; first | (simp [ba_beq_self] at h90; done) | (simp at h90; omega)
  try simp only [tdy] at h90
  refine AM_condF rfl ?_
  refine AM_skip ?_
  refine AM_seq ?_
  refine AM_seq ?_
  refine AM_region ?_
  refine AL_p (x_move rfl rfl) ?_
  refine AL_p (x_move rfl rfl) ?_
  refine AL_b (x_neq rfl rfl rfl) (fun b93 h93 => ?_)
  refine AL_nil ?_
  cases b93
  rotate_left
  · exfalso; first | (simp [ba_beq_self] at h93; done) | (simp at h93; omega)
  try simp only [tdy] at h93
  refine AM_condF rfl ?_
  refine AM_skip ?_
  refine AM_seq ?_
  refine AM_draw rfl ?_
  refine AL_p (x_pload (f := tableC) (n := 2) rfl rfl (by kernel_rfl) rfl rfl) ?_
  refine AL_p (x_callR rfl rfl rfl (toTable_c x0 s0 115) rfl AllV.rf rfl rfl rfl rfl rfl) ?_
  refine AL_p (x_pload (f := entryC) (n := 6) rfl rfl (by kernel_rfl) rfl rfl) ?_
  refine AL_p (x_callR rfl rfl rfl ((AC.renum (res := .agg [.c (.int .i64 x1.epoch), .c (.int .i64 x1.prio), .own 116, .own 117, .own 118, .c (.int .i64 x1.hits)]) (L := [(116, some (.arr 3 (intE .i64) x1.mat.v true)), (117, some (.arr 3 (intE .i64) x1.mat.m true)), (118, some (.arr 114 actE x1.acts true))]) (r := rn [(116, 0), (117, 1), (118, 2)]) (toEntry_c x1 s1) ⟨⟨_, rfl, BLe.rf⟩, ⟨_, rfl, BLe.rf⟩, ⟨_, rfl, BLe.rf⟩, trivial⟩ rfl)) rfl AllV.rf rfl rfl rfl rfl rfl) ?_
  refine AL_p (x_callR rfl rfl rfl (tabAddI_c x0 x1 s0 s1 119) rfl AllV.rf rfl rfl rfl rfl rfl) ?_
  refine AL_p (x_move rfl rfl) ?_
  refine AL_p (x_extract rfl rfl rfl) ?_
  refine AL_p (x_extract rfl rfl rfl) ?_
  refine AL_p (x_alloc (z := .agg #[.int .i64 0, .slice none 0 0]) 120 rfl (by kernel_rfl) rfl rfl rfl rfl) ?_
  refine AL_p (x_store (n := 2) rfl rfl rfl rfl (by kernel_rfl) rfl rfl rfl) ?_
  refine AL_p (x_assign rfl rfl) ?_
  refine AL_nild (by kernel_rfl) ?_
  refine AM_seq ?_
  refine AM_seq ?_
  refine AM_region ?_
  refine AL_p (x_loadN (n := 2) rfl rfl rfl (by kernel_rfl) rfl rfl) ?_
  refine AL_p (x_pload (f := tableC) (n := 2) rfl rfl (by kernel_rfl) rfl rfl) ?_
  refine AL_p (x_callR rfl rfl rfl (eqTable_c ((tableAdd x0 x1).1)) rfl AllV.rf rfl rfl rfl rfl rfl) ?_
  refine AL_p (x_not rfl rfl) ?_
  refine AL_p (x_move rfl rfl) ?_
  refine AL_g rfl rfl (x_move rfl rfl) ?_
  refine AL_g rfl rfl (x_move rfl rfl) ?_
  refine AL_gb rfl rfl (x_neq rfl rfl rfl) (fun b109 h109 => ?_)
  refine AL_p (x_pickF rfl rfl rfl) ?_
  refine AL_nil ?_
  cases b109
  rotate_left
  · exfalso; first | (simp [ba_beq_self] at h109; done) | (simp at h109; omega)
  try simp only [tdy] at h109
  refine AM_condF rfl ?_
  refine AM_skip ?_
  refine AM_seq ?_
  refine AM_region ?_
  refine AL_p (x_assign rfl rfl) ?_
  refine AL_nil ?_
  refine AM_seq ?_
  refine AM_region ?_
  refine AL_p (x_pload (f := tableC) (n := 2) rfl rfl (by kernel_rfl) rfl rfl) ?_
  refine AL_p (x_move rfl rfl) ?_
  refine AL_p (x_callR rfl rfl rfl (heldDTable_c ((tableAdd x0 x1).1) (1) (by omega) (by omega)) rfl AllV.rf rfl rfl rfl rfl rfl) ?_
  refine AL_p (x_assign rfl rfl) ?_
  refine AL_nil ?_
  refine AM_seq ?_
  refine AM_seq ?_
  refine AM_region ?_
  refine AL_p (x_move rfl rfl) ?_
  refine AL_b (x_lss rfl rfl rfl) (fun b115 h115 => ?_)
  refine AL_nil ?_
  cases b115
  rotate_left
  · exfalso; first | (simp [ba_beq_self] at h115; done) | (simp at h115; omega)
  try simp only [tdy] at h115
  refine AM_condF rfl ?_
  refine AM_skip ?_
  refine AM_seq ?_
  refine AM_seq ?_
  refine AM_region ?_
  refine AL_p (x_move rfl rfl) ?_
  refine AL_p (x_move rfl rfl) ?_
  refine AL_b (x_neq rfl rfl rfl) (fun b118 h118 => ?_)
  refine AL_nil ?_
  cases b118
  rotate_left
  · exfalso; first | (simp [ba_beq_self] at h118; done) | (simp at h118; omega)
  try simp only [tdy] at h118
  refine AM_condF rfl ?_
  refine AM_skip ?_
  refine AM_seq ?_
  refine AM_region ?_
  refine AL_p (x_assign rfl rfl) ?_
  refine AL_nil ?_
  refine AM_ret ?_
  exact rfl
end Go.Proofs.Ytfdpigafekohgaa

/- Lemmas of the walks, part 3. -/
import Derived.Test.YtibhoanjglfaoaaT2
import Derived.Deep.RegionHeld3
import Derived.Lib.AppendStr
import Derived.Lib.ConvBytes
import Derived.Lib.BufferRead
import Derived.Laws.CopyRow
import Derived.Laws.NewBlocks
import Derived.Lib.AppendZerosOnto
import Derived.Lib.Overlaps
import Derived.Lib.SliceRun
import Derived.Lib.JoinLaws
import Derived.Shelf.Spec.SlicesInsert
import Derived.Deep.RegionLaw
import Derived.Laws.Small
/- Relations (printed by walk.py) -/
namespace Go.Proofs.Ytibhoanjglfaoaa
open Go.RowKit
set_option linter.unusedVariables false
set_option linter.unusedSimpArgs false
set_option maxRecDepth 100000

set_option maxHeartbeats 4000000 in
theorem sameRowS_c (a b : List Val) (ha : a.length ≤ 1048576) : AC Try.prog 126 [.agg (rowC a), .agg (rowC b)] [] (.one (.c (.bool (sameRow a b)))) [] := by
  refine AC_body1 Try.func126 rfl rfl Try.ntmps126 rfl Try.results126 ?_
  refine AW_seq ?_
  refine AW_region ?_
  refine AL_p (x_box 100 rfl rfl rfl rfl rfl rfl rfl) ?_
  refine AL_p (x_box 101 rfl rfl rfl rfl rfl rfl rfl) ?_
  refine AL_p (x_assign rfl rfl) ?_
  refine AL_nil ?_
  refine AW_seq ?_
  refine AW_seq ?_
  refine AW_region ?_
  refine AL_p (x_field (off := 0) (o' := 0) rfl rfl rfl (by kernel_rfl) rfl) ?_
  refine AL_p (x_load1 rfl rfl rfl (by kernel_rfl) rfl) ?_
  refine AL_p (x_len (E := 94) (n := 2) rfl rfl (by kernel_rfl)) ?_
  refine AL_p (x_field (off := 0) (o' := 0) rfl rfl rfl (by kernel_rfl) rfl) ?_
  refine AL_p (x_load1 rfl rfl rfl (by kernel_rfl) rfl) ?_
  refine AL_p (x_len (E := 94) (n := 2) rfl rfl (by kernel_rfl)) ?_
  refine AL_b (x_neq rfl rfl rfl) (fun b12 h12 => ?_)
  refine AL_nil ?_
  cases b12
  rotate_left
  · try simp only [tdy] at h12
    refine AW_condT rfl ?_
    refine AW_seq ?_
    refine AW_region ?_
    refine AL_p (x_assign rfl rfl) ?_
    refine AL_nil ?_
    refine AW_ret ?_
    exact ⟨rn [], ⟨⟨⟨_, rfl, vle_bool ((sameRow_len (by omega)).symm)⟩, trivial⟩, trivial, trivial, rfl⟩⟩
  try simp only [tdy] at h12
  refine AW_condF rfl ?_
  refine AW_skip ?_
  refine AW_seq ?_
  refine AW_seq ?_
  refine AW_region ?_
  refine AL_p (x_field (off := 0) (o' := 0) rfl rfl rfl (by kernel_rfl) rfl) ?_
  refine AL_p (x_load1 rfl rfl rfl (by kernel_rfl) rfl) ?_
  refine AL_p (x_len (E := 94) (n := 2) rfl rfl (by kernel_rfl)) ?_
  refine AL_p (x_move rfl rfl) ?_
  refine AL_nil ?_
  refine AW_block ?_
  refine AW_loop2 (ι := {q : Nat // q ≤ a.length ∧ SameTo a b q}) (fun p => [(16, .one (.c (.int .i64 ((p.1) : Int))))]) (fun p => []) [2, 3, 15] [100, 101] (fun p => a.length - (p.1)) ⟨0, ⟨by omega, .zero⟩⟩ (rn []) ?_ ?_
  exact ⟨by (repeat refine ⟨⟨_, rfl, by first | exact VLe.rf | exact vle_int (by dsimp only; omega)⟩, ?_⟩); exact trivial, by (repeat refine ⟨⟨_, rfl, by first | exact BLe.rf | exact BLe.box AllC.rf | exact BLe.arr (by exact rfl)⟩, ?_⟩); exact trivial, by repeat (first | exact trivial | refine ⟨⟨rfl, by first | (left; intro h; cases h) | (right; rfl), by first | exact (fun _ h => ⟨_, h⟩) | exact (fun _ _ => ⟨_, rfl⟩)⟩, ?_⟩), rfl⟩
  rintro ⟨k, hinv⟩
  dsimp only
  obtain ⟨hk, hs⟩ := hinv
  refine AW_seq ?_
  refine AW_region ?_
  refine AL_b (x_lss rfl rfl rfl) (fun b17 h17 => ?_)
  refine AL_nil ?_
  refine AW_seq ?_
  cases b17
  · try simp only [tdy] at h17
    refine AW_condF rfl ?_
    refine AW_exit (BQ_hit ?_)
    refine AW_seq ?_
    refine AW_region ?_
    refine AL_p (x_assign rfl rfl) ?_
    refine AL_nil ?_
    refine AW_ret ?_
    exact ⟨rn [], ⟨⟨⟨_, rfl, vle_bool ((sameRow_eq (hs.eq (by omega) (by omega))).symm)⟩, trivial⟩, trivial, trivial, rfl⟩⟩
  try simp only [tdy] at h17
  refine AW_condT rfl ?_
  refine AW_skip ?_
  refine AW_seq ?_
  refine AW_block ?_
  refine AW_seq ?_
  refine AW_region ?_
  refine AL_p (x_move rfl rfl) ?_
  refine AL_p (x_assign rfl rfl) ?_
  refine AL_nil ?_
  refine AW_seq ?_
  refine AW_draw rfl ?_
  refine AL_p (x_field (off := 0) (o' := 0) rfl rfl rfl (by kernel_rfl) rfl) ?_
  refine AL_p (x_load1 rfl rfl rfl (by kernel_rfl) rfl) ?_
  refine AL_p (x_move rfl rfl) ?_
  refine AL_p (x_index (E := 94) (n := 2) rfl rfl rfl (by kernel_rfl) rfl rfl (by omega)) ?_
  refine AL_p (x_eloadW (n := 2) rfl rfl (by kernel_rfl) rfl) ?_
  refine AL_p (x_field (off := 0) (o' := 0) rfl rfl rfl (by kernel_rfl) rfl) ?_
  refine AL_p (x_load1 rfl rfl rfl (by kernel_rfl) rfl) ?_
  refine AL_p (x_move rfl rfl) ?_
  refine AL_p (x_index (E := 94) (n := 2) rfl rfl rfl (by kernel_rfl) rfl rfl (by omega)) ?_
  refine AL_p (x_eloadW (n := 2) rfl rfl (by kernel_rfl) rfl) ?_
  refine AL_b (x_vneq rfl rfl rfl) (fun b29 h29 => ?_)
  refine AL_nild (by kernel_rfl) ?_
  cases b29
  rotate_left
  · try simp only [tdy] at h29
    refine AW_condT rfl ?_
    refine AW_seq ?_
    refine AW_region ?_
    refine AL_p (x_assign rfl rfl) ?_
    refine AL_nil ?_
    refine AW_ret (BQ_ret (BQ_ret ?_))
    exact ⟨rn [], ⟨⟨⟨_, rfl, vle_bool ((sameRow_at (k := k) (by omega) (by omega) h29).symm)⟩, trivial⟩, trivial, trivial, rfl⟩⟩
  try simp only [tdy] at h29
  refine AW_condF rfl ?_
  refine AW_skip ?_
  refine AW_region ?_
  refine AL_p (x_add rfl rfl rfl (IntWalk.i64_in _ (by omega))) ?_
  refine AL_p (x_move rfl rfl) ?_
  refine AL_nil ?_
  refine ⟨⟨k + 1, ⟨by omega, hs.succ (by omega) (by omega) h29⟩⟩, rn [], ?_, by dsimp only; omega⟩
  exact ⟨by (repeat refine ⟨⟨_, rfl, by first | exact VLe.rf | exact vle_int (by dsimp only; omega)⟩, ?_⟩); exact trivial, by (repeat refine ⟨⟨_, rfl, by first | exact BLe.rf | exact BLe.box AllC.rf | exact BLe.arr (by exact rfl)⟩, ?_⟩); exact trivial, by repeat (first | exact trivial | refine ⟨⟨rfl, by first | (left; intro h; cases h) | (right; rfl), by first | exact (fun _ h => ⟨_, h⟩) | exact (fun _ _ => ⟨_, rfl⟩)⟩, ?_⟩), rfl⟩

set_option maxHeartbeats 4000000 in
theorem upToI_c (n m : Int) : AC Try.prog 108 [.one (.c (.int .i64 n)), .one (.c (.int .i64 m))] [] (.one (.c (.bool (upToB n m)))) [] := by
  refine AC_body1 Try.func108 rfl rfl Try.ntmps108 rfl Try.results108 ?_
  refine AW_seq ?_
  refine AW_region ?_
  refine AL_p (x_assign rfl rfl) ?_
  refine AL_nil ?_
  refine AW_seq ?_
  refine AW_region ?_
  refine AL_p (x_move rfl rfl) ?_
  refine AL_b (x_geq rfl rfl rfl) (fun b6 h6 => ?_)
  refine AL_p (x_move rfl rfl) ?_
  cases b6
  · try simp only [tdy] at h6
    refine AL_o rfl rfl rfl rfl ?_
    refine AL_o rfl rfl rfl rfl ?_
    refine AL_o rfl rfl rfl rfl ?_
    refine AL_p (x_pickF rfl rfl rfl) ?_
    refine AL_p (x_assign rfl rfl) ?_
    refine AL_nil ?_
    refine AW_ret ?_
    exact ⟨rn [], ⟨⟨⟨_, rfl, vle_bool (by first | exact (decide_eq_true (by omega)).symm | exact (decide_eq_false (by omega)).symm)⟩, trivial⟩, trivial, trivial, rfl⟩⟩
  try simp only [tdy] at h6
  refine AL_g rfl rfl (x_move rfl rfl) ?_
  refine AL_g rfl rfl (x_move rfl rfl) ?_
  refine AL_gb rfl rfl (x_leq rfl rfl rfl) (fun b10 h10 => ?_)
  refine AL_p (x_pickT rfl rfl rfl) ?_
  refine AL_p (x_assign rfl rfl) ?_
  refine AL_nil ?_
  refine AW_ret ?_
  cases b10
  rotate_left
  · try simp only [tdy] at h10
    exact ⟨rn [], ⟨⟨⟨_, rfl, vle_bool (by first | exact (decide_eq_true (by omega)).symm | exact (decide_eq_false (by omega)).symm)⟩, trivial⟩, trivial, trivial, rfl⟩⟩
  try simp only [tdy] at h10
  exact ⟨rn [], ⟨⟨⟨_, rfl, vle_bool (by first | exact (decide_eq_true (by omega)).symm | exact (decide_eq_false (by omega)).symm)⟩, trivial⟩, trivial, trivial, rfl⟩⟩

set_option maxHeartbeats 4000000 in
theorem relOkS_c (r : Relt) (hl : r.rows.length ≤ 1048576) : AC Try.prog 58 [.agg (relC r)] [] (.one (.c (.bool (relOk r)))) [] := by
  refine AC_body1 Try.func58 rfl rfl Try.ntmps58 rfl Try.results58 ?_
  refine AW_seq ?_
  refine AW_region ?_
  refine AL_p (x_box 100 rfl rfl rfl rfl rfl rfl rfl) ?_
  refine AL_p (x_assign rfl rfl) ?_
  refine AL_nil ?_
  refine AW_seq ?_
  refine AW_seq ?_
  refine AW_region ?_
  refine AL_p (x_field (off := 0) (o' := 0) rfl rfl rfl (by kernel_rfl) rfl) ?_
  refine AL_p (x_load1 rfl rfl rfl (by kernel_rfl) rfl) ?_
  refine AL_b (x_lss rfl rfl rfl) (fun b6 h6 => ?_)
  refine AL_p (x_move rfl rfl) ?_
  cases b6
  rotate_left
  · try simp only [tdy] at h6
    refine AL_o rfl rfl rfl rfl ?_
    refine AL_o rfl rfl rfl rfl ?_
    refine AL_o rfl rfl rfl rfl ?_
    refine AL_p (x_pickT rfl rfl rfl) ?_
    refine AL_p (x_move rfl rfl) ?_
    refine AL_o rfl rfl rfl rfl ?_
    refine AL_o rfl rfl rfl rfl ?_
    refine AL_o rfl rfl rfl rfl ?_
    refine AL_o rfl rfl rfl rfl ?_
    refine AL_p (x_pickT rfl rfl rfl) ?_
    refine AL_nil ?_
    refine AW_condT rfl ?_
    refine AW_seq ?_
    refine AW_region ?_
    refine AL_p (x_assign rfl rfl) ?_
    refine AL_nil ?_
    refine AW_ret ?_
    exact ⟨rn [], ⟨⟨⟨_, rfl, vle_bool (by first | exact (relOk_range (by omega)).symm | exact (relOk_bad (k := k) (by omega) (rowAt_len (by omega) (by omega))).symm | exact (relOk_bad (k := k) (by omega) (rowAt_row (by omega) h40)).symm | exact (relOk_bad (k := k) (by omega) (rowAt_order (by omega) (by omega) (by rw [← rowOrder_lt hprev h40]; exact h58))).symm | exact (relOk_good hs (by omega) (by omega) (by omega) (by omega)).symm)⟩, trivial⟩, trivial, trivial, rfl⟩⟩
  try simp only [tdy] at h6
  refine AL_g rfl rfl (x_field (off := 0) (o' := 0) rfl rfl rfl (by kernel_rfl) rfl) ?_
  refine AL_g rfl rfl (x_load1 rfl rfl rfl (by kernel_rfl) rfl) ?_
  refine AL_gb rfl rfl (x_gtr rfl rfl rfl) (fun b10 h10 => ?_)
  refine AL_p (x_pickF rfl rfl rfl) ?_
  refine AL_p (x_move rfl rfl) ?_
  cases b10
  rotate_left
  · try simp only [tdy] at h10
    refine AL_o rfl rfl rfl rfl ?_
    refine AL_o rfl rfl rfl rfl ?_
    refine AL_o rfl rfl rfl rfl ?_
    refine AL_o rfl rfl rfl rfl ?_
    refine AL_p (x_pickT rfl rfl rfl) ?_
    refine AL_nil ?_
    refine AW_condT rfl ?_
    refine AW_seq ?_
    refine AW_region ?_
    refine AL_p (x_assign rfl rfl) ?_
    refine AL_nil ?_
    refine AW_ret ?_
    exact ⟨rn [], ⟨⟨⟨_, rfl, vle_bool (by first | exact (relOk_range (by omega)).symm | exact (relOk_bad (k := k) (by omega) (rowAt_len (by omega) (by omega))).symm | exact (relOk_bad (k := k) (by omega) (rowAt_row (by omega) h40)).symm | exact (relOk_bad (k := k) (by omega) (rowAt_order (by omega) (by omega) (by rw [← rowOrder_lt hprev h40]; exact h58))).symm | exact (relOk_good hs (by omega) (by omega) (by omega) (by omega)).symm)⟩, trivial⟩, trivial, trivial, rfl⟩⟩
  try simp only [tdy] at h10
  refine AL_g rfl rfl (x_field (off := 1) (o' := 1) rfl rfl rfl (by kernel_rfl) rfl) ?_
  refine AL_g rfl rfl (x_load1 rfl rfl rfl (by kernel_rfl) rfl) ?_
  refine AL_g rfl rfl (x_len (E := 92) (n := 1) rfl rfl (by kernel_rfl)) ?_
  refine AL_gb rfl rfl (x_gtr rfl rfl rfl) (fun b16 h16 => ?_)
  refine AL_p (x_pickF rfl rfl rfl) ?_
  refine AL_nil ?_
  cases b16
  rotate_left
  · try simp only [tdy] at h16
    refine AW_condT rfl ?_
    refine AW_seq ?_
    refine AW_region ?_
    refine AL_p (x_assign rfl rfl) ?_
    refine AL_nil ?_
    refine AW_ret ?_
    exact ⟨rn [], ⟨⟨⟨_, rfl, vle_bool (by first | exact (relOk_range (by omega)).symm | exact (relOk_bad (k := k) (by omega) (rowAt_len (by omega) (by omega))).symm | exact (relOk_bad (k := k) (by omega) (rowAt_row (by omega) h40)).symm | exact (relOk_bad (k := k) (by omega) (rowAt_order (by omega) (by omega) (by rw [← rowOrder_lt hprev h40]; exact h58))).symm | exact (relOk_good hs (by omega) (by omega) (by omega) (by omega)).symm)⟩, trivial⟩, trivial, trivial, rfl⟩⟩
  try simp only [tdy] at h16
  refine AW_condF rfl ?_
  refine AW_skip ?_
  refine AW_seq ?_
  refine AW_seq ?_
  refine AW_region ?_
  refine AL_p (x_field (off := 1) (o' := 1) rfl rfl rfl (by kernel_rfl) rfl) ?_
  refine AL_p (x_load1 rfl rfl rfl (by kernel_rfl) rfl) ?_
  refine AL_p (x_len (E := 92) (n := 1) rfl rfl (by kernel_rfl)) ?_
  refine AL_p (x_move rfl rfl) ?_
  refine AL_nil ?_
  refine AW_block ?_
  refine AW_loop2 (ι := {q : Nat // q ≤ r.rows.length ∧ GoodTo r.rows r.arity q}) (fun p => [(21, .one (.c (.int .i64 ((p.1) : Int))))]) (fun p => []) [1, 20] [100] (fun p => r.rows.length - (p.1)) ⟨0, ⟨by omega, .zero⟩⟩ (rn []) ?_ ?_
  exact ⟨by (repeat refine ⟨⟨_, rfl, by first | exact VLe.rf | exact vle_int (by dsimp only; omega)⟩, ?_⟩); exact trivial, by (repeat refine ⟨⟨_, rfl, by first | exact BLe.rf | exact BLe.box AllC.rf | exact BLe.arr (by exact rfl)⟩, ?_⟩); exact trivial, by repeat (first | exact trivial | refine ⟨⟨rfl, by first | (left; intro h; cases h) | (right; rfl), by first | exact (fun _ h => ⟨_, h⟩) | exact (fun _ _ => ⟨_, rfl⟩)⟩, ?_⟩), rfl⟩
  rintro ⟨k, hinv⟩
  dsimp only
  obtain ⟨hk, hs⟩ := hinv
  refine AW_seq ?_
  refine AW_region ?_
  refine AL_b (x_lss rfl rfl rfl) (fun b22 h22 => ?_)
  refine AL_nil ?_
  refine AW_seq ?_
  cases b22
  · try simp only [tdy] at h22
    refine AW_condF rfl ?_
    refine AW_exit (BQ_hit ?_)
    refine AW_seq ?_
    refine AW_region ?_
    refine AL_p (x_assign rfl rfl) ?_
    refine AL_nil ?_
    refine AW_ret ?_
    exact ⟨rn [], ⟨⟨⟨_, rfl, vle_bool (by first | exact (relOk_range (by omega)).symm | exact (relOk_bad (k := k) (by omega) (rowAt_len (by omega) (by omega))).symm | exact (relOk_bad (k := k) (by omega) (rowAt_row (by omega) h40)).symm | exact (relOk_bad (k := k) (by omega) (rowAt_order (by omega) (by omega) (by rw [← rowOrder_lt hprev h40]; exact h58))).symm | exact (relOk_good hs (by omega) (by omega) (by omega) (by omega)).symm)⟩, trivial⟩, trivial, trivial, rfl⟩⟩
  try simp only [tdy] at h22
  refine AW_condT rfl ?_
  refine AW_skip ?_
  refine AW_seq ?_
  refine AW_block ?_
  refine AW_seq ?_
  refine AW_region ?_
  refine AL_p (x_move rfl rfl) ?_
  refine AL_p (x_assign rfl rfl) ?_
  refine AL_nil ?_
  refine AW_seq ?_
  refine AW_seq ?_
  refine AW_draw rfl ?_
  refine AL_p (x_field (off := 1) (o' := 1) rfl rfl rfl (by kernel_rfl) rfl) ?_
  refine AL_p (x_load1 rfl rfl rfl (by kernel_rfl) rfl) ?_
  refine AL_p (x_move rfl rfl) ?_
  refine AL_p (x_index (E := 92) (n := 1) rfl rfl rfl (by kernel_rfl) rfl rfl (by omega)) ?_
  refine AL_p (x_efield (off := 0) (o' := 0) rfl rfl (by kernel_rfl) rfl) ?_
  refine AL_p (x_eload1 rfl rfl (by kernel_rfl) rfl) ?_
  refine AL_p (x_len (E := 94) (n := 2) rfl rfl (by kernel_rfl)) ?_
  refine AL_p (x_field (off := 0) (o' := 0) rfl rfl rfl (by kernel_rfl) rfl) ?_
  refine AL_p (x_load1 rfl rfl rfl (by kernel_rfl) rfl) ?_
  refine AL_b (x_neq rfl rfl rfl) (fun b33 h33 => ?_)
  refine AL_p (x_move rfl rfl) ?_
  cases b33
  rotate_left
  · try simp only [tdy] at h33
    refine AL_o rfl rfl rfl rfl ?_
    refine AL_o rfl rfl rfl rfl ?_
    refine AL_o rfl rfl rfl rfl ?_
    refine AL_o rfl rfl rfl rfl ?_
    refine AL_o rfl rfl rfl rfl ?_
    refine AL_o rfl rfl rfl rfl ?_
    refine AL_o rfl rfl rfl rfl ?_
    refine AL_p (x_pickT rfl rfl rfl) ?_
    refine AL_nild (by kernel_rfl) ?_
    refine AW_condT rfl ?_
    refine AW_seq ?_
    refine AW_region ?_
    refine AL_p (x_assign rfl rfl) ?_
    refine AL_nil ?_
    refine AW_ret (BQ_ret (BQ_ret ?_))
    exact ⟨rn [], ⟨⟨⟨_, rfl, vle_bool (by first | exact (relOk_range (by omega)).symm | exact (relOk_bad (k := k) (by omega) (rowAt_len (by omega) (by omega))).symm | exact (relOk_bad (k := k) (by omega) (rowAt_row (by omega) h40)).symm | exact (relOk_bad (k := k) (by omega) (rowAt_order (by omega) (by omega) (by rw [← rowOrder_lt hprev h40]; exact h58))).symm | exact (relOk_good hs (by omega) (by omega) (by omega) (by omega)).symm)⟩, trivial⟩, trivial, trivial, rfl⟩⟩
  try simp only [tdy] at h33
  refine AL_g rfl rfl (x_field (off := 1) (o' := 1) rfl rfl rfl (by kernel_rfl) rfl) ?_
  refine AL_g rfl rfl (x_load1 rfl rfl rfl (by kernel_rfl) rfl) ?_
  refine AL_g rfl rfl (x_move rfl rfl) ?_
  refine AL_g rfl rfl (x_index (E := 92) (n := 1) rfl rfl rfl (by kernel_rfl) rfl rfl (by omega)) ?_
  refine AL_g rfl rfl (x_eloadW (n := 1) rfl rfl (by kernel_rfl) rfl) ?_
  refine AL_gb rfl rfl (x_call0 rfl rfl rfl (rowOkS_c _) rfl rfl) (fun b40 h40 => ?_)
  refine AL_g rfl rfl (x_not rfl rfl) ?_
  refine AL_p (x_pickF rfl rfl rfl) ?_
  refine AL_nild (by kernel_rfl) ?_
  cases b40
  · try simp only [tdy] at h40
    refine AW_condT rfl ?_
    refine AW_seq ?_
    refine AW_region ?_
    refine AL_p (x_assign rfl rfl) ?_
    refine AL_nil ?_
    refine AW_ret (BQ_ret (BQ_ret ?_))
    exact ⟨rn [], ⟨⟨⟨_, rfl, vle_bool (by first | exact (relOk_range (by omega)).symm | exact (relOk_bad (k := k) (by omega) (rowAt_len (by omega) (by omega))).symm | exact (relOk_bad (k := k) (by omega) (rowAt_row (by omega) h40)).symm | exact (relOk_bad (k := k) (by omega) (rowAt_order (by omega) (by omega) (by rw [← rowOrder_lt hprev h40]; exact h58))).symm | exact (relOk_good hs (by omega) (by omega) (by omega) (by omega)).symm)⟩, trivial⟩, trivial, trivial, rfl⟩⟩
  try simp only [tdy] at h40
  refine AW_condF rfl ?_
  refine AW_skip ?_
  refine AW_seq ?_
  refine AW_draw rfl ?_
  refine AL_p (x_move rfl rfl) ?_
  refine AL_b (x_gtr rfl rfl rfl) (fun b44 h44 => ?_)
  refine AL_p (x_move rfl rfl) ?_
  cases b44
  · try simp only [tdy] at h44
    have hat := rowAt_first (ar := r.arity) (k := k) (by omega) (by omega) h40 (by omega)
    refine AL_o rfl rfl rfl rfl ?_
    refine AL_o rfl rfl rfl rfl ?_
    refine AL_o rfl rfl rfl rfl ?_
    refine AL_o rfl rfl rfl rfl ?_
    refine AL_o rfl rfl rfl rfl ?_
    refine AL_o rfl rfl rfl rfl ?_
    refine AL_o rfl rfl rfl rfl ?_
    refine AL_o rfl rfl rfl rfl ?_
    refine AL_o rfl rfl rfl rfl ?_
    refine AL_o rfl rfl rfl rfl ?_
    refine AL_o rfl rfl rfl rfl ?_
    refine AL_o rfl rfl rfl rfl ?_
    refine AL_o rfl rfl rfl rfl ?_
    refine AL_p (x_pickF rfl rfl rfl) ?_
    refine AL_nild (by kernel_rfl) ?_
    refine AW_condF rfl ?_
    refine AW_skip ?_
    refine AW_region ?_
    refine AL_p (x_add rfl rfl rfl (IntWalk.i64_in _ (by omega))) ?_
    refine AL_p (x_move rfl rfl) ?_
    refine AL_nil ?_
    refine ⟨⟨k + 1, ⟨by omega, hs.succ (by omega) hat⟩⟩, rn [], ?_, by dsimp only; omega⟩
    exact ⟨by (repeat refine ⟨⟨_, rfl, by first | exact VLe.rf | exact vle_int (by dsimp only; omega)⟩, ?_⟩); exact trivial, by (repeat refine ⟨⟨_, rfl, by first | exact BLe.rf | exact BLe.box AllC.rf | exact BLe.arr (by exact rfl)⟩, ?_⟩); exact trivial, by repeat (first | exact trivial | refine ⟨⟨rfl, by first | (left; intro h; cases h) | (right; rfl), by first | exact (fun _ h => ⟨_, h⟩) | exact (fun _ _ => ⟨_, rfl⟩)⟩, ?_⟩), rfl⟩
  try simp only [tdy] at h44
  refine AL_g rfl rfl (x_field (off := 1) (o' := 1) rfl rfl rfl (by kernel_rfl) rfl) ?_
  refine AL_g rfl rfl (x_load1 rfl rfl rfl (by kernel_rfl) rfl) ?_
  refine AL_g rfl rfl (x_move rfl rfl) ?_
  refine AL_g rfl rfl (x_sub rfl rfl rfl (IntWalk.i64_in _ (by omega))) ?_
  refine AL_g rfl rfl (x_index (E := 92) (n := 1) rfl rfl rfl (by kernel_rfl) rfl (k := k - 1) (by omega) (by omega)) ?_
  refine AL_g rfl rfl (x_eloadW (n := 1) rfl rfl (by kernel_rfl) rfl) ?_
  refine AL_g rfl rfl (x_field (off := 1) (o' := 1) rfl rfl rfl (by kernel_rfl) rfl) ?_
  refine AL_g rfl rfl (x_load1 rfl rfl rfl (by kernel_rfl) rfl) ?_
  refine AL_g rfl rfl (x_move rfl rfl) ?_
  refine AL_g rfl rfl (x_index (E := 92) (n := 1) rfl rfl rfl (by kernel_rfl) rfl rfl (by omega)) ?_
  refine AL_g rfl rfl (x_eloadW (n := 1) rfl rfl (by kernel_rfl) rfl) ?_
  refine AL_g rfl rfl (x_call0 rfl rfl rfl (rowOrderS_c _ _) rfl rfl) ?_
  refine AL_gb rfl rfl (x_neq rfl rfl rfl) (fun b58 h58 => ?_)
  refine AL_p (x_pickT rfl rfl rfl) ?_
  refine AL_nild (by kernel_rfl) ?_
  cases b58
  rotate_left
  · try simp only [tdy] at h58
    have hprev := hs.row (j := k - 1) (by omega) (by omega)
    refine AW_condT rfl ?_
    refine AW_seq ?_
    refine AW_region ?_
    refine AL_p (x_assign rfl rfl) ?_
    refine AL_nil ?_
    refine AW_ret (BQ_ret (BQ_ret ?_))
    exact ⟨rn [], ⟨⟨⟨_, rfl, vle_bool (by first | exact (relOk_range (by omega)).symm | exact (relOk_bad (k := k) (by omega) (rowAt_len (by omega) (by omega))).symm | exact (relOk_bad (k := k) (by omega) (rowAt_row (by omega) h40)).symm | exact (relOk_bad (k := k) (by omega) (rowAt_order (by omega) (by omega) (by rw [← rowOrder_lt hprev h40]; exact h58))).symm | exact (relOk_good hs (by omega) (by omega) (by omega) (by omega)).symm)⟩, trivial⟩, trivial, trivial, rfl⟩⟩
  try simp only [tdy] at h58
  have hprev := hs.row (j := k - 1) (by omega) (by omega)
  have hat := rowAt_next (ar := r.arity) (k := k) (by omega) (by omega) h40 (by omega) ((rowOrder_lt hprev h40).1 h58)
  refine AW_condF rfl ?_
  refine AW_skip ?_
  refine AW_region ?_
  refine AL_p (x_add rfl rfl rfl (IntWalk.i64_in _ (by omega))) ?_
  refine AL_p (x_move rfl rfl) ?_
  refine AL_nil ?_
  refine ⟨⟨k + 1, ⟨by omega, hs.succ (by omega) hat⟩⟩, rn [], ?_, by dsimp only; omega⟩
  exact ⟨by (repeat refine ⟨⟨_, rfl, by first | exact VLe.rf | exact vle_int (by dsimp only; omega)⟩, ?_⟩); exact trivial, by (repeat refine ⟨⟨_, rfl, by first | exact BLe.rf | exact BLe.box AllC.rf | exact BLe.arr (by exact rfl)⟩, ?_⟩); exact trivial, by repeat (first | exact trivial | refine ⟨⟨rfl, by first | (left; intro h; cases h) | (right; rfl), by first | exact (fun _ h => ⟨_, h⟩) | exact (fun _ _ => ⟨_, rfl⟩)⟩, ?_⟩), rfl⟩

set_option maxHeartbeats 4000000 in
theorem relOkI_c (r : Relt) (hl : r.rows.length ≤ 1048576) : AC Try.prog 62 [.agg (relC r)] [] (.one (.c (.bool (relOk r)))) [] := by
  refine AC_body1 Try.func62 rfl rfl Try.ntmps62 rfl Try.results62 ?_
  refine AW_seq ?_
  refine AW_region ?_
  refine AL_p (x_box 100 rfl rfl rfl rfl rfl rfl rfl) ?_
  refine AL_p (x_assign rfl rfl) ?_
  refine AL_nil ?_
  refine AW_seq ?_
  refine AW_seq ?_
  refine AW_region ?_
  refine AL_p (x_field (off := 1) (o' := 1) rfl rfl rfl (by kernel_rfl) rfl) ?_
  refine AL_p (x_load1 rfl rfl rfl (by kernel_rfl) rfl) ?_
  refine AL_p (x_len (E := 92) (n := 1) rfl rfl (by kernel_rfl)) ?_
  refine AL_p (x_move rfl rfl) ?_
  refine AL_nil ?_
  refine AW_block ?_
  refine AW_loop2 (ι := {q : Nat // q ≤ r.rows.length ∧ GoodTo r.rows r.arity q}) (fun p => [(8, .one (.c (.int .i64 ((p.1) : Int))))]) (fun p => []) [1, 6, 7] [100] (fun p => r.rows.length - (p.1)) ⟨0, ⟨by omega, .zero⟩⟩ (rn []) ?_ ?_
  exact ⟨by (repeat refine ⟨⟨_, rfl, by first | exact VLe.rf | exact vle_int (by dsimp only; omega)⟩, ?_⟩); exact trivial, by (repeat refine ⟨⟨_, rfl, by first | exact BLe.rf | exact BLe.box AllC.rf | exact BLe.arr (by exact rfl)⟩, ?_⟩); exact trivial, by repeat (first | exact trivial | refine ⟨⟨rfl, by first | (left; intro h; cases h) | (right; rfl), by first | exact (fun _ h => ⟨_, h⟩) | exact (fun _ _ => ⟨_, rfl⟩)⟩, ?_⟩), rfl⟩
  rintro ⟨k, hinv⟩
  dsimp only
  obtain ⟨hk, hs⟩ := hinv
  refine AW_seq ?_
  refine AW_region ?_
  refine AL_b (x_lss rfl rfl rfl) (fun b9 h9 => ?_)
  refine AL_nil ?_
  refine AW_seq ?_
  cases b9
  · try simp only [tdy] at h9
    refine AW_condF rfl ?_
    refine AW_exit (BQ_hit ?_)
    refine AW_seq ?_
    refine AW_region ?_
    refine AL_p (x_field (off := 0) (o' := 0) rfl rfl rfl (by kernel_rfl) rfl) ?_
    refine AL_p (x_load1 rfl rfl rfl (by kernel_rfl) rfl) ?_
    refine AL_b (x_call0 rfl rfl rfl (upToI_c _ _) rfl rfl) (fun b42 h42 => ?_)
    refine AL_p (x_move rfl rfl) ?_
    cases b42
    · try simp only [tdy] at h42
      refine AL_o rfl rfl rfl rfl ?_
      refine AL_o rfl rfl rfl rfl ?_
      refine AL_o rfl rfl rfl rfl ?_
      refine AL_o rfl rfl rfl rfl ?_
      refine AL_p (x_pickF rfl rfl rfl) ?_
      refine AL_p (x_assign rfl rfl) ?_
      refine AL_nil ?_
      refine AW_ret ?_
      exact ⟨rn [], ⟨⟨⟨_, rfl, vle_bool (by first | exact (relOk_bad (k := k) (by omega) (rowAt_row (by omega) h14)).symm | exact (relOk_bad (k := k) (by omega) (rowAt_len (by omega) h22)).symm | exact (relOk_bad (k := k) (by omega) (rowAt_order (by omega) (by omega) (by omega))).symm | exact (relOk_good hs (by omega) (upToB_iff.1 h42).1 (upToB_iff.1 h42).2 (by omega)).symm | exact (relOk_range (by omega)).symm | exact (relOk_range (upToB_not h42 (by omega))).symm)⟩, trivial⟩, trivial, trivial, rfl⟩⟩
    try simp only [tdy] at h42
    refine AL_g rfl rfl (x_field (off := 1) (o' := 1) rfl rfl rfl (by kernel_rfl) rfl) ?_
    refine AL_g rfl rfl (x_load1 rfl rfl rfl (by kernel_rfl) rfl) ?_
    refine AL_g rfl rfl (x_len (E := 92) (n := 1) rfl rfl (by kernel_rfl)) ?_
    refine AL_gb rfl rfl (x_leq rfl rfl rfl) (fun b47 h47 => ?_)
    refine AL_p (x_pickT rfl rfl rfl) ?_
    refine AL_p (x_assign rfl rfl) ?_
    refine AL_nil ?_
    refine AW_ret ?_
    cases b47
    rotate_left
    · try simp only [tdy] at h47
      exact ⟨rn [], ⟨⟨⟨_, rfl, vle_bool (by first | exact (relOk_bad (k := k) (by omega) (rowAt_row (by omega) h14)).symm | exact (relOk_bad (k := k) (by omega) (rowAt_len (by omega) h22)).symm | exact (relOk_bad (k := k) (by omega) (rowAt_order (by omega) (by omega) (by omega))).symm | exact (relOk_good hs (by omega) (upToB_iff.1 h42).1 (upToB_iff.1 h42).2 (by omega)).symm | exact (relOk_range (by omega)).symm | exact (relOk_range (upToB_not h42 (by omega))).symm)⟩, trivial⟩, trivial, trivial, rfl⟩⟩
    try simp only [tdy] at h47
    exact ⟨rn [], ⟨⟨⟨_, rfl, vle_bool (by first | exact (relOk_bad (k := k) (by omega) (rowAt_row (by omega) h14)).symm | exact (relOk_bad (k := k) (by omega) (rowAt_len (by omega) h22)).symm | exact (relOk_bad (k := k) (by omega) (rowAt_order (by omega) (by omega) (by omega))).symm | exact (relOk_good hs (by omega) (upToB_iff.1 h42).1 (upToB_iff.1 h42).2 (by omega)).symm | exact (relOk_range (by omega)).symm | exact (relOk_range (upToB_not h42 (by omega))).symm)⟩, trivial⟩, trivial, trivial, rfl⟩⟩
  try simp only [tdy] at h9
  refine AW_condT rfl ?_
  refine AW_skip ?_
  refine AW_seq ?_
  refine AW_block ?_
  refine AW_seq ?_
  refine AW_region ?_
  refine AL_p (x_move rfl rfl) ?_
  refine AL_p (x_index (E := 92) (n := 1) rfl rfl rfl (by kernel_rfl) rfl rfl (by omega)) ?_
  refine AL_p (x_eloadW (n := 1) rfl rfl (by kernel_rfl) rfl) ?_
  refine AL_p (x_alloc (z := .agg #[.slice none 0 0]) 101 rfl (by kernel_rfl) rfl rfl rfl rfl) ?_
  refine AL_p (x_assign rfl rfl) ?_
  refine AL_p (x_store (n := 1) rfl rfl rfl rfl (by kernel_rfl) rfl rfl rfl) ?_
  refine AL_nil ?_
  refine AW_seq ?_
  refine AW_draw rfl ?_
  refine AL_p (x_loadN (n := 1) rfl rfl rfl (by kernel_rfl) rfl rfl) ?_
  refine AL_b (x_call0 rfl rfl rfl (rowOkI_c _) rfl rfl) (fun b14 h14 => ?_)
  refine AL_p (x_not rfl rfl) ?_
  refine AL_p (x_move rfl rfl) ?_
  cases b14
  · try simp only [tdy] at h14
    refine AL_o rfl rfl rfl rfl ?_
    refine AL_o rfl rfl rfl rfl ?_
    refine AL_o rfl rfl rfl rfl ?_
    refine AL_o rfl rfl rfl rfl ?_
    refine AL_o rfl rfl rfl rfl ?_
    refine AL_o rfl rfl rfl rfl ?_
    refine AL_p (x_pickT rfl rfl rfl) ?_
    refine AL_p (x_move rfl rfl) ?_
    refine AL_o rfl rfl rfl rfl ?_
    refine AL_o rfl rfl rfl rfl ?_
    refine AL_o rfl rfl rfl rfl ?_
    refine AL_u rfl rfl rfl ?_
    refine AL_u rfl rfl rfl ?_
    refine AL_u rfl rfl rfl ?_
    refine AL_u rfl rfl rfl ?_
    refine AL_u rfl rfl rfl ?_
    refine AL_u rfl rfl rfl ?_
    refine AL_u rfl rfl rfl ?_
    refine AL_u rfl rfl rfl ?_
    refine AL_u rfl rfl rfl ?_
    refine AL_o rfl rfl rfl rfl ?_
    refine AL_p (x_pickT rfl rfl rfl) ?_
    refine AL_nild (by kernel_rfl) ?_
    refine AW_condT rfl ?_
    refine AW_seq ?_
    refine AW_region ?_
    refine AL_p (x_assign rfl rfl) ?_
    refine AL_nil ?_
    refine AW_ret (BQ_ret (BQ_ret ?_))
    exact ⟨rn [], ⟨⟨⟨_, rfl, vle_bool (by first | exact (relOk_bad (k := k) (by omega) (rowAt_row (by omega) h14)).symm | exact (relOk_bad (k := k) (by omega) (rowAt_len (by omega) h22)).symm | exact (relOk_bad (k := k) (by omega) (rowAt_order (by omega) (by omega) (by omega))).symm | exact (relOk_good hs (by omega) (upToB_iff.1 h42).1 (upToB_iff.1 h42).2 (by omega)).symm | exact (relOk_range (by omega)).symm | exact (relOk_range (upToB_not h42 (by omega))).symm)⟩, trivial⟩, trivial, trivial, rfl⟩⟩
  try simp only [tdy] at h14
  refine AL_g rfl rfl (x_field (off := 0) (o' := 0) rfl rfl rfl (by kernel_rfl) rfl) ?_
  refine AL_g rfl rfl (x_load1 rfl rfl rfl (by kernel_rfl) rfl) ?_
  refine AL_g rfl rfl (x_len (E := 94) (n := 2) rfl rfl (by kernel_rfl)) ?_
  refine AL_g rfl rfl (x_field (off := 0) (o' := 0) rfl rfl rfl (by kernel_rfl) rfl) ?_
  refine AL_g rfl rfl (x_load1 rfl rfl rfl (by kernel_rfl) rfl) ?_
  refine AL_gb rfl rfl (x_neq rfl rfl rfl) (fun b22 h22 => ?_)
  refine AL_p (x_pickF rfl rfl rfl) ?_
  refine AL_p (x_move rfl rfl) ?_
  cases b22
  rotate_left
  · try simp only [tdy] at h22
    refine AL_o rfl rfl rfl rfl ?_
    refine AL_o rfl rfl rfl rfl ?_
    refine AL_o rfl rfl rfl rfl ?_
    refine AL_u rfl rfl rfl ?_
    refine AL_u rfl rfl rfl ?_
    refine AL_u rfl rfl rfl ?_
    refine AL_u rfl rfl rfl ?_
    refine AL_u rfl rfl rfl ?_
    refine AL_u rfl rfl rfl ?_
    refine AL_u rfl rfl rfl ?_
    refine AL_u rfl rfl rfl ?_
    refine AL_u rfl rfl rfl ?_
    refine AL_o rfl rfl rfl rfl ?_
    refine AL_p (x_pickT rfl rfl rfl) ?_
    refine AL_nild (by kernel_rfl) ?_
    refine AW_condT rfl ?_
    refine AW_seq ?_
    refine AW_region ?_
    refine AL_p (x_assign rfl rfl) ?_
    refine AL_nil ?_
    refine AW_ret (BQ_ret (BQ_ret ?_))
    exact ⟨rn [], ⟨⟨⟨_, rfl, vle_bool (by first | exact (relOk_bad (k := k) (by omega) (rowAt_row (by omega) h14)).symm | exact (relOk_bad (k := k) (by omega) (rowAt_len (by omega) h22)).symm | exact (relOk_bad (k := k) (by omega) (rowAt_order (by omega) (by omega) (by omega))).symm | exact (relOk_good hs (by omega) (upToB_iff.1 h42).1 (upToB_iff.1 h42).2 (by omega)).symm | exact (relOk_range (by omega)).symm | exact (relOk_range (upToB_not h42 (by omega))).symm)⟩, trivial⟩, trivial, trivial, rfl⟩⟩
  try simp only [tdy] at h22
  refine AL_g rfl rfl (x_move rfl rfl) ?_
  refine AL_gb rfl rfl (x_gtr rfl rfl rfl) (fun b26 h26 => ?_)
  refine AL_g rfl rfl (x_move rfl rfl) ?_
  cases b26
  · try simp only [tdy] at h26
    have hat := rowAt_first (ar := r.arity) (k := k) (by omega) (by omega) h14 (by omega)
    refine AL_o rfl rfl rfl rfl ?_
    refine AL_o rfl rfl rfl rfl ?_
    refine AL_o rfl rfl rfl rfl ?_
    refine AL_o rfl rfl rfl rfl ?_
    refine AL_o rfl rfl rfl rfl ?_
    refine AL_o rfl rfl rfl rfl ?_
    refine AL_o rfl rfl rfl rfl ?_
    refine AL_o rfl rfl rfl rfl ?_
    refine AL_o rfl rfl rfl rfl ?_
    refine AL_g rfl rfl (x_pickF rfl rfl rfl) ?_
    refine AL_p (x_pickF rfl rfl rfl) ?_
    refine AL_nild (by kernel_rfl) ?_
    refine AW_condF rfl ?_
    refine AW_skip ?_
    refine AW_region ?_
    refine AL_p (x_add rfl rfl rfl (IntWalk.i64_in _ (by omega))) ?_
    refine AL_p (x_move rfl rfl) ?_
    refine AL_nil ?_
    refine ⟨⟨k + 1, ⟨by omega, hs.succ (by omega) hat⟩⟩, rn [], ?_, by dsimp only; omega⟩
    exact ⟨by (repeat refine ⟨⟨_, rfl, by first | exact VLe.rf | exact vle_int (by dsimp only; omega)⟩, ?_⟩); exact trivial, by (repeat refine ⟨⟨_, rfl, by first | exact BLe.rf | exact BLe.box AllC.rf | exact BLe.arr (by exact rfl)⟩, ?_⟩); exact trivial, by repeat (first | exact trivial | refine ⟨⟨rfl, by first | (left; intro h; cases h) | (right; rfl), by first | exact (fun _ h => ⟨_, h⟩) | exact (fun _ _ => ⟨_, rfl⟩)⟩, ?_⟩), rfl⟩
  try simp only [tdy] at h26
  refine AL_g rfl rfl (x_field (off := 1) (o' := 1) rfl rfl rfl (by kernel_rfl) rfl) ?_
  refine AL_g rfl rfl (x_load1 rfl rfl rfl (by kernel_rfl) rfl) ?_
  refine AL_g rfl rfl (x_move rfl rfl) ?_
  refine AL_g rfl rfl (x_sub rfl rfl rfl (IntWalk.i64_in _ (by omega))) ?_
  refine AL_g rfl rfl (x_index (E := 92) (n := 1) rfl rfl rfl (by kernel_rfl) rfl (k := k - 1) (by omega) (by omega)) ?_
  refine AL_g rfl rfl (x_eloadW (n := 1) rfl rfl (by kernel_rfl) rfl) ?_
  refine AL_g rfl rfl (x_loadN (n := 1) rfl rfl rfl (by kernel_rfl) rfl rfl) ?_
  refine AL_g rfl rfl (x_call0 rfl rfl rfl (byRow_c _ _ (rowOk_vals (hs.row (by omega) (by omega))) (rowOk_vals h14)) rfl rfl) ?_
  refine AL_gb rfl rfl (x_geq rfl rfl rfl) (fun b36 h36 => ?_)
  refine AL_g rfl rfl (x_pickT rfl rfl rfl) ?_
  refine AL_p (x_pickF rfl rfl rfl) ?_
  refine AL_nild (by kernel_rfl) ?_
  cases b36
  rotate_left
  · try simp only [tdy] at h36
    refine AW_condT rfl ?_
    refine AW_seq ?_
    refine AW_region ?_
    refine AL_p (x_assign rfl rfl) ?_
    refine AL_nil ?_
    refine AW_ret (BQ_ret (BQ_ret ?_))
    exact ⟨rn [], ⟨⟨⟨_, rfl, vle_bool (by first | exact (relOk_bad (k := k) (by omega) (rowAt_row (by omega) h14)).symm | exact (relOk_bad (k := k) (by omega) (rowAt_len (by omega) h22)).symm | exact (relOk_bad (k := k) (by omega) (rowAt_order (by omega) (by omega) (by omega))).symm | exact (relOk_good hs (by omega) (upToB_iff.1 h42).1 (upToB_iff.1 h42).2 (by omega)).symm | exact (relOk_range (by omega)).symm | exact (relOk_range (upToB_not h42 (by omega))).symm)⟩, trivial⟩, trivial, trivial, rfl⟩⟩
  try simp only [tdy] at h36
  have hat := rowAt_next (ar := r.arity) (k := k) (by omega) (by omega) h14 (by omega) (by omega)
  refine AW_condF rfl ?_
  refine AW_skip ?_
  refine AW_region ?_
  refine AL_p (x_add rfl rfl rfl (IntWalk.i64_in _ (by omega))) ?_
  refine AL_p (x_move rfl rfl) ?_
  refine AL_nil ?_
  refine ⟨⟨k + 1, ⟨by omega, hs.succ (by omega) hat⟩⟩, rn [], ?_, by dsimp only; omega⟩
  exact ⟨by (repeat refine ⟨⟨_, rfl, by first | exact VLe.rf | exact vle_int (by dsimp only; omega)⟩, ?_⟩); exact trivial, by (repeat refine ⟨⟨_, rfl, by first | exact BLe.rf | exact BLe.box AllC.rf | exact BLe.arr (by exact rfl)⟩, ?_⟩); exact trivial, by repeat (first | exact trivial | refine ⟨⟨rfl, by first | (left; intro h; cases h) | (right; rfl), by first | exact (fun _ h => ⟨_, h⟩) | exact (fun _ _ => ⟨_, rfl⟩)⟩, ?_⟩), rfl⟩
end Go.Proofs.Ytibhoanjglfaoaa

/- A row among rows (printed by walk.py) -/
namespace Go.Proofs.Ytibhoanjglfaoaa
open Go.RowKit
set_option linter.unusedVariables false
set_option linter.unusedSimpArgs false
set_option maxRecDepth 100000

set_option maxHeartbeats 4000000 in
theorem hasS_c (rows : List (List Val)) (row : List Val) (hl : rows.length ≤ 1048576) (hr : ∀ r ∈ rows, r.length ≤ 1048576) : AC Try.prog 133 [.one (.sl rowE rows), .agg (rowC row)] [] (.one (.c (.bool (hasRow rows row)))) [] := by
  refine AC_body1 Try.func133 rfl rfl Try.ntmps133 rfl Try.results133 ?_
  refine AW_seq ?_
  refine AW_region ?_
  refine AL_p (x_box 100 rfl rfl rfl rfl rfl rfl rfl) ?_
  refine AL_p (x_assign rfl rfl) ?_
  refine AL_nil ?_
  refine AW_seq ?_
  refine AW_seq ?_
  refine AW_region ?_
  refine AL_p (x_move rfl rfl) ?_
  refine AL_p (x_len (E := 92) (n := 1) rfl rfl (by kernel_rfl)) ?_
  refine AL_p (x_move rfl rfl) ?_
  refine AL_nil ?_
  refine AW_block ?_
  refine AW_loop2 (ι := {q : Nat // q ≤ rows.length ∧ NoneTo (fun r => sameRow r row) rows q}) (fun p => [(8, .one (.c (.int .i64 ((p.1) : Int))))]) (fun p => []) [0, 3, 7] [100] (fun p => rows.length - (p.1)) ⟨0, ⟨by omega, .zero⟩⟩ (rn []) ?_ ?_
  exact ⟨by (repeat refine ⟨⟨_, rfl, by first | exact VLe.rf | exact vle_int (by dsimp only; omega)⟩, ?_⟩); exact trivial, by (repeat refine ⟨⟨_, rfl, by first | exact BLe.rf | exact BLe.box AllC.rf | exact BLe.arr (by exact rfl)⟩, ?_⟩); exact trivial, by repeat (first | exact trivial | refine ⟨⟨rfl, by first | (left; intro h; cases h) | (right; rfl), by first | exact (fun _ h => ⟨_, h⟩) | exact (fun _ _ => ⟨_, rfl⟩)⟩, ?_⟩), rfl⟩
  rintro ⟨k, hinv⟩
  dsimp only
  obtain ⟨hk, hs⟩ := hinv
  refine AW_seq ?_
  refine AW_region ?_
  refine AL_b (x_lss rfl rfl rfl) (fun b9 h9 => ?_)
  refine AL_nil ?_
  refine AW_seq ?_
  cases b9
  · try simp only [tdy] at h9
    refine AW_condF rfl ?_
    refine AW_exit (BQ_hit ?_)
    refine AW_seq ?_
    refine AW_region ?_
    refine AL_p (x_assign rfl rfl) ?_
    refine AL_nil ?_
    refine AW_ret ?_
    exact ⟨rn [], ⟨⟨⟨_, rfl, vle_bool (by first | exact (hasRow_at (k := k) (by omega) h16).symm | exact (hasRow_none hs (by omega)).symm)⟩, trivial⟩, trivial, trivial, rfl⟩⟩
  try simp only [tdy] at h9
  refine AW_condT rfl ?_
  refine AW_skip ?_
  refine AW_seq ?_
  refine AW_block ?_
  refine AW_seq ?_
  refine AW_region ?_
  refine AL_p (x_move rfl rfl) ?_
  refine AL_p (x_assign rfl rfl) ?_
  refine AL_nil ?_
  refine AW_seq ?_
  refine AW_draw rfl ?_
  refine AL_p (x_move rfl rfl) ?_
  refine AL_p (x_move rfl rfl) ?_
  refine AL_p (x_index (E := 92) (n := 1) rfl rfl rfl (by kernel_rfl) rfl rfl (by omega)) ?_
  refine AL_p (x_eloadW (n := 1) rfl rfl (by kernel_rfl) rfl) ?_
  refine AL_p (x_loadN (n := 1) rfl rfl rfl (by kernel_rfl) rfl rfl) ?_
  refine AL_b (x_call0 rfl rfl rfl (sameRowS_c _ _ (hr _ (List.getElem_mem _))) rfl rfl) (fun b16 h16 => ?_)
  refine AL_nild (by kernel_rfl) ?_
  cases b16
  rotate_left
  · try simp only [tdy] at h16
    refine AW_condT rfl ?_
    refine AW_seq ?_
    refine AW_region ?_
    refine AL_p (x_assign rfl rfl) ?_
    refine AL_nil ?_
    refine AW_ret (BQ_ret (BQ_ret ?_))
    exact ⟨rn [], ⟨⟨⟨_, rfl, vle_bool (by first | exact (hasRow_at (k := k) (by omega) h16).symm | exact (hasRow_none hs (by omega)).symm)⟩, trivial⟩, trivial, trivial, rfl⟩⟩
  try simp only [tdy] at h16
  refine AW_condF rfl ?_
  refine AW_skip ?_
  refine AW_region ?_
  refine AL_p (x_add rfl rfl rfl (IntWalk.i64_in _ (by omega))) ?_
  refine AL_p (x_move rfl rfl) ?_
  refine AL_nil ?_
  refine ⟨⟨k + 1, ⟨by omega, hs.succ (by omega) h16⟩⟩, rn [], ?_, by dsimp only; omega⟩
  exact ⟨by (repeat refine ⟨⟨_, rfl, by first | exact VLe.rf | exact vle_int (by dsimp only; omega)⟩, ?_⟩); exact trivial, by (repeat refine ⟨⟨_, rfl, by first | exact BLe.rf | exact BLe.box AllC.rf | exact BLe.arr (by exact rfl)⟩, ?_⟩); exact trivial, by repeat (first | exact trivial | refine ⟨⟨rfl, by first | (left; intro h; cases h) | (right; rfl), by first | exact (fun _ h => ⟨_, h⟩) | exact (fun _ _ => ⟨_, rfl⟩)⟩, ?_⟩), rfl⟩

end Go.Proofs.Ytibhoanjglfaoaa

/- Like relations (printed by walk.py) -/
namespace Go.Proofs.Ytibhoanjglfaoaa
open Go.RowKit
set_option linter.unusedVariables false
set_option linter.unusedSimpArgs false
set_option maxRecDepth 100000

set_option maxHeartbeats 4000000 in
theorem twoS_c (a b : Relt) (ha : smallRel a) (hb : smallRel b) : AC Try.prog 125 [.agg (relC a), .agg (relC b)] [] (.one (.c (.bool (two a b)))) [] := by
  refine AC_body1 Try.func125 rfl rfl Try.ntmps125 rfl Try.results125 ?_
  refine AW_seq ?_
  refine AW_region ?_
  refine AL_p (x_box 100 rfl rfl rfl rfl rfl rfl rfl) ?_
  refine AL_p (x_box 101 rfl rfl rfl rfl rfl rfl rfl) ?_
  refine AL_p (x_assign rfl rfl) ?_
  refine AL_nil ?_
  refine AW_seq ?_
  refine AW_region ?_
  refine AL_p (x_loadN (n := 2) rfl rfl rfl (by kernel_rfl) rfl rfl) ?_
  refine AL_b (x_call0 rfl rfl rfl (relOkS_c _ (by first | exact ha.1 | exact hb.1)) rfl rfl) (fun b6 h6 => ?_)
  refine AL_p (x_move rfl rfl) ?_
  cases b6
  · try simp only [tdy] at h6
    refine AL_o rfl rfl rfl rfl ?_
    refine AL_o rfl rfl rfl rfl ?_
    refine AL_p (x_pickF rfl rfl rfl) ?_
    refine AL_p (x_move rfl rfl) ?_
    refine AL_o rfl rfl rfl rfl ?_
    refine AL_o rfl rfl rfl rfl ?_
    refine AL_o rfl rfl rfl rfl ?_
    refine AL_o rfl rfl rfl rfl ?_
    refine AL_o rfl rfl rfl rfl ?_
    refine AL_p (x_pickF rfl rfl rfl) ?_
    refine AL_p (x_assign rfl rfl) ?_
    refine AL_nil ?_
    refine AW_ret ?_
    exact ⟨rn [], ⟨⟨⟨_, rfl, vle_bool (by first | exact (two_a h6).symm | exact (two_b h9).symm | ((rw [two_ok h6 h9]; simp [h16])))⟩, trivial⟩, trivial, trivial, rfl⟩⟩
  try simp only [tdy] at h6
  refine AL_g rfl rfl (x_loadN (n := 2) rfl rfl rfl (by kernel_rfl) rfl rfl) ?_
  refine AL_gb rfl rfl (x_call0 rfl rfl rfl (relOkS_c _ (by first | exact ha.1 | exact hb.1)) rfl rfl) (fun b9 h9 => ?_)
  refine AL_p (x_pickT rfl rfl rfl) ?_
  refine AL_p (x_move rfl rfl) ?_
  cases b9
  · try simp only [tdy] at h9
    refine AL_o rfl rfl rfl rfl ?_
    refine AL_o rfl rfl rfl rfl ?_
    refine AL_o rfl rfl rfl rfl ?_
    refine AL_o rfl rfl rfl rfl ?_
    refine AL_o rfl rfl rfl rfl ?_
    refine AL_p (x_pickF rfl rfl rfl) ?_
    refine AL_p (x_assign rfl rfl) ?_
    refine AL_nil ?_
    refine AW_ret ?_
    exact ⟨rn [], ⟨⟨⟨_, rfl, vle_bool (by first | exact (two_a h6).symm | exact (two_b h9).symm | ((rw [two_ok h6 h9]; simp [h16])))⟩, trivial⟩, trivial, trivial, rfl⟩⟩
  try simp only [tdy] at h9
  refine AL_g rfl rfl (x_field (off := 0) (o' := 0) rfl rfl rfl (by kernel_rfl) rfl) ?_
  refine AL_g rfl rfl (x_load1 rfl rfl rfl (by kernel_rfl) rfl) ?_
  refine AL_g rfl rfl (x_field (off := 0) (o' := 0) rfl rfl rfl (by kernel_rfl) rfl) ?_
  refine AL_g rfl rfl (x_load1 rfl rfl rfl (by kernel_rfl) rfl) ?_
  refine AL_gb rfl rfl (x_eql rfl rfl rfl) (fun b16 h16 => ?_)
  refine AL_p (x_pickT rfl rfl rfl) ?_
  refine AL_p (x_assign rfl rfl) ?_
  refine AL_nil ?_
  refine AW_ret ?_
  cases b16
  rotate_left
  · try simp only [tdy] at h16
    exact ⟨rn [], ⟨⟨⟨_, rfl, vle_bool (by first | exact (two_a h6).symm | exact (two_b h9).symm | ((rw [two_ok h6 h9]; simp [h16])))⟩, trivial⟩, trivial, trivial, rfl⟩⟩
  try simp only [tdy] at h16
  exact ⟨rn [], ⟨⟨⟨_, rfl, vle_bool (by first | exact (two_a h6).symm | exact (two_b h9).symm | ((rw [two_ok h6 h9]; simp [h16])))⟩, trivial⟩, trivial, trivial, rfl⟩⟩

set_option maxHeartbeats 4000000 in
theorem sameRelS_c (a b : Relt) (ha : smallRel a) (hb : smallRel b) : AC Try.prog 83 [.agg (relC a), .agg (relC b)] [] (.one (.c (.bool (sameRel a b)))) [] := by
  refine AC_body1 Try.func83 rfl rfl Try.ntmps83 rfl Try.results83 ?_
  refine AW_seq ?_
  refine AW_region ?_
  refine AL_p (x_box 100 rfl rfl rfl rfl rfl rfl rfl) ?_
  refine AL_p (x_box 101 rfl rfl rfl rfl rfl rfl rfl) ?_
  refine AL_p (x_assign rfl rfl) ?_
  refine AL_nil ?_
  refine AW_seq ?_
  refine AW_seq ?_
  refine AW_region ?_
  refine AL_p (x_loadN (n := 2) rfl rfl rfl (by kernel_rfl) rfl rfl) ?_
  refine AL_p (x_loadN (n := 2) rfl rfl rfl (by kernel_rfl) rfl rfl) ?_
  refine AL_b (x_call0 rfl rfl rfl (twoS_c _ _ ha hb) rfl rfl) (fun b8 h8 => ?_)
  refine AL_p (x_not rfl rfl) ?_
  refine AL_p (x_move rfl rfl) ?_
  cases b8
  · try simp only [tdy] at h8
    refine AL_o rfl rfl rfl rfl ?_
    refine AL_o rfl rfl rfl rfl ?_
    refine AL_o rfl rfl rfl rfl ?_
    refine AL_o rfl rfl rfl rfl ?_
    refine AL_o rfl rfl rfl rfl ?_
    refine AL_o rfl rfl rfl rfl ?_
    refine AL_o rfl rfl rfl rfl ?_
    refine AL_p (x_pickT rfl rfl rfl) ?_
    refine AL_nil ?_
    refine AW_condT rfl ?_
    refine AW_seq ?_
    refine AW_region ?_
    refine AL_p (x_assign rfl rfl) ?_
    refine AL_nil ?_
    refine AW_ret ?_
    exact ⟨rn [], ⟨⟨⟨_, rfl, vle_bool (by first | exact (sameRel_two h8).symm | exact (sameRel_rows (sameRows_len (by omega))).symm | exact (sameRel_rows (sameRows_at (k := k) (by omega) (by omega) h35)).symm | exact (sameRel_yes h8 (sameRows_eq (hs.eq (by omega) (by omega)))).symm)⟩, trivial⟩, trivial, trivial, rfl⟩⟩
  try simp only [tdy] at h8
  refine AL_g rfl rfl (x_field (off := 1) (o' := 1) rfl rfl rfl (by kernel_rfl) rfl) ?_
  refine AL_g rfl rfl (x_load1 rfl rfl rfl (by kernel_rfl) rfl) ?_
  refine AL_g rfl rfl (x_len (E := 92) (n := 1) rfl rfl (by kernel_rfl)) ?_
  refine AL_g rfl rfl (x_field (off := 1) (o' := 1) rfl rfl rfl (by kernel_rfl) rfl) ?_
  refine AL_g rfl rfl (x_load1 rfl rfl rfl (by kernel_rfl) rfl) ?_
  refine AL_g rfl rfl (x_len (E := 92) (n := 1) rfl rfl (by kernel_rfl)) ?_
  refine AL_gb rfl rfl (x_neq rfl rfl rfl) (fun b17 h17 => ?_)
  refine AL_p (x_pickF rfl rfl rfl) ?_
  refine AL_nil ?_
  cases b17
  rotate_left
  · try simp only [tdy] at h17
    refine AW_condT rfl ?_
    refine AW_seq ?_
    refine AW_region ?_
    refine AL_p (x_assign rfl rfl) ?_
    refine AL_nil ?_
    refine AW_ret ?_
    exact ⟨rn [], ⟨⟨⟨_, rfl, vle_bool (by first | exact (sameRel_two h8).symm | exact (sameRel_rows (sameRows_len (by omega))).symm | exact (sameRel_rows (sameRows_at (k := k) (by omega) (by omega) h35)).symm | exact (sameRel_yes h8 (sameRows_eq (hs.eq (by omega) (by omega)))).symm)⟩, trivial⟩, trivial, trivial, rfl⟩⟩
  try simp only [tdy] at h17
  refine AW_condF rfl ?_
  refine AW_skip ?_
  refine AW_seq ?_
  refine AW_seq ?_
  refine AW_region ?_
  refine AL_p (x_field (off := 1) (o' := 1) rfl rfl rfl (by kernel_rfl) rfl) ?_
  refine AL_p (x_load1 rfl rfl rfl (by kernel_rfl) rfl) ?_
  refine AL_p (x_len (E := 92) (n := 1) rfl rfl (by kernel_rfl)) ?_
  refine AL_p (x_move rfl rfl) ?_
  refine AL_nil ?_
  refine AW_block ?_
  refine AW_loop2 (ι := {q : Nat // q ≤ a.rows.length ∧ LikeTo a.rows b.rows q}) (fun p => [(22, .one (.c (.int .i64 ((p.1) : Int))))]) (fun p => []) [2, 3, 21] [100, 101] (fun p => a.rows.length - (p.1)) ⟨0, ⟨by have := ha.1; omega, .zero⟩⟩ (rn []) ?_ ?_
  exact ⟨by (repeat refine ⟨⟨_, rfl, by first | exact VLe.rf | exact vle_int (by dsimp only; omega)⟩, ?_⟩); exact trivial, by (repeat refine ⟨⟨_, rfl, by first | exact BLe.rf | exact BLe.box AllC.rf | exact BLe.arr (by exact rfl)⟩, ?_⟩); exact trivial, by repeat (first | exact trivial | refine ⟨⟨rfl, by first | (left; intro h; cases h) | (right; rfl), by first | exact (fun _ h => ⟨_, h⟩) | exact (fun _ _ => ⟨_, rfl⟩)⟩, ?_⟩), rfl⟩
  rintro ⟨k, hinv⟩
  dsimp only
  obtain ⟨hk, hs⟩ := hinv
  have hl := ha.1
  refine AW_seq ?_
  refine AW_region ?_
  refine AL_b (x_lss rfl rfl rfl) (fun b23 h23 => ?_)
  refine AL_nil ?_
  refine AW_seq ?_
  cases b23
  · try simp only [tdy] at h23
    refine AW_condF rfl ?_
    refine AW_exit (BQ_hit ?_)
    refine AW_seq ?_
    refine AW_region ?_
    refine AL_p (x_assign rfl rfl) ?_
    refine AL_nil ?_
    refine AW_ret ?_
    exact ⟨rn [], ⟨⟨⟨_, rfl, vle_bool (by first | exact (sameRel_two h8).symm | exact (sameRel_rows (sameRows_len (by omega))).symm | exact (sameRel_rows (sameRows_at (k := k) (by omega) (by omega) h35)).symm | exact (sameRel_yes h8 (sameRows_eq (hs.eq (by omega) (by omega)))).symm)⟩, trivial⟩, trivial, trivial, rfl⟩⟩
  try simp only [tdy] at h23
  refine AW_condT rfl ?_
  refine AW_skip ?_
  refine AW_seq ?_
  refine AW_block ?_
  refine AW_seq ?_
  refine AW_region ?_
  refine AL_p (x_move rfl rfl) ?_
  refine AL_p (x_assign rfl rfl) ?_
  refine AL_nil ?_
  refine AW_seq ?_
  refine AW_draw rfl ?_
  refine AL_p (x_field (off := 1) (o' := 1) rfl rfl rfl (by kernel_rfl) rfl) ?_
  refine AL_p (x_load1 rfl rfl rfl (by kernel_rfl) rfl) ?_
  refine AL_p (x_move rfl rfl) ?_
  refine AL_p (x_index (E := 92) (n := 1) rfl rfl rfl (by kernel_rfl) rfl (k := k) (by omega) (by omega)) ?_
  refine AL_p (x_eloadW (n := 1) rfl rfl (by kernel_rfl) rfl) ?_
  refine AL_p (x_field (off := 1) (o' := 1) rfl rfl rfl (by kernel_rfl) rfl) ?_
  refine AL_p (x_load1 rfl rfl rfl (by kernel_rfl) rfl) ?_
  refine AL_p (x_move rfl rfl) ?_
  refine AL_p (x_index (E := 92) (n := 1) rfl rfl rfl (by kernel_rfl) rfl (k := k) (by omega) (by omega)) ?_
  refine AL_p (x_eloadW (n := 1) rfl rfl (by kernel_rfl) rfl) ?_
  refine AL_b (x_call0 rfl rfl rfl (sameRowS_c _ _ (ha.2 _ (List.getElem_mem _)).1) rfl rfl) (fun b35 h35 => ?_)
  refine AL_p (x_not rfl rfl) ?_
  refine AL_nild (by kernel_rfl) ?_
  cases b35
  · try simp only [tdy] at h35
    refine AW_condT rfl ?_
    refine AW_seq ?_
    refine AW_region ?_
    refine AL_p (x_assign rfl rfl) ?_
    refine AL_nil ?_
    refine AW_ret (BQ_ret (BQ_ret ?_))
    exact ⟨rn [], ⟨⟨⟨_, rfl, vle_bool (by first | exact (sameRel_two h8).symm | exact (sameRel_rows (sameRows_len (by omega))).symm | exact (sameRel_rows (sameRows_at (k := k) (by omega) (by omega) h35)).symm | exact (sameRel_yes h8 (sameRows_eq (hs.eq (by omega) (by omega)))).symm)⟩, trivial⟩, trivial, trivial, rfl⟩⟩
  try simp only [tdy] at h35
  refine AW_condF rfl ?_
  refine AW_skip ?_
  refine AW_region ?_
  refine AL_p (x_add rfl rfl rfl (IntWalk.i64_in _ (by omega))) ?_
  refine AL_p (x_move rfl rfl) ?_
  refine AL_nil ?_
  refine ⟨⟨k + 1, ⟨by omega, hs.succ (by omega) (by omega) (sameRow_iff.1 h35)⟩⟩, rn [], ?_, by dsimp only; omega⟩
  exact ⟨by (repeat refine ⟨⟨_, rfl, by first | exact VLe.rf | exact vle_int (by dsimp only; omega)⟩, ?_⟩); exact trivial, by (repeat refine ⟨⟨_, rfl, by first | exact BLe.rf | exact BLe.box AllC.rf | exact BLe.arr (by exact rfl)⟩, ?_⟩); exact trivial, by repeat (first | exact trivial | refine ⟨⟨rfl, by first | (left; intro h; cases h) | (right; rfl), by first | exact (fun _ h => ⟨_, h⟩) | exact (fun _ _ => ⟨_, rfl⟩)⟩, ?_⟩), rfl⟩

set_option maxHeartbeats 4000000 in
theorem eqVals_c (a b : List Val) (ha : a.length ≤ 1048576) : AC Try.prog 172 [.one (.sl valE a), .one (.sl valE b)] [] (.one (.c (.bool (sameRow a b)))) [] := by
  refine AC_body1 Try.func172 rfl rfl Try.ntmps172 rfl Try.results172 ?_
  refine AW_seq ?_
  refine AW_region ?_
  refine AL_p (x_assign rfl rfl) ?_
  refine AL_nil ?_
  refine AW_seq ?_
  refine AW_seq ?_
  refine AW_region ?_
  refine AL_p (x_move rfl rfl) ?_
  refine AL_p (x_len (E := 94) (n := 2) rfl rfl (by kernel_rfl)) ?_
  refine AL_p (x_move rfl rfl) ?_
  refine AL_p (x_len (E := 94) (n := 2) rfl rfl (by kernel_rfl)) ?_
  refine AL_b (x_neq rfl rfl rfl) (fun b10 h10 => ?_)
  refine AL_nil ?_
  cases b10
  rotate_left
  · try simp only [tdy] at h10
    refine AW_condT rfl ?_
    refine AW_seq ?_
    refine AW_region ?_
    refine AL_p (x_assign rfl rfl) ?_
    refine AL_nil ?_
    refine AW_ret ?_
    exact ⟨rn [], ⟨⟨⟨_, rfl, vle_bool (by first | exact (sameRow_len (by omega)).symm | exact (sameRow_at (k := k) (by omega) (by omega) h24).symm | exact (sameRow_eq (hs.eq (by omega) (by omega))).symm)⟩, trivial⟩, trivial, trivial, rfl⟩⟩
  try simp only [tdy] at h10
  refine AW_condF rfl ?_
  refine AW_skip ?_
  refine AW_seq ?_
  refine AW_seq ?_
  refine AW_region ?_
  refine AL_p (x_move rfl rfl) ?_
  refine AL_p (x_len (E := 94) (n := 2) rfl rfl (by kernel_rfl)) ?_
  refine AL_p (x_move rfl rfl) ?_
  refine AL_nil ?_
  refine AW_block ?_
  refine AW_loop2 (ι := {q : Nat // q ≤ a.length ∧ SameTo a b q}) (fun p => [(13, .one (.c (.int .i64 ((p.1) : Int))))]) (fun p => []) [0, 1, 12] [] (fun p => a.length - (p.1)) ⟨0, ⟨by omega, .zero⟩⟩ (rn []) ?_ ?_
  exact ⟨by (repeat refine ⟨⟨_, rfl, by first | exact VLe.rf | exact vle_int (by dsimp only; omega)⟩, ?_⟩); exact trivial, by (repeat refine ⟨⟨_, rfl, by first | exact BLe.rf | exact BLe.box AllC.rf | exact BLe.arr (by exact rfl)⟩, ?_⟩); exact trivial, by repeat (first | exact trivial | refine ⟨⟨rfl, by first | (left; intro h; cases h) | (right; rfl), by first | exact (fun _ h => ⟨_, h⟩) | exact (fun _ _ => ⟨_, rfl⟩)⟩, ?_⟩), rfl⟩
  rintro ⟨k, hinv⟩
  dsimp only
  obtain ⟨hk, hs⟩ := hinv
  refine AW_seq ?_
  refine AW_region ?_
  refine AL_b (x_lss rfl rfl rfl) (fun b14 h14 => ?_)
  refine AL_nil ?_
  refine AW_seq ?_
  cases b14
  · try simp only [tdy] at h14
    refine AW_condF rfl ?_
    refine AW_exit (BQ_hit ?_)
    refine AW_seq ?_
    refine AW_region ?_
    refine AL_p (x_assign rfl rfl) ?_
    refine AL_nil ?_
    refine AW_ret ?_
    exact ⟨rn [], ⟨⟨⟨_, rfl, vle_bool (by first | exact (sameRow_len (by omega)).symm | exact (sameRow_at (k := k) (by omega) (by omega) h24).symm | exact (sameRow_eq (hs.eq (by omega) (by omega))).symm)⟩, trivial⟩, trivial, trivial, rfl⟩⟩
  try simp only [tdy] at h14
  refine AW_condT rfl ?_
  refine AW_skip ?_
  refine AW_seq ?_
  refine AW_block ?_
  refine AW_seq ?_
  refine AW_region ?_
  refine AL_p (x_move rfl rfl) ?_
  refine AL_p (x_assign rfl rfl) ?_
  refine AL_nil ?_
  refine AW_seq ?_
  refine AW_draw rfl ?_
  refine AL_p (x_move rfl rfl) ?_
  refine AL_p (x_move rfl rfl) ?_
  refine AL_p (x_index (E := 94) (n := 2) rfl rfl rfl (by kernel_rfl) rfl rfl (by omega)) ?_
  refine AL_p (x_eloadW (n := 2) rfl rfl (by kernel_rfl) rfl) ?_
  refine AL_p (x_move rfl rfl) ?_
  refine AL_p (x_move rfl rfl) ?_
  refine AL_p (x_index (E := 94) (n := 2) rfl rfl rfl (by kernel_rfl) rfl rfl (by omega)) ?_
  refine AL_p (x_eloadW (n := 2) rfl rfl (by kernel_rfl) rfl) ?_
  refine AL_b (x_vneq rfl rfl rfl) (fun b24 h24 => ?_)
  refine AL_nild (by kernel_rfl) ?_
  cases b24
  rotate_left
  · try simp only [tdy] at h24
    refine AW_condT rfl ?_
    refine AW_seq ?_
    refine AW_region ?_
    refine AL_p (x_assign rfl rfl) ?_
    refine AL_nil ?_
    refine AW_ret (BQ_ret (BQ_ret ?_))
    exact ⟨rn [], ⟨⟨⟨_, rfl, vle_bool (by first | exact (sameRow_len (by omega)).symm | exact (sameRow_at (k := k) (by omega) (by omega) h24).symm | exact (sameRow_eq (hs.eq (by omega) (by omega))).symm)⟩, trivial⟩, trivial, trivial, rfl⟩⟩
  try simp only [tdy] at h24
  refine AW_condF rfl ?_
  refine AW_skip ?_
  refine AW_region ?_
  refine AL_p (x_add rfl rfl rfl (IntWalk.i64_in _ (by omega))) ?_
  refine AL_p (x_move rfl rfl) ?_
  refine AL_nil ?_
  refine ⟨⟨k + 1, ⟨by omega, hs.succ (by omega) (by omega) h24⟩⟩, rn [], ?_, by dsimp only; omega⟩
  exact ⟨by (repeat refine ⟨⟨_, rfl, by first | exact VLe.rf | exact vle_int (by dsimp only; omega)⟩, ?_⟩); exact trivial, by (repeat refine ⟨⟨_, rfl, by first | exact BLe.rf | exact BLe.box AllC.rf | exact BLe.arr (by exact rfl)⟩, ?_⟩); exact trivial, by repeat (first | exact trivial | refine ⟨⟨rfl, by first | (left; intro h; cases h) | (right; rfl), by first | exact (fun _ h => ⟨_, h⟩) | exact (fun _ _ => ⟨_, rfl⟩)⟩, ?_⟩), rfl⟩

set_option maxHeartbeats 4000000 in
theorem sameRowI_c (a b : List Val) (ha : a.length ≤ 1048576) : AC Try.prog 158 [.agg (rowC a), .agg (rowC b)] [] (.one (.c (.bool (sameRow a b)))) [] := by
  refine AC_body1 Try.func158 rfl rfl Try.ntmps158 rfl Try.results158 ?_
  refine AW_seq ?_
  refine AW_region ?_
  refine AL_p (x_box 100 rfl rfl rfl rfl rfl rfl rfl) ?_
  refine AL_p (x_box 101 rfl rfl rfl rfl rfl rfl rfl) ?_
  refine AL_p (x_assign rfl rfl) ?_
  refine AL_nil ?_
  refine AW_seq ?_
  refine AW_region ?_
  refine AL_p (x_field (off := 0) (o' := 0) rfl rfl rfl (by kernel_rfl) rfl) ?_
  refine AL_p (x_load1 rfl rfl rfl (by kernel_rfl) rfl) ?_
  refine AL_p (x_field (off := 0) (o' := 0) rfl rfl rfl (by kernel_rfl) rfl) ?_
  refine AL_p (x_load1 rfl rfl rfl (by kernel_rfl) rfl) ?_
  refine AL_b (x_call0 rfl rfl rfl (eqVals_c _ _ ha) rfl rfl) (fun b9 h9 => ?_)
  refine AL_p (x_assign rfl rfl) ?_
  refine AL_nil ?_
  refine AW_ret ?_
  cases b9
  rotate_left
  · try simp only [tdy] at h9
    exact ⟨rn [], ⟨⟨⟨_, rfl, vle_bool (h9.symm)⟩, trivial⟩, trivial, trivial, rfl⟩⟩
  try simp only [tdy] at h9
  exact ⟨rn [], ⟨⟨⟨_, rfl, vle_bool (h9.symm)⟩, trivial⟩, trivial, trivial, rfl⟩⟩

set_option maxHeartbeats 4000000 in
theorem eqRows_c (a b : List (List Val)) (ha : a.length ≤ 1048576) (hm : ∀ r ∈ a, r.length ≤ 1048576) : AC Try.prog 157 [.one (.sl rowE a), .one (.sl rowE b), .one (.clo 158 [])] [] (.one (.c (.bool (sameRows a b)))) [] := by
  refine AC_body1 Try.func157 rfl rfl Try.ntmps157 rfl Try.results157 ?_
  refine AW_seq ?_
  refine AW_region ?_
  refine AL_p (x_assign rfl rfl) ?_
  refine AL_nil ?_
  refine AW_seq ?_
  refine AW_seq ?_
  refine AW_region ?_
  refine AL_p (x_move rfl rfl) ?_
  refine AL_p (x_len (E := 92) (n := 1) rfl rfl (by kernel_rfl)) ?_
  refine AL_p (x_move rfl rfl) ?_
  refine AL_p (x_len (E := 92) (n := 1) rfl rfl (by kernel_rfl)) ?_
  refine AL_b (x_neq rfl rfl rfl) (fun b14 h14 => ?_)
  refine AL_nil ?_
  cases b14
  rotate_left
  · try simp only [tdy] at h14
    refine AW_condT rfl ?_
    refine AW_seq ?_
    refine AW_region ?_
    refine AL_p (x_assign rfl rfl) ?_
    refine AL_nil ?_
    refine AW_ret ?_
    exact ⟨rn [], ⟨⟨⟨_, rfl, vle_bool (by first | exact (sameRows_len (by omega)).symm | exact (sameRows_at (k := k) (by omega) (by omega) h29).symm | exact (sameRows_eq (hs.eq (by omega) (by omega))).symm)⟩, trivial⟩, trivial, trivial, rfl⟩⟩
  try simp only [tdy] at h14
  refine AW_condF rfl ?_
  refine AW_skip ?_
  refine AW_seq ?_
  refine AW_seq ?_
  refine AW_region ?_
  refine AL_p (x_move rfl rfl) ?_
  refine AL_p (x_len (E := 92) (n := 1) rfl rfl (by kernel_rfl)) ?_
  refine AL_p (x_move rfl rfl) ?_
  refine AL_nil ?_
  refine AW_block ?_
  refine AW_loop2 (ι := {q : Nat // q ≤ a.length ∧ LikeTo a b q}) (fun p => [(17, .one (.c (.int .i64 ((p.1) : Int))))]) (fun p => []) [1, 2, 15, 16] [] (fun p => a.length - (p.1)) ⟨0, ⟨by omega, .zero⟩⟩ (rn []) ?_ ?_
  exact ⟨by (repeat refine ⟨⟨_, rfl, by first | exact VLe.rf | exact vle_int (by dsimp only; omega)⟩, ?_⟩); exact trivial, by (repeat refine ⟨⟨_, rfl, by first | exact BLe.rf | exact BLe.box AllC.rf | exact BLe.arr (by exact rfl)⟩, ?_⟩); exact trivial, by repeat (first | exact trivial | refine ⟨⟨rfl, by first | (left; intro h; cases h) | (right; rfl), by first | exact (fun _ h => ⟨_, h⟩) | exact (fun _ _ => ⟨_, rfl⟩)⟩, ?_⟩), rfl⟩
  rintro ⟨k, hinv⟩
  dsimp only
  obtain ⟨hk, hs⟩ := hinv
  refine AW_seq ?_
  refine AW_region ?_
  refine AL_b (x_lss rfl rfl rfl) (fun b18 h18 => ?_)
  refine AL_nil ?_
  refine AW_seq ?_
  cases b18
  · try simp only [tdy] at h18
    refine AW_condF rfl ?_
    refine AW_exit (BQ_hit ?_)
    refine AW_seq ?_
    refine AW_region ?_
    refine AL_p (x_assign rfl rfl) ?_
    refine AL_nil ?_
    refine AW_ret ?_
    exact ⟨rn [], ⟨⟨⟨_, rfl, vle_bool (by first | exact (sameRows_len (by omega)).symm | exact (sameRows_at (k := k) (by omega) (by omega) h29).symm | exact (sameRows_eq (hs.eq (by omega) (by omega))).symm)⟩, trivial⟩, trivial, trivial, rfl⟩⟩
  try simp only [tdy] at h18
  refine AW_condT rfl ?_
  refine AW_skip ?_
  refine AW_seq ?_
  refine AW_block ?_
  refine AW_seq ?_
  refine AW_region ?_
  refine AL_p (x_move rfl rfl) ?_
  refine AL_p (x_index (E := 92) (n := 1) rfl rfl rfl (by kernel_rfl) rfl rfl (by omega)) ?_
  refine AL_p (x_eloadW (n := 1) rfl rfl (by kernel_rfl) rfl) ?_
  refine AL_p (x_alloc (z := .agg #[.slice none 0 0]) 100 rfl (by kernel_rfl) rfl rfl rfl rfl) ?_
  refine AL_p (x_assign rfl rfl) ?_
  refine AL_p (x_store (n := 1) rfl rfl rfl rfl (by kernel_rfl) rfl rfl rfl) ?_
  refine AL_nil ?_
  refine AW_seq ?_
  refine AW_region ?_
  refine AL_p (x_move rfl rfl) ?_
  refine AL_p (x_move rfl rfl) ?_
  refine AL_p (x_index (E := 92) (n := 1) rfl rfl rfl (by kernel_rfl) rfl (k := k) (by omega) (by omega)) ?_
  refine AL_p (x_eloadW (n := 1) rfl rfl (by kernel_rfl) rfl) ?_
  refine AL_p (x_alloc (z := .agg #[.slice none 0 0]) 101 rfl (by kernel_rfl) rfl rfl rfl rfl) ?_
  refine AL_p (x_store (n := 1) rfl rfl rfl rfl (by kernel_rfl) rfl rfl rfl) ?_
  refine AL_nil ?_
  refine AW_seq ?_
  refine AW_region ?_
  refine AL_p (x_move rfl rfl) ?_
  refine AL_p (x_loadN (n := 1) rfl rfl rfl (by kernel_rfl) rfl rfl) ?_
  refine AL_p (x_loadN (n := 1) rfl rfl rfl (by kernel_rfl) rfl rfl) ?_
  refine AL_b (x_call0 rfl rfl rfl (sameRowI_c _ _ (hm _ (List.getElem_mem _))) rfl rfl) (fun b29 h29 => ?_)
  refine AL_p (x_not rfl rfl) ?_
  refine AL_nil ?_
  cases b29
  · try simp only [tdy] at h29
    refine AW_condT rfl ?_
    refine AW_seq ?_
    refine AW_region ?_
    refine AL_p (x_assign rfl rfl) ?_
    refine AL_nil ?_
    refine AW_ret (BQ_ret (BQ_ret ?_))
    exact ⟨rn [], ⟨⟨⟨_, rfl, vle_bool (by first | exact (sameRows_len (by omega)).symm | exact (sameRows_at (k := k) (by omega) (by omega) h29).symm | exact (sameRows_eq (hs.eq (by omega) (by omega))).symm)⟩, trivial⟩, trivial, trivial, rfl⟩⟩
  try simp only [tdy] at h29
  refine AW_condF rfl ?_
  refine AW_skip ?_
  refine AW_region ?_
  refine AL_p (x_add rfl rfl rfl (IntWalk.i64_in _ (by omega))) ?_
  refine AL_p (x_move rfl rfl) ?_
  refine AL_nil ?_
  refine ⟨⟨k + 1, ⟨by omega, hs.succ (by omega) (by omega) (sameRow_iff.1 h29)⟩⟩, rn [], ?_, by dsimp only; omega⟩
  exact ⟨by (repeat refine ⟨⟨_, rfl, by first | exact VLe.rf | exact vle_int (by dsimp only; omega)⟩, ?_⟩); exact trivial, by (repeat refine ⟨⟨_, rfl, by first | exact BLe.rf | exact BLe.box AllC.rf | exact BLe.arr (by exact rfl)⟩, ?_⟩); exact trivial, by repeat (first | exact trivial | refine ⟨⟨rfl, by first | (left; intro h; cases h) | (right; rfl), by first | exact (fun _ h => ⟨_, h⟩) | exact (fun _ _ => ⟨_, rfl⟩)⟩, ?_⟩), rfl⟩

set_option maxHeartbeats 4000000 in
theorem likeRelI_c (a b : Relt) (ha : smallRel a) : AC Try.prog 124 [.agg (relC a), .agg (relC b)] [] (.one (.c (.bool (likeRel a b)))) [] := by
  refine AC_body1 Try.func124 rfl rfl Try.ntmps124 rfl Try.results124 ?_
  refine AW_seq ?_
  refine AW_region ?_
  refine AL_p (x_box 100 rfl rfl rfl rfl rfl rfl rfl) ?_
  refine AL_p (x_box 101 rfl rfl rfl rfl rfl rfl rfl) ?_
  refine AL_p (x_assign rfl rfl) ?_
  refine AL_nil ?_
  refine AW_seq ?_
  refine AW_region ?_
  refine AL_p (x_field (off := 0) (o' := 0) rfl rfl rfl (by kernel_rfl) rfl) ?_
  refine AL_p (x_load1 rfl rfl rfl (by kernel_rfl) rfl) ?_
  refine AL_p (x_field (off := 0) (o' := 0) rfl rfl rfl (by kernel_rfl) rfl) ?_
  refine AL_p (x_load1 rfl rfl rfl (by kernel_rfl) rfl) ?_
  refine AL_b (x_eql rfl rfl rfl) (fun b9 h9 => ?_)
  refine AL_p (x_move rfl rfl) ?_
  cases b9
  · try simp only [tdy] at h9
    refine AL_o rfl rfl rfl rfl ?_
    refine AL_o rfl rfl rfl rfl ?_
    refine AL_o rfl rfl rfl rfl ?_
    refine AL_o rfl rfl rfl rfl ?_
    refine AL_o rfl rfl rfl rfl ?_
    refine AL_p (x_pickF rfl rfl rfl) ?_
    refine AL_p (x_assign rfl rfl) ?_
    refine AL_nil ?_
    refine AW_ret ?_
    exact ⟨rn [], ⟨⟨⟨_, rfl, vle_bool (by first | exact (likeRel_ar (beq_eq_false_iff_ne.2 h9)).symm | exact ((likeRel_ok (beq_iff_eq.2 h9)).trans h15).symm)⟩, trivial⟩, trivial, trivial, rfl⟩⟩
  try simp only [tdy] at h9
  refine AL_g rfl rfl (x_field (off := 1) (o' := 1) rfl rfl rfl (by kernel_rfl) rfl) ?_
  refine AL_g rfl rfl (x_load1 rfl rfl rfl (by kernel_rfl) rfl) ?_
  refine AL_g rfl rfl (x_field (off := 1) (o' := 1) rfl rfl rfl (by kernel_rfl) rfl) ?_
  refine AL_g rfl rfl (x_load1 rfl rfl rfl (by kernel_rfl) rfl) ?_
  refine AL_gb rfl rfl (x_call0 rfl rfl rfl (eqRows_c _ _ ha.1 fun r hr => (ha.2 r hr).1) rfl rfl) (fun b15 h15 => ?_)
  refine AL_p (x_pickT rfl rfl rfl) ?_
  refine AL_p (x_assign rfl rfl) ?_
  refine AL_nil ?_
  refine AW_ret ?_
  cases b15
  rotate_left
  · try simp only [tdy] at h15
    exact ⟨rn [], ⟨⟨⟨_, rfl, vle_bool (by first | exact (likeRel_ar (beq_eq_false_iff_ne.2 h9)).symm | exact ((likeRel_ok (beq_iff_eq.2 h9)).trans h15).symm)⟩, trivial⟩, trivial, trivial, rfl⟩⟩
  try simp only [tdy] at h15
  exact ⟨rn [], ⟨⟨⟨_, rfl, vle_bool (by first | exact (likeRel_ar (beq_eq_false_iff_ne.2 h9)).symm | exact ((likeRel_ok (beq_iff_eq.2 h9)).trans h15).symm)⟩, trivial⟩, trivial, trivial, rfl⟩⟩

end Go.Proofs.Ytibhoanjglfaoaa

/- Copies (printed by walk.py) -/
namespace Go.Proofs.Ytibhoanjglfaoaa
open Go.RowKit
set_option linter.unusedVariables false
set_option linter.unusedSimpArgs false
set_option maxRecDepth 100000

set_option maxHeartbeats 4000000 in
theorem rowS_c0 (r : List Val) (hl : r.length ≤ 1048576) : AC Try.prog 94 [.agg (rowC r)] [] (.agg [.own 0]) [(0, some (.arr 94 valE r true))] := by
  refine AC_bodyC (n := 1) (k := 9) (T := [(2, .one (.ptr 9 0))]) (Lf := ((9, some (.box [.own 0])) :: [(0, some (.arr 94 valE r true))])) Try.func94 rfl rfl Try.ntmps94 rfl Try.results94 rfl rfl (by kernel_rfl) rfl rfl ⟨trivial, (by repeat (first | exact trivial | refine ⟨⟨_, rfl, BLe.rf⟩, ?_⟩)), (by repeat (first | exact trivial | refine ⟨⟨rfl, by first | (left; intro h; cases h) | (right; rfl), by first | exact (fun _ h => ⟨_, h⟩) | exact (fun _ _ => ⟨_, rfl⟩)⟩, ?_⟩)), rfl⟩ ?_
  refine AW_seq ?_
  refine AW_region ?_
  refine AL_p (x_box 100 rfl rfl rfl rfl rfl rfl rfl) ?_
  refine AL_p (x_alloc (z := .agg #[.slice none 0 0]) 101 rfl (by kernel_rfl) rfl rfl rfl rfl) ?_
  refine AL_nil ?_
  refine AW_seq ?_
  refine AW_region ?_
  refine AL_p (y_bslice0 (E := 94) (e := valE) 102 rfl rfl rfl (by kernel_rfl)) ?_
  refine AL_p (x_field (off := 0) (o' := 0) rfl rfl rfl (by kernel_rfl) rfl) ?_
  refine AL_p (x_load1 rfl rfl rfl (by kernel_rfl) rfl) ?_
  refine AL_p (y_append_sl 103 true (.inr valE_nofp) rfl rfl rfl rfl rfl rfl (by kernel_rfl) (by simp; omega)) ?_
  refine AL_p (x_build (zs := [.slice none 0 0]) (places := [(0, 1)]) rfl (by kernel_rfl) rfl rfl rfl rfl rfl) ?_
  refine AL_p (x_store (n := 1) rfl rfl rfl rfl (by kernel_rfl) rfl rfl rfl) ?_
  refine AL_nil ?_
  refine AW_ret ?_
  exact ⟨rn [(9, 101), (0, 103)], ⟨⟨⟨_, rfl, VLe.rf⟩, trivial⟩, ⟨⟨_, rfl, by first | exact BLe.rf | (subst_vars; exact BLe.rf)⟩, ⟨_, rfl, BLe.rf⟩, trivial⟩, trivial, rfl⟩⟩
theorem rowS_c (r : List Val) (hl : r.length ≤ 1048576) (k : Nat) : AC Try.prog 94 [.agg (rowC r)] [] (.agg [.own k]) [(k, some (.arr 94 valE r true))] := AC.at (rowS_c0 r hl) k

end Go.Proofs.Ytibhoanjglfaoaa

/- The laws' own functions: GenD (printed by gen.py) -/
namespace Go.Proofs.Ytibhoanjglfaoaa
open Go.RowKit
set_option linter.unusedVariables false
set_option maxRecDepth 100000

structure Changet where
  name : ByteArray
  plus : Relt
  minus : Relt
structure Deltat where
  changes : List (Changet)
end Go.Proofs.Ytibhoanjglfaoaa

/- Right deltas, in plain words; fields of struct values. -/
namespace Go.Proofs.Ytibhoanjglfaoaa
open Go.RowKit
set_option linter.unusedVariables false

section ops
variable {P : Program} {N : Nat} {s : St} {d : Nat} {ty : TypeId} {pos : String} {after : Array Edge} {gd : Option (Nat × Bool)}
end ops
end Go.Proofs.Ytibhoanjglfaoaa

/- Deltas (printed by walk.py) -/
namespace Go.Proofs.Ytibhoanjglfaoaa
open Go.RowKit
set_option linter.unusedVariables false
set_option linter.unusedSimpArgs false
set_option maxRecDepth 100000

end Go.Proofs.Ytibhoanjglfaoaa

/- Stores (printed by walk.py) -/
namespace Go.Proofs.Ytibhoanjglfaoaa
open Go.RowKit
set_option linter.unusedVariables false
set_option linter.unusedSimpArgs false
set_option maxRecDepth 100000

set_option maxHeartbeats 4000000 in
theorem storeOkS_c (s : Storet) (hs : smallStore s) : AC Try.prog 45 [.agg (storeC s)] [] (.one (.c (.bool (storeOk s)))) [] := by
  refine AC_body1 Try.func45 rfl rfl Try.ntmps45 rfl Try.results45 ?_
  refine AW_seq ?_
  refine AW_region ?_
  refine AL_p (x_box 100 rfl rfl rfl rfl rfl rfl rfl) ?_
  refine AL_p (x_assign rfl rfl) ?_
  refine AL_nil ?_
  refine AW_seq ?_
  refine AW_seq ?_
  refine AW_region ?_
  refine AL_p (x_field (off := 0) (o' := 0) rfl rfl rfl (by kernel_rfl) rfl) ?_
  refine AL_p (x_load1 rfl rfl rfl (by kernel_rfl) rfl) ?_
  refine AL_p (x_len (E := 89) (n := 3) rfl rfl (by kernel_rfl)) ?_
  refine AL_b (x_gtr rfl rfl rfl) (fun b7 h7 => ?_)
  refine AL_nil ?_
  cases b7
  rotate_left
  · try simp only [tdy] at h7
    refine AW_condT rfl ?_
    refine AW_seq ?_
    refine AW_region ?_
    refine AL_p (x_assign rfl rfl) ?_
    refine AL_nil ?_
    refine AW_ret ?_
    exact ⟨rn [], ⟨⟨⟨_, rfl, vle_bool (by first | exact (storeOk_len (by omega)).symm | exact (storeOk_bad (k := k) (by omega) (namedAt_word (by omega) h20)).symm | exact (storeOk_bad (k := k) (by omega) (namedAt_rel (by omega) h29)).symm | exact (storeOk_bad (k := k) (by omega) (namedAt_order (by omega) (by omega) h49)).symm | exact (storeOk_good hA (by omega) (by omega)).symm | exact (storeOk_good hA (by omega) (by simpa using h43)).symm | exact (storeOk_len (by omega)).symm)⟩, trivial⟩, trivial, trivial, rfl⟩⟩
  try simp only [tdy] at h7
  refine AW_condF rfl ?_
  refine AW_skip ?_
  refine AW_seq ?_
  refine AW_seq ?_
  refine AW_region ?_
  refine AL_p (x_field (off := 0) (o' := 0) rfl rfl rfl (by kernel_rfl) rfl) ?_
  refine AL_p (x_load1 rfl rfl rfl (by kernel_rfl) rfl) ?_
  refine AL_p (x_len (E := 89) (n := 3) rfl rfl (by kernel_rfl)) ?_
  refine AL_p (x_move rfl rfl) ?_
  refine AL_nil ?_
  refine AW_block ?_
  refine AW_loop2 (ι := {q : Nat // q ≤ s.rels.length ∧ AllAt (namedAt s.rels) q}) (fun p => [(11, .one (.c (.int .i64 ((p.1) : Int))))]) (fun p => []) [1, 10] [100] (fun p => s.rels.length - (p.1)) ⟨0, ⟨by have := hs.1; omega, .zero⟩⟩ (rn []) ?_ ?_
  exact ⟨by (repeat refine ⟨⟨_, rfl, by first | exact VLe.rf | exact vle_int (by dsimp only; omega)⟩, ?_⟩); exact trivial, by (repeat refine ⟨⟨_, rfl, by first | exact BLe.rf | exact BLe.box AllC.rf | exact BLe.arr (by exact rfl)⟩, ?_⟩); exact trivial, by repeat (first | exact trivial | refine ⟨⟨rfl, by first | (left; intro h; cases h) | (right; rfl), by first | exact (fun _ h => ⟨_, h⟩) | exact (fun _ _ => ⟨_, rfl⟩)⟩, ?_⟩), rfl⟩
  rintro ⟨k, hinv⟩
  dsimp only
  obtain ⟨hk, hA⟩ := hinv
  have hl := hs.1
  refine AW_seq ?_
  refine AW_region ?_
  refine AL_b (x_lss rfl rfl rfl) (fun b12 h12 => ?_)
  refine AL_nil ?_
  refine AW_seq ?_
  cases b12
  · try simp only [tdy] at h12
    refine AW_condF rfl ?_
    refine AW_exit (BQ_hit ?_)
    refine AW_seq ?_
    refine AW_region ?_
    refine AL_p (x_assign rfl rfl) ?_
    refine AL_nil ?_
    refine AW_ret ?_
    exact ⟨rn [], ⟨⟨⟨_, rfl, vle_bool (by first | exact (storeOk_len (by omega)).symm | exact (storeOk_bad (k := k) (by omega) (namedAt_word (by omega) h20)).symm | exact (storeOk_bad (k := k) (by omega) (namedAt_rel (by omega) h29)).symm | exact (storeOk_bad (k := k) (by omega) (namedAt_order (by omega) (by omega) h49)).symm | exact (storeOk_good hA (by omega) (by omega)).symm | exact (storeOk_good hA (by omega) (by simpa using h43)).symm | exact (storeOk_len (by omega)).symm)⟩, trivial⟩, trivial, trivial, rfl⟩⟩
  try simp only [tdy] at h12
  refine AW_condT rfl ?_
  refine AW_skip ?_
  refine AW_seq ?_
  refine AW_block ?_
  refine AW_seq ?_
  refine AW_region ?_
  refine AL_p (x_move rfl rfl) ?_
  refine AL_p (x_assign rfl rfl) ?_
  refine AL_nil ?_
  refine AW_seq ?_
  refine AW_draw rfl ?_
  refine AL_p (x_field (off := 0) (o' := 0) rfl rfl rfl (by kernel_rfl) rfl) ?_
  refine AL_p (x_load1 rfl rfl rfl (by kernel_rfl) rfl) ?_
  refine AL_p (x_move rfl rfl) ?_
  refine AL_p (x_index (E := 89) (n := 3) rfl rfl rfl (by kernel_rfl) rfl (k := k) (by omega) (by omega)) ?_
  refine AL_p (x_efield (off := 0) (o' := 0) rfl rfl (by kernel_rfl) rfl) ?_
  refine AL_p (x_eload1 rfl rfl (by kernel_rfl) rfl) ?_
  refine AL_b (x_call0 rfl rfl rfl (wordOkS_c _) rfl rfl) (fun b20 h20 => ?_)
  refine AL_p (x_not rfl rfl) ?_
  refine AL_p (x_move rfl rfl) ?_
  cases b20
  · try simp only [tdy] at h20
    refine AL_o rfl rfl rfl rfl ?_
    refine AL_o rfl rfl rfl rfl ?_
    refine AL_o rfl rfl rfl rfl ?_
    refine AL_o rfl rfl rfl rfl ?_
    refine AL_o rfl rfl rfl rfl ?_
    refine AL_o rfl rfl rfl rfl ?_
    refine AL_o rfl rfl rfl rfl ?_
    refine AL_o rfl rfl rfl rfl ?_
    refine AL_p (x_pickT rfl rfl rfl) ?_
    refine AL_p (x_move rfl rfl) ?_
    refine AL_o rfl rfl rfl rfl ?_
    refine AL_o rfl rfl rfl rfl ?_
    refine AL_o rfl rfl rfl rfl ?_
    refine AL_u rfl rfl rfl ?_
    refine AL_u rfl rfl rfl ?_
    refine AL_u rfl rfl rfl ?_
    refine AL_u rfl rfl rfl ?_
    refine AL_u rfl rfl rfl ?_
    refine AL_u rfl rfl rfl ?_
    refine AL_u rfl rfl rfl ?_
    refine AL_u rfl rfl rfl ?_
    refine AL_u rfl rfl rfl ?_
    refine AL_u rfl rfl rfl ?_
    refine AL_u rfl rfl rfl ?_
    refine AL_u rfl rfl rfl ?_
    refine AL_u rfl rfl rfl ?_
    refine AL_u rfl rfl rfl ?_
    refine AL_o rfl rfl rfl rfl ?_
    refine AL_p (x_pickT rfl rfl rfl) ?_
    refine AL_nild (by kernel_rfl) ?_
    refine AW_condT rfl ?_
    refine AW_seq ?_
    refine AW_region ?_
    refine AL_p (x_assign rfl rfl) ?_
    refine AL_nil ?_
    refine AW_ret (BQ_ret (BQ_ret ?_))
    exact ⟨rn [], ⟨⟨⟨_, rfl, vle_bool (by first | exact (storeOk_len (by omega)).symm | exact (storeOk_bad (k := k) (by omega) (namedAt_word (by omega) h20)).symm | exact (storeOk_bad (k := k) (by omega) (namedAt_rel (by omega) h29)).symm | exact (storeOk_bad (k := k) (by omega) (namedAt_order (by omega) (by omega) h49)).symm | exact (storeOk_good hA (by omega) (by omega)).symm | exact (storeOk_good hA (by omega) (by simpa using h43)).symm | exact (storeOk_len (by omega)).symm)⟩, trivial⟩, trivial, trivial, rfl⟩⟩
  try simp only [tdy] at h20
  refine AL_g rfl rfl (x_field (off := 0) (o' := 0) rfl rfl rfl (by kernel_rfl) rfl) ?_
  refine AL_g rfl rfl (x_load1 rfl rfl rfl (by kernel_rfl) rfl) ?_
  refine AL_g rfl rfl (x_move rfl rfl) ?_
  refine AL_g rfl rfl (x_index (E := 89) (n := 3) rfl rfl rfl (by kernel_rfl) rfl (k := k) (by omega) (by omega)) ?_
  refine AL_g rfl rfl (x_efield (off := 1) (o' := 1) rfl rfl (by kernel_rfl) rfl) ?_
  refine AL_g rfl rfl (x_eloadN (n := 2) rfl rfl (by kernel_rfl) rfl rfl) ?_
  refine AL_gb rfl rfl (x_call0 rfl rfl rfl (relOkS_c _ (hs.2 _ (List.getElem_mem _)).2.1) rfl rfl) (fun b29 h29 => ?_)
  refine AL_g rfl rfl (x_not rfl rfl) ?_
  refine AL_p (x_pickF rfl rfl rfl) ?_
  refine AL_p (x_move rfl rfl) ?_
  cases b29
  · try simp only [tdy] at h29
    refine AL_o rfl rfl rfl rfl ?_
    refine AL_o rfl rfl rfl rfl ?_
    refine AL_o rfl rfl rfl rfl ?_
    refine AL_u rfl rfl rfl ?_
    refine AL_u rfl rfl rfl ?_
    refine AL_u rfl rfl rfl ?_
    refine AL_u rfl rfl rfl ?_
    refine AL_u rfl rfl rfl ?_
    refine AL_u rfl rfl rfl ?_
    refine AL_u rfl rfl rfl ?_
    refine AL_u rfl rfl rfl ?_
    refine AL_u rfl rfl rfl ?_
    refine AL_u rfl rfl rfl ?_
    refine AL_u rfl rfl rfl ?_
    refine AL_u rfl rfl rfl ?_
    refine AL_u rfl rfl rfl ?_
    refine AL_u rfl rfl rfl ?_
    refine AL_o rfl rfl rfl rfl ?_
    refine AL_p (x_pickT rfl rfl rfl) ?_
    refine AL_nild (by kernel_rfl) ?_
    refine AW_condT rfl ?_
    refine AW_seq ?_
    refine AW_region ?_
    refine AL_p (x_assign rfl rfl) ?_
    refine AL_nil ?_
    refine AW_ret (BQ_ret (BQ_ret ?_))
    exact ⟨rn [], ⟨⟨⟨_, rfl, vle_bool (by first | exact (storeOk_len (by omega)).symm | exact (storeOk_bad (k := k) (by omega) (namedAt_word (by omega) h20)).symm | exact (storeOk_bad (k := k) (by omega) (namedAt_rel (by omega) h29)).symm | exact (storeOk_bad (k := k) (by omega) (namedAt_order (by omega) (by omega) h49)).symm | exact (storeOk_good hA (by omega) (by omega)).symm | exact (storeOk_good hA (by omega) (by simpa using h43)).symm | exact (storeOk_len (by omega)).symm)⟩, trivial⟩, trivial, trivial, rfl⟩⟩
  try simp only [tdy] at h29
  refine AL_g rfl rfl (x_move rfl rfl) ?_
  refine AL_gb rfl rfl (x_gtr rfl rfl rfl) (fun b34 h34 => ?_)
  refine AL_g rfl rfl (x_move rfl rfl) ?_
  cases b34
  · try simp only [tdy] at h34
    have hat := namedAt_first (l := s.rels) (k := k) (by omega) (by omega) h20 h29
    refine AL_o rfl rfl rfl rfl ?_
    refine AL_o rfl rfl rfl rfl ?_
    refine AL_o rfl rfl rfl rfl ?_
    refine AL_o rfl rfl rfl rfl ?_
    refine AL_o rfl rfl rfl rfl ?_
    refine AL_o rfl rfl rfl rfl ?_
    refine AL_o rfl rfl rfl rfl ?_
    refine AL_o rfl rfl rfl rfl ?_
    refine AL_o rfl rfl rfl rfl ?_
    refine AL_o rfl rfl rfl rfl ?_
    refine AL_o rfl rfl rfl rfl ?_
    refine AL_o rfl rfl rfl rfl ?_
    refine AL_o rfl rfl rfl rfl ?_
    refine AL_o rfl rfl rfl rfl ?_
    refine AL_g rfl rfl (x_pickF rfl rfl rfl) ?_
    refine AL_p (x_pickF rfl rfl rfl) ?_
    refine AL_nild (by kernel_rfl) ?_
    refine AW_condF rfl ?_
    refine AW_skip ?_
    refine AW_region ?_
    refine AL_p (x_add rfl rfl rfl (IntWalk.i64_in _ (by omega))) ?_
    refine AL_p (x_move rfl rfl) ?_
    refine AL_nil ?_
    refine ⟨⟨k + 1, ⟨by omega, hA.succ (by omega) hat⟩⟩, rn [], ?_, by dsimp only; omega⟩
    exact ⟨by (repeat refine ⟨⟨_, rfl, by first | exact VLe.rf | exact vle_int (by dsimp only; omega)⟩, ?_⟩); exact trivial, by (repeat refine ⟨⟨_, rfl, by first | exact BLe.rf | exact BLe.box AllC.rf | exact BLe.arr (by exact rfl)⟩, ?_⟩); exact trivial, by repeat (first | exact trivial | refine ⟨⟨rfl, by first | (left; intro h; cases h) | (right; rfl), by first | exact (fun _ h => ⟨_, h⟩) | exact (fun _ _ => ⟨_, rfl⟩)⟩, ?_⟩), rfl⟩
  try simp only [tdy] at h34
  refine AL_g rfl rfl (x_field (off := 0) (o' := 0) rfl rfl rfl (by kernel_rfl) rfl) ?_
  refine AL_g rfl rfl (x_load1 rfl rfl rfl (by kernel_rfl) rfl) ?_
  refine AL_g rfl rfl (x_move rfl rfl) ?_
  refine AL_g rfl rfl (x_sub rfl rfl rfl (IntWalk.i64_in _ (by omega))) ?_
  refine AL_g rfl rfl (x_index (E := 89) (n := 3) rfl rfl rfl (by kernel_rfl) rfl (k := k - 1) (by omega) (by omega)) ?_
  refine AL_g rfl rfl (x_efield (off := 0) (o' := 0) rfl rfl (by kernel_rfl) rfl) ?_
  refine AL_g rfl rfl (x_eload1 rfl rfl (by kernel_rfl) rfl) ?_
  refine AL_g rfl rfl (x_field (off := 0) (o' := 0) rfl rfl rfl (by kernel_rfl) rfl) ?_
  refine AL_g rfl rfl (x_load1 rfl rfl rfl (by kernel_rfl) rfl) ?_
  refine AL_g rfl rfl (x_move rfl rfl) ?_
  refine AL_g rfl rfl (x_index (E := 89) (n := 3) rfl rfl rfl (by kernel_rfl) rfl (k := k) (by omega) (by omega)) ?_
  refine AL_g rfl rfl (x_efield (off := 0) (o' := 0) rfl rfl (by kernel_rfl) rfl) ?_
  refine AL_g rfl rfl (x_eload1 rfl rfl (by kernel_rfl) rfl) ?_
  refine AL_gb rfl rfl (x_sgeq rfl rfl rfl) (fun b49 h49 => ?_)
  refine AL_g rfl rfl (x_pickT rfl rfl rfl) ?_
  refine AL_p (x_pickF rfl rfl rfl) ?_
  refine AL_nild (by kernel_rfl) ?_
  cases b49
  rotate_left
  · try simp only [tdy] at h49
    refine AW_condT rfl ?_
    refine AW_seq ?_
    refine AW_region ?_
    refine AL_p (x_assign rfl rfl) ?_
    refine AL_nil ?_
    refine AW_ret (BQ_ret (BQ_ret ?_))
    exact ⟨rn [], ⟨⟨⟨_, rfl, vle_bool (by first | exact (storeOk_len (by omega)).symm | exact (storeOk_bad (k := k) (by omega) (namedAt_word (by omega) h20)).symm | exact (storeOk_bad (k := k) (by omega) (namedAt_rel (by omega) h29)).symm | exact (storeOk_bad (k := k) (by omega) (namedAt_order (by omega) (by omega) h49)).symm | exact (storeOk_good hA (by omega) (by omega)).symm | exact (storeOk_good hA (by omega) (by simpa using h43)).symm | exact (storeOk_len (by omega)).symm)⟩, trivial⟩, trivial, trivial, rfl⟩⟩
  try simp only [tdy] at h49
  have hat := namedAt_next (l := s.rels) (k := k) (by omega) h20 h29 h49
  refine AW_condF rfl ?_
  refine AW_skip ?_
  refine AW_region ?_
  refine AL_p (x_add rfl rfl rfl (IntWalk.i64_in _ (by omega))) ?_
  refine AL_p (x_move rfl rfl) ?_
  refine AL_nil ?_
  refine ⟨⟨k + 1, ⟨by omega, hA.succ (by omega) hat⟩⟩, rn [], ?_, by dsimp only; omega⟩
  exact ⟨by (repeat refine ⟨⟨_, rfl, by first | exact VLe.rf | exact vle_int (by dsimp only; omega)⟩, ?_⟩); exact trivial, by (repeat refine ⟨⟨_, rfl, by first | exact BLe.rf | exact BLe.box AllC.rf | exact BLe.arr (by exact rfl)⟩, ?_⟩); exact trivial, by repeat (first | exact trivial | refine ⟨⟨rfl, by first | (left; intro h; cases h) | (right; rfl), by first | exact (fun _ h => ⟨_, h⟩) | exact (fun _ _ => ⟨_, rfl⟩)⟩, ?_⟩), rfl⟩

set_option maxHeartbeats 4000000 in
theorem storeOkI_c (s : Storet) (hs : smallStore s) : AC Try.prog 50 [.agg (storeC s)] [] (.one (.c (.bool (storeOk s)))) [] := by
  refine AC_body1 Try.func50 rfl rfl Try.ntmps50 rfl Try.results50 ?_
  refine AW_seq ?_
  refine AW_region ?_
  refine AL_p (x_box 100 rfl rfl rfl rfl rfl rfl rfl) ?_
  refine AL_p (x_assign rfl rfl) ?_
  refine AL_nil ?_
  refine AW_seq ?_
  refine AW_seq ?_
  refine AW_region ?_
  refine AL_p (x_field (off := 0) (o' := 0) rfl rfl rfl (by kernel_rfl) rfl) ?_
  refine AL_p (x_load1 rfl rfl rfl (by kernel_rfl) rfl) ?_
  refine AL_p (x_len (E := 89) (n := 3) rfl rfl (by kernel_rfl)) ?_
  refine AL_p (x_move rfl rfl) ?_
  refine AL_nil ?_
  refine AW_block ?_
  refine AW_loop2 (ι := {q : Nat // q ≤ s.rels.length ∧ AllAt (namedAt s.rels) q}) (fun p => [(8, .one (.c (.int .i64 ((p.1) : Int))))]) (fun p => []) [1, 6, 7] [100] (fun p => s.rels.length - (p.1)) ⟨0, ⟨by have := hs.1; omega, .zero⟩⟩ (rn []) ?_ ?_
  exact ⟨by (repeat refine ⟨⟨_, rfl, by first | exact VLe.rf | exact vle_int (by dsimp only; omega)⟩, ?_⟩); exact trivial, by (repeat refine ⟨⟨_, rfl, by first | exact BLe.rf | exact BLe.box AllC.rf | exact BLe.arr (by exact rfl)⟩, ?_⟩); exact trivial, by repeat (first | exact trivial | refine ⟨⟨rfl, by first | (left; intro h; cases h) | (right; rfl), by first | exact (fun _ h => ⟨_, h⟩) | exact (fun _ _ => ⟨_, rfl⟩)⟩, ?_⟩), rfl⟩
  rintro ⟨k, hinv⟩
  dsimp only
  obtain ⟨hk, hA⟩ := hinv
  have hl := hs.1
  refine AW_seq ?_
  refine AW_region ?_
  refine AL_b (x_lss rfl rfl rfl) (fun b9 h9 => ?_)
  refine AL_nil ?_
  refine AW_seq ?_
  cases b9
  · try simp only [tdy] at h9
    refine AW_condF rfl ?_
    refine AW_exit (BQ_hit ?_)
    refine AW_seq ?_
    refine AW_region ?_
    refine AL_p (x_field (off := 0) (o' := 0) rfl rfl rfl (by kernel_rfl) rfl) ?_
    refine AL_p (x_load1 rfl rfl rfl (by kernel_rfl) rfl) ?_
    refine AL_p (x_len (E := 89) (n := 3) rfl rfl (by kernel_rfl)) ?_
    refine AL_b (x_leq rfl rfl rfl) (fun b43 h43 => ?_)
    refine AL_p (x_assign rfl rfl) ?_
    refine AL_nil ?_
    refine AW_ret ?_
    cases b43
    rotate_left
    · try simp only [tdy] at h43
      exact ⟨rn [], ⟨⟨⟨_, rfl, vle_bool (by first | exact (storeOk_len (by omega)).symm | exact (storeOk_bad (k := k) (by omega) (namedAt_word (by omega) h15)).symm | exact (storeOk_bad (k := k) (by omega) (namedAt_rel (by omega) h20)).symm | exact (storeOk_bad (k := k) (by omega) (namedAt_order (by omega) (by omega) h36)).symm | exact (storeOk_good hA (by omega) (by omega)).symm | exact (storeOk_good hA (by omega) (by simpa using h43)).symm | exact (storeOk_len (by omega)).symm)⟩, trivial⟩, trivial, trivial, rfl⟩⟩
    try simp only [tdy] at h43
    exact ⟨rn [], ⟨⟨⟨_, rfl, vle_bool (by first | exact (storeOk_len (by omega)).symm | exact (storeOk_bad (k := k) (by omega) (namedAt_word (by omega) h15)).symm | exact (storeOk_bad (k := k) (by omega) (namedAt_rel (by omega) h20)).symm | exact (storeOk_bad (k := k) (by omega) (namedAt_order (by omega) (by omega) h36)).symm | exact (storeOk_good hA (by omega) (by omega)).symm | exact (storeOk_good hA (by omega) (by simpa using h43)).symm | exact (storeOk_len (by omega)).symm)⟩, trivial⟩, trivial, trivial, rfl⟩⟩
  try simp only [tdy] at h9
  refine AW_condT rfl ?_
  refine AW_skip ?_
  refine AW_seq ?_
  refine AW_block ?_
  refine AW_seq ?_
  refine AW_region ?_
  refine AL_p (x_move rfl rfl) ?_
  refine AL_p (x_index (E := 89) (n := 3) rfl rfl rfl (by kernel_rfl) rfl (k := k) (by omega) (by omega)) ?_
  refine AL_p (x_eloadW (n := 3) rfl rfl (by kernel_rfl) rfl) ?_
  refine AL_p (x_alloc (z := .agg #[.string ⟨#[]⟩, .int .i64 0, .slice none 0 0]) 101 rfl (by kernel_rfl) rfl rfl rfl rfl) ?_
  refine AL_p (x_assign rfl rfl) ?_
  refine AL_p (x_store (n := 3) rfl rfl rfl rfl (by kernel_rfl) rfl rfl rfl) ?_
  refine AL_nil ?_
  refine AW_seq ?_
  refine AW_draw rfl ?_
  refine AL_p (x_field (off := 0) (o' := 0) rfl rfl rfl (by kernel_rfl) rfl) ?_
  refine AL_p (x_load1 rfl rfl rfl (by kernel_rfl) rfl) ?_
  refine AL_b (x_call0 rfl rfl rfl (wordOkI_c _) rfl rfl) (fun b15 h15 => ?_)
  refine AL_p (x_not rfl rfl) ?_
  refine AL_p (x_move rfl rfl) ?_
  cases b15
  · try simp only [tdy] at h15
    refine AL_o rfl rfl rfl rfl ?_
    refine AL_o rfl rfl rfl rfl ?_
    refine AL_o rfl rfl rfl rfl ?_
    refine AL_o rfl rfl rfl rfl ?_
    refine AL_p (x_pickT rfl rfl rfl) ?_
    refine AL_p (x_move rfl rfl) ?_
    refine AL_o rfl rfl rfl rfl ?_
    refine AL_o rfl rfl rfl rfl ?_
    refine AL_o rfl rfl rfl rfl ?_
    refine AL_u rfl rfl rfl ?_
    refine AL_u rfl rfl rfl ?_
    refine AL_u rfl rfl rfl ?_
    refine AL_u rfl rfl rfl ?_
    refine AL_u rfl rfl rfl ?_
    refine AL_u rfl rfl rfl ?_
    refine AL_u rfl rfl rfl ?_
    refine AL_u rfl rfl rfl ?_
    refine AL_u rfl rfl rfl ?_
    refine AL_u rfl rfl rfl ?_
    refine AL_o rfl rfl rfl rfl ?_
    refine AL_p (x_pickT rfl rfl rfl) ?_
    refine AL_nild (by kernel_rfl) ?_
    refine AW_condT rfl ?_
    refine AW_seq ?_
    refine AW_region ?_
    refine AL_p (x_assign rfl rfl) ?_
    refine AL_nil ?_
    refine AW_ret (BQ_ret (BQ_ret ?_))
    exact ⟨rn [], ⟨⟨⟨_, rfl, vle_bool (by first | exact (storeOk_len (by omega)).symm | exact (storeOk_bad (k := k) (by omega) (namedAt_word (by omega) h15)).symm | exact (storeOk_bad (k := k) (by omega) (namedAt_rel (by omega) h20)).symm | exact (storeOk_bad (k := k) (by omega) (namedAt_order (by omega) (by omega) h36)).symm | exact (storeOk_good hA (by omega) (by omega)).symm | exact (storeOk_good hA (by omega) (by simpa using h43)).symm | exact (storeOk_len (by omega)).symm)⟩, trivial⟩, trivial, trivial, rfl⟩⟩
  try simp only [tdy] at h15
  refine AL_g rfl rfl (x_field (off := 1) (o' := 1) rfl rfl rfl (by kernel_rfl) rfl) ?_
  refine AL_g rfl rfl (x_loadN (n := 2) rfl rfl rfl (by kernel_rfl) rfl rfl) ?_
  refine AL_gb rfl rfl (x_call0 rfl rfl rfl (relOkI_c _ (hs.2 _ (List.getElem_mem _)).2.1) rfl rfl) (fun b20 h20 => ?_)
  refine AL_g rfl rfl (x_not rfl rfl) ?_
  refine AL_p (x_pickF rfl rfl rfl) ?_
  refine AL_p (x_move rfl rfl) ?_
  cases b20
  · try simp only [tdy] at h20
    refine AL_o rfl rfl rfl rfl ?_
    refine AL_o rfl rfl rfl rfl ?_
    refine AL_o rfl rfl rfl rfl ?_
    refine AL_u rfl rfl rfl ?_
    refine AL_u rfl rfl rfl ?_
    refine AL_u rfl rfl rfl ?_
    refine AL_u rfl rfl rfl ?_
    refine AL_u rfl rfl rfl ?_
    refine AL_u rfl rfl rfl ?_
    refine AL_u rfl rfl rfl ?_
    refine AL_u rfl rfl rfl ?_
    refine AL_u rfl rfl rfl ?_
    refine AL_u rfl rfl rfl ?_
    refine AL_o rfl rfl rfl rfl ?_
    refine AL_p (x_pickT rfl rfl rfl) ?_
    refine AL_nild (by kernel_rfl) ?_
    refine AW_condT rfl ?_
    refine AW_seq ?_
    refine AW_region ?_
    refine AL_p (x_assign rfl rfl) ?_
    refine AL_nil ?_
    refine AW_ret (BQ_ret (BQ_ret ?_))
    exact ⟨rn [], ⟨⟨⟨_, rfl, vle_bool (by first | exact (storeOk_len (by omega)).symm | exact (storeOk_bad (k := k) (by omega) (namedAt_word (by omega) h15)).symm | exact (storeOk_bad (k := k) (by omega) (namedAt_rel (by omega) h20)).symm | exact (storeOk_bad (k := k) (by omega) (namedAt_order (by omega) (by omega) h36)).symm | exact (storeOk_good hA (by omega) (by omega)).symm | exact (storeOk_good hA (by omega) (by simpa using h43)).symm | exact (storeOk_len (by omega)).symm)⟩, trivial⟩, trivial, trivial, rfl⟩⟩
  try simp only [tdy] at h20
  refine AL_g rfl rfl (x_move rfl rfl) ?_
  refine AL_gb rfl rfl (x_gtr rfl rfl rfl) (fun b25 h25 => ?_)
  refine AL_g rfl rfl (x_move rfl rfl) ?_
  cases b25
  · try simp only [tdy] at h25
    have hat := namedAt_first (l := s.rels) (k := k) (by omega) (by omega) h15 h20
    refine AL_o rfl rfl rfl rfl ?_
    refine AL_o rfl rfl rfl rfl ?_
    refine AL_o rfl rfl rfl rfl ?_
    refine AL_o rfl rfl rfl rfl ?_
    refine AL_o rfl rfl rfl rfl ?_
    refine AL_o rfl rfl rfl rfl ?_
    refine AL_o rfl rfl rfl rfl ?_
    refine AL_o rfl rfl rfl rfl ?_
    refine AL_o rfl rfl rfl rfl ?_
    refine AL_o rfl rfl rfl rfl ?_
    refine AL_g rfl rfl (x_pickF rfl rfl rfl) ?_
    refine AL_p (x_pickF rfl rfl rfl) ?_
    refine AL_nild (by kernel_rfl) ?_
    refine AW_condF rfl ?_
    refine AW_skip ?_
    refine AW_region ?_
    refine AL_p (x_add rfl rfl rfl (IntWalk.i64_in _ (by omega))) ?_
    refine AL_p (x_move rfl rfl) ?_
    refine AL_nil ?_
    refine ⟨⟨k + 1, ⟨by omega, hA.succ (by omega) hat⟩⟩, rn [], ?_, by dsimp only; omega⟩
    exact ⟨by (repeat refine ⟨⟨_, rfl, by first | exact VLe.rf | exact vle_int (by dsimp only; omega)⟩, ?_⟩); exact trivial, by (repeat refine ⟨⟨_, rfl, by first | exact BLe.rf | exact BLe.box AllC.rf | exact BLe.arr (by exact rfl)⟩, ?_⟩); exact trivial, by repeat (first | exact trivial | refine ⟨⟨rfl, by first | (left; intro h; cases h) | (right; rfl), by first | exact (fun _ h => ⟨_, h⟩) | exact (fun _ _ => ⟨_, rfl⟩)⟩, ?_⟩), rfl⟩
  try simp only [tdy] at h25
  refine AL_g rfl rfl (x_field (off := 0) (o' := 0) rfl rfl rfl (by kernel_rfl) rfl) ?_
  refine AL_g rfl rfl (x_load1 rfl rfl rfl (by kernel_rfl) rfl) ?_
  refine AL_g rfl rfl (x_move rfl rfl) ?_
  refine AL_g rfl rfl (x_sub rfl rfl rfl (IntWalk.i64_in _ (by omega))) ?_
  refine AL_g rfl rfl (x_index (E := 89) (n := 3) rfl rfl rfl (by kernel_rfl) rfl (k := k - 1) (by omega) (by omega)) ?_
  refine AL_g rfl rfl (x_efield (off := 0) (o' := 0) rfl rfl (by kernel_rfl) rfl) ?_
  refine AL_g rfl rfl (x_eload1 rfl rfl (by kernel_rfl) rfl) ?_
  refine AL_g rfl rfl (x_field (off := 0) (o' := 0) rfl rfl rfl (by kernel_rfl) rfl) ?_
  refine AL_g rfl rfl (x_load1 rfl rfl rfl (by kernel_rfl) rfl) ?_
  refine AL_gb rfl rfl (x_sgeq rfl rfl rfl) (fun b36 h36 => ?_)
  refine AL_g rfl rfl (x_pickT rfl rfl rfl) ?_
  refine AL_p (x_pickF rfl rfl rfl) ?_
  refine AL_nild (by kernel_rfl) ?_
  cases b36
  rotate_left
  · try simp only [tdy] at h36
    refine AW_condT rfl ?_
    refine AW_seq ?_
    refine AW_region ?_
    refine AL_p (x_assign rfl rfl) ?_
    refine AL_nil ?_
    refine AW_ret (BQ_ret (BQ_ret ?_))
    exact ⟨rn [], ⟨⟨⟨_, rfl, vle_bool (by first | exact (storeOk_len (by omega)).symm | exact (storeOk_bad (k := k) (by omega) (namedAt_word (by omega) h15)).symm | exact (storeOk_bad (k := k) (by omega) (namedAt_rel (by omega) h20)).symm | exact (storeOk_bad (k := k) (by omega) (namedAt_order (by omega) (by omega) h36)).symm | exact (storeOk_good hA (by omega) (by omega)).symm | exact (storeOk_good hA (by omega) (by simpa using h43)).symm | exact (storeOk_len (by omega)).symm)⟩, trivial⟩, trivial, trivial, rfl⟩⟩
  try simp only [tdy] at h36
  have hat := namedAt_next (l := s.rels) (k := k) (by omega) h15 h20 h36
  refine AW_condF rfl ?_
  refine AW_skip ?_
  refine AW_region ?_
  refine AL_p (x_add rfl rfl rfl (IntWalk.i64_in _ (by omega))) ?_
  refine AL_p (x_move rfl rfl) ?_
  refine AL_nil ?_
  refine ⟨⟨k + 1, ⟨by omega, hA.succ (by omega) hat⟩⟩, rn [], ?_, by dsimp only; omega⟩
  exact ⟨by (repeat refine ⟨⟨_, rfl, by first | exact VLe.rf | exact vle_int (by dsimp only; omega)⟩, ?_⟩); exact trivial, by (repeat refine ⟨⟨_, rfl, by first | exact BLe.rf | exact BLe.box AllC.rf | exact BLe.arr (by exact rfl)⟩, ?_⟩); exact trivial, by repeat (first | exact trivial | refine ⟨⟨rfl, by first | (left; intro h; cases h) | (right; rfl), by first | exact (fun _ h => ⟨_, h⟩) | exact (fun _ _ => ⟨_, rfl⟩)⟩, ?_⟩), rfl⟩

set_option maxHeartbeats 4000000 in
theorem sameStoreS_c (a b : Storet) (ha : smallStore a) (hb : smallStore b) : AC Try.prog 34 [.agg (storeC a), .agg (storeC b)] [] (.one (.c (.bool (sameStore a b)))) [] := by
  refine AC_body1 Try.func34 rfl rfl Try.ntmps34 rfl Try.results34 ?_
  refine AW_seq ?_
  refine AW_region ?_
  refine AL_p (x_box 100 rfl rfl rfl rfl rfl rfl rfl) ?_
  refine AL_p (x_box 101 rfl rfl rfl rfl rfl rfl rfl) ?_
  refine AL_p (x_assign rfl rfl) ?_
  refine AL_nil ?_
  refine AW_seq ?_
  refine AW_seq ?_
  refine AW_region ?_
  refine AL_p (x_loadN (n := 1) rfl rfl rfl (by kernel_rfl) rfl rfl) ?_
  refine AL_b (x_call0 rfl rfl rfl (storeOkS_c _ (by first | exact ha | exact hb)) rfl rfl) (fun b7 h7 => ?_)
  refine AL_p (x_not rfl rfl) ?_
  refine AL_p (x_move rfl rfl) ?_
  cases b7
  · try simp only [tdy] at h7
    refine AL_o rfl rfl rfl rfl ?_
    refine AL_o rfl rfl rfl rfl ?_
    refine AL_o rfl rfl rfl rfl ?_
    refine AL_p (x_pickT rfl rfl rfl) ?_
    refine AL_p (x_move rfl rfl) ?_
    refine AL_o rfl rfl rfl rfl ?_
    refine AL_o rfl rfl rfl rfl ?_
    refine AL_o rfl rfl rfl rfl ?_
    refine AL_o rfl rfl rfl rfl ?_
    refine AL_o rfl rfl rfl rfl ?_
    refine AL_o rfl rfl rfl rfl ?_
    refine AL_o rfl rfl rfl rfl ?_
    refine AL_p (x_pickT rfl rfl rfl) ?_
    refine AL_nil ?_
    refine AW_condT rfl ?_
    refine AW_seq ?_
    refine AW_region ?_
    refine AL_p (x_assign rfl rfl) ?_
    refine AL_nil ?_
    refine AW_ret ?_
    exact ⟨rn [], ⟨⟨⟨_, rfl, vle_bool (by first | exact (sameStore_a h7).symm | exact (sameStore_b h11).symm | exact (sameStore_len (by omega)).symm | exact (sameStore_at (k := k) (by omega) (by omega) (likeNamed_name h41)).symm | exact (sameStore_at (k := k) (by omega) (by omega) (likeNamed_rel (storeOk_rel h7 (by omega)) (storeOk_rel h11 (by omega)) h55)).symm | exact ((sameStore_ok h7 h11).trans (likeNames_eq (by omega) hA (by omega))).symm)⟩, trivial⟩, trivial, trivial, rfl⟩⟩
  try simp only [tdy] at h7
  refine AL_g rfl rfl (x_loadN (n := 1) rfl rfl rfl (by kernel_rfl) rfl rfl) ?_
  refine AL_gb rfl rfl (x_call0 rfl rfl rfl (storeOkS_c _ (by first | exact ha | exact hb)) rfl rfl) (fun b11 h11 => ?_)
  refine AL_g rfl rfl (x_not rfl rfl) ?_
  refine AL_p (x_pickF rfl rfl rfl) ?_
  refine AL_p (x_move rfl rfl) ?_
  cases b11
  · try simp only [tdy] at h11
    refine AL_o rfl rfl rfl rfl ?_
    refine AL_o rfl rfl rfl rfl ?_
    refine AL_o rfl rfl rfl rfl ?_
    refine AL_o rfl rfl rfl rfl ?_
    refine AL_o rfl rfl rfl rfl ?_
    refine AL_o rfl rfl rfl rfl ?_
    refine AL_o rfl rfl rfl rfl ?_
    refine AL_p (x_pickT rfl rfl rfl) ?_
    refine AL_nil ?_
    refine AW_condT rfl ?_
    refine AW_seq ?_
    refine AW_region ?_
    refine AL_p (x_assign rfl rfl) ?_
    refine AL_nil ?_
    refine AW_ret ?_
    exact ⟨rn [], ⟨⟨⟨_, rfl, vle_bool (by first | exact (sameStore_a h7).symm | exact (sameStore_b h11).symm | exact (sameStore_len (by omega)).symm | exact (sameStore_at (k := k) (by omega) (by omega) (likeNamed_name h41)).symm | exact (sameStore_at (k := k) (by omega) (by omega) (likeNamed_rel (storeOk_rel h7 (by omega)) (storeOk_rel h11 (by omega)) h55)).symm | exact ((sameStore_ok h7 h11).trans (likeNames_eq (by omega) hA (by omega))).symm)⟩, trivial⟩, trivial, trivial, rfl⟩⟩
  try simp only [tdy] at h11
  refine AL_g rfl rfl (x_field (off := 0) (o' := 0) rfl rfl rfl (by kernel_rfl) rfl) ?_
  refine AL_g rfl rfl (x_load1 rfl rfl rfl (by kernel_rfl) rfl) ?_
  refine AL_g rfl rfl (x_len (E := 89) (n := 3) rfl rfl (by kernel_rfl)) ?_
  refine AL_g rfl rfl (x_field (off := 0) (o' := 0) rfl rfl rfl (by kernel_rfl) rfl) ?_
  refine AL_g rfl rfl (x_load1 rfl rfl rfl (by kernel_rfl) rfl) ?_
  refine AL_g rfl rfl (x_len (E := 89) (n := 3) rfl rfl (by kernel_rfl)) ?_
  refine AL_gb rfl rfl (x_neq rfl rfl rfl) (fun b21 h21 => ?_)
  refine AL_p (x_pickF rfl rfl rfl) ?_
  refine AL_nil ?_
  cases b21
  rotate_left
  · try simp only [tdy] at h21
    refine AW_condT rfl ?_
    refine AW_seq ?_
    refine AW_region ?_
    refine AL_p (x_assign rfl rfl) ?_
    refine AL_nil ?_
    refine AW_ret ?_
    exact ⟨rn [], ⟨⟨⟨_, rfl, vle_bool (by first | exact (sameStore_a h7).symm | exact (sameStore_b h11).symm | exact (sameStore_len (by omega)).symm | exact (sameStore_at (k := k) (by omega) (by omega) (likeNamed_name h41)).symm | exact (sameStore_at (k := k) (by omega) (by omega) (likeNamed_rel (storeOk_rel h7 (by omega)) (storeOk_rel h11 (by omega)) h55)).symm | exact ((sameStore_ok h7 h11).trans (likeNames_eq (by omega) hA (by omega))).symm)⟩, trivial⟩, trivial, trivial, rfl⟩⟩
  try simp only [tdy] at h21
  refine AW_condF rfl ?_
  refine AW_skip ?_
  refine AW_seq ?_
  refine AW_seq ?_
  refine AW_region ?_
  refine AL_p (x_field (off := 0) (o' := 0) rfl rfl rfl (by kernel_rfl) rfl) ?_
  refine AL_p (x_load1 rfl rfl rfl (by kernel_rfl) rfl) ?_
  refine AL_p (x_len (E := 89) (n := 3) rfl rfl (by kernel_rfl)) ?_
  refine AL_p (x_move rfl rfl) ?_
  refine AL_nil ?_
  refine AW_block ?_
  refine AW_loop2 (ι := {q : Nat // q ≤ a.rels.length ∧ LikeN a.rels b.rels q}) (fun p => [(26, .one (.c (.int .i64 ((p.1) : Int))))]) (fun p => []) [2, 3, 25] [100, 101] (fun p => a.rels.length - (p.1)) ⟨0, ⟨by have := ha.1; omega, .zero⟩⟩ (rn []) ?_ ?_
  exact ⟨by (repeat refine ⟨⟨_, rfl, by first | exact VLe.rf | exact vle_int (by dsimp only; omega)⟩, ?_⟩); exact trivial, by (repeat refine ⟨⟨_, rfl, by first | exact BLe.rf | exact BLe.box AllC.rf | exact BLe.arr (by exact rfl)⟩, ?_⟩); exact trivial, by repeat (first | exact trivial | refine ⟨⟨rfl, by first | (left; intro h; cases h) | (right; rfl), by first | exact (fun _ h => ⟨_, h⟩) | exact (fun _ _ => ⟨_, rfl⟩)⟩, ?_⟩), rfl⟩
  rintro ⟨k, hinv⟩
  dsimp only
  obtain ⟨hk, hA⟩ := hinv
  have hl := ha.1
  refine AW_seq ?_
  refine AW_region ?_
  refine AL_b (x_lss rfl rfl rfl) (fun b27 h27 => ?_)
  refine AL_nil ?_
  refine AW_seq ?_
  cases b27
  · try simp only [tdy] at h27
    refine AW_condF rfl ?_
    refine AW_exit (BQ_hit ?_)
    refine AW_seq ?_
    refine AW_region ?_
    refine AL_p (x_assign rfl rfl) ?_
    refine AL_nil ?_
    refine AW_ret ?_
    exact ⟨rn [], ⟨⟨⟨_, rfl, vle_bool (by first | exact (sameStore_a h7).symm | exact (sameStore_b h11).symm | exact (sameStore_len (by omega)).symm | exact (sameStore_at (k := k) (by omega) (by omega) (likeNamed_name h41)).symm | exact (sameStore_at (k := k) (by omega) (by omega) (likeNamed_rel (storeOk_rel h7 (by omega)) (storeOk_rel h11 (by omega)) h55)).symm | exact ((sameStore_ok h7 h11).trans (likeNames_eq (by omega) hA (by omega))).symm)⟩, trivial⟩, trivial, trivial, rfl⟩⟩
  try simp only [tdy] at h27
  refine AW_condT rfl ?_
  refine AW_skip ?_
  refine AW_seq ?_
  refine AW_block ?_
  refine AW_seq ?_
  refine AW_region ?_
  refine AL_p (x_move rfl rfl) ?_
  refine AL_p (x_assign rfl rfl) ?_
  refine AL_nil ?_
  refine AW_seq ?_
  refine AW_draw rfl ?_
  refine AL_p (x_field (off := 0) (o' := 0) rfl rfl rfl (by kernel_rfl) rfl) ?_
  refine AL_p (x_load1 rfl rfl rfl (by kernel_rfl) rfl) ?_
  refine AL_p (x_move rfl rfl) ?_
  refine AL_p (x_index (E := 89) (n := 3) rfl rfl rfl (by kernel_rfl) rfl (k := k) (by omega) (by omega)) ?_
  refine AL_p (x_efield (off := 0) (o' := 0) rfl rfl (by kernel_rfl) rfl) ?_
  refine AL_p (x_eload1 rfl rfl (by kernel_rfl) rfl) ?_
  refine AL_p (x_field (off := 0) (o' := 0) rfl rfl rfl (by kernel_rfl) rfl) ?_
  refine AL_p (x_load1 rfl rfl rfl (by kernel_rfl) rfl) ?_
  refine AL_p (x_move rfl rfl) ?_
  refine AL_p (x_index (E := 89) (n := 3) rfl rfl rfl (by kernel_rfl) rfl (k := k) (by omega) (by omega)) ?_
  refine AL_p (x_efield (off := 0) (o' := 0) rfl rfl (by kernel_rfl) rfl) ?_
  refine AL_p (x_eload1 rfl rfl (by kernel_rfl) rfl) ?_
  refine AL_b (x_sneq rfl rfl rfl) (fun b41 h41 => ?_)
  refine AL_p (x_move rfl rfl) ?_
  cases b41
  rotate_left
  · try simp only [tdy] at h41
    refine AL_o rfl rfl rfl rfl ?_
    refine AL_o rfl rfl rfl rfl ?_
    refine AL_o rfl rfl rfl rfl ?_
    refine AL_o rfl rfl rfl rfl ?_
    refine AL_o rfl rfl rfl rfl ?_
    refine AL_o rfl rfl rfl rfl ?_
    refine AL_o rfl rfl rfl rfl ?_
    refine AL_o rfl rfl rfl rfl ?_
    refine AL_o rfl rfl rfl rfl ?_
    refine AL_o rfl rfl rfl rfl ?_
    refine AL_o rfl rfl rfl rfl ?_
    refine AL_o rfl rfl rfl rfl ?_
    refine AL_o rfl rfl rfl rfl ?_
    refine AL_o rfl rfl rfl rfl ?_
    refine AL_p (x_pickT rfl rfl rfl) ?_
    refine AL_nild (by kernel_rfl) ?_
    refine AW_condT rfl ?_
    refine AW_seq ?_
    refine AW_region ?_
    refine AL_p (x_assign rfl rfl) ?_
    refine AL_nil ?_
    refine AW_ret (BQ_ret (BQ_ret ?_))
    exact ⟨rn [], ⟨⟨⟨_, rfl, vle_bool (by first | exact (sameStore_a h7).symm | exact (sameStore_b h11).symm | exact (sameStore_len (by omega)).symm | exact (sameStore_at (k := k) (by omega) (by omega) (likeNamed_name h41)).symm | exact (sameStore_at (k := k) (by omega) (by omega) (likeNamed_rel (storeOk_rel h7 (by omega)) (storeOk_rel h11 (by omega)) h55)).symm | exact ((sameStore_ok h7 h11).trans (likeNames_eq (by omega) hA (by omega))).symm)⟩, trivial⟩, trivial, trivial, rfl⟩⟩
  try simp only [tdy] at h41
  refine AL_g rfl rfl (x_field (off := 0) (o' := 0) rfl rfl rfl (by kernel_rfl) rfl) ?_
  refine AL_g rfl rfl (x_load1 rfl rfl rfl (by kernel_rfl) rfl) ?_
  refine AL_g rfl rfl (x_move rfl rfl) ?_
  refine AL_g rfl rfl (x_index (E := 89) (n := 3) rfl rfl rfl (by kernel_rfl) rfl (k := k) (by omega) (by omega)) ?_
  refine AL_g rfl rfl (x_efield (off := 1) (o' := 1) rfl rfl (by kernel_rfl) rfl) ?_
  refine AL_g rfl rfl (x_eloadN (n := 2) rfl rfl (by kernel_rfl) rfl rfl) ?_
  refine AL_g rfl rfl (x_field (off := 0) (o' := 0) rfl rfl rfl (by kernel_rfl) rfl) ?_
  refine AL_g rfl rfl (x_load1 rfl rfl rfl (by kernel_rfl) rfl) ?_
  refine AL_g rfl rfl (x_move rfl rfl) ?_
  refine AL_g rfl rfl (x_index (E := 89) (n := 3) rfl rfl rfl (by kernel_rfl) rfl (k := k) (by omega) (by omega)) ?_
  refine AL_g rfl rfl (x_efield (off := 1) (o' := 1) rfl rfl (by kernel_rfl) rfl) ?_
  refine AL_g rfl rfl (x_eloadN (n := 2) rfl rfl (by kernel_rfl) rfl rfl) ?_
  refine AL_gb rfl rfl (x_call0 rfl rfl rfl (sameRelS_c _ _ (ha.2 _ (List.getElem_mem _)).2 (hb.2 _ (List.getElem_mem _)).2) rfl rfl) (fun b55 h55 => ?_)
  refine AL_g rfl rfl (x_not rfl rfl) ?_
  refine AL_p (x_pickF rfl rfl rfl) ?_
  refine AL_nild (by kernel_rfl) ?_
  cases b55
  · try simp only [tdy] at h55
    refine AW_condT rfl ?_
    refine AW_seq ?_
    refine AW_region ?_
    refine AL_p (x_assign rfl rfl) ?_
    refine AL_nil ?_
    refine AW_ret (BQ_ret (BQ_ret ?_))
    exact ⟨rn [], ⟨⟨⟨_, rfl, vle_bool (by first | exact (sameStore_a h7).symm | exact (sameStore_b h11).symm | exact (sameStore_len (by omega)).symm | exact (sameStore_at (k := k) (by omega) (by omega) (likeNamed_name h41)).symm | exact (sameStore_at (k := k) (by omega) (by omega) (likeNamed_rel (storeOk_rel h7 (by omega)) (storeOk_rel h11 (by omega)) h55)).symm | exact ((sameStore_ok h7 h11).trans (likeNames_eq (by omega) hA (by omega))).symm)⟩, trivial⟩, trivial, trivial, rfl⟩⟩
  try simp only [tdy] at h55
  refine AW_condF rfl ?_
  refine AW_skip ?_
  refine AW_region ?_
  refine AL_p (x_add rfl rfl rfl (IntWalk.i64_in _ (by omega))) ?_
  refine AL_p (x_move rfl rfl) ?_
  refine AL_nil ?_
  refine ⟨⟨k + 1, ⟨by omega, hA.succ (by omega) (by omega) (likeNamed_yes (storeOk_rel h7 (by omega)) (storeOk_rel h11 (by omega)) h41 h55)⟩⟩, rn [], ?_, by dsimp only; omega⟩
  exact ⟨by (repeat refine ⟨⟨_, rfl, by first | exact VLe.rf | exact vle_int (by dsimp only; omega)⟩, ?_⟩); exact trivial, by (repeat refine ⟨⟨_, rfl, by first | exact BLe.rf | exact BLe.box AllC.rf | exact BLe.arr (by exact rfl)⟩, ?_⟩); exact trivial, by repeat (first | exact trivial | refine ⟨⟨rfl, by first | (left; intro h; cases h) | (right; rfl), by first | exact (fun _ h => ⟨_, h⟩) | exact (fun _ _ => ⟨_, rfl⟩)⟩, ?_⟩), rfl⟩

set_option maxHeartbeats 4000000 in
theorem likeNamedI_c (a b : Namedt) (ha : smallNamed a) : AC Try.prog 123 [.agg (namedC a), .agg (namedC b)] [] (.one (.c (.bool (likeNamed a b)))) [] := by
  refine AC_body1 Try.func123 rfl rfl Try.ntmps123 rfl Try.results123 ?_
  refine AW_seq ?_
  refine AW_region ?_
  refine AL_p (x_box 100 rfl rfl rfl rfl rfl rfl rfl) ?_
  refine AL_p (x_box 101 rfl rfl rfl rfl rfl rfl rfl) ?_
  refine AL_p (x_assign rfl rfl) ?_
  refine AL_nil ?_
  refine AW_seq ?_
  refine AW_region ?_
  refine AL_p (x_field (off := 0) (o' := 0) rfl rfl rfl (by kernel_rfl) rfl) ?_
  refine AL_p (x_load1 rfl rfl rfl (by kernel_rfl) rfl) ?_
  refine AL_p (x_field (off := 0) (o' := 0) rfl rfl rfl (by kernel_rfl) rfl) ?_
  refine AL_p (x_load1 rfl rfl rfl (by kernel_rfl) rfl) ?_
  refine AL_b (x_seql rfl rfl rfl) (fun b9 h9 => ?_)
  refine AL_p (x_move rfl rfl) ?_
  cases b9
  · try simp only [tdy] at h9
    refine AL_o rfl rfl rfl rfl ?_
    refine AL_o rfl rfl rfl rfl ?_
    refine AL_o rfl rfl rfl rfl ?_
    refine AL_o rfl rfl rfl rfl ?_
    refine AL_o rfl rfl rfl rfl ?_
    refine AL_p (x_pickF rfl rfl rfl) ?_
    refine AL_p (x_assign rfl rfl) ?_
    refine AL_nil ?_
    refine AW_ret ?_
    exact ⟨rn [], ⟨⟨⟨_, rfl, vle_bool (by first | exact (likeNamed_name h9).symm | exact ((likeNamed_ok h9).trans h15).symm)⟩, trivial⟩, trivial, trivial, rfl⟩⟩
  try simp only [tdy] at h9
  refine AL_g rfl rfl (x_field (off := 1) (o' := 1) rfl rfl rfl (by kernel_rfl) rfl) ?_
  refine AL_g rfl rfl (x_loadN (n := 2) rfl rfl rfl (by kernel_rfl) rfl rfl) ?_
  refine AL_g rfl rfl (x_field (off := 1) (o' := 1) rfl rfl rfl (by kernel_rfl) rfl) ?_
  refine AL_g rfl rfl (x_loadN (n := 2) rfl rfl rfl (by kernel_rfl) rfl rfl) ?_
  refine AL_gb rfl rfl (x_call0 rfl rfl rfl (likeRelI_c ⟨_, _⟩ ⟨_, _⟩ ha.2) rfl rfl) (fun b15 h15 => ?_)
  refine AL_p (x_pickT rfl rfl rfl) ?_
  refine AL_p (x_assign rfl rfl) ?_
  refine AL_nil ?_
  refine AW_ret ?_
  cases b15
  rotate_left
  · try simp only [tdy] at h15
    exact ⟨rn [], ⟨⟨⟨_, rfl, vle_bool (by first | exact (likeNamed_name h9).symm | exact ((likeNamed_ok h9).trans h15).symm)⟩, trivial⟩, trivial, trivial, rfl⟩⟩
  try simp only [tdy] at h15
  exact ⟨rn [], ⟨⟨⟨_, rfl, vle_bool (by first | exact (likeNamed_name h9).symm | exact ((likeNamed_ok h9).trans h15).symm)⟩, trivial⟩, trivial, trivial, rfl⟩⟩

set_option maxHeartbeats 4000000 in
theorem eqNames_c (a b : List Namedt) (ha : a.length ≤ 1048576) (hm : ∀ r ∈ a, smallNamed r) : AC Try.prog 122 [.one (.sl namedE a), .one (.sl namedE b), .one (.clo 123 [])] [] (.one (.c (.bool (likeNames a b)))) [] := by
  refine AC_body1 Try.func122 rfl rfl Try.ntmps122 rfl Try.results122 ?_
  refine AW_seq ?_
  refine AW_region ?_
  refine AL_p (x_assign rfl rfl) ?_
  refine AL_nil ?_
  refine AW_seq ?_
  refine AW_seq ?_
  refine AW_region ?_
  refine AL_p (x_move rfl rfl) ?_
  refine AL_p (x_len (E := 89) (n := 3) rfl rfl (by kernel_rfl)) ?_
  refine AL_p (x_move rfl rfl) ?_
  refine AL_p (x_len (E := 89) (n := 3) rfl rfl (by kernel_rfl)) ?_
  refine AL_b (x_neq rfl rfl rfl) (fun b14 h14 => ?_)
  refine AL_nil ?_
  cases b14
  rotate_left
  · try simp only [tdy] at h14
    refine AW_condT rfl ?_
    refine AW_seq ?_
    refine AW_region ?_
    refine AL_p (x_assign rfl rfl) ?_
    refine AL_nil ?_
    refine AW_ret ?_
    exact ⟨rn [], ⟨⟨⟨_, rfl, vle_bool (by first | exact (likeNames_len (by omega)).symm | exact (likeNames_at (k := k) (by omega) (by omega) h29).symm | exact (likeNames_eq (by omega) hs (by omega)).symm)⟩, trivial⟩, trivial, trivial, rfl⟩⟩
  try simp only [tdy] at h14
  refine AW_condF rfl ?_
  refine AW_skip ?_
  refine AW_seq ?_
  refine AW_seq ?_
  refine AW_region ?_
  refine AL_p (x_move rfl rfl) ?_
  refine AL_p (x_len (E := 89) (n := 3) rfl rfl (by kernel_rfl)) ?_
  refine AL_p (x_move rfl rfl) ?_
  refine AL_nil ?_
  refine AW_block ?_
  refine AW_loop2 (ι := {q : Nat // q ≤ a.length ∧ LikeN a b q}) (fun p => [(17, .one (.c (.int .i64 ((p.1) : Int))))]) (fun p => []) [1, 2, 15, 16] [] (fun p => a.length - (p.1)) ⟨0, ⟨by omega, .zero⟩⟩ (rn []) ?_ ?_
  exact ⟨by (repeat refine ⟨⟨_, rfl, by first | exact VLe.rf | exact vle_int (by dsimp only; omega)⟩, ?_⟩); exact trivial, by (repeat refine ⟨⟨_, rfl, by first | exact BLe.rf | exact BLe.box AllC.rf | exact BLe.arr (by exact rfl)⟩, ?_⟩); exact trivial, by repeat (first | exact trivial | refine ⟨⟨rfl, by first | (left; intro h; cases h) | (right; rfl), by first | exact (fun _ h => ⟨_, h⟩) | exact (fun _ _ => ⟨_, rfl⟩)⟩, ?_⟩), rfl⟩
  rintro ⟨k, hinv⟩
  dsimp only
  obtain ⟨hk, hs⟩ := hinv
  refine AW_seq ?_
  refine AW_region ?_
  refine AL_b (x_lss rfl rfl rfl) (fun b18 h18 => ?_)
  refine AL_nil ?_
  refine AW_seq ?_
  cases b18
  · try simp only [tdy] at h18
    refine AW_condF rfl ?_
    refine AW_exit (BQ_hit ?_)
    refine AW_seq ?_
    refine AW_region ?_
    refine AL_p (x_assign rfl rfl) ?_
    refine AL_nil ?_
    refine AW_ret ?_
    exact ⟨rn [], ⟨⟨⟨_, rfl, vle_bool (by first | exact (likeNames_len (by omega)).symm | exact (likeNames_at (k := k) (by omega) (by omega) h29).symm | exact (likeNames_eq (by omega) hs (by omega)).symm)⟩, trivial⟩, trivial, trivial, rfl⟩⟩
  try simp only [tdy] at h18
  refine AW_condT rfl ?_
  refine AW_skip ?_
  refine AW_seq ?_
  refine AW_block ?_
  refine AW_seq ?_
  refine AW_region ?_
  refine AL_p (x_move rfl rfl) ?_
  refine AL_p (x_index (E := 89) (n := 3) rfl rfl rfl (by kernel_rfl) rfl rfl (by omega)) ?_
  refine AL_p (x_eloadW (n := 3) rfl rfl (by kernel_rfl) rfl) ?_
  refine AL_p (x_alloc (z := .agg #[.string ⟨#[]⟩, .int .i64 0, .slice none 0 0]) 100 rfl (by kernel_rfl) rfl rfl rfl rfl) ?_
  refine AL_p (x_assign rfl rfl) ?_
  refine AL_p (x_store (n := 3) rfl rfl rfl rfl (by kernel_rfl) rfl rfl rfl) ?_
  refine AL_nil ?_
  refine AW_seq ?_
  refine AW_region ?_
  refine AL_p (x_move rfl rfl) ?_
  refine AL_p (x_move rfl rfl) ?_
  refine AL_p (x_index (E := 89) (n := 3) rfl rfl rfl (by kernel_rfl) rfl (k := k) (by omega) (by omega)) ?_
  refine AL_p (x_eloadW (n := 3) rfl rfl (by kernel_rfl) rfl) ?_
  refine AL_p (x_alloc (z := .agg #[.string ⟨#[]⟩, .int .i64 0, .slice none 0 0]) 101 rfl (by kernel_rfl) rfl rfl rfl rfl) ?_
  refine AL_p (x_store (n := 3) rfl rfl rfl rfl (by kernel_rfl) rfl rfl rfl) ?_
  refine AL_nil ?_
  refine AW_seq ?_
  refine AW_region ?_
  refine AL_p (x_move rfl rfl) ?_
  refine AL_p (x_loadN (n := 3) rfl rfl rfl (by kernel_rfl) rfl rfl) ?_
  refine AL_p (x_loadN (n := 3) rfl rfl rfl (by kernel_rfl) rfl rfl) ?_
  refine AL_b (x_call0 rfl rfl rfl (likeNamedI_c _ _ (hm _ (List.getElem_mem _))) rfl rfl) (fun b29 h29 => ?_)
  refine AL_p (x_not rfl rfl) ?_
  refine AL_nil ?_
  cases b29
  · try simp only [tdy] at h29
    refine AW_condT rfl ?_
    refine AW_seq ?_
    refine AW_region ?_
    refine AL_p (x_assign rfl rfl) ?_
    refine AL_nil ?_
    refine AW_ret (BQ_ret (BQ_ret ?_))
    exact ⟨rn [], ⟨⟨⟨_, rfl, vle_bool (by first | exact (likeNames_len (by omega)).symm | exact (likeNames_at (k := k) (by omega) (by omega) h29).symm | exact (likeNames_eq (by omega) hs (by omega)).symm)⟩, trivial⟩, trivial, trivial, rfl⟩⟩
  try simp only [tdy] at h29
  refine AW_condF rfl ?_
  refine AW_skip ?_
  refine AW_region ?_
  refine AL_p (x_add rfl rfl rfl (IntWalk.i64_in _ (by omega))) ?_
  refine AL_p (x_move rfl rfl) ?_
  refine AL_nil ?_
  refine ⟨⟨k + 1, ⟨by omega, hs.succ (by omega) (by omega) h29⟩⟩, rn [], ?_, by dsimp only; omega⟩
  exact ⟨by (repeat refine ⟨⟨_, rfl, by first | exact VLe.rf | exact vle_int (by dsimp only; omega)⟩, ?_⟩); exact trivial, by (repeat refine ⟨⟨_, rfl, by first | exact BLe.rf | exact BLe.box AllC.rf | exact BLe.arr (by exact rfl)⟩, ?_⟩); exact trivial, by repeat (first | exact trivial | refine ⟨⟨rfl, by first | (left; intro h; cases h) | (right; rfl), by first | exact (fun _ h => ⟨_, h⟩) | exact (fun _ _ => ⟨_, rfl⟩)⟩, ?_⟩), rfl⟩

set_option maxHeartbeats 4000000 in
theorem likeStoreI_c (a b : Storet) (ha : smallStore a) : AC Try.prog 82 [.agg (storeC a), .agg (storeC b)] [] (.one (.c (.bool (likeNames a.rels b.rels)))) [] := by
  refine AC_body1 Try.func82 rfl rfl Try.ntmps82 rfl Try.results82 ?_
  refine AW_seq ?_
  refine AW_region ?_
  refine AL_p (x_box 100 rfl rfl rfl rfl rfl rfl rfl) ?_
  refine AL_p (x_box 101 rfl rfl rfl rfl rfl rfl rfl) ?_
  refine AL_p (x_assign rfl rfl) ?_
  refine AL_nil ?_
  refine AW_seq ?_
  refine AW_region ?_
  refine AL_p (x_field (off := 0) (o' := 0) rfl rfl rfl (by kernel_rfl) rfl) ?_
  refine AL_p (x_load1 rfl rfl rfl (by kernel_rfl) rfl) ?_
  refine AL_p (x_field (off := 0) (o' := 0) rfl rfl rfl (by kernel_rfl) rfl) ?_
  refine AL_p (x_load1 rfl rfl rfl (by kernel_rfl) rfl) ?_
  refine AL_b (x_call0 rfl rfl rfl (eqNames_c _ _ ha.1 ha.2) rfl rfl) (fun b9 h9 => ?_)
  refine AL_p (x_assign rfl rfl) ?_
  refine AL_nil ?_
  refine AW_ret ?_
  cases b9
  rotate_left
  · try simp only [tdy] at h9
    exact ⟨rn [], ⟨⟨⟨_, rfl, vle_bool (h9.symm)⟩, trivial⟩, trivial, trivial, rfl⟩⟩
  try simp only [tdy] at h9
  exact ⟨rn [], ⟨⟨⟨_, rfl, vle_bool (h9.symm)⟩, trivial⟩, trivial, trivial, rfl⟩⟩

set_option maxHeartbeats 4000000 in
theorem sameStoreI_c (a b : Storet) (ha : smallStore a) (hb : smallStore b) : AC Try.prog 33 [.agg (storeC a), .agg (storeC b)] [] (.one (.c (.bool (sameStore a b)))) [] := by
  refine AC_body1 Try.func33 rfl rfl Try.ntmps33 rfl Try.results33 ?_
  refine AW_seq ?_
  refine AW_region ?_
  refine AL_p (x_box 100 rfl rfl rfl rfl rfl rfl rfl) ?_
  refine AL_p (x_box 101 rfl rfl rfl rfl rfl rfl rfl) ?_
  refine AL_p (x_assign rfl rfl) ?_
  refine AL_nil ?_
  refine AW_seq ?_
  refine AW_region ?_
  refine AL_p (x_loadN (n := 1) rfl rfl rfl (by kernel_rfl) rfl rfl) ?_
  refine AL_b (x_call0 rfl rfl rfl (storeOkI_c _ (by first | exact ha | exact hb)) rfl rfl) (fun b6 h6 => ?_)
  refine AL_p (x_move rfl rfl) ?_
  cases b6
  · try simp only [tdy] at h6
    refine AL_o rfl rfl rfl rfl ?_
    refine AL_o rfl rfl rfl rfl ?_
    refine AL_p (x_pickF rfl rfl rfl) ?_
    refine AL_p (x_move rfl rfl) ?_
    refine AL_o rfl rfl rfl rfl ?_
    refine AL_o rfl rfl rfl rfl ?_
    refine AL_o rfl rfl rfl rfl ?_
    refine AL_p (x_pickF rfl rfl rfl) ?_
    refine AL_p (x_assign rfl rfl) ?_
    refine AL_nil ?_
    refine AW_ret ?_
    exact ⟨rn [], ⟨⟨⟨_, rfl, vle_bool (by first | exact (sameStore_a h6).symm | exact (sameStore_b h9).symm | exact ((sameStore_ok h6 h9).trans h14).symm)⟩, trivial⟩, trivial, trivial, rfl⟩⟩
  try simp only [tdy] at h6
  refine AL_g rfl rfl (x_loadN (n := 1) rfl rfl rfl (by kernel_rfl) rfl rfl) ?_
  refine AL_gb rfl rfl (x_call0 rfl rfl rfl (storeOkI_c _ (by first | exact ha | exact hb)) rfl rfl) (fun b9 h9 => ?_)
  refine AL_p (x_pickT rfl rfl rfl) ?_
  refine AL_p (x_move rfl rfl) ?_
  cases b9
  · try simp only [tdy] at h9
    refine AL_o rfl rfl rfl rfl ?_
    refine AL_o rfl rfl rfl rfl ?_
    refine AL_o rfl rfl rfl rfl ?_
    refine AL_p (x_pickF rfl rfl rfl) ?_
    refine AL_p (x_assign rfl rfl) ?_
    refine AL_nil ?_
    refine AW_ret ?_
    exact ⟨rn [], ⟨⟨⟨_, rfl, vle_bool (by first | exact (sameStore_a h6).symm | exact (sameStore_b h9).symm | exact ((sameStore_ok h6 h9).trans h14).symm)⟩, trivial⟩, trivial, trivial, rfl⟩⟩
  try simp only [tdy] at h9
  refine AL_g rfl rfl (x_loadN (n := 1) rfl rfl rfl (by kernel_rfl) rfl rfl) ?_
  refine AL_g rfl rfl (x_loadN (n := 1) rfl rfl rfl (by kernel_rfl) rfl rfl) ?_
  refine AL_gb rfl rfl (x_call0 rfl rfl rfl (likeStoreI_c _ _ ha) rfl rfl) (fun b14 h14 => ?_)
  refine AL_p (x_pickT rfl rfl rfl) ?_
  refine AL_p (x_assign rfl rfl) ?_
  refine AL_nil ?_
  refine AW_ret ?_
  cases b14
  rotate_left
  · try simp only [tdy] at h14
    exact ⟨rn [], ⟨⟨⟨_, rfl, vle_bool (by first | exact (sameStore_a h6).symm | exact (sameStore_b h9).symm | exact ((sameStore_ok h6 h9).trans h14).symm)⟩, trivial⟩, trivial, trivial, rfl⟩⟩
  try simp only [tdy] at h14
  exact ⟨rn [], ⟨⟨⟨_, rfl, vle_bool (by first | exact (sameStore_a h6).symm | exact (sameStore_b h9).symm | exact ((sameStore_ok h6 h9).trans h14).symm)⟩, trivial⟩, trivial, trivial, rfl⟩⟩
end Go.Proofs.Ytibhoanjglfaoaa

/- A delta that fits a store, in plain words. -/
namespace Go.Proofs.Ytibhoanjglfaoaa
open Go.RowKit
set_option linter.unusedVariables false

theorem relOk_vals2 {a : Relt} (h : relOk a = true) : ∀ r ∈ a.rows, ∀ v ∈ r, valOk v = true := fun r hr v hv => by
  obtain ⟨j, hj, rfl⟩ := List.getElem_of_mem hr
  exact (relOk_sorted h).1 j hj v hv
section
variable {s : Storet} {l : List Changet} {k : Nat} (hk : k < l.length)
end
end Go.Proofs.Ytibhoanjglfaoaa

/- Deltas that fit (printed by walk.py) -/
namespace Go.Proofs.Ytibhoanjglfaoaa
open Go.RowKit
set_option linter.unusedVariables false
set_option linter.unusedSimpArgs false
set_option maxRecDepth 100000

end Go.Proofs.Ytibhoanjglfaoaa

/- The laws' marks: MarkB (printed by genmark.py) -/
namespace Go.Proofs.Ytibhoanjglfaoaa
open Go.RowKit
set_option linter.unusedVariables false
set_option linter.unusedSimpArgs false
set_option maxRecDepth 100000

end Go.Proofs.Ytibhoanjglfaoaa

/- The laws' marks: MarkC (printed by genmark.py) -/
namespace Go.Proofs.Ytibhoanjglfaoaa
open Go.RowKit
set_option linter.unusedVariables false
set_option linter.unusedSimpArgs false
set_option maxRecDepth 100000

end Go.Proofs.Ytibhoanjglfaoaa

/- Sizes of data (printed by mktot.py) -/
namespace Go.Proofs.Ytibhoanjglfaoaa
open Go.RowKit
set_option linter.unusedVariables false

end Go.Proofs.Ytibhoanjglfaoaa

/- Sizes of data (printed by mktot.py) -/
namespace Go.Proofs.Ytibhoanjglfaoaa
open Go.RowKit
set_option linter.unusedVariables false

end Go.Proofs.Ytibhoanjglfaoaa

/- Copies of relations, deltas turned back, deltas between stores, in plain words. -/
namespace Go.Proofs.Ytibhoanjglfaoaa
open Go.RowKit
set_option linter.unusedVariables false

end Go.Proofs.Ytibhoanjglfaoaa

/- Stores and deltas copied (printed by walk.py) -/
namespace Go.Proofs.Ytibhoanjglfaoaa
open Go.RowKit
set_option linter.unusedVariables false
set_option linter.unusedSimpArgs false
set_option maxRecDepth 100000

set_option maxHeartbeats 4000000 in
theorem copyS_c0 (r : Relt) (hr : smallRel r) : AC Try.prog 47 [.agg (relC r)] [] (.agg [.c (.int .i64 r.arity), .own 0]) [(0, some (.arr 92 rowE r.rows true))] := by
  refine AC_bodyC (n := 2) (k := 9) (T := [(2, .one (.ptr 9 0))]) (Lf := ((9, some (.box [.c (.int .i64 r.arity), .own 0])) :: [(0, some (.arr 92 rowE r.rows true))])) Try.func47 rfl rfl Try.ntmps47 rfl Try.results47 rfl rfl (by kernel_rfl) rfl rfl ⟨trivial, (by repeat (first | exact trivial | refine ⟨⟨_, rfl, BLe.rf⟩, ?_⟩)), (by repeat (first | exact trivial | refine ⟨⟨rfl, by first | (left; intro h; cases h) | (right; rfl), by first | exact (fun _ h => ⟨_, h⟩) | exact (fun _ _ => ⟨_, rfl⟩)⟩, ?_⟩)), rfl⟩ ?_
  refine AW_seq ?_
  refine AW_region ?_
  refine AL_p (x_box 100 rfl rfl rfl rfl rfl rfl rfl) ?_
  refine AL_p (x_alloc (z := .agg #[.int .i64 0, .slice none 0 0]) 101 rfl (by kernel_rfl) rfl rfl rfl rfl) ?_
  refine AL_nil ?_
  refine AW_seq ?_
  refine AW_region ?_
  refine AL_p (x_field (off := 0) (o' := 0) rfl rfl rfl (by kernel_rfl) rfl) ?_
  refine AL_p (x_load1 rfl rfl rfl (by kernel_rfl) rfl) ?_
  refine AL_p (x_build (zs := [.int .i64 0, .slice none 0 0]) (places := [(0, 1), (1, 1)]) rfl (by kernel_rfl) rfl rfl rfl rfl rfl) ?_
  refine AL_p (x_alloc (z := .agg #[.int .i64 0, .slice none 0 0]) 102 rfl (by kernel_rfl) rfl rfl rfl rfl) ?_
  refine AL_p (x_store (n := 2) rfl rfl rfl rfl (by kernel_rfl) rfl rfl rfl) ?_
  refine AL_nil ?_
  refine AW_seq ?_
  refine AW_seq ?_
  refine AW_region ?_
  refine AL_p (x_field (off := 1) (o' := 1) rfl rfl rfl (by kernel_rfl) rfl) ?_
  refine AL_p (x_load1 rfl rfl rfl (by kernel_rfl) rfl) ?_
  refine AL_p (x_len (E := 92) (n := 1) rfl rfl (by kernel_rfl)) ?_
  refine AL_p (x_move rfl rfl) ?_
  refine AL_nil ?_
  refine AW_block ?_
  refine AW_adopt (T := 92) (e := rowE) 103 102 1 rfl rfl rfl rfl rfl ?_
  refine AW_loop2 (ι := {q : Nat // q ≤ r.rows.length}) (fun p => [(11, .one (.c (.int .i64 ((p.1) : Int))))]) (fun p => [(103, some (.arr 92 rowE (r.rows.take (p.1)) true))]) [1, 2, 3, 10] [100, 101, 102] (fun p => r.rows.length - (p.1)) ⟨0, by omega⟩ (rn []) ?_ ?_
  exact ⟨by (repeat refine ⟨⟨_, rfl, by first | exact VLe.rf | exact vle_int (by dsimp only; omega)⟩, ?_⟩); exact trivial, by (repeat refine ⟨⟨_, rfl, by first | exact BLe.rf | exact BLe.box AllC.rf | exact BLe.arr (by first | exact take_none | exact take_more (by omega))⟩, ?_⟩); exact trivial, by repeat (first | exact trivial | refine ⟨⟨rfl, by first | (left; intro h; cases h) | (right; rfl), by first | exact (fun _ h => ⟨_, h⟩) | exact (fun _ _ => ⟨_, rfl⟩)⟩, ?_⟩), rfl⟩
  rintro ⟨k, hinv⟩
  dsimp only
  have hl := hr.1
  refine AW_seq ?_
  refine AW_region ?_
  refine AL_b (x_lss rfl rfl rfl) (fun b12 h12 => ?_)
  refine AL_nil ?_
  refine AW_seq ?_
  cases b12
  · try simp only [tdy] at h12
    refine AW_condF rfl ?_
    refine AW_exit (BQ_hit ?_)
    refine AW_seq ?_
    refine AW_region ?_
    refine AL_p (x_loadN (n := 2) rfl rfl rfl (by kernel_rfl) rfl rfl) ?_
    refine AL_p (x_store (n := 2) rfl rfl rfl rfl (by kernel_rfl) rfl rfl rfl) ?_
    refine AL_nil ?_
    refine AW_ret ?_
    exact ⟨rn [(9, 101), (0, 103)], ⟨⟨⟨_, rfl, VLe.rf⟩, trivial⟩, ⟨⟨_, rfl, by first | exact BLe.rf | (subst_vars; exact BLe.rf)⟩, ⟨_, rfl, BLe.arr (List.take_of_length_le (by omega))⟩, trivial⟩, trivial, rfl⟩⟩
  try simp only [tdy] at h12
  refine AW_condT rfl ?_
  refine AW_skip ?_
  refine AW_seq ?_
  refine AW_block ?_
  refine AW_seq ?_
  refine AW_region ?_
  refine AL_p (x_move rfl rfl) ?_
  refine AL_p (x_assign rfl rfl) ?_
  refine AL_nil ?_
  refine AW_draw rfl ?_
  refine AL_p (x_field (off := 1) (o' := 1) rfl rfl rfl (by kernel_rfl) rfl) ?_
  refine AL_p (x_load1 rfl rfl rfl (by kernel_rfl) rfl) ?_
  refine AL_p (x_field (off := 1) (o' := 1) rfl rfl rfl (by kernel_rfl) rfl) ?_
  refine AL_p (x_load1 rfl rfl rfl (by kernel_rfl) rfl) ?_
  refine AL_p (x_move rfl rfl) ?_
  refine AL_p (x_index (E := 92) (n := 1) rfl rfl rfl (by kernel_rfl) rfl (k := k) (by omega) (by omega)) ?_
  refine AL_p (x_eloadW (n := 1) rfl rfl (by kernel_rfl) rfl) ?_
  refine AL_p (x_call1 rfl rfl rfl (rowS_c (r.rows[k]'(by omega)) (hr.2 _ (List.getElem_mem _)).1 104) rfl rfl rfl rfl) ?_
  refine AL_p (y_bslice (E := 92) (e := rowE) [.tmp 21] ([r.rows[k]'(by omega)]) 105 rfl rfl rfl rfl rfl rfl rfl rfl FitL.rf rfl rfl rfl rfl rfl rfl (by kernel_rfl)) ?_
  refine AL_p (y_append 106 rfl rfl rfl rfl rfl rfl rfl rfl (by kernel_rfl) (by have := hr.1; simp only [List.length_take, List.length_cons, List.length_nil]; omega)) ?_
  refine AL_p (x_field (off := 1) (o' := 1) rfl rfl rfl (by kernel_rfl) rfl) ?_
  refine AL_p (x_store (n := 1) rfl rfl rfl rfl (by kernel_rfl) rfl rfl rfl) ?_
  refine AL_nild (by kernel_rfl) ?_
  refine AW_region ?_
  refine AL_p (x_add rfl rfl rfl (IntWalk.i64_in _ (by omega))) ?_
  refine AL_p (x_move rfl rfl) ?_
  refine AL_nil ?_
  refine ⟨⟨k + 1, by omega⟩, rn [(103, 106)], ?_, by dsimp only; omega⟩
  exact ⟨by (repeat refine ⟨⟨_, rfl, by first | exact VLe.rf | exact vle_int (by dsimp only; omega)⟩, ?_⟩); exact trivial, by (repeat refine ⟨⟨_, rfl, by first | exact BLe.rf | exact BLe.box AllC.rf | exact BLe.arr (by first | exact take_none | exact take_more (by omega))⟩, ?_⟩); exact trivial, by repeat (first | exact trivial | refine ⟨⟨rfl, by first | (left; intro h; cases h) | (right; rfl), by first | exact (fun _ h => ⟨_, h⟩) | exact (fun _ _ => ⟨_, rfl⟩)⟩, ?_⟩), rfl⟩
theorem copyS_c (r : Relt) (hr : smallRel r) (k : Nat) : AC Try.prog 47 [.agg (relC r)] [] (.agg [.c (.int .i64 r.arity), .own k]) [(k, some (.arr 92 rowE r.rows true))] := AC.at (copyS_c0 r hr) k

end Go.Proofs.Ytibhoanjglfaoaa

/- Stores that are drawn (printed by walk.py) -/
namespace Go.Proofs.Ytibhoanjglfaoaa
open Go.RowKit
set_option linter.unusedVariables false
set_option linter.unusedSimpArgs false
set_option maxRecDepth 100000

set_option maxHeartbeats 4000000 in
theorem l12Set_c0 (rels : List Namedt) (nm : ByteArray) (r : Relt) (hs : rels.length ≤ 1048575) (hm : ∀ y ∈ rels, smallNamed y) (hr : smallRel r) : AC Try.prog 60 [.agg [.sl namedE rels], .one (.c (.string nm)), .agg (relC r)] [] (.agg [.own 0]) [(0, some (.arr 89 namedE (setRel rels (⟨nm, r⟩ : Namedt)) true))] := by
  refine AC_bodyC (n := 1) (k := 9) (T := [(6, .one (.ptr 9 0))]) (Lf := ((9, some (.box [.own 0])) :: [(0, some (.arr 89 namedE (setRel rels (⟨nm, r⟩ : Namedt)) true))])) Try.func60 rfl rfl Try.ntmps60 rfl Try.results60 rfl rfl (by kernel_rfl) rfl rfl ⟨trivial, (by repeat (first | exact trivial | refine ⟨⟨_, rfl, BLe.rf⟩, ?_⟩)), (by repeat (first | exact trivial | refine ⟨⟨rfl, by first | (left; intro h; cases h) | (right; rfl), by first | exact (fun _ h => ⟨_, h⟩) | exact (fun _ _ => ⟨_, rfl⟩)⟩, ?_⟩)), rfl⟩ ?_
  refine AW_seq ?_
  refine AW_region ?_
  refine AL_p (x_box 100 rfl rfl rfl rfl rfl rfl rfl) ?_
  refine AL_p (x_box 101 rfl rfl rfl rfl rfl rfl rfl) ?_
  refine AL_p (x_alloc (z := .agg #[.slice none 0 0]) 102 rfl (by kernel_rfl) rfl rfl rfl rfl) ?_
  refine AL_nil ?_
  refine AW_seq ?_
  refine AW_region ?_
  refine AL_p (x_build (zs := [.slice none 0 0]) (places := [(0, 1)]) rfl (by kernel_rfl) rfl rfl rfl rfl rfl) ?_
  refine AL_p (x_alloc (z := .agg #[.slice none 0 0]) 103 rfl (by kernel_rfl) rfl rfl rfl rfl) ?_
  refine AL_p (x_store (n := 1) rfl rfl rfl rfl (by kernel_rfl) rfl rfl rfl) ?_
  refine AL_nil ?_
  refine AW_seq ?_
  refine AW_region ?_
  refine AL_p (x_assign rfl rfl) ?_
  refine AL_nil ?_
  refine AW_seq ?_
  refine AW_seq ?_
  refine AW_region ?_
  refine AL_p (x_field (off := 0) (o' := 0) rfl rfl rfl (by kernel_rfl) rfl) ?_
  refine AL_p (x_load1 rfl rfl rfl (by kernel_rfl) rfl) ?_
  refine AL_p (x_len (E := 89) (n := 3) rfl rfl (by kernel_rfl)) ?_
  refine AL_p (x_move rfl rfl) ?_
  refine AL_nil ?_
  refine AW_block ?_
  refine AW_adopt (T := 89) (e := namedE) 104 103 0 rfl rfl rfl rfl rfl ?_
  refine AW_loop2 (ι := {q : Nat × Bool // (q.1) ≤ rels.length ∧ (setTo rels (⟨nm, r⟩ : Namedt) (q.1)).1 = (q.2)}) (fun p => [(8, .one (.c (.bool (p.1.2)))), (14, .one (.c (.int .i64 ((p.1.1) : Int))))]) (fun p => [(104, some (.arr 89 namedE (setTo rels (⟨nm, r⟩ : Namedt) (p.1.1)).2 true))]) [1, 3, 5, 6, 7, 13] [100, 101, 102, 103] (fun p => rels.length - (p.1.1)) ⟨⟨0, false⟩, ⟨by omega, rfl⟩⟩ (rn []) ?_ ?_
  exact ⟨by (repeat refine ⟨⟨_, rfl, by first | exact VLe.rf | exact vle_int (by dsimp only; omega)⟩, ?_⟩); exact trivial, by (repeat refine ⟨⟨_, rfl, by first | exact BLe.rf | exact BLe.box AllC.rf | exact BLe.arr (by first | rfl | exact (congrArg Prod.snd hs2).symm)⟩, ?_⟩); exact trivial, by repeat (first | exact trivial | refine ⟨⟨rfl, by first | (left; intro h; cases h) | (right; rfl), by first | exact (fun _ h => ⟨_, h⟩) | exact (fun _ _ => ⟨_, rfl⟩)⟩, ?_⟩), rfl⟩
  rintro ⟨⟨k, b900⟩, hinv⟩
  dsimp only
  obtain ⟨hk, h900⟩ := hinv
  have hk : k ≤ rels.length := hk
  refine AW_seq ?_
  refine AW_region ?_
  refine AL_b (x_lss rfl rfl rfl) (fun b15 h15 => ?_)
  refine AL_nil ?_
  refine AW_seq ?_
  cases b15
  · try simp only [tdy] at h15
    obtain rfl : k = rels.length := by omega
    refine AW_condF rfl ?_
    refine AW_exit (BQ_hit ?_)
    refine AW_seq ?_
    refine AW_seq ?_
    refine AW_region ?_
    refine AL_p (x_move rfl rfl) ?_
    refine AL_p (x_not rfl rfl) ?_
    refine AL_nil ?_
    cases b900
    rotate_left
    · try simp only [tdy] at h900
      have hno : setRel rels (⟨nm, r⟩ : Namedt) = (setTo rels (⟨nm, r⟩ : Namedt) rels.length).2 := by unfold setRel; rw [h900]; rfl
      refine AW_condF rfl ?_
      refine AW_skip ?_
      refine AW_seq ?_
      refine AW_region ?_
      refine AL_p (x_loadN (n := 1) rfl rfl rfl (by kernel_rfl) rfl rfl) ?_
      refine AL_p (x_store (n := 1) rfl rfl rfl rfl (by kernel_rfl) rfl rfl rfl) ?_
      refine AL_nil ?_
      refine AW_ret ?_
      exact ⟨rn [(9, 102), (0, 104)], ⟨⟨⟨_, rfl, VLe.rf⟩, trivial⟩, ⟨⟨_, rfl, by first | exact BLe.rf | (subst_vars; exact BLe.rf)⟩, ⟨_, rfl, BLe.arr hno.symm⟩, trivial⟩, trivial, rfl⟩⟩
    try simp only [tdy] at h900
    have hno : setRel rels (⟨nm, r⟩ : Namedt) = (setTo rels (⟨nm, r⟩ : Namedt) rels.length).2 ++ [(⟨nm, r⟩ : Namedt)] := by unfold setRel; rw [h900]; rfl
    refine AW_condT rfl ?_
    refine AW_draw rfl ?_
    refine AL_p (x_field (off := 0) (o' := 0) rfl rfl rfl (by kernel_rfl) rfl) ?_
    refine AL_p (x_load1 rfl rfl rfl (by kernel_rfl) rfl) ?_
    refine AL_p (x_move rfl rfl) ?_
    refine AL_p (x_loadN (n := 2) rfl rfl rfl (by kernel_rfl) rfl rfl) ?_
    refine AL_p (x_call1 rfl rfl rfl (copyS_c r hr 111) rfl rfl rfl rfl) ?_
    refine AL_p (x_build (zs := [.string ⟨#[]⟩, .int .i64 0, .slice none 0 0]) (places := [(0, 1), (1, 2)]) rfl (by kernel_rfl) rfl rfl rfl rfl rfl) ?_
    refine AL_p (y_bslice (E := 89) (e := namedE) [.tmp 73] ([(⟨nm, r⟩ : Namedt)]) 112 rfl rfl rfl rfl rfl rfl rfl rfl FitL.rf rfl rfl rfl rfl rfl rfl (by kernel_rfl)) ?_
    refine AL_p (y_append 113 rfl rfl rfl rfl rfl rfl rfl rfl (by kernel_rfl) (by have := setTo_len2 (rels := rels) (nw := (⟨nm, r⟩ : Namedt)) rels.length; simp only [List.length_append, List.length_cons, List.length_nil]; omega)) ?_
    refine AL_p (x_field (off := 0) (o' := 0) rfl rfl rfl (by kernel_rfl) rfl) ?_
    refine AL_p (x_store (n := 1) rfl rfl rfl rfl (by kernel_rfl) rfl rfl rfl) ?_
    refine AL_nild (by kernel_rfl) ?_
    refine AW_seq ?_
    refine AW_region ?_
    refine AL_p (x_loadN (n := 1) rfl rfl rfl (by kernel_rfl) rfl rfl) ?_
    refine AL_p (x_store (n := 1) rfl rfl rfl rfl (by kernel_rfl) rfl rfl rfl) ?_
    refine AL_nil ?_
    refine AW_ret ?_
    exact ⟨rn [(9, 102), (0, 113)], ⟨⟨⟨_, rfl, VLe.rf⟩, trivial⟩, ⟨⟨_, rfl, by first | exact BLe.rf | (subst_vars; exact BLe.rf)⟩, ⟨_, rfl, BLe.arr hno.symm⟩, trivial⟩, trivial, rfl⟩⟩
  try simp only [tdy] at h15
  refine AW_condT rfl ?_
  refine AW_skip ?_
  refine AW_seq ?_
  refine AW_block ?_
  refine AW_seq ?_
  refine AW_region ?_
  refine AL_p (x_move rfl rfl) ?_
  refine AL_p (x_assign rfl rfl) ?_
  refine AL_nil ?_
  refine AW_seq ?_
  refine AW_seq ?_
  refine AW_region ?_
  refine AL_p (x_move rfl rfl) ?_
  refine AL_p (x_not rfl rfl) ?_
  refine AL_p (x_move rfl rfl) ?_
  cases b900
  rotate_left
  · try simp only [tdy] at h900
    refine AL_o rfl rfl rfl rfl ?_
    refine AL_o rfl rfl rfl rfl ?_
    refine AL_o rfl rfl rfl rfl ?_
    refine AL_o rfl rfl rfl rfl ?_
    refine AL_o rfl rfl rfl rfl ?_
    refine AL_o rfl rfl rfl rfl ?_
    refine AL_o rfl rfl rfl rfl ?_
    refine AL_o rfl rfl rfl rfl ?_
    refine AL_p (x_pickF rfl rfl rfl) ?_
    refine AL_nil ?_
    refine AW_condF rfl ?_
    refine AW_skip ?_
    refine AW_seq ?_
    refine AW_region ?_
    refine AL_p (x_field (off := 0) (o' := 0) rfl rfl rfl (by kernel_rfl) rfl) ?_
    refine AL_p (x_load1 rfl rfl rfl (by kernel_rfl) rfl) ?_
    refine AL_p (x_move rfl rfl) ?_
    refine AL_p (x_index (E := 89) (n := 3) rfl rfl rfl (by kernel_rfl) rfl (k := k) rfl (by omega)) ?_
    refine AL_p (x_efield (off := 0) (o' := 0) rfl rfl (by kernel_rfl) rfl) ?_
    refine AL_p (x_eload1 rfl rfl (by kernel_rfl) rfl) ?_
    refine AL_p (x_move rfl rfl) ?_
    refine AL_b (x_sneq rfl rfl rfl) (fun b45 h45 => ?_)
    refine AL_nil ?_
    cases b45
    · try simp only [tdy] at h45
      have hs2 := setTo_skip (nw := (⟨nm, r⟩ : Namedt)) (k := k) (by omega) h900 (show (!((rels[k]'(by omega)).name == nm)) = false by rw [h45]; rfl)
      refine AW_condF rfl ?_
      refine AW_skip ?_
      refine AW_region ?_
      refine AL_p (x_add rfl rfl rfl (IntWalk.i64_in _ (by omega))) ?_
      refine AL_p (x_move rfl rfl) ?_
      refine AL_nil ?_
      refine ⟨⟨⟨k + 1, true⟩, ⟨by omega, congrArg Prod.fst hs2⟩⟩, rn [], ?_, by dsimp only; omega⟩
      exact ⟨by (repeat refine ⟨⟨_, rfl, by first | exact VLe.rf | exact vle_int (by dsimp only; omega)⟩, ?_⟩); exact trivial, by (repeat refine ⟨⟨_, rfl, by first | exact BLe.rf | exact BLe.box AllC.rf | exact BLe.arr (by first | rfl | exact (congrArg Prod.snd hs2).symm)⟩, ?_⟩); exact trivial, by repeat (first | exact trivial | refine ⟨⟨rfl, by first | (left; intro h; cases h) | (right; rfl), by first | exact (fun _ h => ⟨_, h⟩) | exact (fun _ _ => ⟨_, rfl⟩)⟩, ?_⟩), rfl⟩
    try simp only [tdy] at h45
    have hs2 := setTo_skip (nw := (⟨nm, r⟩ : Namedt)) (k := k) (by omega) h900 (show (!((rels[k]'(by omega)).name == nm)) = true by rw [h45]; rfl)
    refine AW_condT rfl ?_
    refine AW_draw rfl ?_
    refine AL_p (x_field (off := 0) (o' := 0) rfl rfl rfl (by kernel_rfl) rfl) ?_
    refine AL_p (x_load1 rfl rfl rfl (by kernel_rfl) rfl) ?_
    refine AL_p (x_field (off := 0) (o' := 0) rfl rfl rfl (by kernel_rfl) rfl) ?_
    refine AL_p (x_load1 rfl rfl rfl (by kernel_rfl) rfl) ?_
    refine AL_p (x_move rfl rfl) ?_
    refine AL_p (x_index (E := 89) (n := 3) rfl rfl rfl (by kernel_rfl) rfl (k := k) rfl (by omega)) ?_
    refine AL_p (x_efield (off := 0) (o' := 0) rfl rfl (by kernel_rfl) rfl) ?_
    refine AL_p (x_eload1 rfl rfl (by kernel_rfl) rfl) ?_
    refine AL_p (x_field (off := 0) (o' := 0) rfl rfl rfl (by kernel_rfl) rfl) ?_
    refine AL_p (x_load1 rfl rfl rfl (by kernel_rfl) rfl) ?_
    refine AL_p (x_move rfl rfl) ?_
    refine AL_p (x_index (E := 89) (n := 3) rfl rfl rfl (by kernel_rfl) rfl (k := k) rfl (by omega)) ?_
    refine AL_p (x_efield (off := 1) (o' := 1) rfl rfl (by kernel_rfl) rfl) ?_
    refine AL_p (x_eloadN (n := 2) rfl rfl (by kernel_rfl) rfl rfl) ?_
    refine AL_p (x_call1 rfl rfl rfl (copyS_c (rels[k]'(by omega)).rel (hm _ (List.getElem_mem _)).2 105) rfl rfl rfl rfl) ?_
    refine AL_p (x_build (zs := [.string ⟨#[]⟩, .int .i64 0, .slice none 0 0]) (places := [(0, 1), (1, 2)]) rfl (by kernel_rfl) rfl rfl rfl rfl rfl) ?_
    refine AL_p (y_bslice (E := 89) (e := namedE) [.tmp 61] ([(rels[k]'(by omega))]) 106 rfl rfl rfl rfl rfl rfl rfl rfl FitL.rf rfl rfl rfl rfl rfl rfl (by kernel_rfl)) ?_
    refine AL_p (y_append 107 rfl rfl rfl rfl rfl rfl rfl rfl (by kernel_rfl) (by have := setTo_len2 (rels := rels) (nw := (⟨nm, r⟩ : Namedt)) k; simp only [List.length_append, List.length_cons, List.length_nil]; omega)) ?_
    refine AL_p (x_field (off := 0) (o' := 0) rfl rfl rfl (by kernel_rfl) rfl) ?_
    refine AL_p (x_store (n := 1) rfl rfl rfl rfl (by kernel_rfl) rfl rfl rfl) ?_
    refine AL_nild (by kernel_rfl) ?_
    refine AW_region ?_
    refine AL_p (x_add rfl rfl rfl (IntWalk.i64_in _ (by omega))) ?_
    refine AL_p (x_move rfl rfl) ?_
    refine AL_nil ?_
    refine ⟨⟨⟨k + 1, true⟩, ⟨by omega, congrArg Prod.fst hs2⟩⟩, rn [(104, 107)], ?_, by dsimp only; omega⟩
    exact ⟨by (repeat refine ⟨⟨_, rfl, by first | exact VLe.rf | exact vle_int (by dsimp only; omega)⟩, ?_⟩); exact trivial, by (repeat refine ⟨⟨_, rfl, by first | exact BLe.rf | exact BLe.box AllC.rf | exact BLe.arr (by first | rfl | exact (congrArg Prod.snd hs2).symm)⟩, ?_⟩); exact trivial, by repeat (first | exact trivial | refine ⟨⟨rfl, by first | (left; intro h; cases h) | (right; rfl), by first | exact (fun _ h => ⟨_, h⟩) | exact (fun _ _ => ⟨_, rfl⟩)⟩, ?_⟩), rfl⟩
  try simp only [tdy] at h900
  refine AL_g rfl rfl (x_move rfl rfl) ?_
  refine AL_g rfl rfl (x_field (off := 0) (o' := 0) rfl rfl rfl (by kernel_rfl) rfl) ?_
  refine AL_g rfl rfl (x_load1 rfl rfl rfl (by kernel_rfl) rfl) ?_
  refine AL_g rfl rfl (x_move rfl rfl) ?_
  refine AL_g rfl rfl (x_index (E := 89) (n := 3) rfl rfl rfl (by kernel_rfl) rfl (k := k) rfl (by omega)) ?_
  refine AL_g rfl rfl (x_efield (off := 0) (o' := 0) rfl rfl (by kernel_rfl) rfl) ?_
  refine AL_g rfl rfl (x_eload1 rfl rfl (by kernel_rfl) rfl) ?_
  refine AL_gb rfl rfl (x_sleq rfl rfl rfl) (fun b27 h27 => ?_)
  refine AL_p (x_pickT rfl rfl rfl) ?_
  refine AL_nil ?_
  cases b27
  · try simp only [tdy] at h27
    refine AW_condF rfl ?_
    refine AW_skip ?_
    refine AW_seq ?_
    refine AW_region ?_
    refine AL_p (x_field (off := 0) (o' := 0) rfl rfl rfl (by kernel_rfl) rfl) ?_
    refine AL_p (x_load1 rfl rfl rfl (by kernel_rfl) rfl) ?_
    refine AL_p (x_move rfl rfl) ?_
    refine AL_p (x_index (E := 89) (n := 3) rfl rfl rfl (by kernel_rfl) rfl (k := k) rfl (by omega)) ?_
    refine AL_p (x_efield (off := 0) (o' := 0) rfl rfl (by kernel_rfl) rfl) ?_
    refine AL_p (x_eload1 rfl rfl (by kernel_rfl) rfl) ?_
    refine AL_p (x_move rfl rfl) ?_
    refine AL_b (x_sneq rfl rfl rfl) (fun b45 h45 => ?_)
    refine AL_nil ?_
    cases b45
    · try simp only [tdy] at h45
      have hs2 := setTo_next (nw := (⟨nm, r⟩ : Namedt)) (k := k) (by omega) h900 h27 (show (!((rels[k]'(by omega)).name == nm)) = false by rw [h45]; rfl)
      refine AW_condF rfl ?_
      refine AW_skip ?_
      refine AW_region ?_
      refine AL_p (x_add rfl rfl rfl (IntWalk.i64_in _ (by omega))) ?_
      refine AL_p (x_move rfl rfl) ?_
      refine AL_nil ?_
      refine ⟨⟨⟨k + 1, false⟩, ⟨by omega, congrArg Prod.fst hs2⟩⟩, rn [], ?_, by dsimp only; omega⟩
      exact ⟨by (repeat refine ⟨⟨_, rfl, by first | exact VLe.rf | exact vle_int (by dsimp only; omega)⟩, ?_⟩); exact trivial, by (repeat refine ⟨⟨_, rfl, by first | exact BLe.rf | exact BLe.box AllC.rf | exact BLe.arr (by first | rfl | exact (congrArg Prod.snd hs2).symm)⟩, ?_⟩); exact trivial, by repeat (first | exact trivial | refine ⟨⟨rfl, by first | (left; intro h; cases h) | (right; rfl), by first | exact (fun _ h => ⟨_, h⟩) | exact (fun _ _ => ⟨_, rfl⟩)⟩, ?_⟩), rfl⟩
    try simp only [tdy] at h45
    have hs2 := setTo_next (nw := (⟨nm, r⟩ : Namedt)) (k := k) (by omega) h900 h27 (show (!((rels[k]'(by omega)).name == nm)) = true by rw [h45]; rfl)
    refine AW_condT rfl ?_
    refine AW_draw rfl ?_
    refine AL_p (x_field (off := 0) (o' := 0) rfl rfl rfl (by kernel_rfl) rfl) ?_
    refine AL_p (x_load1 rfl rfl rfl (by kernel_rfl) rfl) ?_
    refine AL_p (x_field (off := 0) (o' := 0) rfl rfl rfl (by kernel_rfl) rfl) ?_
    refine AL_p (x_load1 rfl rfl rfl (by kernel_rfl) rfl) ?_
    refine AL_p (x_move rfl rfl) ?_
    refine AL_p (x_index (E := 89) (n := 3) rfl rfl rfl (by kernel_rfl) rfl (k := k) rfl (by omega)) ?_
    refine AL_p (x_efield (off := 0) (o' := 0) rfl rfl (by kernel_rfl) rfl) ?_
    refine AL_p (x_eload1 rfl rfl (by kernel_rfl) rfl) ?_
    refine AL_p (x_field (off := 0) (o' := 0) rfl rfl rfl (by kernel_rfl) rfl) ?_
    refine AL_p (x_load1 rfl rfl rfl (by kernel_rfl) rfl) ?_
    refine AL_p (x_move rfl rfl) ?_
    refine AL_p (x_index (E := 89) (n := 3) rfl rfl rfl (by kernel_rfl) rfl (k := k) rfl (by omega)) ?_
    refine AL_p (x_efield (off := 1) (o' := 1) rfl rfl (by kernel_rfl) rfl) ?_
    refine AL_p (x_eloadN (n := 2) rfl rfl (by kernel_rfl) rfl rfl) ?_
    refine AL_p (x_call1 rfl rfl rfl (copyS_c (rels[k]'(by omega)).rel (hm _ (List.getElem_mem _)).2 105) rfl rfl rfl rfl) ?_
    refine AL_p (x_build (zs := [.string ⟨#[]⟩, .int .i64 0, .slice none 0 0]) (places := [(0, 1), (1, 2)]) rfl (by kernel_rfl) rfl rfl rfl rfl rfl) ?_
    refine AL_p (y_bslice (E := 89) (e := namedE) [.tmp 61] ([(rels[k]'(by omega))]) 106 rfl rfl rfl rfl rfl rfl rfl rfl FitL.rf rfl rfl rfl rfl rfl rfl (by kernel_rfl)) ?_
    refine AL_p (y_append 107 rfl rfl rfl rfl rfl rfl rfl rfl (by kernel_rfl) (by have := setTo_len2 (rels := rels) (nw := (⟨nm, r⟩ : Namedt)) k; simp only [List.length_append, List.length_cons, List.length_nil]; omega)) ?_
    refine AL_p (x_field (off := 0) (o' := 0) rfl rfl rfl (by kernel_rfl) rfl) ?_
    refine AL_p (x_store (n := 1) rfl rfl rfl rfl (by kernel_rfl) rfl rfl rfl) ?_
    refine AL_nild (by kernel_rfl) ?_
    refine AW_region ?_
    refine AL_p (x_add rfl rfl rfl (IntWalk.i64_in _ (by omega))) ?_
    refine AL_p (x_move rfl rfl) ?_
    refine AL_nil ?_
    refine ⟨⟨⟨k + 1, false⟩, ⟨by omega, congrArg Prod.fst hs2⟩⟩, rn [(104, 107)], ?_, by dsimp only; omega⟩
    exact ⟨by (repeat refine ⟨⟨_, rfl, by first | exact VLe.rf | exact vle_int (by dsimp only; omega)⟩, ?_⟩); exact trivial, by (repeat refine ⟨⟨_, rfl, by first | exact BLe.rf | exact BLe.box AllC.rf | exact BLe.arr (by first | rfl | exact (congrArg Prod.snd hs2).symm)⟩, ?_⟩); exact trivial, by repeat (first | exact trivial | refine ⟨⟨rfl, by first | (left; intro h; cases h) | (right; rfl), by first | exact (fun _ h => ⟨_, h⟩) | exact (fun _ _ => ⟨_, rfl⟩)⟩, ?_⟩), rfl⟩
  try simp only [tdy] at h27
  refine AW_condT rfl ?_
  refine AW_seq ?_
  refine AW_draw rfl ?_
  refine AL_p (x_field (off := 0) (o' := 0) rfl rfl rfl (by kernel_rfl) rfl) ?_
  refine AL_p (x_load1 rfl rfl rfl (by kernel_rfl) rfl) ?_
  refine AL_p (x_move rfl rfl) ?_
  refine AL_p (x_loadN (n := 2) rfl rfl rfl (by kernel_rfl) rfl rfl) ?_
  refine AL_p (x_call1 rfl rfl rfl (copyS_c r hr 108) rfl rfl rfl rfl) ?_
  refine AL_p (x_build (zs := [.string ⟨#[]⟩, .int .i64 0, .slice none 0 0]) (places := [(0, 1), (1, 2)]) rfl (by kernel_rfl) rfl rfl rfl rfl rfl) ?_
  refine AL_p (y_bslice (E := 89) (e := namedE) [.tmp 34] ([(⟨nm, r⟩ : Namedt)]) 109 rfl rfl rfl rfl rfl rfl rfl rfl FitL.rf rfl rfl rfl rfl rfl rfl (by kernel_rfl)) ?_
  refine AL_p (y_append 110 rfl rfl rfl rfl rfl rfl rfl rfl (by kernel_rfl) (by have := setTo_len2 (rels := rels) (nw := (⟨nm, r⟩ : Namedt)) k; simp only [List.length_append, List.length_cons, List.length_nil]; omega)) ?_
  refine AL_p (x_field (off := 0) (o' := 0) rfl rfl rfl (by kernel_rfl) rfl) ?_
  refine AL_p (x_store (n := 1) rfl rfl rfl rfl (by kernel_rfl) rfl rfl rfl) ?_
  refine AL_nild (by kernel_rfl) ?_
  refine AW_region ?_
  refine AL_p (x_assign rfl rfl) ?_
  refine AL_nil ?_
  refine AW_seq ?_
  refine AW_region ?_
  refine AL_p (x_field (off := 0) (o' := 0) rfl rfl rfl (by kernel_rfl) rfl) ?_
  refine AL_p (x_load1 rfl rfl rfl (by kernel_rfl) rfl) ?_
  refine AL_p (x_move rfl rfl) ?_
  refine AL_p (x_index (E := 89) (n := 3) rfl rfl rfl (by kernel_rfl) rfl (k := k) rfl (by omega)) ?_
  refine AL_p (x_efield (off := 0) (o' := 0) rfl rfl (by kernel_rfl) rfl) ?_
  refine AL_p (x_eload1 rfl rfl (by kernel_rfl) rfl) ?_
  refine AL_p (x_move rfl rfl) ?_
  refine AL_b (x_sneq rfl rfl rfl) (fun b45 h45 => ?_)
  refine AL_nil ?_
  cases b45
  · try simp only [tdy] at h45
    have hs2 := setTo_next (nw := (⟨nm, r⟩ : Namedt)) (k := k) (by omega) h900 h27 (show (!((rels[k]'(by omega)).name == nm)) = false by rw [h45]; rfl)
    refine AW_condF rfl ?_
    refine AW_skip ?_
    refine AW_region ?_
    refine AL_p (x_add rfl rfl rfl (IntWalk.i64_in _ (by omega))) ?_
    refine AL_p (x_move rfl rfl) ?_
    refine AL_nil ?_
    refine ⟨⟨⟨k + 1, true⟩, ⟨by omega, congrArg Prod.fst hs2⟩⟩, rn [(104, 110)], ?_, by dsimp only; omega⟩
    exact ⟨by (repeat refine ⟨⟨_, rfl, by first | exact VLe.rf | exact vle_int (by dsimp only; omega)⟩, ?_⟩); exact trivial, by (repeat refine ⟨⟨_, rfl, by first | exact BLe.rf | exact BLe.box AllC.rf | exact BLe.arr (by first | rfl | exact (congrArg Prod.snd hs2).symm)⟩, ?_⟩); exact trivial, by repeat (first | exact trivial | refine ⟨⟨rfl, by first | (left; intro h; cases h) | (right; rfl), by first | exact (fun _ h => ⟨_, h⟩) | exact (fun _ _ => ⟨_, rfl⟩)⟩, ?_⟩), rfl⟩
  try simp only [tdy] at h45
  have hs2 := setTo_next (nw := (⟨nm, r⟩ : Namedt)) (k := k) (by omega) h900 h27 (show (!((rels[k]'(by omega)).name == nm)) = true by rw [h45]; rfl)
  refine AW_condT rfl ?_
  refine AW_draw rfl ?_
  refine AL_p (x_field (off := 0) (o' := 0) rfl rfl rfl (by kernel_rfl) rfl) ?_
  refine AL_p (x_load1 rfl rfl rfl (by kernel_rfl) rfl) ?_
  refine AL_p (x_field (off := 0) (o' := 0) rfl rfl rfl (by kernel_rfl) rfl) ?_
  refine AL_p (x_load1 rfl rfl rfl (by kernel_rfl) rfl) ?_
  refine AL_p (x_move rfl rfl) ?_
  refine AL_p (x_index (E := 89) (n := 3) rfl rfl rfl (by kernel_rfl) rfl (k := k) rfl (by omega)) ?_
  refine AL_p (x_efield (off := 0) (o' := 0) rfl rfl (by kernel_rfl) rfl) ?_
  refine AL_p (x_eload1 rfl rfl (by kernel_rfl) rfl) ?_
  refine AL_p (x_field (off := 0) (o' := 0) rfl rfl rfl (by kernel_rfl) rfl) ?_
  refine AL_p (x_load1 rfl rfl rfl (by kernel_rfl) rfl) ?_
  refine AL_p (x_move rfl rfl) ?_
  refine AL_p (x_index (E := 89) (n := 3) rfl rfl rfl (by kernel_rfl) rfl (k := k) rfl (by omega)) ?_
  refine AL_p (x_efield (off := 1) (o' := 1) rfl rfl (by kernel_rfl) rfl) ?_
  refine AL_p (x_eloadN (n := 2) rfl rfl (by kernel_rfl) rfl rfl) ?_
  refine AL_p (x_call1 rfl rfl rfl (copyS_c (rels[k]'(by omega)).rel (hm _ (List.getElem_mem _)).2 105) rfl rfl rfl rfl) ?_
  refine AL_p (x_build (zs := [.string ⟨#[]⟩, .int .i64 0, .slice none 0 0]) (places := [(0, 1), (1, 2)]) rfl (by kernel_rfl) rfl rfl rfl rfl rfl) ?_
  refine AL_p (y_bslice (E := 89) (e := namedE) [.tmp 61] ([(rels[k]'(by omega))]) 106 rfl rfl rfl rfl rfl rfl rfl rfl FitL.rf rfl rfl rfl rfl rfl rfl (by kernel_rfl)) ?_
  refine AL_p (y_append 107 rfl rfl rfl rfl rfl rfl rfl rfl (by kernel_rfl) (by have := setTo_len2 (rels := rels) (nw := (⟨nm, r⟩ : Namedt)) k; simp only [List.length_append, List.length_cons, List.length_nil]; omega)) ?_
  refine AL_p (x_field (off := 0) (o' := 0) rfl rfl rfl (by kernel_rfl) rfl) ?_
  refine AL_p (x_store (n := 1) rfl rfl rfl rfl (by kernel_rfl) rfl rfl rfl) ?_
  refine AL_nild (by kernel_rfl) ?_
  refine AW_region ?_
  refine AL_p (x_add rfl rfl rfl (IntWalk.i64_in _ (by omega))) ?_
  refine AL_p (x_move rfl rfl) ?_
  refine AL_nil ?_
  refine ⟨⟨⟨k + 1, true⟩, ⟨by omega, congrArg Prod.fst hs2⟩⟩, rn [(104, 107)], ?_, by dsimp only; omega⟩
  exact ⟨by (repeat refine ⟨⟨_, rfl, by first | exact VLe.rf | exact vle_int (by dsimp only; omega)⟩, ?_⟩); exact trivial, by (repeat refine ⟨⟨_, rfl, by first | exact BLe.rf | exact BLe.box AllC.rf | exact BLe.arr (by first | rfl | exact (congrArg Prod.snd hs2).symm)⟩, ?_⟩); exact trivial, by repeat (first | exact trivial | refine ⟨⟨rfl, by first | (left; intro h; cases h) | (right; rfl), by first | exact (fun _ h => ⟨_, h⟩) | exact (fun _ _ => ⟨_, rfl⟩)⟩, ?_⟩), rfl⟩
theorem l12Set_c (rels : List Namedt) (nm : ByteArray) (r : Relt) (hs : rels.length ≤ 1048575) (hm : ∀ y ∈ rels, smallNamed y) (hr : smallRel r) (k : Nat) : AC Try.prog 60 [.agg [.sl namedE rels], .one (.c (.string nm)), .agg (relC r)] [] (.agg [.own k]) [(k, some (.arr 89 namedE (setRel rels (⟨nm, r⟩ : Namedt)) true))] := AC.at (l12Set_c0 rels nm r hs hm hr) k

set_option maxHeartbeats 4000000 in
theorem copySt_c0 (rels : List Namedt) (hs : rels.length ≤ 1048576) (hm : ∀ y ∈ rels, smallNamed y) : AC Try.prog 80 [.agg [.sl namedE rels]] [] (.agg [.own 0]) [(0, some (.arr 89 namedE rels true))] := by
  refine AC_bodyC (n := 1) (k := 9) (T := [(2, .one (.ptr 9 0))]) (Lf := ((9, some (.box [.own 0])) :: [(0, some (.arr 89 namedE rels true))])) Try.func80 rfl rfl Try.ntmps80 rfl Try.results80 rfl rfl (by kernel_rfl) rfl rfl ⟨trivial, (by repeat (first | exact trivial | refine ⟨⟨_, rfl, BLe.rf⟩, ?_⟩)), (by repeat (first | exact trivial | refine ⟨⟨rfl, by first | (left; intro h; cases h) | (right; rfl), by first | exact (fun _ h => ⟨_, h⟩) | exact (fun _ _ => ⟨_, rfl⟩)⟩, ?_⟩)), rfl⟩ ?_
  refine AW_seq ?_
  refine AW_region ?_
  refine AL_p (x_box 100 rfl rfl rfl rfl rfl rfl rfl) ?_
  refine AL_p (x_alloc (z := .agg #[.slice none 0 0]) 101 rfl (by kernel_rfl) rfl rfl rfl rfl) ?_
  refine AL_nil ?_
  refine AW_seq ?_
  refine AW_region ?_
  refine AL_p (x_build (zs := [.slice none 0 0]) (places := [(0, 1)]) rfl (by kernel_rfl) rfl rfl rfl rfl rfl) ?_
  refine AL_p (x_alloc (z := .agg #[.slice none 0 0]) 102 rfl (by kernel_rfl) rfl rfl rfl rfl) ?_
  refine AL_p (x_store (n := 1) rfl rfl rfl rfl (by kernel_rfl) rfl rfl rfl) ?_
  refine AL_nil ?_
  refine AW_seq ?_
  refine AW_seq ?_
  refine AW_region ?_
  refine AL_p (x_field (off := 0) (o' := 0) rfl rfl rfl (by kernel_rfl) rfl) ?_
  refine AL_p (x_load1 rfl rfl rfl (by kernel_rfl) rfl) ?_
  refine AL_p (x_len (E := 89) (n := 3) rfl rfl (by kernel_rfl)) ?_
  refine AL_p (x_move rfl rfl) ?_
  refine AL_nil ?_
  refine AW_block ?_
  refine AW_adopt (T := 89) (e := namedE) 103 102 0 rfl rfl rfl rfl rfl ?_
  refine AW_loop2 (ι := {q : Nat // q ≤ rels.length}) (fun p => [(9, .one (.c (.int .i64 ((p.1) : Int))))]) (fun p => [(103, some (.arr 89 namedE (rels.take (p.1)) true))]) [1, 2, 3, 8] [100, 101, 102] (fun p => rels.length - (p.1)) ⟨0, by omega⟩ (rn []) ?_ ?_
  exact ⟨by (repeat refine ⟨⟨_, rfl, by first | exact VLe.rf | exact vle_int (by dsimp only; omega)⟩, ?_⟩); exact trivial, by (repeat refine ⟨⟨_, rfl, by first | exact BLe.rf | exact BLe.box AllC.rf | exact BLe.arr (by first | exact take_none | exact take_more (by omega))⟩, ?_⟩); exact trivial, by repeat (first | exact trivial | refine ⟨⟨rfl, by first | (left; intro h; cases h) | (right; rfl), by first | exact (fun _ h => ⟨_, h⟩) | exact (fun _ _ => ⟨_, rfl⟩)⟩, ?_⟩), rfl⟩
  rintro ⟨k, hinv⟩
  dsimp only
  have hk := hinv
  refine AW_seq ?_
  refine AW_region ?_
  refine AL_b (x_lss rfl rfl rfl) (fun b10 h10 => ?_)
  refine AL_nil ?_
  refine AW_seq ?_
  cases b10
  · try simp only [tdy] at h10
    refine AW_condF rfl ?_
    refine AW_exit (BQ_hit ?_)
    refine AW_seq ?_
    refine AW_region ?_
    refine AL_p (x_loadN (n := 1) rfl rfl rfl (by kernel_rfl) rfl rfl) ?_
    refine AL_p (x_store (n := 1) rfl rfl rfl rfl (by kernel_rfl) rfl rfl rfl) ?_
    refine AL_nil ?_
    refine AW_ret ?_
    exact ⟨rn [(9, 101), (0, 103)], ⟨⟨⟨_, rfl, VLe.rf⟩, trivial⟩, ⟨⟨_, rfl, by first | exact BLe.rf | (subst_vars; exact BLe.rf)⟩, ⟨_, rfl, BLe.arr (List.take_of_length_le (by omega))⟩, trivial⟩, trivial, rfl⟩⟩
  try simp only [tdy] at h10
  refine AW_condT rfl ?_
  refine AW_skip ?_
  refine AW_seq ?_
  refine AW_block ?_
  refine AW_seq ?_
  refine AW_region ?_
  refine AL_p (x_move rfl rfl) ?_
  refine AL_p (x_assign rfl rfl) ?_
  refine AL_nil ?_
  refine AW_draw rfl ?_
  refine AL_p (x_field (off := 0) (o' := 0) rfl rfl rfl (by kernel_rfl) rfl) ?_
  refine AL_p (x_load1 rfl rfl rfl (by kernel_rfl) rfl) ?_
  refine AL_p (x_field (off := 0) (o' := 0) rfl rfl rfl (by kernel_rfl) rfl) ?_
  refine AL_p (x_load1 rfl rfl rfl (by kernel_rfl) rfl) ?_
  refine AL_p (x_move rfl rfl) ?_
  refine AL_p (x_index (E := 89) (n := 3) rfl rfl rfl (by kernel_rfl) rfl (k := k) rfl (by omega)) ?_
  refine AL_p (x_efield (off := 0) (o' := 0) rfl rfl (by kernel_rfl) rfl) ?_
  refine AL_p (x_eload1 rfl rfl (by kernel_rfl) rfl) ?_
  refine AL_p (x_field (off := 0) (o' := 0) rfl rfl rfl (by kernel_rfl) rfl) ?_
  refine AL_p (x_load1 rfl rfl rfl (by kernel_rfl) rfl) ?_
  refine AL_p (x_move rfl rfl) ?_
  refine AL_p (x_index (E := 89) (n := 3) rfl rfl rfl (by kernel_rfl) rfl (k := k) rfl (by omega)) ?_
  refine AL_p (x_efield (off := 1) (o' := 1) rfl rfl (by kernel_rfl) rfl) ?_
  refine AL_p (x_eloadN (n := 2) rfl rfl (by kernel_rfl) rfl rfl) ?_
  refine AL_p (x_call1 rfl rfl rfl (copyS_c (rels[k]'(by omega)).rel (hm _ (List.getElem_mem _)).2 104) rfl rfl rfl rfl) ?_
  refine AL_p (x_build (zs := [.string ⟨#[]⟩, .int .i64 0, .slice none 0 0]) (places := [(0, 1), (1, 2)]) rfl (by kernel_rfl) rfl rfl rfl rfl rfl) ?_
  refine AL_p (y_bslice (E := 89) (e := namedE) [.tmp 27] ([(rels[k]'(by omega))]) 105 rfl rfl rfl rfl rfl rfl rfl rfl FitL.rf rfl rfl rfl rfl rfl rfl (by kernel_rfl)) ?_
  refine AL_p (y_append 106 rfl rfl rfl rfl rfl rfl rfl rfl (by kernel_rfl) (by simp only [List.length_take, List.length_cons, List.length_nil]; omega)) ?_
  refine AL_p (x_field (off := 0) (o' := 0) rfl rfl rfl (by kernel_rfl) rfl) ?_
  refine AL_p (x_store (n := 1) rfl rfl rfl rfl (by kernel_rfl) rfl rfl rfl) ?_
  refine AL_nild (by kernel_rfl) ?_
  refine AW_region ?_
  refine AL_p (x_add rfl rfl rfl (IntWalk.i64_in _ (by omega))) ?_
  refine AL_p (x_move rfl rfl) ?_
  refine AL_nil ?_
  refine ⟨⟨k + 1, by omega⟩, rn [(103, 106)], ?_, by dsimp only; omega⟩
  exact ⟨by (repeat refine ⟨⟨_, rfl, by first | exact VLe.rf | exact vle_int (by dsimp only; omega)⟩, ?_⟩); exact trivial, by (repeat refine ⟨⟨_, rfl, by first | exact BLe.rf | exact BLe.box AllC.rf | exact BLe.arr (by first | exact take_none | exact take_more (by omega))⟩, ?_⟩); exact trivial, by repeat (first | exact trivial | refine ⟨⟨rfl, by first | (left; intro h; cases h) | (right; rfl), by first | exact (fun _ h => ⟨_, h⟩) | exact (fun _ _ => ⟨_, rfl⟩)⟩, ?_⟩), rfl⟩
theorem copySt_c (rels : List Namedt) (hs : rels.length ≤ 1048576) (hm : ∀ y ∈ rels, smallNamed y) (k : Nat) : AC Try.prog 80 [.agg [.sl namedE rels]] [] (.agg [.own k]) [(k, some (.arr 89 namedE rels true))] := AC.at (copySt_c0 rels hs hm) k
end Go.Proofs.Ytibhoanjglfaoaa

/- A contract that takes arrays and leaves others, under other numbers. -/
namespace Go.Proofs.Ytibhoanjglfaoaa
open Go.RowKit
set_option linter.unusedVariables false

theorem all2_unren {r : Nat → Nat} {l L : Locs} {g : Gh} {w : World} (hL : LeL r l L) : ∀ {vs : List Value} {xs : List AVal}, All2 (VR1 g l w) vs (xs.map (AVal.ren1 r)) → All2 (VR1 (g.ren r) L w) vs xs
  | [], [], _ => trivial
  | v :: vs, x :: xs, h => ⟨VR1.unren hL h.1, all2_unren hL h.2⟩
  | [], _ :: _, h => by cases h
  | _ :: _, [], h => by cases h
/-- A contract that takes the blocks L: what becomes of them is not told. -/
structure AT (P : Program) (f : FuncId) (args : List AVal) (L : Locs) (res : AVal) (L' : Locs) : Prop where
  fn : Callable P f
  run : ∀ (g : Gh) (w : World) (cargs : Array Value), MemR g L w → All2 (VR1 g L w) cargs.toList args →
    Calls P f cargs w fun e w' => ∃ v g', e = .returned v ∧ MemR g' L' w' ∧ VR g' L' w' v res ∧ Step [] g L w g' L' w'
section body
variable {P : Program} {N : Nat} {f : FuncId} {fn : Func} {c : Code} {args : List AVal} {L L' : Locs}
theorem AT_of {res : AVal} {T : Tmps} (hf : P.funcs[f]? = some fn) (hb : fn.body = some c) (hn : (fn.name == "runtime.NumGoroutine") = false) (hN : fn.ntmps = N) (hA : Nat.ble args.length N = true)
    (hr : ∀ (g : Gh) (a : Act) (w : World), Rep N g ⟨T, L'⟩ a w → ∃ v, (results fn a.tmps).run P w = .ok v w ∧ VR g L' w v res)
    (h : AW P N [] c (RetS [] T L') (RetQ [] T L') ⟨args0 args 0, L⟩) : AT P f args L res L' := by
  refine ⟨⟨fn, c, hf, hb, hn⟩, fun g w cargs m ha => ?_⟩
  subst hN
  have R := entry_rep m ha (Nat.le_of_ble_eq_true hA)
  refine calls_of_wp hf hb (Go.wp_mono (h g _ w R) ?_)
  rintro e a1 w1 ⟨g1, s1, R1, hs, hR⟩
  have fin : RetS [] T L' s1 → a1.defers = [] ∧ ∃ v, (results fn a1.tmps).run P w1 = .ok v w1 ∧ ∃ v' g', Ending.returned v = .returned v' ∧ MemR g' L' w1 ∧ VR g' L' w1 v' res ∧ Step [] g L w g' L' w1 := by
    rintro ⟨r, hle⟩
    have R2 := R1.le hle
    obtain ⟨v, h1, h2⟩ := hr _ a1 w1 R2
    exact ⟨R1.defers, v, h1, v, _, rfl, R2.mem, h2, hs.trans m R1.mem (Step.unren hle.l hle.k)⟩
  cases e with
  | normal => exact fin hR
  | ret => exact fin hR
  | exit id => exact hR
  | goto l => exact hR
  | panic ch => exact hR.elim
  | outgrown => exact hR.elim
theorem AT_body1 {r : Nat} {x : AVal} (hf : P.funcs[f]? = some fn) (hb : fn.body = some c) (hn : (fn.name == "runtime.NumGoroutine") = false) (hN : fn.ntmps = N) (hA : Nat.ble args.length N = true) (hr : fn.results = #[.tmp r])
    (h : AW P N [] c (RetS [] [(r, x)] L') (RetQ [] [(r, x)] L') ⟨args0 args 0, L⟩) : AT P f args L x L' :=
  AT_of hf hb hn hN hA (fun g a w R => ⟨_, results_tmp hr _ _ _, R.tmp r x lk_cons_self⟩) h
end body
/-- The lent blocks l are all gone behind the call. -/
theorem AT.lend {P : Program} {f : FuncId} {args : List AVal} {L L' l l' : Locs} {res' : AVal} (r s : Nat → Nat) (h : AT P f args L (res'.ren s) L') (hL : LeL r l L) (hi : injL r (keys L) = true) (hL' : LeL s L' l') (hi' : injL s (keys l') = true)
    (hg : ∀ k ∈ keys l, lk l' k = some none) (hb : ∀ k cs, lkl l k ≠ some (.box cs)) : AC P f (args.map (AVal.ren1 r)) l res' l' :=
  ⟨h.fn, fun g w cargs m ha => (h.run (g.ren r) w cargs (m.unren hL hi) (all2_unren hL ha)).mono (by
    rintro e w' ⟨v, g1, rfl, m1, hv, hs⟩
    have m0 := m.unren hL hi
    have A : Step [] g l w (g.ren r) L w := Step.unren hL trivial
    have B : Step [] (g.ren r) L w g1 L' w' := hs
    have C : Step [] g1 L' w' (g1.ren s) l' w' := Step.unren hL' trivial
    have T := (A.trans m m0 B).trans m m1 C
    refine ⟨v, g1.ren s, rfl, m1.unren hL' hi', VR.unren hL' hv, { T with base := fun k hk hn => ?_ }⟩
    have h1 := hg k hk
    have h2 : lkl l' k = none := by unfold lkl; rw [h1]
    exact ⟨by rw [h1]; simp, okK.gone h2, fun cs hc => absurd hc (hb k cs)⟩)⟩
/-- One array is taken, one is left. -/
theorem AT.lend1 {P : Program} {f : FuncId} {rest : List AVal} {α β : Type} {T U : TypeId} {e : Enc α} {e' : Enc β} {xs : List α} {ys : List β} {d d' : Bool}
    (h : AT P f (.one (.own 0) :: rest) [(0, some (.arr T e xs d))] (.one (.own 1)) [(1, some (.arr U e' ys d'))]) (a c : Nat) (hac : Nat.beq a c = false) (hrest : ∀ r, rest.map (AVal.ren1 r) = rest) :
    AC P f (.one (.own a) :: rest) [(a, some (.arr T e xs d))] (.one (.own c)) [(a, none), (c, some (.arr U e' ys d'))] := by
  have hne : a ≠ c := fun h => by rw [h, Nat.beq_refl] at hac; cases hac
  have hs : (fun k => bif Nat.beq k a then 0 else 1) c = 1 := by
    show (bif Nat.beq c a then 0 else 1) = 1
    have : Nat.beq c a = false := by
      cases e : Nat.beq c a
      · rfl
      · exact absurd (Nat.eq_of_beq_eq_true e).symm hne
    rw [this]; rfl
  have := AT.lend (res' := .one (.own c)) (l := [(a, some (.arr T e xs d))]) (l' := [(a, none), (c, some (.arr U e' ys d'))]) (fun _ => a) (fun k => bif Nat.beq k a then 0 else 1) (L := [(0, some (.arr T e xs d))]) (L' := [(1, some (.arr U e' ys d'))])
    (by show AT P f _ _ (.one (.own _)) _; rw [hs]; exact h) ⟨⟨.arr T e xs d, by simp [lkl, lk], (BLe.rf : BLe (.arr T e xs d) (.arr T e xs d))⟩, trivial⟩ (by simp [injL, keys]) ⟨⟨_, by rw [hs]; rfl, BLe.rf⟩, trivial⟩ (by
      have h2 : Nat.beq c a = false := by
        cases e : Nat.beq c a
        · rfl
        · exact absurd (Nat.eq_of_beq_eq_true e).symm hne
      simp [injL, keys, h2]
      rfl) (fun k hk => by simp [keys] at hk; subst hk; simp [lk]) (fun k cs hc => by
        cases hq : Nat.beq a k <;> simp [lkl, lk, hq] at hc)
  rw [List.map_cons, hrest] at this
  exact this
end Go.Proofs.Ytibhoanjglfaoaa

/- Texts and bytes in the abstract walk: the bytes of a text, appended. -/
namespace Go.Proofs.Ytibhoanjglfaoaa
open Go.RowKit
set_option linter.unusedVariables false

/-- The bytes of a text. -/
def strBytes (s : ByteArray) : List Int := s.data.toList.map fun b => (b.toNat : Int)
theorem strBytes_len (s : ByteArray) : (strBytes s).length = s.size := by rw [strBytes, List.length_map, Array.length_toList]; rfl
theorem u8_fine (b : UInt8) : (Lit.int .u8 (b.toNat : Int)).wf = true := by
  have := b.toNat_lt
  simp only [Lit.wf, Bool.and_eq_true, decide_eq_true_eq]
  have h1 : IntKind.u8.min = 0 := rfl
  have h2 : IntKind.u8.max = 255 := rfl
  rw [h1, h2]; omega
theorem FR.bytes {w : World} : ∀ (l : List UInt8), FR w (l.map fun b => Value.int .u8 b.toNat) ((l.map fun b => (b.toNat : Int)).flatMap fun n => [Cell.c (.int .u8 n)]) []
  | [] => rfl
  | b :: l => ⟨[], [], rfl, ⟨rfl, u8_fine b, rfl⟩, FR.bytes l⟩
theorem run_app_str {P : Program} (w : World) (t u ty e : TypeId) (i : TypeInfo) (ht : P.underlying t = some (.slice e)) (hu : P.underlying u = some .string) (hi : P.info? e = some i) (hz : i.zero = some (.int .u8 0))
    (hsize : i.size = 1) (hby : i.bytes = 1) (v : Value) (n : Nat) (xs : List Value) (hown : w.ownsRow 0 e 1 v n xs) (s : ByteArray) (hle : n + s.size ≤ 1000000000) :
    ∃ v' w', (Builtin.append_ #[t, u] ty #[v, .string s]).run P w = .ok v' w' ∧ w'.ownsRow 0 e 1 v' (n + s.size) (xs ++ Lib.strCells s) ∧ w.grownBy w' v.ownBlock ∧
      ∀ b, v'.ownBlock = some b → v.ownBlock = some b ∨ w.heap.size ≤ b := by
  obtain ⟨v', w', q1, q2, q3, q4⟩ := Lib.run_append_own_string (P := P) w 0 t u ty e i ht hu hi hz hsize hby v n xs hown s (by unfold maxLen; omega) (by omega) (Nat.zero_le _)
  refine ⟨v', w', q1, q2, q3, fun b hb => ?_⟩
  have hxl : xs.length = n := by simpa using hown.1
  rcases hown.2 with ⟨rfl, rfl⟩ | ⟨g, cap, cur, rfl, hbg, hg, hnc, hcm, hcs, htake⟩
  · by_cases hm : s.size = 0
    · rw [q4.2 ⟨rfl, hm⟩] at hb; cases hb
    · have hr := run_append_nil_string (P := P) w t u ty e i (.int .u8 0) ht hu hi hz s (by omega) (by omega) (by rw [hby]; omega)
      rw [hr] at q1
      cases q1
      right
      cases hb
      exact Nat.le_refl _
  · by_cases hroom : n + s.size ≤ cap
    · have hcs' : cur.size = cap := by simpa using hcs
      have hr := Lib.run_append_room_string (P := P) w t u ty e i ht hu hi hsize g n cap cur hg s hroom (by omega)
      rw [hr] at q1
      cases q1
      left
      exact hb
    · have holds : ∀ j u, xs[j]? = some u → w.cell? ((⟨g, 0, none⟩ : Addr).add j) = some u := hown.cells (g := g) rfl
      have hr := Lib.run_append_grow_string (P := P) w t u ty e i (.int .u8 0) ht hu hi hz ⟨g, 0, none⟩ n cap xs (by rw [hsize]; simpa using hxl) holds s (by omega) (by omega) (by rw [hby]; exact growslice_fits (by omega) (by omega))
      rw [hr] at q1
      cases q1
      right
      cases hb
      exact Nat.le_refl _
section ops
variable {P : Program} {N : Nat} {s : St} {d : Nat} {ty : TypeId} {pos : String} {after : Array Edge} {gd : Option (Nat × Bool)}
/-- The type of slices of bytes and that of texts. -/
def byteT (P : Program) (T U E : TypeId) : Bool :=
  match P.underlying T, P.underlying U, P.underlying E, P.info? E with
  | some (.slice E'), some .string, some (.int .u8), some i => Nat.beq E' E && Nat.beq i.size 1 && Nat.beq i.bytes 1 && (match i.zero with | some (.int .u8 z) => (match z with | .ofNat 0 => true | _ => false) | _ => false)
  | _, _, _, _ => false
theorem byteT_spec {T U E : TypeId} (h : byteT P T U E = true) : P.underlying T = some (.slice E) ∧ P.underlying U = some .string ∧ P.underlying E = some (.int .u8) ∧ ∃ i, P.info? E = some i ∧ i.size = 1 ∧ i.bytes = 1 ∧ i.zero = some (.int .u8 0) := by
  unfold byteT at h
  split at h
  · rename_i E' i h1 h2 h3 h4
    simp only [Bool.and_eq_true] at h
    obtain ⟨⟨⟨e1, e2⟩, e3⟩, e4⟩ := h
    obtain rfl := Nat.eq_of_beq_eq_true e1
    refine ⟨h1, h2, h3, i, h4, Nat.eq_of_beq_eq_true e2, Nat.eq_of_beq_eq_true e3, ?_⟩
    split at e4
    · rename_i z hz
      split at e4
      · rw [hz]; rfl
      · cases e4
    · cases e4
  · cases h
theorem run_appop2 {a : Act} {w w' : World} {v' : Value} {x y : Operand} {T U : TypeId} (h : (Builtin.append_ #[T, U] ty #[a.eval x, a.eval y]).run P w = .ok v' w') :
    (execOp a.eval ⟨some d, .call { callee := .builtin .append, args := #[x, y], argTypes := #[T, U] }, ty, pos, after, gd⟩).run P w = .ok (.value v') w' := by
  simp only [execOp, resolve, invoke, builtin, Sem.run_bind, Sem.run_pure, Result.andThen_ok, List.map_toArray, List.map_cons, List.map_nil, h]
/-- append of a text's bytes. -/
theorem x_append_str {T U E : TypeId} {x y : Operand} {xs : List Int} {b : ByteArray} {d1 : Bool} {k : Nat} (k' : Nat) (hN : Nat.blt d N = true)
    (h : evo s.t x = some (.one (.own k))) (h2 : evo s.t y = some (.one (.c (.string b)))) (hl : lkl s.l k = some (.arr E (intE .u8) xs d1))
    (hT : byteT P T U E = true) (hk : lk s.l k' = none) (hi : noId k' s.ids = true) (hbnd : xs.length + b.size ≤ 1000000000) :
    Stp P N ⟨some d, .call { callee := .builtin .append, args := #[x, y], argTypes := #[T, U] }, ty, pos, after, gd⟩ s ⟨(d, .one (.own k')) :: s.t, (k', some (.arr E (intE .u8) (xs ++ strBytes b) d1)) :: (gones [k] ++ s.l)⟩
      ⟨rdo x (.one (.own k)) ++ rdo y (.one (.c (.string b))), [(k, .arr E (intE .u8) xs d1)], [(d, .one (.own k'))], (k', some (.arr E (intE .u8) (xs ++ strBytes b) d1)) :: gones [k], [k']⟩ := by
  refine ⟨fun K g s' a w hp r => ?_, ⟨two_rd h h2, by simp [hl], fun j hj => by simp at hj; subst hj; exact ⟨hk, noId_of hi⟩⟩, by simp [Cert.upd]⟩
  obtain ⟨p1, p2, p3⟩ := hp
  have e1 : CellR g s'.l w (a.eval x) (.own k) := eval_ok r (evs_of h) fun p hp => p1 p (List.mem_append_left _ hp)
  have e2 : a.eval y = .string b := (eval_ok r (evs_of h2) fun p hp => p1 p (List.mem_append_right _ hp) : CellR g s'.l w (a.eval y) (.c (.string b))).1
  have hl' : lkl s'.l k = some (.arr E (intE .u8) xs d1) := p2 (k, .arr E (intE .u8) xs d1) (by simp)
  replace e1 := e1 _ _ _ _ _ hl'
  obtain ⟨n1, n2⟩ := p3 k' (by simp)
  obtain ⟨hu, hus, he, ti, hti, t1, t2, t3⟩ := byteT_spec hT
  obtain ⟨cells, b1, r1, f1, i1, F1, ob1⟩ := (r.mem.arr k _ _ _ _ _ hl').row
  obtain ⟨v', w', q1, q2, q3, q4⟩ := run_app_str (P := P) w T U ty E ti hu hus hti t3 t1 t2 _ _ _ r1 b hbnd
  have hgone : ∀ i ∈ [k], ∃ (α : Type) (T : TypeId) (e : Enc α) (xs : List α) (d : Bool), lkl s'.l i = some (.arr T e xs d) := fun i hi => by
    simp at hi
    subst hi
    exact ⟨Int, E, intE .u8, xs, d1, hl'⟩
  have hb1 : b1 = [] := FR.nofp (e := intE .u8) (fun w cs y b h => h.2.2) f1
  subst hb1
  obtain ⟨g', s1, s2, s3, s4, s5, s6⟩ := app_lay (w' := w') r.mem n1 (fun h => n2 (List.mem_append_right _ h)) (js := [k]) (List.mem_cons_self ..) hgone (E := E) (e := intE .u8) (xs := xs) (ys := strBytes b) (d := d1) f1 (FR.bytes (w := w) b.data.toList)
    (fun b hb => by cases hb) ob1 (by rw [strBytes_len]; exact q2) q3 q4 (fun _ => ⟨List.nodup_nil, fun b hb => by cases hb⟩)
  unfold Oper.wp
  rw [run_appop2 (by rw [e1, e2]; exact q1), Oper.upon_value]
  refine ⟨g', r.next (blt_lt hN) s4 s5 q3.size (fun j hj => s6 j fun e => n2 (e ▸ hj)) (fun β U e2 ys dd hc => ?_) s2, s3 K⟩
  exact s1.symm
/-- New blocks that nobody writes. -/
def Gh.more (g : Gh) (w w' : World) : Gh := { g with I := fun b => g.I b ∨ (w.heap.size ≤ b ∧ b < w'.heap.size) }
theorem MemR.grow {g : Gh} {l : Locs} {w w' : World} (m : MemR g l w) (hk : ∀ b, b < w.heap.size → w'.heap[b]? = w.heap[b]?) (hs : w.heap.size ≤ w'.heap.size) : MemR (g.more w w') l w' where
  ilt := fun b hb => hb.elim (fun h => Nat.lt_of_lt_of_le (m.ilt b h) hs) fun h => h.2
  box := fun k cs hl => by
    obtain ⟨vs, t, h1, h2, h3⟩ := m.box k cs hl
    have hlt : g.ρ k < w.heap.size := (Array.getElem?_eq_some_iff.1 h1).1
    refine ⟨vs, t, (hk _ hlt).trans h1, h2.mono fun a b _ hr => CellR.step (fun b hb => hk b (m.ilt b hb)) (fun _ h => .inl h) hs (fun _ _ => okK.same rfl rfl rfl) hr, fun h => h.elim h3 fun h => ?_⟩
    have h4 : w.heap.size ≤ g.ρ k := h.1
    omega
  arr := fun k α T e xs d hl => by
    rcases m.arr k α T e xs d hl with h | ⟨cap, vs, bss, h1, h2, h3, h4, h5, h6, h7, h8, h9⟩
    · exact .inl h
    · have hlt : g.ρ k < w.heap.size := (Array.getElem?_eq_some_iff.1 h4).1
      refine .inr ⟨cap, vs, bss, h1, h2, h3, (hk _ hlt).trans h4, h5, h6.keep (hk _ hlt) (fun b hb => hk b (m.ilt b (h7 b hb))) hs, fun b hb => .inl (h7 b hb), fun h => h.elim h8 fun h => ?_, h9⟩
      have h10 : w.heap.size ≤ g.ρ k := h.1
      omega
  dis := fun j k b b' h1 h2 h3 h4 h5 => m.dis j k b b' h1 h2 h3 (by cases b <;> exact h4) (by cases b' <;> exact h5)
  fr := fun k α T e xs hl => by
    obtain ⟨h1, h2⟩ := m.fr k α T e xs hl
    refine ⟨h1, fun b hb => ⟨.inl (h2 b hb).1, ?_⟩⟩
    obtain ⟨c, t, h⟩ := (h2 b hb).2
    exact ⟨c, t, (hk b (m.ilt b (h2 b hb).1)).trans h⟩
  fd := m.fd
/-- The bytes of a text, in new memory that nobody writes. -/
theorem x_bytes {T U E : TypeId} {x : Operand} {b : ByteArray} (hN : Nat.blt d N = true) (h : evo s.t x = some (.one (.c (.string b)))) (hT : byteT P T U E = true) :
    Stp P N ⟨some d, .convert U T x, ty, pos, after, gd⟩ s ⟨(d, .one (.sl (intE .u8) (strBytes b))) :: s.t, s.l⟩ ⟨rdo x (.one (.c (.string b))), [], [(d, .one (.sl (intE .u8) (strBytes b)))], [], []⟩ := by
  refine ⟨fun K g s' a w hp r => ?_, ⟨rdo_of h, by simp, fun j hj => by cases hj⟩, rfl⟩
  obtain ⟨p1, p2, p3⟩ := hp
  obtain ⟨e2, hwf⟩ : CellR g s'.l w (a.eval x) (.c (.string b)) := eval_ok r (evs_of h) p1
  have hsz : b.size ≤ maxLen := hwf
  obtain ⟨hu, hus, he, ti, hti, t1, t2, t3⟩ := byteT_spec hT
  have hrun := Lib.run_convert_string_bytes (P := P) w U T E b hus hu he
  have hold := Lib.bytesWorld_at_old w E b
  have hnew := Lib.bytesWorld_at_new w E b
  have hsize := Lib.bytesWorld_size w E b
  have hcap := grownCap_ge w b.size 0 E
  have hcm : grownCap w b.size 0 E ≤ maxLen := grownCap_le_maxLen w b.size 0 E hsz
  have hcell := Lib.bytesWorld_cell w E b
  have hos : (Lib.bytesWorld w E b).os = w.os ∧ (Lib.bytesWorld w E b).tape = w.tape ∧ (Lib.bytesWorld w E b).output = w.output := by
    refine ⟨?_, ?_, ?_⟩ <;> simp [Lib.bytesWorld, World.freeze, World.alloc, World.drew, -World.alloc_eq, -World.drew_eq]
  generalize Lib.bytesWorld w E b = w' at *
  clear hnew
  generalize grownCap w b.size 0 E = cp at *
  have hs : w.heap.size ≤ w'.heap.size := by omega
  have m' := r.mem.grow hold hs
  unfold Oper.wp
  have hrun' : (execOp a.eval ⟨some d, .convert U T x, ty, pos, after, gd⟩).run P w = .ok (.value (.slice (some ⟨w.heap.size, 0, none⟩) b.size cp)) w' := by
    simp only [execOp, e2, Sem.run_bind, hrun, Result.andThen_ok]; rfl
  rw [hrun', Oper.upon_value]
  have hI : ∀ c, g.I c → w'.heap[c]? = w.heap[c]? := fun c hc => hold c (r.mem.ilt c hc)
  refine ⟨g.more w w', r.next (blt_lt hN) hI (fun _ h => .inl h) hs (fun _ _ => okK.same rfl rfl rfl) ?_ m', ⟨hos.1, hos.2.1, hos.2.2, hs, fun c hc _ => hold c hc, fun _ h => .inl h, fun c hc => hc.elim .inl fun h => .inr (.inl h.1), fun c hc => ?_, fun k _ hk => ⟨hk, okK.same rfl rfl rfl, fun cs h => ⟨cs, h⟩⟩⟩⟩
  · show CellR (g.more w w') s'.l w' _ (.sl (intE .u8) (strBytes b))
    by_cases hb : strBytes b = []
    · have h0 : b.size = 0 := by rw [← strBytes_len, hb]; rfl
      rw [hb, h0]
      exact ⟨_, _, _, [], rfl, ⟨rfl, Nat.zero_le _, by omega, (fun h => by cases h), .inl ⟨rfl, rfl⟩⟩, fun _ hc => by cases hc⟩
    · refine ⟨_, _, _, w.heap.size :: (List.replicate b.size []).flatten, rfl, SliceRep.mk (by rw [strBytes_len]) hcap hcm hb (by omega) ⟨by simp [strBytes_len], fun i x c hx hc => ?_⟩, fun c hc => ?_⟩
      · obtain ⟨hi, rfl⟩ := List.getElem?_eq_some_iff.1 hx
        rw [List.getElem?_replicate] at hc
        split at hc
        · cases hc
          refine ⟨[.int .u8 (strBytes b)[i]], ⟨rfl, ?_, rfl⟩, fun j u hu => ?_⟩
          · simp only [strBytes, List.getElem_map]; exact u8_fine _
          · cases j with
            | zero =>
              cases hu
              have hi' : i < b.size := by rw [← strBytes_len]; exact hi
              have := hcell i hi'
              have e3 : 0 + i * (intE .u8).size + 0 = i := by show 0 + i * 1 + 0 = i; omega
              rw [e3, this]
              simp [strBytes, List.getD, hi']
            | succ j => cases hu
        · cases hc
      · right
        rcases List.mem_cons.1 hc with rfl | hc
        · exact ⟨Nat.le_refl _, by omega⟩
        · simp at hc
  · obtain ⟨k, blk, hk, h2⟩ := hc
    exact .inl ⟨k, blk, hk, by cases blk <;> exact h2⟩
end ops
end Go.Proofs.Ytibhoanjglfaoaa

/- Parts of slices and of texts; texts made of bytes; own arrays that are given up to be read alone. -/
namespace Go.Proofs.Ytibhoanjglfaoaa
open Go.RowKit
set_option linter.unusedVariables false

theorem run_sliceOf {P : Program} {T E n : Nat} (hT : sliceT P T = some (E, n)) (w : World) (a : Option Addr) (len cap : Nat) {lo hi : Option Value} {l h : Nat} (hlo : (lo = none ∧ l = 0) ∨ ∃ k, lo = some (.int k (l : Int))) (hhi : (hi = none ∧ h = len) ∨ ∃ k, hi = some (.int k (h : Int)))
    (h1 : l ≤ h) (h2 : h ≤ cap) : (Instr.sliceAt T (.slice a len cap) lo hi none).run P w = .ok (.slice (if cap = l then a else a.map (·.add (l * n))) (h - l) (cap - l)) w := by
  obtain ⟨hu, ii, hii, rfl⟩ := sliceT_spec hT
  have e1 : (0 : Int) ≤ (l : Int) ∧ (l : Int) ≤ (h : Int) := by omega
  have e2 : (0 : Int) ≤ (h : Int) ∧ (h : Int) ≤ (cap : Int) := by omega
  rcases hlo with ⟨rfl, rfl⟩ | ⟨k, rfl⟩ <;> rcases hhi with ⟨rfl, rfl⟩ | ⟨k', rfl⟩ <;>
    simp [Instr.sliceAt, Instr.slice, run_underlying hu, Instr.sliceBounds, run_sliceBound, sizeOf, typeInfo, *]
theorem part_drop {α : Type} {xs : List α} {l : Nat} : (xs.drop l).take (xs.length - l) = xs.drop l := List.take_of_length_le (by simp)
/-- A bound of a part: an operand, or the usual one. -/
inductive OB (t : Tmps) (dv : Nat) : Option Operand → List (Nat × AVal) → Nat → Prop
  | no : OB t dv none [] dv
  | yes {o : Operand} {k : IntKind} {v : Int} {l : Nat} (h : evo t o = some (.one (.c (.int k v)))) (hv : v = (l : Int)) : OB t dv (some o) (rdo o (.one (.c (.int k v)))) l
theorem OB.rd {t : Tmps} {dv : Nat} {o : Option Operand} {rd : List (Nat × AVal)} {l : Nat} (h : OB t dv o rd l) : ∀ p ∈ rd, lk t p.1 = some p.2 := by
  cases h with
  | no => intro p hp; cases hp
  | yes h hv => exact rdo_of h
theorem OB.ev {N : Nat} {t : Tmps} {dv : Nat} {o : Option Operand} {rd : List (Nat × AVal)} {l : Nat} (h : OB t dv o rd l) {g : Gh} {s : St} {a : Act} {w : World} (r : Rep N g s a w) (hr : ∀ p ∈ rd, lk s.t p.1 = some p.2) :
    (o.map a.eval = none ∧ l = dv) ∨ ∃ k, o.map a.eval = some (.int k (l : Int)) := by
  cases h with
  | no => exact .inl ⟨rfl, rfl⟩
  | yes h hv =>
    have e4 := (eval_ok r (evs_of h) hr : CellR g s.l w _ (.c _)).1
    subst hv
    exact .inr ⟨_, congrArg some e4⟩
section ops
variable {P : Program} {N : Nat} {s : St} {d : Nat} {ty : TypeId} {pos : String} {after : Array Edge} {gd : Option (Nat × Bool)}
theorem x_slice {α : Type} {e : Enc α} {xs ys : List α} {T E n l h : Nat} {x : Operand} {lo hi : Option Operand} {rl rh : List (Nat × AVal)} (hN : Nat.blt d N = true) (hx : evo s.t x = some (.one (.sl e xs))) (hT : sliceT P T = some (E, n)) (hz : e.size = n) (ho : OB s.t 0 lo rl l) (hh : OB s.t xs.length hi rh h)
    (h1 : l ≤ h) (h2 : h ≤ xs.length) (hy : (xs.drop l).take (h - l) = ys) :
    Stp P N ⟨some d, .slice T x lo hi none, ty, pos, after, gd⟩ s ⟨(d, .one (.sl e ys)) :: s.t, s.l⟩ ⟨rdo x (.one (.sl e xs)) ++ (rl ++ rh), [], [(d, .one (.sl e ys))], [], []⟩ :=
  Stp.pure rfl hN (fun p hp => by rcases List.mem_append.1 hp with hp | hp; exact rdo_of hx p hp; rcases List.mem_append.1 hp with hp | hp; exact ho.rd p hp; exact hh.rd p hp) (by simp) fun g s' a w ht hl' r => by
    obtain ⟨ad, m, cap, bs, e1, e2, e3⟩ : CellR g s'.l w (a.eval x) (.sl e xs) := eval_ok r (evs_of hx) fun p hp => ht p (List.mem_append_left _ hp)
    have q1 := ho.ev r fun p hp => ht p (List.mem_append_right _ (List.mem_append_left _ hp))
    have q2 := hh.ev r fun p hp => ht p (List.mem_append_right _ (List.mem_append_right _ hp))
    have q2' : (hi.map a.eval = none ∧ h = m) ∨ ∃ k, hi.map a.eval = some (.int k (h : Int)) := by rw [e2.1]; exact q2
    have hrun := run_sliceOf hT w ad m cap q1 q2' h1 (by have := e2.1; have := e2.2.1; omega)
    obtain ⟨bs', p1, p2⟩ := e2.part h1 h2
    subst hz; subst hy
    exact ⟨_, by simp only [execOp, e1, Sem.run_bind, Option.map_none, hrun, Result.andThen_ok, Sem.run_pure], _, _, _, bs', rfl, p1, fun b hb => e3 b (p2 b hb)⟩
/-- The text of bytes. -/
def bytesStr (xs : List Int) : ByteArray := ⟨(xs.map fun n => UInt8.ofNat n.toNat).toArray⟩
theorem bytesStr_size (xs : List Int) : (bytesStr xs).size = xs.length := by
  show ((xs.map fun n => UInt8.ofNat n.toNat).toArray).size = xs.length
  simp
theorem u8_back {n : Int} (h : (Lit.int .u8 n).wf = true) : ((UInt8.ofNat n.toNat).toNat : Int) = n := by
  simp only [Lit.wf, Bool.and_eq_true, decide_eq_true_eq] at h
  have h1 : IntKind.u8.min = 0 := rfl
  have h2 : IntKind.u8.max = 255 := rfl
  rw [h1, h2] at h
  have : (UInt8.ofNat n.toNat).toNat = n.toNat % 256 := by simp
  rw [this]; omega
theorem run_tostr {P : Program} {T U E : TypeId} (hT : byteT P T U E = true) {w : World} {a : Option Addr} {n cap : Nat} {xs : List Int} {bs : List Nat} (h : SliceRep (intE .u8) w a n cap xs bs) : (convert T U (.slice a n cap)).run P w = .ok (.string (bytesStr xs)) w := by
  obtain ⟨hu, hus, he, _⟩ := byteT_spec hT
  obtain ⟨rfl, g1, g2, g3, g4⟩ := h
  have back : ∀ a, (∀ j (hj : j < xs.length), (Lit.int .u8 xs[j]).wf = true ∧ w.cell? (a.add j) = some (.int .u8 xs[j])) → (convert T U (.slice (some a) xs.length cap)).run P w = .ok (.string (bytesStr xs)) w := fun a hc => by
    have := run_convert_bytes_back (P := P) w T U E a cap (xs.map fun n => UInt8.ofNat n.toNat) hu he hus (fun j hj => by
      have hj' : j < xs.length := by simpa using hj
      rw [(hc j hj').2]
      simp only [List.getElem_map, u8_back (hc j hj').1])
    rw [List.length_map] at this
    exact this
  rcases g4 with ⟨rfl, _⟩ | ⟨g, off, bss, hne, rfl, hg, rfl, hE⟩
  · cases a with
    | none => exact Lib.run_convert_nil_bytes w T U E cap hu he hus
    | some a => exact back a fun j hj => by simp at hj
  · refine back _ fun j hj => ?_
    obtain ⟨cs, ⟨rfl, q1, _⟩, q2⟩ := hE.2 j xs[j] (bss[j]'(by rw [hE.1]; exact hj)) (List.getElem?_eq_getElem hj) (List.getElem?_eq_getElem _)
    have := q2 0 _ rfl
    rw [addr_add]
    refine ⟨q1, ?_⟩
    have e3 : off + j * (intE .u8).size + 0 = off + j := by show off + j * 1 + 0 = off + j; omega
    rwa [e3] at this
theorem x_tostr {T U E : TypeId} {x : Operand} {xs : List Int} (hN : Nat.blt d N = true) (h : evo s.t x = some (.one (.sl (intE .u8) xs))) (hT : byteT P T U E = true) :
    Stp P N ⟨some d, .convert T U x, ty, pos, after, gd⟩ s ⟨(d, .one (.c (.string (bytesStr xs)))) :: s.t, s.l⟩ ⟨rdo x (.one (.sl (intE .u8) xs)), [], [(d, .one (.c (.string (bytesStr xs))))], [], []⟩ :=
  Stp.pure rfl hN (rdo_of h) (by simp) fun g s' a w ht hl' r => by
    obtain ⟨ad, m, cap, bs, e1, e2, e3⟩ : CellR g s'.l w (a.eval x) (.sl (intE .u8) xs) := eval_ok r (evs_of h) ht
    exact ⟨_, by simp only [execOp, e1, Sem.run_bind, run_tostr hT e2, Result.andThen_ok, Sem.run_pure], rfl, by show (bytesStr xs).size ≤ maxLen; rw [bytesStr_size, ← e2.1]; have := e2.2.1; have := e2.2.2.1; omega⟩
theorem x_otostr {T U E : TypeId} {x : Operand} {xs : List Int} {dp : Bool} {K : Nat} (hN : Nat.blt d N = true) (h : evo s.t x = some (.one (.own K))) (hl : lkl s.l K = some (.arr E (intE .u8) xs dp)) (hT : byteT P T U E = true) :
    Stp P N ⟨some d, .convert T U x, ty, pos, after, gd⟩ s ⟨(d, .one (.c (.string (bytesStr xs)))) :: s.t, s.l⟩ ⟨rdo x (.one (.own K)), [(K, .arr E (intE .u8) xs dp)], [(d, .one (.c (.string (bytesStr xs))))], [], []⟩ :=
  Stp.pure rfl hN (rdo_of h) (by simpa using hl) fun g s' a w ht hl' r => by
    have hK : lkl s'.l K = some (.arr E (intE .u8) xs dp) := hl' (K, .arr E (intE .u8) xs dp) (by simp)
    have e1 : a.eval x = g.hd K := (eval_ok r (evs_of h) ht : CellR g s'.l w _ (.own K)) _ _ _ _ _ hK
    obtain ⟨ad, m, cap, bs, f1, e2, _⟩ := (r.mem.arr K _ _ _ _ _ hK).slice
    exact ⟨_, by simp only [execOp, e1, f1, Sem.run_bind, run_tostr hT e2, Result.andThen_ok, Sem.run_pure], rfl, by show (bytesStr xs).size ≤ maxLen; rw [bytesStr_size, ← e2.1]; have := e2.2.1; have := e2.2.2.1; omega⟩
end ops
/-! ### An own array is given up: nobody writes it any more -/
theorem box_re2 {g : Gh} {l : Locs} {w : World} (m : MemR g l w) {b : Nat} {cs cs' : List Cell} (hb : lkl l b = some (.box cs)) (h : ∀ (vs : Array Value) (t : TypeId), w.heap[g.ρ b]? = some (.cells vs t (0, 0)) → All2 (CellR g l w) vs.toList cs → All2 (CellR g l w) vs.toList cs') :
    MemR g ((b, some (.box cs')) :: l) w ∧ (∀ K, Step K g l w g ((b, some (.box cs')) :: l) w) ∧ ∀ j, okK g l g ((b, some (.box cs')) :: l) j := by
  obtain ⟨vs, t, h1, h2, h3⟩ := m.box b cs hb
  have h4 := box_set m hb (vs := vs.toList) (vs' := vs.toList) (T := t) (by simpa using h1) (h _ _ h1 h2)
  have e : w.setRow (g.ρ b) vs.toList.toArray = w := by
    simp only [Array.toArray_toList]
    have hh : (w.setRow (g.ρ b) vs).heap = w.heap := Array.ext_getElem? fun i => by
      by_cases hi : i = g.ρ b
      · subst hi; rw [setRow_heap w _ _ _ t _ h1, h1]
      · exact setRow_other w _ i _ hi
    have h5 : w.setRow (g.ρ b) vs = { w with heap := (w.setRow (g.ρ b) vs).heap } := rfl
    rw [h5, hh]
  rw [e] at h4
  exact ⟨h4.1, h4.2.1, h4.2.2.2⟩
def Gh.shut (g : Gh) (k : Nat) : Gh := { g with I := fun b => g.I b ∨ (g.hd k ≠ .slice none 0 0 ∧ b = g.ρ k) }
section shut
variable {g : Gh} {l : Locs} {w : World}
theorem shut_mem (m : MemR g l w) {k : Nat} {α : Type} {T : TypeId} {e : Enc α} {xs : List α} {dp : Bool} (hk : lkl l k = some (.arr T e xs dp)) :
    MemR (g.shut k) ((k, none) :: l) w ∧ (∀ K, Step K g l w (g.shut k) ((k, none) :: l) w) ∧ CellR (g.shut k) ((k, none) :: l) w (g.hd k) (.sl e xs) ∧ ∀ j, okK g l (g.shut k) ((k, none) :: l) j := by
  have live : g.hd k ≠ .slice none 0 0 → liv g k (.arr T e xs dp) := fun h => h
  have hlt : ∀ b, (g.shut k).I b → b < w.heap.size := fun b hb => hb.elim (m.ilt b) fun h => by rw [h.2]; exact m.lt hk (live h.1)
  have hu : ∀ j, j ≠ k → lkl ((k, none) :: l) j = none ∨ Untouched g l w (g.shut k) ((k, none) :: l) w j := fun j hj =>
    .inr ⟨lkl_cons_ne (Ne.symm hj), rfl, rfl, rfl, fun b hb hl => ⟨rfl, fun h => h.elim (m.notI hb hl) fun h => m.dis j k b _ hj hb hk hl (live h.1) h.2⟩⟩
  have ok : ∀ j, okK g l (g.shut k) ((k, none) :: l) j := fun j => by
    by_cases e : j = k
    · subst e; exact okK.gone lkl_cons_self
    · exact okK.same (lkl_cons_ne (Ne.symm e)) rfl rfl
  have no : ∀ {b : Blk}, lkl ((k, none) :: l) k = some b → False := fun h => by rw [lkl_cons_self] at h; cases h
  refine ⟨m.set1 k (fun _ _ => rfl) (fun _ h => .inl h) (Nat.le_refl _) hlt hu (.inl (ok k)) (fun cs h => (no h).elim) (fun α T e xs d h => (no h).elim) (fun j b b' _ _ _ h => (no h).elim) (fun α T e xs h => (no h).elim) (fun j α β T U e f xs ys _ _ _ h => (no h).elim), fun K => ?_, ?_, ok⟩
  · refine ⟨rfl, rfl, rfl, Nat.le_refl _, fun _ _ _ => rfl, fun _ h => .inl h, fun b h => h.elim .inl fun h => .inr (.inr ⟨k, _, hk, .inl ⟨live h.1, h.2⟩⟩), own_set1 k hu (fun b h => (no h).elim) (fun α T e xs h => (no h).elim), fun j hj hn => ?_⟩
    refine ⟨?_, ok j, fun cs hc => ?_⟩
    · by_cases e : k = j
      · subst e; rw [lk_cons_self]; simp
      · rw [lk_cons_ne e]; exact hn
    · by_cases e : k = j
      · subst e; rw [hk] at hc; cases hc
      · exact ⟨cs, by rw [lkl_cons_ne e]; exact hc⟩
  · obtain ⟨a, n, cap, bs, h1, h2, h3, _⟩ := (m.arr k _ _ _ _ _ hk).slice
    exact ⟨a, n, cap, bs, h1, h2, fun b hb => h3 b hb⟩
variable {P : Program} {N : Nat} {K : List Nat} {Kn : St → Prop} {Q : Exit → St → Prop} {s : St}
/-- .. where it lies in a variable. -/
theorem AW_shutB {α : Type} {T : TypeId} {e : Enc α} {xs : List α} {dp : Bool} {c : Code} (k b off : Nat) {cs cs' : List Cell} (hb : lkl s.l b = some (.box cs)) (hc : nthC cs off = some (.own k)) (hcs : cs.set off (.sl e xs) = cs') (hk : lkl s.l k = some (.arr T e xs dp))
    (h : AW P N K c Kn Q ⟨s.t, (b, some (.box cs')) :: (k, none) :: s.l⟩) : AW P N K c Kn Q s := fun g a w r => by
  obtain ⟨m1, st1, c1, ok1⟩ := shut_mem r.mem hk
  have hkb : k ≠ b := fun e => by subst e; rw [hb] at hk; cases hk
  have hb' : lkl ((k, none) :: s.l) b = some (.box cs) := by rw [lkl_cons_ne hkb]; exact hb
  obtain ⟨m2, st2, ok2⟩ := box_re2 m1 hb' (cs' := cs') (fun vs ty hh hv => by
    obtain ⟨vs0, t0, z1, z2, z3⟩ := r.mem.box b cs hb
    have e0 : vs0 = vs := by
      have hh' : w.heap[g.ρ b]? = some (.cells vs ty (0, 0)) := hh
      rw [z1] at hh'; cases hh'; rfl
    subst e0
    obtain ⟨v, h1, h2⟩ := z2.get (nthC_get hc)
    have hvk : v = g.hd k := h2 _ _ _ _ _ hk
    have h3 := hv.set (i := off) (v := v) (x := .sl e xs) (hvk ▸ c1)
    rw [hcs] at h3
    have h4 : vs0.toList.set off v = vs0.toList := by
      obtain ⟨hl, rfl⟩ := List.getElem?_eq_some_iff.1 h1
      exact List.set_getElem_self hl
    rwa [h4] at h3)
  have r2 := r.next0 (g' := g.shut k) (l' := (b, some (.box cs')) :: (k, none) :: s.l) (w' := w) (fun _ _ => rfl) (fun _ h => .inl h) (Nat.le_refl _) (fun j hj => (ok1 j).trans (ok2 j)) m2
  exact Go.wp_mono (h _ a w r2) fun e a1 w1 h1 => h1.trans r.mem m2 ((st1 K).trans r.mem m1 (st2 K))
end shut
end Go.Proofs.Ytibhoanjglfaoaa

/- Operations whose new array is at once given up to be read alone. -/
namespace Go.Proofs.Ytibhoanjglfaoaa
open Go.RowKit
set_option linter.unusedVariables false

section
variable {g g' : Gh} {l l' : Locs} {w w' : World}
theorem okK.congr {l2 : Locs} (h : ∀ j, lkl l' j = lkl l2 j) {k : Nat} (hk : okK g l g' l' k) : okK g l g' l2 k :=
  ⟨fun cs hc => hk.1 cs (by rw [h]; exact hc), fun α T e xs d hc => hk.2 α T e xs d (by rw [h]; exact hc)⟩
theorem okK.back {l2 : Locs} (h : ∀ j, lkl l j = lkl l2 j) {k : Nat} : okK g l g l2 k := okK.same (h k).symm rfl rfl
theorem MemR.congr (h : ∀ j, lkl l j = lkl l' j) (m : MemR g l w) : MemR g l' w := by
  refine ⟨m.ilt, fun k cs hc => ?_, fun k α T e xs d hc => m.arr k _ _ _ _ _ (by rw [h]; exact hc), fun j k b b' hjk h1 h2 => m.dis j k _ _ hjk (by rw [h]; exact h1) (by rw [h]; exact h2), fun k α T e xs hc => m.fr k _ _ _ _ (by rw [h]; exact hc), fun j k α β T U e f xs ys hjk h1 h2 => m.fd j k _ _ _ _ _ _ _ _ hjk (by rw [h]; exact h1) (by rw [h]; exact h2)⟩
  obtain ⟨vs, t, h1, h2, h3⟩ := m.box k cs (by rw [h]; exact hc)
  exact ⟨vs, t, h1, h2.mono fun a c _ hr => CellR.step (fun _ _ => rfl) (fun _ h => h) (Nat.le_refl _) (fun i _ => okK.back h) hr, h3⟩
theorem VR.congr (h : ∀ j, lkl l j = lkl l' j) {v : Value} {x : AVal} (hv : VR g l w v x) : VR g l' w v x := hv.step (fun _ _ => rfl) (fun _ h => h) (Nat.le_refl _) (fun i _ => okK.back h)
theorem OwnB.congr (h : ∀ j, lkl l j = lkl l' j) {b : Nat} (hb : OwnB g l b) : OwnB g l' b := by
  obtain ⟨k, blk, h1, h2⟩ := hb
  exact ⟨k, blk, by rw [← h]; exact h1, h2⟩
end
section ops
variable {P : Program} {N : Nat} {s : St} {d : Nat} {ty : TypeId} {pos : String} {after : Array Edge} {gd : Option (Nat × Bool)}
end ops
end Go.Proofs.Ytibhoanjglfaoaa

/- Loads from the elements of an own array, in the abstract walk. -/
namespace Go.Proofs.Ytibhoanjglfaoaa
open Go.RowKit
set_option linter.unusedVariables false
section
variable {P : Program} {N d : Nat} {s : St} {ty : TypeId} {pos : String} {after : Array Edge} {gd : Option (Nat × Bool)}
theorem op_cells {α : Type} {e : Enc α} {f : α → List Cell} [hc : CellsOf e f] {g : Gh} {l : Locs} {w : World} (m : MemR g l w) {k i : Nat} {T : TypeId} {xs : List α} {dp : Bool} (hk : lkl l k = some (.arr T e xs dp)) (hi : i < xs.length) :
    ∃ cs : List Value, All2 (CellR g l w) cs (f xs[i]) ∧ ∀ j u, cs[j]? = some u → w.cell? ⟨g.ρ k, i * e.size + j, none⟩ = some u := by
  rcases m.arr k α T e xs dp hk with ⟨h1, _, _⟩ | ⟨cap, vs, bss, h1, h2, h3, h4, h5, h6, h7, h8, h9⟩
  · subst h1; simp at hi
  · have hi' : i < bss.length := by rw [h6.1]; exact hi
    obtain ⟨cs, q1, q2⟩ := h6.2 i xs[i] bss[i] (List.getElem?_eq_getElem hi) (List.getElem?_eq_getElem hi')
    exact ⟨cs, (hc.iff.1 q1).all2 (fun b hb => h7 b (List.mem_flatten.2 ⟨_, List.getElem_mem hi', hb⟩)), fun j u hu => by have := q2 j u hu; rwa [Nat.zero_add] at this⟩
theorem x_oload1 {α : Type} {e : Enc α} {f : α → List Cell} [hc : CellsOf e f] {T E k i off : Nat} {x : Operand} {xs : List α} {dp : Bool} {y : Cell} (hN : Nat.blt d N = true) (h : evo s.t x = some (.one (.optr k i off))) (hl : lkl s.l k = some (.arr E e xs dp)) (hT : kindT P T = some none) (hi : i < xs.length) (hy : nthC (f xs[i]) off = some y) :
    Stp P N ⟨some d, .load T x, ty, pos, after, gd⟩ s ⟨(d, .one y) :: s.t, s.l⟩ ⟨rdo x (.one (.optr k i off)), [(k, .arr E e xs dp)], [(d, .one y)], [], []⟩ :=
  Stp.pure rfl hN (rdo_of h) (by simpa using hl) fun g s' a w ht hl' r => by
    have hk : lkl s'.l k = some (.arr E e xs dp) := hl' (k, .arr E e xs dp) (by simp)
    have hv : a.eval x = .pointer (some ⟨g.ρ k, i * e.size + off, none⟩) := eval_ok r (evs_of h) ht _ _ _ _ _ hk
    obtain ⟨cs, h2, h3⟩ := op_cells r.mem hk hi
    obtain ⟨v, h4, h5⟩ := h2.get (nthC_get hy)
    exact ⟨v, by simp only [execOp, Instr.loadAt, hv, Instr.sureAddr, Sem.run_bind, Sem.run_pure, Result.andThen_ok, run_load_one hT (h3 off v h4)], h5⟩
theorem x_oloadN {α : Type} {e : Enc α} {f : α → List Cell} [hc : CellsOf e f] {T E k i off n : Nat} {x : Operand} {xs : List α} {dp : Bool} {cs1 ys : List Cell} (hN : Nat.blt d N = true) (h : evo s.t x = some (.one (.optr k i off))) (hl : lkl s.l k = some (.arr E e xs dp)) (hT : kindT P T = some (some n)) (hi : i < xs.length) (hd : drC off (f xs[i]) = some cs1) (hy : tkC n cs1 = some ys) :
    Stp P N ⟨some d, .load T x, ty, pos, after, gd⟩ s ⟨(d, .agg ys) :: s.t, s.l⟩ ⟨rdo x (.one (.optr k i off)), [(k, .arr E e xs dp)], [(d, .agg ys)], [], []⟩ :=
  Stp.pure rfl hN (rdo_of h) (by simpa using hl) fun g s' a w ht hl' r => by
    have hk : lkl s'.l k = some (.arr E e xs dp) := hl' (k, .arr E e xs dp) (by simp)
    have hv : a.eval x = .pointer (some ⟨g.ρ k, i * e.size + off, none⟩) := eval_ok r (evs_of h) ht _ _ _ _ _ hk
    obtain ⟨cs, h2, h3⟩ := op_cells r.mem hk hi
    have h4 := (h2.drop off).take n
    rw [← drC_eq hd, ← (tkC_eq hy).1] at h4
    have hrun := run_load_agg hT (w := w) (a := ⟨g.ρ k, i * e.size + off, none⟩) (vs := (cs.drop off).take n) (by rw [h4.len]; exact (tkC_eq hy).2) (fun j v hj => by
      rw [List.getElem?_take] at hj
      split at hj
      · rw [addr_add, Nat.add_assoc]; exact h3 _ v (by simpa using hj)
      · cases hj)
    exact ⟨_, by simp only [execOp, Instr.loadAt, hv, Instr.sureAddr, Sem.run_bind, Sem.run_pure, Result.andThen_ok, hrun], ⟨_, rfl, h4⟩⟩
end
end Go.Proofs.Ytibhoanjglfaoaa

/- From a contract of the abstract walk back to a call in a world. -/
namespace Go.Proofs.Ytibhoanjglfaoaa
open Go.RowKit
set_option linter.unusedVariables false

/-- All memory that stands is read alone. -/
def allI (w : World) : Gh := ⟨fun b => b < w.heap.size, id, fun _ => .slice none 0 0, fun _ => []⟩
theorem allI_mem (w : World) : MemR (allI w) [] w :=
  ⟨fun b hb => hb, fun k cs hk => (by simp [lkl, lk] at hk), fun k α T e xs d hk => (by simp [lkl, lk] at hk), fun j k b b' _ hj => (by simp [lkl, lk] at hj), fun k α T e xs hk => (by simp [lkl, lk] at hk), fun j k α β T U e f xs ys _ hj => (by simp [lkl, lk] at hj)⟩
theorem Step.below {g g' : Gh} {w w' : World} (h : Step (keys ([] : Locs)) g [] w g' [] w') : Below w.heap.size w w' :=
  ⟨h.os, h.tape, h.output, h.size, fun b hb => h.keep b hb fun k blk hk => (by simp [lkl, lk] at hk)⟩
theorem AC.calls {P : Program} {f : FuncId} {args : List AVal} {v : Value} (h : AC P f args [] (.one (.c v)) []) (w : World) (cargs : Array Value) (ha : All2 (VR1 (allI w) [] w) cargs.toList args) :
    Calls P f cargs w fun e w' => e = .returned v ∧ Below w.heap.size w w' :=
  (h.run (allI w) w cargs (allI_mem w) ha).mono fun e w' ⟨u, g', he, _, hv, hs⟩ => ⟨by rw [he, show u = v from hv.1], hs.below⟩
theorem arg_sl {α : Type} {e : Enc α} {w : World} {a : Option Addr} {n cap : Nat} {xs : List α} {b : List Nat} (h : SliceRep e w a n cap xs b) (hb : ∀ i ∈ b, i < w.heap.size) : VR1 (allI w) [] w (.slice a n cap) (.one (.sl e xs)) := ⟨a, n, cap, b, rfl, h, hb⟩
end Go.Proofs.Ytibhoanjglfaoaa

/- From contracts that leave own memory to calls in a world: what is handed back is fresh. -/
namespace Go.Proofs.Ytibhoanjglfaoaa
open Go.RowKit
set_option linter.unusedVariables false

end Go.Proofs.Ytibhoanjglfaoaa

/- The abstract walk: make. -/
namespace Go.Proofs.Ytibhoanjglfaoaa
open Go.RowKit
set_option linter.unusedVariables false

section ops
variable {P : Program} {N : Nat} {s : St} {d : Nat} {ty : TypeId} {pos : String} {after : Array Edge} {gd : Option (Nat × Bool)}
end ops
end Go.Proofs.Ytibhoanjglfaoaa

/- The abstract walk: an element of an own array written anew. -/
namespace Go.Proofs.Ytibhoanjglfaoaa
open Go.RowKit
set_option linter.unusedVariables false
section
variable {g : Gh} {l : Locs} {w w' : World}
/-- The array k holds other elements; the arrays js are gone into it. -/
theorem arr_put (m : MemR g l w) {k : Nat} {α : Type} {T : TypeId} {e : Enc α} {xs0 xs : List α} {d0 d : Bool} (hk : lkl l k = some (.arr T e xs0 d0)) (hlv : g.hd k ≠ .slice none 0 0) {js : List Nat} (hkj : k ∉ js)
    (hjs : ∀ j ∈ js, ∃ (α : Type) (T : TypeId) (e : Enc α) (xs : List α) (d : Bool), lkl l j = some (.arr T e xs d)) {fp : List Nat}
    (hos : w'.os = w.os) (htp : w'.tape = w.tape) (hout : w'.output = w.output) (hs : w'.heap.size = w.heap.size) (hkeep : ∀ b, b ≠ g.ρ k → w'.heap[b]? = w.heap[b]?)
    (hA : ArrR ⟨fun b => g.I b ∨ liveA g js b, g.ρ, g.hd, setAt g.F k fp⟩ w' k T e xs d)
    (hfp : d = true → fp.Nodup ∧ ∀ b ∈ fp, (g.I b ∨ liveA g js b) ∧ (∃ c t, w'.heap[b]? = some (.cells c t (0, 0))) ∧ ((d0 = true ∧ b ∈ g.F k) ∨ ∃ j ∈ js, Via g l j b)) :
    ∃ g', g'.ρ k = g.ρ k ∧ g'.hd k = g.hd k ∧ MemR g' ((k, some (.arr T e xs d)) :: (gones js ++ l)) w' ∧ (∀ K, Step K g l w g' ((k, some (.arr T e xs d)) :: (gones js ++ l)) w') ∧
      (∀ b, g.I b → w'.heap[b]? = w.heap[b]?) ∧ (∀ b, g.I b → g'.I b) ∧ ∀ j, okK g l g' ((k, some (.arr T e xs d)) :: (gones js ++ l)) j := by
  let g' : Gh := ⟨fun b => g.I b ∨ liveA g js b, g.ρ, g.hd, setAt g.F k fp⟩
  have hnI := m.notI hk hlv
  have hi : ∀ b, g.I b → w'.heap[b]? = w.heap[b]? := fun b hb => hkeep b fun e => hnI (e ▸ hb)
  have hl' : ∀ j, j ≠ k → lkl ((k, some (.arr T e xs d)) :: (gones js ++ l)) j = if j ∈ js then none else lkl l j := fun j hj => by
    rw [lkl_cons_ne (Ne.symm hj), lkl_gones]
  have hu : ∀ j, j ≠ k → lkl ((k, some (.arr T e xs d)) :: (gones js ++ l)) j = none ∨ Untouched g l w g' ((k, some (.arr T e xs d)) :: (gones js ++ l)) w' j := fun j hj => by
    by_cases h : j ∈ js
    · left; rw [hl' j hj, if_pos h]
    · right
      refine ⟨by rw [hl' j hj, if_neg h], rfl, rfl, setAt_ne hj, fun b hb hlv' => ⟨hkeep _ (m.dis j k _ _ hj hb hk hlv' hlv), fun hI => ?_⟩⟩
      rcases hI with hI | ⟨i, hij, hil, e⟩
      · exact m.notI hb hlv' hI
      · obtain ⟨_, _, _, _, _, h1⟩ := hjs i hij
        exact m.dis j i _ _ (fun e => h (e ▸ hij)) hb h1 hlv' hil e
  have ok : ∀ j, okK g l g' ((k, some (.arr T e xs d)) :: (gones js ++ l)) j := fun j => by
    by_cases hj : j = k
    · subst hj
      refine ⟨fun cs hc => ?_, fun β U e2 ys dd hc => ?_⟩
      · rw [lkl_cons_self] at hc; cases hc
      · rw [lkl_cons_self] at hc; cases hc
        exact ⟨α, T, e, xs0, d0, hk, rfl, rfl, rfl⟩
    · rcases hu j hj with h | h
      · exact okK.gone h
      · exact h.ok
  have hlt : ∀ b, g'.I b → b < w'.heap.size := fun b hb => by
    rw [hs]
    rcases hb with hb | ⟨i, hij, hil, e⟩
    · exact m.ilt b hb
    · obtain ⟨_, _, _, _, _, h1⟩ := hjs i hij
      rw [e]; exact m.lt h1 hil
  refine ⟨g', rfl, rfl, m.set1 k hi (fun b hb => .inl hb) (Nat.le_of_eq hs.symm) hlt hu (.inl (ok k)) (fun cs hc => ?_) (fun β U e2 ys d2 hc => ?_) (fun j b b' hj h1 h2 h3 l1 l2 => m.dis j k _ _ hj h2 hk l1 hlv) (fun β U e2 ys hc => ?_) (fun j β γ U V e2 e3 ys zs hj h1 h2 h3 => ?_), fun K => ?_, hi, fun b hb => .inl hb, ok⟩
  · rw [lkl_cons_self] at hc; cases hc
  · rw [lkl_cons_self] at hc; cases hc; exact hA
  · rw [lkl_cons_self] at hc; cases hc
    rw [show g'.F k = fp from setAt_self]
    obtain ⟨n1, n2⟩ := hfp rfl
    exact ⟨n1, fun b hb => ⟨(n2 b hb).1, (n2 b hb).2.1⟩⟩
  · rw [lkl_cons_self] at h3; cases h3
    rw [show g'.F k = fp from setAt_self]
    intro b hb hb'
    rcases ((hfp rfl).2 b hb').2.2 with ⟨rfl, h5⟩ | ⟨i, hij, hvia⟩
    · exact m.fd j k _ _ _ _ _ _ _ _ hj h2 hk b hb h5
    · have : j = i := Via.disj m (b := b) ⟨β, U, e2, ys, h2, .inr hb⟩ hvia
      subst this
      rw [hl' j hj, if_pos hij] at h1; cases h1
  · refine ⟨hos, htp, hout, Nat.le_of_eq hs.symm, fun b hb hn => hkeep b (hn k _ hk hlv), fun b hb => .inl hb, fun b hb => ?_, own_set1 k hu (fun b hb hl => .inl (OwnB.of_live hk hlv)) (fun β U e2 ys hc b hb => ?_), fun j hj hn => ?_⟩
    · rcases hb with hb | ⟨i, hij, hil, e⟩
      · exact .inl hb
      · obtain ⟨_, _, _, _, _, h1⟩ := hjs i hij
        exact .inr (.inr (e ▸ OwnB.of_live h1 hil))
    · rw [lkl_cons_self] at hc; cases hc
      rw [show g'.F k = fp from setAt_self] at hb
      rcases ((hfp rfl).2 b hb).2.2 with ⟨rfl, h5⟩ | ⟨i, hij, hvia⟩
      · exact .inl ⟨k, _, hk, .inr ⟨_, _, _, _, rfl, h5⟩⟩
      · exact .inl hvia.own
    · refine ⟨?_, ok j, fun cs hc => ?_⟩
      · by_cases hjk : j = k
        · subst hjk; rw [lk_cons_self]; simp
        · rw [lk_cons_ne (Ne.symm hjk), lk_gones]
          split
          · simp
          · exact hn
      · have hjk : j ≠ k := fun e => by subst e; rw [hk] at hc; cases hc
        refine ⟨cs, ?_⟩
        rw [hl' j hjk, if_neg]
        · exact hc
        · intro hjj
          obtain ⟨_, _, _, _, _, h1⟩ := hjs j hjj
          rw [hc] at h1; cases h1
end
section ops
variable {P : Program} {N : Nat} {s : St} {ty : TypeId} {pos : String} {after : Array Edge} {gd : Option (Nat × Bool)}
/-- A whole element written. -/
theorem x_ostore {α : Type} {e : Enc α} {f : α → List Cell} [hc : CellsOf e f] {T E n i k : Nat} {x y : Operand} {X : AVal} {xs : List α} (x' : α) {ds : List Cell} {js : List Nat} {d1 d2 : Bool} (h : evo s.t x = some (.one (.optr k i 0))) (hl : lkl s.l k = some (.arr E e xs d1)) (h2 : evo s.t y = some X) (hf : X.flat = true)
    (hT : sizeT P T = some n) (hn : X.cells.length = n) (hes : e.size = n) (hsol : X.cells.all (solid s.l) = true) (hmv : mvC s.l X.cells = some (ds, js, d2)) (hfit : FitL ds (f x')) (hnd : noDup js = true) (hkj : noId k js = true) (hi : i < xs.length) :
    Stp P N ⟨none, .store T x y, ty, pos, after, gd⟩ s ⟨s.t, (k, some (.arr E e (xs.set i x') (d1 && d2))) :: (gones js ++ s.l)⟩ ⟨rdo x (.one (.optr k i 0)) ++ rdo y X, (k, .arr E e xs d1) :: rlC s.l X.cells, [], (k, some (.arr E e (xs.set i x') (d1 && d2))) :: gones js, []⟩ := by
  refine ⟨fun K g s' a w hpre r => ?_, ⟨two_rd h h2, fun p hp => by
    rcases List.mem_cons.1 hp with rfl | hp
    · exact hl
    · exact rlC_self p hp, by simp⟩, by simp [Cert.upd]⟩
  obtain ⟨p1, p2, _⟩ := hpre
  have hk : lkl s'.l k = some (.arr E e xs d1) := p2 (k, .arr E e xs d1) (List.mem_cons_self ..)
  have p2' : ∀ p ∈ rlC s.l X.cells, lkl s'.l p.1 = some p.2 := fun p hp => p2 p (List.mem_cons_of_mem _ hp)
  have ha : a.eval x = .pointer (some ⟨g.ρ k, i * e.size + 0, none⟩) := (eval_ok r (evs_of h) fun p hm => p1 p (List.mem_append_left _ hm) : CellR g s'.l w _ (.optr k i 0)) _ _ _ _ _ hk
  have hv := eval_ok r (evs_of h2) fun p hm => p1 p (List.mem_append_right _ hm)
  have hs' : X.cells.all (solid s'.l) = true := List.all_eq_true.2 fun z hz => solid_of p2' hz (List.all_eq_true.1 hsol z hz)
  have hall := vr1_cells hs' r.mem hv hf
  have hmv' := mvC_of hmv p2'
  have hjn := noDup_of hnd
  have hkj' := noId_of hkj
  have hgone : ∀ j ∈ js, ∃ (α : Type) (T : TypeId) (e : Enc α) (xs : List α) (d : Bool), lkl s'.l j = some (.arr T e xs d) := fun j hj => (mvC_gone hmv' j hj).1
  obtain ⟨b', f1, f2, f3⟩ := mvC_ok r.mem hall hmv' hjn
  have hrep := hc.iff.2 (f1.fit hfit)
  have hlen : (a.eval y).cells.size = n := by rw [← hn]; simpa using hall.len
  have hll : (a.eval y).cells.toList.length = e.size := e.len hrep
  rcases r.mem.arr k _ _ _ _ _ hk with ⟨rfl, _⟩ | ⟨cap, vs, bss, g1, g2, g3, g4, g5, g6, g7, g8, g9⟩
  · simp at hi
  have hlv : g.hd k ≠ .slice none 0 0 := by rw [g1]; intro e; cases e
  have hib : i < bss.length := by rw [g6.1]; exact hi
  have hfitc : i * e.size + (a.eval y).cells.toList.length ≤ vs.size := by
    rw [hll, g5]
    have : (i + 1) * e.size ≤ cap * e.size := Nat.mul_le_mul_right _ (by omega)
    rw [Nat.add_mul] at this; omega
  have one : ∀ v ∈ (a.eval y).cells.toList, v.oneCell' = true := FR.one f1
  have hst := run_storeCells_at P (g.ρ k) (i * e.size) E (a.eval y).cells.toList 0 vs w g4 (by simpa using hfitc) one
  generalize hnew : (vs.toList.take (i * e.size) ++ (a.eval y).cells.toList ++ vs.toList.drop (i * e.size + (a.eval y).cells.toList.length)).toArray = new at *
  have hng : ∀ q, new[q]? = if i * e.size ≤ q ∧ q < i * e.size + e.size then (a.eval y).cells.toList[q - i * e.size]? else vs[q]? := fun q => by
    rw [← hnew, List.getElem?_toArray]
    have hl0 : (vs.toList.take (i * e.size)).length = i * e.size := by simp; omega
    rcases Nat.lt_or_ge q (i * e.size) with hq | hq
    · rw [if_neg (by omega), List.append_assoc, List.getElem?_append_left (by omega), List.getElem?_take, if_pos hq]; simp
    · rw [List.append_assoc, List.getElem?_append_right (by omega), hl0]
      rcases Nat.lt_or_ge q (i * e.size + e.size) with hq2 | hq2
      · rw [if_pos ⟨hq, hq2⟩, List.getElem?_append_left (by omega)]
      · rw [if_neg (by omega), List.getElem?_append_right (by omega), List.getElem?_drop, hll, show i * e.size + e.size + (q - i * e.size - e.size) = q by omega]; simp
  have hns : new.size = vs.size := by rw [← hnew]; simp; omega
  have hwk : (w.setRow (g.ρ k) new).heap[g.ρ k]? = some (.cells new E (0, 0)) := setRow_heap w _ _ _ E _ g4
  have hwo : ∀ b, b ≠ g.ρ k → (w.setRow (g.ρ k) new).heap[b]? = w.heap[b]? := fun b hb => setRow_other w _ b _ hb
  have hsz : (w.setRow (g.ρ k) new).heap.size = w.heap.size := by simp
  have hbk : ∀ b ∈ b', b ≠ g.ρ k := fun b hb eq => by
    rcases f2 b hb with h3 | ⟨j, hj, h3, h4⟩
    · exact g8 (eq ▸ h3)
    · obtain ⟨_, _, _, _, _, h5⟩ := hgone j hj
      exact r.mem.dis j k _ _ (fun e => hkj' (e ▸ hj)) h5 hk h3 hlv (h4 ▸ eq)
  have hE := g6.upd (w' := w.setRow (g.ρ k) new) (k := i) (x' := x') (b' := b') (e.keep hrep (fun b hb => hwo b (hbk b hb)) (Nat.le_of_eq hsz.symm)) (fun j u hu => by
      have hj := (List.getElem?_eq_some_iff.1 hu).1
      rw [cell_of_heap hwk, hng, if_pos (by omega), show 0 + i * e.size + j - i * e.size = j by omega, hu]) (fun q hq => by
      rw [cell_of_heap hwk, hng, cell_of_heap g4, if_neg (by rw [Nat.add_mul] at hq; omega)]) (fun q b hq hb c hcb => hwo c fun eq => g8 (eq ▸ g7 c (List.mem_flatten.2 ⟨b, List.mem_of_getElem? hb, hcb⟩))) (Nat.le_of_eq hsz.symm)
  have hmem : ∀ b ∈ (bss.set i b').flatten, g.I b ∨ liveA g js b := fun b hb => by
    rcases flatten_set bss hib b hb with h3 | h3
    · exact f2 b h3
    · exact .inl (g7 b h3)
  obtain ⟨g', q1, q2, q3, q4, q5, q6, q7⟩ := arr_put (w' := w.setRow (g.ρ k) new) r.mem hk hlv hkj' hgone (xs := xs.set i x') (d := d1 && d2) (fp := (bss.set i b').flatten) rfl rfl rfl hsz hwo
    (.inr ⟨cap, new, bss.set i b', by rw [List.length_set]; exact g1, by rw [List.length_set]; exact g2, g3, hwk, hns.trans g5, hE, hmem, (fun hI => by
      rcases hI with hI | ⟨j, hj, h3, h4⟩
      · exact g8 hI
      · obtain ⟨_, _, _, _, _, h5⟩ := hgone j hj
        exact r.mem.dis j k _ _ (fun e => hkj' (e ▸ hj)) h5 hk h3 hlv h4.symm), fun _ => setAt_self⟩)
    (fun hd => by
      simp only [Bool.and_eq_true] at hd
      obtain ⟨rfl, rfl⟩ := hd
      obtain ⟨n1, n2⟩ := f3 rfl
      have hF := g9 rfl
      have hvk : ∀ b ∈ bss.flatten, Via g s'.l k b := fun b hb => ⟨α, E, e, xs, hk, .inr (by rw [hF]; exact hb)⟩
      refine ⟨nodup_set n1 bss i hib (by rw [← hF]; exact (r.mem.fr k _ _ _ _ hk).1) (fun c hcb => .inr fun h3 => by
        obtain ⟨j, hj, hvj⟩ := n2 c hcb
        exact hkj' ((hvk c h3).disj r.mem hvj ▸ hj)), fun b hb => ⟨hmem b hb, ?_, ?_⟩⟩
      · rcases flatten_set bss hib b hb with h3 | h3
        · obtain ⟨j, hj, hvj⟩ := n2 b h3
          obtain ⟨c, t, h4⟩ := hvj.cells r.mem
          exact ⟨c, t, by rw [hwo b (hbk b h3)]; exact h4⟩
        · obtain ⟨c, t, h4⟩ := (hvk b h3).cells r.mem
          exact ⟨c, t, by rw [hwo b fun eq => g8 (eq ▸ g7 b h3)]; exact h4⟩
      · rcases flatten_set bss hib b hb with h3 | h3
        · exact .inr (n2 b h3)
        · exact .inl ⟨rfl, by rw [hF]; exact h3⟩)
  unfold Oper.wp
  have hrun : (execOp a.eval ⟨none, .store T x y, ty, pos, after, gd⟩).run P w = .ok .skip (w.setRow (g.ρ k) new) := by
    unfold sizeT at hT
    split at hT
    · rename_i ti hti
      cases hT
      simp only [execOp, Instr.storeAt, ha, Instr.sureAddr, storeVar, sizeOf, typeInfo, Sem.run_bind, Sem.run_pure, program, Sem.run, hti, Result.andThen_ok, hlen, ne_eq, not_true_eq_false, if_false]
      simp only [Nat.add_zero] at hst ⊢
      rw [hst]; rfl
    · cases hT
  rw [hrun, Oper.upon_skip]
  exact ⟨g', r.next0 q5 q6 (Nat.le_of_eq hsz.symm) (fun j _ => q7 j) q3, q4 K⟩
end ops
/-! filled from the front -/
end Go.Proofs.Ytibhoanjglfaoaa

/- Elements ars the cells that hold them: what a function that moves elements about does with an array of one's own, footprint and all. -/
namespace Go.Proofs.Ytibhoanjglfaoaa
open Go.RowKit
set_option linter.unusedVariables false

/-- A datum, the cells that hold it, and its footprint. -/
structure Raw (α : Type) where
  x : α
  vs : List Value
  b : List Nat
theorem CLe.rx {α : Type} {e : Enc α} {f : α → List Cell} [hc : CellsOf e f] {x : α} {vs : List Value} {b : List Nat} {j : Nat} {y : Cell} (h : nthC (f x) j = some y) : CLe (.rx e x vs b j) y := fun g l w v h1 => by
  obtain ⟨v', h2, h3⟩ := ((hc.iff.1 h1.2.1).all2 h1.2.2).get (nthC_get h)
  have h4 := h1.1.1
  rw [h4] at h2; cases h2
  exact h3
end Go.Proofs.Ytibhoanjglfaoaa

/- Contracts told of the cells of a row, ars contracts of arrays of one's own. -/
namespace Go.Proofs.Ytibhoanjglfaoaa
open Go.RowKit
set_option linter.unusedVariables false

section
variable {g : Gh} {l : Locs} {w w' : World}
end
/-! ### Elements of some cells, copied and cleared -/
theorem FR.flatLen {α : Type} {e : Enc α} {f : α → List Cell} [hc : CellsOf e f] {w : World} : ∀ {xs : List α} {vs : List Value} {b : List Nat}, FR w vs (xs.flatMap f) b → vs.length = xs.length * e.size
  | [], [], b, h => by simp
  | [], _ :: _, b, h => h.elim
  | x :: xs, vs, b, h => by
    rw [List.flatMap_cons] at h
    obtain ⟨v1, v2, b1, b2, rfl, rfl, h1, h2⟩ := FR.app.1 h
    have l1 := e.len (hc.iff.2 h1)
    have l2 := FR.flatLen (e := e) h2
    rw [List.length_append, l1, l2, List.length_cons, Nat.add_mul]; omega
theorem FR.parts {α : Type} {e : Enc α} {f : α → List Cell} [hc : CellsOf e f] {w : World} {xs : List α} {cells : List Value} {bs : List Nat} (h : FR w cells (xs.flatMap f) bs) {i : Nat} (hi : i ≤ xs.length) :
    ∃ b1 b3, bs = b1 ++ b3 ∧ FR w (cells.take (i * e.size)) ((xs.take i).flatMap f) b1 ∧ FR w (cells.drop (i * e.size)) ((xs.drop i).flatMap f) b3 := by
  have e0 : xs.flatMap f = (xs.take i).flatMap f ++ (xs.drop i).flatMap f := by rw [← List.flatMap_append, List.take_append_drop]
  rw [e0] at h
  obtain ⟨v1, v2, b1, b3, rfl, rfl, h1, h2⟩ := FR.app.1 h
  have l1 := FR.flatLen (e := e) h1
  rw [List.length_take, Nat.min_eq_left hi] at l1
  exact ⟨b1, b3, rfl, by rw [List.take_left' l1]; exact h1, by rw [List.drop_left' l1]; exact h2⟩
end Go.Proofs.Ytibhoanjglfaoaa

/- Results that nobody writes any more; arrays whose elements are shared; appending and clearing in regions. -/
namespace Go.Proofs.Ytibhoanjglfaoaa
open Go.RowKit
set_option linter.unusedVariables false

/-! ### An array's elements are no longer its own alone -/
section
variable {g : Gh} {l : Locs} {w : World}
theorem shallow_mem (m : MemR g l w) {k : Nat} {α : Type} {T : TypeId} {e : Enc α} {xs : List α} {dp : Bool} (hk : lkl l k = some (.arr T e xs dp)) :
    MemR g ((k, some (.arr T e xs false)) :: l) w ∧ (∀ K, Step K g l w g ((k, some (.arr T e xs false)) :: l) w) ∧ ∀ j, okK g l g ((k, some (.arr T e xs false)) :: l) j := by
  have ok : ∀ j, okK g l g ((k, some (.arr T e xs false)) :: l) j := fun j => by
    by_cases q : k = j
    · subst q
      exact ⟨fun cs h => (by rw [lkl_cons_self] at h; cases h), fun β U e2 ys d h => by rw [lkl_cons_self] at h; cases h; exact ⟨_, _, _, _, _, hk, rfl, rfl, rfl⟩⟩
    · exact okK.same (lkl_cons_ne q) rfl rfl
  have back : ∀ j b, lkl ((k, some (Blk.arr T e xs false)) :: l) j = some b → ∃ b', lkl l j = some b' ∧ (liv g j b ↔ liv g j b') ∧ (∀ (β : Type) (U : TypeId) (e2 : Enc β) (ys : List β), b = .arr U e2 ys true → b' = .arr U e2 ys true) := fun j b h => by
    by_cases q : k = j
    · subst q
      rw [lkl_cons_self] at h; cases h
      exact ⟨_, hk, Iff.rfl, fun β U e2 ys h => by cases h⟩
    · rw [lkl_cons_ne q] at h
      exact ⟨b, h, Iff.rfl, fun _ _ _ _ h => h⟩
  refine ⟨⟨m.ilt, fun j cs h => ?_, fun j β U e2 ys d h => ?_, fun i j b b' hij h1 h2 l1 l2 => ?_, fun j β U e2 ys h => ?_, fun i j β γ U V e2 e3 ys zs hij h1 h2 => ?_⟩, fun K => ⟨rfl, rfl, rfl, Nat.le_refl _, fun _ _ _ => rfl, fun _ h => h, fun _ h => .inl h, fun b hb => ?_, fun j hj hn => ⟨?_, ok j, fun cs hc => ?_⟩⟩, ok⟩
  · by_cases q : k = j
    · subst q; rw [lkl_cons_self] at h; cases h
    · rw [lkl_cons_ne q] at h
      obtain ⟨vs, t, h1, h2, h3⟩ := m.box j cs h
      exact ⟨vs, t, h1, h2.mono fun a c _ hr => CellR.step (fun _ _ => rfl) (fun _ h => h) (Nat.le_refl _) (fun i _ => ok i) hr, h3⟩
  · by_cases q : k = j
    · subst q
      rw [lkl_cons_self] at h; cases h
      rcases m.arr k _ _ _ _ _ hk with ⟨h1, h2, _⟩ | ⟨cap, vs, bss, h1, h2, h3, h4, h5, h6, h7, h8, _⟩
      · exact .inl ⟨h1, h2, fun h => by cases h⟩
      · exact .inr ⟨cap, vs, bss, h1, h2, h3, h4, h5, h6, h7, h8, fun h => by cases h⟩
    · rw [lkl_cons_ne q] at h
      exact m.arr j _ _ _ _ _ h
  · obtain ⟨c, q1, q2, _⟩ := back i b h1
    obtain ⟨c', q3, q4, _⟩ := back j b' h2
    exact m.dis i j _ _ hij q1 q3 (q2.1 l1) (q4.1 l2)
  · obtain ⟨c, q1, _, q3⟩ := back j _ h
    rw [q3 _ _ _ _ rfl] at q1
    exact m.fr j _ _ _ _ q1
  · obtain ⟨c, q1, _, q3⟩ := back i _ h1
    obtain ⟨c', q4, _, q6⟩ := back j _ h2
    rw [q3 _ _ _ _ rfl] at q1
    rw [q6 _ _ _ _ rfl] at q4
    exact m.fd i j _ _ _ _ _ _ _ _ hij q1 q4
  · obtain ⟨j, blk, h1, h2⟩ := hb
    obtain ⟨c, q1, q2, q3⟩ := back j blk h1
    rcases h2 with ⟨h2, h3⟩ | ⟨β, U, e2, ys, h2, h3⟩
    · exact .inl ⟨j, c, q1, .inl ⟨q2.1 h2, h3⟩⟩
    · exact .inl ⟨j, c, q1, .inr ⟨β, U, e2, ys, q3 _ _ _ _ h2, h3⟩⟩
  · by_cases q : k = j
    · subst q; rw [lk_cons_self]; simp
    · rw [lk_cons_ne q]; exact hn
  · by_cases q : k = j
    · subst q; rw [hk] at hc; cases hc
    · exact ⟨cs, by rw [lkl_cons_ne q]; exact hc⟩
variable {P : Program} {N : Nat} {K : List Nat} {Kn : St → Prop} {Q : Exit → St → Prop} {s : St}
theorem AW_shallow {α : Type} {T : TypeId} {e : Enc α} {xs : List α} {dp : Bool} {c : Code} (k : Nat) (hk : lkl s.l k = some (.arr T e xs dp))
    (h : AW P N K c Kn Q ⟨s.t, (k, some (.arr T e xs false)) :: s.l⟩) : AW P N K c Kn Q s := fun g a w r => by
  obtain ⟨m1, st1, ok1⟩ := shallow_mem r.mem hk
  have r1 := r.next0 (g' := g) (l' := (k, some (.arr T e xs false)) :: s.l) (w' := w) (fun _ _ => rfl) (fun _ h => h) (Nat.le_refl _) (fun j _ => ok1 j) m1
  exact Go.wp_mono (h g a w r1) fun e a1 w1 h1 => h1.trans r.mem m1 (st1 K)
end

/-! ### A result that is given up to be read alone -/
section
variable {g g' : Gh} {w : World} {α : Type} {T : TypeId} {e : Enc α} {xs : List α} {d : Bool}
end
/-! ### append and clear, where their runs are known by equations -/
end Go.Proofs.Ytibhoanjglfaoaa

/- Rules for the draws' contracts: a cursor that is lent while an array is left, two results in variables. -/
namespace Go.Proofs.Ytibhoanjglfaoaa
open Go.RowKit
set_option linter.unusedVariables false

def rnC (j : Nat) : Nat := bif Nat.beq j 200 then 200 else 0
theorem rnC_k {k : Nat} (hk : Nat.beq k 200 = false) : rnC k = 0 := by unfold rnC; rw [hk]; rfl
theorem curB_ren (b : List Int) (c : Cur) (r : Nat → Nat) : (curB b c).ren r = curB b c := rfl
/-- The array that is left beside a cursor, under another number. -/
theorem AC.cur {P : Program} {f : FuncId} {args : List AVal} {bs : List Int} {c c' : Cur} {res res0 : AVal} {blk : Blk} (h : AC P f args [(200, some (curB bs c))] res0 [(200, some (curB bs c')), (0, some blk)]) (k : Nat) (hk : Nat.beq k 200 = false)
    (hres : ∀ r : Nat → Nat, r k = 0 → res.ren r = res0) (hbl : ∀ r : Nat → Nat, blk.ren r = blk) : AC P f args [(200, some (curB bs c))] res [(200, some (curB bs c')), (k, some blk)] := by
  have hL : LeL rnC [(200, some (curB bs c')), (0, some blk)] [(200, some (curB bs c')), (k, some blk)] :=
    ⟨⟨curB bs c', rfl, by rw [curB_ren]; exact BLe.rf⟩, ⟨blk, by rw [rnC_k hk]; rfl, by rw [hbl]; exact BLe.rf⟩, trivial⟩
  have hi : injL rnC (keys [(200, some (curB bs c')), (k, some blk)]) = true := by
    have h2 : rnC 200 = 200 := rfl
    simp [injL, keys, rnC_k hk, h2]
    exact .inr rfl
  have hK : LeK rnC [(200, some (curB bs c')), (0, some blk)] [(200, some (curB bs c')), (k, some blk)] (keys [(200, some (curB bs c))]) :=
    ⟨⟨rfl, .inl (by simp [lk]), fun cs _ => ⟨_, rfl⟩⟩, trivial⟩
  refine ⟨h.fn, fun g w cargs m ha => (h.run g w cargs m ha).mono ?_⟩
  rintro e w' ⟨v, g1, rfl, m1, hv, hs⟩
  exact ⟨v, g1.ren rnC, rfl, m1.unren hL hi, VR.unren hL (by rw [hres rnC (rnC_k hk)]; exact hv), hs.trans m m1 (Step.unren hL hK)⟩
theorem aggOwn {k : Nat} (r : Nat → Nat) (h : r k = 0) : (AVal.agg [.own k]).ren r = .agg [.own 0] := by
  show AVal.agg [.own (r k)] = _
  rw [h]
theorem aggRel {k : Nat} {n : Int} (r : Nat → Nat) (h : r k = 0) : (AVal.agg [.c (.int .i64 n), .own k]).ren r = .agg [.c (.int .i64 n), .own 0] := by
  show AVal.agg [.c (.int .i64 n), .own (r k)] = _
  rw [h]
theorem x_assign_any {P : Program} {N d : Nat} {s : St} {ty : TypeId} {pos : String} {after : Array Edge} {gd : Option (Nat × Bool)} {v : Value} (hN : Nat.blt d N = true) :
    Stp P N ⟨some d, .assign (.const v), ty, pos, after, gd⟩ s ⟨(d, .one .any) :: s.t, s.l⟩ ⟨[], [], [(d, .one .any)], [], []⟩ :=
  ⟨OpOK.pure rfl (blt_lt hN) fun g s a w ht hl r => ⟨a.eval (.const v), by simp [execOp], trivial⟩, ⟨by simp, by simp, by simp⟩, rfl⟩
section results
variable {P : Program} {f : FuncId} {fn : Func} {c : Code} {N : Nat} {args : List AVal} {L L' : Locs}
theorem AC_bodyCC {ty ty2 : TypeId} {r r2 n n2 k k2 : Nat} {cs cs2 : List Cell} {T : Tmps} {Lf : Locs} (hf : P.funcs[f]? = some fn) (hb : fn.body = some c) (hn : (fn.name == "runtime.NumGoroutine") = false) (hN : fn.ntmps = N) (hA : Nat.ble args.length N = true) (hr : fn.results = #[.cell r ty, .cell r2 ty2])
    (ht : lk T r = some (.one (.ptr k 0))) (hl : lkl Lf k = some (.box cs)) (hk : kindT P ty = some (some n)) (hcn : cs.length = n) (ht2 : lk T r2 = some (.one (.ptr k2 0))) (hl2 : lkl Lf k2 = some (.box cs2)) (hk2 : kindT P ty2 = some (some n2)) (hcn2 : cs2.length = n2)
    (hren : (AVal.tup [.agg cs, .agg cs2]).ren (rn []) = .tup [.agg cs, .agg cs2]) (hle : LeS (keys L) (rn []) ⟨T, Lf⟩ ⟨[], L'⟩)
    (h : AW P N (keys L) c (RetS (keys L) T Lf) (RetQ (keys L) T Lf) ⟨args0 args 0, L⟩) : AC P f args L (.tup [.agg cs, .agg cs2]) L' :=
  AC_ofB hf hb hn hN hA hren hle (fun g a w R => by
    obtain ⟨ad, v, h1, h2, h3⟩ := run_results_c R ht hl hk hcn
    obtain ⟨ad2, v2, g1, g2, g3⟩ := run_results_c R ht2 hl2 hk2 hcn2
    refine ⟨.tuple #[v, v2], ?_, ⟨[v, v2], rfl, h3, g3, trivial⟩⟩
    simp only [Array.getD_eq_getD_getElem?] at h1 g1
    simp [results, hr, h1, h2, g1, g2]) h
end results
theorem rem_wf {m n : Int} (h0 : 0 ≤ m) (h1 : m ≤ 4294967295) (hn : 0 < n) : (Lit.int .i64 (m.tmod n)).wf = true := by
  rw [Int.tmod_eq_emod_of_nonneg h0]
  have h2 := Int.emod_nonneg m (show n ≠ 0 by omega)
  have h3 : m % n ≤ m := by
    by_cases h : m < n
    · rw [Int.emod_eq_of_lt h0 h]; exact Int.le_refl _
    · have := Int.emod_lt_of_pos m hn; omega
  exact WalkArith.wf_i64 (by omega)
theorem mul_in {m n : Int} (h : 0 ≤ m ∧ m < 65536) (h2 : 0 ≤ n ∧ n < 65536) : -9223372036854775808 ≤ m * n ∧ m * n ≤ 9223372036854775807 := by
  have a1 := Int.mul_nonneg h.1 h2.1
  have a2 : m * n ≤ 65536 * 65536 := Int.mul_le_mul (by omega) (by omega) h2.1 (by decide)
  omega
theorem getD_row {xs : List (List Val)} {k : Nat} (h : k < xs.length) : xs[k] = xs.getD k [] := by simp [List.getD, h]
theorem getD_txt {xs : List ByteArray} {k : Nat} (h : k < xs.length) : xs[k] = xs.getD k ⟨#[]⟩ := by simp [List.getD, h]
theorem pow_step {k : Nat} (h : k < 6) : IntKind.i64.wrap ((256 : Int) ^ k * 256) = (256 : Int) ^ (k + 1) := by
  have := pow_256 (m := k + 1) (by omega)
  rw [← Int.pow_succ]
  exact IntWalk.i64_in _ (by omega)
end Go.Proofs.Ytibhoanjglfaoaa

/- Numbers copied into a part of an own array; nil ars an array that is taken; numbers in memory are not too great. -/
namespace Go.Proofs.Ytibhoanjglfaoaa
open Go.RowKit
set_option linter.unusedVariables false
set_option linter.unusedSimpArgs false

section ops
variable {P : Program} {N : Nat} {s : St} {d : Nat} {ty : TypeId} {pos : String} {after : Array Edge} {gd : Option (Nat × Bool)}
end ops
/-- A contract that takes an array takes nil, too. -/
theorem AT.nil {P : Program} {f : FuncId} {rest : List AVal} {α β : Type} {T U : TypeId} {e : Enc α} {e' : Enc β} {ys : List β} {d' : Bool}
    (h : AT P f (.one (.own 0) :: rest) [(0, some (.arr T e [] true))] (.one (.own 1)) [(1, some (.arr U e' ys d'))]) (hrest : rest.flatMap AVal.ids1 = []) (c : Nat) :
    AC P f (.one (.c (.slice none 0 0)) :: rest) [] (.one (.own c)) [(c, some (.arr U e' ys d'))] := by
  refine ⟨h.fn, fun g w cargs m ha => ?_⟩
  obtain ⟨g', q1, q2, q3, q4, q5⟩ := nil_new m (k := 0) rfl (by simp [Locs.ids]) α T e
  have ha' : All2 (VR1 g' [(0, some (.arr (α := α) T e [] true))] w) cargs.toList (.one (.own 0) :: rest) := by
    generalize cargs.toList = vs at ha
    cases vs with
    | nil => exact ha
    | cons v vs =>
      refine ⟨fun β U e2 ys dd hc => by rw [q1]; exact ha.1.1, ha.2.mono fun a b hb hr => VR1.step (fun _ _ => rfl) q4 (Nat.le_refl _) (fun k hk => ?_) hr⟩
      have : k ∈ rest.flatMap AVal.ids1 := List.mem_flatMap.2 ⟨b, hb, hk⟩
      rw [hrest] at this; cases this
  refine (h.run g' w cargs q2 ha').mono ?_
  rintro r w' ⟨v, g1, rfl, m1, hv, hs⟩
  have hle : LeL (fun _ => 1) [(1, some (.arr U e' ys d'))] [(c, some (.arr U e' ys d'))] := ⟨⟨_, rfl, BLe.rf⟩, trivial⟩
  have T1 := ((q3 []).trans m q2 hs).trans m m1 (Step.unren hle trivial)
  exact ⟨v, g1.ren _, rfl, m1.unren hle (by simp [injL, keys]), VR.unren (x := .one (.own c)) hle hv, T1⟩
end Go.Proofs.Ytibhoanjglfaoaa

/- Smaller numbers of two; pointers that are not nil; bytes in memory are bytes. -/
namespace Go.Proofs.Ytibhoanjglfaoaa
open Go.RowKit
set_option linter.unusedVariables false
section ops
variable {P : Program} {N : Nat} {s : St} {d : Nat} {ty : TypeId} {pos : String} {after : Array Edge} {gd : Option (Nat × Bool)}
theorem x_min {T U : TypeId} {x y : Operand} {k k' : IntKind} {m n r : Int} (hN : Nat.blt d N = true) (h : evo s.t x = some (.one (.c (.int k m)))) (h2 : evo s.t y = some (.one (.c (.int k' n)))) (hr : (if n < m then n else m) = r) (hw : (Lit.int k r).wf = true) :
    Stp P N ⟨some d, .call { callee := .builtin .min, args := #[x, y], argTypes := #[T, U] }, ty, pos, after, gd⟩ s ⟨(d, .one (.c (.int k r))) :: s.t, s.l⟩ ⟨rdo x (.one (.c (.int k m))) ++ rdo y (.one (.c (.int k' n))), [], [(d, .one (.c (.int k r)))], [], []⟩ :=
  Stp.pure rfl hN (two_rd h h2) (by simp) fun g s' a w ht hl' rp => by
    obtain ⟨⟨e1, w1⟩, e2, w2⟩ := two_c rp (evs_of h) (evs_of h2) ht
    refine ⟨.int k r, ?_, rfl, hw⟩
    simp only [execOp, resolve, invoke, builtin, Sem.run_bind, Sem.run_pure, Result.andThen_ok, List.map_toArray, List.map_cons, List.map_nil, e1, e2, run_min_int2, hr]
theorem x_nilc {x : Operand} {k off : Nat} {cs : List Cell} (hN : Nat.blt d N = true) (h : evo s.t x = some (.one (.ptr k off))) (hk : lkl s.l k = some (.box cs)) :
    Stp P N ⟨some d, .nilCheck x, ty, pos, after, gd⟩ s ⟨(d, .one (.ptr k off)) :: s.t, s.l⟩ ⟨rdo x (.one (.ptr k off)), [(k, .box cs)], [(d, .one (.ptr k off))], [], []⟩ :=
  Stp.pure rfl hN (rdo_of h) (by simpa using hk) fun g s' a w ht hl' r => by
    have hk' : lkl s'.l k = some (.box cs) := hl' (k, .box cs) (by simp)
    have hv : a.eval x = .pointer (some ⟨g.ρ k, off, none⟩) := (eval_ok r (evs_of h) ht : CellR g s'.l w _ (.ptr k off)) cs hk'
    exact ⟨_, by simp only [execOp, hv, Sem.run_pure], fun cs' hc => rfl⟩
end ops
theorem byte_wf {x : Int} (h : (Lit.int .u8 x).wf = true) : 0 ≤ x ∧ x ≤ 255 := by
  simp only [Lit.wf, Bool.and_eq_true, decide_eq_true_eq] at h
  exact h
theorem SliceRep.bytes {w : World} {a : Option Addr} {n cap : Nat} {xs : List Int} {bs : List Nat} (h : SliceRep (intE .u8) w a n cap xs bs) : ∀ x ∈ xs, 0 ≤ x ∧ x ≤ 255 := fun x hx => by
  obtain ⟨j, hj, rfl⟩ := List.getElem_of_mem hx
  obtain ⟨gb, o, cs, b, _, f1, _⟩ := h.get hj
  exact byte_wf f1.2.1
theorem AW_slbyte {P : Program} {N : Nat} {K : List Nat} {c : Code} {Kn : St → Prop} {Q : Exit → St → Prop} {s : St} {xs : List Int} (t : Nat) (h : lk s.t t = some (.one (.sl (intE .u8) xs))) (hA : (∀ x ∈ xs, 0 ≤ x ∧ x ≤ 255) → AW P N K c Kn Q s) : AW P N K c Kn Q s := fun g a w r => by
  obtain ⟨a0, n, cap, bs, _, h1, _⟩ : CellR g s.l w (a.tmps.getD t undef) (.sl (intE .u8) xs) := r.tmp t _ h
  exact hA h1.bytes g a w r
theorem bytesStr_inj {xs ys : List Int} (hx : ∀ x ∈ xs, 0 ≤ x ∧ x ≤ 255) (hy : ∀ x ∈ ys, 0 ≤ x ∧ x ≤ 255) (h : bytesStr xs = bytesStr ys) : xs = ys := by
  have h1 : (xs.map fun n => UInt8.ofNat n.toNat) = ys.map fun n => UInt8.ofNat n.toNat := by
    have := congrArg (fun b : ByteArray => b.data.toList) h
    simpa [bytesStr] using this
  have h2 := congrArg (List.map fun b : UInt8 => (b.toNat : Int)) h1
  rw [List.map_map, List.map_map] at h2
  have key : ∀ zs : List Int, (∀ x ∈ zs, 0 ≤ x ∧ x ≤ 255) → zs.map ((fun b : UInt8 => (b.toNat : Int)) ∘ fun n : Int => UInt8.ofNat n.toNat) = zs := fun zs hz => by
    conv => rhs; rw [← List.map_id zs]
    apply List.map_congr_left
    intro x hxz
    have := hz x hxz
    simp
    omega
  rwa [key xs hx, key ys hy] at h2
theorem bytesStr_beq {xs ys : List Int} (hx : ∀ x ∈ xs, 0 ≤ x ∧ x ≤ 255) (hy : ∀ x ∈ ys, 0 ≤ x ∧ x ≤ 255) : (bytesStr xs == bytesStr ys) = decide (xs = ys) := by
  by_cases h : xs = ys
  · subst h
    rw [beq_toListBytes, decide_eq_true rfl]; simp
  · rw [decide_eq_false h]
    cases hb : bytesStr xs == bytesStr ys
    · rfl
    · exfalso
      rw [beq_toListBytes, ByteArray.toList_eq, ByteArray.toList_eq] at hb
      have h2 : (bytesStr xs).data.toList = (bytesStr ys).data.toList := by simpa using hb
      refine h (bytesStr_inj hx hy ?_)
      generalize bytesStr xs = a at *
      generalize bytesStr ys = b at *
      obtain ⟨⟨a⟩⟩ := a
      obtain ⟨⟨b⟩⟩ := b
      simp at h2; rw [h2]
end Go.Proofs.Ytibhoanjglfaoaa

/- Lemmas of the walks, part 7. -/
import Derived.Test.YtfdpigafekohgaaE16
/- Messages ars bytes (printed by walk.py) -/
namespace Go.Proofs.Ytfdpigafekohgaa
open Go.RowKit
set_option linter.unusedVariables false
set_option linter.unusedSimpArgs false
set_option maxRecDepth 100000

set_option maxHeartbeats 4000000 in
theorem putI_t (xs : List Int) (n : Int) (size : Nat) (h0 : 0 ≤ n) (h1 : n ≤ 9223372036854775807) (hs : size ≤ 6) (hl : xs.length ≤ 100000000) : AT Try.prog 76 [.one (.own 0), .one (.c (.int .i64 n)), .one (.c (.int .i64 (size : Int)))] [(0, some (.arr 5 (intE .u8) (xs) true))] (.one (.own 1)) [(1, some (.arr 5 (intE .u8) (xs ++ putB n size) true))] := by
  refine AT_body1 Try.func76 rfl rfl Try.ntmps76 rfl Try.results76 ?_
  refine AW_seq ?_
  refine AW_region ?_
  refine AL_p (x_assign rfl rfl) ?_
  refine AL_nil ?_
  refine AW_seq ?_
  refine AW_seq ?_
  refine AW_region ?_
  refine AL_p (x_move rfl rfl) ?_
  refine AL_p (x_sub rfl rfl rfl (IntWalk.i64_in _ (by omega))) ?_
  refine AL_p (x_assign rfl rfl) ?_
  refine AL_nil ?_
  refine AW_block ?_
  refine AW_loop2 (ι := {q : Nat // q ≤ size}) (fun p => [(0, .one (.own 0)), (7, .one (.c (.int .i64 (((p.1) : Int) - 1))))]) (fun p => [(0, some (.arr 5 (intE .u8) (xs ++ putTo n size (p.1)) true))]) [1] [] (fun p => (p.1)) ⟨size, Nat.le_refl _⟩ (rn []) ?_ ?_
  exact ⟨by (repeat refine ⟨⟨_, rfl, by first | exact VLe.rf | exact vle_int (by dsimp only; omega)⟩, ?_⟩); exact trivial, by (repeat refine ⟨⟨_, rfl, by first | exact BLe.rf | exact BLe.box AllC.rf | exact BLe.arr (by first | (rw [putTo_start, List.append_nil]; done) | (rw [List.append_assoc, hm]; done))⟩, ?_⟩); exact trivial, by repeat (first | exact trivial | refine ⟨⟨rfl, by first | (left; intro h; cases h) | (right; rfl), fun _ h => ⟨_, h⟩⟩, ?_⟩), rfl⟩
  rintro ⟨j, hinv⟩
  dsimp only
  have hj := hinv
  refine AW_seq ?_
  refine AW_seq ?_
  refine AW_region ?_
  refine AL_p (x_move rfl rfl) ?_
  refine AL_b (x_geq rfl rfl rfl) (fun b11 h11 => ?_)
  refine AL_nil ?_
  cases b11
  rotate_left
  · try simp only [decide_eq_true_eq, decide_eq_false_iff_not, Bool.not_eq_true, Bool.not_eq_false, Bool.not_eq_true', Bool.not_eq_false', beq_iff_eq, bne_iff_ne, beq_eq_false_iff_ne, bne_eq_false_iff_eq, Int.not_lt, Int.not_le, ge_iff_le, gt_iff_lt] at h11
    have hi : ((j : Int) - 1) = ((j - 1 : Nat) : Int) := by omega
    have hm : putTo n size j ++ [n / 256 ^ (j - 1) % 256] = putTo n size (j - 1) := by have hm := putTo_more (n := n) (size := size) (j := j - 1) (by omega); rwa [show j - 1 + 1 = j by omega] at hm
    refine AW_condT rfl ?_
    refine AW_skip ?_
    refine AW_seq ?_
    refine AW_block ?_
    refine AW_region ?_
    refine AL_p (x_move rfl rfl) ?_
    refine AL_p (x_move rfl rfl) ?_
    refine AL_p (x_move rfl rfl) ?_
    refine AL_p (x_mul rfl rfl rfl (IntWalk.i64_in _ (by omega))) ?_
    refine AL_p (x_shr rfl rfl rfl (r := n / 256 ^ (j - 1)) (by omega) (by rw [hi]; exact shr8 h0 (by omega)) (wf64i (div256_in h0).1 (by have := (div256_in (m := n) (i := j - 1) h0).2; omega))) ?_
    refine AL_p (x_conv (k' := .u8) rfl rfl (by kernel_rfl) (r := n / 256 ^ (j - 1) % 256) rfl) ?_
    refine AL_p (y_bslice (E := 5) (e := (intE .u8)) [.tmp 19] ([n / 256 ^ (j - 1) % 256]) 100 rfl rfl rfl rfl rfl rfl rfl rfl FitL.rf rfl rfl rfl rfl rfl rfl (by kernel_rfl)) ?_
    refine AL_p (y_append 101 rfl rfl rfl rfl rfl rfl rfl rfl (by kernel_rfl) (by have := putTo_len (n := n) (size := size) (j := j); simp only [List.length_append, List.length_cons, List.length_nil]; omega)) ?_
    refine AL_p (x_assign rfl rfl) ?_
    refine AL_nil ?_
    refine AW_region ?_
    refine AL_p (x_move rfl rfl) ?_
    refine AL_p (x_sub rfl rfl rfl (IntWalk.i64_in _ (by omega))) ?_
    refine AL_p (x_assign rfl rfl) ?_
    refine AL_nil ?_
    refine ⟨⟨j - 1, by omega⟩, rn [(0, 101)], ?_, by dsimp only; omega⟩
    exact ⟨by (repeat refine ⟨⟨_, rfl, by first | exact VLe.rf | exact vle_int (by dsimp only; omega)⟩, ?_⟩); exact trivial, by (repeat refine ⟨⟨_, rfl, by first | exact BLe.rf | exact BLe.box AllC.rf | exact BLe.arr (by first | (rw [putTo_start, List.append_nil]; done) | (rw [List.append_assoc, hm]; done))⟩, ?_⟩); exact trivial, by repeat (first | exact trivial | refine ⟨⟨rfl, by first | (left; intro h; cases h) | (right; rfl), fun _ h => ⟨_, h⟩⟩, ?_⟩), rfl⟩
  · try simp only [decide_eq_true_eq, decide_eq_false_iff_not, Bool.not_eq_true, Bool.not_eq_false, Bool.not_eq_true', Bool.not_eq_false', beq_iff_eq, bne_iff_ne, beq_eq_false_iff_ne, bne_eq_false_iff_eq, Int.not_lt, Int.not_le, ge_iff_le, gt_iff_lt] at h11
    refine AW_condF rfl ?_
    refine AW_exit (BQ_hit ?_)
    refine AW_seq ?_
    refine AW_region ?_
    refine AL_p (x_move rfl rfl) ?_
    refine AL_p (x_assign rfl rfl) ?_
    refine AL_nil ?_
    refine AW_ret ?_
    exact ⟨rn [(1, 0)], ⟨⟨⟨_, rfl, VLe.rf⟩, trivial⟩, ⟨⟨_, rfl, BLe.arr (by unfold putB; rw [show j = 0 by omega])⟩, trivial⟩, trivial, rfl⟩⟩

set_option maxHeartbeats 4000000 in
theorem powN_c (n : Nat) (h1 : n ≤ 6) : AC Try.prog 147 [.one (.c (.int .i64 (n : Int)))] [] (.one (.c (.int .i64 ((256 : Int) ^ n)))) [] := by
  refine AC_body1 Try.func147 rfl rfl Try.ntmps147 rfl Try.results147 ?_
  refine AW_seq ?_
  refine AW_region ?_
  refine AL_p (x_assign rfl rfl) ?_
  refine AL_nil ?_
  refine AW_seq ?_
  refine AW_region ?_
  refine AL_p (x_assign rfl rfl) ?_
  refine AL_nil ?_
  refine AW_seq ?_
  refine AW_seq ?_
  refine AW_region ?_
  refine AL_p (x_assign rfl rfl) ?_
  refine AL_nil ?_
  refine AW_block ?_
  refine AW_loop2 (ι := {q : Nat // q ≤ n}) (fun p => [(3, .one (.c (.int .i64 ((256 : Int) ^ (p.1))))), (4, .one (.c (.int .i64 ((p.1) : Int))))]) (fun p => []) [0] [] (fun p => n - (p.1)) ⟨0, by omega⟩ (rn []) ?_ ?_
  exact ⟨by (repeat refine ⟨⟨_, rfl, by first | exact VLe.rf | exact vle_int (by dsimp only; omega)⟩, ?_⟩); exact trivial, by (repeat refine ⟨⟨_, rfl, by first | exact BLe.rf | exact BLe.box AllC.rf | exact BLe.arr (by exact rfl)⟩, ?_⟩); exact trivial, by repeat (first | exact trivial | refine ⟨⟨rfl, by first | (left; intro h; cases h) | (right; rfl), fun _ h => ⟨_, h⟩⟩, ?_⟩), rfl⟩
  rintro ⟨k, hinv⟩
  dsimp only
  have hp := p256_in (k := k) (by omega)
  have hs := Int.pow_succ (256 : Int) k
  refine AW_seq ?_
  refine AW_seq ?_
  refine AW_region ?_
  refine AL_p (x_move rfl rfl) ?_
  refine AL_p (x_move rfl rfl) ?_
  refine AL_b (x_lss rfl rfl rfl) (fun b7 h7 => ?_)
  refine AL_nil ?_
  cases b7
  rotate_left
  · try simp only [decide_eq_true_eq, decide_eq_false_iff_not, Bool.not_eq_true, Bool.not_eq_false, Bool.not_eq_true', Bool.not_eq_false', beq_iff_eq, bne_iff_ne, beq_eq_false_iff_ne, bne_eq_false_iff_eq, Int.not_lt, Int.not_le, ge_iff_le, gt_iff_lt] at h7
    refine AW_condT rfl ?_
    refine AW_skip ?_
    refine AW_seq ?_
    refine AW_block ?_
    refine AW_region ?_
    refine AL_p (x_move rfl rfl) ?_
    refine AL_p (x_mul rfl rfl rfl (IntWalk.i64_in _ (by omega))) ?_
    refine AL_p (x_assign rfl rfl) ?_
    refine AL_nil ?_
    refine AW_region ?_
    refine AL_p (x_move rfl rfl) ?_
    refine AL_p (x_add rfl rfl rfl (IntWalk.i64_in _ (by omega))) ?_
    refine AL_p (x_assign rfl rfl) ?_
    refine AL_nil ?_
    refine ⟨⟨k + 1, by omega⟩, rn [], ?_, by dsimp only; omega⟩
    exact ⟨by (repeat refine ⟨⟨_, rfl, by first | exact VLe.rf | exact vle_int (by dsimp only; omega)⟩, ?_⟩); exact trivial, by (repeat refine ⟨⟨_, rfl, by first | exact BLe.rf | exact BLe.box AllC.rf | exact BLe.arr (by exact rfl)⟩, ?_⟩); exact trivial, by repeat (first | exact trivial | refine ⟨⟨rfl, by first | (left; intro h; cases h) | (right; rfl), fun _ h => ⟨_, h⟩⟩, ?_⟩), rfl⟩
  · try simp only [decide_eq_true_eq, decide_eq_false_iff_not, Bool.not_eq_true, Bool.not_eq_false, Bool.not_eq_true', Bool.not_eq_false', beq_iff_eq, bne_iff_ne, beq_eq_false_iff_ne, bne_eq_false_iff_eq, Int.not_lt, Int.not_le, ge_iff_le, gt_iff_lt] at h7
    refine AW_condF rfl ?_
    refine AW_exit (BQ_hit ?_)
    refine AW_seq ?_
    refine AW_region ?_
    refine AL_p (x_move rfl rfl) ?_
    refine AL_p (x_assign rfl rfl) ?_
    refine AL_nil ?_
    refine AW_ret ?_
    exact ⟨rn [], ⟨⟨⟨_, rfl, vle_int (by rw [show n = k by omega])⟩, trivial⟩, trivial, trivial, rfl⟩⟩

set_option maxHeartbeats 4000000 in
theorem numT_c (n : Int) (size : Nat) (h0 : 0 ≤ n) (h1 : n < (256 : Int) ^ size) (h2 : 1 ≤ size) (h3 : size ≤ 6) : AC Try.prog 129 [.one (.c (.int .i64 n)), .one (.c (.int .i64 (size : Int)))] [] (.one (.c (.bool true))) [] := by
  refine AC_body1 Try.func129 rfl rfl Try.ntmps129 rfl Try.results129 ?_
  refine AW_seq ?_
  refine AW_region ?_
  refine AL_p (x_assign rfl rfl) ?_
  refine AL_nil ?_
  refine AW_seq ?_
  refine AW_region ?_
  refine AL_p (x_move rfl rfl) ?_
  refine AL_b (x_geq rfl rfl rfl) (fun b6 h6 => ?_)
  refine AL_p (x_move rfl rfl) ?_
  cases b6
  rotate_left
  · try simp only [decide_eq_true_eq, decide_eq_false_iff_not, Bool.not_eq_true, Bool.not_eq_false, Bool.not_eq_true', Bool.not_eq_false', beq_iff_eq, bne_iff_ne, beq_eq_false_iff_ne, bne_eq_false_iff_eq, Int.not_lt, Int.not_le, ge_iff_le, gt_iff_lt] at h6
    refine AL_g rfl rfl (x_move rfl rfl) ?_
    refine AL_gb rfl rfl (x_leq rfl rfl rfl) (fun b9 h9 => ?_)
    refine AL_p (x_pickT rfl rfl rfl) ?_
    refine AL_p (x_move rfl rfl) ?_
    cases b9
    rotate_left
    · try simp only [decide_eq_true_eq, decide_eq_false_iff_not, Bool.not_eq_true, Bool.not_eq_false, Bool.not_eq_true', Bool.not_eq_false', beq_iff_eq, bne_iff_ne, beq_eq_false_iff_ne, bne_eq_false_iff_eq, Int.not_lt, Int.not_le, ge_iff_le, gt_iff_lt] at h9
      refine AL_g rfl rfl (x_move rfl rfl) ?_
      refine AL_gb rfl rfl (x_geq rfl rfl rfl) (fun b13 h13 => ?_)
      refine AL_p (x_pickT rfl rfl rfl) ?_
      refine AL_p (x_move rfl rfl) ?_
      cases b13
      rotate_left
      · try simp only [decide_eq_true_eq, decide_eq_false_iff_not, Bool.not_eq_true, Bool.not_eq_false, Bool.not_eq_true', Bool.not_eq_false', beq_iff_eq, bne_iff_ne, beq_eq_false_iff_ne, bne_eq_false_iff_eq, Int.not_lt, Int.not_le, ge_iff_le, gt_iff_lt] at h13
        refine AL_g rfl rfl (x_move rfl rfl) ?_
        refine AL_g rfl rfl (x_move rfl rfl) ?_
        refine AL_g rfl rfl (x_call0 rfl rfl rfl (powN_c size h3) rfl rfl) ?_
        refine AL_gb rfl rfl (x_lss rfl rfl rfl) (fun b19 h19 => ?_)
        refine AL_p (x_pickT rfl rfl rfl) ?_
        refine AL_p (x_assign rfl rfl) ?_
        refine AL_nil ?_
        refine AW_ret ?_
        cases b19
        rotate_left
        · try simp only [decide_eq_true_eq, decide_eq_false_iff_not, Bool.not_eq_true, Bool.not_eq_false, Bool.not_eq_true', Bool.not_eq_false', beq_iff_eq, bne_iff_ne, beq_eq_false_iff_ne, bne_eq_false_iff_eq, Int.not_lt, Int.not_le, ge_iff_le, gt_iff_lt] at h19
          exact ⟨rn [], ⟨⟨⟨_, rfl, vle_bool (by first | rfl | (exfalso; omega))⟩, trivial⟩, trivial, trivial, rfl⟩⟩
        · try simp only [decide_eq_true_eq, decide_eq_false_iff_not, Bool.not_eq_true, Bool.not_eq_false, Bool.not_eq_true', Bool.not_eq_false', beq_iff_eq, bne_iff_ne, beq_eq_false_iff_ne, bne_eq_false_iff_eq, Int.not_lt, Int.not_le, ge_iff_le, gt_iff_lt] at h19
          exact ⟨rn [], ⟨⟨⟨_, rfl, vle_bool (by first | rfl | (exfalso; omega))⟩, trivial⟩, trivial, trivial, rfl⟩⟩
      · try simp only [decide_eq_true_eq, decide_eq_false_iff_not, Bool.not_eq_true, Bool.not_eq_false, Bool.not_eq_true', Bool.not_eq_false', beq_iff_eq, bne_iff_ne, beq_eq_false_iff_ne, bne_eq_false_iff_eq, Int.not_lt, Int.not_le, ge_iff_le, gt_iff_lt] at h13
        refine AL_o rfl rfl rfl rfl ?_
        refine AL_o rfl rfl rfl rfl ?_
        refine AL_o rfl rfl rfl rfl ?_
        refine AL_o rfl rfl rfl rfl ?_
        refine AL_p (x_pickF rfl rfl rfl) ?_
        refine AL_p (x_assign rfl rfl) ?_
        refine AL_nil ?_
        refine AW_ret ?_
        exact ⟨rn [], ⟨⟨⟨_, rfl, vle_bool (by first | rfl | (exfalso; omega))⟩, trivial⟩, trivial, trivial, rfl⟩⟩
    · try simp only [decide_eq_true_eq, decide_eq_false_iff_not, Bool.not_eq_true, Bool.not_eq_false, Bool.not_eq_true', Bool.not_eq_false', beq_iff_eq, bne_iff_ne, beq_eq_false_iff_ne, bne_eq_false_iff_eq, Int.not_lt, Int.not_le, ge_iff_le, gt_iff_lt] at h9
      refine AL_o rfl rfl rfl rfl ?_
      refine AL_o rfl rfl rfl rfl ?_
      refine AL_p (x_pickF rfl rfl rfl) ?_
      refine AL_p (x_move rfl rfl) ?_
      refine AL_o rfl rfl rfl rfl ?_
      refine AL_o rfl rfl rfl rfl ?_
      refine AL_o rfl rfl rfl rfl ?_
      refine AL_o rfl rfl rfl rfl ?_
      refine AL_p (x_pickF rfl rfl rfl) ?_
      refine AL_p (x_assign rfl rfl) ?_
      refine AL_nil ?_
      refine AW_ret ?_
      exact ⟨rn [], ⟨⟨⟨_, rfl, vle_bool (by first | rfl | (exfalso; omega))⟩, trivial⟩, trivial, trivial, rfl⟩⟩
  · try simp only [decide_eq_true_eq, decide_eq_false_iff_not, Bool.not_eq_true, Bool.not_eq_false, Bool.not_eq_true', Bool.not_eq_false', beq_iff_eq, bne_iff_ne, beq_eq_false_iff_ne, bne_eq_false_iff_eq, Int.not_lt, Int.not_le, ge_iff_le, gt_iff_lt] at h6
    refine AL_o rfl rfl rfl rfl ?_
    refine AL_o rfl rfl rfl rfl ?_
    refine AL_p (x_pickF rfl rfl rfl) ?_
    refine AL_p (x_move rfl rfl) ?_
    refine AL_o rfl rfl rfl rfl ?_
    refine AL_o rfl rfl rfl rfl ?_
    refine AL_p (x_pickF rfl rfl rfl) ?_
    refine AL_p (x_move rfl rfl) ?_
    refine AL_o rfl rfl rfl rfl ?_
    refine AL_o rfl rfl rfl rfl ?_
    refine AL_o rfl rfl rfl rfl ?_
    refine AL_o rfl rfl rfl rfl ?_
    refine AL_p (x_pickF rfl rfl rfl) ?_
    refine AL_p (x_assign rfl rfl) ?_
    refine AL_nil ?_
    refine AW_ret ?_
    exact ⟨rn [], ⟨⟨⟨_, rfl, vle_bool (by first | rfl | (exfalso; omega))⟩, trivial⟩, trivial, trivial, rfl⟩⟩

set_option maxHeartbeats 4000000 in
theorem putNumS_c0 (xs : List Int) (n : Int) (size : Nat) (h0 : 0 ≤ n) (h1 : n < (256 : Int) ^ size) (h2 : 1 ≤ size) (h3 : size ≤ 6) (hl : xs.length ≤ 1000) : AC Try.prog 75 [.one (.sl (intE .u8) xs), .one (.c (.int .i64 n)), .one (.c (.int .i64 (size : Int)))] [] (.tup [.one (.own 0), .one (.c (.bool true))]) [(0, some (.arr 5 (intE .u8) (xs ++ putB n size) true))] := by
  have hp6 := p256_in h3
  refine AC_body2 Try.func75 rfl rfl Try.ntmps75 rfl Try.results75 rfl rfl rfl ?_
  refine AW_seq ?_
  refine AW_region ?_
  refine AL_p (x_assign rfl rfl) ?_
  refine AL_p (x_assign rfl rfl) ?_
  refine AL_nil ?_
  refine AW_seq ?_
  refine AW_seq ?_
  refine AW_region ?_
  refine AL_p (x_move rfl rfl) ?_
  refine AL_p (x_move rfl rfl) ?_
  refine AL_p (x_call0 rfl rfl rfl (numT_c n size h0 h1 h2 h3) rfl rfl) ?_
  refine AL_p (x_not rfl rfl) ?_
  refine AL_p (x_move rfl rfl) ?_
  refine AL_g rfl rfl (x_move rfl rfl) ?_
  refine AL_g rfl rfl (x_len (E := 5) (n := 1) rfl rfl (by kernel_rfl)) ?_
  refine AL_g rfl rfl (x_move rfl rfl) ?_
  refine AL_g rfl rfl (x_sub rfl rfl rfl (IntWalk.i64_in _ (by omega))) ?_
  refine AL_gb rfl rfl (x_gtr rfl rfl rfl) (fun b21 h21 => ?_)
  refine AL_p (x_pickF rfl rfl rfl) ?_
  refine AL_nil ?_
  cases b21
  rotate_left
  · exfalso; simp at h21; omega
  · try simp only [decide_eq_true_eq, decide_eq_false_iff_not, Bool.not_eq_true, Bool.not_eq_false, Bool.not_eq_true', Bool.not_eq_false', beq_iff_eq, bne_iff_ne, beq_eq_false_iff_ne, bne_eq_false_iff_eq, Int.not_lt, Int.not_le, ge_iff_le, gt_iff_lt] at h21
    refine AW_condF rfl ?_
    refine AW_skip ?_
    refine AW_seq ?_
    refine AW_region ?_
    refine AL_p (y_bslice0 (E := 5) (e := (intE .u8)) 100 rfl rfl rfl (by kernel_rfl)) ?_
    refine AL_p (x_move rfl rfl) ?_
    refine AL_p (y_append_sl 101 true (.inr intE_nofp) rfl rfl rfl rfl rfl rfl (by kernel_rfl) (by (try simp only [List.length_cons, List.length_nil]); omega)) ?_
    refine AL_p (x_assign rfl rfl) ?_
    refine AL_nil ?_
    refine AW_seq ?_
    refine AW_seq ?_
    refine AW_region ?_
    refine AL_p (x_move rfl rfl) ?_
    refine AL_p (x_sub rfl rfl rfl (IntWalk.i64_in _ (by omega))) ?_
    refine AL_p (x_assign rfl rfl) ?_
    refine AL_nil ?_
    refine AW_block ?_
    refine AW_loop2 (ι := {q : Nat // q ≤ size}) (fun p => [(8, .one (.own 101)), (9, .one (.c (.int .i64 (((p.1) : Int) - 1))))]) (fun p => [(101, some (.arr 5 (intE .u8) (xs ++ putTo n size (p.1)) true))]) [1] [] (fun p => (p.1)) ⟨size, Nat.le_refl _⟩ (rn []) ?_ ?_
    exact ⟨by (repeat refine ⟨⟨_, rfl, by first | exact VLe.rf | exact vle_int (by dsimp only; omega)⟩, ?_⟩); exact trivial, by (repeat refine ⟨⟨_, rfl, by first | exact BLe.rf | exact BLe.box AllC.rf | exact BLe.arr (by first | (rw [putTo_start, List.append_nil, List.nil_append]; done) | (rw [putTo_start, List.append_nil]; done) | exact (by rw [putTo_start, List.append_nil]; rfl) | (rw [List.append_assoc, hm]; done))⟩, ?_⟩); exact trivial, by repeat (first | exact trivial | refine ⟨⟨rfl, by first | (left; intro h; cases h) | (right; rfl), fun _ h => ⟨_, h⟩⟩, ?_⟩), rfl⟩
    rintro ⟨j, hinv⟩
    dsimp only
    have hj := hinv
    refine AW_seq ?_
    refine AW_seq ?_
    refine AW_region ?_
    refine AL_p (x_move rfl rfl) ?_
    refine AL_b (x_geq rfl rfl rfl) (fun b29 h29 => ?_)
    refine AL_nil ?_
    cases b29
    rotate_left
    · try simp only [decide_eq_true_eq, decide_eq_false_iff_not, Bool.not_eq_true, Bool.not_eq_false, Bool.not_eq_true', Bool.not_eq_false', beq_iff_eq, bne_iff_ne, beq_eq_false_iff_ne, bne_eq_false_iff_eq, Int.not_lt, Int.not_le, ge_iff_le, gt_iff_lt] at h29
      have hm : putTo n size j ++ [n / 256 ^ (j - 1) % 256] = putTo n size (j - 1) := by have hm := putTo_more (n := n) (size := size) (j := j - 1) (by omega); rwa [show j - 1 + 1 = j by omega] at hm
      refine AW_condT rfl ?_
      refine AW_skip ?_
      refine AW_seq ?_
      refine AW_block ?_
      refine AW_seq ?_
      refine AW_region ?_
      refine AL_p (x_move rfl rfl) ?_
      refine AL_p (x_assign rfl rfl) ?_
      refine AL_nil ?_
      refine AW_seq ?_
      refine AW_seq ?_
      refine AW_region ?_
      refine AL_p (x_assign rfl rfl) ?_
      refine AL_nil ?_
      refine AW_block ?_
      refine AW_loop2 (ι := {q : Nat // q ≤ j - 1}) (fun p => [(10, .one (.c (.int .i64 (n / 256 ^ (p.1))))), (11, .one (.c (.int .i64 ((p.1) : Int))))]) (fun p => []) [1, 8, 9] [101] (fun p => j - 1 - (p.1)) ⟨0, by omega⟩ (rn []) ?_ ?_
      exact ⟨by (repeat refine ⟨⟨_, rfl, by first | exact VLe.rf | exact vle_int (by dsimp only; omega)⟩, ?_⟩); exact trivial, by (repeat refine ⟨⟨_, rfl, by first | exact BLe.rf | exact BLe.box AllC.rf | exact BLe.arr (by exact rfl)⟩, ?_⟩); exact trivial, by repeat (first | exact trivial | refine ⟨⟨rfl, by first | (left; intro h; cases h) | (right; rfl), fun _ h => ⟨_, h⟩⟩, ?_⟩), rfl⟩
      rintro ⟨m, hinv⟩
      dsimp only
      have hm2 := hinv
      refine AW_seq ?_
      refine AW_seq ?_
      refine AW_region ?_
      refine AL_p (x_move rfl rfl) ?_
      refine AL_p (x_move rfl rfl) ?_
      refine AL_b (x_lss rfl rfl rfl) (fun b35 h35 => ?_)
      refine AL_nil ?_
      cases b35
      rotate_left
      · try simp only [decide_eq_true_eq, decide_eq_false_iff_not, Bool.not_eq_true, Bool.not_eq_false, Bool.not_eq_true', Bool.not_eq_false', beq_iff_eq, bne_iff_ne, beq_eq_false_iff_ne, bne_eq_false_iff_eq, Int.not_lt, Int.not_le, ge_iff_le, gt_iff_lt] at h35
        refine AW_condT rfl ?_
        refine AW_skip ?_
        refine AW_seq ?_
        refine AW_block ?_
        refine AW_region ?_
        refine AL_p (x_move rfl rfl) ?_
        refine AL_p (x_quo rfl rfl rfl (r := n / 256 ^ (m + 1)) (by omega) (quo256 h0 (by omega))) ?_
        refine AL_p (x_assign rfl rfl) ?_
        refine AL_nil ?_
        refine AW_region ?_
        refine AL_p (x_move rfl rfl) ?_
        refine AL_p (x_add rfl rfl rfl (IntWalk.i64_in _ (by omega))) ?_
        refine AL_p (x_assign rfl rfl) ?_
        refine AL_nil ?_
        refine ⟨⟨m + 1, by omega⟩, rn [], ?_, by dsimp only; omega⟩
        exact ⟨by (repeat refine ⟨⟨_, rfl, by first | exact VLe.rf | exact vle_int (by dsimp only; omega)⟩, ?_⟩); exact trivial, by (repeat refine ⟨⟨_, rfl, by first | exact BLe.rf | exact BLe.box AllC.rf | exact BLe.arr (by exact rfl)⟩, ?_⟩); exact trivial, by repeat (first | exact trivial | refine ⟨⟨rfl, by first | (left; intro h; cases h) | (right; rfl), fun _ h => ⟨_, h⟩⟩, ?_⟩), rfl⟩
      · try simp only [decide_eq_true_eq, decide_eq_false_iff_not, Bool.not_eq_true, Bool.not_eq_false, Bool.not_eq_true', Bool.not_eq_false', beq_iff_eq, bne_iff_ne, beq_eq_false_iff_ne, bne_eq_false_iff_eq, Int.not_lt, Int.not_le, ge_iff_le, gt_iff_lt] at h35
        refine AW_condF rfl ?_
        refine AW_exit (BQ_hit ?_)
        refine AW_region ?_
        refine AL_p (x_move rfl rfl) ?_
        refine AL_p (x_move rfl rfl) ?_
        refine AL_p (x_rem rfl rfl rfl (r := n / 256 ^ (j - 1) % 256) (by omega) (by rw [show j - 1 = m by omega]; exact rem256 h0) (wf64i (mod256_in _).1 (by have := mod256_in (n / 256 ^ (j - 1)); omega))) ?_
        refine AL_p (x_conv (k' := .u8) rfl rfl (by kernel_rfl) (wrap8_id (mod256_in _).1 (mod256_in _).2)) ?_
        refine AL_p (y_bslice (E := 5) (e := (intE .u8)) [.tmp 43] ([n / 256 ^ (j - 1) % 256]) 102 rfl rfl rfl rfl rfl rfl rfl rfl FitL.rf rfl rfl rfl rfl rfl rfl (by kernel_rfl)) ?_
        refine AL_p (y_append 103 rfl rfl rfl rfl rfl rfl rfl rfl (by kernel_rfl) (by have := putTo_len (n := n) (size := size) (j := j); simp only [List.length_append, List.length_cons, List.length_nil]; omega)) ?_
        refine AL_p (x_assign rfl rfl) ?_
        refine AL_nil ?_
        refine AW_region ?_
        refine AL_p (x_move rfl rfl) ?_
        refine AL_p (x_sub rfl rfl rfl (IntWalk.i64_in _ (by omega))) ?_
        refine AL_p (x_assign rfl rfl) ?_
        refine AL_nil ?_
        refine ⟨⟨j - 1, by omega⟩, rn [(101, 103)], ?_, by dsimp only; omega⟩
        exact ⟨by (repeat refine ⟨⟨_, rfl, by first | exact VLe.rf | exact vle_int (by dsimp only; omega)⟩, ?_⟩); exact trivial, by (repeat refine ⟨⟨_, rfl, by first | exact BLe.rf | exact BLe.box AllC.rf | exact BLe.arr (by first | (rw [putTo_start, List.append_nil, List.nil_append]; done) | (rw [putTo_start, List.append_nil]; done) | exact (by rw [putTo_start, List.append_nil]; rfl) | (rw [List.append_assoc, hm]; done))⟩, ?_⟩); exact trivial, by repeat (first | exact trivial | refine ⟨⟨rfl, by first | (left; intro h; cases h) | (right; rfl), fun _ h => ⟨_, h⟩⟩, ?_⟩), rfl⟩
    · try simp only [decide_eq_true_eq, decide_eq_false_iff_not, Bool.not_eq_true, Bool.not_eq_false, Bool.not_eq_true', Bool.not_eq_false', beq_iff_eq, bne_iff_ne, beq_eq_false_iff_ne, bne_eq_false_iff_eq, Int.not_lt, Int.not_le, ge_iff_le, gt_iff_lt] at h29
      refine AW_condF rfl ?_
      refine AW_exit (BQ_hit ?_)
      refine AW_seq ?_
      refine AW_region ?_
      refine AL_p (x_move rfl rfl) ?_
      refine AL_p (x_assign rfl rfl) ?_
      refine AL_p (x_assign rfl rfl) ?_
      refine AL_nil ?_
      refine AW_ret ?_
      exact ⟨rn [(0, 101)], ⟨⟨⟨_, rfl, VLe.rf⟩, ⟨_, rfl, VLe.rf⟩, trivial⟩, ⟨⟨_, rfl, BLe.arr (by unfold putB; rw [show j = 0 by omega])⟩, trivial⟩, trivial, rfl⟩⟩
theorem putNumS_c (xs : List Int) (n : Int) (size : Nat) (h0 : 0 ≤ n) (h1 : n < (256 : Int) ^ size) (h2 : 1 ≤ size) (h3 : size ≤ 6) (hl : xs.length ≤ 1000) (k : Nat) : AC Try.prog 75 [.one (.sl (intE .u8) xs), .one (.c (.int .i64 n)), .one (.c (.int .i64 (size : Int)))] [] (.tup [.one (.own k), .one (.c (.bool true))]) [(k, some (.arr 5 (intE .u8) (xs ++ putB n size) true))] := AC.at (putNumS_c0 xs n size h0 h1 h2 h3 hl) k

set_option maxHeartbeats 4000000 in
theorem bodyS_c0 (m : Msgt) (hok : msgB m = true) : AC Try.prog 74 [.agg (msgC m)] [] (.one (.own 0)) [(0, some (.arr 5 (intE .u8) (bodyB m) true))] := by
  obtain ⟨hr, hA, hF, hN⟩ := msgB_in hok
  have hE := msgB_ep hok
  refine AC_body1 Try.func74 rfl rfl Try.ntmps74 rfl Try.results74 ?_
  refine AW_aggint 0 5 rfl rfl (fun hi0_5 => ?_)
  refine AW_aggmax 0 5 rfl rfl (fun hm0_5 => ?_)
  refine AW_aggmax 0 6 rfl rfl (fun hm0_6 => ?_)
  refine AW_aggmax 0 7 rfl rfl (fun hm0_7 => ?_)
  refine AW_aggmax 0 9 rfl rfl (fun hm0_9 => ?_)
  refine AW_seq ?_
  refine AW_region ?_
  refine AL_p (x_box 100 rfl rfl rfl rfl rfl rfl rfl) ?_
  refine AL_p (x_assign rfl rfl) ?_
  refine AL_nil ?_
  refine AW_seq ?_
  refine AW_region ?_
  refine AL_p (y_bslice0 (E := 5) (e := (intE .u8)) 101 rfl rfl rfl (by kernel_rfl)) ?_
  refine AL_p (x_assign rfl rfl) ?_
  refine AL_nil ?_
  refine AW_seq ?_
  refine AW_seq ?_
  refine AW_region ?_
  refine AL_p (x_field (off := 0) (o' := 0) rfl rfl rfl (by kernel_rfl) rfl) ?_
  refine AL_p (x_load1 rfl rfl rfl (by kernel_rfl) rfl) ?_
  refine AL_b (x_eql rfl rfl rfl) (fun b11 h11 => ?_)
  refine AL_p (x_move rfl rfl) ?_
  cases b11
  rotate_left
  · try simp only [decide_eq_true_eq, decide_eq_false_iff_not, Bool.not_eq_true, Bool.not_eq_false, Bool.not_eq_true', Bool.not_eq_false', beq_iff_eq, bne_iff_ne, beq_eq_false_iff_ne, bne_eq_false_iff_eq, Int.not_lt, Int.not_le, ge_iff_le, gt_iff_lt] at h11
    refine AL_o rfl rfl rfl rfl ?_
    refine AL_o rfl rfl rfl rfl ?_
    refine AL_o rfl rfl rfl rfl ?_
    refine AL_p (x_pickT rfl rfl rfl) ?_
    refine AL_nil ?_
    refine AW_condT rfl ?_
    refine AW_region ?_
    refine AL_p (x_move rfl rfl) ?_
    refine AL_p (x_field (off := 3) (o' := 3) rfl rfl rfl (by kernel_rfl) rfl) ?_
    refine AL_p (x_load1 rfl rfl rfl (by kernel_rfl) rfl) ?_
    refine AL_p (x_callR rfl rfl rfl (putNumS_c _ m.epoch 4 (by omega) (by have e : (256 : Int) ^ 4 = 4294967296 := rfl; omega) (by omega) (by omega) (by (try simp only [List.length_append, List.length_cons, List.length_nil, putB_len, pairTo_len]); omega) 102) rfl AllV.rf rfl rfl rfl rfl rfl) ?_
    refine AL_p (x_move rfl rfl) ?_
    refine AL_p (x_extract rfl rfl rfl) ?_
    refine AL_p (x_extract rfl rfl rfl) ?_
    refine AL_p (x_assign rfl rfl) ?_
    refine AL_nil ?_
    refine AW_seq ?_
    refine AW_seq ?_
    refine AW_region ?_
    refine AL_p (x_field (off := 0) (o' := 0) rfl rfl rfl (by kernel_rfl) rfl) ?_
    refine AL_p (x_load1 rfl rfl rfl (by kernel_rfl) rfl) ?_
    refine AL_b (x_eql rfl rfl rfl) (fun b26 h26 => ?_)
    refine AL_nil ?_
    cases b26
    rotate_left
    · try simp only [decide_eq_true_eq, decide_eq_false_iff_not, Bool.not_eq_true, Bool.not_eq_false, Bool.not_eq_true', Bool.not_eq_false', beq_iff_eq, bne_iff_ne, beq_eq_false_iff_ne, bne_eq_false_iff_eq, Int.not_lt, Int.not_le, ge_iff_le, gt_iff_lt] at h26
      have hA2 := hA (by omega)
      have hmat := hA2.2.1
      have hact := hA2.2.2
      have hA3 := hA2.1
      have ha12 := actsB_12 hact
      have hpl : putB (m.acts.length : Int) 1 = [(m.acts.length : Int)] := putB_one (by omega) (by omega)
      have haf := acts_len (l := m.acts)
      refine AW_condT rfl ?_
      refine AW_seq ?_
      refine AW_region ?_
      refine AL_p (x_move rfl rfl) ?_
      refine AL_p (x_field (off := 4) (o' := 4) rfl rfl rfl (by kernel_rfl) rfl) ?_
      refine AL_p (x_load1 rfl rfl rfl (by kernel_rfl) rfl) ?_
      refine AL_p (x_callR rfl rfl rfl (putNumS_c _ m.prio 2 (by omega) (by have e : (256 : Int) ^ 2 = 65536 := rfl; omega) (by omega) (by omega) (by (try simp only [List.length_append, List.length_cons, List.length_nil, putB_len, pairTo_len]); omega) 103) rfl AllV.rf rfl rfl rfl rfl rfl) ?_
      refine AL_p (x_move rfl rfl) ?_
      refine AL_p (x_extract rfl rfl rfl) ?_
      refine AL_p (x_extract rfl rfl rfl) ?_
      refine AL_p (x_assign rfl rfl) ?_
      refine AL_nil ?_
      refine AW_seq ?_
      refine AW_seq ?_
      refine AW_region ?_
      refine AL_p (x_assign rfl rfl) ?_
      refine AL_nil ?_
      refine AW_block ?_
      refine AW_loop2 (ι := {q : Nat // q ≤ 8}) (fun p => [(3, .one (.own 103)), (4, .one (.c (.int .i64 ((p.1) : Int))))]) (fun p => [(103, some (.arr 5 (intE .u8) (putB m.epoch 4 ++ putB m.prio 2 ++ pairTo m.mat (p.1)) true))]) [1] [100, 101, 102] (fun p => 8 - (p.1)) ⟨0, by omega⟩ (rn []) ?_ ?_
      exact ⟨by (repeat refine ⟨⟨_, rfl, by first | exact VLe.rf | exact vle_int (by dsimp only; omega)⟩, ?_⟩); exact trivial, by (repeat refine ⟨⟨_, rfl, by first | exact BLe.rf | exact BLe.box AllC.rf | exact BLe.arr (by first | (rw [pairTo_zero, List.append_nil]; done) | (rw [← pairTo_more hv1 hm1]; simp only [List.append_assoc]; done) | (exfalso; omega))⟩, ?_⟩); exact trivial, by repeat (first | exact trivial | refine ⟨⟨rfl, by first | (left; intro h; cases h) | (right; rfl), fun _ h => ⟨_, h⟩⟩, ?_⟩), rfl⟩
      rintro ⟨k, hinv⟩
      dsimp only
      have hk := hinv
      refine AW_seq ?_
      refine AW_seq ?_
      refine AW_region ?_
      refine AL_p (x_move rfl rfl) ?_
      refine AL_b (x_lss rfl rfl rfl) (fun b35 h35 => ?_)
      refine AL_nil ?_
      cases b35
      rotate_left
      · try simp only [decide_eq_true_eq, decide_eq_false_iff_not, Bool.not_eq_true, Bool.not_eq_false, Bool.not_eq_true', Bool.not_eq_false', beq_iff_eq, bne_iff_ne, beq_eq_false_iff_ne, bne_eq_false_iff_eq, Int.not_lt, Int.not_le, ge_iff_le, gt_iff_lt] at h35
        obtain ⟨hv1, hm1, hvr, hmr⟩ := matchB_get hmat (fun x hx => (hi0_5 x hx).2) (k := k) (by omega)
        refine AW_condT rfl ?_
        refine AW_skip ?_
        refine AW_seq ?_
        refine AW_block ?_
        refine AW_seq ?_
        refine AW_region ?_
        refine AL_p (x_move rfl rfl) ?_
        refine AL_p (x_field (off := 5) (o' := 5) rfl rfl rfl (by kernel_rfl) rfl) ?_
        refine AL_p (x_field (off := 0) (o' := 5) rfl rfl rfl (by kernel_rfl) rfl) ?_
        refine AL_p (x_load1 rfl rfl rfl (by kernel_rfl) rfl) ?_
        refine AL_p (x_move rfl rfl) ?_
        refine AL_p (x_index (E := 3) (n := 1) rfl rfl rfl (by kernel_rfl) rfl (k := k) (by omega) (by omega)) ?_
        refine AL_p (x_eload1 rfl rfl (by kernel_rfl) rfl) ?_
        refine AL_p (x_callR rfl rfl rfl (putNumS_c _ (m.mat.v[k]'hv1) 6 (by omega) (by have e : (256 : Int) ^ 6 = 281474976710656 := rfl; omega) (by omega) (by omega) (by (try simp only [List.length_append, List.length_cons, List.length_nil, putB_len, pairTo_len]); omega) 104) rfl AllV.rf rfl rfl rfl rfl rfl) ?_
        refine AL_p (x_move rfl rfl) ?_
        refine AL_p (x_extract rfl rfl rfl) ?_
        refine AL_p (x_extract rfl rfl rfl) ?_
        refine AL_p (x_assign rfl rfl) ?_
        refine AL_nil ?_
        refine AW_region ?_
        refine AL_p (x_move rfl rfl) ?_
        refine AL_p (x_field (off := 5) (o' := 5) rfl rfl rfl (by kernel_rfl) rfl) ?_
        refine AL_p (x_field (off := 1) (o' := 6) rfl rfl rfl (by kernel_rfl) rfl) ?_
        refine AL_p (x_load1 rfl rfl rfl (by kernel_rfl) rfl) ?_
        refine AL_p (x_move rfl rfl) ?_
        refine AL_p (x_index (E := 3) (n := 1) rfl rfl rfl (by kernel_rfl) rfl (k := k) (by omega) (by omega)) ?_
        refine AL_p (x_eload1 rfl rfl (by kernel_rfl) rfl) ?_
        refine AL_p (x_callR rfl rfl rfl (putNumS_c _ (m.mat.m[k]'hm1) 6 (by omega) (by have e : (256 : Int) ^ 6 = 281474976710656 := rfl; omega) (by omega) (by omega) (by (try simp only [List.length_append, List.length_cons, List.length_nil, putB_len, pairTo_len]); omega) 105) rfl AllV.rf rfl rfl rfl rfl rfl) ?_
        refine AL_p (x_move rfl rfl) ?_
        refine AL_p (x_extract rfl rfl rfl) ?_
        refine AL_p (x_extract rfl rfl rfl) ?_
        refine AL_p (x_assign rfl rfl) ?_
        refine AL_nil ?_
        refine AW_region ?_
        refine AL_p (x_move rfl rfl) ?_
        refine AL_p (x_add rfl rfl rfl (IntWalk.i64_in _ (by omega))) ?_
        refine AL_p (x_assign rfl rfl) ?_
        refine AL_nil ?_
        refine ⟨⟨k + 1, by omega⟩, rn [(103, 105)], ?_, by dsimp only; omega⟩
        exact ⟨by (repeat refine ⟨⟨_, rfl, by first | exact VLe.rf | exact vle_int (by dsimp only; omega)⟩, ?_⟩); exact trivial, by (repeat refine ⟨⟨_, rfl, by first | exact BLe.rf | exact BLe.box AllC.rf | exact BLe.arr (by first | (rw [pairTo_zero, List.append_nil]; done) | (rw [← pairTo_more hv1 hm1]; simp only [List.append_assoc]; done) | (exfalso; omega))⟩, ?_⟩); exact trivial, by repeat (first | exact trivial | refine ⟨⟨rfl, by first | (left; intro h; cases h) | (right; rfl), fun _ h => ⟨_, h⟩⟩, ?_⟩), rfl⟩
      · try simp only [decide_eq_true_eq, decide_eq_false_iff_not, Bool.not_eq_true, Bool.not_eq_false, Bool.not_eq_true', Bool.not_eq_false', beq_iff_eq, bne_iff_ne, beq_eq_false_iff_ne, bne_eq_false_iff_eq, Int.not_lt, Int.not_le, ge_iff_le, gt_iff_lt] at h35
        obtain rfl : k = 8 := by omega
        refine AW_condF rfl ?_
        refine AW_exit (BQ_hit ?_)
        refine AW_seq ?_
        refine AW_region ?_
        refine AL_p (x_move rfl rfl) ?_
        refine AL_p (x_field (off := 7) (o' := 7) rfl rfl rfl (by kernel_rfl) rfl) ?_
        refine AL_p (x_load1 rfl rfl rfl (by kernel_rfl) rfl) ?_
        refine AL_p (x_len (E := 114) (n := 3) rfl rfl (by kernel_rfl)) ?_
        refine AL_p (x_callR rfl rfl rfl (putNumS_c _ (m.acts.length : Int) 1 (by omega) (by have e : (256 : Int) ^ 1 = 256 := rfl; omega) (by omega) (by omega) (by (try simp only [List.length_append, List.length_cons, List.length_nil, putB_len, pairTo_len]); omega) 106) rfl AllV.rf rfl rfl rfl rfl rfl) ?_
        refine AL_p (x_move rfl rfl) ?_
        refine AL_p (x_extract rfl rfl rfl) ?_
        refine AL_p (x_extract rfl rfl rfl) ?_
        refine AL_p (x_assign rfl rfl) ?_
        refine AL_nil ?_
        refine AW_seq ?_
        refine AW_region ?_
        refine AL_p (x_field (off := 7) (o' := 7) rfl rfl rfl (by kernel_rfl) rfl) ?_
        refine AL_p (x_load1 rfl rfl rfl (by kernel_rfl) rfl) ?_
        refine AL_p (x_len (E := 114) (n := 3) rfl rfl (by kernel_rfl)) ?_
        refine AL_p (x_move rfl rfl) ?_
        refine AL_nil ?_
        refine AW_block ?_
        refine AW_loop2 (ι := {q : Nat // q ≤ m.acts.length}) (fun p => [(3, .one (.own 106)), (71, .one (.c (.int .i64 ((p.1) : Int))))]) (fun p => [(106, some (.arr 5 (intE .u8) (putB m.epoch 4 ++ putB m.prio 2 ++ pairTo m.mat 8 ++ [(m.acts.length : Int)] ++ flatTo actBytes m.acts (p.1)) true))]) [1, 69, 70] [100, 101, 102, 103] (fun p => m.acts.length - (p.1)) ⟨0, by omega⟩ (rn []) ?_ ?_
        exact ⟨by (repeat refine ⟨⟨_, rfl, by first | exact VLe.rf | exact vle_int (by dsimp only; omega)⟩, ?_⟩); exact trivial, by (repeat refine ⟨⟨_, rfl, by first | exact BLe.rf | exact BLe.box AllC.rf | exact BLe.arr (by first | (rw [flatTo_zero, List.append_nil]; done) | (rw [hpl, flatTo_zero, List.append_nil]; done) | (rw [← flatTo_more (f := actBytes) (k := j) (by omega)]; simp only [actBytes, hp1, hp2, List.append_assoc, List.cons_append, List.nil_append]; done) | (exfalso; omega))⟩, ?_⟩); exact trivial, by repeat (first | exact trivial | refine ⟨⟨rfl, by first | (left; intro h; cases h) | (right; rfl), fun _ h => ⟨_, h⟩⟩, ?_⟩), rfl⟩
        rintro ⟨j, hinv⟩
        dsimp only
        have hj := hinv
        refine AW_seq ?_
        refine AW_region ?_
        refine AL_b (x_lss rfl rfl rfl) (fun b72 h72 => ?_)
        refine AL_nil ?_
        refine AW_seq ?_
        cases b72
        rotate_left
        · try simp only [decide_eq_true_eq, decide_eq_false_iff_not, Bool.not_eq_true, Bool.not_eq_false, Bool.not_eq_true', Bool.not_eq_false', beq_iff_eq, bne_iff_ne, beq_eq_false_iff_ne, bne_eq_false_iff_eq, Int.not_lt, Int.not_le, ge_iff_le, gt_iff_lt] at h72
          have hab := actB_in (actsB_get hact (k := j) (by omega))
          have hp1 : putB (m.acts[j]'(by omega)).kind 1 = [(m.acts[j]'(by omega)).kind] := putB_one (by omega) (by omega)
          have hp2 : putB (m.acts[j]'(by omega)).a 1 = [(m.acts[j]'(by omega)).a] := putB_one (by omega) (by omega)
          have haj := haf j
          refine AW_condT rfl ?_
          refine AW_skip ?_
          refine AW_seq ?_
          refine AW_block ?_
          refine AW_seq ?_
          refine AW_region ?_
          refine AL_p (x_index (E := 114) (n := 3) rfl rfl rfl (by kernel_rfl) rfl (k := j) (by omega) (by omega)) ?_
          refine AL_p (x_eloadW (n := 3) rfl rfl (by kernel_rfl) rfl) ?_
          refine AL_p (x_alloc (z := .agg #[.int .i64 0, .int .i64 0, .int .i64 0]) 107 rfl (by kernel_rfl) rfl rfl rfl rfl) ?_
          refine AL_p (x_store (n := 3) rfl rfl rfl rfl (by kernel_rfl) rfl rfl rfl) ?_
          refine AL_nil ?_
          refine AW_seq ?_
          refine AW_region ?_
          refine AL_p (x_move rfl rfl) ?_
          refine AL_p (x_field (off := 0) (o' := 0) rfl rfl rfl (by kernel_rfl) rfl) ?_
          refine AL_p (x_load1 rfl rfl rfl (by kernel_rfl) rfl) ?_
          refine AL_p (x_callR rfl rfl rfl (putNumS_c _ (m.acts[j]'(by omega)).kind 1 (by omega) (by have e : (256 : Int) ^ 1 = 256 := rfl; omega) (by omega) (by omega) (by (try simp only [List.length_append, List.length_cons, List.length_nil, putB_len, pairTo_len]); omega) 108) rfl AllV.rf rfl rfl rfl rfl rfl) ?_
          refine AL_p (x_move rfl rfl) ?_
          refine AL_p (x_extract rfl rfl rfl) ?_
          refine AL_p (x_extract rfl rfl rfl) ?_
          refine AL_p (x_assign rfl rfl) ?_
          refine AL_nil ?_
          refine AW_seq ?_
          refine AW_region ?_
          refine AL_p (x_move rfl rfl) ?_
          refine AL_p (x_field (off := 1) (o' := 1) rfl rfl rfl (by kernel_rfl) rfl) ?_
          refine AL_p (x_load1 rfl rfl rfl (by kernel_rfl) rfl) ?_
          refine AL_p (x_callR rfl rfl rfl (putNumS_c _ (m.acts[j]'(by omega)).a 1 (by omega) (by have e : (256 : Int) ^ 1 = 256 := rfl; omega) (by omega) (by omega) (by (try simp only [List.length_append, List.length_cons, List.length_nil, putB_len, pairTo_len]); omega) 109) rfl AllV.rf rfl rfl rfl rfl rfl) ?_
          refine AL_p (x_move rfl rfl) ?_
          refine AL_p (x_extract rfl rfl rfl) ?_
          refine AL_p (x_extract rfl rfl rfl) ?_
          refine AL_p (x_assign rfl rfl) ?_
          refine AL_nil ?_
          refine AW_region ?_
          refine AL_p (x_move rfl rfl) ?_
          refine AL_p (x_field (off := 2) (o' := 2) rfl rfl rfl (by kernel_rfl) rfl) ?_
          refine AL_p (x_load1 rfl rfl rfl (by kernel_rfl) rfl) ?_
          refine AL_p (x_callR rfl rfl rfl (putNumS_c _ (m.acts[j]'(by omega)).b 6 (by omega) (by have e : (256 : Int) ^ 6 = 281474976710656 := rfl; omega) (by omega) (by omega) (by (try simp only [List.length_append, List.length_cons, List.length_nil, putB_len, pairTo_len]); omega) 110) rfl AllV.rf rfl rfl rfl rfl rfl) ?_
          refine AL_p (x_move rfl rfl) ?_
          refine AL_p (x_extract rfl rfl rfl) ?_
          refine AL_p (x_extract rfl rfl rfl) ?_
          refine AL_p (x_assign rfl rfl) ?_
          refine AL_nil ?_
          refine AW_region ?_
          refine AL_p (x_add rfl rfl rfl (IntWalk.i64_in _ (by omega))) ?_
          refine AL_p (x_move rfl rfl) ?_
          refine AL_nil ?_
          refine ⟨⟨j + 1, by omega⟩, rn [(106, 110)], ?_, by dsimp only; omega⟩
          exact ⟨by (repeat refine ⟨⟨_, rfl, by first | exact VLe.rf | exact vle_int (by dsimp only; omega)⟩, ?_⟩); exact trivial, by (repeat refine ⟨⟨_, rfl, by first | exact BLe.rf | exact BLe.box AllC.rf | exact BLe.arr (by first | (rw [flatTo_zero, List.append_nil]; done) | (rw [hpl, flatTo_zero, List.append_nil]; done) | (rw [← flatTo_more (f := actBytes) (k := j) (by omega)]; simp only [actBytes, hp1, hp2, List.append_assoc, List.cons_append, List.nil_append]; done) | (exfalso; omega))⟩, ?_⟩); exact trivial, by repeat (first | exact trivial | refine ⟨⟨rfl, by first | (left; intro h; cases h) | (right; rfl), fun _ h => ⟨_, h⟩⟩, ?_⟩), rfl⟩
        · try simp only [decide_eq_true_eq, decide_eq_false_iff_not, Bool.not_eq_true, Bool.not_eq_false, Bool.not_eq_true', Bool.not_eq_false', beq_iff_eq, bne_iff_ne, beq_eq_false_iff_ne, bne_eq_false_iff_eq, Int.not_lt, Int.not_le, ge_iff_le, gt_iff_lt] at h72
          refine AW_condF rfl ?_
          refine AW_exit (BQ_hit ?_)
          refine AW_seq ?_
          refine AW_seq ?_
          refine AW_region ?_
          refine AL_p (x_field (off := 0) (o' := 0) rfl rfl rfl (by kernel_rfl) rfl) ?_
          refine AL_p (x_load1 rfl rfl rfl (by kernel_rfl) rfl) ?_
          refine AL_b (x_eql rfl rfl rfl) (fun b99 h99 => ?_)
          refine AL_nil ?_
          cases b99
          rotate_left
          · try simp only [decide_eq_true_eq, decide_eq_false_iff_not, Bool.not_eq_true, Bool.not_eq_false, Bool.not_eq_true', Bool.not_eq_false', beq_iff_eq, bne_iff_ne, beq_eq_false_iff_ne, bne_eq_false_iff_eq, Int.not_lt, Int.not_le, ge_iff_le, gt_iff_lt] at h99
            have hN2 := hN (by omega)
            have hN8 := eight_8 hN2
            have hhf := head_len (l := m.head.v)
            refine AW_condT rfl ?_
            refine AW_seq ?_
            refine AW_seq ?_
            refine AW_region ?_
            refine AL_p (x_field (off := 8) (o' := 8) rfl rfl rfl (by kernel_rfl) rfl) ?_
            refine AL_b (x_load1 rfl rfl rfl (by kernel_rfl) rfl) (fun b101 h101 => ?_)
            refine AL_nil ?_
            cases b101
            rotate_left
            · try simp only [decide_eq_true_eq, decide_eq_false_iff_not, Bool.not_eq_true, Bool.not_eq_false, Bool.not_eq_true', Bool.not_eq_false', beq_iff_eq, bne_iff_ne, beq_eq_false_iff_ne, bne_eq_false_iff_eq, Int.not_lt, Int.not_le, ge_iff_le, gt_iff_lt] at h101
              refine AW_condT rfl ?_
              refine AW_region ?_
              refine AL_p (x_move rfl rfl) ?_
              refine AL_p (y_bslice (E := 5) (e := (intE .u8)) [.const (.int .u8 (1))] ([1]) 111 rfl rfl rfl rfl rfl rfl rfl rfl FitL.rf rfl rfl rfl rfl rfl rfl (by kernel_rfl)) ?_
              refine AL_p (y_append 112 rfl rfl rfl rfl rfl rfl rfl rfl (by kernel_rfl) (by (try simp only [List.length_append, List.length_cons, List.length_nil, putB_len, pairTo_len]); omega)) ?_
              refine AL_p (x_assign rfl rfl) ?_
              refine AL_nil ?_
              refine AW_seq ?_
              refine AW_region ?_
              refine AL_p (x_assign rfl rfl) ?_
              refine AL_nil ?_
              refine AW_block ?_
              refine AW_loop2 (ι := {q : Nat // q ≤ m.head.v.length}) (fun p => [(3, .one (.own 112)), (7, .one (.c (.int .i64 ((p.1) : Int))))]) (fun p => [(112, some (.arr 5 (intE .u8) ([handB m.hand] ++ flatTo (fun n => putB n 6) m.head.v (p.1)) true))]) [1] [100, 101, 102, 103] (fun p => m.head.v.length - (p.1)) ⟨0, by omega⟩ (rn []) ?_ ?_
              exact ⟨by (repeat refine ⟨⟨_, rfl, by first | exact VLe.rf | exact vle_int (by dsimp only; omega)⟩, ?_⟩); exact trivial, by (repeat refine ⟨⟨_, rfl, by first | exact BLe.rf | exact BLe.box AllC.rf | exact BLe.arr (by first | (rw [flatTo_zero, List.append_nil]; simp [handB, *]; done) | (rw [← flatTo_more (f := fun n => putB n 6) (k := i) (by omega)]; simp only [List.append_assoc]; done) | (exfalso; omega))⟩, ?_⟩); exact trivial, by repeat (first | exact trivial | refine ⟨⟨rfl, by first | (left; intro h; cases h) | (right; rfl), fun _ h => ⟨_, h⟩⟩, ?_⟩), rfl⟩
              rintro ⟨i, hinv⟩
              dsimp only
              have hi := hinv
              refine AW_seq ?_
              refine AW_seq ?_
              refine AW_region ?_
              refine AL_p (x_move rfl rfl) ?_
              refine AL_b (x_lss rfl rfl rfl) (fun b109 h109 => ?_)
              refine AL_nil ?_
              cases b109
              rotate_left
              · try simp only [decide_eq_true_eq, decide_eq_false_iff_not, Bool.not_eq_true, Bool.not_eq_false, Bool.not_eq_true', Bool.not_eq_false', beq_iff_eq, bne_iff_ne, beq_eq_false_iff_ne, bne_eq_false_iff_eq, Int.not_lt, Int.not_le, ge_iff_le, gt_iff_lt] at h109
                have hf8 := fits48 (eight_get hN2 (k := i) (by omega))
                have hhi := hhf i
                refine AW_condT rfl ?_
                refine AW_skip ?_
                refine AW_seq ?_
                refine AW_block ?_
                refine AW_region ?_
                refine AL_p (x_move rfl rfl) ?_
                refine AL_p (x_field (off := 9) (o' := 9) rfl rfl rfl (by kernel_rfl) rfl) ?_
                refine AL_p (x_field (off := 0) (o' := 9) rfl rfl rfl (by kernel_rfl) rfl) ?_
                refine AL_p (x_load1 rfl rfl rfl (by kernel_rfl) rfl) ?_
                refine AL_p (x_move rfl rfl) ?_
                refine AL_p (x_index (E := 3) (n := 1) rfl rfl rfl (by kernel_rfl) rfl (k := i) (by omega) (by omega)) ?_
                refine AL_p (x_eload1 rfl rfl (by kernel_rfl) rfl) ?_
                refine AL_p (x_callR rfl rfl rfl (putNumS_c _ (m.head.v[i]'(by omega)) 6 (by omega) (by have e : (256 : Int) ^ 6 = 281474976710656 := rfl; omega) (by omega) (by omega) (by (try simp only [List.length_append, List.length_cons, List.length_nil, putB_len, pairTo_len]); omega) 113) rfl AllV.rf rfl rfl rfl rfl rfl) ?_
                refine AL_p (x_move rfl rfl) ?_
                refine AL_p (x_extract rfl rfl rfl) ?_
                refine AL_p (x_extract rfl rfl rfl) ?_
                refine AL_p (x_assign rfl rfl) ?_
                refine AL_nil ?_
                refine AW_region ?_
                refine AL_p (x_move rfl rfl) ?_
                refine AL_p (x_add rfl rfl rfl (IntWalk.i64_in _ (by omega))) ?_
                refine AL_p (x_assign rfl rfl) ?_
                refine AL_nil ?_
                refine ⟨⟨i + 1, by omega⟩, rn [(112, 113)], ?_, by dsimp only; omega⟩
                exact ⟨by (repeat refine ⟨⟨_, rfl, by first | exact VLe.rf | exact vle_int (by dsimp only; omega)⟩, ?_⟩); exact trivial, by (repeat refine ⟨⟨_, rfl, by first | exact BLe.rf | exact BLe.box AllC.rf | exact BLe.arr (by first | (rw [flatTo_zero, List.append_nil]; simp [handB, *]; done) | (rw [← flatTo_more (f := fun n => putB n 6) (k := i) (by omega)]; simp only [List.append_assoc]; done) | (exfalso; omega))⟩, ?_⟩); exact trivial, by repeat (first | exact trivial | refine ⟨⟨rfl, by first | (left; intro h; cases h) | (right; rfl), fun _ h => ⟨_, h⟩⟩, ?_⟩), rfl⟩
              · try simp only [decide_eq_true_eq, decide_eq_false_iff_not, Bool.not_eq_true, Bool.not_eq_false, Bool.not_eq_true', Bool.not_eq_false', beq_iff_eq, bne_iff_ne, beq_eq_false_iff_ne, bne_eq_false_iff_eq, Int.not_lt, Int.not_le, ge_iff_le, gt_iff_lt] at h109
                refine AW_condF rfl ?_
                refine AW_exit (BQ_hit ?_)
                refine AW_seq ?_
                refine AW_region ?_
                refine AL_p (x_move rfl rfl) ?_
                refine AL_p (x_assign rfl rfl) ?_
                refine AL_nil ?_
                refine AW_ret ?_
                exact ⟨rn [(0, 112)], ⟨⟨⟨_, rfl, VLe.rf⟩, trivial⟩, ⟨⟨_, rfl, BLe.arr (by first | (rw [bodyB_add (by omega)]; simp only [flatTo_all (f := actBytes) (xs := m.acts) (k := j) (by omega), List.append_assoc, List.nil_append]; done) | (rw [bodyB_flip (by omega)]; done) | (rw [bodyB_flip (by omega)]; simp only [List.append_assoc, List.nil_append]; done) | (rw [bodyB_note (by omega)]; simp only [headBy, flatTo_all (f := fun n => putB n 6) (xs := m.head.v) (k := i) (by omega), List.append_assoc, List.nil_append]; done) | (rw [bodyB_note (by omega), flatTo_all (f := fun n => putB n 6) (xs := m.head.v) (k := i) (by omega)]; simp [headBy, handB, *]; done) | (rw [bodyB_none (by omega) (by omega) (by omega)]; done) | (rw [bodyB_none (by omega) (by omega) (by omega)]; simp only [List.append_nil]; done) | (exfalso; omega))⟩, trivial⟩, trivial, rfl⟩⟩
            · try simp only [decide_eq_true_eq, decide_eq_false_iff_not, Bool.not_eq_true, Bool.not_eq_false, Bool.not_eq_true', Bool.not_eq_false', beq_iff_eq, bne_iff_ne, beq_eq_false_iff_ne, bne_eq_false_iff_eq, Int.not_lt, Int.not_le, ge_iff_le, gt_iff_lt] at h101
              refine AW_condF rfl ?_
              refine AW_region ?_
              refine AL_p (x_move rfl rfl) ?_
              refine AL_p (y_bslice (E := 5) (e := (intE .u8)) [.const (.int .u8 (0))] ([0]) 114 rfl rfl rfl rfl rfl rfl rfl rfl FitL.rf rfl rfl rfl rfl rfl rfl (by kernel_rfl)) ?_
              refine AL_p (y_append 115 rfl rfl rfl rfl rfl rfl rfl rfl (by kernel_rfl) (by (try simp only [List.length_append, List.length_cons, List.length_nil, putB_len, pairTo_len]); omega)) ?_
              refine AL_p (x_assign rfl rfl) ?_
              refine AL_nil ?_
              refine AW_seq ?_
              refine AW_region ?_
              refine AL_p (x_assign rfl rfl) ?_
              refine AL_nil ?_
              refine AW_block ?_
              refine AW_loop2 (ι := {q : Nat // q ≤ m.head.v.length}) (fun p => [(3, .one (.own 115)), (7, .one (.c (.int .i64 ((p.1) : Int))))]) (fun p => [(115, some (.arr 5 (intE .u8) ([handB m.hand] ++ flatTo (fun n => putB n 6) m.head.v (p.1)) true))]) [1] [100, 101, 102, 103] (fun p => m.head.v.length - (p.1)) ⟨0, by omega⟩ (rn []) ?_ ?_
              exact ⟨by (repeat refine ⟨⟨_, rfl, by first | exact VLe.rf | exact vle_int (by dsimp only; omega)⟩, ?_⟩); exact trivial, by (repeat refine ⟨⟨_, rfl, by first | exact BLe.rf | exact BLe.box AllC.rf | exact BLe.arr (by first | (rw [flatTo_zero, List.append_nil]; simp [handB, *]; done) | (rw [← flatTo_more (f := fun n => putB n 6) (k := i) (by omega)]; simp only [List.append_assoc]; done) | (exfalso; omega))⟩, ?_⟩); exact trivial, by repeat (first | exact trivial | refine ⟨⟨rfl, by first | (left; intro h; cases h) | (right; rfl), fun _ h => ⟨_, h⟩⟩, ?_⟩), rfl⟩
              rintro ⟨i, hinv⟩
              dsimp only
              have hi := hinv
              refine AW_seq ?_
              refine AW_seq ?_
              refine AW_region ?_
              refine AL_p (x_move rfl rfl) ?_
              refine AL_b (x_lss rfl rfl rfl) (fun b109 h109 => ?_)
              refine AL_nil ?_
              cases b109
              rotate_left
              · try simp only [decide_eq_true_eq, decide_eq_false_iff_not, Bool.not_eq_true, Bool.not_eq_false, Bool.not_eq_true', Bool.not_eq_false', beq_iff_eq, bne_iff_ne, beq_eq_false_iff_ne, bne_eq_false_iff_eq, Int.not_lt, Int.not_le, ge_iff_le, gt_iff_lt] at h109
                have hf8 := fits48 (eight_get hN2 (k := i) (by omega))
                have hhi := hhf i
                refine AW_condT rfl ?_
                refine AW_skip ?_
                refine AW_seq ?_
                refine AW_block ?_
                refine AW_region ?_
                refine AL_p (x_move rfl rfl) ?_
                refine AL_p (x_field (off := 9) (o' := 9) rfl rfl rfl (by kernel_rfl) rfl) ?_
                refine AL_p (x_field (off := 0) (o' := 9) rfl rfl rfl (by kernel_rfl) rfl) ?_
                refine AL_p (x_load1 rfl rfl rfl (by kernel_rfl) rfl) ?_
                refine AL_p (x_move rfl rfl) ?_
                refine AL_p (x_index (E := 3) (n := 1) rfl rfl rfl (by kernel_rfl) rfl (k := i) (by omega) (by omega)) ?_
                refine AL_p (x_eload1 rfl rfl (by kernel_rfl) rfl) ?_
                refine AL_p (x_callR rfl rfl rfl (putNumS_c _ (m.head.v[i]'(by omega)) 6 (by omega) (by have e : (256 : Int) ^ 6 = 281474976710656 := rfl; omega) (by omega) (by omega) (by (try simp only [List.length_append, List.length_cons, List.length_nil, putB_len, pairTo_len]); omega) 113) rfl AllV.rf rfl rfl rfl rfl rfl) ?_
                refine AL_p (x_move rfl rfl) ?_
                refine AL_p (x_extract rfl rfl rfl) ?_
                refine AL_p (x_extract rfl rfl rfl) ?_
                refine AL_p (x_assign rfl rfl) ?_
                refine AL_nil ?_
                refine AW_region ?_
                refine AL_p (x_move rfl rfl) ?_
                refine AL_p (x_add rfl rfl rfl (IntWalk.i64_in _ (by omega))) ?_
                refine AL_p (x_assign rfl rfl) ?_
                refine AL_nil ?_
                refine ⟨⟨i + 1, by omega⟩, rn [(115, 113)], ?_, by dsimp only; omega⟩
                exact ⟨by (repeat refine ⟨⟨_, rfl, by first | exact VLe.rf | exact vle_int (by dsimp only; omega)⟩, ?_⟩); exact trivial, by (repeat refine ⟨⟨_, rfl, by first | exact BLe.rf | exact BLe.box AllC.rf | exact BLe.arr (by first | (rw [flatTo_zero, List.append_nil]; simp [handB, *]; done) | (rw [← flatTo_more (f := fun n => putB n 6) (k := i) (by omega)]; simp only [List.append_assoc]; done) | (exfalso; omega))⟩, ?_⟩); exact trivial, by repeat (first | exact trivial | refine ⟨⟨rfl, by first | (left; intro h; cases h) | (right; rfl), fun _ h => ⟨_, h⟩⟩, ?_⟩), rfl⟩
              · try simp only [decide_eq_true_eq, decide_eq_false_iff_not, Bool.not_eq_true, Bool.not_eq_false, Bool.not_eq_true', Bool.not_eq_false', beq_iff_eq, bne_iff_ne, beq_eq_false_iff_ne, bne_eq_false_iff_eq, Int.not_lt, Int.not_le, ge_iff_le, gt_iff_lt] at h109
                refine AW_condF rfl ?_
                refine AW_exit (BQ_hit ?_)
                refine AW_seq ?_
                refine AW_region ?_
                refine AL_p (x_move rfl rfl) ?_
                refine AL_p (x_assign rfl rfl) ?_
                refine AL_nil ?_
                refine AW_ret ?_
                exact ⟨rn [(0, 115)], ⟨⟨⟨_, rfl, VLe.rf⟩, trivial⟩, ⟨⟨_, rfl, BLe.arr (by first | (rw [bodyB_add (by omega)]; simp only [flatTo_all (f := actBytes) (xs := m.acts) (k := j) (by omega), List.append_assoc, List.nil_append]; done) | (rw [bodyB_flip (by omega)]; done) | (rw [bodyB_flip (by omega)]; simp only [List.append_assoc, List.nil_append]; done) | (rw [bodyB_note (by omega)]; simp only [headBy, flatTo_all (f := fun n => putB n 6) (xs := m.head.v) (k := i) (by omega), List.append_assoc, List.nil_append]; done) | (rw [bodyB_note (by omega), flatTo_all (f := fun n => putB n 6) (xs := m.head.v) (k := i) (by omega)]; simp [headBy, handB, *]; done) | (rw [bodyB_none (by omega) (by omega) (by omega)]; done) | (rw [bodyB_none (by omega) (by omega) (by omega)]; simp only [List.append_nil]; done) | (exfalso; omega))⟩, trivial⟩, trivial, rfl⟩⟩
          · try simp only [decide_eq_true_eq, decide_eq_false_iff_not, Bool.not_eq_true, Bool.not_eq_false, Bool.not_eq_true', Bool.not_eq_false', beq_iff_eq, bne_iff_ne, beq_eq_false_iff_ne, bne_eq_false_iff_eq, Int.not_lt, Int.not_le, ge_iff_le, gt_iff_lt] at h99
            refine AW_condF rfl ?_
            refine AW_skip ?_
            refine AW_seq ?_
            refine AW_region ?_
            refine AL_p (x_move rfl rfl) ?_
            refine AL_p (x_assign rfl rfl) ?_
            refine AL_nil ?_
            refine AW_ret ?_
            exact ⟨rn [(0, 106)], ⟨⟨⟨_, rfl, VLe.rf⟩, trivial⟩, ⟨⟨_, rfl, BLe.arr (by first | (rw [bodyB_add (by omega)]; simp only [flatTo_all (f := actBytes) (xs := m.acts) (k := j) (by omega), List.append_assoc, List.nil_append]; done) | (rw [bodyB_flip (by omega)]; done) | (rw [bodyB_flip (by omega)]; simp only [List.append_assoc, List.nil_append]; done) | (rw [bodyB_note (by omega)]; simp only [headBy, flatTo_all (f := fun n => putB n 6) (xs := m.head.v) (k := i) (by omega), List.append_assoc, List.nil_append]; done) | (rw [bodyB_note (by omega), flatTo_all (f := fun n => putB n 6) (xs := m.head.v) (k := i) (by omega)]; simp [headBy, handB, *]; done) | (rw [bodyB_none (by omega) (by omega) (by omega)]; done) | (rw [bodyB_none (by omega) (by omega) (by omega)]; simp only [List.append_nil]; done) | (exfalso; omega))⟩, trivial⟩, trivial, rfl⟩⟩
    · try simp only [decide_eq_true_eq, decide_eq_false_iff_not, Bool.not_eq_true, Bool.not_eq_false, Bool.not_eq_true', Bool.not_eq_false', beq_iff_eq, bne_iff_ne, beq_eq_false_iff_ne, bne_eq_false_iff_eq, Int.not_lt, Int.not_le, ge_iff_le, gt_iff_lt] at h26
      refine AW_condF rfl ?_
      refine AW_skip ?_
      refine AW_seq ?_
      refine AW_seq ?_
      refine AW_region ?_
      refine AL_p (x_field (off := 0) (o' := 0) rfl rfl rfl (by kernel_rfl) rfl) ?_
      refine AL_p (x_load1 rfl rfl rfl (by kernel_rfl) rfl) ?_
      refine AL_b (x_eql rfl rfl rfl) (fun b99 h99 => ?_)
      refine AL_nil ?_
      cases b99
      rotate_left
      · try simp only [decide_eq_true_eq, decide_eq_false_iff_not, Bool.not_eq_true, Bool.not_eq_false, Bool.not_eq_true', Bool.not_eq_false', beq_iff_eq, bne_iff_ne, beq_eq_false_iff_ne, bne_eq_false_iff_eq, Int.not_lt, Int.not_le, ge_iff_le, gt_iff_lt] at h99
        have hN2 := hN (by omega)
        have hN8 := eight_8 hN2
        have hhf := head_len (l := m.head.v)
        refine AW_condT rfl ?_
        refine AW_seq ?_
        refine AW_seq ?_
        refine AW_region ?_
        refine AL_p (x_field (off := 8) (o' := 8) rfl rfl rfl (by kernel_rfl) rfl) ?_
        refine AL_b (x_load1 rfl rfl rfl (by kernel_rfl) rfl) (fun b101 h101 => ?_)
        refine AL_nil ?_
        cases b101
        rotate_left
        · try simp only [decide_eq_true_eq, decide_eq_false_iff_not, Bool.not_eq_true, Bool.not_eq_false, Bool.not_eq_true', Bool.not_eq_false', beq_iff_eq, bne_iff_ne, beq_eq_false_iff_ne, bne_eq_false_iff_eq, Int.not_lt, Int.not_le, ge_iff_le, gt_iff_lt] at h101
          refine AW_condT rfl ?_
          refine AW_region ?_
          refine AL_p (x_move rfl rfl) ?_
          refine AL_p (y_bslice (E := 5) (e := (intE .u8)) [.const (.int .u8 (1))] ([1]) 111 rfl rfl rfl rfl rfl rfl rfl rfl FitL.rf rfl rfl rfl rfl rfl rfl (by kernel_rfl)) ?_
          refine AL_p (y_append 112 rfl rfl rfl rfl rfl rfl rfl rfl (by kernel_rfl) (by (try simp only [List.length_append, List.length_cons, List.length_nil, putB_len, pairTo_len]); omega)) ?_
          refine AL_p (x_assign rfl rfl) ?_
          refine AL_nil ?_
          refine AW_seq ?_
          refine AW_region ?_
          refine AL_p (x_assign rfl rfl) ?_
          refine AL_nil ?_
          refine AW_block ?_
          refine AW_loop2 (ι := {q : Nat // q ≤ m.head.v.length}) (fun p => [(3, .one (.own 112)), (7, .one (.c (.int .i64 ((p.1) : Int))))]) (fun p => [(112, some (.arr 5 (intE .u8) ([handB m.hand] ++ flatTo (fun n => putB n 6) m.head.v (p.1)) true))]) [1] [100, 101] (fun p => m.head.v.length - (p.1)) ⟨0, by omega⟩ (rn []) ?_ ?_
          exact ⟨by (repeat refine ⟨⟨_, rfl, by first | exact VLe.rf | exact vle_int (by dsimp only; omega)⟩, ?_⟩); exact trivial, by (repeat refine ⟨⟨_, rfl, by first | exact BLe.rf | exact BLe.box AllC.rf | exact BLe.arr (by first | (rw [flatTo_zero, List.append_nil]; simp [handB, *]; done) | (rw [← flatTo_more (f := fun n => putB n 6) (k := i) (by omega)]; simp only [List.append_assoc]; done) | (exfalso; omega))⟩, ?_⟩); exact trivial, by repeat (first | exact trivial | refine ⟨⟨rfl, by first | (left; intro h; cases h) | (right; rfl), fun _ h => ⟨_, h⟩⟩, ?_⟩), rfl⟩
          rintro ⟨i, hinv⟩
          dsimp only
          have hi := hinv
          refine AW_seq ?_
          refine AW_seq ?_
          refine AW_region ?_
          refine AL_p (x_move rfl rfl) ?_
          refine AL_b (x_lss rfl rfl rfl) (fun b109 h109 => ?_)
          refine AL_nil ?_
          cases b109
          rotate_left
          · try simp only [decide_eq_true_eq, decide_eq_false_iff_not, Bool.not_eq_true, Bool.not_eq_false, Bool.not_eq_true', Bool.not_eq_false', beq_iff_eq, bne_iff_ne, beq_eq_false_iff_ne, bne_eq_false_iff_eq, Int.not_lt, Int.not_le, ge_iff_le, gt_iff_lt] at h109
            have hf8 := fits48 (eight_get hN2 (k := i) (by omega))
            have hhi := hhf i
            refine AW_condT rfl ?_
            refine AW_skip ?_
            refine AW_seq ?_
            refine AW_block ?_
            refine AW_region ?_
            refine AL_p (x_move rfl rfl) ?_
            refine AL_p (x_field (off := 9) (o' := 9) rfl rfl rfl (by kernel_rfl) rfl) ?_
            refine AL_p (x_field (off := 0) (o' := 9) rfl rfl rfl (by kernel_rfl) rfl) ?_
            refine AL_p (x_load1 rfl rfl rfl (by kernel_rfl) rfl) ?_
            refine AL_p (x_move rfl rfl) ?_
            refine AL_p (x_index (E := 3) (n := 1) rfl rfl rfl (by kernel_rfl) rfl (k := i) (by omega) (by omega)) ?_
            refine AL_p (x_eload1 rfl rfl (by kernel_rfl) rfl) ?_
            refine AL_p (x_callR rfl rfl rfl (putNumS_c _ (m.head.v[i]'(by omega)) 6 (by omega) (by have e : (256 : Int) ^ 6 = 281474976710656 := rfl; omega) (by omega) (by omega) (by (try simp only [List.length_append, List.length_cons, List.length_nil, putB_len, pairTo_len]); omega) 113) rfl AllV.rf rfl rfl rfl rfl rfl) ?_
            refine AL_p (x_move rfl rfl) ?_
            refine AL_p (x_extract rfl rfl rfl) ?_
            refine AL_p (x_extract rfl rfl rfl) ?_
            refine AL_p (x_assign rfl rfl) ?_
            refine AL_nil ?_
            refine AW_region ?_
            refine AL_p (x_move rfl rfl) ?_
            refine AL_p (x_add rfl rfl rfl (IntWalk.i64_in _ (by omega))) ?_
            refine AL_p (x_assign rfl rfl) ?_
            refine AL_nil ?_
            refine ⟨⟨i + 1, by omega⟩, rn [(112, 113)], ?_, by dsimp only; omega⟩
            exact ⟨by (repeat refine ⟨⟨_, rfl, by first | exact VLe.rf | exact vle_int (by dsimp only; omega)⟩, ?_⟩); exact trivial, by (repeat refine ⟨⟨_, rfl, by first | exact BLe.rf | exact BLe.box AllC.rf | exact BLe.arr (by first | (rw [flatTo_zero, List.append_nil]; simp [handB, *]; done) | (rw [← flatTo_more (f := fun n => putB n 6) (k := i) (by omega)]; simp only [List.append_assoc]; done) | (exfalso; omega))⟩, ?_⟩); exact trivial, by repeat (first | exact trivial | refine ⟨⟨rfl, by first | (left; intro h; cases h) | (right; rfl), fun _ h => ⟨_, h⟩⟩, ?_⟩), rfl⟩
          · try simp only [decide_eq_true_eq, decide_eq_false_iff_not, Bool.not_eq_true, Bool.not_eq_false, Bool.not_eq_true', Bool.not_eq_false', beq_iff_eq, bne_iff_ne, beq_eq_false_iff_ne, bne_eq_false_iff_eq, Int.not_lt, Int.not_le, ge_iff_le, gt_iff_lt] at h109
            refine AW_condF rfl ?_
            refine AW_exit (BQ_hit ?_)
            refine AW_seq ?_
            refine AW_region ?_
            refine AL_p (x_move rfl rfl) ?_
            refine AL_p (x_assign rfl rfl) ?_
            refine AL_nil ?_
            refine AW_ret ?_
            exact ⟨rn [(0, 112)], ⟨⟨⟨_, rfl, VLe.rf⟩, trivial⟩, ⟨⟨_, rfl, BLe.arr (by first | (rw [bodyB_add (by omega)]; simp only [flatTo_all (f := actBytes) (xs := m.acts) (k := j) (by omega), List.append_assoc, List.nil_append]; done) | (rw [bodyB_flip (by omega)]; done) | (rw [bodyB_flip (by omega)]; simp only [List.append_assoc, List.nil_append]; done) | (rw [bodyB_note (by omega)]; simp only [headBy, flatTo_all (f := fun n => putB n 6) (xs := m.head.v) (k := i) (by omega), List.append_assoc, List.nil_append]; done) | (rw [bodyB_note (by omega), flatTo_all (f := fun n => putB n 6) (xs := m.head.v) (k := i) (by omega)]; simp [headBy, handB, *]; done) | (rw [bodyB_none (by omega) (by omega) (by omega)]; done) | (rw [bodyB_none (by omega) (by omega) (by omega)]; simp only [List.append_nil]; done) | (exfalso; omega))⟩, trivial⟩, trivial, rfl⟩⟩
        · try simp only [decide_eq_true_eq, decide_eq_false_iff_not, Bool.not_eq_true, Bool.not_eq_false, Bool.not_eq_true', Bool.not_eq_false', beq_iff_eq, bne_iff_ne, beq_eq_false_iff_ne, bne_eq_false_iff_eq, Int.not_lt, Int.not_le, ge_iff_le, gt_iff_lt] at h101
          refine AW_condF rfl ?_
          refine AW_region ?_
          refine AL_p (x_move rfl rfl) ?_
          refine AL_p (y_bslice (E := 5) (e := (intE .u8)) [.const (.int .u8 (0))] ([0]) 114 rfl rfl rfl rfl rfl rfl rfl rfl FitL.rf rfl rfl rfl rfl rfl rfl (by kernel_rfl)) ?_
          refine AL_p (y_append 115 rfl rfl rfl rfl rfl rfl rfl rfl (by kernel_rfl) (by (try simp only [List.length_append, List.length_cons, List.length_nil, putB_len, pairTo_len]); omega)) ?_
          refine AL_p (x_assign rfl rfl) ?_
          refine AL_nil ?_
          refine AW_seq ?_
          refine AW_region ?_
          refine AL_p (x_assign rfl rfl) ?_
          refine AL_nil ?_
          refine AW_block ?_
          refine AW_loop2 (ι := {q : Nat // q ≤ m.head.v.length}) (fun p => [(3, .one (.own 115)), (7, .one (.c (.int .i64 ((p.1) : Int))))]) (fun p => [(115, some (.arr 5 (intE .u8) ([handB m.hand] ++ flatTo (fun n => putB n 6) m.head.v (p.1)) true))]) [1] [100, 101] (fun p => m.head.v.length - (p.1)) ⟨0, by omega⟩ (rn []) ?_ ?_
          exact ⟨by (repeat refine ⟨⟨_, rfl, by first | exact VLe.rf | exact vle_int (by dsimp only; omega)⟩, ?_⟩); exact trivial, by (repeat refine ⟨⟨_, rfl, by first | exact BLe.rf | exact BLe.box AllC.rf | exact BLe.arr (by first | (rw [flatTo_zero, List.append_nil]; simp [handB, *]; done) | (rw [← flatTo_more (f := fun n => putB n 6) (k := i) (by omega)]; simp only [List.append_assoc]; done) | (exfalso; omega))⟩, ?_⟩); exact trivial, by repeat (first | exact trivial | refine ⟨⟨rfl, by first | (left; intro h; cases h) | (right; rfl), fun _ h => ⟨_, h⟩⟩, ?_⟩), rfl⟩
          rintro ⟨i, hinv⟩
          dsimp only
          have hi := hinv
          refine AW_seq ?_
          refine AW_seq ?_
          refine AW_region ?_
          refine AL_p (x_move rfl rfl) ?_
          refine AL_b (x_lss rfl rfl rfl) (fun b109 h109 => ?_)
          refine AL_nil ?_
          cases b109
          rotate_left
          · try simp only [decide_eq_true_eq, decide_eq_false_iff_not, Bool.not_eq_true, Bool.not_eq_false, Bool.not_eq_true', Bool.not_eq_false', beq_iff_eq, bne_iff_ne, beq_eq_false_iff_ne, bne_eq_false_iff_eq, Int.not_lt, Int.not_le, ge_iff_le, gt_iff_lt] at h109
            have hf8 := fits48 (eight_get hN2 (k := i) (by omega))
            have hhi := hhf i
            refine AW_condT rfl ?_
            refine AW_skip ?_
            refine AW_seq ?_
            refine AW_block ?_
            refine AW_region ?_
            refine AL_p (x_move rfl rfl) ?_
            refine AL_p (x_field (off := 9) (o' := 9) rfl rfl rfl (by kernel_rfl) rfl) ?_
            refine AL_p (x_field (off := 0) (o' := 9) rfl rfl rfl (by kernel_rfl) rfl) ?_
            refine AL_p (x_load1 rfl rfl rfl (by kernel_rfl) rfl) ?_
            refine AL_p (x_move rfl rfl) ?_
            refine AL_p (x_index (E := 3) (n := 1) rfl rfl rfl (by kernel_rfl) rfl (k := i) (by omega) (by omega)) ?_
            refine AL_p (x_eload1 rfl rfl (by kernel_rfl) rfl) ?_
            refine AL_p (x_callR rfl rfl rfl (putNumS_c _ (m.head.v[i]'(by omega)) 6 (by omega) (by have e : (256 : Int) ^ 6 = 281474976710656 := rfl; omega) (by omega) (by omega) (by (try simp only [List.length_append, List.length_cons, List.length_nil, putB_len, pairTo_len]); omega) 113) rfl AllV.rf rfl rfl rfl rfl rfl) ?_
            refine AL_p (x_move rfl rfl) ?_
            refine AL_p (x_extract rfl rfl rfl) ?_
            refine AL_p (x_extract rfl rfl rfl) ?_
            refine AL_p (x_assign rfl rfl) ?_
            refine AL_nil ?_
            refine AW_region ?_
            refine AL_p (x_move rfl rfl) ?_
            refine AL_p (x_add rfl rfl rfl (IntWalk.i64_in _ (by omega))) ?_
            refine AL_p (x_assign rfl rfl) ?_
            refine AL_nil ?_
            refine ⟨⟨i + 1, by omega⟩, rn [(115, 113)], ?_, by dsimp only; omega⟩
            exact ⟨by (repeat refine ⟨⟨_, rfl, by first | exact VLe.rf | exact vle_int (by dsimp only; omega)⟩, ?_⟩); exact trivial, by (repeat refine ⟨⟨_, rfl, by first | exact BLe.rf | exact BLe.box AllC.rf | exact BLe.arr (by first | (rw [flatTo_zero, List.append_nil]; simp [handB, *]; done) | (rw [← flatTo_more (f := fun n => putB n 6) (k := i) (by omega)]; simp only [List.append_assoc]; done) | (exfalso; omega))⟩, ?_⟩); exact trivial, by repeat (first | exact trivial | refine ⟨⟨rfl, by first | (left; intro h; cases h) | (right; rfl), fun _ h => ⟨_, h⟩⟩, ?_⟩), rfl⟩
          · try simp only [decide_eq_true_eq, decide_eq_false_iff_not, Bool.not_eq_true, Bool.not_eq_false, Bool.not_eq_true', Bool.not_eq_false', beq_iff_eq, bne_iff_ne, beq_eq_false_iff_ne, bne_eq_false_iff_eq, Int.not_lt, Int.not_le, ge_iff_le, gt_iff_lt] at h109
            refine AW_condF rfl ?_
            refine AW_exit (BQ_hit ?_)
            refine AW_seq ?_
            refine AW_region ?_
            refine AL_p (x_move rfl rfl) ?_
            refine AL_p (x_assign rfl rfl) ?_
            refine AL_nil ?_
            refine AW_ret ?_
            exact ⟨rn [(0, 115)], ⟨⟨⟨_, rfl, VLe.rf⟩, trivial⟩, ⟨⟨_, rfl, BLe.arr (by first | (rw [bodyB_add (by omega)]; simp only [flatTo_all (f := actBytes) (xs := m.acts) (k := j) (by omega), List.append_assoc, List.nil_append]; done) | (rw [bodyB_flip (by omega)]; done) | (rw [bodyB_flip (by omega)]; simp only [List.append_assoc, List.nil_append]; done) | (rw [bodyB_note (by omega)]; simp only [headBy, flatTo_all (f := fun n => putB n 6) (xs := m.head.v) (k := i) (by omega), List.append_assoc, List.nil_append]; done) | (rw [bodyB_note (by omega), flatTo_all (f := fun n => putB n 6) (xs := m.head.v) (k := i) (by omega)]; simp [headBy, handB, *]; done) | (rw [bodyB_none (by omega) (by omega) (by omega)]; done) | (rw [bodyB_none (by omega) (by omega) (by omega)]; simp only [List.append_nil]; done) | (exfalso; omega))⟩, trivial⟩, trivial, rfl⟩⟩
      · try simp only [decide_eq_true_eq, decide_eq_false_iff_not, Bool.not_eq_true, Bool.not_eq_false, Bool.not_eq_true', Bool.not_eq_false', beq_iff_eq, bne_iff_ne, beq_eq_false_iff_ne, bne_eq_false_iff_eq, Int.not_lt, Int.not_le, ge_iff_le, gt_iff_lt] at h99
        refine AW_condF rfl ?_
        refine AW_skip ?_
        refine AW_seq ?_
        refine AW_region ?_
        refine AL_p (x_move rfl rfl) ?_
        refine AL_p (x_assign rfl rfl) ?_
        refine AL_nil ?_
        refine AW_ret ?_
        exact ⟨rn [(0, 102)], ⟨⟨⟨_, rfl, VLe.rf⟩, trivial⟩, ⟨⟨_, rfl, BLe.arr (by first | (rw [bodyB_add (by omega)]; simp only [flatTo_all (f := actBytes) (xs := m.acts) (k := j) (by omega), List.append_assoc, List.nil_append]; done) | (rw [bodyB_flip (by omega)]; done) | (rw [bodyB_flip (by omega)]; simp only [List.append_assoc, List.nil_append]; done) | (rw [bodyB_note (by omega)]; simp only [headBy, flatTo_all (f := fun n => putB n 6) (xs := m.head.v) (k := i) (by omega), List.append_assoc, List.nil_append]; done) | (rw [bodyB_note (by omega), flatTo_all (f := fun n => putB n 6) (xs := m.head.v) (k := i) (by omega)]; simp [headBy, handB, *]; done) | (rw [bodyB_none (by omega) (by omega) (by omega)]; done) | (rw [bodyB_none (by omega) (by omega) (by omega)]; simp only [List.append_nil]; done) | (exfalso; omega))⟩, trivial⟩, trivial, rfl⟩⟩
  · try simp only [decide_eq_true_eq, decide_eq_false_iff_not, Bool.not_eq_true, Bool.not_eq_false, Bool.not_eq_true', Bool.not_eq_false', beq_iff_eq, bne_iff_ne, beq_eq_false_iff_ne, bne_eq_false_iff_eq, Int.not_lt, Int.not_le, ge_iff_le, gt_iff_lt] at h11
    refine AL_g rfl rfl (x_field (off := 0) (o' := 0) rfl rfl rfl (by kernel_rfl) rfl) ?_
    refine AL_g rfl rfl (x_load1 rfl rfl rfl (by kernel_rfl) rfl) ?_
    refine AL_gb rfl rfl (x_eql rfl rfl rfl) (fun b15 h15 => ?_)
    refine AL_p (x_pickF rfl rfl rfl) ?_
    refine AL_nil ?_
    cases b15
    rotate_left
    · try simp only [decide_eq_true_eq, decide_eq_false_iff_not, Bool.not_eq_true, Bool.not_eq_false, Bool.not_eq_true', Bool.not_eq_false', beq_iff_eq, bne_iff_ne, beq_eq_false_iff_ne, bne_eq_false_iff_eq, Int.not_lt, Int.not_le, ge_iff_le, gt_iff_lt] at h15
      refine AW_condT rfl ?_
      refine AW_region ?_
      refine AL_p (x_move rfl rfl) ?_
      refine AL_p (x_field (off := 3) (o' := 3) rfl rfl rfl (by kernel_rfl) rfl) ?_
      refine AL_p (x_load1 rfl rfl rfl (by kernel_rfl) rfl) ?_
      refine AL_p (x_callR rfl rfl rfl (putNumS_c _ m.epoch 4 (by omega) (by have e : (256 : Int) ^ 4 = 4294967296 := rfl; omega) (by omega) (by omega) (by (try simp only [List.length_append, List.length_cons, List.length_nil, putB_len, pairTo_len]); omega) 102) rfl AllV.rf rfl rfl rfl rfl rfl) ?_
      refine AL_p (x_move rfl rfl) ?_
      refine AL_p (x_extract rfl rfl rfl) ?_
      refine AL_p (x_extract rfl rfl rfl) ?_
      refine AL_p (x_assign rfl rfl) ?_
      refine AL_nil ?_
      refine AW_seq ?_
      refine AW_seq ?_
      refine AW_region ?_
      refine AL_p (x_field (off := 0) (o' := 0) rfl rfl rfl (by kernel_rfl) rfl) ?_
      refine AL_p (x_load1 rfl rfl rfl (by kernel_rfl) rfl) ?_
      refine AL_b (x_eql rfl rfl rfl) (fun b26 h26 => ?_)
      refine AL_nil ?_
      cases b26
      rotate_left
      · try simp only [decide_eq_true_eq, decide_eq_false_iff_not, Bool.not_eq_true, Bool.not_eq_false, Bool.not_eq_true', Bool.not_eq_false', beq_iff_eq, bne_iff_ne, beq_eq_false_iff_ne, bne_eq_false_iff_eq, Int.not_lt, Int.not_le, ge_iff_le, gt_iff_lt] at h26
        have hA2 := hA (by omega)
        have hmat := hA2.2.1
        have hact := hA2.2.2
        have hA3 := hA2.1
        have ha12 := actsB_12 hact
        have hpl : putB (m.acts.length : Int) 1 = [(m.acts.length : Int)] := putB_one (by omega) (by omega)
        have haf := acts_len (l := m.acts)
        refine AW_condT rfl ?_
        refine AW_seq ?_
        refine AW_region ?_
        refine AL_p (x_move rfl rfl) ?_
        refine AL_p (x_field (off := 4) (o' := 4) rfl rfl rfl (by kernel_rfl) rfl) ?_
        refine AL_p (x_load1 rfl rfl rfl (by kernel_rfl) rfl) ?_
        refine AL_p (x_callR rfl rfl rfl (putNumS_c _ m.prio 2 (by omega) (by have e : (256 : Int) ^ 2 = 65536 := rfl; omega) (by omega) (by omega) (by (try simp only [List.length_append, List.length_cons, List.length_nil, putB_len, pairTo_len]); omega) 103) rfl AllV.rf rfl rfl rfl rfl rfl) ?_
        refine AL_p (x_move rfl rfl) ?_
        refine AL_p (x_extract rfl rfl rfl) ?_
        refine AL_p (x_extract rfl rfl rfl) ?_
        refine AL_p (x_assign rfl rfl) ?_
        refine AL_nil ?_
        refine AW_seq ?_
        refine AW_seq ?_
        refine AW_region ?_
        refine AL_p (x_assign rfl rfl) ?_
        refine AL_nil ?_
        refine AW_block ?_
        refine AW_loop2 (ι := {q : Nat // q ≤ 8}) (fun p => [(3, .one (.own 103)), (4, .one (.c (.int .i64 ((p.1) : Int))))]) (fun p => [(103, some (.arr 5 (intE .u8) (putB m.epoch 4 ++ putB m.prio 2 ++ pairTo m.mat (p.1)) true))]) [1] [100, 101, 102] (fun p => 8 - (p.1)) ⟨0, by omega⟩ (rn []) ?_ ?_
        exact ⟨by (repeat refine ⟨⟨_, rfl, by first | exact VLe.rf | exact vle_int (by dsimp only; omega)⟩, ?_⟩); exact trivial, by (repeat refine ⟨⟨_, rfl, by first | exact BLe.rf | exact BLe.box AllC.rf | exact BLe.arr (by first | (rw [pairTo_zero, List.append_nil]; done) | (rw [← pairTo_more hv1 hm1]; simp only [List.append_assoc]; done) | (exfalso; omega))⟩, ?_⟩); exact trivial, by repeat (first | exact trivial | refine ⟨⟨rfl, by first | (left; intro h; cases h) | (right; rfl), fun _ h => ⟨_, h⟩⟩, ?_⟩), rfl⟩
        rintro ⟨k, hinv⟩
        dsimp only
        have hk := hinv
        refine AW_seq ?_
        refine AW_seq ?_
        refine AW_region ?_
        refine AL_p (x_move rfl rfl) ?_
        refine AL_b (x_lss rfl rfl rfl) (fun b35 h35 => ?_)
        refine AL_nil ?_
        cases b35
        rotate_left
        · try simp only [decide_eq_true_eq, decide_eq_false_iff_not, Bool.not_eq_true, Bool.not_eq_false, Bool.not_eq_true', Bool.not_eq_false', beq_iff_eq, bne_iff_ne, beq_eq_false_iff_ne, bne_eq_false_iff_eq, Int.not_lt, Int.not_le, ge_iff_le, gt_iff_lt] at h35
          obtain ⟨hv1, hm1, hvr, hmr⟩ := matchB_get hmat (fun x hx => (hi0_5 x hx).2) (k := k) (by omega)
          refine AW_condT rfl ?_
          refine AW_skip ?_
          refine AW_seq ?_
          refine AW_block ?_
          refine AW_seq ?_
          refine AW_region ?_
          refine AL_p (x_move rfl rfl) ?_
          refine AL_p (x_field (off := 5) (o' := 5) rfl rfl rfl (by kernel_rfl) rfl) ?_
          refine AL_p (x_field (off := 0) (o' := 5) rfl rfl rfl (by kernel_rfl) rfl) ?_
          refine AL_p (x_load1 rfl rfl rfl (by kernel_rfl) rfl) ?_
          refine AL_p (x_move rfl rfl) ?_
          refine AL_p (x_index (E := 3) (n := 1) rfl rfl rfl (by kernel_rfl) rfl (k := k) (by omega) (by omega)) ?_
          refine AL_p (x_eload1 rfl rfl (by kernel_rfl) rfl) ?_
          refine AL_p (x_callR rfl rfl rfl (putNumS_c _ (m.mat.v[k]'hv1) 6 (by omega) (by have e : (256 : Int) ^ 6 = 281474976710656 := rfl; omega) (by omega) (by omega) (by (try simp only [List.length_append, List.length_cons, List.length_nil, putB_len, pairTo_len]); omega) 104) rfl AllV.rf rfl rfl rfl rfl rfl) ?_
          refine AL_p (x_move rfl rfl) ?_
          refine AL_p (x_extract rfl rfl rfl) ?_
          refine AL_p (x_extract rfl rfl rfl) ?_
          refine AL_p (x_assign rfl rfl) ?_
          refine AL_nil ?_
          refine AW_region ?_
          refine AL_p (x_move rfl rfl) ?_
          refine AL_p (x_field (off := 5) (o' := 5) rfl rfl rfl (by kernel_rfl) rfl) ?_
          refine AL_p (x_field (off := 1) (o' := 6) rfl rfl rfl (by kernel_rfl) rfl) ?_
          refine AL_p (x_load1 rfl rfl rfl (by kernel_rfl) rfl) ?_
          refine AL_p (x_move rfl rfl) ?_
          refine AL_p (x_index (E := 3) (n := 1) rfl rfl rfl (by kernel_rfl) rfl (k := k) (by omega) (by omega)) ?_
          refine AL_p (x_eload1 rfl rfl (by kernel_rfl) rfl) ?_
          refine AL_p (x_callR rfl rfl rfl (putNumS_c _ (m.mat.m[k]'hm1) 6 (by omega) (by have e : (256 : Int) ^ 6 = 281474976710656 := rfl; omega) (by omega) (by omega) (by (try simp only [List.length_append, List.length_cons, List.length_nil, putB_len, pairTo_len]); omega) 105) rfl AllV.rf rfl rfl rfl rfl rfl) ?_
          refine AL_p (x_move rfl rfl) ?_
          refine AL_p (x_extract rfl rfl rfl) ?_
          refine AL_p (x_extract rfl rfl rfl) ?_
          refine AL_p (x_assign rfl rfl) ?_
          refine AL_nil ?_
          refine AW_region ?_
          refine AL_p (x_move rfl rfl) ?_
          refine AL_p (x_add rfl rfl rfl (IntWalk.i64_in _ (by omega))) ?_
          refine AL_p (x_assign rfl rfl) ?_
          refine AL_nil ?_
          refine ⟨⟨k + 1, by omega⟩, rn [(103, 105)], ?_, by dsimp only; omega⟩
          exact ⟨by (repeat refine ⟨⟨_, rfl, by first | exact VLe.rf | exact vle_int (by dsimp only; omega)⟩, ?_⟩); exact trivial, by (repeat refine ⟨⟨_, rfl, by first | exact BLe.rf | exact BLe.box AllC.rf | exact BLe.arr (by first | (rw [pairTo_zero, List.append_nil]; done) | (rw [← pairTo_more hv1 hm1]; simp only [List.append_assoc]; done) | (exfalso; omega))⟩, ?_⟩); exact trivial, by repeat (first | exact trivial | refine ⟨⟨rfl, by first | (left; intro h; cases h) | (right; rfl), fun _ h => ⟨_, h⟩⟩, ?_⟩), rfl⟩
        · try simp only [decide_eq_true_eq, decide_eq_false_iff_not, Bool.not_eq_true, Bool.not_eq_false, Bool.not_eq_true', Bool.not_eq_false', beq_iff_eq, bne_iff_ne, beq_eq_false_iff_ne, bne_eq_false_iff_eq, Int.not_lt, Int.not_le, ge_iff_le, gt_iff_lt] at h35
          obtain rfl : k = 8 := by omega
          refine AW_condF rfl ?_
          refine AW_exit (BQ_hit ?_)
          refine AW_seq ?_
          refine AW_region ?_
          refine AL_p (x_move rfl rfl) ?_
          refine AL_p (x_field (off := 7) (o' := 7) rfl rfl rfl (by kernel_rfl) rfl) ?_
          refine AL_p (x_load1 rfl rfl rfl (by kernel_rfl) rfl) ?_
          refine AL_p (x_len (E := 114) (n := 3) rfl rfl (by kernel_rfl)) ?_
          refine AL_p (x_callR rfl rfl rfl (putNumS_c _ (m.acts.length : Int) 1 (by omega) (by have e : (256 : Int) ^ 1 = 256 := rfl; omega) (by omega) (by omega) (by (try simp only [List.length_append, List.length_cons, List.length_nil, putB_len, pairTo_len]); omega) 106) rfl AllV.rf rfl rfl rfl rfl rfl) ?_
          refine AL_p (x_move rfl rfl) ?_
          refine AL_p (x_extract rfl rfl rfl) ?_
          refine AL_p (x_extract rfl rfl rfl) ?_
          refine AL_p (x_assign rfl rfl) ?_
          refine AL_nil ?_
          refine AW_seq ?_
          refine AW_region ?_
          refine AL_p (x_field (off := 7) (o' := 7) rfl rfl rfl (by kernel_rfl) rfl) ?_
          refine AL_p (x_load1 rfl rfl rfl (by kernel_rfl) rfl) ?_
          refine AL_p (x_len (E := 114) (n := 3) rfl rfl (by kernel_rfl)) ?_
          refine AL_p (x_move rfl rfl) ?_
          refine AL_nil ?_
          refine AW_block ?_
          refine AW_loop2 (ι := {q : Nat // q ≤ m.acts.length}) (fun p => [(3, .one (.own 106)), (71, .one (.c (.int .i64 ((p.1) : Int))))]) (fun p => [(106, some (.arr 5 (intE .u8) (putB m.epoch 4 ++ putB m.prio 2 ++ pairTo m.mat 8 ++ [(m.acts.length : Int)] ++ flatTo actBytes m.acts (p.1)) true))]) [1, 69, 70] [100, 101, 102, 103] (fun p => m.acts.length - (p.1)) ⟨0, by omega⟩ (rn []) ?_ ?_
          exact ⟨by (repeat refine ⟨⟨_, rfl, by first | exact VLe.rf | exact vle_int (by dsimp only; omega)⟩, ?_⟩); exact trivial, by (repeat refine ⟨⟨_, rfl, by first | exact BLe.rf | exact BLe.box AllC.rf | exact BLe.arr (by first | (rw [flatTo_zero, List.append_nil]; done) | (rw [hpl, flatTo_zero, List.append_nil]; done) | (rw [← flatTo_more (f := actBytes) (k := j) (by omega)]; simp only [actBytes, hp1, hp2, List.append_assoc, List.cons_append, List.nil_append]; done) | (exfalso; omega))⟩, ?_⟩); exact trivial, by repeat (first | exact trivial | refine ⟨⟨rfl, by first | (left; intro h; cases h) | (right; rfl), fun _ h => ⟨_, h⟩⟩, ?_⟩), rfl⟩
          rintro ⟨j, hinv⟩
          dsimp only
          have hj := hinv
          refine AW_seq ?_
          refine AW_region ?_
          refine AL_b (x_lss rfl rfl rfl) (fun b72 h72 => ?_)
          refine AL_nil ?_
          refine AW_seq ?_
          cases b72
          rotate_left
          · try simp only [decide_eq_true_eq, decide_eq_false_iff_not, Bool.not_eq_true, Bool.not_eq_false, Bool.not_eq_true', Bool.not_eq_false', beq_iff_eq, bne_iff_ne, beq_eq_false_iff_ne, bne_eq_false_iff_eq, Int.not_lt, Int.not_le, ge_iff_le, gt_iff_lt] at h72
            have hab := actB_in (actsB_get hact (k := j) (by omega))
            have hp1 : putB (m.acts[j]'(by omega)).kind 1 = [(m.acts[j]'(by omega)).kind] := putB_one (by omega) (by omega)
            have hp2 : putB (m.acts[j]'(by omega)).a 1 = [(m.acts[j]'(by omega)).a] := putB_one (by omega) (by omega)
            have haj := haf j
            refine AW_condT rfl ?_
            refine AW_skip ?_
            refine AW_seq ?_
            refine AW_block ?_
            refine AW_seq ?_
            refine AW_region ?_
            refine AL_p (x_index (E := 114) (n := 3) rfl rfl rfl (by kernel_rfl) rfl (k := j) (by omega) (by omega)) ?_
            refine AL_p (x_eloadW (n := 3) rfl rfl (by kernel_rfl) rfl) ?_
            refine AL_p (x_alloc (z := .agg #[.int .i64 0, .int .i64 0, .int .i64 0]) 107 rfl (by kernel_rfl) rfl rfl rfl rfl) ?_
            refine AL_p (x_store (n := 3) rfl rfl rfl rfl (by kernel_rfl) rfl rfl rfl) ?_
            refine AL_nil ?_
            refine AW_seq ?_
            refine AW_region ?_
            refine AL_p (x_move rfl rfl) ?_
            refine AL_p (x_field (off := 0) (o' := 0) rfl rfl rfl (by kernel_rfl) rfl) ?_
            refine AL_p (x_load1 rfl rfl rfl (by kernel_rfl) rfl) ?_
            refine AL_p (x_callR rfl rfl rfl (putNumS_c _ (m.acts[j]'(by omega)).kind 1 (by omega) (by have e : (256 : Int) ^ 1 = 256 := rfl; omega) (by omega) (by omega) (by (try simp only [List.length_append, List.length_cons, List.length_nil, putB_len, pairTo_len]); omega) 108) rfl AllV.rf rfl rfl rfl rfl rfl) ?_
            refine AL_p (x_move rfl rfl) ?_
            refine AL_p (x_extract rfl rfl rfl) ?_
            refine AL_p (x_extract rfl rfl rfl) ?_
            refine AL_p (x_assign rfl rfl) ?_
            refine AL_nil ?_
            refine AW_seq ?_
            refine AW_region ?_
            refine AL_p (x_move rfl rfl) ?_
            refine AL_p (x_field (off := 1) (o' := 1) rfl rfl rfl (by kernel_rfl) rfl) ?_
            refine AL_p (x_load1 rfl rfl rfl (by kernel_rfl) rfl) ?_
            refine AL_p (x_callR rfl rfl rfl (putNumS_c _ (m.acts[j]'(by omega)).a 1 (by omega) (by have e : (256 : Int) ^ 1 = 256 := rfl; omega) (by omega) (by omega) (by (try simp only [List.length_append, List.length_cons, List.length_nil, putB_len, pairTo_len]); omega) 109) rfl AllV.rf rfl rfl rfl rfl rfl) ?_
            refine AL_p (x_move rfl rfl) ?_
            refine AL_p (x_extract rfl rfl rfl) ?_
            refine AL_p (x_extract rfl rfl rfl) ?_
            refine AL_p (x_assign rfl rfl) ?_
            refine AL_nil ?_
            refine AW_region ?_
            refine AL_p (x_move rfl rfl) ?_
            refine AL_p (x_field (off := 2) (o' := 2) rfl rfl rfl (by kernel_rfl) rfl) ?_
            refine AL_p (x_load1 rfl rfl rfl (by kernel_rfl) rfl) ?_
            refine AL_p (x_callR rfl rfl rfl (putNumS_c _ (m.acts[j]'(by omega)).b 6 (by omega) (by have e : (256 : Int) ^ 6 = 281474976710656 := rfl; omega) (by omega) (by omega) (by (try simp only [List.length_append, List.length_cons, List.length_nil, putB_len, pairTo_len]); omega) 110) rfl AllV.rf rfl rfl rfl rfl rfl) ?_
            refine AL_p (x_move rfl rfl) ?_
            refine AL_p (x_extract rfl rfl rfl) ?_
            refine AL_p (x_extract rfl rfl rfl) ?_
            refine AL_p (x_assign rfl rfl) ?_
            refine AL_nil ?_
            refine AW_region ?_
            refine AL_p (x_add rfl rfl rfl (IntWalk.i64_in _ (by omega))) ?_
            refine AL_p (x_move rfl rfl) ?_
            refine AL_nil ?_
            refine ⟨⟨j + 1, by omega⟩, rn [(106, 110)], ?_, by dsimp only; omega⟩
            exact ⟨by (repeat refine ⟨⟨_, rfl, by first | exact VLe.rf | exact vle_int (by dsimp only; omega)⟩, ?_⟩); exact trivial, by (repeat refine ⟨⟨_, rfl, by first | exact BLe.rf | exact BLe.box AllC.rf | exact BLe.arr (by first | (rw [flatTo_zero, List.append_nil]; done) | (rw [hpl, flatTo_zero, List.append_nil]; done) | (rw [← flatTo_more (f := actBytes) (k := j) (by omega)]; simp only [actBytes, hp1, hp2, List.append_assoc, List.cons_append, List.nil_append]; done) | (exfalso; omega))⟩, ?_⟩); exact trivial, by repeat (first | exact trivial | refine ⟨⟨rfl, by first | (left; intro h; cases h) | (right; rfl), fun _ h => ⟨_, h⟩⟩, ?_⟩), rfl⟩
          · try simp only [decide_eq_true_eq, decide_eq_false_iff_not, Bool.not_eq_true, Bool.not_eq_false, Bool.not_eq_true', Bool.not_eq_false', beq_iff_eq, bne_iff_ne, beq_eq_false_iff_ne, bne_eq_false_iff_eq, Int.not_lt, Int.not_le, ge_iff_le, gt_iff_lt] at h72
            refine AW_condF rfl ?_
            refine AW_exit (BQ_hit ?_)
            refine AW_seq ?_
            refine AW_seq ?_
            refine AW_region ?_
            refine AL_p (x_field (off := 0) (o' := 0) rfl rfl rfl (by kernel_rfl) rfl) ?_
            refine AL_p (x_load1 rfl rfl rfl (by kernel_rfl) rfl) ?_
            refine AL_b (x_eql rfl rfl rfl) (fun b99 h99 => ?_)
            refine AL_nil ?_
            cases b99
            rotate_left
            · try simp only [decide_eq_true_eq, decide_eq_false_iff_not, Bool.not_eq_true, Bool.not_eq_false, Bool.not_eq_true', Bool.not_eq_false', beq_iff_eq, bne_iff_ne, beq_eq_false_iff_ne, bne_eq_false_iff_eq, Int.not_lt, Int.not_le, ge_iff_le, gt_iff_lt] at h99
              have hN2 := hN (by omega)
              have hN8 := eight_8 hN2
              have hhf := head_len (l := m.head.v)
              refine AW_condT rfl ?_
              refine AW_seq ?_
              refine AW_seq ?_
              refine AW_region ?_
              refine AL_p (x_field (off := 8) (o' := 8) rfl rfl rfl (by kernel_rfl) rfl) ?_
              refine AL_b (x_load1 rfl rfl rfl (by kernel_rfl) rfl) (fun b101 h101 => ?_)
              refine AL_nil ?_
              cases b101
              rotate_left
              · try simp only [decide_eq_true_eq, decide_eq_false_iff_not, Bool.not_eq_true, Bool.not_eq_false, Bool.not_eq_true', Bool.not_eq_false', beq_iff_eq, bne_iff_ne, beq_eq_false_iff_ne, bne_eq_false_iff_eq, Int.not_lt, Int.not_le, ge_iff_le, gt_iff_lt] at h101
                refine AW_condT rfl ?_
                refine AW_region ?_
                refine AL_p (x_move rfl rfl) ?_
                refine AL_p (y_bslice (E := 5) (e := (intE .u8)) [.const (.int .u8 (1))] ([1]) 111 rfl rfl rfl rfl rfl rfl rfl rfl FitL.rf rfl rfl rfl rfl rfl rfl (by kernel_rfl)) ?_
                refine AL_p (y_append 112 rfl rfl rfl rfl rfl rfl rfl rfl (by kernel_rfl) (by (try simp only [List.length_append, List.length_cons, List.length_nil, putB_len, pairTo_len]); omega)) ?_
                refine AL_p (x_assign rfl rfl) ?_
                refine AL_nil ?_
                refine AW_seq ?_
                refine AW_region ?_
                refine AL_p (x_assign rfl rfl) ?_
                refine AL_nil ?_
                refine AW_block ?_
                refine AW_loop2 (ι := {q : Nat // q ≤ m.head.v.length}) (fun p => [(3, .one (.own 112)), (7, .one (.c (.int .i64 ((p.1) : Int))))]) (fun p => [(112, some (.arr 5 (intE .u8) ([handB m.hand] ++ flatTo (fun n => putB n 6) m.head.v (p.1)) true))]) [1] [100, 101, 102, 103] (fun p => m.head.v.length - (p.1)) ⟨0, by omega⟩ (rn []) ?_ ?_
                exact ⟨by (repeat refine ⟨⟨_, rfl, by first | exact VLe.rf | exact vle_int (by dsimp only; omega)⟩, ?_⟩); exact trivial, by (repeat refine ⟨⟨_, rfl, by first | exact BLe.rf | exact BLe.box AllC.rf | exact BLe.arr (by first | (rw [flatTo_zero, List.append_nil]; simp [handB, *]; done) | (rw [← flatTo_more (f := fun n => putB n 6) (k := i) (by omega)]; simp only [List.append_assoc]; done) | (exfalso; omega))⟩, ?_⟩); exact trivial, by repeat (first | exact trivial | refine ⟨⟨rfl, by first | (left; intro h; cases h) | (right; rfl), fun _ h => ⟨_, h⟩⟩, ?_⟩), rfl⟩
                rintro ⟨i, hinv⟩
                dsimp only
                have hi := hinv
                refine AW_seq ?_
                refine AW_seq ?_
                refine AW_region ?_
                refine AL_p (x_move rfl rfl) ?_
                refine AL_b (x_lss rfl rfl rfl) (fun b109 h109 => ?_)
                refine AL_nil ?_
                cases b109
                rotate_left
                · try simp only [decide_eq_true_eq, decide_eq_false_iff_not, Bool.not_eq_true, Bool.not_eq_false, Bool.not_eq_true', Bool.not_eq_false', beq_iff_eq, bne_iff_ne, beq_eq_false_iff_ne, bne_eq_false_iff_eq, Int.not_lt, Int.not_le, ge_iff_le, gt_iff_lt] at h109
                  have hf8 := fits48 (eight_get hN2 (k := i) (by omega))
                  have hhi := hhf i
                  refine AW_condT rfl ?_
                  refine AW_skip ?_
                  refine AW_seq ?_
                  refine AW_block ?_
                  refine AW_region ?_
                  refine AL_p (x_move rfl rfl) ?_
                  refine AL_p (x_field (off := 9) (o' := 9) rfl rfl rfl (by kernel_rfl) rfl) ?_
                  refine AL_p (x_field (off := 0) (o' := 9) rfl rfl rfl (by kernel_rfl) rfl) ?_
                  refine AL_p (x_load1 rfl rfl rfl (by kernel_rfl) rfl) ?_
                  refine AL_p (x_move rfl rfl) ?_
                  refine AL_p (x_index (E := 3) (n := 1) rfl rfl rfl (by kernel_rfl) rfl (k := i) (by omega) (by omega)) ?_
                  refine AL_p (x_eload1 rfl rfl (by kernel_rfl) rfl) ?_
                  refine AL_p (x_callR rfl rfl rfl (putNumS_c _ (m.head.v[i]'(by omega)) 6 (by omega) (by have e : (256 : Int) ^ 6 = 281474976710656 := rfl; omega) (by omega) (by omega) (by (try simp only [List.length_append, List.length_cons, List.length_nil, putB_len, pairTo_len]); omega) 113) rfl AllV.rf rfl rfl rfl rfl rfl) ?_
                  refine AL_p (x_move rfl rfl) ?_
                  refine AL_p (x_extract rfl rfl rfl) ?_
                  refine AL_p (x_extract rfl rfl rfl) ?_
                  refine AL_p (x_assign rfl rfl) ?_
                  refine AL_nil ?_
                  refine AW_region ?_
                  refine AL_p (x_move rfl rfl) ?_
                  refine AL_p (x_add rfl rfl rfl (IntWalk.i64_in _ (by omega))) ?_
                  refine AL_p (x_assign rfl rfl) ?_
                  refine AL_nil ?_
                  refine ⟨⟨i + 1, by omega⟩, rn [(112, 113)], ?_, by dsimp only; omega⟩
                  exact ⟨by (repeat refine ⟨⟨_, rfl, by first | exact VLe.rf | exact vle_int (by dsimp only; omega)⟩, ?_⟩); exact trivial, by (repeat refine ⟨⟨_, rfl, by first | exact BLe.rf | exact BLe.box AllC.rf | exact BLe.arr (by first | (rw [flatTo_zero, List.append_nil]; simp [handB, *]; done) | (rw [← flatTo_more (f := fun n => putB n 6) (k := i) (by omega)]; simp only [List.append_assoc]; done) | (exfalso; omega))⟩, ?_⟩); exact trivial, by repeat (first | exact trivial | refine ⟨⟨rfl, by first | (left; intro h; cases h) | (right; rfl), fun _ h => ⟨_, h⟩⟩, ?_⟩), rfl⟩
                · try simp only [decide_eq_true_eq, decide_eq_false_iff_not, Bool.not_eq_true, Bool.not_eq_false, Bool.not_eq_true', Bool.not_eq_false', beq_iff_eq, bne_iff_ne, beq_eq_false_iff_ne, bne_eq_false_iff_eq, Int.not_lt, Int.not_le, ge_iff_le, gt_iff_lt] at h109
                  refine AW_condF rfl ?_
                  refine AW_exit (BQ_hit ?_)
                  refine AW_seq ?_
                  refine AW_region ?_
                  refine AL_p (x_move rfl rfl) ?_
                  refine AL_p (x_assign rfl rfl) ?_
                  refine AL_nil ?_
                  refine AW_ret ?_
                  exact ⟨rn [(0, 112)], ⟨⟨⟨_, rfl, VLe.rf⟩, trivial⟩, ⟨⟨_, rfl, BLe.arr (by first | (rw [bodyB_add (by omega)]; simp only [flatTo_all (f := actBytes) (xs := m.acts) (k := j) (by omega), List.append_assoc, List.nil_append]; done) | (rw [bodyB_flip (by omega)]; done) | (rw [bodyB_flip (by omega)]; simp only [List.append_assoc, List.nil_append]; done) | (rw [bodyB_note (by omega)]; simp only [headBy, flatTo_all (f := fun n => putB n 6) (xs := m.head.v) (k := i) (by omega), List.append_assoc, List.nil_append]; done) | (rw [bodyB_note (by omega), flatTo_all (f := fun n => putB n 6) (xs := m.head.v) (k := i) (by omega)]; simp [headBy, handB, *]; done) | (rw [bodyB_none (by omega) (by omega) (by omega)]; done) | (rw [bodyB_none (by omega) (by omega) (by omega)]; simp only [List.append_nil]; done) | (exfalso; omega))⟩, trivial⟩, trivial, rfl⟩⟩
              · try simp only [decide_eq_true_eq, decide_eq_false_iff_not, Bool.not_eq_true, Bool.not_eq_false, Bool.not_eq_true', Bool.not_eq_false', beq_iff_eq, bne_iff_ne, beq_eq_false_iff_ne, bne_eq_false_iff_eq, Int.not_lt, Int.not_le, ge_iff_le, gt_iff_lt] at h101
                refine AW_condF rfl ?_
                refine AW_region ?_
                refine AL_p (x_move rfl rfl) ?_
                refine AL_p (y_bslice (E := 5) (e := (intE .u8)) [.const (.int .u8 (0))] ([0]) 114 rfl rfl rfl rfl rfl rfl rfl rfl FitL.rf rfl rfl rfl rfl rfl rfl (by kernel_rfl)) ?_
                refine AL_p (y_append 115 rfl rfl rfl rfl rfl rfl rfl rfl (by kernel_rfl) (by (try simp only [List.length_append, List.length_cons, List.length_nil, putB_len, pairTo_len]); omega)) ?_
                refine AL_p (x_assign rfl rfl) ?_
                refine AL_nil ?_
                refine AW_seq ?_
                refine AW_region ?_
                refine AL_p (x_assign rfl rfl) ?_
                refine AL_nil ?_
                refine AW_block ?_
                refine AW_loop2 (ι := {q : Nat // q ≤ m.head.v.length}) (fun p => [(3, .one (.own 115)), (7, .one (.c (.int .i64 ((p.1) : Int))))]) (fun p => [(115, some (.arr 5 (intE .u8) ([handB m.hand] ++ flatTo (fun n => putB n 6) m.head.v (p.1)) true))]) [1] [100, 101, 102, 103] (fun p => m.head.v.length - (p.1)) ⟨0, by omega⟩ (rn []) ?_ ?_
                exact ⟨by (repeat refine ⟨⟨_, rfl, by first | exact VLe.rf | exact vle_int (by dsimp only; omega)⟩, ?_⟩); exact trivial, by (repeat refine ⟨⟨_, rfl, by first | exact BLe.rf | exact BLe.box AllC.rf | exact BLe.arr (by first | (rw [flatTo_zero, List.append_nil]; simp [handB, *]; done) | (rw [← flatTo_more (f := fun n => putB n 6) (k := i) (by omega)]; simp only [List.append_assoc]; done) | (exfalso; omega))⟩, ?_⟩); exact trivial, by repeat (first | exact trivial | refine ⟨⟨rfl, by first | (left; intro h; cases h) | (right; rfl), fun _ h => ⟨_, h⟩⟩, ?_⟩), rfl⟩
                rintro ⟨i, hinv⟩
                dsimp only
                have hi := hinv
                refine AW_seq ?_
                refine AW_seq ?_
                refine AW_region ?_
                refine AL_p (x_move rfl rfl) ?_
                refine AL_b (x_lss rfl rfl rfl) (fun b109 h109 => ?_)
                refine AL_nil ?_
                cases b109
                rotate_left
                · try simp only [decide_eq_true_eq, decide_eq_false_iff_not, Bool.not_eq_true, Bool.not_eq_false, Bool.not_eq_true', Bool.not_eq_false', beq_iff_eq, bne_iff_ne, beq_eq_false_iff_ne, bne_eq_false_iff_eq, Int.not_lt, Int.not_le, ge_iff_le, gt_iff_lt] at h109
                  have hf8 := fits48 (eight_get hN2 (k := i) (by omega))
                  have hhi := hhf i
                  refine AW_condT rfl ?_
                  refine AW_skip ?_
                  refine AW_seq ?_
                  refine AW_block ?_
                  refine AW_region ?_
                  refine AL_p (x_move rfl rfl) ?_
                  refine AL_p (x_field (off := 9) (o' := 9) rfl rfl rfl (by kernel_rfl) rfl) ?_
                  refine AL_p (x_field (off := 0) (o' := 9) rfl rfl rfl (by kernel_rfl) rfl) ?_
                  refine AL_p (x_load1 rfl rfl rfl (by kernel_rfl) rfl) ?_
                  refine AL_p (x_move rfl rfl) ?_
                  refine AL_p (x_index (E := 3) (n := 1) rfl rfl rfl (by kernel_rfl) rfl (k := i) (by omega) (by omega)) ?_
                  refine AL_p (x_eload1 rfl rfl (by kernel_rfl) rfl) ?_
                  refine AL_p (x_callR rfl rfl rfl (putNumS_c _ (m.head.v[i]'(by omega)) 6 (by omega) (by have e : (256 : Int) ^ 6 = 281474976710656 := rfl; omega) (by omega) (by omega) (by (try simp only [List.length_append, List.length_cons, List.length_nil, putB_len, pairTo_len]); omega) 113) rfl AllV.rf rfl rfl rfl rfl rfl) ?_
                  refine AL_p (x_move rfl rfl) ?_
                  refine AL_p (x_extract rfl rfl rfl) ?_
                  refine AL_p (x_extract rfl rfl rfl) ?_
                  refine AL_p (x_assign rfl rfl) ?_
                  refine AL_nil ?_
                  refine AW_region ?_
                  refine AL_p (x_move rfl rfl) ?_
                  refine AL_p (x_add rfl rfl rfl (IntWalk.i64_in _ (by omega))) ?_
                  refine AL_p (x_assign rfl rfl) ?_
                  refine AL_nil ?_
                  refine ⟨⟨i + 1, by omega⟩, rn [(115, 113)], ?_, by dsimp only; omega⟩
                  exact ⟨by (repeat refine ⟨⟨_, rfl, by first | exact VLe.rf | exact vle_int (by dsimp only; omega)⟩, ?_⟩); exact trivial, by (repeat refine ⟨⟨_, rfl, by first | exact BLe.rf | exact BLe.box AllC.rf | exact BLe.arr (by first | (rw [flatTo_zero, List.append_nil]; simp [handB, *]; done) | (rw [← flatTo_more (f := fun n => putB n 6) (k := i) (by omega)]; simp only [List.append_assoc]; done) | (exfalso; omega))⟩, ?_⟩); exact trivial, by repeat (first | exact trivial | refine ⟨⟨rfl, by first | (left; intro h; cases h) | (right; rfl), fun _ h => ⟨_, h⟩⟩, ?_⟩), rfl⟩
                · try simp only [decide_eq_true_eq, decide_eq_false_iff_not, Bool.not_eq_true, Bool.not_eq_false, Bool.not_eq_true', Bool.not_eq_false', beq_iff_eq, bne_iff_ne, beq_eq_false_iff_ne, bne_eq_false_iff_eq, Int.not_lt, Int.not_le, ge_iff_le, gt_iff_lt] at h109
                  refine AW_condF rfl ?_
                  refine AW_exit (BQ_hit ?_)
                  refine AW_seq ?_
                  refine AW_region ?_
                  refine AL_p (x_move rfl rfl) ?_
                  refine AL_p (x_assign rfl rfl) ?_
                  refine AL_nil ?_
                  refine AW_ret ?_
                  exact ⟨rn [(0, 115)], ⟨⟨⟨_, rfl, VLe.rf⟩, trivial⟩, ⟨⟨_, rfl, BLe.arr (by first | (rw [bodyB_add (by omega)]; simp only [flatTo_all (f := actBytes) (xs := m.acts) (k := j) (by omega), List.append_assoc, List.nil_append]; done) | (rw [bodyB_flip (by omega)]; done) | (rw [bodyB_flip (by omega)]; simp only [List.append_assoc, List.nil_append]; done) | (rw [bodyB_note (by omega)]; simp only [headBy, flatTo_all (f := fun n => putB n 6) (xs := m.head.v) (k := i) (by omega), List.append_assoc, List.nil_append]; done) | (rw [bodyB_note (by omega), flatTo_all (f := fun n => putB n 6) (xs := m.head.v) (k := i) (by omega)]; simp [headBy, handB, *]; done) | (rw [bodyB_none (by omega) (by omega) (by omega)]; done) | (rw [bodyB_none (by omega) (by omega) (by omega)]; simp only [List.append_nil]; done) | (exfalso; omega))⟩, trivial⟩, trivial, rfl⟩⟩
            · try simp only [decide_eq_true_eq, decide_eq_false_iff_not, Bool.not_eq_true, Bool.not_eq_false, Bool.not_eq_true', Bool.not_eq_false', beq_iff_eq, bne_iff_ne, beq_eq_false_iff_ne, bne_eq_false_iff_eq, Int.not_lt, Int.not_le, ge_iff_le, gt_iff_lt] at h99
              refine AW_condF rfl ?_
              refine AW_skip ?_
              refine AW_seq ?_
              refine AW_region ?_
              refine AL_p (x_move rfl rfl) ?_
              refine AL_p (x_assign rfl rfl) ?_
              refine AL_nil ?_
              refine AW_ret ?_
              exact ⟨rn [(0, 106)], ⟨⟨⟨_, rfl, VLe.rf⟩, trivial⟩, ⟨⟨_, rfl, BLe.arr (by first | (rw [bodyB_add (by omega)]; simp only [flatTo_all (f := actBytes) (xs := m.acts) (k := j) (by omega), List.append_assoc, List.nil_append]; done) | (rw [bodyB_flip (by omega)]; done) | (rw [bodyB_flip (by omega)]; simp only [List.append_assoc, List.nil_append]; done) | (rw [bodyB_note (by omega)]; simp only [headBy, flatTo_all (f := fun n => putB n 6) (xs := m.head.v) (k := i) (by omega), List.append_assoc, List.nil_append]; done) | (rw [bodyB_note (by omega), flatTo_all (f := fun n => putB n 6) (xs := m.head.v) (k := i) (by omega)]; simp [headBy, handB, *]; done) | (rw [bodyB_none (by omega) (by omega) (by omega)]; done) | (rw [bodyB_none (by omega) (by omega) (by omega)]; simp only [List.append_nil]; done) | (exfalso; omega))⟩, trivial⟩, trivial, rfl⟩⟩
      · try simp only [decide_eq_true_eq, decide_eq_false_iff_not, Bool.not_eq_true, Bool.not_eq_false, Bool.not_eq_true', Bool.not_eq_false', beq_iff_eq, bne_iff_ne, beq_eq_false_iff_ne, bne_eq_false_iff_eq, Int.not_lt, Int.not_le, ge_iff_le, gt_iff_lt] at h26
        refine AW_condF rfl ?_
        refine AW_skip ?_
        refine AW_seq ?_
        refine AW_seq ?_
        refine AW_region ?_
        refine AL_p (x_field (off := 0) (o' := 0) rfl rfl rfl (by kernel_rfl) rfl) ?_
        refine AL_p (x_load1 rfl rfl rfl (by kernel_rfl) rfl) ?_
        refine AL_b (x_eql rfl rfl rfl) (fun b99 h99 => ?_)
        refine AL_nil ?_
        cases b99
        rotate_left
        · try simp only [decide_eq_true_eq, decide_eq_false_iff_not, Bool.not_eq_true, Bool.not_eq_false, Bool.not_eq_true', Bool.not_eq_false', beq_iff_eq, bne_iff_ne, beq_eq_false_iff_ne, bne_eq_false_iff_eq, Int.not_lt, Int.not_le, ge_iff_le, gt_iff_lt] at h99
          have hN2 := hN (by omega)
          have hN8 := eight_8 hN2
          have hhf := head_len (l := m.head.v)
          refine AW_condT rfl ?_
          refine AW_seq ?_
          refine AW_seq ?_
          refine AW_region ?_
          refine AL_p (x_field (off := 8) (o' := 8) rfl rfl rfl (by kernel_rfl) rfl) ?_
          refine AL_b (x_load1 rfl rfl rfl (by kernel_rfl) rfl) (fun b101 h101 => ?_)
          refine AL_nil ?_
          cases b101
          rotate_left
          · try simp only [decide_eq_true_eq, decide_eq_false_iff_not, Bool.not_eq_true, Bool.not_eq_false, Bool.not_eq_true', Bool.not_eq_false', beq_iff_eq, bne_iff_ne, beq_eq_false_iff_ne, bne_eq_false_iff_eq, Int.not_lt, Int.not_le, ge_iff_le, gt_iff_lt] at h101
            refine AW_condT rfl ?_
            refine AW_region ?_
            refine AL_p (x_move rfl rfl) ?_
            refine AL_p (y_bslice (E := 5) (e := (intE .u8)) [.const (.int .u8 (1))] ([1]) 111 rfl rfl rfl rfl rfl rfl rfl rfl FitL.rf rfl rfl rfl rfl rfl rfl (by kernel_rfl)) ?_
            refine AL_p (y_append 112 rfl rfl rfl rfl rfl rfl rfl rfl (by kernel_rfl) (by (try simp only [List.length_append, List.length_cons, List.length_nil, putB_len, pairTo_len]); omega)) ?_
            refine AL_p (x_assign rfl rfl) ?_
            refine AL_nil ?_
            refine AW_seq ?_
            refine AW_region ?_
            refine AL_p (x_assign rfl rfl) ?_
            refine AL_nil ?_
            refine AW_block ?_
            refine AW_loop2 (ι := {q : Nat // q ≤ m.head.v.length}) (fun p => [(3, .one (.own 112)), (7, .one (.c (.int .i64 ((p.1) : Int))))]) (fun p => [(112, some (.arr 5 (intE .u8) ([handB m.hand] ++ flatTo (fun n => putB n 6) m.head.v (p.1)) true))]) [1] [100, 101] (fun p => m.head.v.length - (p.1)) ⟨0, by omega⟩ (rn []) ?_ ?_
            exact ⟨by (repeat refine ⟨⟨_, rfl, by first | exact VLe.rf | exact vle_int (by dsimp only; omega)⟩, ?_⟩); exact trivial, by (repeat refine ⟨⟨_, rfl, by first | exact BLe.rf | exact BLe.box AllC.rf | exact BLe.arr (by first | (rw [flatTo_zero, List.append_nil]; simp [handB, *]; done) | (rw [← flatTo_more (f := fun n => putB n 6) (k := i) (by omega)]; simp only [List.append_assoc]; done) | (exfalso; omega))⟩, ?_⟩); exact trivial, by repeat (first | exact trivial | refine ⟨⟨rfl, by first | (left; intro h; cases h) | (right; rfl), fun _ h => ⟨_, h⟩⟩, ?_⟩), rfl⟩
            rintro ⟨i, hinv⟩
            dsimp only
            have hi := hinv
            refine AW_seq ?_
            refine AW_seq ?_
            refine AW_region ?_
            refine AL_p (x_move rfl rfl) ?_
            refine AL_b (x_lss rfl rfl rfl) (fun b109 h109 => ?_)
            refine AL_nil ?_
            cases b109
            rotate_left
            · try simp only [decide_eq_true_eq, decide_eq_false_iff_not, Bool.not_eq_true, Bool.not_eq_false, Bool.not_eq_true', Bool.not_eq_false', beq_iff_eq, bne_iff_ne, beq_eq_false_iff_ne, bne_eq_false_iff_eq, Int.not_lt, Int.not_le, ge_iff_le, gt_iff_lt] at h109
              have hf8 := fits48 (eight_get hN2 (k := i) (by omega))
              have hhi := hhf i
              refine AW_condT rfl ?_
              refine AW_skip ?_
              refine AW_seq ?_
              refine AW_block ?_
              refine AW_region ?_
              refine AL_p (x_move rfl rfl) ?_
              refine AL_p (x_field (off := 9) (o' := 9) rfl rfl rfl (by kernel_rfl) rfl) ?_
              refine AL_p (x_field (off := 0) (o' := 9) rfl rfl rfl (by kernel_rfl) rfl) ?_
              refine AL_p (x_load1 rfl rfl rfl (by kernel_rfl) rfl) ?_
              refine AL_p (x_move rfl rfl) ?_
              refine AL_p (x_index (E := 3) (n := 1) rfl rfl rfl (by kernel_rfl) rfl (k := i) (by omega) (by omega)) ?_
              refine AL_p (x_eload1 rfl rfl (by kernel_rfl) rfl) ?_
              refine AL_p (x_callR rfl rfl rfl (putNumS_c _ (m.head.v[i]'(by omega)) 6 (by omega) (by have e : (256 : Int) ^ 6 = 281474976710656 := rfl; omega) (by omega) (by omega) (by (try simp only [List.length_append, List.length_cons, List.length_nil, putB_len, pairTo_len]); omega) 113) rfl AllV.rf rfl rfl rfl rfl rfl) ?_
              refine AL_p (x_move rfl rfl) ?_
              refine AL_p (x_extract rfl rfl rfl) ?_
              refine AL_p (x_extract rfl rfl rfl) ?_
              refine AL_p (x_assign rfl rfl) ?_
              refine AL_nil ?_
              refine AW_region ?_
              refine AL_p (x_move rfl rfl) ?_
              refine AL_p (x_add rfl rfl rfl (IntWalk.i64_in _ (by omega))) ?_
              refine AL_p (x_assign rfl rfl) ?_
              refine AL_nil ?_
              refine ⟨⟨i + 1, by omega⟩, rn [(112, 113)], ?_, by dsimp only; omega⟩
              exact ⟨by (repeat refine ⟨⟨_, rfl, by first | exact VLe.rf | exact vle_int (by dsimp only; omega)⟩, ?_⟩); exact trivial, by (repeat refine ⟨⟨_, rfl, by first | exact BLe.rf | exact BLe.box AllC.rf | exact BLe.arr (by first | (rw [flatTo_zero, List.append_nil]; simp [handB, *]; done) | (rw [← flatTo_more (f := fun n => putB n 6) (k := i) (by omega)]; simp only [List.append_assoc]; done) | (exfalso; omega))⟩, ?_⟩); exact trivial, by repeat (first | exact trivial | refine ⟨⟨rfl, by first | (left; intro h; cases h) | (right; rfl), fun _ h => ⟨_, h⟩⟩, ?_⟩), rfl⟩
            · try simp only [decide_eq_true_eq, decide_eq_false_iff_not, Bool.not_eq_true, Bool.not_eq_false, Bool.not_eq_true', Bool.not_eq_false', beq_iff_eq, bne_iff_ne, beq_eq_false_iff_ne, bne_eq_false_iff_eq, Int.not_lt, Int.not_le, ge_iff_le, gt_iff_lt] at h109
              refine AW_condF rfl ?_
              refine AW_exit (BQ_hit ?_)
              refine AW_seq ?_
              refine AW_region ?_
              refine AL_p (x_move rfl rfl) ?_
              refine AL_p (x_assign rfl rfl) ?_
              refine AL_nil ?_
              refine AW_ret ?_
              exact ⟨rn [(0, 112)], ⟨⟨⟨_, rfl, VLe.rf⟩, trivial⟩, ⟨⟨_, rfl, BLe.arr (by first | (rw [bodyB_add (by omega)]; simp only [flatTo_all (f := actBytes) (xs := m.acts) (k := j) (by omega), List.append_assoc, List.nil_append]; done) | (rw [bodyB_flip (by omega)]; done) | (rw [bodyB_flip (by omega)]; simp only [List.append_assoc, List.nil_append]; done) | (rw [bodyB_note (by omega)]; simp only [headBy, flatTo_all (f := fun n => putB n 6) (xs := m.head.v) (k := i) (by omega), List.append_assoc, List.nil_append]; done) | (rw [bodyB_note (by omega), flatTo_all (f := fun n => putB n 6) (xs := m.head.v) (k := i) (by omega)]; simp [headBy, handB, *]; done) | (rw [bodyB_none (by omega) (by omega) (by omega)]; done) | (rw [bodyB_none (by omega) (by omega) (by omega)]; simp only [List.append_nil]; done) | (exfalso; omega))⟩, trivial⟩, trivial, rfl⟩⟩
          · try simp only [decide_eq_true_eq, decide_eq_false_iff_not, Bool.not_eq_true, Bool.not_eq_false, Bool.not_eq_true', Bool.not_eq_false', beq_iff_eq, bne_iff_ne, beq_eq_false_iff_ne, bne_eq_false_iff_eq, Int.not_lt, Int.not_le, ge_iff_le, gt_iff_lt] at h101
            refine AW_condF rfl ?_
            refine AW_region ?_
            refine AL_p (x_move rfl rfl) ?_
            refine AL_p (y_bslice (E := 5) (e := (intE .u8)) [.const (.int .u8 (0))] ([0]) 114 rfl rfl rfl rfl rfl rfl rfl rfl FitL.rf rfl rfl rfl rfl rfl rfl (by kernel_rfl)) ?_
            refine AL_p (y_append 115 rfl rfl rfl rfl rfl rfl rfl rfl (by kernel_rfl) (by (try simp only [List.length_append, List.length_cons, List.length_nil, putB_len, pairTo_len]); omega)) ?_
            refine AL_p (x_assign rfl rfl) ?_
            refine AL_nil ?_
            refine AW_seq ?_
            refine AW_region ?_
            refine AL_p (x_assign rfl rfl) ?_
            refine AL_nil ?_
            refine AW_block ?_
            refine AW_loop2 (ι := {q : Nat // q ≤ m.head.v.length}) (fun p => [(3, .one (.own 115)), (7, .one (.c (.int .i64 ((p.1) : Int))))]) (fun p => [(115, some (.arr 5 (intE .u8) ([handB m.hand] ++ flatTo (fun n => putB n 6) m.head.v (p.1)) true))]) [1] [100, 101] (fun p => m.head.v.length - (p.1)) ⟨0, by omega⟩ (rn []) ?_ ?_
            exact ⟨by (repeat refine ⟨⟨_, rfl, by first | exact VLe.rf | exact vle_int (by dsimp only; omega)⟩, ?_⟩); exact trivial, by (repeat refine ⟨⟨_, rfl, by first | exact BLe.rf | exact BLe.box AllC.rf | exact BLe.arr (by first | (rw [flatTo_zero, List.append_nil]; simp [handB, *]; done) | (rw [← flatTo_more (f := fun n => putB n 6) (k := i) (by omega)]; simp only [List.append_assoc]; done) | (exfalso; omega))⟩, ?_⟩); exact trivial, by repeat (first | exact trivial | refine ⟨⟨rfl, by first | (left; intro h; cases h) | (right; rfl), fun _ h => ⟨_, h⟩⟩, ?_⟩), rfl⟩
            rintro ⟨i, hinv⟩
            dsimp only
            have hi := hinv
            refine AW_seq ?_
            refine AW_seq ?_
            refine AW_region ?_
            refine AL_p (x_move rfl rfl) ?_
            refine AL_b (x_lss rfl rfl rfl) (fun b109 h109 => ?_)
            refine AL_nil ?_
            cases b109
            rotate_left
            · try simp only [decide_eq_true_eq, decide_eq_false_iff_not, Bool.not_eq_true, Bool.not_eq_false, Bool.not_eq_true', Bool.not_eq_false', beq_iff_eq, bne_iff_ne, beq_eq_false_iff_ne, bne_eq_false_iff_eq, Int.not_lt, Int.not_le, ge_iff_le, gt_iff_lt] at h109
              have hf8 := fits48 (eight_get hN2 (k := i) (by omega))
              have hhi := hhf i
              refine AW_condT rfl ?_
              refine AW_skip ?_
              refine AW_seq ?_
              refine AW_block ?_
              refine AW_region ?_
              refine AL_p (x_move rfl rfl) ?_
              refine AL_p (x_field (off := 9) (o' := 9) rfl rfl rfl (by kernel_rfl) rfl) ?_
              refine AL_p (x_field (off := 0) (o' := 9) rfl rfl rfl (by kernel_rfl) rfl) ?_
              refine AL_p (x_load1 rfl rfl rfl (by kernel_rfl) rfl) ?_
              refine AL_p (x_move rfl rfl) ?_
              refine AL_p (x_index (E := 3) (n := 1) rfl rfl rfl (by kernel_rfl) rfl (k := i) (by omega) (by omega)) ?_
              refine AL_p (x_eload1 rfl rfl (by kernel_rfl) rfl) ?_
              refine AL_p (x_callR rfl rfl rfl (putNumS_c _ (m.head.v[i]'(by omega)) 6 (by omega) (by have e : (256 : Int) ^ 6 = 281474976710656 := rfl; omega) (by omega) (by omega) (by (try simp only [List.length_append, List.length_cons, List.length_nil, putB_len, pairTo_len]); omega) 113) rfl AllV.rf rfl rfl rfl rfl rfl) ?_
              refine AL_p (x_move rfl rfl) ?_
              refine AL_p (x_extract rfl rfl rfl) ?_
              refine AL_p (x_extract rfl rfl rfl) ?_
              refine AL_p (x_assign rfl rfl) ?_
              refine AL_nil ?_
              refine AW_region ?_
              refine AL_p (x_move rfl rfl) ?_
              refine AL_p (x_add rfl rfl rfl (IntWalk.i64_in _ (by omega))) ?_
              refine AL_p (x_assign rfl rfl) ?_
              refine AL_nil ?_
              refine ⟨⟨i + 1, by omega⟩, rn [(115, 113)], ?_, by dsimp only; omega⟩
              exact ⟨by (repeat refine ⟨⟨_, rfl, by first | exact VLe.rf | exact vle_int (by dsimp only; omega)⟩, ?_⟩); exact trivial, by (repeat refine ⟨⟨_, rfl, by first | exact BLe.rf | exact BLe.box AllC.rf | exact BLe.arr (by first | (rw [flatTo_zero, List.append_nil]; simp [handB, *]; done) | (rw [← flatTo_more (f := fun n => putB n 6) (k := i) (by omega)]; simp only [List.append_assoc]; done) | (exfalso; omega))⟩, ?_⟩); exact trivial, by repeat (first | exact trivial | refine ⟨⟨rfl, by first | (left; intro h; cases h) | (right; rfl), fun _ h => ⟨_, h⟩⟩, ?_⟩), rfl⟩
            · try simp only [decide_eq_true_eq, decide_eq_false_iff_not, Bool.not_eq_true, Bool.not_eq_false, Bool.not_eq_true', Bool.not_eq_false', beq_iff_eq, bne_iff_ne, beq_eq_false_iff_ne, bne_eq_false_iff_eq, Int.not_lt, Int.not_le, ge_iff_le, gt_iff_lt] at h109
              refine AW_condF rfl ?_
              refine AW_exit (BQ_hit ?_)
              refine AW_seq ?_
              refine AW_region ?_
              refine AL_p (x_move rfl rfl) ?_
              refine AL_p (x_assign rfl rfl) ?_
              refine AL_nil ?_
              refine AW_ret ?_
              exact ⟨rn [(0, 115)], ⟨⟨⟨_, rfl, VLe.rf⟩, trivial⟩, ⟨⟨_, rfl, BLe.arr (by first | (rw [bodyB_add (by omega)]; simp only [flatTo_all (f := actBytes) (xs := m.acts) (k := j) (by omega), List.append_assoc, List.nil_append]; done) | (rw [bodyB_flip (by omega)]; done) | (rw [bodyB_flip (by omega)]; simp only [List.append_assoc, List.nil_append]; done) | (rw [bodyB_note (by omega)]; simp only [headBy, flatTo_all (f := fun n => putB n 6) (xs := m.head.v) (k := i) (by omega), List.append_assoc, List.nil_append]; done) | (rw [bodyB_note (by omega), flatTo_all (f := fun n => putB n 6) (xs := m.head.v) (k := i) (by omega)]; simp [headBy, handB, *]; done) | (rw [bodyB_none (by omega) (by omega) (by omega)]; done) | (rw [bodyB_none (by omega) (by omega) (by omega)]; simp only [List.append_nil]; done) | (exfalso; omega))⟩, trivial⟩, trivial, rfl⟩⟩
        · try simp only [decide_eq_true_eq, decide_eq_false_iff_not, Bool.not_eq_true, Bool.not_eq_false, Bool.not_eq_true', Bool.not_eq_false', beq_iff_eq, bne_iff_ne, beq_eq_false_iff_ne, bne_eq_false_iff_eq, Int.not_lt, Int.not_le, ge_iff_le, gt_iff_lt] at h99
          refine AW_condF rfl ?_
          refine AW_skip ?_
          refine AW_seq ?_
          refine AW_region ?_
          refine AL_p (x_move rfl rfl) ?_
          refine AL_p (x_assign rfl rfl) ?_
          refine AL_nil ?_
          refine AW_ret ?_
          exact ⟨rn [(0, 102)], ⟨⟨⟨_, rfl, VLe.rf⟩, trivial⟩, ⟨⟨_, rfl, BLe.arr (by first | (rw [bodyB_add (by omega)]; simp only [flatTo_all (f := actBytes) (xs := m.acts) (k := j) (by omega), List.append_assoc, List.nil_append]; done) | (rw [bodyB_flip (by omega)]; done) | (rw [bodyB_flip (by omega)]; simp only [List.append_assoc, List.nil_append]; done) | (rw [bodyB_note (by omega)]; simp only [headBy, flatTo_all (f := fun n => putB n 6) (xs := m.head.v) (k := i) (by omega), List.append_assoc, List.nil_append]; done) | (rw [bodyB_note (by omega), flatTo_all (f := fun n => putB n 6) (xs := m.head.v) (k := i) (by omega)]; simp [headBy, handB, *]; done) | (rw [bodyB_none (by omega) (by omega) (by omega)]; done) | (rw [bodyB_none (by omega) (by omega) (by omega)]; simp only [List.append_nil]; done) | (exfalso; omega))⟩, trivial⟩, trivial, rfl⟩⟩
    · try simp only [decide_eq_true_eq, decide_eq_false_iff_not, Bool.not_eq_true, Bool.not_eq_false, Bool.not_eq_true', Bool.not_eq_false', beq_iff_eq, bne_iff_ne, beq_eq_false_iff_ne, bne_eq_false_iff_eq, Int.not_lt, Int.not_le, ge_iff_le, gt_iff_lt] at h15
      refine AW_condF rfl ?_
      refine AW_skip ?_
      refine AW_seq ?_
      refine AW_seq ?_
      refine AW_region ?_
      refine AL_p (x_field (off := 0) (o' := 0) rfl rfl rfl (by kernel_rfl) rfl) ?_
      refine AL_p (x_load1 rfl rfl rfl (by kernel_rfl) rfl) ?_
      refine AL_b (x_eql rfl rfl rfl) (fun b26 h26 => ?_)
      refine AL_nil ?_
      cases b26
      rotate_left
      · try simp only [decide_eq_true_eq, decide_eq_false_iff_not, Bool.not_eq_true, Bool.not_eq_false, Bool.not_eq_true', Bool.not_eq_false', beq_iff_eq, bne_iff_ne, beq_eq_false_iff_ne, bne_eq_false_iff_eq, Int.not_lt, Int.not_le, ge_iff_le, gt_iff_lt] at h26
        have hA2 := hA (by omega)
        have hmat := hA2.2.1
        have hact := hA2.2.2
        have hA3 := hA2.1
        have ha12 := actsB_12 hact
        have hpl : putB (m.acts.length : Int) 1 = [(m.acts.length : Int)] := putB_one (by omega) (by omega)
        have haf := acts_len (l := m.acts)
        refine AW_condT rfl ?_
        refine AW_seq ?_
        refine AW_region ?_
        refine AL_p (x_move rfl rfl) ?_
        refine AL_p (x_field (off := 4) (o' := 4) rfl rfl rfl (by kernel_rfl) rfl) ?_
        refine AL_p (x_load1 rfl rfl rfl (by kernel_rfl) rfl) ?_
        refine AL_p (x_callR rfl rfl rfl (putNumS_c _ m.prio 2 (by omega) (by have e : (256 : Int) ^ 2 = 65536 := rfl; omega) (by omega) (by omega) (by (try simp only [List.length_append, List.length_cons, List.length_nil, putB_len, pairTo_len]); omega) 103) rfl AllV.rf rfl rfl rfl rfl rfl) ?_
        refine AL_p (x_move rfl rfl) ?_
        refine AL_p (x_extract rfl rfl rfl) ?_
        refine AL_p (x_extract rfl rfl rfl) ?_
        refine AL_p (x_assign rfl rfl) ?_
        refine AL_nil ?_
        refine AW_seq ?_
        refine AW_seq ?_
        refine AW_region ?_
        refine AL_p (x_assign rfl rfl) ?_
        refine AL_nil ?_
        refine AW_block ?_
        refine AW_loop2 (ι := {q : Nat // q ≤ 8}) (fun p => [(3, .one (.own 103)), (4, .one (.c (.int .i64 ((p.1) : Int))))]) (fun p => [(103, some (.arr 5 (intE .u8) (putB m.epoch 4 ++ putB m.prio 2 ++ pairTo m.mat (p.1)) true))]) [1] [100, 101] (fun p => 8 - (p.1)) ⟨0, by omega⟩ (rn []) ?_ ?_
        exact ⟨by (repeat refine ⟨⟨_, rfl, by first | exact VLe.rf | exact vle_int (by dsimp only; omega)⟩, ?_⟩); exact trivial, by (repeat refine ⟨⟨_, rfl, by first | exact BLe.rf | exact BLe.box AllC.rf | exact BLe.arr (by first | (rw [pairTo_zero, List.append_nil]; done) | (rw [← pairTo_more hv1 hm1]; simp only [List.append_assoc]; done) | (exfalso; omega))⟩, ?_⟩); exact trivial, by repeat (first | exact trivial | refine ⟨⟨rfl, by first | (left; intro h; cases h) | (right; rfl), fun _ h => ⟨_, h⟩⟩, ?_⟩), rfl⟩
        rintro ⟨k, hinv⟩
        dsimp only
        have hk := hinv
        refine AW_seq ?_
        refine AW_seq ?_
        refine AW_region ?_
        refine AL_p (x_move rfl rfl) ?_
        refine AL_b (x_lss rfl rfl rfl) (fun b35 h35 => ?_)
        refine AL_nil ?_
        cases b35
        rotate_left
        · try simp only [decide_eq_true_eq, decide_eq_false_iff_not, Bool.not_eq_true, Bool.not_eq_false, Bool.not_eq_true', Bool.not_eq_false', beq_iff_eq, bne_iff_ne, beq_eq_false_iff_ne, bne_eq_false_iff_eq, Int.not_lt, Int.not_le, ge_iff_le, gt_iff_lt] at h35
          obtain ⟨hv1, hm1, hvr, hmr⟩ := matchB_get hmat (fun x hx => (hi0_5 x hx).2) (k := k) (by omega)
          refine AW_condT rfl ?_
          refine AW_skip ?_
          refine AW_seq ?_
          refine AW_block ?_
          refine AW_seq ?_
          refine AW_region ?_
          refine AL_p (x_move rfl rfl) ?_
          refine AL_p (x_field (off := 5) (o' := 5) rfl rfl rfl (by kernel_rfl) rfl) ?_
          refine AL_p (x_field (off := 0) (o' := 5) rfl rfl rfl (by kernel_rfl) rfl) ?_
          refine AL_p (x_load1 rfl rfl rfl (by kernel_rfl) rfl) ?_
          refine AL_p (x_move rfl rfl) ?_
          refine AL_p (x_index (E := 3) (n := 1) rfl rfl rfl (by kernel_rfl) rfl (k := k) (by omega) (by omega)) ?_
          refine AL_p (x_eload1 rfl rfl (by kernel_rfl) rfl) ?_
          refine AL_p (x_callR rfl rfl rfl (putNumS_c _ (m.mat.v[k]'hv1) 6 (by omega) (by have e : (256 : Int) ^ 6 = 281474976710656 := rfl; omega) (by omega) (by omega) (by (try simp only [List.length_append, List.length_cons, List.length_nil, putB_len, pairTo_len]); omega) 104) rfl AllV.rf rfl rfl rfl rfl rfl) ?_
          refine AL_p (x_move rfl rfl) ?_
          refine AL_p (x_extract rfl rfl rfl) ?_
          refine AL_p (x_extract rfl rfl rfl) ?_
          refine AL_p (x_assign rfl rfl) ?_
          refine AL_nil ?_
          refine AW_region ?_
          refine AL_p (x_move rfl rfl) ?_
          refine AL_p (x_field (off := 5) (o' := 5) rfl rfl rfl (by kernel_rfl) rfl) ?_
          refine AL_p (x_field (off := 1) (o' := 6) rfl rfl rfl (by kernel_rfl) rfl) ?_
          refine AL_p (x_load1 rfl rfl rfl (by kernel_rfl) rfl) ?_
          refine AL_p (x_move rfl rfl) ?_
          refine AL_p (x_index (E := 3) (n := 1) rfl rfl rfl (by kernel_rfl) rfl (k := k) (by omega) (by omega)) ?_
          refine AL_p (x_eload1 rfl rfl (by kernel_rfl) rfl) ?_
          refine AL_p (x_callR rfl rfl rfl (putNumS_c _ (m.mat.m[k]'hm1) 6 (by omega) (by have e : (256 : Int) ^ 6 = 281474976710656 := rfl; omega) (by omega) (by omega) (by (try simp only [List.length_append, List.length_cons, List.length_nil, putB_len, pairTo_len]); omega) 105) rfl AllV.rf rfl rfl rfl rfl rfl) ?_
          refine AL_p (x_move rfl rfl) ?_
          refine AL_p (x_extract rfl rfl rfl) ?_
          refine AL_p (x_extract rfl rfl rfl) ?_
          refine AL_p (x_assign rfl rfl) ?_
          refine AL_nil ?_
          refine AW_region ?_
          refine AL_p (x_move rfl rfl) ?_
          refine AL_p (x_add rfl rfl rfl (IntWalk.i64_in _ (by omega))) ?_
          refine AL_p (x_assign rfl rfl) ?_
          refine AL_nil ?_
          refine ⟨⟨k + 1, by omega⟩, rn [(103, 105)], ?_, by dsimp only; omega⟩
          exact ⟨by (repeat refine ⟨⟨_, rfl, by first | exact VLe.rf | exact vle_int (by dsimp only; omega)⟩, ?_⟩); exact trivial, by (repeat refine ⟨⟨_, rfl, by first | exact BLe.rf | exact BLe.box AllC.rf | exact BLe.arr (by first | (rw [pairTo_zero, List.append_nil]; done) | (rw [← pairTo_more hv1 hm1]; simp only [List.append_assoc]; done) | (exfalso; omega))⟩, ?_⟩); exact trivial, by repeat (first | exact trivial | refine ⟨⟨rfl, by first | (left; intro h; cases h) | (right; rfl), fun _ h => ⟨_, h⟩⟩, ?_⟩), rfl⟩
        · try simp only [decide_eq_true_eq, decide_eq_false_iff_not, Bool.not_eq_true, Bool.not_eq_false, Bool.not_eq_true', Bool.not_eq_false', beq_iff_eq, bne_iff_ne, beq_eq_false_iff_ne, bne_eq_false_iff_eq, Int.not_lt, Int.not_le, ge_iff_le, gt_iff_lt] at h35
          obtain rfl : k = 8 := by omega
          refine AW_condF rfl ?_
          refine AW_exit (BQ_hit ?_)
          refine AW_seq ?_
          refine AW_region ?_
          refine AL_p (x_move rfl rfl) ?_
          refine AL_p (x_field (off := 7) (o' := 7) rfl rfl rfl (by kernel_rfl) rfl) ?_
          refine AL_p (x_load1 rfl rfl rfl (by kernel_rfl) rfl) ?_
          refine AL_p (x_len (E := 114) (n := 3) rfl rfl (by kernel_rfl)) ?_
          refine AL_p (x_callR rfl rfl rfl (putNumS_c _ (m.acts.length : Int) 1 (by omega) (by have e : (256 : Int) ^ 1 = 256 := rfl; omega) (by omega) (by omega) (by (try simp only [List.length_append, List.length_cons, List.length_nil, putB_len, pairTo_len]); omega) 106) rfl AllV.rf rfl rfl rfl rfl rfl) ?_
          refine AL_p (x_move rfl rfl) ?_
          refine AL_p (x_extract rfl rfl rfl) ?_
          refine AL_p (x_extract rfl rfl rfl) ?_
          refine AL_p (x_assign rfl rfl) ?_
          refine AL_nil ?_
          refine AW_seq ?_
          refine AW_region ?_
          refine AL_p (x_field (off := 7) (o' := 7) rfl rfl rfl (by kernel_rfl) rfl) ?_
          refine AL_p (x_load1 rfl rfl rfl (by kernel_rfl) rfl) ?_
          refine AL_p (x_len (E := 114) (n := 3) rfl rfl (by kernel_rfl)) ?_
          refine AL_p (x_move rfl rfl) ?_
          refine AL_nil ?_
          refine AW_block ?_
          refine AW_loop2 (ι := {q : Nat // q ≤ m.acts.length}) (fun p => [(3, .one (.own 106)), (71, .one (.c (.int .i64 ((p.1) : Int))))]) (fun p => [(106, some (.arr 5 (intE .u8) (putB m.epoch 4 ++ putB m.prio 2 ++ pairTo m.mat 8 ++ [(m.acts.length : Int)] ++ flatTo actBytes m.acts (p.1)) true))]) [1, 69, 70] [100, 101, 103] (fun p => m.acts.length - (p.1)) ⟨0, by omega⟩ (rn []) ?_ ?_
          exact ⟨by (repeat refine ⟨⟨_, rfl, by first | exact VLe.rf | exact vle_int (by dsimp only; omega)⟩, ?_⟩); exact trivial, by (repeat refine ⟨⟨_, rfl, by first | exact BLe.rf | exact BLe.box AllC.rf | exact BLe.arr (by first | (rw [flatTo_zero, List.append_nil]; done) | (rw [hpl, flatTo_zero, List.append_nil]; done) | (rw [← flatTo_more (f := actBytes) (k := j) (by omega)]; simp only [actBytes, hp1, hp2, List.append_assoc, List.cons_append, List.nil_append]; done) | (exfalso; omega))⟩, ?_⟩); exact trivial, by repeat (first | exact trivial | refine ⟨⟨rfl, by first | (left; intro h; cases h) | (right; rfl), fun _ h => ⟨_, h⟩⟩, ?_⟩), rfl⟩
          rintro ⟨j, hinv⟩
          dsimp only
          have hj := hinv
          refine AW_seq ?_
          refine AW_region ?_
          refine AL_b (x_lss rfl rfl rfl) (fun b72 h72 => ?_)
          refine AL_nil ?_
          refine AW_seq ?_
          cases b72
          rotate_left
          · try simp only [decide_eq_true_eq, decide_eq_false_iff_not, Bool.not_eq_true, Bool.not_eq_false, Bool.not_eq_true', Bool.not_eq_false', beq_iff_eq, bne_iff_ne, beq_eq_false_iff_ne, bne_eq_false_iff_eq, Int.not_lt, Int.not_le, ge_iff_le, gt_iff_lt] at h72
            have hab := actB_in (actsB_get hact (k := j) (by omega))
            have hp1 : putB (m.acts[j]'(by omega)).kind 1 = [(m.acts[j]'(by omega)).kind] := putB_one (by omega) (by omega)
            have hp2 : putB (m.acts[j]'(by omega)).a 1 = [(m.acts[j]'(by omega)).a] := putB_one (by omega) (by omega)
            have haj := haf j
            refine AW_condT rfl ?_
            refine AW_skip ?_
            refine AW_seq ?_
            refine AW_block ?_
            refine AW_seq ?_
            refine AW_region ?_
            refine AL_p (x_index (E := 114) (n := 3) rfl rfl rfl (by kernel_rfl) rfl (k := j) (by omega) (by omega)) ?_
            refine AL_p (x_eloadW (n := 3) rfl rfl (by kernel_rfl) rfl) ?_
            refine AL_p (x_alloc (z := .agg #[.int .i64 0, .int .i64 0, .int .i64 0]) 107 rfl (by kernel_rfl) rfl rfl rfl rfl) ?_
            refine AL_p (x_store (n := 3) rfl rfl rfl rfl (by kernel_rfl) rfl rfl rfl) ?_
            refine AL_nil ?_
            refine AW_seq ?_
            refine AW_region ?_
            refine AL_p (x_move rfl rfl) ?_
            refine AL_p (x_field (off := 0) (o' := 0) rfl rfl rfl (by kernel_rfl) rfl) ?_
            refine AL_p (x_load1 rfl rfl rfl (by kernel_rfl) rfl) ?_
            refine AL_p (x_callR rfl rfl rfl (putNumS_c _ (m.acts[j]'(by omega)).kind 1 (by omega) (by have e : (256 : Int) ^ 1 = 256 := rfl; omega) (by omega) (by omega) (by (try simp only [List.length_append, List.length_cons, List.length_nil, putB_len, pairTo_len]); omega) 108) rfl AllV.rf rfl rfl rfl rfl rfl) ?_
            refine AL_p (x_move rfl rfl) ?_
            refine AL_p (x_extract rfl rfl rfl) ?_
            refine AL_p (x_extract rfl rfl rfl) ?_
            refine AL_p (x_assign rfl rfl) ?_
            refine AL_nil ?_
            refine AW_seq ?_
            refine AW_region ?_
            refine AL_p (x_move rfl rfl) ?_
            refine AL_p (x_field (off := 1) (o' := 1) rfl rfl rfl (by kernel_rfl) rfl) ?_
            refine AL_p (x_load1 rfl rfl rfl (by kernel_rfl) rfl) ?_
            refine AL_p (x_callR rfl rfl rfl (putNumS_c _ (m.acts[j]'(by omega)).a 1 (by omega) (by have e : (256 : Int) ^ 1 = 256 := rfl; omega) (by omega) (by omega) (by (try simp only [List.length_append, List.length_cons, List.length_nil, putB_len, pairTo_len]); omega) 109) rfl AllV.rf rfl rfl rfl rfl rfl) ?_
            refine AL_p (x_move rfl rfl) ?_
            refine AL_p (x_extract rfl rfl rfl) ?_
            refine AL_p (x_extract rfl rfl rfl) ?_
            refine AL_p (x_assign rfl rfl) ?_
            refine AL_nil ?_
            refine AW_region ?_
            refine AL_p (x_move rfl rfl) ?_
            refine AL_p (x_field (off := 2) (o' := 2) rfl rfl rfl (by kernel_rfl) rfl) ?_
            refine AL_p (x_load1 rfl rfl rfl (by kernel_rfl) rfl) ?_
            refine AL_p (x_callR rfl rfl rfl (putNumS_c _ (m.acts[j]'(by omega)).b 6 (by omega) (by have e : (256 : Int) ^ 6 = 281474976710656 := rfl; omega) (by omega) (by omega) (by (try simp only [List.length_append, List.length_cons, List.length_nil, putB_len, pairTo_len]); omega) 110) rfl AllV.rf rfl rfl rfl rfl rfl) ?_
            refine AL_p (x_move rfl rfl) ?_
            refine AL_p (x_extract rfl rfl rfl) ?_
            refine AL_p (x_extract rfl rfl rfl) ?_
            refine AL_p (x_assign rfl rfl) ?_
            refine AL_nil ?_
            refine AW_region ?_
            refine AL_p (x_add rfl rfl rfl (IntWalk.i64_in _ (by omega))) ?_
            refine AL_p (x_move rfl rfl) ?_
            refine AL_nil ?_
            refine ⟨⟨j + 1, by omega⟩, rn [(106, 110)], ?_, by dsimp only; omega⟩
            exact ⟨by (repeat refine ⟨⟨_, rfl, by first | exact VLe.rf | exact vle_int (by dsimp only; omega)⟩, ?_⟩); exact trivial, by (repeat refine ⟨⟨_, rfl, by first | exact BLe.rf | exact BLe.box AllC.rf | exact BLe.arr (by first | (rw [flatTo_zero, List.append_nil]; done) | (rw [hpl, flatTo_zero, List.append_nil]; done) | (rw [← flatTo_more (f := actBytes) (k := j) (by omega)]; simp only [actBytes, hp1, hp2, List.append_assoc, List.cons_append, List.nil_append]; done) | (exfalso; omega))⟩, ?_⟩); exact trivial, by repeat (first | exact trivial | refine ⟨⟨rfl, by first | (left; intro h; cases h) | (right; rfl), fun _ h => ⟨_, h⟩⟩, ?_⟩), rfl⟩
          · try simp only [decide_eq_true_eq, decide_eq_false_iff_not, Bool.not_eq_true, Bool.not_eq_false, Bool.not_eq_true', Bool.not_eq_false', beq_iff_eq, bne_iff_ne, beq_eq_false_iff_ne, bne_eq_false_iff_eq, Int.not_lt, Int.not_le, ge_iff_le, gt_iff_lt] at h72
            refine AW_condF rfl ?_
            refine AW_exit (BQ_hit ?_)
            refine AW_seq ?_
            refine AW_seq ?_
            refine AW_region ?_
            refine AL_p (x_field (off := 0) (o' := 0) rfl rfl rfl (by kernel_rfl) rfl) ?_
            refine AL_p (x_load1 rfl rfl rfl (by kernel_rfl) rfl) ?_
            refine AL_b (x_eql rfl rfl rfl) (fun b99 h99 => ?_)
            refine AL_nil ?_
            cases b99
            rotate_left
            · try simp only [decide_eq_true_eq, decide_eq_false_iff_not, Bool.not_eq_true, Bool.not_eq_false, Bool.not_eq_true', Bool.not_eq_false', beq_iff_eq, bne_iff_ne, beq_eq_false_iff_ne, bne_eq_false_iff_eq, Int.not_lt, Int.not_le, ge_iff_le, gt_iff_lt] at h99
              have hN2 := hN (by omega)
              have hN8 := eight_8 hN2
              have hhf := head_len (l := m.head.v)
              refine AW_condT rfl ?_
              refine AW_seq ?_
              refine AW_seq ?_
              refine AW_region ?_
              refine AL_p (x_field (off := 8) (o' := 8) rfl rfl rfl (by kernel_rfl) rfl) ?_
              refine AL_b (x_load1 rfl rfl rfl (by kernel_rfl) rfl) (fun b101 h101 => ?_)
              refine AL_nil ?_
              cases b101
              rotate_left
              · try simp only [decide_eq_true_eq, decide_eq_false_iff_not, Bool.not_eq_true, Bool.not_eq_false, Bool.not_eq_true', Bool.not_eq_false', beq_iff_eq, bne_iff_ne, beq_eq_false_iff_ne, bne_eq_false_iff_eq, Int.not_lt, Int.not_le, ge_iff_le, gt_iff_lt] at h101
                refine AW_condT rfl ?_
                refine AW_region ?_
                refine AL_p (x_move rfl rfl) ?_
                refine AL_p (y_bslice (E := 5) (e := (intE .u8)) [.const (.int .u8 (1))] ([1]) 111 rfl rfl rfl rfl rfl rfl rfl rfl FitL.rf rfl rfl rfl rfl rfl rfl (by kernel_rfl)) ?_
                refine AL_p (y_append 112 rfl rfl rfl rfl rfl rfl rfl rfl (by kernel_rfl) (by (try simp only [List.length_append, List.length_cons, List.length_nil, putB_len, pairTo_len]); omega)) ?_
                refine AL_p (x_assign rfl rfl) ?_
                refine AL_nil ?_
                refine AW_seq ?_
                refine AW_region ?_
                refine AL_p (x_assign rfl rfl) ?_
                refine AL_nil ?_
                refine AW_block ?_
                refine AW_loop2 (ι := {q : Nat // q ≤ m.head.v.length}) (fun p => [(3, .one (.own 112)), (7, .one (.c (.int .i64 ((p.1) : Int))))]) (fun p => [(112, some (.arr 5 (intE .u8) ([handB m.hand] ++ flatTo (fun n => putB n 6) m.head.v (p.1)) true))]) [1] [100, 101, 103] (fun p => m.head.v.length - (p.1)) ⟨0, by omega⟩ (rn []) ?_ ?_
                exact ⟨by (repeat refine ⟨⟨_, rfl, by first | exact VLe.rf | exact vle_int (by dsimp only; omega)⟩, ?_⟩); exact trivial, by (repeat refine ⟨⟨_, rfl, by first | exact BLe.rf | exact BLe.box AllC.rf | exact BLe.arr (by first | (rw [flatTo_zero, List.append_nil]; simp [handB, *]; done) | (rw [← flatTo_more (f := fun n => putB n 6) (k := i) (by omega)]; simp only [List.append_assoc]; done) | (exfalso; omega))⟩, ?_⟩); exact trivial, by repeat (first | exact trivial | refine ⟨⟨rfl, by first | (left; intro h; cases h) | (right; rfl), fun _ h => ⟨_, h⟩⟩, ?_⟩), rfl⟩
                rintro ⟨i, hinv⟩
                dsimp only
                have hi := hinv
                refine AW_seq ?_
                refine AW_seq ?_
                refine AW_region ?_
                refine AL_p (x_move rfl rfl) ?_
                refine AL_b (x_lss rfl rfl rfl) (fun b109 h109 => ?_)
                refine AL_nil ?_
                cases b109
                rotate_left
                · try simp only [decide_eq_true_eq, decide_eq_false_iff_not, Bool.not_eq_true, Bool.not_eq_false, Bool.not_eq_true', Bool.not_eq_false', beq_iff_eq, bne_iff_ne, beq_eq_false_iff_ne, bne_eq_false_iff_eq, Int.not_lt, Int.not_le, ge_iff_le, gt_iff_lt] at h109
                  have hf8 := fits48 (eight_get hN2 (k := i) (by omega))
                  have hhi := hhf i
                  refine AW_condT rfl ?_
                  refine AW_skip ?_
                  refine AW_seq ?_
                  refine AW_block ?_
                  refine AW_region ?_
                  refine AL_p (x_move rfl rfl) ?_
                  refine AL_p (x_field (off := 9) (o' := 9) rfl rfl rfl (by kernel_rfl) rfl) ?_
                  refine AL_p (x_field (off := 0) (o' := 9) rfl rfl rfl (by kernel_rfl) rfl) ?_
                  refine AL_p (x_load1 rfl rfl rfl (by kernel_rfl) rfl) ?_
                  refine AL_p (x_move rfl rfl) ?_
                  refine AL_p (x_index (E := 3) (n := 1) rfl rfl rfl (by kernel_rfl) rfl (k := i) (by omega) (by omega)) ?_
                  refine AL_p (x_eload1 rfl rfl (by kernel_rfl) rfl) ?_
                  refine AL_p (x_callR rfl rfl rfl (putNumS_c _ (m.head.v[i]'(by omega)) 6 (by omega) (by have e : (256 : Int) ^ 6 = 281474976710656 := rfl; omega) (by omega) (by omega) (by (try simp only [List.length_append, List.length_cons, List.length_nil, putB_len, pairTo_len]); omega) 113) rfl AllV.rf rfl rfl rfl rfl rfl) ?_
                  refine AL_p (x_move rfl rfl) ?_
                  refine AL_p (x_extract rfl rfl rfl) ?_
                  refine AL_p (x_extract rfl rfl rfl) ?_
                  refine AL_p (x_assign rfl rfl) ?_
                  refine AL_nil ?_
                  refine AW_region ?_
                  refine AL_p (x_move rfl rfl) ?_
                  refine AL_p (x_add rfl rfl rfl (IntWalk.i64_in _ (by omega))) ?_
                  refine AL_p (x_assign rfl rfl) ?_
                  refine AL_nil ?_
                  refine ⟨⟨i + 1, by omega⟩, rn [(112, 113)], ?_, by dsimp only; omega⟩
                  exact ⟨by (repeat refine ⟨⟨_, rfl, by first | exact VLe.rf | exact vle_int (by dsimp only; omega)⟩, ?_⟩); exact trivial, by (repeat refine ⟨⟨_, rfl, by first | exact BLe.rf | exact BLe.box AllC.rf | exact BLe.arr (by first | (rw [flatTo_zero, List.append_nil]; simp [handB, *]; done) | (rw [← flatTo_more (f := fun n => putB n 6) (k := i) (by omega)]; simp only [List.append_assoc]; done) | (exfalso; omega))⟩, ?_⟩); exact trivial, by repeat (first | exact trivial | refine ⟨⟨rfl, by first | (left; intro h; cases h) | (right; rfl), fun _ h => ⟨_, h⟩⟩, ?_⟩), rfl⟩
                · try simp only [decide_eq_true_eq, decide_eq_false_iff_not, Bool.not_eq_true, Bool.not_eq_false, Bool.not_eq_true', Bool.not_eq_false', beq_iff_eq, bne_iff_ne, beq_eq_false_iff_ne, bne_eq_false_iff_eq, Int.not_lt, Int.not_le, ge_iff_le, gt_iff_lt] at h109
                  refine AW_condF rfl ?_
                  refine AW_exit (BQ_hit ?_)
                  refine AW_seq ?_
                  refine AW_region ?_
                  refine AL_p (x_move rfl rfl) ?_
                  refine AL_p (x_assign rfl rfl) ?_
                  refine AL_nil ?_
                  refine AW_ret ?_
                  exact ⟨rn [(0, 112)], ⟨⟨⟨_, rfl, VLe.rf⟩, trivial⟩, ⟨⟨_, rfl, BLe.arr (by first | (rw [bodyB_add (by omega)]; simp only [flatTo_all (f := actBytes) (xs := m.acts) (k := j) (by omega), List.append_assoc, List.nil_append]; done) | (rw [bodyB_flip (by omega)]; done) | (rw [bodyB_flip (by omega)]; simp only [List.append_assoc, List.nil_append]; done) | (rw [bodyB_note (by omega)]; simp only [headBy, flatTo_all (f := fun n => putB n 6) (xs := m.head.v) (k := i) (by omega), List.append_assoc, List.nil_append]; done) | (rw [bodyB_note (by omega), flatTo_all (f := fun n => putB n 6) (xs := m.head.v) (k := i) (by omega)]; simp [headBy, handB, *]; done) | (rw [bodyB_none (by omega) (by omega) (by omega)]; done) | (rw [bodyB_none (by omega) (by omega) (by omega)]; simp only [List.append_nil]; done) | (exfalso; omega))⟩, trivial⟩, trivial, rfl⟩⟩
              · try simp only [decide_eq_true_eq, decide_eq_false_iff_not, Bool.not_eq_true, Bool.not_eq_false, Bool.not_eq_true', Bool.not_eq_false', beq_iff_eq, bne_iff_ne, beq_eq_false_iff_ne, bne_eq_false_iff_eq, Int.not_lt, Int.not_le, ge_iff_le, gt_iff_lt] at h101
                refine AW_condF rfl ?_
                refine AW_region ?_
                refine AL_p (x_move rfl rfl) ?_
                refine AL_p (y_bslice (E := 5) (e := (intE .u8)) [.const (.int .u8 (0))] ([0]) 114 rfl rfl rfl rfl rfl rfl rfl rfl FitL.rf rfl rfl rfl rfl rfl rfl (by kernel_rfl)) ?_
                refine AL_p (y_append 115 rfl rfl rfl rfl rfl rfl rfl rfl (by kernel_rfl) (by (try simp only [List.length_append, List.length_cons, List.length_nil, putB_len, pairTo_len]); omega)) ?_
                refine AL_p (x_assign rfl rfl) ?_
                refine AL_nil ?_
                refine AW_seq ?_
                refine AW_region ?_
                refine AL_p (x_assign rfl rfl) ?_
                refine AL_nil ?_
                refine AW_block ?_
                refine AW_loop2 (ι := {q : Nat // q ≤ m.head.v.length}) (fun p => [(3, .one (.own 115)), (7, .one (.c (.int .i64 ((p.1) : Int))))]) (fun p => [(115, some (.arr 5 (intE .u8) ([handB m.hand] ++ flatTo (fun n => putB n 6) m.head.v (p.1)) true))]) [1] [100, 101, 103] (fun p => m.head.v.length - (p.1)) ⟨0, by omega⟩ (rn []) ?_ ?_
                exact ⟨by (repeat refine ⟨⟨_, rfl, by first | exact VLe.rf | exact vle_int (by dsimp only; omega)⟩, ?_⟩); exact trivial, by (repeat refine ⟨⟨_, rfl, by first | exact BLe.rf | exact BLe.box AllC.rf | exact BLe.arr (by first | (rw [flatTo_zero, List.append_nil]; simp [handB, *]; done) | (rw [← flatTo_more (f := fun n => putB n 6) (k := i) (by omega)]; simp only [List.append_assoc]; done) | (exfalso; omega))⟩, ?_⟩); exact trivial, by repeat (first | exact trivial | refine ⟨⟨rfl, by first | (left; intro h; cases h) | (right; rfl), fun _ h => ⟨_, h⟩⟩, ?_⟩), rfl⟩
                rintro ⟨i, hinv⟩
                dsimp only
                have hi := hinv
                refine AW_seq ?_
                refine AW_seq ?_
                refine AW_region ?_
                refine AL_p (x_move rfl rfl) ?_
                refine AL_b (x_lss rfl rfl rfl) (fun b109 h109 => ?_)
                refine AL_nil ?_
                cases b109
                rotate_left
                · try simp only [decide_eq_true_eq, decide_eq_false_iff_not, Bool.not_eq_true, Bool.not_eq_false, Bool.not_eq_true', Bool.not_eq_false', beq_iff_eq, bne_iff_ne, beq_eq_false_iff_ne, bne_eq_false_iff_eq, Int.not_lt, Int.not_le, ge_iff_le, gt_iff_lt] at h109
                  have hf8 := fits48 (eight_get hN2 (k := i) (by omega))
                  have hhi := hhf i
                  refine AW_condT rfl ?_
                  refine AW_skip ?_
                  refine AW_seq ?_
                  refine AW_block ?_
                  refine AW_region ?_
                  refine AL_p (x_move rfl rfl) ?_
                  refine AL_p (x_field (off := 9) (o' := 9) rfl rfl rfl (by kernel_rfl) rfl) ?_
                  refine AL_p (x_field (off := 0) (o' := 9) rfl rfl rfl (by kernel_rfl) rfl) ?_
                  refine AL_p (x_load1 rfl rfl rfl (by kernel_rfl) rfl) ?_
                  refine AL_p (x_move rfl rfl) ?_
                  refine AL_p (x_index (E := 3) (n := 1) rfl rfl rfl (by kernel_rfl) rfl (k := i) (by omega) (by omega)) ?_
                  refine AL_p (x_eload1 rfl rfl (by kernel_rfl) rfl) ?_
                  refine AL_p (x_callR rfl rfl rfl (putNumS_c _ (m.head.v[i]'(by omega)) 6 (by omega) (by have e : (256 : Int) ^ 6 = 281474976710656 := rfl; omega) (by omega) (by omega) (by (try simp only [List.length_append, List.length_cons, List.length_nil, putB_len, pairTo_len]); omega) 113) rfl AllV.rf rfl rfl rfl rfl rfl) ?_
                  refine AL_p (x_move rfl rfl) ?_
                  refine AL_p (x_extract rfl rfl rfl) ?_
                  refine AL_p (x_extract rfl rfl rfl) ?_
                  refine AL_p (x_assign rfl rfl) ?_
                  refine AL_nil ?_
                  refine AW_region ?_
                  refine AL_p (x_move rfl rfl) ?_
                  refine AL_p (x_add rfl rfl rfl (IntWalk.i64_in _ (by omega))) ?_
                  refine AL_p (x_assign rfl rfl) ?_
                  refine AL_nil ?_
                  refine ⟨⟨i + 1, by omega⟩, rn [(115, 113)], ?_, by dsimp only; omega⟩
                  exact ⟨by (repeat refine ⟨⟨_, rfl, by first | exact VLe.rf | exact vle_int (by dsimp only; omega)⟩, ?_⟩); exact trivial, by (repeat refine ⟨⟨_, rfl, by first | exact BLe.rf | exact BLe.box AllC.rf | exact BLe.arr (by first | (rw [flatTo_zero, List.append_nil]; simp [handB, *]; done) | (rw [← flatTo_more (f := fun n => putB n 6) (k := i) (by omega)]; simp only [List.append_assoc]; done) | (exfalso; omega))⟩, ?_⟩); exact trivial, by repeat (first | exact trivial | refine ⟨⟨rfl, by first | (left; intro h; cases h) | (right; rfl), fun _ h => ⟨_, h⟩⟩, ?_⟩), rfl⟩
                · try simp only [decide_eq_true_eq, decide_eq_false_iff_not, Bool.not_eq_true, Bool.not_eq_false, Bool.not_eq_true', Bool.not_eq_false', beq_iff_eq, bne_iff_ne, beq_eq_false_iff_ne, bne_eq_false_iff_eq, Int.not_lt, Int.not_le, ge_iff_le, gt_iff_lt] at h109
                  refine AW_condF rfl ?_
                  refine AW_exit (BQ_hit ?_)
                  refine AW_seq ?_
                  refine AW_region ?_
                  refine AL_p (x_move rfl rfl) ?_
                  refine AL_p (x_assign rfl rfl) ?_
                  refine AL_nil ?_
                  refine AW_ret ?_
                  exact ⟨rn [(0, 115)], ⟨⟨⟨_, rfl, VLe.rf⟩, trivial⟩, ⟨⟨_, rfl, BLe.arr (by first | (rw [bodyB_add (by omega)]; simp only [flatTo_all (f := actBytes) (xs := m.acts) (k := j) (by omega), List.append_assoc, List.nil_append]; done) | (rw [bodyB_flip (by omega)]; done) | (rw [bodyB_flip (by omega)]; simp only [List.append_assoc, List.nil_append]; done) | (rw [bodyB_note (by omega)]; simp only [headBy, flatTo_all (f := fun n => putB n 6) (xs := m.head.v) (k := i) (by omega), List.append_assoc, List.nil_append]; done) | (rw [bodyB_note (by omega), flatTo_all (f := fun n => putB n 6) (xs := m.head.v) (k := i) (by omega)]; simp [headBy, handB, *]; done) | (rw [bodyB_none (by omega) (by omega) (by omega)]; done) | (rw [bodyB_none (by omega) (by omega) (by omega)]; simp only [List.append_nil]; done) | (exfalso; omega))⟩, trivial⟩, trivial, rfl⟩⟩
            · try simp only [decide_eq_true_eq, decide_eq_false_iff_not, Bool.not_eq_true, Bool.not_eq_false, Bool.not_eq_true', Bool.not_eq_false', beq_iff_eq, bne_iff_ne, beq_eq_false_iff_ne, bne_eq_false_iff_eq, Int.not_lt, Int.not_le, ge_iff_le, gt_iff_lt] at h99
              refine AW_condF rfl ?_
              refine AW_skip ?_
              refine AW_seq ?_
              refine AW_region ?_
              refine AL_p (x_move rfl rfl) ?_
              refine AL_p (x_assign rfl rfl) ?_
              refine AL_nil ?_
              refine AW_ret ?_
              exact ⟨rn [(0, 106)], ⟨⟨⟨_, rfl, VLe.rf⟩, trivial⟩, ⟨⟨_, rfl, BLe.arr (by first | (rw [bodyB_add (by omega)]; simp only [flatTo_all (f := actBytes) (xs := m.acts) (k := j) (by omega), List.append_assoc, List.nil_append]; done) | (rw [bodyB_flip (by omega)]; done) | (rw [bodyB_flip (by omega)]; simp only [List.append_assoc, List.nil_append]; done) | (rw [bodyB_note (by omega)]; simp only [headBy, flatTo_all (f := fun n => putB n 6) (xs := m.head.v) (k := i) (by omega), List.append_assoc, List.nil_append]; done) | (rw [bodyB_note (by omega), flatTo_all (f := fun n => putB n 6) (xs := m.head.v) (k := i) (by omega)]; simp [headBy, handB, *]; done) | (rw [bodyB_none (by omega) (by omega) (by omega)]; done) | (rw [bodyB_none (by omega) (by omega) (by omega)]; simp only [List.append_nil]; done) | (exfalso; omega))⟩, trivial⟩, trivial, rfl⟩⟩
      · try simp only [decide_eq_true_eq, decide_eq_false_iff_not, Bool.not_eq_true, Bool.not_eq_false, Bool.not_eq_true', Bool.not_eq_false', beq_iff_eq, bne_iff_ne, beq_eq_false_iff_ne, bne_eq_false_iff_eq, Int.not_lt, Int.not_le, ge_iff_le, gt_iff_lt] at h26
        refine AW_condF rfl ?_
        refine AW_skip ?_
        refine AW_seq ?_
        refine AW_seq ?_
        refine AW_region ?_
        refine AL_p (x_field (off := 0) (o' := 0) rfl rfl rfl (by kernel_rfl) rfl) ?_
        refine AL_p (x_load1 rfl rfl rfl (by kernel_rfl) rfl) ?_
        refine AL_b (x_eql rfl rfl rfl) (fun b99 h99 => ?_)
        refine AL_nil ?_
        cases b99
        rotate_left
        · try simp only [decide_eq_true_eq, decide_eq_false_iff_not, Bool.not_eq_true, Bool.not_eq_false, Bool.not_eq_true', Bool.not_eq_false', beq_iff_eq, bne_iff_ne, beq_eq_false_iff_ne, bne_eq_false_iff_eq, Int.not_lt, Int.not_le, ge_iff_le, gt_iff_lt] at h99
          have hN2 := hN (by omega)
          have hN8 := eight_8 hN2
          have hhf := head_len (l := m.head.v)
          refine AW_condT rfl ?_
          refine AW_seq ?_
          refine AW_seq ?_
          refine AW_region ?_
          refine AL_p (x_field (off := 8) (o' := 8) rfl rfl rfl (by kernel_rfl) rfl) ?_
          refine AL_b (x_load1 rfl rfl rfl (by kernel_rfl) rfl) (fun b101 h101 => ?_)
          refine AL_nil ?_
          cases b101
          rotate_left
          · try simp only [decide_eq_true_eq, decide_eq_false_iff_not, Bool.not_eq_true, Bool.not_eq_false, Bool.not_eq_true', Bool.not_eq_false', beq_iff_eq, bne_iff_ne, beq_eq_false_iff_ne, bne_eq_false_iff_eq, Int.not_lt, Int.not_le, ge_iff_le, gt_iff_lt] at h101
            refine AW_condT rfl ?_
            refine AW_region ?_
            refine AL_p (x_move rfl rfl) ?_
            refine AL_p (y_bslice (E := 5) (e := (intE .u8)) [.const (.int .u8 (1))] ([1]) 111 rfl rfl rfl rfl rfl rfl rfl rfl FitL.rf rfl rfl rfl rfl rfl rfl (by kernel_rfl)) ?_
            refine AL_p (y_append 112 rfl rfl rfl rfl rfl rfl rfl rfl (by kernel_rfl) (by (try simp only [List.length_append, List.length_cons, List.length_nil, putB_len, pairTo_len]); omega)) ?_
            refine AL_p (x_assign rfl rfl) ?_
            refine AL_nil ?_
            refine AW_seq ?_
            refine AW_region ?_
            refine AL_p (x_assign rfl rfl) ?_
            refine AL_nil ?_
            refine AW_block ?_
            refine AW_loop2 (ι := {q : Nat // q ≤ m.head.v.length}) (fun p => [(3, .one (.own 112)), (7, .one (.c (.int .i64 ((p.1) : Int))))]) (fun p => [(112, some (.arr 5 (intE .u8) ([handB m.hand] ++ flatTo (fun n => putB n 6) m.head.v (p.1)) true))]) [1] [100] (fun p => m.head.v.length - (p.1)) ⟨0, by omega⟩ (rn []) ?_ ?_
            exact ⟨by (repeat refine ⟨⟨_, rfl, by first | exact VLe.rf | exact vle_int (by dsimp only; omega)⟩, ?_⟩); exact trivial, by (repeat refine ⟨⟨_, rfl, by first | exact BLe.rf | exact BLe.box AllC.rf | exact BLe.arr (by first | (rw [flatTo_zero, List.append_nil]; simp [handB, *]; done) | (rw [← flatTo_more (f := fun n => putB n 6) (k := i) (by omega)]; simp only [List.append_assoc]; done) | (exfalso; omega))⟩, ?_⟩); exact trivial, by repeat (first | exact trivial | refine ⟨⟨rfl, by first | (left; intro h; cases h) | (right; rfl), fun _ h => ⟨_, h⟩⟩, ?_⟩), rfl⟩
            rintro ⟨i, hinv⟩
            dsimp only
            have hi := hinv
            refine AW_seq ?_
            refine AW_seq ?_
            refine AW_region ?_
            refine AL_p (x_move rfl rfl) ?_
            refine AL_b (x_lss rfl rfl rfl) (fun b109 h109 => ?_)
            refine AL_nil ?_
            cases b109
            rotate_left
            · try simp only [decide_eq_true_eq, decide_eq_false_iff_not, Bool.not_eq_true, Bool.not_eq_false, Bool.not_eq_true', Bool.not_eq_false', beq_iff_eq, bne_iff_ne, beq_eq_false_iff_ne, bne_eq_false_iff_eq, Int.not_lt, Int.not_le, ge_iff_le, gt_iff_lt] at h109
              have hf8 := fits48 (eight_get hN2 (k := i) (by omega))
              have hhi := hhf i
              refine AW_condT rfl ?_
              refine AW_skip ?_
              refine AW_seq ?_
              refine AW_block ?_
              refine AW_region ?_
              refine AL_p (x_move rfl rfl) ?_
              refine AL_p (x_field (off := 9) (o' := 9) rfl rfl rfl (by kernel_rfl) rfl) ?_
              refine AL_p (x_field (off := 0) (o' := 9) rfl rfl rfl (by kernel_rfl) rfl) ?_
              refine AL_p (x_load1 rfl rfl rfl (by kernel_rfl) rfl) ?_
              refine AL_p (x_move rfl rfl) ?_
              refine AL_p (x_index (E := 3) (n := 1) rfl rfl rfl (by kernel_rfl) rfl (k := i) (by omega) (by omega)) ?_
              refine AL_p (x_eload1 rfl rfl (by kernel_rfl) rfl) ?_
              refine AL_p (x_callR rfl rfl rfl (putNumS_c _ (m.head.v[i]'(by omega)) 6 (by omega) (by have e : (256 : Int) ^ 6 = 281474976710656 := rfl; omega) (by omega) (by omega) (by (try simp only [List.length_append, List.length_cons, List.length_nil, putB_len, pairTo_len]); omega) 113) rfl AllV.rf rfl rfl rfl rfl rfl) ?_
              refine AL_p (x_move rfl rfl) ?_
              refine AL_p (x_extract rfl rfl rfl) ?_
              refine AL_p (x_extract rfl rfl rfl) ?_
              refine AL_p (x_assign rfl rfl) ?_
              refine AL_nil ?_
              refine AW_region ?_
              refine AL_p (x_move rfl rfl) ?_
              refine AL_p (x_add rfl rfl rfl (IntWalk.i64_in _ (by omega))) ?_
              refine AL_p (x_assign rfl rfl) ?_
              refine AL_nil ?_
              refine ⟨⟨i + 1, by omega⟩, rn [(112, 113)], ?_, by dsimp only; omega⟩
              exact ⟨by (repeat refine ⟨⟨_, rfl, by first | exact VLe.rf | exact vle_int (by dsimp only; omega)⟩, ?_⟩); exact trivial, by (repeat refine ⟨⟨_, rfl, by first | exact BLe.rf | exact BLe.box AllC.rf | exact BLe.arr (by first | (rw [flatTo_zero, List.append_nil]; simp [handB, *]; done) | (rw [← flatTo_more (f := fun n => putB n 6) (k := i) (by omega)]; simp only [List.append_assoc]; done) | (exfalso; omega))⟩, ?_⟩); exact trivial, by repeat (first | exact trivial | refine ⟨⟨rfl, by first | (left; intro h; cases h) | (right; rfl), fun _ h => ⟨_, h⟩⟩, ?_⟩), rfl⟩
            · try simp only [decide_eq_true_eq, decide_eq_false_iff_not, Bool.not_eq_true, Bool.not_eq_false, Bool.not_eq_true', Bool.not_eq_false', beq_iff_eq, bne_iff_ne, beq_eq_false_iff_ne, bne_eq_false_iff_eq, Int.not_lt, Int.not_le, ge_iff_le, gt_iff_lt] at h109
              refine AW_condF rfl ?_
              refine AW_exit (BQ_hit ?_)
              refine AW_seq ?_
              refine AW_region ?_
              refine AL_p (x_move rfl rfl) ?_
              refine AL_p (x_assign rfl rfl) ?_
              refine AL_nil ?_
              refine AW_ret ?_
              exact ⟨rn [(0, 112)], ⟨⟨⟨_, rfl, VLe.rf⟩, trivial⟩, ⟨⟨_, rfl, BLe.arr (by first | (rw [bodyB_add (by omega)]; simp only [flatTo_all (f := actBytes) (xs := m.acts) (k := j) (by omega), List.append_assoc, List.nil_append]; done) | (rw [bodyB_flip (by omega)]; done) | (rw [bodyB_flip (by omega)]; simp only [List.append_assoc, List.nil_append]; done) | (rw [bodyB_note (by omega)]; simp only [headBy, flatTo_all (f := fun n => putB n 6) (xs := m.head.v) (k := i) (by omega), List.append_assoc, List.nil_append]; done) | (rw [bodyB_note (by omega), flatTo_all (f := fun n => putB n 6) (xs := m.head.v) (k := i) (by omega)]; simp [headBy, handB, *]; done) | (rw [bodyB_none (by omega) (by omega) (by omega)]; done) | (rw [bodyB_none (by omega) (by omega) (by omega)]; simp only [List.append_nil]; done) | (exfalso; omega))⟩, trivial⟩, trivial, rfl⟩⟩
          · try simp only [decide_eq_true_eq, decide_eq_false_iff_not, Bool.not_eq_true, Bool.not_eq_false, Bool.not_eq_true', Bool.not_eq_false', beq_iff_eq, bne_iff_ne, beq_eq_false_iff_ne, bne_eq_false_iff_eq, Int.not_lt, Int.not_le, ge_iff_le, gt_iff_lt] at h101
            refine AW_condF rfl ?_
            refine AW_region ?_
            refine AL_p (x_move rfl rfl) ?_
            refine AL_p (y_bslice (E := 5) (e := (intE .u8)) [.const (.int .u8 (0))] ([0]) 114 rfl rfl rfl rfl rfl rfl rfl rfl FitL.rf rfl rfl rfl rfl rfl rfl (by kernel_rfl)) ?_
            refine AL_p (y_append 115 rfl rfl rfl rfl rfl rfl rfl rfl (by kernel_rfl) (by (try simp only [List.length_append, List.length_cons, List.length_nil, putB_len, pairTo_len]); omega)) ?_
            refine AL_p (x_assign rfl rfl) ?_
            refine AL_nil ?_
            refine AW_seq ?_
            refine AW_region ?_
            refine AL_p (x_assign rfl rfl) ?_
            refine AL_nil ?_
            refine AW_block ?_
            refine AW_loop2 (ι := {q : Nat // q ≤ m.head.v.length}) (fun p => [(3, .one (.own 115)), (7, .one (.c (.int .i64 ((p.1) : Int))))]) (fun p => [(115, some (.arr 5 (intE .u8) ([handB m.hand] ++ flatTo (fun n => putB n 6) m.head.v (p.1)) true))]) [1] [100] (fun p => m.head.v.length - (p.1)) ⟨0, by omega⟩ (rn []) ?_ ?_
            exact ⟨by (repeat refine ⟨⟨_, rfl, by first | exact VLe.rf | exact vle_int (by dsimp only; omega)⟩, ?_⟩); exact trivial, by (repeat refine ⟨⟨_, rfl, by first | exact BLe.rf | exact BLe.box AllC.rf | exact BLe.arr (by first | (rw [flatTo_zero, List.append_nil]; simp [handB, *]; done) | (rw [← flatTo_more (f := fun n => putB n 6) (k := i) (by omega)]; simp only [List.append_assoc]; done) | (exfalso; omega))⟩, ?_⟩); exact trivial, by repeat (first | exact trivial | refine ⟨⟨rfl, by first | (left; intro h; cases h) | (right; rfl), fun _ h => ⟨_, h⟩⟩, ?_⟩), rfl⟩
            rintro ⟨i, hinv⟩
            dsimp only
            have hi := hinv
            refine AW_seq ?_
            refine AW_seq ?_
            refine AW_region ?_
            refine AL_p (x_move rfl rfl) ?_
            refine AL_b (x_lss rfl rfl rfl) (fun b109 h109 => ?_)
            refine AL_nil ?_
            cases b109
            rotate_left
            · try simp only [decide_eq_true_eq, decide_eq_false_iff_not, Bool.not_eq_true, Bool.not_eq_false, Bool.not_eq_true', Bool.not_eq_false', beq_iff_eq, bne_iff_ne, beq_eq_false_iff_ne, bne_eq_false_iff_eq, Int.not_lt, Int.not_le, ge_iff_le, gt_iff_lt] at h109
              have hf8 := fits48 (eight_get hN2 (k := i) (by omega))
              have hhi := hhf i
              refine AW_condT rfl ?_
              refine AW_skip ?_
              refine AW_seq ?_
              refine AW_block ?_
              refine AW_region ?_
              refine AL_p (x_move rfl rfl) ?_
              refine AL_p (x_field (off := 9) (o' := 9) rfl rfl rfl (by kernel_rfl) rfl) ?_
              refine AL_p (x_field (off := 0) (o' := 9) rfl rfl rfl (by kernel_rfl) rfl) ?_
              refine AL_p (x_load1 rfl rfl rfl (by kernel_rfl) rfl) ?_
              refine AL_p (x_move rfl rfl) ?_
              refine AL_p (x_index (E := 3) (n := 1) rfl rfl rfl (by kernel_rfl) rfl (k := i) (by omega) (by omega)) ?_
              refine AL_p (x_eload1 rfl rfl (by kernel_rfl) rfl) ?_
              refine AL_p (x_callR rfl rfl rfl (putNumS_c _ (m.head.v[i]'(by omega)) 6 (by omega) (by have e : (256 : Int) ^ 6 = 281474976710656 := rfl; omega) (by omega) (by omega) (by (try simp only [List.length_append, List.length_cons, List.length_nil, putB_len, pairTo_len]); omega) 113) rfl AllV.rf rfl rfl rfl rfl rfl) ?_
              refine AL_p (x_move rfl rfl) ?_
              refine AL_p (x_extract rfl rfl rfl) ?_
              refine AL_p (x_extract rfl rfl rfl) ?_
              refine AL_p (x_assign rfl rfl) ?_
              refine AL_nil ?_
              refine AW_region ?_
              refine AL_p (x_move rfl rfl) ?_
              refine AL_p (x_add rfl rfl rfl (IntWalk.i64_in _ (by omega))) ?_
              refine AL_p (x_assign rfl rfl) ?_
              refine AL_nil ?_
              refine ⟨⟨i + 1, by omega⟩, rn [(115, 113)], ?_, by dsimp only; omega⟩
              exact ⟨by (repeat refine ⟨⟨_, rfl, by first | exact VLe.rf | exact vle_int (by dsimp only; omega)⟩, ?_⟩); exact trivial, by (repeat refine ⟨⟨_, rfl, by first | exact BLe.rf | exact BLe.box AllC.rf | exact BLe.arr (by first | (rw [flatTo_zero, List.append_nil]; simp [handB, *]; done) | (rw [← flatTo_more (f := fun n => putB n 6) (k := i) (by omega)]; simp only [List.append_assoc]; done) | (exfalso; omega))⟩, ?_⟩); exact trivial, by repeat (first | exact trivial | refine ⟨⟨rfl, by first | (left; intro h; cases h) | (right; rfl), fun _ h => ⟨_, h⟩⟩, ?_⟩), rfl⟩
            · try simp only [decide_eq_true_eq, decide_eq_false_iff_not, Bool.not_eq_true, Bool.not_eq_false, Bool.not_eq_true', Bool.not_eq_false', beq_iff_eq, bne_iff_ne, beq_eq_false_iff_ne, bne_eq_false_iff_eq, Int.not_lt, Int.not_le, ge_iff_le, gt_iff_lt] at h109
              refine AW_condF rfl ?_
              refine AW_exit (BQ_hit ?_)
              refine AW_seq ?_
              refine AW_region ?_
              refine AL_p (x_move rfl rfl) ?_
              refine AL_p (x_assign rfl rfl) ?_
              refine AL_nil ?_
              refine AW_ret ?_
              exact ⟨rn [(0, 115)], ⟨⟨⟨_, rfl, VLe.rf⟩, trivial⟩, ⟨⟨_, rfl, BLe.arr (by first | (rw [bodyB_add (by omega)]; simp only [flatTo_all (f := actBytes) (xs := m.acts) (k := j) (by omega), List.append_assoc, List.nil_append]; done) | (rw [bodyB_flip (by omega)]; done) | (rw [bodyB_flip (by omega)]; simp only [List.append_assoc, List.nil_append]; done) | (rw [bodyB_note (by omega)]; simp only [headBy, flatTo_all (f := fun n => putB n 6) (xs := m.head.v) (k := i) (by omega), List.append_assoc, List.nil_append]; done) | (rw [bodyB_note (by omega), flatTo_all (f := fun n => putB n 6) (xs := m.head.v) (k := i) (by omega)]; simp [headBy, handB, *]; done) | (rw [bodyB_none (by omega) (by omega) (by omega)]; done) | (rw [bodyB_none (by omega) (by omega) (by omega)]; simp only [List.append_nil]; done) | (exfalso; omega))⟩, trivial⟩, trivial, rfl⟩⟩
        · try simp only [decide_eq_true_eq, decide_eq_false_iff_not, Bool.not_eq_true, Bool.not_eq_false, Bool.not_eq_true', Bool.not_eq_false', beq_iff_eq, bne_iff_ne, beq_eq_false_iff_ne, bne_eq_false_iff_eq, Int.not_lt, Int.not_le, ge_iff_le, gt_iff_lt] at h99
          refine AW_condF rfl ?_
          refine AW_skip ?_
          refine AW_seq ?_
          refine AW_region ?_
          refine AL_p (x_move rfl rfl) ?_
          refine AL_p (x_assign rfl rfl) ?_
          refine AL_nil ?_
          refine AW_ret ?_
          exact ⟨rn [(0, 101)], ⟨⟨⟨_, rfl, VLe.rf⟩, trivial⟩, ⟨⟨_, rfl, BLe.arr (by first | (rw [bodyB_add (by omega)]; simp only [flatTo_all (f := actBytes) (xs := m.acts) (k := j) (by omega), List.append_assoc, List.nil_append]; done) | (rw [bodyB_flip (by omega)]; done) | (rw [bodyB_flip (by omega)]; simp only [List.append_assoc, List.nil_append]; done) | (rw [bodyB_note (by omega)]; simp only [headBy, flatTo_all (f := fun n => putB n 6) (xs := m.head.v) (k := i) (by omega), List.append_assoc, List.nil_append]; done) | (rw [bodyB_note (by omega), flatTo_all (f := fun n => putB n 6) (xs := m.head.v) (k := i) (by omega)]; simp [headBy, handB, *]; done) | (rw [bodyB_none (by omega) (by omega) (by omega)]; done) | (rw [bodyB_none (by omega) (by omega) (by omega)]; simp only [List.append_nil]; done) | (exfalso; omega))⟩, trivial⟩, trivial, rfl⟩⟩
theorem bodyS_c (m : Msgt) (hok : msgB m = true) (k : Nat) : AC Try.prog 74 [.agg (msgC m)] [] (.one (.own k)) [(k, some (.arr 5 (intE .u8) (bodyB m) true))] := AC.at (bodyS_c0 m hok) k

set_option maxHeartbeats 4000000 in
theorem msgBytesS_c0 (m : Msgt) : AC Try.prog 27 [.agg (msgC m)] [] (.tup [.one (.own 0), .one (.c (.bool (msgBytes m).2))]) [(0, some (.arr 5 (intE .u8) ((msgBytes m).1) true))] := by
  refine AC_body2 Try.func27 rfl rfl Try.ntmps27 rfl Try.results27 rfl rfl rfl ?_
  refine AW_seq ?_
  refine AW_region ?_
  refine AL_p (x_box 100 rfl rfl rfl rfl rfl rfl rfl) ?_
  refine AL_p (x_assign rfl rfl) ?_
  refine AL_p (x_assign rfl rfl) ?_
  refine AL_nil ?_
  refine AW_seq ?_
  refine AW_seq ?_
  refine AW_region ?_
  refine AL_p (x_loadN (n := 10) rfl rfl rfl (by kernel_rfl) rfl rfl) ?_
  refine AL_b (x_call0 rfl rfl rfl (msgS_c m) rfl rfl) (fun b7 h7 => ?_)
  refine AL_p (x_not rfl rfl) ?_
  refine AL_nil ?_
  cases b7
  rotate_left
  · try simp only [decide_eq_true_eq, decide_eq_false_iff_not, Bool.not_eq_true, Bool.not_eq_false, Bool.not_eq_true', Bool.not_eq_false', beq_iff_eq, bne_iff_ne, beq_eq_false_iff_ne, bne_eq_false_iff_eq, Int.not_lt, Int.not_le, ge_iff_le, gt_iff_lt] at h7
    have hok := h7
    have hno := msgBytes_ok h7
    have hbl := bodyB_len h7
    obtain ⟨hr, hA, hF, hN⟩ := msgB_in hok
    have hE := msgB_ep hok
    refine AW_condF rfl ?_
    refine AW_skip ?_
    refine AW_seq ?_
    refine AW_region ?_
    refine AL_p (x_loadN (n := 10) rfl rfl rfl (by kernel_rfl) rfl rfl) ?_
    refine AL_p (x_call1 rfl rfl rfl (bodyS_c m hok 101) rfl rfl rfl rfl) ?_
    refine AL_p (x_assign rfl rfl) ?_
    refine AL_nil ?_
    refine AW_seq ?_
    refine AW_region ?_
    refine AL_p (x_field (off := 0) (o' := 0) rfl rfl rfl (by kernel_rfl) rfl) ?_
    refine AL_p (x_load1 rfl rfl rfl (by kernel_rfl) rfl) ?_
    refine AL_p (x_conv (k' := .u8) rfl rfl (by kernel_rfl) (wrap8_id (by omega) (by omega))) ?_
    refine AL_p (y_bslice (E := 5) (e := (intE .u8)) [.const (.int .u8 (1)), .tmp 13] ([1, m.kind]) 102 rfl rfl rfl rfl rfl rfl rfl rfl FitL.rf rfl rfl rfl rfl rfl rfl (by kernel_rfl)) ?_
    refine AL_p (x_assign rfl rfl) ?_
    refine AL_nil ?_
    refine AW_seq ?_
    refine AW_region ?_
    refine AL_p (x_move rfl rfl) ?_
    refine AL_p (x_move rfl rfl) ?_
    refine AL_p (x_olen (E := 5) (n := 1) rfl rfl rfl (by kernel_rfl)) ?_
    refine AL_p (x_add rfl rfl rfl (IntWalk.i64_in _ (by omega))) ?_
    refine AL_p (x_callR rfl rfl rfl (putNumS_c _ (12 + ((bodyB m).length : Int)) 2 (by omega) (by have e : (256 : Int) ^ 2 = 65536 := rfl; omega) (by omega) (by omega) (by (try simp only [List.length_append, List.length_cons, List.length_nil, putB_len, pairTo_len]); omega) 103) rfl AllV.rf rfl rfl rfl rfl rfl) ?_
    refine AL_p (x_move rfl rfl) ?_
    refine AL_p (x_extract rfl rfl rfl) ?_
    refine AL_p (x_extract rfl rfl rfl) ?_
    refine AL_p (x_assign rfl rfl) ?_
    refine AL_nil ?_
    refine AW_seq ?_
    refine AW_region ?_
    refine AL_p (x_move rfl rfl) ?_
    refine AL_p (x_field (off := 1) (o' := 1) rfl rfl rfl (by kernel_rfl) rfl) ?_
    refine AL_p (x_load1 rfl rfl rfl (by kernel_rfl) rfl) ?_
    refine AL_p (x_callR rfl rfl rfl (putNumS_c _ m.session 4 (by omega) (by have e : (256 : Int) ^ 4 = 4294967296 := rfl; omega) (by omega) (by omega) (by (try simp only [List.length_append, List.length_cons, List.length_nil, putB_len, pairTo_len]); omega) 104) rfl AllV.rf rfl rfl rfl rfl rfl) ?_
    refine AL_p (x_move rfl rfl) ?_
    refine AL_p (x_extract rfl rfl rfl) ?_
    refine AL_p (x_extract rfl rfl rfl) ?_
    refine AL_p (x_assign rfl rfl) ?_
    refine AL_nil ?_
    refine AW_seq ?_
    refine AW_region ?_
    refine AL_p (x_move rfl rfl) ?_
    refine AL_p (x_field (off := 2) (o' := 2) rfl rfl rfl (by kernel_rfl) rfl) ?_
    refine AL_p (x_load1 rfl rfl rfl (by kernel_rfl) rfl) ?_
    refine AL_p (x_callR rfl rfl rfl (putNumS_c _ m.xid 4 (by omega) (by have e : (256 : Int) ^ 4 = 4294967296 := rfl; omega) (by omega) (by omega) (by (try simp only [List.length_append, List.length_cons, List.length_nil, putB_len, pairTo_len]); omega) 105) rfl AllV.rf rfl rfl rfl rfl rfl) ?_
    refine AL_p (x_move rfl rfl) ?_
    refine AL_p (x_extract rfl rfl rfl) ?_
    refine AL_p (x_extract rfl rfl rfl) ?_
    refine AL_p (x_assign rfl rfl) ?_
    refine AL_nil ?_
    refine AW_seq ?_
    refine AW_region ?_
    refine AL_p (x_move rfl rfl) ?_
    refine AL_p (x_move rfl rfl) ?_
    refine AL_p (y_append 106 rfl rfl rfl rfl rfl rfl rfl rfl (by kernel_rfl) (by (try simp only [List.length_append, List.length_cons, List.length_nil, putB_len, pairTo_len]); omega)) ?_
    refine AL_p (x_assign rfl rfl) ?_
    refine AL_p (x_assign rfl rfl) ?_
    refine AL_nil ?_
    refine AW_ret ?_
    exact ⟨rn [(0, 106)], ⟨⟨⟨_, rfl, VLe.rf⟩, ⟨_, rfl, by first | exact VLe.rf | exact vle_bool (by rw [hno])⟩, trivial⟩, ⟨⟨_, rfl, by first | exact BLe.rf | (refine BLe.arr ?_; rw [hno]; done) | (refine BLe.arr ?_; rw [hno]; simp only [wholeB, List.append_assoc])⟩, trivial⟩, trivial, rfl⟩⟩
  · try simp only [decide_eq_true_eq, decide_eq_false_iff_not, Bool.not_eq_true, Bool.not_eq_false, Bool.not_eq_true', Bool.not_eq_false', beq_iff_eq, bne_iff_ne, beq_eq_false_iff_ne, bne_eq_false_iff_eq, Int.not_lt, Int.not_le, ge_iff_le, gt_iff_lt] at h7
    have hno := msgBytes_no h7
    refine AW_condT rfl ?_
    refine AW_seq ?_
    refine AW_region ?_
    refine AL_p (x_assign rfl rfl) ?_
    refine AL_p (x_assign rfl rfl) ?_
    refine AL_nil ?_
    refine AW_adoptT (T := 5) (e := (intE .u8)) 107 2 rfl rfl rfl ?_
    refine AW_ret ?_
    exact ⟨rn [(0, 107)], ⟨⟨⟨_, rfl, VLe.rf⟩, ⟨_, rfl, by first | exact VLe.rf | exact vle_bool (by rw [hno])⟩, trivial⟩, ⟨⟨_, rfl, by first | exact BLe.rf | (refine BLe.arr ?_; rw [hno]; done) | (refine BLe.arr ?_; rw [hno]; simp only [wholeB, List.append_assoc])⟩, trivial⟩, trivial, rfl⟩⟩
theorem msgBytesS_c (m : Msgt) (k : Nat) : AC Try.prog 27 [.agg (msgC m)] [] (.tup [.one (.own k), .one (.c (.bool (msgBytes m).2))]) [(k, some (.arr 5 (intE .u8) ((msgBytes m).1) true))] := AC.at (msgBytesS_c0 m) k

set_option maxHeartbeats 4000000 in
theorem msgBytesI_c0 (m : Msgt) : AC Try.prog 28 [.agg (msgC m)] [] (.tup [.one (.own 0), .one (.c (.bool (msgBytes m).2))]) [(0, some (.arr 5 (intE .u8) ((msgBytes m).1) true))] := by
  refine AC_body2 Try.func28 rfl rfl Try.ntmps28 rfl Try.results28 rfl rfl rfl ?_
  refine AW_aggint 0 5 rfl rfl (fun hi0_5 => ?_)
  refine AW_seq ?_
  refine AW_region ?_
  refine AL_p (x_box 100 rfl rfl rfl rfl rfl rfl rfl) ?_
  refine AL_p (x_assign rfl rfl) ?_
  refine AL_p (x_assign rfl rfl) ?_
  refine AL_nil ?_
  refine AW_seq ?_
  refine AW_seq ?_
  refine AW_region ?_
  refine AL_p (x_loadN (n := 10) rfl rfl rfl (by kernel_rfl) rfl rfl) ?_
  refine AL_b (x_call0 rfl rfl rfl (msgI_c m) rfl rfl) (fun b12 h12 => ?_)
  refine AL_p (x_not rfl rfl) ?_
  refine AL_nil ?_
  cases b12
  rotate_left
  · try simp only [decide_eq_true_eq, decide_eq_false_iff_not, Bool.not_eq_true, Bool.not_eq_false, Bool.not_eq_true', Bool.not_eq_false', beq_iff_eq, bne_iff_ne, beq_eq_false_iff_ne, bne_eq_false_iff_eq, Int.not_lt, Int.not_le, ge_iff_le, gt_iff_lt] at h12
    have hok := h12
    have hno := msgBytes_ok h12
    have hbl := bodyB_len h12
    obtain ⟨hr, hA, hF, hN⟩ := msgB_in hok
    have hE := msgB_ep hok
    refine AW_condF rfl ?_
    refine AW_skip ?_
    refine AW_seq ?_
    refine AW_draw rfl ?_
    refine AL_p (x_field (off := 0) (o' := 0) rfl rfl rfl (by kernel_rfl) rfl) ?_
    refine AL_p (x_load1 rfl rfl rfl (by kernel_rfl) rfl) ?_
    refine AL_p (x_conv (k' := .u8) rfl rfl (by kernel_rfl) (wrap8_id (by omega) (by omega))) ?_
    refine AL_p (y_bslice (E := 5) (e := (intE .u8)) [.const (.int .u8 (1)), .tmp 16, .const (.int .u8 (0)), .const (.int .u8 (0))] ([1, m.kind, 0, 0]) 101 rfl rfl rfl rfl rfl rfl rfl rfl FitL.rf rfl rfl rfl rfl rfl rfl (by kernel_rfl)) ?_
    refine AL_p (x_field (off := 1) (o' := 1) rfl rfl rfl (by kernel_rfl) rfl) ?_
    refine AL_p (x_load1 rfl rfl rfl (by kernel_rfl) rfl) ?_
    refine AL_p (x_call (ks := []) (L := [(101, some _)]) (L' := [(101, none), (102, some _)]) rfl rfl rfl (AT.lend1 (putI_t _ m.session 4 (by omega) (by omega) (by omega) (by (try simp only [List.length_append, List.length_cons, List.length_nil, putB_len, pairTo_len]); omega)) 101 102 rfl (fun _ => rfl)) rfl AllV.rf (caught_of rfl) rfl rfl rfl ⟨rfl, trivial⟩ rfl) ?_
    refine AL_p (x_field (off := 2) (o' := 2) rfl rfl rfl (by kernel_rfl) rfl) ?_
    refine AL_p (x_load1 rfl rfl rfl (by kernel_rfl) rfl) ?_
    refine AL_p (x_call (ks := []) (L := [(102, some _)]) (L' := [(102, none), (103, some _)]) rfl rfl rfl (AT.lend1 (putI_t _ m.xid 4 (by omega) (by omega) (by omega) (by (try simp only [List.length_append, List.length_cons, List.length_nil, putB_len, pairTo_len]); omega)) 102 103 rfl (fun _ => rfl)) rfl AllV.rf (caught_of rfl) rfl rfl rfl ⟨rfl, trivial⟩ rfl) ?_
    refine AL_p (x_assign rfl rfl) ?_
    refine AL_nild (by kernel_rfl) ?_
    refine AW_seq ?_
    refine AW_seq ?_
    refine AW_region ?_
    refine AL_p (x_field (off := 0) (o' := 0) rfl rfl rfl (by kernel_rfl) rfl) ?_
    refine AL_p (x_load1 rfl rfl rfl (by kernel_rfl) rfl) ?_
    refine AL_nil ?_
    refine AW_block ?_
    refine AW_seq ?_
    refine AW_region ?_
    refine AL_b (x_eql rfl rfl rfl) (fun b27 h27 => ?_)
    refine AL_p (x_assign rfl rfl) ?_
    refine AL_nil ?_
    cases b27
    rotate_left
    · try simp only [decide_eq_true_eq, decide_eq_false_iff_not, Bool.not_eq_true, Bool.not_eq_false, Bool.not_eq_true', Bool.not_eq_false', beq_iff_eq, bne_iff_ne, beq_eq_false_iff_ne, bne_eq_false_iff_eq, Int.not_lt, Int.not_le, ge_iff_le, gt_iff_lt] at h27
      have hA2 := hA (by omega)
      have hmat := hA2.2.1
      have hact := hA2.2.2
      have hA3 := hA2.1
      have ha12 := actsB_12 hact
      have hpl : putB (m.acts.length : Int) 1 = [(m.acts.length : Int)] := putB_one (by omega) (by omega)
      have haf := acts_len (l := m.acts)
      refine AW_condT rfl ?_
      refine AW_seq ?_
      refine AW_draw rfl ?_
      refine AL_p (x_move rfl rfl) ?_
      refine AL_p (x_field (off := 3) (o' := 3) rfl rfl rfl (by kernel_rfl) rfl) ?_
      refine AL_p (x_load1 rfl rfl rfl (by kernel_rfl) rfl) ?_
      refine AL_p (x_call (ks := []) (L := [(103, some _)]) (L' := [(103, none), (104, some _)]) rfl rfl rfl (AT.lend1 (putI_t _ m.epoch 4 (by omega) (by omega) (by omega) (by (try simp only [List.length_append, List.length_cons, List.length_nil, putB_len, pairTo_len]); omega)) 103 104 rfl (fun _ => rfl)) rfl AllV.rf (caught_of rfl) rfl rfl rfl ⟨rfl, trivial⟩ rfl) ?_
      refine AL_p (x_field (off := 4) (o' := 4) rfl rfl rfl (by kernel_rfl) rfl) ?_
      refine AL_p (x_load1 rfl rfl rfl (by kernel_rfl) rfl) ?_
      refine AL_p (x_call (ks := []) (L := [(104, some _)]) (L' := [(104, none), (105, some _)]) rfl rfl rfl (AT.lend1 (putI_t _ m.prio 2 (by omega) (by omega) (by omega) (by (try simp only [List.length_append, List.length_cons, List.length_nil, putB_len, pairTo_len]); omega)) 104 105 rfl (fun _ => rfl)) rfl AllV.rf (caught_of rfl) rfl rfl rfl ⟨rfl, trivial⟩ rfl) ?_
      refine AL_p (x_assign rfl rfl) ?_
      refine AL_nild (by kernel_rfl) ?_
      refine AW_seq ?_
      refine AW_seq ?_
      refine AW_region ?_
      refine AL_p (x_move rfl rfl) ?_
      refine AL_nil ?_
      refine AW_block ?_
      refine AW_loop2 (ι := {q : Nat // q ≤ 8}) (fun p => [(4, .one (.own 105)), (35, .one (.c (.int .i64 ((p.1) : Int))))]) (fun p => [(105, some (.arr 5 (intE .u8) ([1, m.kind, 0, 0] ++ putB m.session 4 ++ putB m.xid 4 ++ putB m.epoch 4 ++ putB m.prio 2 ++ pairTo m.mat (p.1)) true))]) [1] [100] (fun p => 8 - (p.1)) ⟨0, by omega⟩ (rn []) ?_ ?_
      exact ⟨by (repeat refine ⟨⟨_, rfl, by first | exact VLe.rf | exact vle_int (by dsimp only; omega)⟩, ?_⟩); exact trivial, by (repeat refine ⟨⟨_, rfl, by first | exact BLe.rf | exact BLe.box AllC.rf | exact BLe.arr (by first | (rw [pairTo_zero, List.append_nil]; done) | (rw [← pairTo_more hv1 hm1]; simp only [List.append_assoc]; done) | (exfalso; omega))⟩, ?_⟩); exact trivial, by repeat (first | exact trivial | refine ⟨⟨rfl, by first | (left; intro h; cases h) | (right; rfl), fun _ h => ⟨_, h⟩⟩, ?_⟩), rfl⟩
      rintro ⟨k, hinv⟩
      dsimp only
      have hk := hinv
      refine AW_seq ?_
      refine AW_region ?_
      refine AL_b (x_lss rfl rfl rfl) (fun b36 h36 => ?_)
      refine AL_nil ?_
      refine AW_seq ?_
      cases b36
      rotate_left
      · try simp only [decide_eq_true_eq, decide_eq_false_iff_not, Bool.not_eq_true, Bool.not_eq_false, Bool.not_eq_true', Bool.not_eq_false', beq_iff_eq, bne_iff_ne, beq_eq_false_iff_ne, bne_eq_false_iff_eq, Int.not_lt, Int.not_le, ge_iff_le, gt_iff_lt] at h36
        obtain ⟨hv1, hm1, hvr, hmr⟩ := matchB_get hmat (fun x hx => (hi0_5 x hx).2) (k := k) (by omega)
        refine AW_condT rfl ?_
        refine AW_skip ?_
        refine AW_seq ?_
        refine AW_block ?_
        refine AW_seq ?_
        refine AW_region ?_
        refine AL_p (x_move rfl rfl) ?_
        refine AL_p (x_assign rfl rfl) ?_
        refine AL_nil ?_
        refine AW_draw rfl ?_
        refine AL_p (x_move rfl rfl) ?_
        refine AL_p (x_field (off := 5) (o' := 5) rfl rfl rfl (by kernel_rfl) rfl) ?_
        refine AL_p (x_field (off := 0) (o' := 5) rfl rfl rfl (by kernel_rfl) rfl) ?_
        refine AL_p (x_load1 rfl rfl rfl (by kernel_rfl) rfl) ?_
        refine AL_p (x_move rfl rfl) ?_
        refine AL_p (x_index (E := 3) (n := 1) rfl rfl rfl (by kernel_rfl) rfl (k := k) (by omega) (by omega)) ?_
        refine AL_p (x_eload1 rfl rfl (by kernel_rfl) rfl) ?_
        refine AL_p (x_call (ks := []) (L := [(105, some _)]) (L' := [(105, none), (106, some _)]) rfl rfl rfl (AT.lend1 (putI_t _ (m.mat.v[k]'hv1) 6 (by omega) (by omega) (by omega) (by (try simp only [List.length_append, List.length_cons, List.length_nil, putB_len, pairTo_len]); omega)) 105 106 rfl (fun _ => rfl)) rfl AllV.rf (caught_of rfl) rfl rfl rfl ⟨rfl, trivial⟩ rfl) ?_
        refine AL_p (x_field (off := 5) (o' := 5) rfl rfl rfl (by kernel_rfl) rfl) ?_
        refine AL_p (x_field (off := 1) (o' := 6) rfl rfl rfl (by kernel_rfl) rfl) ?_
        refine AL_p (x_load1 rfl rfl rfl (by kernel_rfl) rfl) ?_
        refine AL_p (x_move rfl rfl) ?_
        refine AL_p (x_index (E := 3) (n := 1) rfl rfl rfl (by kernel_rfl) rfl (k := k) (by omega) (by omega)) ?_
        refine AL_p (x_eload1 rfl rfl (by kernel_rfl) rfl) ?_
        refine AL_p (x_call (ks := []) (L := [(106, some _)]) (L' := [(106, none), (107, some _)]) rfl rfl rfl (AT.lend1 (putI_t _ (m.mat.m[k]'hm1) 6 (by omega) (by omega) (by omega) (by (try simp only [List.length_append, List.length_cons, List.length_nil, putB_len, pairTo_len]); omega)) 106 107 rfl (fun _ => rfl)) rfl AllV.rf (caught_of rfl) rfl rfl rfl ⟨rfl, trivial⟩ rfl) ?_
        refine AL_p (x_assign rfl rfl) ?_
        refine AL_nild (by kernel_rfl) ?_
        refine AW_region ?_
        refine AL_p (x_add rfl rfl rfl (IntWalk.i64_in _ (by omega))) ?_
        refine AL_p (x_move rfl rfl) ?_
        refine AL_nil ?_
        refine ⟨⟨k + 1, by omega⟩, rn [(105, 107)], ?_, by dsimp only; omega⟩
        exact ⟨by (repeat refine ⟨⟨_, rfl, by first | exact VLe.rf | exact vle_int (by dsimp only; omega)⟩, ?_⟩); exact trivial, by (repeat refine ⟨⟨_, rfl, by first | exact BLe.rf | exact BLe.box AllC.rf | exact BLe.arr (by first | (rw [pairTo_zero, List.append_nil]; done) | (rw [← pairTo_more hv1 hm1]; simp only [List.append_assoc]; done) | (exfalso; omega))⟩, ?_⟩); exact trivial, by repeat (first | exact trivial | refine ⟨⟨rfl, by first | (left; intro h; cases h) | (right; rfl), fun _ h => ⟨_, h⟩⟩, ?_⟩), rfl⟩
      · try simp only [decide_eq_true_eq, decide_eq_false_iff_not, Bool.not_eq_true, Bool.not_eq_false, Bool.not_eq_true', Bool.not_eq_false', beq_iff_eq, bne_iff_ne, beq_eq_false_iff_ne, bne_eq_false_iff_eq, Int.not_lt, Int.not_le, ge_iff_le, gt_iff_lt] at h36
        obtain rfl : k = 8 := by omega
        refine AW_condF rfl ?_
        refine AW_exit (BQ_hit ?_)
        refine AW_seq ?_
        refine AW_region ?_
        refine AL_p (x_move rfl rfl) ?_
        refine AL_p (x_field (off := 7) (o' := 7) rfl rfl rfl (by kernel_rfl) rfl) ?_
        refine AL_p (x_load1 rfl rfl rfl (by kernel_rfl) rfl) ?_
        refine AL_p (x_len (E := 114) (n := 3) rfl rfl (by kernel_rfl)) ?_
        refine AL_p (x_conv (k' := .u8) rfl rfl (by kernel_rfl) (wrap8_id (by omega) (by omega))) ?_
        refine AL_p (y_bslice (E := 5) (e := (intE .u8)) [.tmp 58] ([(m.acts.length : Int)]) 108 rfl rfl rfl rfl rfl rfl rfl rfl FitL.rf rfl rfl rfl rfl rfl rfl (by kernel_rfl)) ?_
        refine AL_p (y_append 109 rfl rfl rfl rfl rfl rfl rfl rfl (by kernel_rfl) (by (try simp only [List.length_append, List.length_cons, List.length_nil, putB_len, pairTo_len]); omega)) ?_
        refine AL_p (x_assign rfl rfl) ?_
        refine AL_nil ?_
        refine AW_seq ?_
        refine AW_region ?_
        refine AL_p (x_field (off := 7) (o' := 7) rfl rfl rfl (by kernel_rfl) rfl) ?_
        refine AL_p (x_load1 rfl rfl rfl (by kernel_rfl) rfl) ?_
        refine AL_p (x_len (E := 114) (n := 3) rfl rfl (by kernel_rfl)) ?_
        refine AL_p (x_move rfl rfl) ?_
        refine AL_nil ?_
        refine AW_block ?_
        refine AW_loop2 (ι := {q : Nat // q ≤ m.acts.length}) (fun p => [(4, .one (.own 109)), (64, .one (.c (.int .i64 ((p.1) : Int))))]) (fun p => [(109, some (.arr 5 (intE .u8) ([1, m.kind, 0, 0] ++ putB m.session 4 ++ putB m.xid 4 ++ putB m.epoch 4 ++ putB m.prio 2 ++ pairTo m.mat 8 ++ [(m.acts.length : Int)] ++ flatTo actBytes m.acts (p.1)) true))]) [62, 63] [100] (fun p => m.acts.length - (p.1)) ⟨0, by omega⟩ (rn []) ?_ ?_
        exact ⟨by (repeat refine ⟨⟨_, rfl, by first | exact VLe.rf | exact vle_int (by dsimp only; omega)⟩, ?_⟩); exact trivial, by (repeat refine ⟨⟨_, rfl, by first | exact BLe.rf | exact BLe.box AllC.rf | exact BLe.arr (by first | (rw [flatTo_zero, List.append_nil]; done) | (rw [hpl, flatTo_zero, List.append_nil]; done) | (rw [← flatTo_more (f := actBytes) (k := j) (by omega)]; simp only [actBytes, hp1, hp2, List.append_assoc, List.cons_append, List.nil_append]; done) | (exfalso; omega))⟩, ?_⟩); exact trivial, by repeat (first | exact trivial | refine ⟨⟨rfl, by first | (left; intro h; cases h) | (right; rfl), fun _ h => ⟨_, h⟩⟩, ?_⟩), rfl⟩
        rintro ⟨j, hinv⟩
        dsimp only
        have hj := hinv
        refine AW_seq ?_
        refine AW_region ?_
        refine AL_b (x_lss rfl rfl rfl) (fun b65 h65 => ?_)
        refine AL_nil ?_
        refine AW_seq ?_
        cases b65
        rotate_left
        · try simp only [decide_eq_true_eq, decide_eq_false_iff_not, Bool.not_eq_true, Bool.not_eq_false, Bool.not_eq_true', Bool.not_eq_false', beq_iff_eq, bne_iff_ne, beq_eq_false_iff_ne, bne_eq_false_iff_eq, Int.not_lt, Int.not_le, ge_iff_le, gt_iff_lt] at h65
          have hab := actB_in (actsB_get hact (k := j) (by omega))
          have hp1 : putB (m.acts[j]'(by omega)).kind 1 = [(m.acts[j]'(by omega)).kind] := putB_one (by omega) (by omega)
          have hp2 : putB (m.acts[j]'(by omega)).a 1 = [(m.acts[j]'(by omega)).a] := putB_one (by omega) (by omega)
          have haj := haf j
          refine AW_condT rfl ?_
          refine AW_skip ?_
          refine AW_seq ?_
          refine AW_block ?_
          refine AW_seq ?_
          refine AW_region ?_
          refine AL_p (x_index (E := 114) (n := 3) rfl rfl rfl (by kernel_rfl) rfl (k := j) (by omega) (by omega)) ?_
          refine AL_p (x_eloadW (n := 3) rfl rfl (by kernel_rfl) rfl) ?_
          refine AL_p (x_alloc (z := .agg #[.int .i64 0, .int .i64 0, .int .i64 0]) 110 rfl (by kernel_rfl) rfl rfl rfl rfl) ?_
          refine AL_p (x_store (n := 3) rfl rfl rfl rfl (by kernel_rfl) rfl rfl rfl) ?_
          refine AL_nil ?_
          refine AW_draw rfl ?_
          refine AL_p (x_move rfl rfl) ?_
          refine AL_p (x_field (off := 0) (o' := 0) rfl rfl rfl (by kernel_rfl) rfl) ?_
          refine AL_p (x_load1 rfl rfl rfl (by kernel_rfl) rfl) ?_
          refine AL_p (x_conv (k' := .u8) rfl rfl (by kernel_rfl) (wrap8_id (by omega) (by omega))) ?_
          refine AL_p (x_field (off := 1) (o' := 1) rfl rfl rfl (by kernel_rfl) rfl) ?_
          refine AL_p (x_load1 rfl rfl rfl (by kernel_rfl) rfl) ?_
          refine AL_p (x_conv (k' := .u8) rfl rfl (by kernel_rfl) (wrap8_id (by omega) (by omega))) ?_
          refine AL_p (y_bslice (E := 5) (e := (intE .u8)) [.tmp 71, .tmp 74] ([(m.acts[j]'(by omega)).kind, (m.acts[j]'(by omega)).a]) 111 rfl rfl rfl rfl rfl rfl rfl rfl FitL.rf rfl rfl rfl rfl rfl rfl (by kernel_rfl)) ?_
          refine AL_p (y_append 112 rfl rfl rfl rfl rfl rfl rfl rfl (by kernel_rfl) (by (try simp only [List.length_append, List.length_cons, List.length_nil, putB_len, pairTo_len]); omega)) ?_
          refine AL_p (x_field (off := 2) (o' := 2) rfl rfl rfl (by kernel_rfl) rfl) ?_
          refine AL_p (x_load1 rfl rfl rfl (by kernel_rfl) rfl) ?_
          refine AL_p (x_call (ks := []) (L := [(112, some _)]) (L' := [(112, none), (113, some _)]) rfl rfl rfl (AT.lend1 (putI_t _ (m.acts[j]'(by omega)).b 6 (by omega) (by omega) (by omega) (by (try simp only [List.length_append, List.length_cons, List.length_nil, putB_len, pairTo_len]); omega)) 112 113 rfl (fun _ => rfl)) rfl AllV.rf (caught_of rfl) rfl rfl rfl ⟨rfl, trivial⟩ rfl) ?_
          refine AL_p (x_assign rfl rfl) ?_
          refine AL_nild (by kernel_rfl) ?_
          refine AW_region ?_
          refine AL_p (x_add rfl rfl rfl (IntWalk.i64_in _ (by omega))) ?_
          refine AL_p (x_move rfl rfl) ?_
          refine AL_nil ?_
          refine ⟨⟨j + 1, by omega⟩, rn [(109, 113)], ?_, by dsimp only; omega⟩
          exact ⟨by (repeat refine ⟨⟨_, rfl, by first | exact VLe.rf | exact vle_int (by dsimp only; omega)⟩, ?_⟩); exact trivial, by (repeat refine ⟨⟨_, rfl, by first | exact BLe.rf | exact BLe.box AllC.rf | exact BLe.arr (by first | (rw [flatTo_zero, List.append_nil]; done) | (rw [hpl, flatTo_zero, List.append_nil]; done) | (rw [← flatTo_more (f := actBytes) (k := j) (by omega)]; simp only [actBytes, hp1, hp2, List.append_assoc, List.cons_append, List.nil_append]; done) | (exfalso; omega))⟩, ?_⟩); exact trivial, by repeat (first | exact trivial | refine ⟨⟨rfl, by first | (left; intro h; cases h) | (right; rfl), fun _ h => ⟨_, h⟩⟩, ?_⟩), rfl⟩
        · try simp only [decide_eq_true_eq, decide_eq_false_iff_not, Bool.not_eq_true, Bool.not_eq_false, Bool.not_eq_true', Bool.not_eq_false', beq_iff_eq, bne_iff_ne, beq_eq_false_iff_ne, bne_eq_false_iff_eq, Int.not_lt, Int.not_le, ge_iff_le, gt_iff_lt] at h65
          have haj := haf j
          refine AW_condF rfl ?_
          refine AW_exit (BQ_hit ?_)
          refine AW_seq ?_
          refine AW_draw rfl ?_
          refine AL_p (x_move rfl rfl) ?_
          refine AL_p (x_oslice (n := 1) rfl rfl rfl (by kernel_rfl) rfl (.yes (l := 2) rfl (by omega)) (.yes (l := 4) rfl (by omega)) (by omega) (by (try simp only [List.length_append, List.length_cons, List.length_nil, putB_len, pairTo_len]); omega)) ?_
          refine AL_p (x_move rfl rfl) ?_
          refine AL_p (x_olen (E := 5) (n := 1) rfl rfl rfl (by kernel_rfl)) ?_
          refine AL_p (x_call1 rfl rfl rfl (AT.nil (putI_t [] _ 2 (by omega) (by (try simp only [List.length_append, List.length_cons, List.length_nil, putB_len, pairTo_len]); omega) (by omega) (by simp)) rfl 114) rfl rfl rfl rfl) ?_
          refine AL_p (x_copy (E := 5) (kd := .u8) rfl rfl rfl rfl rfl (by kernel_rfl) putB_len (by omega) (by (try simp only [List.length_append, List.length_cons, List.length_nil, putB_len, pairTo_len]); omega) rfl) ?_
          refine AL_nild (by kernel_rfl) ?_
          refine AW_seq ?_
          refine AW_region ?_
          refine AL_p (x_move rfl rfl) ?_
          refine AL_p (x_assign rfl rfl) ?_
          refine AL_p (x_assign rfl rfl) ?_
          refine AL_nil ?_
          refine AW_ret ?_
          exact ⟨rn [(0, 109)], ⟨⟨⟨_, rfl, VLe.rf⟩, ⟨_, rfl, by first | exact VLe.rf | exact vle_bool (by rw [hno])⟩, trivial⟩, ⟨⟨_, rfl, by first | exact BLe.rf | (refine BLe.arr ?_; rw [hno]; done) | (refine BLe.arr ?_; rw [hno]; exact whole_of (by unfold openB; (try simp only [handB]); first | (rw [bodyB_add (by omega)]; simp only [flatTo_all (f := actBytes) (xs := m.acts) (k := j) (by omega), List.append_assoc, List.nil_append]; done) | (rw [bodyB_flip (by omega)]; done) | (rw [bodyB_flip (by omega)]; simp only [List.append_assoc, List.nil_append]; done) | (rw [bodyB_note (by omega)]; simp only [headBy, flatTo_all (f := fun n => putB n 6) (xs := m.head.v) (k := i) (by omega), List.append_assoc, List.nil_append]; done) | (rw [bodyB_note (by omega), flatTo_all (f := fun n => putB n 6) (xs := m.head.v) (k := i) (by omega)]; simp [headBy, handB, *]; done) | (rw [bodyB_none (by omega) (by omega) (by omega)]; done) | (rw [bodyB_none (by omega) (by omega) (by omega)]; simp only [List.append_nil]; done) | (exfalso; omega)))⟩, trivial⟩, trivial, rfl⟩⟩
    · try simp only [decide_eq_true_eq, decide_eq_false_iff_not, Bool.not_eq_true, Bool.not_eq_false, Bool.not_eq_true', Bool.not_eq_false', beq_iff_eq, bne_iff_ne, beq_eq_false_iff_ne, bne_eq_false_iff_eq, Int.not_lt, Int.not_le, ge_iff_le, gt_iff_lt] at h27
      refine AW_condF rfl ?_
      refine AW_seq ?_
      refine AW_region ?_
      refine AL_b (x_eql rfl rfl rfl) (fun b82 h82 => ?_)
      refine AL_p (x_assign rfl rfl) ?_
      refine AL_nil ?_
      cases b82
      rotate_left
      · try simp only [decide_eq_true_eq, decide_eq_false_iff_not, Bool.not_eq_true, Bool.not_eq_false, Bool.not_eq_true', Bool.not_eq_false', beq_iff_eq, bne_iff_ne, beq_eq_false_iff_ne, bne_eq_false_iff_eq, Int.not_lt, Int.not_le, ge_iff_le, gt_iff_lt] at h82
        refine AW_condT rfl ?_
        refine AW_region ?_
        refine AL_p (x_move rfl rfl) ?_
        refine AL_p (x_field (off := 3) (o' := 3) rfl rfl rfl (by kernel_rfl) rfl) ?_
        refine AL_p (x_load1 rfl rfl rfl (by kernel_rfl) rfl) ?_
        refine AL_p (x_call (ks := []) (L := [(103, some _)]) (L' := [(103, none), (115, some _)]) rfl rfl rfl (AT.lend1 (putI_t _ m.epoch 4 (by omega) (by omega) (by omega) (by (try simp only [List.length_append, List.length_cons, List.length_nil, putB_len, pairTo_len]); omega)) 103 115 rfl (fun _ => rfl)) rfl AllV.rf (caught_of rfl) rfl rfl rfl ⟨rfl, trivial⟩ rfl) ?_
        refine AL_p (x_assign rfl rfl) ?_
        refine AL_nil ?_
        refine AW_seq ?_
        refine AW_draw rfl ?_
        refine AL_p (x_move rfl rfl) ?_
        refine AL_p (x_oslice (n := 1) rfl rfl rfl (by kernel_rfl) rfl (.yes (l := 2) rfl (by omega)) (.yes (l := 4) rfl (by omega)) (by omega) (by (try simp only [List.length_append, List.length_cons, List.length_nil, putB_len, pairTo_len]); omega)) ?_
        refine AL_p (x_move rfl rfl) ?_
        refine AL_p (x_olen (E := 5) (n := 1) rfl rfl rfl (by kernel_rfl)) ?_
        refine AL_p (x_call1 rfl rfl rfl (AT.nil (putI_t [] _ 2 (by omega) (by (try simp only [List.length_append, List.length_cons, List.length_nil, putB_len, pairTo_len]); omega) (by omega) (by simp)) rfl 114) rfl rfl rfl rfl) ?_
        refine AL_p (x_copy (E := 5) (kd := .u8) rfl rfl rfl rfl rfl (by kernel_rfl) putB_len (by omega) (by (try simp only [List.length_append, List.length_cons, List.length_nil, putB_len, pairTo_len]); omega) rfl) ?_
        refine AL_nild (by kernel_rfl) ?_
        refine AW_seq ?_
        refine AW_region ?_
        refine AL_p (x_move rfl rfl) ?_
        refine AL_p (x_assign rfl rfl) ?_
        refine AL_p (x_assign rfl rfl) ?_
        refine AL_nil ?_
        refine AW_ret ?_
        exact ⟨rn [(0, 115)], ⟨⟨⟨_, rfl, VLe.rf⟩, ⟨_, rfl, by first | exact VLe.rf | exact vle_bool (by rw [hno])⟩, trivial⟩, ⟨⟨_, rfl, by first | exact BLe.rf | (refine BLe.arr ?_; rw [hno]; done) | (refine BLe.arr ?_; rw [hno]; exact whole_of (by unfold openB; (try simp only [handB]); first | (rw [bodyB_add (by omega)]; simp only [flatTo_all (f := actBytes) (xs := m.acts) (k := j) (by omega), List.append_assoc, List.nil_append]; done) | (rw [bodyB_flip (by omega)]; done) | (rw [bodyB_flip (by omega)]; simp only [List.append_assoc, List.nil_append]; done) | (rw [bodyB_note (by omega)]; simp only [headBy, flatTo_all (f := fun n => putB n 6) (xs := m.head.v) (k := i) (by omega), List.append_assoc, List.nil_append]; done) | (rw [bodyB_note (by omega), flatTo_all (f := fun n => putB n 6) (xs := m.head.v) (k := i) (by omega)]; simp [headBy, handB, *]; done) | (rw [bodyB_none (by omega) (by omega) (by omega)]; done) | (rw [bodyB_none (by omega) (by omega) (by omega)]; simp only [List.append_nil]; done) | (exfalso; omega)))⟩, trivial⟩, trivial, rfl⟩⟩
      · try simp only [decide_eq_true_eq, decide_eq_false_iff_not, Bool.not_eq_true, Bool.not_eq_false, Bool.not_eq_true', Bool.not_eq_false', beq_iff_eq, bne_iff_ne, beq_eq_false_iff_ne, bne_eq_false_iff_eq, Int.not_lt, Int.not_le, ge_iff_le, gt_iff_lt] at h82
        refine AW_condF rfl ?_
        refine AW_seq ?_
        refine AW_region ?_
        refine AL_b (x_eql rfl rfl rfl) (fun b88 h88 => ?_)
        refine AL_p (x_assign rfl rfl) ?_
        refine AL_nil ?_
        cases b88
        rotate_left
        · try simp only [decide_eq_true_eq, decide_eq_false_iff_not, Bool.not_eq_true, Bool.not_eq_false, Bool.not_eq_true', Bool.not_eq_false', beq_iff_eq, bne_iff_ne, beq_eq_false_iff_ne, bne_eq_false_iff_eq, Int.not_lt, Int.not_le, ge_iff_le, gt_iff_lt] at h88
          have hN2 := hN (by omega)
          have hN8 := eight_8 hN2
          have hhf := head_len (l := m.head.v)
          refine AW_condT rfl ?_
          refine AW_seq ?_
          refine AW_region ?_
          refine AL_p (x_assign rfl rfl) ?_
          refine AL_nil ?_
          refine AW_seq ?_
          refine AW_seq ?_
          refine AW_region ?_
          refine AL_p (x_field (off := 8) (o' := 8) rfl rfl rfl (by kernel_rfl) rfl) ?_
          refine AL_b (x_load1 rfl rfl rfl (by kernel_rfl) rfl) (fun b90 h90 => ?_)
          refine AL_nil ?_
          cases b90
          rotate_left
          · try simp only [decide_eq_true_eq, decide_eq_false_iff_not, Bool.not_eq_true, Bool.not_eq_false, Bool.not_eq_true', Bool.not_eq_false', beq_iff_eq, bne_iff_ne, beq_eq_false_iff_ne, bne_eq_false_iff_eq, Int.not_lt, Int.not_le, ge_iff_le, gt_iff_lt] at h90
            refine AW_condT rfl ?_
            refine AW_region ?_
            refine AL_p (x_assign rfl rfl) ?_
            refine AL_nil ?_
            refine AW_seq ?_
            refine AW_region ?_
            refine AL_p (x_move rfl rfl) ?_
            refine AL_p (x_move rfl rfl) ?_
            refine AL_p (y_bslice (E := 5) (e := (intE .u8)) [.tmp 92] ([_]) 116 rfl rfl rfl rfl rfl rfl rfl rfl FitL.rf rfl rfl rfl rfl rfl rfl (by kernel_rfl)) ?_
            refine AL_p (y_append 117 rfl rfl rfl rfl rfl rfl rfl rfl (by kernel_rfl) (by (try simp only [List.length_append, List.length_cons, List.length_nil, putB_len, pairTo_len]); omega)) ?_
            refine AL_p (x_assign rfl rfl) ?_
            refine AL_nil ?_
            refine AW_seq ?_
            refine AW_region ?_
            refine AL_p (x_field (off := 9) (o' := 9) rfl rfl rfl (by kernel_rfl) rfl) ?_
            refine AL_p (x_field (off := 0) (o' := 9) rfl rfl rfl (by kernel_rfl) rfl) ?_
            refine AL_p (x_load1 rfl rfl rfl (by kernel_rfl) rfl) ?_
            refine AL_p (x_len (E := 3) (n := 1) rfl rfl (by kernel_rfl)) ?_
            refine AL_p (x_move rfl rfl) ?_
            refine AL_nil ?_
            refine AW_block ?_
            refine AW_loop2 (ι := {q : Nat // q ≤ m.head.v.length}) (fun p => [(4, .one (.own 117)), (99, .one (.c (.int .i64 ((p.1) : Int))))]) (fun p => [(117, some (.arr 5 (intE .u8) ([1, m.kind, 0, 0] ++ putB m.session 4 ++ putB m.xid 4 ++ [handB m.hand] ++ flatTo (fun n => putB n 6) m.head.v (p.1)) true))]) [97, 98] [100] (fun p => m.head.v.length - (p.1)) ⟨0, by omega⟩ (rn []) ?_ ?_
            exact ⟨by (repeat refine ⟨⟨_, rfl, by first | exact VLe.rf | exact vle_int (by dsimp only; omega)⟩, ?_⟩); exact trivial, by (repeat refine ⟨⟨_, rfl, by first | exact BLe.rf | exact BLe.box AllC.rf | exact BLe.arr (by first | (rw [flatTo_zero, List.append_nil]; simp [handB, *]; done) | (rw [← flatTo_more (f := fun n => putB n 6) (k := i) (by omega)]; simp only [List.append_assoc]; done) | (exfalso; omega))⟩, ?_⟩); exact trivial, by repeat (first | exact trivial | refine ⟨⟨rfl, by first | (left; intro h; cases h) | (right; rfl), fun _ h => ⟨_, h⟩⟩, ?_⟩), rfl⟩
            rintro ⟨i, hinv⟩
            dsimp only
            have hi := hinv
            refine AW_seq ?_
            refine AW_region ?_
            refine AL_b (x_lss rfl rfl rfl) (fun b100 h100 => ?_)
            refine AL_nil ?_
            refine AW_seq ?_
            cases b100
            rotate_left
            · try simp only [decide_eq_true_eq, decide_eq_false_iff_not, Bool.not_eq_true, Bool.not_eq_false, Bool.not_eq_true', Bool.not_eq_false', beq_iff_eq, bne_iff_ne, beq_eq_false_iff_ne, bne_eq_false_iff_eq, Int.not_lt, Int.not_le, ge_iff_le, gt_iff_lt] at h100
              have hf8 := fits48 (eight_get hN2 (k := i) (by omega))
              have hhi := hhf i
              refine AW_condT rfl ?_
              refine AW_skip ?_
              refine AW_seq ?_
              refine AW_block ?_
              refine AW_seq ?_
              refine AW_region ?_
              refine AL_p (x_index (E := 3) (n := 1) rfl rfl rfl (by kernel_rfl) rfl (k := i) (by omega) (by omega)) ?_
              refine AL_p (x_eload1 rfl rfl (by kernel_rfl) rfl) ?_
              refine AL_p (x_assign rfl rfl) ?_
              refine AL_nil ?_
              refine AW_region ?_
              refine AL_p (x_move rfl rfl) ?_
              refine AL_p (x_move rfl rfl) ?_
              refine AL_p (x_call (ks := []) (L := [(117, some _)]) (L' := [(117, none), (118, some _)]) rfl rfl rfl (AT.lend1 (putI_t _ (m.head.v[i]'(by omega)) 6 (by omega) (by omega) (by omega) (by (try simp only [List.length_append, List.length_cons, List.length_nil, putB_len, pairTo_len]); omega)) 117 118 rfl (fun _ => rfl)) rfl AllV.rf (caught_of rfl) rfl rfl rfl ⟨rfl, trivial⟩ rfl) ?_
              refine AL_p (x_assign rfl rfl) ?_
              refine AL_nil ?_
              refine AW_region ?_
              refine AL_p (x_add rfl rfl rfl (IntWalk.i64_in _ (by omega))) ?_
              refine AL_p (x_move rfl rfl) ?_
              refine AL_nil ?_
              refine ⟨⟨i + 1, by omega⟩, rn [(117, 118)], ?_, by dsimp only; omega⟩
              exact ⟨by (repeat refine ⟨⟨_, rfl, by first | exact VLe.rf | exact vle_int (by dsimp only; omega)⟩, ?_⟩); exact trivial, by (repeat refine ⟨⟨_, rfl, by first | exact BLe.rf | exact BLe.box AllC.rf | exact BLe.arr (by first | (rw [flatTo_zero, List.append_nil]; simp [handB, *]; done) | (rw [← flatTo_more (f := fun n => putB n 6) (k := i) (by omega)]; simp only [List.append_assoc]; done) | (exfalso; omega))⟩, ?_⟩); exact trivial, by repeat (first | exact trivial | refine ⟨⟨rfl, by first | (left; intro h; cases h) | (right; rfl), fun _ h => ⟨_, h⟩⟩, ?_⟩), rfl⟩
            · try simp only [decide_eq_true_eq, decide_eq_false_iff_not, Bool.not_eq_true, Bool.not_eq_false, Bool.not_eq_true', Bool.not_eq_false', beq_iff_eq, bne_iff_ne, beq_eq_false_iff_ne, bne_eq_false_iff_eq, Int.not_lt, Int.not_le, ge_iff_le, gt_iff_lt] at h100
              have hhi := hhf i
              refine AW_condF rfl ?_
              refine AW_exit (BQ_hit ?_)
              refine AW_seq ?_
              refine AW_draw rfl ?_
              refine AL_p (x_move rfl rfl) ?_
              refine AL_p (x_oslice (n := 1) rfl rfl rfl (by kernel_rfl) rfl (.yes (l := 2) rfl (by omega)) (.yes (l := 4) rfl (by omega)) (by omega) (by (try simp only [List.length_append, List.length_cons, List.length_nil, putB_len, pairTo_len]); omega)) ?_
              refine AL_p (x_move rfl rfl) ?_
              refine AL_p (x_olen (E := 5) (n := 1) rfl rfl rfl (by kernel_rfl)) ?_
              refine AL_p (x_call1 rfl rfl rfl (AT.nil (putI_t [] _ 2 (by omega) (by (try simp only [List.length_append, List.length_cons, List.length_nil, putB_len, pairTo_len]); omega) (by omega) (by simp)) rfl 114) rfl rfl rfl rfl) ?_
              refine AL_p (x_copy (E := 5) (kd := .u8) rfl rfl rfl rfl rfl (by kernel_rfl) putB_len (by omega) (by (try simp only [List.length_append, List.length_cons, List.length_nil, putB_len, pairTo_len]); omega) rfl) ?_
              refine AL_nild (by kernel_rfl) ?_
              refine AW_seq ?_
              refine AW_region ?_
              refine AL_p (x_move rfl rfl) ?_
              refine AL_p (x_assign rfl rfl) ?_
              refine AL_p (x_assign rfl rfl) ?_
              refine AL_nil ?_
              refine AW_ret ?_
              exact ⟨rn [(0, 117)], ⟨⟨⟨_, rfl, VLe.rf⟩, ⟨_, rfl, by first | exact VLe.rf | exact vle_bool (by rw [hno])⟩, trivial⟩, ⟨⟨_, rfl, by first | exact BLe.rf | (refine BLe.arr ?_; rw [hno]; done) | (refine BLe.arr ?_; rw [hno]; exact whole_of (by unfold openB; (try simp only [handB]); first | (rw [bodyB_add (by omega)]; simp only [flatTo_all (f := actBytes) (xs := m.acts) (k := j) (by omega), List.append_assoc, List.nil_append]; done) | (rw [bodyB_flip (by omega)]; done) | (rw [bodyB_flip (by omega)]; simp only [List.append_assoc, List.nil_append]; done) | (rw [bodyB_note (by omega)]; simp only [headBy, flatTo_all (f := fun n => putB n 6) (xs := m.head.v) (k := i) (by omega), List.append_assoc, List.nil_append]; done) | (rw [bodyB_note (by omega), flatTo_all (f := fun n => putB n 6) (xs := m.head.v) (k := i) (by omega)]; simp [headBy, handB, *]; done) | (rw [bodyB_none (by omega) (by omega) (by omega)]; done) | (rw [bodyB_none (by omega) (by omega) (by omega)]; simp only [List.append_nil]; done) | (exfalso; omega)))⟩, trivial⟩, trivial, rfl⟩⟩
          · try simp only [decide_eq_true_eq, decide_eq_false_iff_not, Bool.not_eq_true, Bool.not_eq_false, Bool.not_eq_true', Bool.not_eq_false', beq_iff_eq, bne_iff_ne, beq_eq_false_iff_ne, bne_eq_false_iff_eq, Int.not_lt, Int.not_le, ge_iff_le, gt_iff_lt] at h90
            refine AW_condF rfl ?_
            refine AW_skip ?_
            refine AW_seq ?_
            refine AW_region ?_
            refine AL_p (x_move rfl rfl) ?_
            refine AL_p (x_move rfl rfl) ?_
            refine AL_p (y_bslice (E := 5) (e := (intE .u8)) [.tmp 92] ([_]) 116 rfl rfl rfl rfl rfl rfl rfl rfl FitL.rf rfl rfl rfl rfl rfl rfl (by kernel_rfl)) ?_
            refine AL_p (y_append 117 rfl rfl rfl rfl rfl rfl rfl rfl (by kernel_rfl) (by (try simp only [List.length_append, List.length_cons, List.length_nil, putB_len, pairTo_len]); omega)) ?_
            refine AL_p (x_assign rfl rfl) ?_
            refine AL_nil ?_
            refine AW_seq ?_
            refine AW_region ?_
            refine AL_p (x_field (off := 9) (o' := 9) rfl rfl rfl (by kernel_rfl) rfl) ?_
            refine AL_p (x_field (off := 0) (o' := 9) rfl rfl rfl (by kernel_rfl) rfl) ?_
            refine AL_p (x_load1 rfl rfl rfl (by kernel_rfl) rfl) ?_
            refine AL_p (x_len (E := 3) (n := 1) rfl rfl (by kernel_rfl)) ?_
            refine AL_p (x_move rfl rfl) ?_
            refine AL_nil ?_
            refine AW_block ?_
            refine AW_loop2 (ι := {q : Nat // q ≤ m.head.v.length}) (fun p => [(4, .one (.own 117)), (99, .one (.c (.int .i64 ((p.1) : Int))))]) (fun p => [(117, some (.arr 5 (intE .u8) ([1, m.kind, 0, 0] ++ putB m.session 4 ++ putB m.xid 4 ++ [handB m.hand] ++ flatTo (fun n => putB n 6) m.head.v (p.1)) true))]) [97, 98] [100] (fun p => m.head.v.length - (p.1)) ⟨0, by omega⟩ (rn []) ?_ ?_
            exact ⟨by (repeat refine ⟨⟨_, rfl, by first | exact VLe.rf | exact vle_int (by dsimp only; omega)⟩, ?_⟩); exact trivial, by (repeat refine ⟨⟨_, rfl, by first | exact BLe.rf | exact BLe.box AllC.rf | exact BLe.arr (by first | (rw [flatTo_zero, List.append_nil]; simp [handB, *]; done) | (rw [← flatTo_more (f := fun n => putB n 6) (k := i) (by omega)]; simp only [List.append_assoc]; done) | (exfalso; omega))⟩, ?_⟩); exact trivial, by repeat (first | exact trivial | refine ⟨⟨rfl, by first | (left; intro h; cases h) | (right; rfl), fun _ h => ⟨_, h⟩⟩, ?_⟩), rfl⟩
            rintro ⟨i, hinv⟩
            dsimp only
            have hi := hinv
            refine AW_seq ?_
            refine AW_region ?_
            refine AL_b (x_lss rfl rfl rfl) (fun b100 h100 => ?_)
            refine AL_nil ?_
            refine AW_seq ?_
            cases b100
            rotate_left
            · try simp only [decide_eq_true_eq, decide_eq_false_iff_not, Bool.not_eq_true, Bool.not_eq_false, Bool.not_eq_true', Bool.not_eq_false', beq_iff_eq, bne_iff_ne, beq_eq_false_iff_ne, bne_eq_false_iff_eq, Int.not_lt, Int.not_le, ge_iff_le, gt_iff_lt] at h100
              have hf8 := fits48 (eight_get hN2 (k := i) (by omega))
              have hhi := hhf i
              refine AW_condT rfl ?_
              refine AW_skip ?_
              refine AW_seq ?_
              refine AW_block ?_
              refine AW_seq ?_
              refine AW_region ?_
              refine AL_p (x_index (E := 3) (n := 1) rfl rfl rfl (by kernel_rfl) rfl (k := i) (by omega) (by omega)) ?_
              refine AL_p (x_eload1 rfl rfl (by kernel_rfl) rfl) ?_
              refine AL_p (x_assign rfl rfl) ?_
              refine AL_nil ?_
              refine AW_region ?_
              refine AL_p (x_move rfl rfl) ?_
              refine AL_p (x_move rfl rfl) ?_
              refine AL_p (x_call (ks := []) (L := [(117, some _)]) (L' := [(117, none), (118, some _)]) rfl rfl rfl (AT.lend1 (putI_t _ (m.head.v[i]'(by omega)) 6 (by omega) (by omega) (by omega) (by (try simp only [List.length_append, List.length_cons, List.length_nil, putB_len, pairTo_len]); omega)) 117 118 rfl (fun _ => rfl)) rfl AllV.rf (caught_of rfl) rfl rfl rfl ⟨rfl, trivial⟩ rfl) ?_
              refine AL_p (x_assign rfl rfl) ?_
              refine AL_nil ?_
              refine AW_region ?_
              refine AL_p (x_add rfl rfl rfl (IntWalk.i64_in _ (by omega))) ?_
              refine AL_p (x_move rfl rfl) ?_
              refine AL_nil ?_
              refine ⟨⟨i + 1, by omega⟩, rn [(117, 118)], ?_, by dsimp only; omega⟩
              exact ⟨by (repeat refine ⟨⟨_, rfl, by first | exact VLe.rf | exact vle_int (by dsimp only; omega)⟩, ?_⟩); exact trivial, by (repeat refine ⟨⟨_, rfl, by first | exact BLe.rf | exact BLe.box AllC.rf | exact BLe.arr (by first | (rw [flatTo_zero, List.append_nil]; simp [handB, *]; done) | (rw [← flatTo_more (f := fun n => putB n 6) (k := i) (by omega)]; simp only [List.append_assoc]; done) | (exfalso; omega))⟩, ?_⟩); exact trivial, by repeat (first | exact trivial | refine ⟨⟨rfl, by first | (left; intro h; cases h) | (right; rfl), fun _ h => ⟨_, h⟩⟩, ?_⟩), rfl⟩
            · try simp only [decide_eq_true_eq, decide_eq_false_iff_not, Bool.not_eq_true, Bool.not_eq_false, Bool.not_eq_true', Bool.not_eq_false', beq_iff_eq, bne_iff_ne, beq_eq_false_iff_ne, bne_eq_false_iff_eq, Int.not_lt, Int.not_le, ge_iff_le, gt_iff_lt] at h100
              have hhi := hhf i
              refine AW_condF rfl ?_
              refine AW_exit (BQ_hit ?_)
              refine AW_seq ?_
              refine AW_draw rfl ?_
              refine AL_p (x_move rfl rfl) ?_
              refine AL_p (x_oslice (n := 1) rfl rfl rfl (by kernel_rfl) rfl (.yes (l := 2) rfl (by omega)) (.yes (l := 4) rfl (by omega)) (by omega) (by (try simp only [List.length_append, List.length_cons, List.length_nil, putB_len, pairTo_len]); omega)) ?_
              refine AL_p (x_move rfl rfl) ?_
              refine AL_p (x_olen (E := 5) (n := 1) rfl rfl rfl (by kernel_rfl)) ?_
              refine AL_p (x_call1 rfl rfl rfl (AT.nil (putI_t [] _ 2 (by omega) (by (try simp only [List.length_append, List.length_cons, List.length_nil, putB_len, pairTo_len]); omega) (by omega) (by simp)) rfl 114) rfl rfl rfl rfl) ?_
              refine AL_p (x_copy (E := 5) (kd := .u8) rfl rfl rfl rfl rfl (by kernel_rfl) putB_len (by omega) (by (try simp only [List.length_append, List.length_cons, List.length_nil, putB_len, pairTo_len]); omega) rfl) ?_
              refine AL_nild (by kernel_rfl) ?_
              refine AW_seq ?_
              refine AW_region ?_
              refine AL_p (x_move rfl rfl) ?_
              refine AL_p (x_assign rfl rfl) ?_
              refine AL_p (x_assign rfl rfl) ?_
              refine AL_nil ?_
              refine AW_ret ?_
              exact ⟨rn [(0, 117)], ⟨⟨⟨_, rfl, VLe.rf⟩, ⟨_, rfl, by first | exact VLe.rf | exact vle_bool (by rw [hno])⟩, trivial⟩, ⟨⟨_, rfl, by first | exact BLe.rf | (refine BLe.arr ?_; rw [hno]; done) | (refine BLe.arr ?_; rw [hno]; exact whole_of (by unfold openB; (try simp only [handB]); first | (rw [bodyB_add (by omega)]; simp only [flatTo_all (f := actBytes) (xs := m.acts) (k := j) (by omega), List.append_assoc, List.nil_append]; done) | (rw [bodyB_flip (by omega)]; done) | (rw [bodyB_flip (by omega)]; simp only [List.append_assoc, List.nil_append]; done) | (rw [bodyB_note (by omega)]; simp only [headBy, flatTo_all (f := fun n => putB n 6) (xs := m.head.v) (k := i) (by omega), List.append_assoc, List.nil_append]; done) | (rw [bodyB_note (by omega), flatTo_all (f := fun n => putB n 6) (xs := m.head.v) (k := i) (by omega)]; simp [headBy, handB, *]; done) | (rw [bodyB_none (by omega) (by omega) (by omega)]; done) | (rw [bodyB_none (by omega) (by omega) (by omega)]; simp only [List.append_nil]; done) | (exfalso; omega)))⟩, trivial⟩, trivial, rfl⟩⟩
        · try simp only [decide_eq_true_eq, decide_eq_false_iff_not, Bool.not_eq_true, Bool.not_eq_false, Bool.not_eq_true', Bool.not_eq_false', beq_iff_eq, bne_iff_ne, beq_eq_false_iff_ne, bne_eq_false_iff_eq, Int.not_lt, Int.not_le, ge_iff_le, gt_iff_lt] at h88
          refine AW_condF rfl ?_
          refine AW_skip ?_
          refine AW_seq ?_
          refine AW_draw rfl ?_
          refine AL_p (x_move rfl rfl) ?_
          refine AL_p (x_oslice (n := 1) rfl rfl rfl (by kernel_rfl) rfl (.yes (l := 2) rfl (by omega)) (.yes (l := 4) rfl (by omega)) (by omega) (by (try simp only [List.length_append, List.length_cons, List.length_nil, putB_len, pairTo_len]); omega)) ?_
          refine AL_p (x_move rfl rfl) ?_
          refine AL_p (x_olen (E := 5) (n := 1) rfl rfl rfl (by kernel_rfl)) ?_
          refine AL_p (x_call1 rfl rfl rfl (AT.nil (putI_t [] _ 2 (by omega) (by (try simp only [List.length_append, List.length_cons, List.length_nil, putB_len, pairTo_len]); omega) (by omega) (by simp)) rfl 114) rfl rfl rfl rfl) ?_
          refine AL_p (x_copy (E := 5) (kd := .u8) rfl rfl rfl rfl rfl (by kernel_rfl) putB_len (by omega) (by (try simp only [List.length_append, List.length_cons, List.length_nil, putB_len, pairTo_len]); omega) rfl) ?_
          refine AL_nild (by kernel_rfl) ?_
          refine AW_seq ?_
          refine AW_region ?_
          refine AL_p (x_move rfl rfl) ?_
          refine AL_p (x_assign rfl rfl) ?_
          refine AL_p (x_assign rfl rfl) ?_
          refine AL_nil ?_
          refine AW_ret ?_
          exact ⟨rn [(0, 103)], ⟨⟨⟨_, rfl, VLe.rf⟩, ⟨_, rfl, by first | exact VLe.rf | exact vle_bool (by rw [hno])⟩, trivial⟩, ⟨⟨_, rfl, by first | exact BLe.rf | (refine BLe.arr ?_; rw [hno]; done) | (refine BLe.arr ?_; rw [hno]; exact whole_of (by unfold openB; (try simp only [handB]); first | (rw [bodyB_add (by omega)]; simp only [flatTo_all (f := actBytes) (xs := m.acts) (k := j) (by omega), List.append_assoc, List.nil_append]; done) | (rw [bodyB_flip (by omega)]; done) | (rw [bodyB_flip (by omega)]; simp only [List.append_assoc, List.nil_append]; done) | (rw [bodyB_note (by omega)]; simp only [headBy, flatTo_all (f := fun n => putB n 6) (xs := m.head.v) (k := i) (by omega), List.append_assoc, List.nil_append]; done) | (rw [bodyB_note (by omega), flatTo_all (f := fun n => putB n 6) (xs := m.head.v) (k := i) (by omega)]; simp [headBy, handB, *]; done) | (rw [bodyB_none (by omega) (by omega) (by omega)]; done) | (rw [bodyB_none (by omega) (by omega) (by omega)]; simp only [List.append_nil]; done) | (exfalso; omega)))⟩, trivial⟩, trivial, rfl⟩⟩
  · try simp only [decide_eq_true_eq, decide_eq_false_iff_not, Bool.not_eq_true, Bool.not_eq_false, Bool.not_eq_true', Bool.not_eq_false', beq_iff_eq, bne_iff_ne, beq_eq_false_iff_ne, bne_eq_false_iff_eq, Int.not_lt, Int.not_le, ge_iff_le, gt_iff_lt] at h12
    have hno := msgBytes_no h12
    refine AW_condT rfl ?_
    refine AW_seq ?_
    refine AW_region ?_
    refine AL_p (x_assign rfl rfl) ?_
    refine AL_p (x_assign rfl rfl) ?_
    refine AL_nil ?_
    refine AW_adoptT (T := 5) (e := (intE .u8)) 119 2 rfl rfl rfl ?_
    refine AW_ret ?_
    exact ⟨rn [(0, 119)], ⟨⟨⟨_, rfl, VLe.rf⟩, ⟨_, rfl, by first | exact VLe.rf | exact vle_bool (by rw [hno])⟩, trivial⟩, ⟨⟨_, rfl, by first | exact BLe.rf | (refine BLe.arr ?_; rw [hno]; done) | (refine BLe.arr ?_; rw [hno]; exact whole_of (by unfold openB; (try simp only [handB]); first | (rw [bodyB_add (by omega)]; simp only [flatTo_all (f := actBytes) (xs := m.acts) (k := j) (by omega), List.append_assoc, List.nil_append]; done) | (rw [bodyB_flip (by omega)]; done) | (rw [bodyB_flip (by omega)]; simp only [List.append_assoc, List.nil_append]; done) | (rw [bodyB_note (by omega)]; simp only [headBy, flatTo_all (f := fun n => putB n 6) (xs := m.head.v) (k := i) (by omega), List.append_assoc, List.nil_append]; done) | (rw [bodyB_note (by omega), flatTo_all (f := fun n => putB n 6) (xs := m.head.v) (k := i) (by omega)]; simp [headBy, handB, *]; done) | (rw [bodyB_none (by omega) (by omega) (by omega)]; done) | (rw [bodyB_none (by omega) (by omega) (by omega)]; simp only [List.append_nil]; done) | (exfalso; omega)))⟩, trivial⟩, trivial, rfl⟩⟩
theorem msgBytesI_c (m : Msgt) (k : Nat) : AC Try.prog 28 [.agg (msgC m)] [] (.tup [.one (.own k), .one (.c (.bool (msgBytes m).2))]) [(k, some (.arr 5 (intE .u8) ((msgBytes m).1) true))] := AC.at (msgBytesI_c0 m) k
end Go.Proofs.Ytfdpigafekohgaa

/- The laws' marks: MarkE (printed by genmark.py) -/
namespace Go.Proofs.Ytfdpigafekohgaa
open Go.RowKit
set_option linter.unusedVariables false
set_option linter.unusedSimpArgs false
set_option maxRecDepth 100000

def markInt (x : Int) (k : Int) : Int × Int := (k, k + 1)
def cntInt (x : Int) : Nat := 1
theorem markInt_cnt (x : Int) (k : Int) : (markInt x k).2 = k + cntInt x := by
  simp only [markInt, cntInt]
  try omega
set_option maxHeartbeats 4000000 in
theorem markIntS_any (a : Option Addr) (n cap : Nat) (xs : List (Int)) (bs : List Nat) (k : Int) (lo : Nat) (w : World) (h : SliceRep (intE .i64) w a n cap xs bs) (hF : Fresh lo w bs) (k0 : 0 ≤ k) (k1 : k + cntL cntInt xs ≤ 4611686018427387904) :
    Calls Try.prog 116 #[.slice a n cap, .int .i64 k] w fun e w' => e = .returned (.int .i64 (markL markInt xs k).2) ∧ SliceRep (intE .i64) w' a n cap (markL markInt xs k).1 bs ∧ Only bs w w' := by
  have hmax := h.max
  obtain rfl := h.1
  go_enter Try.func116, Try.ntmps116
  go_wp2_with fail
  go_loopw [1, 5] (fun l i W => ∃ (j : Nat), j ≤ xs.length ∧ i = .int .i64 j ∧ l = .int .i64 (markK markInt xs k j) ∧ SliceRep (intE .i64) W a xs.length cap (markTo markInt xs k j) bs ∧ Only bs w W) (fun _ i _ => xs.length - (intOf i).toNat)
  case atStart => exact ⟨0, Nat.zero_le _, rfl, by rw [markK_zero], by rw [markTo_zero]; exact h, Only.refl _ _⟩
  case round =>
    obtain ⟨j, hj, rfl, rfl, hS, hO⟩ := hrel
    by_cases hlt : j < xs.length
    · obtain ⟨g, off, _, _, rfl, _⟩ := h.get hlt
      have HF := hF.only hO
      obtain ⟨q0, q1⟩ := markK_bound markInt markInt_cnt k0 k1 hlt
      have hat := markTo_at markInt (k := k) hlt
      have HS := Lib.hid (markTo_succ markInt (k := k) hlt)
      have HK := Lib.hid (markK_succ markInt (k := k) hlt)
      have hl := markTo_len markInt xs k j
      have NJ := Lib.hid (show j + 1 ≤ xs.length by omega)
      have i0 : (0 : Int) ≤ (j : Int) := by omega
      have i1 : (j : Int) < (xs.length : Int) := by omega
      generalize markTo markInt xs k j = ys at hS hat HS hl
      generalize markK markInt xs k j = q at q0 q1 HS HK
      generalize xs[j] = x at hat HS HK q1
      rw [← set_same hat] at hS
      have hjy : j < ys.length := by omega
      clear hat
      have Q1 := Lib.hid q1
      simp only [cntInt] at q1
      obtain ⟨c0, d0⟩ := hS.cellAt2 HF hjy (c := 0) rfl
      obtain ⟨hS0, o0⟩ := hS.put2 HF hjy 0 (.int .i64 (q)) (q : Int) rfl (wf64 (by omega) (by omega)) rfl
      simp only [show Enc.size (intE .i64) = 1 from rfl, Nat.mul_one, Nat.add_zero] at c0 d0 hS0 o0
      clear hS
      have hS := hS0
      clear hS0
      replace hO := hO.trans o0
      replace HF := HF.only o0
      clear o0
      go_wp2_with fail
      go_roundw
      case rel => exact ⟨j + 1, NJ.out, by go_num, by rw [HK.out]; rfl, by rw [← HS.out]; exact hS, hO⟩
      case measure => simp [intOf]; omega
    · obtain rfl : j = xs.length := by omega
      rw [markTo_done] at hS
      go_wp2_with fail
      go_ret
      exact ⟨ret_int (markK_done _ _ _), hS, hO⟩

def markAct (x : Actt) (k : Int) : Actt × Int := (⟨k, k + 1, k + 1 + 1⟩, k + 1 + 1 + 1)
def cntAct (x : Actt) : Nat := 1 + 1 + 1
theorem markAct_cnt (x : Actt) (k : Int) : (markAct x k).2 = k + cntAct x := by
  simp only [markAct, cntAct]
  try omega
set_option maxHeartbeats 4000000 in
theorem markActS_any (a : Option Addr) (n cap : Nat) (xs : List (Actt)) (bs : List Nat) (k : Int) (lo : Nat) (w : World) (h : SliceRep actE w a n cap xs bs) (hF : Fresh lo w bs) (k0 : 0 ≤ k) (k1 : k + cntL cntAct xs ≤ 4611686018427387904) :
    Calls Try.prog 77 #[.slice a n cap, .int .i64 k] w fun e w' => e = .returned (.int .i64 (markL markAct xs k).2) ∧ SliceRep actE w' a n cap (markL markAct xs k).1 bs ∧ Only bs w w' := by
  have hmax := h.max
  obtain rfl := h.1
  go_enter Try.func77, Try.ntmps77
  go_wp2_with fail
  go_loopw [1, 5] (fun l i W => ∃ (j : Nat), j ≤ xs.length ∧ i = .int .i64 j ∧ l = .int .i64 (markK markAct xs k j) ∧ SliceRep actE W a xs.length cap (markTo markAct xs k j) bs ∧ Only bs w W) (fun _ i _ => xs.length - (intOf i).toNat)
  case atStart => exact ⟨0, Nat.zero_le _, rfl, by rw [markK_zero], by rw [markTo_zero]; exact h, Only.refl _ _⟩
  case round =>
    obtain ⟨j, hj, rfl, rfl, hS, hO⟩ := hrel
    by_cases hlt : j < xs.length
    · obtain ⟨g, off, _, _, rfl, _⟩ := h.get hlt
      have HF := hF.only hO
      obtain ⟨q0, q1⟩ := markK_bound markAct markAct_cnt k0 k1 hlt
      have hat := markTo_at markAct (k := k) hlt
      have HS := Lib.hid (markTo_succ markAct (k := k) hlt)
      have HK := Lib.hid (markK_succ markAct (k := k) hlt)
      have hl := markTo_len markAct xs k j
      have NJ := Lib.hid (show j + 1 ≤ xs.length by omega)
      have i0 : (0 : Int) ≤ (j : Int) := by omega
      have i1 : (j : Int) < (xs.length : Int) := by omega
      generalize markTo markAct xs k j = ys at hS hat HS hl
      generalize markK markAct xs k j = q at q0 q1 HS HK
      generalize xs[j] = x at hat HS HK q1
      rw [← set_same hat] at hS
      have hjy : j < ys.length := by omega
      clear hat
      have Q1 := Lib.hid q1
      simp only [cntAct] at q1
      obtain ⟨c0, d0⟩ := hS.cellAt2 HF hjy (c := 0) rfl
      obtain ⟨hS0, o0⟩ := hS.put2 HF hjy 0 (.int .i64 (q)) (⟨q, x.a, x.b⟩ : Actt) rfl (wf64 (by omega) (by omega)) rfl
      simp only [show Enc.size actE = 3 from rfl, Nat.add_zero] at c0 d0 hS0 o0
      clear hS
      have hS := hS0
      clear hS0
      replace hO := hO.trans o0
      replace HF := HF.only o0
      clear o0
      obtain ⟨c1, d1⟩ := hS.cellAt2 HF hjy (c := 1) rfl
      obtain ⟨hS1, o1⟩ := hS.put2 HF hjy 1 (.int .i64 (q + 1)) (⟨q, q + 1, x.b⟩ : Actt) rfl (wf64 (by omega) (by omega)) rfl
      simp only [show Enc.size actE = 3 from rfl, Nat.add_zero] at c1 d1 hS1 o1
      clear hS
      have hS := hS1
      clear hS1
      replace hO := hO.trans o1
      replace HF := HF.only o1
      clear o1
      obtain ⟨c2, d2⟩ := hS.cellAt2 HF hjy (c := 2) rfl
      obtain ⟨hS2, o2⟩ := hS.put2 HF hjy 2 (.int .i64 (q + 1 + 1)) (⟨q, q + 1, q + 1 + 1⟩ : Actt) rfl (wf64 (by omega) (by omega)) rfl
      simp only [show Enc.size actE = 3 from rfl, Nat.add_zero] at c2 d2 hS2 o2
      clear hS
      have hS := hS2
      clear hS2
      replace hO := hO.trans o2
      replace HF := HF.only o2
      clear o2
      go_wp2_with fail
      go_roundw
      case rel => exact ⟨j + 1, NJ.out, by go_num, by rw [HK.out]; rfl, by rw [← HS.out]; exact hS, hO⟩
      case measure => simp [intOf]; omega
    · obtain rfl : j = xs.length := by omega
      rw [markTo_done] at hS
      go_wp2_with fail
      go_ret
      exact ⟨ret_int (markK_done _ _ _), hS, hO⟩

def markDMatch (x : Matcht) (k : Int) : Matcht × Int := (⟨(markL markInt x.v (k)).1, (markL markInt x.m ((markL markInt x.v (k)).2)).1⟩, (markL markInt x.m ((markL markInt x.v (k)).2)).2)
def cntDMatch (x : Matcht) : Nat := cntL cntInt x.v + cntL cntInt x.m
theorem markDMatch_cnt (x : Matcht) (k : Int) : (markDMatch x k).2 = k + cntDMatch x := by
  simp only [markDMatch, cntDMatch, markL_cnt markInt markInt_cnt, markL_cnt markInt markInt_cnt]
  try omega
set_option maxHeartbeats 4000000 in
theorem markDMatch_any (cs : List Value) (x : Matcht) (bs : List Nat) (k : Int) (lo : Nat) (w : World) (h : matchE.rep w cs x bs) (hF : Fresh lo w bs) (k0 : 0 ≤ k) (k1 : k + cntDMatch x ≤ 4611686018427387904) :
    Calls Try.prog 50 #[.agg cs.toArray, .int .i64 k] w fun e w' => e = .returned (.int .i64 (markDMatch x k).2) ∧ matchE.rep w' cs (markDMatch x k).1 bs ∧ Only bs w w' := by
  have hr := h
  have hlt := matchE.lt h
  obtain ⟨sa0, sn0, sc0, sb0, sa1, sn1, sc1, sb1, hcs, _, _, _⟩ := Match_rep.1 h
  subst hcs
  clear h
  simp only [cntDMatch] at k1
  have H := ((Held.start w).box_ #[.slice sa0 sn0 sc0, .slice sa1 sn1 sc1] 46)
  have hal := (Below.refl w.heap.size w).alloc (Nat.le_refl _) (.cells #[.slice sa0 sn0 sc0, .slice sa1 sn1 sc1] 46)
  have H2 := H.s1
  have bx0 := H2.2 0
  have bx1 := H2.2 1
  replace hr := matchE.up hr hal
  replace hF := hF.up hal
  have hO : Only bs w _ := Only.below hal
  clear hal H H2
  go_enter Try.func50, Try.ntmps50

  obtain ⟨a0, n0, p0, b0, e0, r0, F0, next0⟩ := Enc.nest hr hF (c := 0) rfl
  simp only [List.getElem?_cons_zero, List.getElem?_cons_succ, Option.some.injEq, Value.slice.injEq] at e0
  obtain ⟨rfl, rfl, rfl⟩ := e0
  go_wp2_with fail
  refine (markIntS_any _ _ _ _ _ _ lo _ r0 F0 (by omega) (by omega)).mono ?_
  rintro e w1 ⟨rfl, rr, oo⟩
  obtain ⟨hr0, o0⟩ := next0 w1 _ (⟨(markL markInt x.v (k)).1, x.m⟩ : Matcht) rr oo rfl
  have v0 := markL_cnt markInt markInt_cnt x.v (k)
  have y0 : 0 ≤ (markL markInt x.v (k)).2 := by omega
  have z0 : (markL markInt x.v (k)).2 + ((cntL cntInt x.m : Nat) : Int) ≤ 4611686018427387904 := by omega
  replace bx0 := cell_only bx0 o0 (fun hm => Nat.lt_irrefl _ (hlt _ hm))
  replace bx1 := cell_only bx1 o0 (fun hm => Nat.lt_irrefl _ (hlt _ hm))
  clear hr
  have hr := hr0
  replace hO := hO.trans o0
  replace hF := hF.only o0
  clear hr0 o0 rr oo r0 F0 next0 v0
  obtain ⟨a1, n1, p1, b1, e1, r1, F1, next1⟩ := Enc.nest hr hF (c := 1) rfl
  simp only [List.getElem?_cons_zero, List.getElem?_cons_succ, Option.some.injEq, Value.slice.injEq] at e1
  obtain ⟨rfl, rfl, rfl⟩ := e1
  go_wp2_with fail
  refine (markIntS_any _ _ _ _ _ _ lo _ r1 F1 (by omega) (by omega)).mono ?_
  rintro e w2 ⟨rfl, rr, oo⟩
  obtain ⟨hr1, o1⟩ := next1 w2 _ (⟨(markL markInt x.v (k)).1, (markL markInt x.m ((markL markInt x.v (k)).2)).1⟩ : Matcht) rr oo rfl
  clear hr
  have hr := hr1
  replace hO := hO.trans o1
  replace hF := hF.only o1
  clear hr1 o1 rr oo r1 F1 next1
  go_wp2_with fail
  go_ret
  exact ⟨rfl, hr, hO⟩

def markDHead (x : Headt) (k : Int) : Headt × Int := (⟨(markL markInt x.v (k)).1⟩, (markL markInt x.v (k)).2)
def cntDHead (x : Headt) : Nat := cntL cntInt x.v
set_option maxHeartbeats 4000000 in
theorem markDHead_any (cs : List Value) (x : Headt) (bs : List Nat) (k : Int) (lo : Nat) (w : World) (h : headE.rep w cs x bs) (hF : Fresh lo w bs) (k0 : 0 ≤ k) (k1 : k + cntDHead x ≤ 4611686018427387904) :
    Calls Try.prog 78 #[.agg cs.toArray, .int .i64 k] w fun e w' => e = .returned (.int .i64 (markDHead x k).2) ∧ headE.rep w' cs (markDHead x k).1 bs ∧ Only bs w w' := by
  have hr := h
  have hlt := headE.lt h
  obtain ⟨sa0, sn0, sc0, sb0, hcs, _, _⟩ := Head_rep.1 h
  subst hcs
  clear h
  simp only [cntDHead] at k1
  have H := ((Held.start w).box_ #[.slice sa0 sn0 sc0] 48)
  have hal := (Below.refl w.heap.size w).alloc (Nat.le_refl _) (.cells #[.slice sa0 sn0 sc0] 48)
  have H2 := H.s1
  have bx0 := H2.2 0
  replace hr := headE.up hr hal
  replace hF := hF.up hal
  have hO : Only bs w _ := Only.below hal
  clear hal H H2
  go_enter Try.func78, Try.ntmps78

  obtain ⟨a0, n0, p0, b0, e0, r0, F0, next0⟩ := Enc.nest hr hF (c := 0) rfl
  simp only [List.getElem?_cons_zero, List.getElem?_cons_succ, Option.some.injEq, Value.slice.injEq] at e0
  obtain ⟨rfl, rfl, rfl⟩ := e0
  go_wp2_with fail
  refine (markIntS_any _ _ _ _ _ _ lo _ r0 F0 (by omega) (by omega)).mono ?_
  rintro e w1 ⟨rfl, rr, oo⟩
  obtain ⟨hr0, o0⟩ := next0 w1 _ (⟨(markL markInt x.v (k)).1⟩ : Headt) rr oo rfl
  clear hr
  have hr := hr0
  replace hO := hO.trans o0
  replace hF := hF.only o0
  clear hr0 o0 rr oo r0 F0 next0
  go_wp2_with fail
  go_ret
  exact ⟨rfl, hr, hO⟩

def markDMsg (x : Msgt) (k : Int) : Msgt × Int := (⟨x.kind, x.session, x.xid, x.epoch, x.prio, ⟨(markL markInt x.mat.v (k)).1, (markL markInt x.mat.m ((markL markInt x.mat.v (k)).2)).1⟩, (markL markAct x.acts ((markL markInt x.mat.m ((markL markInt x.mat.v (k)).2)).2)).1, x.hand, ⟨(markL markInt x.head.v ((markL markAct x.acts ((markL markInt x.mat.m ((markL markInt x.mat.v (k)).2)).2)).2)).1⟩⟩, (markL markInt x.head.v ((markL markAct x.acts ((markL markInt x.mat.m ((markL markInt x.mat.v (k)).2)).2)).2)).2)
def cntDMsg (x : Msgt) : Nat := cntL cntInt x.mat.v + cntL cntInt x.mat.m + cntL cntAct x.acts + cntL cntInt x.head.v
theorem markDMsg_cnt (x : Msgt) (k : Int) : (markDMsg x k).2 = k + cntDMsg x := by
  simp only [markDMsg, cntDMsg, markL_cnt markInt markInt_cnt, markL_cnt markInt markInt_cnt, markL_cnt markAct markAct_cnt, markL_cnt markInt markInt_cnt]
  try omega
set_option maxHeartbeats 4000000 in
theorem markDMsg_any (cs : List Value) (x : Msgt) (bs : List Nat) (k : Int) (lo : Nat) (w : World) (h : msgE.rep w cs x bs) (hF : Fresh lo w bs) (k0 : 0 ≤ k) (k1 : k + cntDMsg x ≤ 4611686018427387904) :
    Calls Try.prog 29 #[.agg cs.toArray, .int .i64 k] w fun e w' => e = .returned (.int .i64 (markDMsg x k).2) ∧ msgE.rep w' cs (markDMsg x k).1 bs ∧ Only bs w w' := by
  have hr := h
  have hlt := msgE.lt h
  obtain ⟨sa0, sn0, sc0, sb0, sa1, sn1, sc1, sb1, sa2, sn2, sc2, sb2, sa3, sn3, sc3, sb3, hcs, _, _, _, _, _, _, _, _, _, _⟩ := Msg_rep.1 h
  subst hcs
  clear h
  simp only [cntDMsg] at k1
  have H := ((Held.start w).box_ #[.int .i64 x.kind, .int .i64 x.session, .int .i64 x.xid, .int .i64 x.epoch, .int .i64 x.prio, .slice sa0 sn0 sc0, .slice sa1 sn1 sc1, .slice sa2 sn2 sc2, .bool x.hand, .slice sa3 sn3 sc3] 50)
  have hal := (Below.refl w.heap.size w).alloc (Nat.le_refl _) (.cells #[.int .i64 x.kind, .int .i64 x.session, .int .i64 x.xid, .int .i64 x.epoch, .int .i64 x.prio, .slice sa0 sn0 sc0, .slice sa1 sn1 sc1, .slice sa2 sn2 sc2, .bool x.hand, .slice sa3 sn3 sc3] 50)
  have H2 := H.s1
  have bx0 := H2.2 0
  have bx1 := H2.2 1
  have bx2 := H2.2 2
  have bx3 := H2.2 3
  have bx4 := H2.2 4
  have bx5 := H2.2 5
  have bx6 := H2.2 6
  have bx7 := H2.2 7
  have bx8 := H2.2 8
  have bx9 := H2.2 9
  replace hr := msgE.up hr hal
  replace hF := hF.up hal
  have hO : Only bs w _ := Only.below hal
  clear hal H H2
  go_enter Try.func29, Try.ntmps29
  have hcnt : True ∧ cntDMatch (x.mat) = cntL cntInt x.mat.v + cntL cntInt x.mat.m ∧ cntDHead (x.head) = cntL cntInt x.head.v := by simp only [and_self, cntDMatch, cntDHead]; repeat (first | exact trivial | refine ⟨trivial, ?_⟩ | refine ⟨rfl, ?_⟩ | rfl)
  obtain ⟨b0, r0, F0, next0⟩ := Enc.nestR (e' := matchE) (g := matchC) (y := x.mat) hr hF 5 2 rfl rfl rfl
  replace r0 : matchE.rep _ [.slice sa0 sn0 sc0, .slice sa1 sn1 sc1] (x.mat) b0 := r0
  go_wp2_with fail
  refine (markDMatch_any [.slice sa0 sn0 sc0, .slice sa1 sn1 sc1] (x.mat) b0 _ lo _ r0 F0 (by omega) (by omega)).mono ?_
  rintro e w1 ⟨rfl, rr, oo⟩
  obtain ⟨hr0, o0⟩ := next0 w1 _ (⟨x.kind, x.session, x.xid, x.epoch, x.prio, ⟨(markL markInt x.mat.v (k)).1, (markL markInt x.mat.m ((markL markInt x.mat.v (k)).2)).1⟩, x.acts, x.hand, ⟨x.head.v⟩⟩ : Msgt) rr oo rfl
  have v0 := markDMatch_cnt (x.mat) (k)
  have y0 : 0 ≤ (markDMatch (x.mat) (k)).2 := by omega
  have z0 : (markDMatch (x.mat) (k)).2 + ((cntL cntAct x.acts + cntDHead (x.head) : Nat) : Int) ≤ 4611686018427387904 := by omega
  replace bx0 := cell_only bx0 o0 (fun hm => Nat.lt_irrefl _ (hlt _ hm))
  replace bx1 := cell_only bx1 o0 (fun hm => Nat.lt_irrefl _ (hlt _ hm))
  replace bx2 := cell_only bx2 o0 (fun hm => Nat.lt_irrefl _ (hlt _ hm))
  replace bx3 := cell_only bx3 o0 (fun hm => Nat.lt_irrefl _ (hlt _ hm))
  replace bx4 := cell_only bx4 o0 (fun hm => Nat.lt_irrefl _ (hlt _ hm))
  replace bx5 := cell_only bx5 o0 (fun hm => Nat.lt_irrefl _ (hlt _ hm))
  replace bx6 := cell_only bx6 o0 (fun hm => Nat.lt_irrefl _ (hlt _ hm))
  replace bx7 := cell_only bx7 o0 (fun hm => Nat.lt_irrefl _ (hlt _ hm))
  replace bx8 := cell_only bx8 o0 (fun hm => Nat.lt_irrefl _ (hlt _ hm))
  replace bx9 := cell_only bx9 o0 (fun hm => Nat.lt_irrefl _ (hlt _ hm))
  clear hr
  have hr := hr0
  replace hO := hO.trans o0
  replace hF := hF.only o0
  clear hr0 o0 rr oo r0 F0 next0 v0
  obtain ⟨a1, n1, p1, b1, e1, r1, F1, next1⟩ := Enc.nest hr hF (c := 7) rfl
  simp only [List.getElem?_cons_zero, List.getElem?_cons_succ, Option.some.injEq, Value.slice.injEq] at e1
  obtain ⟨rfl, rfl, rfl⟩ := e1
  go_wp2_with fail
  refine (markActS_any _ _ _ _ _ _ lo _ r1 F1 (by omega) (by omega)).mono ?_
  rintro e w2 ⟨rfl, rr, oo⟩
  obtain ⟨hr1, o1⟩ := next1 w2 _ (⟨x.kind, x.session, x.xid, x.epoch, x.prio, ⟨(markL markInt x.mat.v (k)).1, (markL markInt x.mat.m ((markL markInt x.mat.v (k)).2)).1⟩, (markL markAct x.acts ((markL markInt x.mat.m ((markL markInt x.mat.v (k)).2)).2)).1, x.hand, ⟨x.head.v⟩⟩ : Msgt) rr oo rfl
  have v1 := markL_cnt markAct markAct_cnt x.acts ((markDMatch (x.mat) (k)).2)
  have y1 : 0 ≤ (markL markAct x.acts ((markDMatch (x.mat) (k)).2)).2 := by omega
  have z1 : (markL markAct x.acts ((markDMatch (x.mat) (k)).2)).2 + ((cntDHead (x.head) : Nat) : Int) ≤ 4611686018427387904 := by omega
  replace bx0 := cell_only bx0 o1 (fun hm => Nat.lt_irrefl _ (hlt _ hm))
  replace bx1 := cell_only bx1 o1 (fun hm => Nat.lt_irrefl _ (hlt _ hm))
  replace bx2 := cell_only bx2 o1 (fun hm => Nat.lt_irrefl _ (hlt _ hm))
  replace bx3 := cell_only bx3 o1 (fun hm => Nat.lt_irrefl _ (hlt _ hm))
  replace bx4 := cell_only bx4 o1 (fun hm => Nat.lt_irrefl _ (hlt _ hm))
  replace bx5 := cell_only bx5 o1 (fun hm => Nat.lt_irrefl _ (hlt _ hm))
  replace bx6 := cell_only bx6 o1 (fun hm => Nat.lt_irrefl _ (hlt _ hm))
  replace bx7 := cell_only bx7 o1 (fun hm => Nat.lt_irrefl _ (hlt _ hm))
  replace bx8 := cell_only bx8 o1 (fun hm => Nat.lt_irrefl _ (hlt _ hm))
  replace bx9 := cell_only bx9 o1 (fun hm => Nat.lt_irrefl _ (hlt _ hm))
  clear hr
  have hr := hr1
  replace hO := hO.trans o1
  replace hF := hF.only o1
  clear hr1 o1 rr oo r1 F1 next1 v1
  obtain ⟨b2, r2, F2, next2⟩ := Enc.nestR (e' := headE) (g := headC) (y := x.head) hr hF 9 1 rfl rfl rfl
  replace r2 : headE.rep _ [.slice sa3 sn3 sc3] (x.head) b2 := r2
  go_wp2_with fail
  refine (markDHead_any [.slice sa3 sn3 sc3] (x.head) b2 _ lo _ r2 F2 (by omega) (by omega)).mono ?_
  rintro e w3 ⟨rfl, rr, oo⟩
  obtain ⟨hr2, o2⟩ := next2 w3 _ (⟨x.kind, x.session, x.xid, x.epoch, x.prio, ⟨(markL markInt x.mat.v (k)).1, (markL markInt x.mat.m ((markL markInt x.mat.v (k)).2)).1⟩, (markL markAct x.acts ((markL markInt x.mat.m ((markL markInt x.mat.v (k)).2)).2)).1, x.hand, ⟨(markL markInt x.head.v ((markL markAct x.acts ((markL markInt x.mat.m ((markL markInt x.mat.v (k)).2)).2)).2)).1⟩⟩ : Msgt) rr oo rfl
  clear hr
  have hr := hr2
  replace hO := hO.trans o2
  replace hF := hF.only o2
  clear hr2 o2 rr oo r2 F2 next2
  go_wp2_with fail
  go_ret
  exact ⟨rfl, hr, hO⟩

end Go.Proofs.Ytfdpigafekohgaa

/- How much a message's marks count. -/
namespace Go.Proofs.Ytfdpigafekohgaa
open Go.RowKit
set_option linter.unusedVariables false

theorem cntInts_le {xs : List Int} {n : Nat} (h : xs.length ≤ n) : cntL cntInt xs ≤ n := by
  have := cntL_le (c := cntInt) (M := 1) (xs := xs) fun x _ => by simp [cntInt]
  omega
theorem cntActs_le {xs : List Actt} {n : Nat} (h : xs.length ≤ n) : cntL cntAct xs ≤ 3 * n := by
  have := cntL_le (c := cntAct) (M := 3) (xs := xs) fun x _ => by simp [cntAct]
  omega
theorem cntMsg_le {x : Msgt} (h : totMsg x ≤ 1048576) : cntDMsg x ≤ 1152921504606846976 := by
  simp only [totMsg, totMatch, totHead] at h
  have h1 := cntInts_le (xs := x.mat.v) (n := 1048576) (by omega)
  have h2 := cntInts_le (xs := x.mat.m) (n := 1048576) (by omega)
  have h3 := cntActs_le (xs := x.acts) (n := 1048576) (by omega)
  have h4 := cntInts_le (xs := x.head.v) (n := 1048576) (by omega)
  simp only [cntDMsg]; omega
theorem msgBytes_len (m : Msgt) : (msgBytes m).1.length ≤ 300 := by
  unfold msgBytes
  split
  · rename_i h
    have := bodyB_len h
    simp only [wholeB, List.length_append, List.length_cons, List.length_nil, putB_len]; omega
  · simp
end Go.Proofs.Ytfdpigafekohgaa

/- The walk of FnExactMsgBytes (printed by walk.py) -/
namespace Go.Proofs.Ytfdpigafekohgaa
open Go.RowKit
set_option linter.unusedVariables false
set_option linter.unusedSimpArgs false
set_option maxRecDepth 100000

set_option maxHeartbeats 4000000 in
theorem lawFnExactMsgBytes.walk (w : World) (c0 : Array Value) (x0 : Msgt) (b0 : List Nat) (h0 : msgE.rep w c0.toList x0 b0) :
    Calls Try.prog 6 #[.agg c0] w fun e w' => e = .returned (.bool true) ∧ Below w.heap.size w w' := by
  refine AM_law (r := 2) Try.func6 rfl Try.ntmps6 rfl Try.results6 w _ (args := [.agg (msgC x0)]) ⟨arg_agg h0, trivial⟩ (fun B => ?_)
  refine AM_seq ?_
  refine AM_region ?_
  refine AL_p (x_box 100 rfl rfl rfl rfl rfl rfl rfl) ?_
  refine AL_p (x_assign rfl rfl) ?_
  refine AL_nil ?_
  refine AM_seq ?_
  refine AM_region ?_
  refine AL_p (x_assign rfl rfl) ?_
  refine AL_nil ?_
  refine AM_seq ?_
  refine AM_region ?_
  refine AL_p (x_loadN (n := 10) rfl rfl rfl (by kernel_rfl) rfl rfl) ?_
  refine AL_p (x_move rfl rfl) ?_
  refine AL_p (x_call0 rfl rfl rfl (szMsg_c _ _ (by omega) (by omega)) rfl rfl) ?_
  refine AL_p (x_assign rfl rfl) ?_
  refine AL_nil ?_
  refine AM_seq ?_
  refine AM_seq ?_
  refine AM_region ?_
  refine AL_p (x_move rfl rfl) ?_
  refine AL_b (x_lss rfl rfl rfl) (fun b18 h18 => ?_)
  refine AL_nil ?_
  cases b18
  rotate_left
  · try simp only [decide_eq_true_eq, decide_eq_false_iff_not, Bool.not_eq_true, Bool.not_eq_false, Bool.not_eq_true', Bool.not_eq_false', beq_iff_eq, bne_iff_ne, beq_eq_false_iff_ne, bne_eq_false_iff_eq, Int.not_lt, Int.not_le, ge_iff_le, gt_iff_lt] at h18
    refine AM_condT rfl ?_
    refine AM_seq ?_
    refine AM_region ?_
    refine AL_p (x_assign rfl rfl) ?_
    refine AL_nil ?_
    refine AM_ret ?_
    exact rfl
  · try simp only [decide_eq_true_eq, decide_eq_false_iff_not, Bool.not_eq_true, Bool.not_eq_false, Bool.not_eq_true', Bool.not_eq_false', beq_iff_eq, bne_iff_ne, beq_eq_false_iff_ne, bne_eq_false_iff_eq, Int.not_lt, Int.not_le, ge_iff_le, gt_iff_lt] at h18
    have f18 := (szR_nonneg h18).1
    have e18 := (szR_nonneg h18).2
    have t0 : totMsg x0 ≤ 1048576 := by omega
    have s0 := totMsg_small t0
    refine AM_condF rfl ?_
    refine AM_skip ?_
    refine AM_seq ?_
    refine AM_region ?_
    refine AL_p (x_loadN (n := 10) rfl rfl rfl (by kernel_rfl) rfl rfl) ?_
    refine AL_p (x_callR rfl rfl rfl ((AC.renum (res := .agg [.c (.int .i64 x0.kind), .c (.int .i64 x0.session), .c (.int .i64 x0.xid), .c (.int .i64 x0.epoch), .c (.int .i64 x0.prio), .own 101, .own 102, .own 103, .c (.bool x0.hand), .own 104]) (L := [(101, some (.arr 3 (intE .i64) x0.mat.v true)), (102, some (.arr 3 (intE .i64) x0.mat.m true)), (103, some (.arr 114 actE x0.acts true)), (104, some (.arr 3 (intE .i64) x0.head.v true))]) (r := rn [(101, 0), (102, 1), (103, 2), (104, 3)]) (toMsg_c x0 s0) ⟨⟨_, rfl, BLe.rf⟩, ⟨_, rfl, BLe.rf⟩, ⟨_, rfl, BLe.rf⟩, ⟨_, rfl, BLe.rf⟩, trivial⟩ rfl)) rfl AllV.rf rfl rfl rfl rfl rfl) ?_
    refine AL_p (x_callR rfl rfl rfl (msgBytesS_c x0 105) rfl AllV.rf rfl rfl rfl rfl rfl) ?_
    refine AL_p (x_move rfl rfl) ?_
    refine AL_p (x_extract rfl rfl rfl) ?_
    refine AL_p (x_extract rfl rfl rfl) ?_
    refine AL_p (x_assign rfl rfl) ?_
    refine AL_p (x_assign rfl rfl) ?_
    refine AL_nil ?_
    refine AM_raise (fun B' => [(1, .one (.epo B' msgE (x0) 0)), (4, .one (.slo B' (intE .u8) ((msgBytes x0).1))), (5, .one (.c _))]) (fun B' => ⟨⟨_, rfl, .box (f := msgC) rfl rfl rfl FitL.rf⟩, ⟨_, rfl, .own rfl⟩, ⟨_, rfl, .c⟩, trivial⟩) (fun B' => ?_)
    refine AM_seq ?_
    refine AM_region ?_
    refine AL_p (x_pload (f := msgC) (n := 10) rfl rfl (by kernel_rfl) rfl rfl) ?_
    refine AL_p (x_callR rfl rfl rfl ((AC.renum (res := .agg [.c (.int .i64 x0.kind), .c (.int .i64 x0.session), .c (.int .i64 x0.xid), .c (.int .i64 x0.epoch), .c (.int .i64 x0.prio), .own 106, .own 107, .own 108, .c (.bool x0.hand), .own 109]) (L := [(106, some (.arr 3 (intE .i64) x0.mat.v true)), (107, some (.arr 3 (intE .i64) x0.mat.m true)), (108, some (.arr 114 actE x0.acts true)), (109, some (.arr 3 (intE .i64) x0.head.v true))]) (r := rn [(106, 0), (107, 1), (108, 2), (109, 3)]) (toMsg_c x0 s0) ⟨⟨_, rfl, BLe.rf⟩, ⟨_, rfl, BLe.rf⟩, ⟨_, rfl, BLe.rf⟩, ⟨_, rfl, BLe.rf⟩, trivial⟩ rfl)) rfl AllV.rf rfl rfl rfl rfl rfl) ?_
    refine AL_p (x_alloc (z := .agg #[.int .i64 0, .int .i64 0, .int .i64 0, .int .i64 0, .int .i64 0, .slice none 0 0, .slice none 0 0, .slice none 0 0, .bool false, .slice none 0 0]) 110 rfl (by kernel_rfl) rfl rfl rfl rfl) ?_
    refine AL_p (x_store (n := 10) rfl rfl rfl rfl (by kernel_rfl) rfl rfl rfl) ?_
    refine AL_nil ?_
    refine AM_seq ?_
    refine AM_region ?_
    refine AL_p (x_loadN (n := 10) rfl rfl rfl (by kernel_rfl) rfl rfl) ?_
    refine AL_p (x_callR rfl rfl rfl (msgBytesI_c x0 111) rfl AllV.rf rfl rfl rfl rfl rfl) ?_
    refine AL_p (x_move rfl rfl) ?_
    refine AL_p (x_extract rfl rfl rfl) ?_
    refine AL_p (x_extract rfl rfl rfl) ?_
    refine AL_p (x_assign rfl rfl) ?_
    refine AL_p (x_assign rfl rfl) ?_
    refine AL_nil ?_
    refine AM_seq ?_
    refine AM_seq ?_
    refine AM_region ?_
    refine AL_p (x_move rfl rfl) ?_
    refine AL_p (x_move rfl rfl) ?_
    refine AL_p (x_callR rfl rfl rfl (eqByteS_c ((msgBytes x0).1)) rfl AllV.rf rfl rfl rfl rfl rfl) ?_
    refine AL_p (x_not rfl rfl) ?_
    refine AL_p (x_move rfl rfl) ?_
    refine AL_g rfl rfl (x_move rfl rfl) ?_
    refine AL_g rfl rfl (x_move rfl rfl) ?_
    refine AL_gb rfl rfl (x_bneq rfl rfl rfl (by kernel_rfl)) (fun b39 h39 => ?_)
    refine AL_p (x_pickF rfl rfl rfl) ?_
    refine AL_nil ?_
    cases b39
    rotate_left
    · exfalso; first | (simp [ba_beq_self] at h39; done) | (simp at h39; omega)
    · try simp only [decide_eq_true_eq, decide_eq_false_iff_not, Bool.not_eq_true, Bool.not_eq_false, Bool.not_eq_true', Bool.not_eq_false', beq_iff_eq, bne_iff_ne, beq_eq_false_iff_ne, bne_eq_false_iff_eq, Int.not_lt, Int.not_le, ge_iff_le, gt_iff_lt] at h39
      refine AM_condF rfl ?_
      refine AM_skip ?_
      refine AM_seq ?_
      refine AM_seq ?_
      refine AM_draw rfl ?_
      refine AL_p (x_loadN (n := 10) rfl rfl rfl (by kernel_rfl) rfl rfl) ?_
      refine AL_p (x_pload (f := msgC) (n := 10) rfl rfl (by kernel_rfl) rfl rfl) ?_
      refine AL_p (x_callR rfl rfl rfl ((AC.renum (res := .agg [.c (.int .i64 x0.kind), .c (.int .i64 x0.session), .c (.int .i64 x0.xid), .c (.int .i64 x0.epoch), .c (.int .i64 x0.prio), .own 112, .own 113, .own 114, .c (.bool x0.hand), .own 115]) (L := [(112, some (.arr 3 (intE .i64) x0.mat.v true)), (113, some (.arr 3 (intE .i64) x0.mat.m true)), (114, some (.arr 114 actE x0.acts true)), (115, some (.arr 3 (intE .i64) x0.head.v true))]) (r := rn [(112, 0), (113, 1), (114, 2), (115, 3)]) (toMsg_c x0 s0) ⟨⟨_, rfl, BLe.rf⟩, ⟨_, rfl, BLe.rf⟩, ⟨_, rfl, BLe.rf⟩, ⟨_, rfl, BLe.rf⟩, trivial⟩ rfl)) rfl AllV.rf rfl rfl rfl rfl rfl) ?_
      refine AL_p (x_callR rfl rfl rfl (eqMsg_c (x0)) rfl AllV.rf rfl rfl rfl rfl rfl) ?_
      refine AL_p (x_not rfl rfl) ?_
      refine AL_nild (by kernel_rfl) ?_
      refine AM_condF rfl ?_
      refine AM_skip ?_
      refine AM_seq ?_
      refine AM_region ?_
      refine AL_p (x_assign rfl rfl) ?_
      refine AL_nil ?_
      refine AM_seq ?_
      refine AM_regionM ?_
      refine LM_p (x_loadN (n := 10) rfl rfl rfl (by kernel_rfl) rfl rfl) ?_
      refine LM_p (x_move rfl rfl) ?_
      have n0 : cntDMsg (x0) ≤ 1152921504606846976 := cntMsg_le t0
      have v0 := markDMsg_cnt (x0) (1)
      refine LM_markA (F := msgC) (z := x0) (z' := (markDMsg x0 (1)).1) [(1, _), (4, _), (5, _), (7, _), (8, _), (9, _)] [(111, some _)] rfl rfl rfl rfl ⟨_, _, Try.func29, rfl, rfl⟩ (fun w cs bs h hF => markDMsg_any cs _ bs _ 0 w h hF (by omega) (by omega)) rfl rfl FitL.rf (wf64 (by omega) (by omega)) ⟨⟨rfl, rfl⟩, ⟨rfl, rfl⟩, ⟨rfl, trivial⟩, ⟨rfl, rfl⟩, ⟨rfl, trivial⟩, ⟨rfl, trivial⟩, trivial⟩ ⟨⟨rfl, rfl, rfl⟩, trivial⟩ ?_
      refine LM_p (x_assign rfl rfl) ?_
      refine LM_nil ?_
      refine AM_seq ?_
      refine AM_seq ?_
      refine AM_region ?_
      refine AL_p (x_move rfl rfl) ?_
      refine AL_b (x_lss rfl rfl rfl) (fun b50 h50 => ?_)
      refine AL_p (x_move rfl rfl) ?_
      cases b50
      rotate_left
      · exfalso; first | (simp [ba_beq_self] at h50; done) | (simp at h50; omega)
      · try simp only [decide_eq_true_eq, decide_eq_false_iff_not, Bool.not_eq_true, Bool.not_eq_false, Bool.not_eq_true', Bool.not_eq_false', beq_iff_eq, bne_iff_ne, beq_eq_false_iff_ne, bne_eq_false_iff_eq, Int.not_lt, Int.not_le, ge_iff_le, gt_iff_lt] at h50
        refine AL_g rfl rfl (x_move rfl rfl) ?_
        refine AL_g rfl rfl (x_move rfl rfl) ?_
        refine AL_g rfl rfl (x_callR rfl rfl rfl (eqByteS_c ((msgBytes x0).1)) rfl AllV.rf rfl rfl rfl rfl rfl) ?_
        refine AL_g rfl rfl (x_not rfl rfl) ?_
        refine AL_p (x_pickF rfl rfl rfl) ?_
        refine AL_p (x_move rfl rfl) ?_
        refine AL_g rfl rfl (x_move rfl rfl) ?_
        refine AL_g rfl rfl (x_move rfl rfl) ?_
        refine AL_gb rfl rfl (x_bneq rfl rfl rfl (by kernel_rfl)) (fun b60 h60 => ?_)
        refine AL_p (x_pickF rfl rfl rfl) ?_
        refine AL_nil ?_
        cases b60
        rotate_left
        · exfalso; first | (simp [ba_beq_self] at h60; done) | (simp at h60; omega)
        · try simp only [decide_eq_true_eq, decide_eq_false_iff_not, Bool.not_eq_true, Bool.not_eq_false, Bool.not_eq_true', Bool.not_eq_false', beq_iff_eq, bne_iff_ne, beq_eq_false_iff_ne, bne_eq_false_iff_eq, Int.not_lt, Int.not_le, ge_iff_le, gt_iff_lt] at h60
          refine AM_condF rfl ?_
          refine AM_skip ?_
          refine AM_seq ?_
          refine AM_region ?_
          refine AL_p (x_assign rfl rfl) ?_
          refine AL_nil ?_
          refine AM_seq ?_
          refine AM_regionM ?_
          refine LM_p (x_move rfl rfl) ?_
          refine LM_p (x_move rfl rfl) ?_
          have n1 : cntL cntByte ((msgBytes x0).1) ≤ 1152921504606846976 := (by have h := cntL_le (c := cntByte) (M := 1) (xs := (msgBytes x0).1) (fun x _ => by simp [cntByte]); have := msgBytes_len x0; omega)
          have v1 := markL_cnt markByte markByte_cnt ((msgBytes x0).1) (1)
          refine LM_markOK (z := (msgBytes x0).1) (z' := (markL markByte (msgBytes x0).1 (1)).1) 7 (fun B' => [(1, .one (.epo B' msgE (x0) 0)), (4, .one (.slo B' (intE .u8) ((msgBytes x0).1))), (5, .one (.c _)), (10, .one (.c _))]) rfl rfl rfl rfl rfl ⟨_, _, Try.func17, rfl, rfl⟩ (fun w a n cap bs h hF => markByteS_any a n cap _ bs _ 0 w h hF (by omega) (by omega)) rfl (wf64 (by omega) (by omega)) (fun B' => ⟨⟨_, rfl, .epo⟩, ⟨_, rfl, .slo⟩, ⟨_, rfl, .c⟩, ⟨_, rfl, .c⟩, trivial⟩) (fun B' => ?_)
          refine LM_p (x_assign rfl rfl) ?_
          refine LM_nil ?_
          refine AM_seq ?_
          refine AM_region ?_
          refine AL_p (x_assign rfl rfl) ?_
          refine AL_nil ?_
          refine AM_seq ?_
          refine AM_region ?_
          refine AL_p (x_move rfl rfl) ?_
          refine AL_p (x_move rfl rfl) ?_
          refine AL_p (x_callR rfl rfl rfl (heldByteS_c ((msgBytes x0).1) _ (1) rfl (by omega) (by omega)) rfl AllV.rf rfl rfl rfl rfl rfl) ?_
          refine AL_p (x_assign rfl rfl) ?_
          refine AL_nil ?_
          refine AM_seq ?_
          refine AM_seq ?_
          refine AM_region ?_
          refine AL_p (x_move rfl rfl) ?_
          refine AL_b (x_lss rfl rfl rfl) (fun b69 h69 => ?_)
          refine AL_nil ?_
          cases b69
          rotate_left
          · exfalso; first | (simp [ba_beq_self] at h69; done) | (simp at h69; omega)
          · try simp only [decide_eq_true_eq, decide_eq_false_iff_not, Bool.not_eq_true, Bool.not_eq_false, Bool.not_eq_true', Bool.not_eq_false', beq_iff_eq, bne_iff_ne, beq_eq_false_iff_ne, bne_eq_false_iff_eq, Int.not_lt, Int.not_le, ge_iff_le, gt_iff_lt] at h69
            refine AM_condF rfl ?_
            refine AM_skip ?_
            refine AM_seq ?_
            refine AM_seq ?_
            refine AM_region ?_
            refine AL_p (x_move rfl rfl) ?_
            refine AL_p (x_move rfl rfl) ?_
            refine AL_b (x_neq rfl rfl rfl) (fun b72 h72 => ?_)
            refine AL_nil ?_
            cases b72
            rotate_left
            · exfalso; first | (simp [ba_beq_self] at h72; done) | (simp at h72; omega)
            · try simp only [decide_eq_true_eq, decide_eq_false_iff_not, Bool.not_eq_true, Bool.not_eq_false, Bool.not_eq_true', Bool.not_eq_false', beq_iff_eq, bne_iff_ne, beq_eq_false_iff_ne, bne_eq_false_iff_eq, Int.not_lt, Int.not_le, ge_iff_le, gt_iff_lt] at h72
              refine AM_condF rfl ?_
              refine AM_skip ?_
              refine AM_seq ?_
              refine AM_region ?_
              refine AL_p (x_pload (f := msgC) (n := 10) rfl rfl (by kernel_rfl) rfl rfl) ?_
              refine AL_p (x_callR rfl rfl rfl ((AC.renum (res := .agg [.c (.int .i64 x0.kind), .c (.int .i64 x0.session), .c (.int .i64 x0.xid), .c (.int .i64 x0.epoch), .c (.int .i64 x0.prio), .own 116, .own 117, .own 118, .c (.bool x0.hand), .own 119]) (L := [(116, some (.arr 3 (intE .i64) x0.mat.v true)), (117, some (.arr 3 (intE .i64) x0.mat.m true)), (118, some (.arr 114 actE x0.acts true)), (119, some (.arr 3 (intE .i64) x0.head.v true))]) (r := rn [(116, 0), (117, 1), (118, 2), (119, 3)]) (toMsg_c x0 s0) ⟨⟨_, rfl, BLe.rf⟩, ⟨_, rfl, BLe.rf⟩, ⟨_, rfl, BLe.rf⟩, ⟨_, rfl, BLe.rf⟩, trivial⟩ rfl)) rfl AllV.rf rfl rfl rfl rfl rfl) ?_
              refine AL_p (x_callR rfl rfl rfl (msgBytesI_c x0 120) rfl AllV.rf rfl rfl rfl rfl rfl) ?_
              refine AL_p (x_move rfl rfl) ?_
              refine AL_p (x_extract rfl rfl rfl) ?_
              refine AL_p (x_extract rfl rfl rfl) ?_
              refine AL_p (x_assign rfl rfl) ?_
              refine AL_p (x_assign rfl rfl) ?_
              refine AL_nil ?_
              refine AM_seq ?_
              refine AM_seq ?_
              refine AM_region ?_
              refine AL_p (x_move rfl rfl) ?_
              refine AL_p (x_move rfl rfl) ?_
              refine AL_p (x_callR rfl rfl rfl (eqByteS_c ((msgBytes x0).1)) rfl AllV.rf rfl rfl rfl rfl rfl) ?_
              refine AL_p (x_not rfl rfl) ?_
              refine AL_p (x_move rfl rfl) ?_
              refine AL_g rfl rfl (x_move rfl rfl) ?_
              refine AL_g rfl rfl (x_move rfl rfl) ?_
              refine AL_gb rfl rfl (x_bneq rfl rfl rfl (by kernel_rfl)) (fun b86 h86 => ?_)
              refine AL_p (x_pickF rfl rfl rfl) ?_
              refine AL_nil ?_
              cases b86
              rotate_left
              · exfalso; first | (simp [ba_beq_self] at h86; done) | (simp at h86; omega)
              · try simp only [decide_eq_true_eq, decide_eq_false_iff_not, Bool.not_eq_true, Bool.not_eq_false, Bool.not_eq_true', Bool.not_eq_false', beq_iff_eq, bne_iff_ne, beq_eq_false_iff_ne, bne_eq_false_iff_eq, Int.not_lt, Int.not_le, ge_iff_le, gt_iff_lt] at h86
                refine AM_condF rfl ?_
                refine AM_skip ?_
                refine AM_seq ?_
                refine AM_region ?_
                refine AL_p (x_assign rfl rfl) ?_
                refine AL_nil ?_
                refine AM_seq ?_
                refine AM_region ?_
                refine AL_p (x_move rfl rfl) ?_
                refine AL_p (x_move rfl rfl) ?_
                refine AL_p (x_callR rfl rfl rfl (heldByteS_c ((msgBytes x0).1) _ (1) rfl (by omega) (by omega)) rfl AllV.rf rfl rfl rfl rfl rfl) ?_
                refine AL_p (x_assign rfl rfl) ?_
                refine AL_nil ?_
                refine AM_seq ?_
                refine AM_seq ?_
                refine AM_region ?_
                refine AL_p (x_move rfl rfl) ?_
                refine AL_b (x_lss rfl rfl rfl) (fun b92 h92 => ?_)
                refine AL_nil ?_
                cases b92
                rotate_left
                · exfalso; first | (simp [ba_beq_self] at h92; done) | (simp at h92; omega)
                · try simp only [decide_eq_true_eq, decide_eq_false_iff_not, Bool.not_eq_true, Bool.not_eq_false, Bool.not_eq_true', Bool.not_eq_false', beq_iff_eq, bne_iff_ne, beq_eq_false_iff_ne, bne_eq_false_iff_eq, Int.not_lt, Int.not_le, ge_iff_le, gt_iff_lt] at h92
                  refine AM_condF rfl ?_
                  refine AM_skip ?_
                  refine AM_seq ?_
                  refine AM_seq ?_
                  refine AM_region ?_
                  refine AL_p (x_move rfl rfl) ?_
                  refine AL_p (x_move rfl rfl) ?_
                  refine AL_b (x_neq rfl rfl rfl) (fun b95 h95 => ?_)
                  refine AL_nil ?_
                  cases b95
                  rotate_left
                  · exfalso; first | (simp [ba_beq_self] at h95; done) | (simp at h95; omega)
                  · try simp only [decide_eq_true_eq, decide_eq_false_iff_not, Bool.not_eq_true, Bool.not_eq_false, Bool.not_eq_true', Bool.not_eq_false', beq_iff_eq, bne_iff_ne, beq_eq_false_iff_ne, bne_eq_false_iff_eq, Int.not_lt, Int.not_le, ge_iff_le, gt_iff_lt] at h95
                    refine AM_condF rfl ?_
                    refine AM_skip ?_
                    refine AM_seq ?_
                    refine AM_region ?_
                    refine AL_p (x_assign rfl rfl) ?_
                    refine AL_nil ?_
                    refine AM_ret ?_
                    exact rfl
end Go.Proofs.Ytfdpigafekohgaa

/- Lemmas of the walks, part 6. -/
import Derived.Test.YtfdpigafekohgaaM5
/- Messages ars bytes (printed by walk.py) -/
namespace Go.Proofs.Ytfdpigafekohgaa
open Go.RowKit
set_option linter.unusedVariables false
set_option linter.unusedSimpArgs false
set_option maxRecDepth 100000

set_option maxHeartbeats 4000000 in
theorem putI_t (xs : List Int) (n : Int) (size : Nat) (h0 : 0 ≤ n) (h1 : n ≤ 9223372036854775807) (hs : size ≤ 6) (hl : xs.length ≤ 100000000) : AT Try.prog 76 [.one (.own 0), .one (.c (.int .i64 n)), .one (.c (.int .i64 (size : Int)))] [(0, some (.arr 5 (intE .u8) (xs) true))] (.one (.own 1)) [(1, some (.arr 5 (intE .u8) (xs ++ putB n size) true))] := by
  refine AT_body1 Try.func76 rfl rfl Try.ntmps76 rfl Try.results76 ?_
  refine AW_seq ?_
  refine AW_region ?_
  refine AL_p (x_assign rfl rfl) ?_
  refine AL_nil ?_
  refine AW_seq ?_
  refine AW_seq ?_
  refine AW_region ?_
  refine AL_p (x_move rfl rfl) ?_
  refine AL_p (x_sub rfl rfl rfl (IntWalk.i64_in _ (by omega))) ?_
  refine AL_p (x_assign rfl rfl) ?_
  refine AL_nil ?_
  refine AW_block ?_
  refine AW_loop2 (ι := {q : Nat // q ≤ size}) (fun p => [(0, .one (.own 0)), (7, .one (.c (.int .i64 (((p.1) : Int) - 1))))]) (fun p => [(0, some (.arr 5 (intE .u8) (xs ++ bpTo n size (p.1)) true))]) [1] [] (fun p => (p.1)) ⟨size, Nat.le_refl _⟩ (rn []) ?_ ?_
  exact ⟨by (repeat refine ⟨⟨_, rfl, by first | exact VLe.rf | exact vle_int (by dsimp only; omega)⟩, ?_⟩); exact trivial, by (repeat refine ⟨⟨_, rfl, by first | exact BLe.rf | exact BLe.box AllC.rf | exact BLe.arr (by first | (rw [bpTo_start, List.append_nil]; done) | (rw [List.append_assoc, hm]; done))⟩, ?_⟩); exact trivial, by repeat (first | exact trivial | refine ⟨⟨rfl, by first | (left; intro h; cases h) | (right; rfl), by first | exact (fun _ h => ⟨_, h⟩) | exact (fun _ _ => ⟨_, rfl⟩)⟩, ?_⟩), rfl⟩
  rintro ⟨j, hinv⟩
  dsimp only
  have hj := hinv
  refine AW_seq ?_
  refine AW_seq ?_
  refine AW_region ?_
  refine AL_p (x_move rfl rfl) ?_
  refine AL_b (x_geq rfl rfl rfl) (fun b11 h11 => ?_)
  refine AL_nil ?_
  cases b11
  · try simp only [tdy] at h11
    refine AW_condF rfl ?_
    refine AW_exit (BQ_hit ?_)
    refine AW_seq ?_
    refine AW_region ?_
    refine AL_p (x_move rfl rfl) ?_
    refine AL_p (x_assign rfl rfl) ?_
    refine AL_nil ?_
    refine AW_ret ?_
    exact ⟨rn [(1, 0)], ⟨⟨⟨_, rfl, VLe.rf⟩, trivial⟩, ⟨⟨_, rfl, BLe.arr (by unfold putB; rw [show j = 0 by omega])⟩, trivial⟩, trivial, rfl⟩⟩
  try simp only [tdy] at h11
  have hi : ((j : Int) - 1) = ((j - 1 : Nat) : Int) := by omega
  have hm : bpTo n size j ++ [n / 256 ^ (j - 1) % 256] = bpTo n size (j - 1) := by have hm := bpTo_more (n := n) (size := size) (j := j - 1) (by omega); rwa [show j - 1 + 1 = j by omega] at hm
  refine AW_condT rfl ?_
  refine AW_skip ?_
  refine AW_seq ?_
  refine AW_block ?_
  refine AW_region ?_
  refine AL_p (x_move rfl rfl) ?_
  refine AL_p (x_move rfl rfl) ?_
  refine AL_p (x_move rfl rfl) ?_
  refine AL_p (x_mul rfl rfl rfl (IntWalk.i64_in _ (by omega))) ?_
  refine AL_p (x_shr rfl rfl rfl (r := n / 256 ^ (j - 1)) (by omega) (by rw [hi]; exact shr8 h0 (by omega)) (wf64i (div256_in h0).1 (by have := (div256_in (m := n) (i := j - 1) h0).2; omega))) ?_
  refine AL_p (x_conv (k' := .u8) rfl rfl (by kernel_rfl) (r := n / 256 ^ (j - 1) % 256) rfl) ?_
  refine AL_p (y_bslice (E := 5) (e := (intE .u8)) [.tmp 19] ([n / 256 ^ (j - 1) % 256]) 100 rfl rfl rfl rfl rfl rfl rfl rfl FitL.rf rfl rfl rfl rfl rfl rfl (by kernel_rfl)) ?_
  refine AL_p (y_append 101 rfl rfl rfl rfl rfl rfl rfl rfl (by kernel_rfl) (by have := bpTo_len (n := n) (size := size) (j := j); simp only [List.length_append, List.length_cons, List.length_nil]; omega)) ?_
  refine AL_p (x_assign rfl rfl) ?_
  refine AL_nil ?_
  refine AW_region ?_
  refine AL_p (x_move rfl rfl) ?_
  refine AL_p (x_sub rfl rfl rfl (IntWalk.i64_in _ (by omega))) ?_
  refine AL_p (x_assign rfl rfl) ?_
  refine AL_nil ?_
  refine ⟨⟨j - 1, by omega⟩, rn [(0, 101)], ?_, by dsimp only; omega⟩
  exact ⟨by (repeat refine ⟨⟨_, rfl, by first | exact VLe.rf | exact vle_int (by dsimp only; omega)⟩, ?_⟩); exact trivial, by (repeat refine ⟨⟨_, rfl, by first | exact BLe.rf | exact BLe.box AllC.rf | exact BLe.arr (by first | (rw [bpTo_start, List.append_nil]; done) | (rw [List.append_assoc, hm]; done))⟩, ?_⟩); exact trivial, by repeat (first | exact trivial | refine ⟨⟨rfl, by first | (left; intro h; cases h) | (right; rfl), by first | exact (fun _ h => ⟨_, h⟩) | exact (fun _ _ => ⟨_, rfl⟩)⟩, ?_⟩), rfl⟩

set_option maxHeartbeats 4000000 in
theorem powN_c (n : Nat) (h1 : n ≤ 6) : AC Try.prog 147 [.one (.c (.int .i64 (n : Int)))] [] (.one (.c (.int .i64 ((256 : Int) ^ n)))) [] := by
  refine AC_body1 Try.func147 rfl rfl Try.ntmps147 rfl Try.results147 ?_
  refine AW_seq ?_
  refine AW_region ?_
  refine AL_p (x_assign rfl rfl) ?_
  refine AL_nil ?_
  refine AW_seq ?_
  refine AW_region ?_
  refine AL_p (x_assign rfl rfl) ?_
  refine AL_nil ?_
  refine AW_seq ?_
  refine AW_seq ?_
  refine AW_region ?_
  refine AL_p (x_assign rfl rfl) ?_
  refine AL_nil ?_
  refine AW_block ?_
  refine AW_loop2 (ι := {q : Nat // q ≤ n}) (fun p => [(3, .one (.c (.int .i64 ((256 : Int) ^ (p.1))))), (4, .one (.c (.int .i64 ((p.1) : Int))))]) (fun p => []) [0] [] (fun p => n - (p.1)) ⟨0, by omega⟩ (rn []) ?_ ?_
  exact ⟨by (repeat refine ⟨⟨_, rfl, by first | exact VLe.rf | exact vle_int (by dsimp only; omega)⟩, ?_⟩); exact trivial, by (repeat refine ⟨⟨_, rfl, by first | exact BLe.rf | exact BLe.box AllC.rf | exact BLe.arr (by exact rfl)⟩, ?_⟩); exact trivial, by repeat (first | exact trivial | refine ⟨⟨rfl, by first | (left; intro h; cases h) | (right; rfl), by first | exact (fun _ h => ⟨_, h⟩) | exact (fun _ _ => ⟨_, rfl⟩)⟩, ?_⟩), rfl⟩
  rintro ⟨k, hinv⟩
  dsimp only
  have hp := p256_in (k := k) (by omega)
  have hs := Int.pow_succ (256 : Int) k
  refine AW_seq ?_
  refine AW_seq ?_
  refine AW_region ?_
  refine AL_p (x_move rfl rfl) ?_
  refine AL_p (x_move rfl rfl) ?_
  refine AL_b (x_lss rfl rfl rfl) (fun b7 h7 => ?_)
  refine AL_nil ?_
  cases b7
  · try simp only [tdy] at h7
    refine AW_condF rfl ?_
    refine AW_exit (BQ_hit ?_)
    refine AW_seq ?_
    refine AW_region ?_
    refine AL_p (x_move rfl rfl) ?_
    refine AL_p (x_assign rfl rfl) ?_
    refine AL_nil ?_
    refine AW_ret ?_
    exact ⟨rn [], ⟨⟨⟨_, rfl, vle_int (by rw [show n = k by omega])⟩, trivial⟩, trivial, trivial, rfl⟩⟩
  try simp only [tdy] at h7
  refine AW_condT rfl ?_
  refine AW_skip ?_
  refine AW_seq ?_
  refine AW_block ?_
  refine AW_region ?_
  refine AL_p (x_move rfl rfl) ?_
  refine AL_p (x_mul rfl rfl rfl (IntWalk.i64_in _ (by omega))) ?_
  refine AL_p (x_assign rfl rfl) ?_
  refine AL_nil ?_
  refine AW_region ?_
  refine AL_p (x_move rfl rfl) ?_
  refine AL_p (x_add rfl rfl rfl (IntWalk.i64_in _ (by omega))) ?_
  refine AL_p (x_assign rfl rfl) ?_
  refine AL_nil ?_
  refine ⟨⟨k + 1, by omega⟩, rn [], ?_, by dsimp only; omega⟩
  exact ⟨by (repeat refine ⟨⟨_, rfl, by first | exact VLe.rf | exact vle_int (by dsimp only; omega)⟩, ?_⟩); exact trivial, by (repeat refine ⟨⟨_, rfl, by first | exact BLe.rf | exact BLe.box AllC.rf | exact BLe.arr (by exact rfl)⟩, ?_⟩); exact trivial, by repeat (first | exact trivial | refine ⟨⟨rfl, by first | (left; intro h; cases h) | (right; rfl), by first | exact (fun _ h => ⟨_, h⟩) | exact (fun _ _ => ⟨_, rfl⟩)⟩, ?_⟩), rfl⟩

set_option maxHeartbeats 4000000 in
theorem numT_c (n : Int) (size : Nat) (h0 : 0 ≤ n) (h1 : n < (256 : Int) ^ size) (h2 : 1 ≤ size) (h3 : size ≤ 6) : AC Try.prog 129 [.one (.c (.int .i64 n)), .one (.c (.int .i64 (size : Int)))] [] (.one (.c (.bool true))) [] := by
  refine AC_body1 Try.func129 rfl rfl Try.ntmps129 rfl Try.results129 ?_
  refine AW_seq ?_
  refine AW_region ?_
  refine AL_p (x_assign rfl rfl) ?_
  refine AL_nil ?_
  refine AW_seq ?_
  refine AW_region ?_
  refine AL_p (x_move rfl rfl) ?_
  refine AL_b (x_geq rfl rfl rfl) (fun b6 h6 => ?_)
  refine AL_p (x_move rfl rfl) ?_
  cases b6
  · try simp only [tdy] at h6
    refine AL_o rfl rfl rfl rfl ?_
    refine AL_o rfl rfl rfl rfl ?_
    refine AL_p (x_pickF rfl rfl rfl) ?_
    refine AL_p (x_move rfl rfl) ?_
    refine AL_o rfl rfl rfl rfl ?_
    refine AL_o rfl rfl rfl rfl ?_
    refine AL_p (x_pickF rfl rfl rfl) ?_
    refine AL_p (x_move rfl rfl) ?_
    refine AL_o rfl rfl rfl rfl ?_
    refine AL_o rfl rfl rfl rfl ?_
    refine AL_o rfl rfl rfl rfl ?_
    refine AL_o rfl rfl rfl rfl ?_
    refine AL_p (x_pickF rfl rfl rfl) ?_
    refine AL_p (x_assign rfl rfl) ?_
    refine AL_nil ?_
    refine AW_ret ?_
    exact ⟨rn [], ⟨⟨⟨_, rfl, vle_bool (by first | rfl | (exfalso; omega))⟩, trivial⟩, trivial, trivial, rfl⟩⟩
  try simp only [tdy] at h6
  refine AL_g rfl rfl (x_move rfl rfl) ?_
  refine AL_gb rfl rfl (x_leq rfl rfl rfl) (fun b9 h9 => ?_)
  refine AL_p (x_pickT rfl rfl rfl) ?_
  refine AL_p (x_move rfl rfl) ?_
  cases b9
  · try simp only [tdy] at h9
    refine AL_o rfl rfl rfl rfl ?_
    refine AL_o rfl rfl rfl rfl ?_
    refine AL_p (x_pickF rfl rfl rfl) ?_
    refine AL_p (x_move rfl rfl) ?_
    refine AL_o rfl rfl rfl rfl ?_
    refine AL_o rfl rfl rfl rfl ?_
    refine AL_o rfl rfl rfl rfl ?_
    refine AL_o rfl rfl rfl rfl ?_
    refine AL_p (x_pickF rfl rfl rfl) ?_
    refine AL_p (x_assign rfl rfl) ?_
    refine AL_nil ?_
    refine AW_ret ?_
    exact ⟨rn [], ⟨⟨⟨_, rfl, vle_bool (by first | rfl | (exfalso; omega))⟩, trivial⟩, trivial, trivial, rfl⟩⟩
  try simp only [tdy] at h9
  refine AL_g rfl rfl (x_move rfl rfl) ?_
  refine AL_gb rfl rfl (x_geq rfl rfl rfl) (fun b13 h13 => ?_)
  refine AL_p (x_pickT rfl rfl rfl) ?_
  refine AL_p (x_move rfl rfl) ?_
  cases b13
  · try simp only [tdy] at h13
    refine AL_o rfl rfl rfl rfl ?_
    refine AL_o rfl rfl rfl rfl ?_
    refine AL_o rfl rfl rfl rfl ?_
    refine AL_o rfl rfl rfl rfl ?_
    refine AL_p (x_pickF rfl rfl rfl) ?_
    refine AL_p (x_assign rfl rfl) ?_
    refine AL_nil ?_
    refine AW_ret ?_
    exact ⟨rn [], ⟨⟨⟨_, rfl, vle_bool (by first | rfl | (exfalso; omega))⟩, trivial⟩, trivial, trivial, rfl⟩⟩
  try simp only [tdy] at h13
  refine AL_g rfl rfl (x_move rfl rfl) ?_
  refine AL_g rfl rfl (x_move rfl rfl) ?_
  refine AL_g rfl rfl (x_call0 rfl rfl rfl (powN_c size h3) rfl rfl) ?_
  refine AL_gb rfl rfl (x_lss rfl rfl rfl) (fun b19 h19 => ?_)
  refine AL_p (x_pickT rfl rfl rfl) ?_
  refine AL_p (x_assign rfl rfl) ?_
  refine AL_nil ?_
  refine AW_ret ?_
  cases b19
  rotate_left
  · try simp only [tdy] at h19
    exact ⟨rn [], ⟨⟨⟨_, rfl, vle_bool (by first | rfl | (exfalso; omega))⟩, trivial⟩, trivial, trivial, rfl⟩⟩
  try simp only [tdy] at h19
  exact ⟨rn [], ⟨⟨⟨_, rfl, vle_bool (by first | rfl | (exfalso; omega))⟩, trivial⟩, trivial, trivial, rfl⟩⟩

set_option maxHeartbeats 4000000 in
theorem putNumS_c0 (xs : List Int) (n : Int) (size : Nat) (h0 : 0 ≤ n) (h1 : n < (256 : Int) ^ size) (h2 : 1 ≤ size) (h3 : size ≤ 6) (hl : xs.length ≤ 1000) : AC Try.prog 75 [.one (.sl (intE .u8) xs), .one (.c (.int .i64 n)), .one (.c (.int .i64 (size : Int)))] [] (.tup [.one (.own 0), .one (.c (.bool true))]) [(0, some (.arr 5 (intE .u8) (xs ++ putB n size) true))] := by
  have hp6 := p256_in h3
  refine AC_body2 Try.func75 rfl rfl Try.ntmps75 rfl Try.results75 rfl rfl rfl ?_
  refine AW_seq ?_
  refine AW_region ?_
  refine AL_p (x_assign rfl rfl) ?_
  refine AL_p (x_assign rfl rfl) ?_
  refine AL_nil ?_
  refine AW_seq ?_
  refine AW_seq ?_
  refine AW_region ?_
  refine AL_p (x_move rfl rfl) ?_
  refine AL_p (x_move rfl rfl) ?_
  refine AL_p (x_call0 rfl rfl rfl (numT_c n size h0 h1 h2 h3) rfl rfl) ?_
  refine AL_p (x_not rfl rfl) ?_
  refine AL_p (x_move rfl rfl) ?_
  refine AL_g rfl rfl (x_move rfl rfl) ?_
  refine AL_g rfl rfl (x_len (E := 5) (n := 1) rfl rfl (by kernel_rfl)) ?_
  refine AL_g rfl rfl (x_move rfl rfl) ?_
  refine AL_g rfl rfl (x_sub rfl rfl rfl (IntWalk.i64_in _ (by omega))) ?_
  refine AL_gb rfl rfl (x_gtr rfl rfl rfl) (fun b21 h21 => ?_)
  refine AL_p (x_pickF rfl rfl rfl) ?_
  refine AL_nil ?_
  cases b21
  rotate_left
  · exfalso; simp at h21; omega
  try simp only [tdy] at h21
  refine AW_condF rfl ?_
  refine AW_skip ?_
  refine AW_seq ?_
  refine AW_region ?_
  refine AL_p (y_bslice0 (E := 5) (e := (intE .u8)) 100 rfl rfl rfl (by kernel_rfl)) ?_
  refine AL_p (x_move rfl rfl) ?_
  refine AL_p (y_append_sl 101 true (.inr intE_nofp) rfl rfl rfl rfl rfl rfl (by kernel_rfl) (by (try simp only [List.length_cons, List.length_nil]); omega)) ?_
  refine AL_p (x_assign rfl rfl) ?_
  refine AL_nil ?_
  refine AW_seq ?_
  refine AW_seq ?_
  refine AW_region ?_
  refine AL_p (x_move rfl rfl) ?_
  refine AL_p (x_sub rfl rfl rfl (IntWalk.i64_in _ (by omega))) ?_
  refine AL_p (x_assign rfl rfl) ?_
  refine AL_nil ?_
  refine AW_block ?_
  refine AW_loop2 (ι := {q : Nat // q ≤ size}) (fun p => [(8, .one (.own 101)), (9, .one (.c (.int .i64 (((p.1) : Int) - 1))))]) (fun p => [(101, some (.arr 5 (intE .u8) (xs ++ bpTo n size (p.1)) true))]) [1] [] (fun p => (p.1)) ⟨size, Nat.le_refl _⟩ (rn []) ?_ ?_
  exact ⟨by (repeat refine ⟨⟨_, rfl, by first | exact VLe.rf | exact vle_int (by dsimp only; omega)⟩, ?_⟩); exact trivial, by (repeat refine ⟨⟨_, rfl, by first | exact BLe.rf | exact BLe.box AllC.rf | exact BLe.arr (by first | (rw [bpTo_start, List.append_nil, List.nil_append]; done) | (rw [bpTo_start, List.append_nil]; done) | exact (by rw [bpTo_start, List.append_nil]; rfl) | (rw [List.append_assoc, hm]; done))⟩, ?_⟩); exact trivial, by repeat (first | exact trivial | refine ⟨⟨rfl, by first | (left; intro h; cases h) | (right; rfl), by first | exact (fun _ h => ⟨_, h⟩) | exact (fun _ _ => ⟨_, rfl⟩)⟩, ?_⟩), rfl⟩
  rintro ⟨j, hinv⟩
  dsimp only
  have hj := hinv
  refine AW_seq ?_
  refine AW_seq ?_
  refine AW_region ?_
  refine AL_p (x_move rfl rfl) ?_
  refine AL_b (x_geq rfl rfl rfl) (fun b29 h29 => ?_)
  refine AL_nil ?_
  cases b29
  · try simp only [tdy] at h29
    refine AW_condF rfl ?_
    refine AW_exit (BQ_hit ?_)
    refine AW_seq ?_
    refine AW_region ?_
    refine AL_p (x_move rfl rfl) ?_
    refine AL_p (x_assign rfl rfl) ?_
    refine AL_p (x_assign rfl rfl) ?_
    refine AL_nil ?_
    refine AW_ret ?_
    exact ⟨rn [(0, 101)], ⟨⟨⟨_, rfl, VLe.rf⟩, ⟨_, rfl, VLe.rf⟩, trivial⟩, ⟨⟨_, rfl, BLe.arr (by unfold putB; rw [show j = 0 by omega])⟩, trivial⟩, trivial, rfl⟩⟩
  try simp only [tdy] at h29
  have hm : bpTo n size j ++ [n / 256 ^ (j - 1) % 256] = bpTo n size (j - 1) := by have hm := bpTo_more (n := n) (size := size) (j := j - 1) (by omega); rwa [show j - 1 + 1 = j by omega] at hm
  refine AW_condT rfl ?_
  refine AW_skip ?_
  refine AW_seq ?_
  refine AW_block ?_
  refine AW_seq ?_
  refine AW_region ?_
  refine AL_p (x_move rfl rfl) ?_
  refine AL_p (x_assign rfl rfl) ?_
  refine AL_nil ?_
  refine AW_seq ?_
  refine AW_seq ?_
  refine AW_region ?_
  refine AL_p (x_assign rfl rfl) ?_
  refine AL_nil ?_
  refine AW_block ?_
  refine AW_loop2 (ι := {q : Nat // q ≤ j - 1}) (fun p => [(10, .one (.c (.int .i64 (n / 256 ^ (p.1))))), (11, .one (.c (.int .i64 ((p.1) : Int))))]) (fun p => []) [1, 8, 9] [101] (fun p => j - 1 - (p.1)) ⟨0, by omega⟩ (rn []) ?_ ?_
  exact ⟨by (repeat refine ⟨⟨_, rfl, by first | exact VLe.rf | exact vle_int (by dsimp only; omega)⟩, ?_⟩); exact trivial, by (repeat refine ⟨⟨_, rfl, by first | exact BLe.rf | exact BLe.box AllC.rf | exact BLe.arr (by exact rfl)⟩, ?_⟩); exact trivial, by repeat (first | exact trivial | refine ⟨⟨rfl, by first | (left; intro h; cases h) | (right; rfl), by first | exact (fun _ h => ⟨_, h⟩) | exact (fun _ _ => ⟨_, rfl⟩)⟩, ?_⟩), rfl⟩
  rintro ⟨m, hinv⟩
  dsimp only
  have hm2 := hinv
  refine AW_seq ?_
  refine AW_seq ?_
  refine AW_region ?_
  refine AL_p (x_move rfl rfl) ?_
  refine AL_p (x_move rfl rfl) ?_
  refine AL_b (x_lss rfl rfl rfl) (fun b35 h35 => ?_)
  refine AL_nil ?_
  cases b35
  rotate_left
  · try simp only [tdy] at h35
    refine AW_condT rfl ?_
    refine AW_skip ?_
    refine AW_seq ?_
    refine AW_block ?_
    refine AW_region ?_
    refine AL_p (x_move rfl rfl) ?_
    refine AL_p (x_quo rfl rfl rfl (r := n / 256 ^ (m + 1)) (by omega) (quo256 h0 (by omega))) ?_
    refine AL_p (x_assign rfl rfl) ?_
    refine AL_nil ?_
    refine AW_region ?_
    refine AL_p (x_move rfl rfl) ?_
    refine AL_p (x_add rfl rfl rfl (IntWalk.i64_in _ (by omega))) ?_
    refine AL_p (x_assign rfl rfl) ?_
    refine AL_nil ?_
    refine ⟨⟨m + 1, by omega⟩, rn [], ?_, by dsimp only; omega⟩
    exact ⟨by (repeat refine ⟨⟨_, rfl, by first | exact VLe.rf | exact vle_int (by dsimp only; omega)⟩, ?_⟩); exact trivial, by (repeat refine ⟨⟨_, rfl, by first | exact BLe.rf | exact BLe.box AllC.rf | exact BLe.arr (by exact rfl)⟩, ?_⟩); exact trivial, by repeat (first | exact trivial | refine ⟨⟨rfl, by first | (left; intro h; cases h) | (right; rfl), by first | exact (fun _ h => ⟨_, h⟩) | exact (fun _ _ => ⟨_, rfl⟩)⟩, ?_⟩), rfl⟩
  try simp only [tdy] at h35
  refine AW_condF rfl ?_
  refine AW_exit (BQ_hit ?_)
  refine AW_region ?_
  refine AL_p (x_move rfl rfl) ?_
  refine AL_p (x_move rfl rfl) ?_
  refine AL_p (x_rem rfl rfl rfl (r := n / 256 ^ (j - 1) % 256) (by omega) (by rw [show j - 1 = m by omega]; exact rem256 h0) (wf64i (mod256_in _).1 (by have := mod256_in (n / 256 ^ (j - 1)); omega))) ?_
  refine AL_p (x_conv (k' := .u8) rfl rfl (by kernel_rfl) (wrap8_id (mod256_in _).1 (mod256_in _).2)) ?_
  refine AL_p (y_bslice (E := 5) (e := (intE .u8)) [.tmp 43] ([n / 256 ^ (j - 1) % 256]) 102 rfl rfl rfl rfl rfl rfl rfl rfl FitL.rf rfl rfl rfl rfl rfl rfl (by kernel_rfl)) ?_
  refine AL_p (y_append 103 rfl rfl rfl rfl rfl rfl rfl rfl (by kernel_rfl) (by have := bpTo_len (n := n) (size := size) (j := j); simp only [List.length_append, List.length_cons, List.length_nil]; omega)) ?_
  refine AL_p (x_assign rfl rfl) ?_
  refine AL_nil ?_
  refine AW_region ?_
  refine AL_p (x_move rfl rfl) ?_
  refine AL_p (x_sub rfl rfl rfl (IntWalk.i64_in _ (by omega))) ?_
  refine AL_p (x_assign rfl rfl) ?_
  refine AL_nil ?_
  refine ⟨⟨j - 1, by omega⟩, rn [(101, 103)], ?_, by dsimp only; omega⟩
  exact ⟨by (repeat refine ⟨⟨_, rfl, by first | exact VLe.rf | exact vle_int (by dsimp only; omega)⟩, ?_⟩); exact trivial, by (repeat refine ⟨⟨_, rfl, by first | exact BLe.rf | exact BLe.box AllC.rf | exact BLe.arr (by first | (rw [bpTo_start, List.append_nil, List.nil_append]; done) | (rw [bpTo_start, List.append_nil]; done) | exact (by rw [bpTo_start, List.append_nil]; rfl) | (rw [List.append_assoc, hm]; done))⟩, ?_⟩); exact trivial, by repeat (first | exact trivial | refine ⟨⟨rfl, by first | (left; intro h; cases h) | (right; rfl), by first | exact (fun _ h => ⟨_, h⟩) | exact (fun _ _ => ⟨_, rfl⟩)⟩, ?_⟩), rfl⟩
theorem putNumS_c (xs : List Int) (n : Int) (size : Nat) (h0 : 0 ≤ n) (h1 : n < (256 : Int) ^ size) (h2 : 1 ≤ size) (h3 : size ≤ 6) (hl : xs.length ≤ 1000) (k : Nat) : AC Try.prog 75 [.one (.sl (intE .u8) xs), .one (.c (.int .i64 n)), .one (.c (.int .i64 (size : Int)))] [] (.tup [.one (.own k), .one (.c (.bool true))]) [(k, some (.arr 5 (intE .u8) (xs ++ putB n size) true))] := AC.at (putNumS_c0 xs n size h0 h1 h2 h3 hl) k

set_option maxHeartbeats 4000000 in
theorem bodyS_c0 (m : Msgt) (hok : msgB m = true) : AC Try.prog 74 [.agg (msgC m)] [] (.one (.own 0)) [(0, some (.arr 5 (intE .u8) (bodyB m) true))] := by
  obtain ⟨hr, hA, hF, hN⟩ := msgB_in hok
  have hE := msgB_ep hok
  refine AC_body1 Try.func74 rfl rfl Try.ntmps74 rfl Try.results74 ?_
  refine AW_aggint 0 5 rfl rfl (fun hi0_5 => ?_)
  refine AW_aggmax 0 5 rfl rfl (fun hm0_5 => ?_)
  refine AW_aggmax 0 6 rfl rfl (fun hm0_6 => ?_)
  refine AW_aggmax 0 7 rfl rfl (fun hm0_7 => ?_)
  refine AW_aggmax 0 9 rfl rfl (fun hm0_9 => ?_)
  refine AW_seq ?_
  refine AW_region ?_
  refine AL_p (x_box 100 rfl rfl rfl rfl rfl rfl rfl) ?_
  refine AL_p (x_assign rfl rfl) ?_
  refine AL_nil ?_
  refine AW_seq ?_
  refine AW_region ?_
  refine AL_p (y_bslice0 (E := 5) (e := (intE .u8)) 101 rfl rfl rfl (by kernel_rfl)) ?_
  refine AL_p (x_assign rfl rfl) ?_
  refine AL_nil ?_
  refine AW_seq ?_
  refine AW_seq ?_
  refine AW_region ?_
  refine AL_p (x_field (off := 0) (o' := 0) rfl rfl rfl (by kernel_rfl) rfl) ?_
  refine AL_p (x_load1 rfl rfl rfl (by kernel_rfl) rfl) ?_
  refine AL_b (x_eql rfl rfl rfl) (fun b11 h11 => ?_)
  refine AL_p (x_move rfl rfl) ?_
  cases b11
  rotate_left
  · try simp only [tdy] at h11
    refine AL_o rfl rfl rfl rfl ?_
    refine AL_o rfl rfl rfl rfl ?_
    refine AL_o rfl rfl rfl rfl ?_
    refine AL_p (x_pickT rfl rfl rfl) ?_
    refine AL_nil ?_
    refine AW_condT rfl ?_
    refine AW_region ?_
    refine AL_p (x_move rfl rfl) ?_
    refine AL_p (x_field (off := 3) (o' := 3) rfl rfl rfl (by kernel_rfl) rfl) ?_
    refine AL_p (x_load1 rfl rfl rfl (by kernel_rfl) rfl) ?_
    refine AL_p (x_callR rfl rfl rfl (putNumS_c _ m.epoch 4 (by omega) (by have e : (256 : Int) ^ 4 = 4294967296 := rfl; omega) (by omega) (by omega) (by (try simp only [List.length_append, List.length_cons, List.length_nil, putB_len, pairTo_len]); omega) 102) rfl AllV.rf rfl rfl rfl rfl rfl) ?_
    refine AL_p (x_move rfl rfl) ?_
    refine AL_p (x_extract rfl rfl rfl) ?_
    refine AL_p (x_extract rfl rfl rfl) ?_
    refine AL_p (x_assign rfl rfl) ?_
    refine AL_nil ?_
    refine AW_seq ?_
    refine AW_seq ?_
    refine AW_region ?_
    refine AL_p (x_field (off := 0) (o' := 0) rfl rfl rfl (by kernel_rfl) rfl) ?_
    refine AL_p (x_load1 rfl rfl rfl (by kernel_rfl) rfl) ?_
    refine AL_b (x_eql rfl rfl rfl) (fun b26 h26 => ?_)
    refine AL_nil ?_
    cases b26
    · try simp only [tdy] at h26
      refine AW_condF rfl ?_
      refine AW_skip ?_
      refine AW_seq ?_
      refine AW_seq ?_
      refine AW_region ?_
      refine AL_p (x_field (off := 0) (o' := 0) rfl rfl rfl (by kernel_rfl) rfl) ?_
      refine AL_p (x_load1 rfl rfl rfl (by kernel_rfl) rfl) ?_
      refine AL_b (x_eql rfl rfl rfl) (fun b99 h99 => ?_)
      refine AL_nil ?_
      cases b99
      · try simp only [tdy] at h99
        refine AW_condF rfl ?_
        refine AW_skip ?_
        refine AW_seq ?_
        refine AW_region ?_
        refine AL_p (x_move rfl rfl) ?_
        refine AL_p (x_assign rfl rfl) ?_
        refine AL_nil ?_
        refine AW_ret ?_
        exact ⟨rn [(0, 102)], ⟨⟨⟨_, rfl, VLe.rf⟩, trivial⟩, ⟨⟨_, rfl, BLe.arr (by first | (rw [bodyB_add (by omega)]; simp only [flatTo_all (f := actBytes) (xs := m.acts) (k := j) (by omega), List.append_assoc, List.nil_append]; done) | (rw [bodyB_flip (by omega)]; done) | (rw [bodyB_flip (by omega)]; simp only [List.append_assoc, List.nil_append]; done) | (rw [bodyB_note (by omega)]; simp only [headBy, flatTo_all (f := fun n => putB n 6) (xs := m.head.v) (k := i) (by omega), List.append_assoc, List.nil_append]; done) | (rw [bodyB_note (by omega), flatTo_all (f := fun n => putB n 6) (xs := m.head.v) (k := i) (by omega)]; simp [headBy, handB, *]; done) | (rw [bodyB_none (by omega) (by omega) (by omega)]; done) | (rw [bodyB_none (by omega) (by omega) (by omega)]; simp only [List.append_nil]; done) | (exfalso; omega))⟩, trivial⟩, trivial, rfl⟩⟩
      try simp only [tdy] at h99
      have hN2 := hN (by omega)
      have hN8 := eight_8 hN2
      have hhf := head_len (l := m.head.v)
      refine AW_condT rfl ?_
      refine AW_seq ?_
      refine AW_seq ?_
      refine AW_region ?_
      refine AL_p (x_field (off := 8) (o' := 8) rfl rfl rfl (by kernel_rfl) rfl) ?_
      refine AL_b (x_load1 rfl rfl rfl (by kernel_rfl) rfl) (fun b101 h101 => ?_)
      refine AL_nil ?_
      cases b101
      rotate_left
      · try simp only [tdy] at h101
        refine AW_condT rfl ?_
        refine AW_region ?_
        refine AL_p (x_move rfl rfl) ?_
        refine AL_p (y_bslice (E := 5) (e := (intE .u8)) [.const (.int .u8 (1))] ([1]) 111 rfl rfl rfl rfl rfl rfl rfl rfl FitL.rf rfl rfl rfl rfl rfl rfl (by kernel_rfl)) ?_
        refine AL_p (y_append 112 rfl rfl rfl rfl rfl rfl rfl rfl (by kernel_rfl) (by (try simp only [List.length_append, List.length_cons, List.length_nil, putB_len, pairTo_len]); omega)) ?_
        refine AL_p (x_assign rfl rfl) ?_
        refine AL_nil ?_
        refine AW_seq ?_
        refine AW_region ?_
        refine AL_p (x_assign rfl rfl) ?_
        refine AL_nil ?_
        refine AW_block ?_
        refine AW_loop2 (ι := {q : Nat // q ≤ m.head.v.length}) (fun p => [(3, .one (.own 112)), (7, .one (.c (.int .i64 ((p.1) : Int))))]) (fun p => [(112, some (.arr 5 (intE .u8) ([handB m.hand] ++ flatTo (fun n => putB n 6) m.head.v (p.1)) true))]) [1] [100, 101] (fun p => m.head.v.length - (p.1)) ⟨0, by omega⟩ (rn []) ?_ ?_
        exact ⟨by (repeat refine ⟨⟨_, rfl, by first | exact VLe.rf | exact vle_int (by dsimp only; omega)⟩, ?_⟩); exact trivial, by (repeat refine ⟨⟨_, rfl, by first | exact BLe.rf | exact BLe.box AllC.rf | exact BLe.arr (by first | (rw [flatTo_zero, List.append_nil]; simp [handB, *]; done) | (rw [← flatTo_more (f := fun n => putB n 6) (k := i) (by omega)]; simp only [List.append_assoc]; done) | (exfalso; omega))⟩, ?_⟩); exact trivial, by repeat (first | exact trivial | refine ⟨⟨rfl, by first | (left; intro h; cases h) | (right; rfl), by first | exact (fun _ h => ⟨_, h⟩) | exact (fun _ _ => ⟨_, rfl⟩)⟩, ?_⟩), rfl⟩
        rintro ⟨i, hinv⟩
        dsimp only
        have hi := hinv
        refine AW_seq ?_
        refine AW_seq ?_
        refine AW_region ?_
        refine AL_p (x_move rfl rfl) ?_
        refine AL_b (x_lss rfl rfl rfl) (fun b109 h109 => ?_)
        refine AL_nil ?_
        cases b109
        · try simp only [tdy] at h109
          refine AW_condF rfl ?_
          refine AW_exit (BQ_hit ?_)
          refine AW_seq ?_
          refine AW_region ?_
          refine AL_p (x_move rfl rfl) ?_
          refine AL_p (x_assign rfl rfl) ?_
          refine AL_nil ?_
          refine AW_ret ?_
          exact ⟨rn [(0, 112)], ⟨⟨⟨_, rfl, VLe.rf⟩, trivial⟩, ⟨⟨_, rfl, BLe.arr (by first | (rw [bodyB_add (by omega)]; simp only [flatTo_all (f := actBytes) (xs := m.acts) (k := j) (by omega), List.append_assoc, List.nil_append]; done) | (rw [bodyB_flip (by omega)]; done) | (rw [bodyB_flip (by omega)]; simp only [List.append_assoc, List.nil_append]; done) | (rw [bodyB_note (by omega)]; simp only [headBy, flatTo_all (f := fun n => putB n 6) (xs := m.head.v) (k := i) (by omega), List.append_assoc, List.nil_append]; done) | (rw [bodyB_note (by omega), flatTo_all (f := fun n => putB n 6) (xs := m.head.v) (k := i) (by omega)]; simp [headBy, handB, *]; done) | (rw [bodyB_none (by omega) (by omega) (by omega)]; done) | (rw [bodyB_none (by omega) (by omega) (by omega)]; simp only [List.append_nil]; done) | (exfalso; omega))⟩, trivial⟩, trivial, rfl⟩⟩
        try simp only [tdy] at h109
        have hf8 := fits48 (eight_get hN2 (k := i) (by omega))
        have hhi := hhf i
        refine AW_condT rfl ?_
        refine AW_skip ?_
        refine AW_seq ?_
        refine AW_block ?_
        refine AW_region ?_
        refine AL_p (x_move rfl rfl) ?_
        refine AL_p (x_field (off := 9) (o' := 9) rfl rfl rfl (by kernel_rfl) rfl) ?_
        refine AL_p (x_field (off := 0) (o' := 9) rfl rfl rfl (by kernel_rfl) rfl) ?_
        refine AL_p (x_load1 rfl rfl rfl (by kernel_rfl) rfl) ?_
        refine AL_p (x_move rfl rfl) ?_
        refine AL_p (x_index (E := 3) (n := 1) rfl rfl rfl (by kernel_rfl) rfl (k := i) (by omega) (by omega)) ?_
        refine AL_p (x_eload1 rfl rfl (by kernel_rfl) rfl) ?_
        refine AL_p (x_callR rfl rfl rfl (putNumS_c _ (m.head.v[i]'(by omega)) 6 (by omega) (by have e : (256 : Int) ^ 6 = 281474976710656 := rfl; omega) (by omega) (by omega) (by (try simp only [List.length_append, List.length_cons, List.length_nil, putB_len, pairTo_len]); omega) 113) rfl AllV.rf rfl rfl rfl rfl rfl) ?_
        refine AL_p (x_move rfl rfl) ?_
        refine AL_p (x_extract rfl rfl rfl) ?_
        refine AL_p (x_extract rfl rfl rfl) ?_
        refine AL_p (x_assign rfl rfl) ?_
        refine AL_nil ?_
        refine AW_region ?_
        refine AL_p (x_move rfl rfl) ?_
        refine AL_p (x_add rfl rfl rfl (IntWalk.i64_in _ (by omega))) ?_
        refine AL_p (x_assign rfl rfl) ?_
        refine AL_nil ?_
        refine ⟨⟨i + 1, by omega⟩, rn [(112, 113)], ?_, by dsimp only; omega⟩
        exact ⟨by (repeat refine ⟨⟨_, rfl, by first | exact VLe.rf | exact vle_int (by dsimp only; omega)⟩, ?_⟩); exact trivial, by (repeat refine ⟨⟨_, rfl, by first | exact BLe.rf | exact BLe.box AllC.rf | exact BLe.arr (by first | (rw [flatTo_zero, List.append_nil]; simp [handB, *]; done) | (rw [← flatTo_more (f := fun n => putB n 6) (k := i) (by omega)]; simp only [List.append_assoc]; done) | (exfalso; omega))⟩, ?_⟩); exact trivial, by repeat (first | exact trivial | refine ⟨⟨rfl, by first | (left; intro h; cases h) | (right; rfl), by first | exact (fun _ h => ⟨_, h⟩) | exact (fun _ _ => ⟨_, rfl⟩)⟩, ?_⟩), rfl⟩
      try simp only [tdy] at h101
      refine AW_condF rfl ?_
      refine AW_region ?_
      refine AL_p (x_move rfl rfl) ?_
      refine AL_p (y_bslice (E := 5) (e := (intE .u8)) [.const (.int .u8 (0))] ([0]) 114 rfl rfl rfl rfl rfl rfl rfl rfl FitL.rf rfl rfl rfl rfl rfl rfl (by kernel_rfl)) ?_
      refine AL_p (y_append 115 rfl rfl rfl rfl rfl rfl rfl rfl (by kernel_rfl) (by (try simp only [List.length_append, List.length_cons, List.length_nil, putB_len, pairTo_len]); omega)) ?_
      refine AL_p (x_assign rfl rfl) ?_
      refine AL_nil ?_
      refine AW_seq ?_
      refine AW_region ?_
      refine AL_p (x_assign rfl rfl) ?_
      refine AL_nil ?_
      refine AW_block ?_
      refine AW_loop2 (ι := {q : Nat // q ≤ m.head.v.length}) (fun p => [(3, .one (.own 115)), (7, .one (.c (.int .i64 ((p.1) : Int))))]) (fun p => [(115, some (.arr 5 (intE .u8) ([handB m.hand] ++ flatTo (fun n => putB n 6) m.head.v (p.1)) true))]) [1] [100, 101] (fun p => m.head.v.length - (p.1)) ⟨0, by omega⟩ (rn []) ?_ ?_
      exact ⟨by (repeat refine ⟨⟨_, rfl, by first | exact VLe.rf | exact vle_int (by dsimp only; omega)⟩, ?_⟩); exact trivial, by (repeat refine ⟨⟨_, rfl, by first | exact BLe.rf | exact BLe.box AllC.rf | exact BLe.arr (by first | (rw [flatTo_zero, List.append_nil]; simp [handB, *]; done) | (rw [← flatTo_more (f := fun n => putB n 6) (k := i) (by omega)]; simp only [List.append_assoc]; done) | (exfalso; omega))⟩, ?_⟩); exact trivial, by repeat (first | exact trivial | refine ⟨⟨rfl, by first | (left; intro h; cases h) | (right; rfl), by first | exact (fun _ h => ⟨_, h⟩) | exact (fun _ _ => ⟨_, rfl⟩)⟩, ?_⟩), rfl⟩
      rintro ⟨i, hinv⟩
      dsimp only
      have hi := hinv
      refine AW_seq ?_
      refine AW_seq ?_
      refine AW_region ?_
      refine AL_p (x_move rfl rfl) ?_
      refine AL_b (x_lss rfl rfl rfl) (fun b109 h109 => ?_)
      refine AL_nil ?_
      cases b109
      · try simp only [tdy] at h109
        refine AW_condF rfl ?_
        refine AW_exit (BQ_hit ?_)
        refine AW_seq ?_
        refine AW_region ?_
        refine AL_p (x_move rfl rfl) ?_
        refine AL_p (x_assign rfl rfl) ?_
        refine AL_nil ?_
        refine AW_ret ?_
        exact ⟨rn [(0, 115)], ⟨⟨⟨_, rfl, VLe.rf⟩, trivial⟩, ⟨⟨_, rfl, BLe.arr (by first | (rw [bodyB_add (by omega)]; simp only [flatTo_all (f := actBytes) (xs := m.acts) (k := j) (by omega), List.append_assoc, List.nil_append]; done) | (rw [bodyB_flip (by omega)]; done) | (rw [bodyB_flip (by omega)]; simp only [List.append_assoc, List.nil_append]; done) | (rw [bodyB_note (by omega)]; simp only [headBy, flatTo_all (f := fun n => putB n 6) (xs := m.head.v) (k := i) (by omega), List.append_assoc, List.nil_append]; done) | (rw [bodyB_note (by omega), flatTo_all (f := fun n => putB n 6) (xs := m.head.v) (k := i) (by omega)]; simp [headBy, handB, *]; done) | (rw [bodyB_none (by omega) (by omega) (by omega)]; done) | (rw [bodyB_none (by omega) (by omega) (by omega)]; simp only [List.append_nil]; done) | (exfalso; omega))⟩, trivial⟩, trivial, rfl⟩⟩
      try simp only [tdy] at h109
      have hf8 := fits48 (eight_get hN2 (k := i) (by omega))
      have hhi := hhf i
      refine AW_condT rfl ?_
      refine AW_skip ?_
      refine AW_seq ?_
      refine AW_block ?_
      refine AW_region ?_
      refine AL_p (x_move rfl rfl) ?_
      refine AL_p (x_field (off := 9) (o' := 9) rfl rfl rfl (by kernel_rfl) rfl) ?_
      refine AL_p (x_field (off := 0) (o' := 9) rfl rfl rfl (by kernel_rfl) rfl) ?_
      refine AL_p (x_load1 rfl rfl rfl (by kernel_rfl) rfl) ?_
      refine AL_p (x_move rfl rfl) ?_
      refine AL_p (x_index (E := 3) (n := 1) rfl rfl rfl (by kernel_rfl) rfl (k := i) (by omega) (by omega)) ?_
      refine AL_p (x_eload1 rfl rfl (by kernel_rfl) rfl) ?_
      refine AL_p (x_callR rfl rfl rfl (putNumS_c _ (m.head.v[i]'(by omega)) 6 (by omega) (by have e : (256 : Int) ^ 6 = 281474976710656 := rfl; omega) (by omega) (by omega) (by (try simp only [List.length_append, List.length_cons, List.length_nil, putB_len, pairTo_len]); omega) 113) rfl AllV.rf rfl rfl rfl rfl rfl) ?_
      refine AL_p (x_move rfl rfl) ?_
      refine AL_p (x_extract rfl rfl rfl) ?_
      refine AL_p (x_extract rfl rfl rfl) ?_
      refine AL_p (x_assign rfl rfl) ?_
      refine AL_nil ?_
      refine AW_region ?_
      refine AL_p (x_move rfl rfl) ?_
      refine AL_p (x_add rfl rfl rfl (IntWalk.i64_in _ (by omega))) ?_
      refine AL_p (x_assign rfl rfl) ?_
      refine AL_nil ?_
      refine ⟨⟨i + 1, by omega⟩, rn [(115, 113)], ?_, by dsimp only; omega⟩
      exact ⟨by (repeat refine ⟨⟨_, rfl, by first | exact VLe.rf | exact vle_int (by dsimp only; omega)⟩, ?_⟩); exact trivial, by (repeat refine ⟨⟨_, rfl, by first | exact BLe.rf | exact BLe.box AllC.rf | exact BLe.arr (by first | (rw [flatTo_zero, List.append_nil]; simp [handB, *]; done) | (rw [← flatTo_more (f := fun n => putB n 6) (k := i) (by omega)]; simp only [List.append_assoc]; done) | (exfalso; omega))⟩, ?_⟩); exact trivial, by repeat (first | exact trivial | refine ⟨⟨rfl, by first | (left; intro h; cases h) | (right; rfl), by first | exact (fun _ h => ⟨_, h⟩) | exact (fun _ _ => ⟨_, rfl⟩)⟩, ?_⟩), rfl⟩
    try simp only [tdy] at h26
    have hA2 := hA (by omega)
    have hmat := hA2.2.1
    have hact := hA2.2.2
    have hA3 := hA2.1
    have ha12 := actsB_12 hact
    have hpl : putB (m.acts.length : Int) 1 = [(m.acts.length : Int)] := putB_one (by omega) (by omega)
    have haf := acts_len (l := m.acts)
    refine AW_condT rfl ?_
    refine AW_seq ?_
    refine AW_region ?_
    refine AL_p (x_move rfl rfl) ?_
    refine AL_p (x_field (off := 4) (o' := 4) rfl rfl rfl (by kernel_rfl) rfl) ?_
    refine AL_p (x_load1 rfl rfl rfl (by kernel_rfl) rfl) ?_
    refine AL_p (x_callR rfl rfl rfl (putNumS_c _ m.prio 2 (by omega) (by have e : (256 : Int) ^ 2 = 65536 := rfl; omega) (by omega) (by omega) (by (try simp only [List.length_append, List.length_cons, List.length_nil, putB_len, pairTo_len]); omega) 103) rfl AllV.rf rfl rfl rfl rfl rfl) ?_
    refine AL_p (x_move rfl rfl) ?_
    refine AL_p (x_extract rfl rfl rfl) ?_
    refine AL_p (x_extract rfl rfl rfl) ?_
    refine AL_p (x_assign rfl rfl) ?_
    refine AL_nil ?_
    refine AW_seq ?_
    refine AW_seq ?_
    refine AW_region ?_
    refine AL_p (x_assign rfl rfl) ?_
    refine AL_nil ?_
    refine AW_block ?_
    refine AW_loop2 (ι := {q : Nat // q ≤ 8}) (fun p => [(3, .one (.own 103)), (4, .one (.c (.int .i64 ((p.1) : Int))))]) (fun p => [(103, some (.arr 5 (intE .u8) (putB m.epoch 4 ++ putB m.prio 2 ++ pairTo m.mat (p.1)) true))]) [1] [100, 101, 102] (fun p => 8 - (p.1)) ⟨0, by omega⟩ (rn []) ?_ ?_
    exact ⟨by (repeat refine ⟨⟨_, rfl, by first | exact VLe.rf | exact vle_int (by dsimp only; omega)⟩, ?_⟩); exact trivial, by (repeat refine ⟨⟨_, rfl, by first | exact BLe.rf | exact BLe.box AllC.rf | exact BLe.arr (by first | (rw [pairTo_zero, List.append_nil]; done) | (rw [← pairTo_more hv1 hm1]; simp only [List.append_assoc]; done) | (exfalso; omega))⟩, ?_⟩); exact trivial, by repeat (first | exact trivial | refine ⟨⟨rfl, by first | (left; intro h; cases h) | (right; rfl), by first | exact (fun _ h => ⟨_, h⟩) | exact (fun _ _ => ⟨_, rfl⟩)⟩, ?_⟩), rfl⟩
    rintro ⟨k, hinv⟩
    dsimp only
    have hk := hinv
    refine AW_seq ?_
    refine AW_seq ?_
    refine AW_region ?_
    refine AL_p (x_move rfl rfl) ?_
    refine AL_b (x_lss rfl rfl rfl) (fun b35 h35 => ?_)
    refine AL_nil ?_
    cases b35
    rotate_left
    · try simp only [tdy] at h35
      obtain ⟨hv1, hm1, hvr, hmr⟩ := matchB_get hmat (fun x hx => (hi0_5 x hx).2) (k := k) (by omega)
      refine AW_condT rfl ?_
      refine AW_skip ?_
      refine AW_seq ?_
      refine AW_block ?_
      refine AW_seq ?_
      refine AW_region ?_
      refine AL_p (x_move rfl rfl) ?_
      refine AL_p (x_field (off := 5) (o' := 5) rfl rfl rfl (by kernel_rfl) rfl) ?_
      refine AL_p (x_field (off := 0) (o' := 5) rfl rfl rfl (by kernel_rfl) rfl) ?_
      refine AL_p (x_load1 rfl rfl rfl (by kernel_rfl) rfl) ?_
      refine AL_p (x_move rfl rfl) ?_
      refine AL_p (x_index (E := 3) (n := 1) rfl rfl rfl (by kernel_rfl) rfl (k := k) (by omega) (by omega)) ?_
      refine AL_p (x_eload1 rfl rfl (by kernel_rfl) rfl) ?_
      refine AL_p (x_callR rfl rfl rfl (putNumS_c _ (m.mat.v[k]'hv1) 6 (by omega) (by have e : (256 : Int) ^ 6 = 281474976710656 := rfl; omega) (by omega) (by omega) (by (try simp only [List.length_append, List.length_cons, List.length_nil, putB_len, pairTo_len]); omega) 104) rfl AllV.rf rfl rfl rfl rfl rfl) ?_
      refine AL_p (x_move rfl rfl) ?_
      refine AL_p (x_extract rfl rfl rfl) ?_
      refine AL_p (x_extract rfl rfl rfl) ?_
      refine AL_p (x_assign rfl rfl) ?_
      refine AL_nil ?_
      refine AW_region ?_
      refine AL_p (x_move rfl rfl) ?_
      refine AL_p (x_field (off := 5) (o' := 5) rfl rfl rfl (by kernel_rfl) rfl) ?_
      refine AL_p (x_field (off := 1) (o' := 6) rfl rfl rfl (by kernel_rfl) rfl) ?_
      refine AL_p (x_load1 rfl rfl rfl (by kernel_rfl) rfl) ?_
      refine AL_p (x_move rfl rfl) ?_
      refine AL_p (x_index (E := 3) (n := 1) rfl rfl rfl (by kernel_rfl) rfl (k := k) (by omega) (by omega)) ?_
      refine AL_p (x_eload1 rfl rfl (by kernel_rfl) rfl) ?_
      refine AL_p (x_callR rfl rfl rfl (putNumS_c _ (m.mat.m[k]'hm1) 6 (by omega) (by have e : (256 : Int) ^ 6 = 281474976710656 := rfl; omega) (by omega) (by omega) (by (try simp only [List.length_append, List.length_cons, List.length_nil, putB_len, pairTo_len]); omega) 105) rfl AllV.rf rfl rfl rfl rfl rfl) ?_
      refine AL_p (x_move rfl rfl) ?_
      refine AL_p (x_extract rfl rfl rfl) ?_
      refine AL_p (x_extract rfl rfl rfl) ?_
      refine AL_p (x_assign rfl rfl) ?_
      refine AL_nil ?_
      refine AW_region ?_
      refine AL_p (x_move rfl rfl) ?_
      refine AL_p (x_add rfl rfl rfl (IntWalk.i64_in _ (by omega))) ?_
      refine AL_p (x_assign rfl rfl) ?_
      refine AL_nil ?_
      refine ⟨⟨k + 1, by omega⟩, rn [(103, 105)], ?_, by dsimp only; omega⟩
      exact ⟨by (repeat refine ⟨⟨_, rfl, by first | exact VLe.rf | exact vle_int (by dsimp only; omega)⟩, ?_⟩); exact trivial, by (repeat refine ⟨⟨_, rfl, by first | exact BLe.rf | exact BLe.box AllC.rf | exact BLe.arr (by first | (rw [pairTo_zero, List.append_nil]; done) | (rw [← pairTo_more hv1 hm1]; simp only [List.append_assoc]; done) | (exfalso; omega))⟩, ?_⟩); exact trivial, by repeat (first | exact trivial | refine ⟨⟨rfl, by first | (left; intro h; cases h) | (right; rfl), by first | exact (fun _ h => ⟨_, h⟩) | exact (fun _ _ => ⟨_, rfl⟩)⟩, ?_⟩), rfl⟩
    try simp only [tdy] at h35
    obtain rfl : k = 8 := by omega
    refine AW_condF rfl ?_
    refine AW_exit (BQ_hit ?_)
    refine AW_seq ?_
    refine AW_region ?_
    refine AL_p (x_move rfl rfl) ?_
    refine AL_p (x_field (off := 7) (o' := 7) rfl rfl rfl (by kernel_rfl) rfl) ?_
    refine AL_p (x_load1 rfl rfl rfl (by kernel_rfl) rfl) ?_
    refine AL_p (x_len (E := 114) (n := 3) rfl rfl (by kernel_rfl)) ?_
    refine AL_p (x_callR rfl rfl rfl (putNumS_c _ (m.acts.length : Int) 1 (by omega) (by have e : (256 : Int) ^ 1 = 256 := rfl; omega) (by omega) (by omega) (by (try simp only [List.length_append, List.length_cons, List.length_nil, putB_len, pairTo_len]); omega) 106) rfl AllV.rf rfl rfl rfl rfl rfl) ?_
    refine AL_p (x_move rfl rfl) ?_
    refine AL_p (x_extract rfl rfl rfl) ?_
    refine AL_p (x_extract rfl rfl rfl) ?_
    refine AL_p (x_assign rfl rfl) ?_
    refine AL_nil ?_
    refine AW_seq ?_
    refine AW_region ?_
    refine AL_p (x_field (off := 7) (o' := 7) rfl rfl rfl (by kernel_rfl) rfl) ?_
    refine AL_p (x_load1 rfl rfl rfl (by kernel_rfl) rfl) ?_
    refine AL_p (x_len (E := 114) (n := 3) rfl rfl (by kernel_rfl)) ?_
    refine AL_p (x_move rfl rfl) ?_
    refine AL_nil ?_
    refine AW_block ?_
    refine AW_loop2 (ι := {q : Nat // q ≤ m.acts.length}) (fun p => [(3, .one (.own 106)), (71, .one (.c (.int .i64 ((p.1) : Int))))]) (fun p => [(106, some (.arr 5 (intE .u8) (putB m.epoch 4 ++ putB m.prio 2 ++ pairTo m.mat 8 ++ [(m.acts.length : Int)] ++ flatTo actBytes m.acts (p.1)) true))]) [1, 69, 70] [100, 101, 102, 103] (fun p => m.acts.length - (p.1)) ⟨0, by omega⟩ (rn []) ?_ ?_
    exact ⟨by (repeat refine ⟨⟨_, rfl, by first | exact VLe.rf | exact vle_int (by dsimp only; omega)⟩, ?_⟩); exact trivial, by (repeat refine ⟨⟨_, rfl, by first | exact BLe.rf | exact BLe.box AllC.rf | exact BLe.arr (by first | (rw [flatTo_zero, List.append_nil]; done) | (rw [hpl, flatTo_zero, List.append_nil]; done) | (rw [← flatTo_more (f := actBytes) (k := j) (by omega)]; simp only [actBytes, hp1, hp2, List.append_assoc, List.cons_append, List.nil_append]; done) | (exfalso; omega))⟩, ?_⟩); exact trivial, by repeat (first | exact trivial | refine ⟨⟨rfl, by first | (left; intro h; cases h) | (right; rfl), by first | exact (fun _ h => ⟨_, h⟩) | exact (fun _ _ => ⟨_, rfl⟩)⟩, ?_⟩), rfl⟩
    rintro ⟨j, hinv⟩
    dsimp only
    have hj := hinv
    refine AW_seq ?_
    refine AW_region ?_
    refine AL_b (x_lss rfl rfl rfl) (fun b72 h72 => ?_)
    refine AL_nil ?_
    refine AW_seq ?_
    cases b72
    rotate_left
    · try simp only [tdy] at h72
      have hab := actB_in (actsB_get hact (k := j) (by omega))
      have hp1 : putB (m.acts[j]'(by omega)).kind 1 = [(m.acts[j]'(by omega)).kind] := putB_one (by omega) (by omega)
      have hp2 : putB (m.acts[j]'(by omega)).a 1 = [(m.acts[j]'(by omega)).a] := putB_one (by omega) (by omega)
      have haj := haf j
      refine AW_condT rfl ?_
      refine AW_skip ?_
      refine AW_seq ?_
      refine AW_block ?_
      refine AW_seq ?_
      refine AW_region ?_
      refine AL_p (x_index (E := 114) (n := 3) rfl rfl rfl (by kernel_rfl) rfl (k := j) (by omega) (by omega)) ?_
      refine AL_p (x_eloadW (n := 3) rfl rfl (by kernel_rfl) rfl) ?_
      refine AL_p (x_alloc (z := .agg #[.int .i64 0, .int .i64 0, .int .i64 0]) 107 rfl (by kernel_rfl) rfl rfl rfl rfl) ?_
      refine AL_p (x_store (n := 3) rfl rfl rfl rfl (by kernel_rfl) rfl rfl rfl) ?_
      refine AL_nil ?_
      refine AW_seq ?_
      refine AW_region ?_
      refine AL_p (x_move rfl rfl) ?_
      refine AL_p (x_field (off := 0) (o' := 0) rfl rfl rfl (by kernel_rfl) rfl) ?_
      refine AL_p (x_load1 rfl rfl rfl (by kernel_rfl) rfl) ?_
      refine AL_p (x_callR rfl rfl rfl (putNumS_c _ (m.acts[j]'(by omega)).kind 1 (by omega) (by have e : (256 : Int) ^ 1 = 256 := rfl; omega) (by omega) (by omega) (by (try simp only [List.length_append, List.length_cons, List.length_nil, putB_len, pairTo_len]); omega) 108) rfl AllV.rf rfl rfl rfl rfl rfl) ?_
      refine AL_p (x_move rfl rfl) ?_
      refine AL_p (x_extract rfl rfl rfl) ?_
      refine AL_p (x_extract rfl rfl rfl) ?_
      refine AL_p (x_assign rfl rfl) ?_
      refine AL_nil ?_
      refine AW_seq ?_
      refine AW_region ?_
      refine AL_p (x_move rfl rfl) ?_
      refine AL_p (x_field (off := 1) (o' := 1) rfl rfl rfl (by kernel_rfl) rfl) ?_
      refine AL_p (x_load1 rfl rfl rfl (by kernel_rfl) rfl) ?_
      refine AL_p (x_callR rfl rfl rfl (putNumS_c _ (m.acts[j]'(by omega)).a 1 (by omega) (by have e : (256 : Int) ^ 1 = 256 := rfl; omega) (by omega) (by omega) (by (try simp only [List.length_append, List.length_cons, List.length_nil, putB_len, pairTo_len]); omega) 109) rfl AllV.rf rfl rfl rfl rfl rfl) ?_
      refine AL_p (x_move rfl rfl) ?_
      refine AL_p (x_extract rfl rfl rfl) ?_
      refine AL_p (x_extract rfl rfl rfl) ?_
      refine AL_p (x_assign rfl rfl) ?_
      refine AL_nil ?_
      refine AW_region ?_
      refine AL_p (x_move rfl rfl) ?_
      refine AL_p (x_field (off := 2) (o' := 2) rfl rfl rfl (by kernel_rfl) rfl) ?_
      refine AL_p (x_load1 rfl rfl rfl (by kernel_rfl) rfl) ?_
      refine AL_p (x_callR rfl rfl rfl (putNumS_c _ (m.acts[j]'(by omega)).b 6 (by omega) (by have e : (256 : Int) ^ 6 = 281474976710656 := rfl; omega) (by omega) (by omega) (by (try simp only [List.length_append, List.length_cons, List.length_nil, putB_len, pairTo_len]); omega) 110) rfl AllV.rf rfl rfl rfl rfl rfl) ?_
      refine AL_p (x_move rfl rfl) ?_
      refine AL_p (x_extract rfl rfl rfl) ?_
      refine AL_p (x_extract rfl rfl rfl) ?_
      refine AL_p (x_assign rfl rfl) ?_
      refine AL_nil ?_
      refine AW_region ?_
      refine AL_p (x_add rfl rfl rfl (IntWalk.i64_in _ (by omega))) ?_
      refine AL_p (x_move rfl rfl) ?_
      refine AL_nil ?_
      refine ⟨⟨j + 1, by omega⟩, rn [(106, 110)], ?_, by dsimp only; omega⟩
      exact ⟨by (repeat refine ⟨⟨_, rfl, by first | exact VLe.rf | exact vle_int (by dsimp only; omega)⟩, ?_⟩); exact trivial, by (repeat refine ⟨⟨_, rfl, by first | exact BLe.rf | exact BLe.box AllC.rf | exact BLe.arr (by first | (rw [flatTo_zero, List.append_nil]; done) | (rw [hpl, flatTo_zero, List.append_nil]; done) | (rw [← flatTo_more (f := actBytes) (k := j) (by omega)]; simp only [actBytes, hp1, hp2, List.append_assoc, List.cons_append, List.nil_append]; done) | (exfalso; omega))⟩, ?_⟩); exact trivial, by repeat (first | exact trivial | refine ⟨⟨rfl, by first | (left; intro h; cases h) | (right; rfl), by first | exact (fun _ h => ⟨_, h⟩) | exact (fun _ _ => ⟨_, rfl⟩)⟩, ?_⟩), rfl⟩
    try simp only [tdy] at h72
    refine AW_condF rfl ?_
    refine AW_exit (BQ_hit ?_)
    refine AW_seq ?_
    refine AW_seq ?_
    refine AW_region ?_
    refine AL_p (x_field (off := 0) (o' := 0) rfl rfl rfl (by kernel_rfl) rfl) ?_
    refine AL_p (x_load1 rfl rfl rfl (by kernel_rfl) rfl) ?_
    refine AL_b (x_eql rfl rfl rfl) (fun b99 h99 => ?_)
    refine AL_nil ?_
    cases b99
    · try simp only [tdy] at h99
      refine AW_condF rfl ?_
      refine AW_skip ?_
      refine AW_seq ?_
      refine AW_region ?_
      refine AL_p (x_move rfl rfl) ?_
      refine AL_p (x_assign rfl rfl) ?_
      refine AL_nil ?_
      refine AW_ret ?_
      exact ⟨rn [(0, 106)], ⟨⟨⟨_, rfl, VLe.rf⟩, trivial⟩, ⟨⟨_, rfl, BLe.arr (by first | (rw [bodyB_add (by omega)]; simp only [flatTo_all (f := actBytes) (xs := m.acts) (k := j) (by omega), List.append_assoc, List.nil_append]; done) | (rw [bodyB_flip (by omega)]; done) | (rw [bodyB_flip (by omega)]; simp only [List.append_assoc, List.nil_append]; done) | (rw [bodyB_note (by omega)]; simp only [headBy, flatTo_all (f := fun n => putB n 6) (xs := m.head.v) (k := i) (by omega), List.append_assoc, List.nil_append]; done) | (rw [bodyB_note (by omega), flatTo_all (f := fun n => putB n 6) (xs := m.head.v) (k := i) (by omega)]; simp [headBy, handB, *]; done) | (rw [bodyB_none (by omega) (by omega) (by omega)]; done) | (rw [bodyB_none (by omega) (by omega) (by omega)]; simp only [List.append_nil]; done) | (exfalso; omega))⟩, trivial⟩, trivial, rfl⟩⟩
    try simp only [tdy] at h99
    have hN2 := hN (by omega)
    have hN8 := eight_8 hN2
    have hhf := head_len (l := m.head.v)
    refine AW_condT rfl ?_
    refine AW_seq ?_
    refine AW_seq ?_
    refine AW_region ?_
    refine AL_p (x_field (off := 8) (o' := 8) rfl rfl rfl (by kernel_rfl) rfl) ?_
    refine AL_b (x_load1 rfl rfl rfl (by kernel_rfl) rfl) (fun b101 h101 => ?_)
    refine AL_nil ?_
    cases b101
    rotate_left
    · try simp only [tdy] at h101
      refine AW_condT rfl ?_
      refine AW_region ?_
      refine AL_p (x_move rfl rfl) ?_
      refine AL_p (y_bslice (E := 5) (e := (intE .u8)) [.const (.int .u8 (1))] ([1]) 111 rfl rfl rfl rfl rfl rfl rfl rfl FitL.rf rfl rfl rfl rfl rfl rfl (by kernel_rfl)) ?_
      refine AL_p (y_append 112 rfl rfl rfl rfl rfl rfl rfl rfl (by kernel_rfl) (by (try simp only [List.length_append, List.length_cons, List.length_nil, putB_len, pairTo_len]); omega)) ?_
      refine AL_p (x_assign rfl rfl) ?_
      refine AL_nil ?_
      refine AW_seq ?_
      refine AW_region ?_
      refine AL_p (x_assign rfl rfl) ?_
      refine AL_nil ?_
      refine AW_block ?_
      refine AW_loop2 (ι := {q : Nat // q ≤ m.head.v.length}) (fun p => [(3, .one (.own 112)), (7, .one (.c (.int .i64 ((p.1) : Int))))]) (fun p => [(112, some (.arr 5 (intE .u8) ([handB m.hand] ++ flatTo (fun n => putB n 6) m.head.v (p.1)) true))]) [1] [100, 101, 102, 103] (fun p => m.head.v.length - (p.1)) ⟨0, by omega⟩ (rn []) ?_ ?_
      exact ⟨by (repeat refine ⟨⟨_, rfl, by first | exact VLe.rf | exact vle_int (by dsimp only; omega)⟩, ?_⟩); exact trivial, by (repeat refine ⟨⟨_, rfl, by first | exact BLe.rf | exact BLe.box AllC.rf | exact BLe.arr (by first | (rw [flatTo_zero, List.append_nil]; simp [handB, *]; done) | (rw [← flatTo_more (f := fun n => putB n 6) (k := i) (by omega)]; simp only [List.append_assoc]; done) | (exfalso; omega))⟩, ?_⟩); exact trivial, by repeat (first | exact trivial | refine ⟨⟨rfl, by first | (left; intro h; cases h) | (right; rfl), by first | exact (fun _ h => ⟨_, h⟩) | exact (fun _ _ => ⟨_, rfl⟩)⟩, ?_⟩), rfl⟩
      rintro ⟨i, hinv⟩
      dsimp only
      have hi := hinv
      refine AW_seq ?_
      refine AW_seq ?_
      refine AW_region ?_
      refine AL_p (x_move rfl rfl) ?_
      refine AL_b (x_lss rfl rfl rfl) (fun b109 h109 => ?_)
      refine AL_nil ?_
      cases b109
      · try simp only [tdy] at h109
        refine AW_condF rfl ?_
        refine AW_exit (BQ_hit ?_)
        refine AW_seq ?_
        refine AW_region ?_
        refine AL_p (x_move rfl rfl) ?_
        refine AL_p (x_assign rfl rfl) ?_
        refine AL_nil ?_
        refine AW_ret ?_
        exact ⟨rn [(0, 112)], ⟨⟨⟨_, rfl, VLe.rf⟩, trivial⟩, ⟨⟨_, rfl, BLe.arr (by first | (rw [bodyB_add (by omega)]; simp only [flatTo_all (f := actBytes) (xs := m.acts) (k := j) (by omega), List.append_assoc, List.nil_append]; done) | (rw [bodyB_flip (by omega)]; done) | (rw [bodyB_flip (by omega)]; simp only [List.append_assoc, List.nil_append]; done) | (rw [bodyB_note (by omega)]; simp only [headBy, flatTo_all (f := fun n => putB n 6) (xs := m.head.v) (k := i) (by omega), List.append_assoc, List.nil_append]; done) | (rw [bodyB_note (by omega), flatTo_all (f := fun n => putB n 6) (xs := m.head.v) (k := i) (by omega)]; simp [headBy, handB, *]; done) | (rw [bodyB_none (by omega) (by omega) (by omega)]; done) | (rw [bodyB_none (by omega) (by omega) (by omega)]; simp only [List.append_nil]; done) | (exfalso; omega))⟩, trivial⟩, trivial, rfl⟩⟩
      try simp only [tdy] at h109
      have hf8 := fits48 (eight_get hN2 (k := i) (by omega))
      have hhi := hhf i
      refine AW_condT rfl ?_
      refine AW_skip ?_
      refine AW_seq ?_
      refine AW_block ?_
      refine AW_region ?_
      refine AL_p (x_move rfl rfl) ?_
      refine AL_p (x_field (off := 9) (o' := 9) rfl rfl rfl (by kernel_rfl) rfl) ?_
      refine AL_p (x_field (off := 0) (o' := 9) rfl rfl rfl (by kernel_rfl) rfl) ?_
      refine AL_p (x_load1 rfl rfl rfl (by kernel_rfl) rfl) ?_
      refine AL_p (x_move rfl rfl) ?_
      refine AL_p (x_index (E := 3) (n := 1) rfl rfl rfl (by kernel_rfl) rfl (k := i) (by omega) (by omega)) ?_
      refine AL_p (x_eload1 rfl rfl (by kernel_rfl) rfl) ?_
      refine AL_p (x_callR rfl rfl rfl (putNumS_c _ (m.head.v[i]'(by omega)) 6 (by omega) (by have e : (256 : Int) ^ 6 = 281474976710656 := rfl; omega) (by omega) (by omega) (by (try simp only [List.length_append, List.length_cons, List.length_nil, putB_len, pairTo_len]); omega) 113) rfl AllV.rf rfl rfl rfl rfl rfl) ?_
      refine AL_p (x_move rfl rfl) ?_
      refine AL_p (x_extract rfl rfl rfl) ?_
      refine AL_p (x_extract rfl rfl rfl) ?_
      refine AL_p (x_assign rfl rfl) ?_
      refine AL_nil ?_
      refine AW_region ?_
      refine AL_p (x_move rfl rfl) ?_
      refine AL_p (x_add rfl rfl rfl (IntWalk.i64_in _ (by omega))) ?_
      refine AL_p (x_assign rfl rfl) ?_
      refine AL_nil ?_
      refine ⟨⟨i + 1, by omega⟩, rn [(112, 113)], ?_, by dsimp only; omega⟩
      exact ⟨by (repeat refine ⟨⟨_, rfl, by first | exact VLe.rf | exact vle_int (by dsimp only; omega)⟩, ?_⟩); exact trivial, by (repeat refine ⟨⟨_, rfl, by first | exact BLe.rf | exact BLe.box AllC.rf | exact BLe.arr (by first | (rw [flatTo_zero, List.append_nil]; simp [handB, *]; done) | (rw [← flatTo_more (f := fun n => putB n 6) (k := i) (by omega)]; simp only [List.append_assoc]; done) | (exfalso; omega))⟩, ?_⟩); exact trivial, by repeat (first | exact trivial | refine ⟨⟨rfl, by first | (left; intro h; cases h) | (right; rfl), by first | exact (fun _ h => ⟨_, h⟩) | exact (fun _ _ => ⟨_, rfl⟩)⟩, ?_⟩), rfl⟩
    try simp only [tdy] at h101
    refine AW_condF rfl ?_
    refine AW_region ?_
    refine AL_p (x_move rfl rfl) ?_
    refine AL_p (y_bslice (E := 5) (e := (intE .u8)) [.const (.int .u8 (0))] ([0]) 114 rfl rfl rfl rfl rfl rfl rfl rfl FitL.rf rfl rfl rfl rfl rfl rfl (by kernel_rfl)) ?_
    refine AL_p (y_append 115 rfl rfl rfl rfl rfl rfl rfl rfl (by kernel_rfl) (by (try simp only [List.length_append, List.length_cons, List.length_nil, putB_len, pairTo_len]); omega)) ?_
    refine AL_p (x_assign rfl rfl) ?_
    refine AL_nil ?_
    refine AW_seq ?_
    refine AW_region ?_
    refine AL_p (x_assign rfl rfl) ?_
    refine AL_nil ?_
    refine AW_block ?_
    refine AW_loop2 (ι := {q : Nat // q ≤ m.head.v.length}) (fun p => [(3, .one (.own 115)), (7, .one (.c (.int .i64 ((p.1) : Int))))]) (fun p => [(115, some (.arr 5 (intE .u8) ([handB m.hand] ++ flatTo (fun n => putB n 6) m.head.v (p.1)) true))]) [1] [100, 101, 102, 103] (fun p => m.head.v.length - (p.1)) ⟨0, by omega⟩ (rn []) ?_ ?_
    exact ⟨by (repeat refine ⟨⟨_, rfl, by first | exact VLe.rf | exact vle_int (by dsimp only; omega)⟩, ?_⟩); exact trivial, by (repeat refine ⟨⟨_, rfl, by first | exact BLe.rf | exact BLe.box AllC.rf | exact BLe.arr (by first | (rw [flatTo_zero, List.append_nil]; simp [handB, *]; done) | (rw [← flatTo_more (f := fun n => putB n 6) (k := i) (by omega)]; simp only [List.append_assoc]; done) | (exfalso; omega))⟩, ?_⟩); exact trivial, by repeat (first | exact trivial | refine ⟨⟨rfl, by first | (left; intro h; cases h) | (right; rfl), by first | exact (fun _ h => ⟨_, h⟩) | exact (fun _ _ => ⟨_, rfl⟩)⟩, ?_⟩), rfl⟩
    rintro ⟨i, hinv⟩
    dsimp only
    have hi := hinv
    refine AW_seq ?_
    refine AW_seq ?_
    refine AW_region ?_
    refine AL_p (x_move rfl rfl) ?_
    refine AL_b (x_lss rfl rfl rfl) (fun b109 h109 => ?_)
    refine AL_nil ?_
    cases b109
    · try simp only [tdy] at h109
      refine AW_condF rfl ?_
      refine AW_exit (BQ_hit ?_)
      refine AW_seq ?_
      refine AW_region ?_
      refine AL_p (x_move rfl rfl) ?_
      refine AL_p (x_assign rfl rfl) ?_
      refine AL_nil ?_
      refine AW_ret ?_
      exact ⟨rn [(0, 115)], ⟨⟨⟨_, rfl, VLe.rf⟩, trivial⟩, ⟨⟨_, rfl, BLe.arr (by first | (rw [bodyB_add (by omega)]; simp only [flatTo_all (f := actBytes) (xs := m.acts) (k := j) (by omega), List.append_assoc, List.nil_append]; done) | (rw [bodyB_flip (by omega)]; done) | (rw [bodyB_flip (by omega)]; simp only [List.append_assoc, List.nil_append]; done) | (rw [bodyB_note (by omega)]; simp only [headBy, flatTo_all (f := fun n => putB n 6) (xs := m.head.v) (k := i) (by omega), List.append_assoc, List.nil_append]; done) | (rw [bodyB_note (by omega), flatTo_all (f := fun n => putB n 6) (xs := m.head.v) (k := i) (by omega)]; simp [headBy, handB, *]; done) | (rw [bodyB_none (by omega) (by omega) (by omega)]; done) | (rw [bodyB_none (by omega) (by omega) (by omega)]; simp only [List.append_nil]; done) | (exfalso; omega))⟩, trivial⟩, trivial, rfl⟩⟩
    try simp only [tdy] at h109
    have hf8 := fits48 (eight_get hN2 (k := i) (by omega))
    have hhi := hhf i
    refine AW_condT rfl ?_
    refine AW_skip ?_
    refine AW_seq ?_
    refine AW_block ?_
    refine AW_region ?_
    refine AL_p (x_move rfl rfl) ?_
    refine AL_p (x_field (off := 9) (o' := 9) rfl rfl rfl (by kernel_rfl) rfl) ?_
    refine AL_p (x_field (off := 0) (o' := 9) rfl rfl rfl (by kernel_rfl) rfl) ?_
    refine AL_p (x_load1 rfl rfl rfl (by kernel_rfl) rfl) ?_
    refine AL_p (x_move rfl rfl) ?_
    refine AL_p (x_index (E := 3) (n := 1) rfl rfl rfl (by kernel_rfl) rfl (k := i) (by omega) (by omega)) ?_
    refine AL_p (x_eload1 rfl rfl (by kernel_rfl) rfl) ?_
    refine AL_p (x_callR rfl rfl rfl (putNumS_c _ (m.head.v[i]'(by omega)) 6 (by omega) (by have e : (256 : Int) ^ 6 = 281474976710656 := rfl; omega) (by omega) (by omega) (by (try simp only [List.length_append, List.length_cons, List.length_nil, putB_len, pairTo_len]); omega) 113) rfl AllV.rf rfl rfl rfl rfl rfl) ?_
    refine AL_p (x_move rfl rfl) ?_
    refine AL_p (x_extract rfl rfl rfl) ?_
    refine AL_p (x_extract rfl rfl rfl) ?_
    refine AL_p (x_assign rfl rfl) ?_
    refine AL_nil ?_
    refine AW_region ?_
    refine AL_p (x_move rfl rfl) ?_
    refine AL_p (x_add rfl rfl rfl (IntWalk.i64_in _ (by omega))) ?_
    refine AL_p (x_assign rfl rfl) ?_
    refine AL_nil ?_
    refine ⟨⟨i + 1, by omega⟩, rn [(115, 113)], ?_, by dsimp only; omega⟩
    exact ⟨by (repeat refine ⟨⟨_, rfl, by first | exact VLe.rf | exact vle_int (by dsimp only; omega)⟩, ?_⟩); exact trivial, by (repeat refine ⟨⟨_, rfl, by first | exact BLe.rf | exact BLe.box AllC.rf | exact BLe.arr (by first | (rw [flatTo_zero, List.append_nil]; simp [handB, *]; done) | (rw [← flatTo_more (f := fun n => putB n 6) (k := i) (by omega)]; simp only [List.append_assoc]; done) | (exfalso; omega))⟩, ?_⟩); exact trivial, by repeat (first | exact trivial | refine ⟨⟨rfl, by first | (left; intro h; cases h) | (right; rfl), by first | exact (fun _ h => ⟨_, h⟩) | exact (fun _ _ => ⟨_, rfl⟩)⟩, ?_⟩), rfl⟩
  try simp only [tdy] at h11
  refine AL_g rfl rfl (x_field (off := 0) (o' := 0) rfl rfl rfl (by kernel_rfl) rfl) ?_
  refine AL_g rfl rfl (x_load1 rfl rfl rfl (by kernel_rfl) rfl) ?_
  refine AL_gb rfl rfl (x_eql rfl rfl rfl) (fun b15 h15 => ?_)
  refine AL_p (x_pickF rfl rfl rfl) ?_
  refine AL_nil ?_
  cases b15
  · try simp only [tdy] at h15
    refine AW_condF rfl ?_
    refine AW_skip ?_
    refine AW_seq ?_
    refine AW_seq ?_
    refine AW_region ?_
    refine AL_p (x_field (off := 0) (o' := 0) rfl rfl rfl (by kernel_rfl) rfl) ?_
    refine AL_p (x_load1 rfl rfl rfl (by kernel_rfl) rfl) ?_
    refine AL_b (x_eql rfl rfl rfl) (fun b26 h26 => ?_)
    refine AL_nil ?_
    cases b26
    · try simp only [tdy] at h26
      refine AW_condF rfl ?_
      refine AW_skip ?_
      refine AW_seq ?_
      refine AW_seq ?_
      refine AW_region ?_
      refine AL_p (x_field (off := 0) (o' := 0) rfl rfl rfl (by kernel_rfl) rfl) ?_
      refine AL_p (x_load1 rfl rfl rfl (by kernel_rfl) rfl) ?_
      refine AL_b (x_eql rfl rfl rfl) (fun b99 h99 => ?_)
      refine AL_nil ?_
      cases b99
      · try simp only [tdy] at h99
        refine AW_condF rfl ?_
        refine AW_skip ?_
        refine AW_seq ?_
        refine AW_region ?_
        refine AL_p (x_move rfl rfl) ?_
        refine AL_p (x_assign rfl rfl) ?_
        refine AL_nil ?_
        refine AW_ret ?_
        exact ⟨rn [(0, 101)], ⟨⟨⟨_, rfl, VLe.rf⟩, trivial⟩, ⟨⟨_, rfl, BLe.arr (by first | (rw [bodyB_add (by omega)]; simp only [flatTo_all (f := actBytes) (xs := m.acts) (k := j) (by omega), List.append_assoc, List.nil_append]; done) | (rw [bodyB_flip (by omega)]; done) | (rw [bodyB_flip (by omega)]; simp only [List.append_assoc, List.nil_append]; done) | (rw [bodyB_note (by omega)]; simp only [headBy, flatTo_all (f := fun n => putB n 6) (xs := m.head.v) (k := i) (by omega), List.append_assoc, List.nil_append]; done) | (rw [bodyB_note (by omega), flatTo_all (f := fun n => putB n 6) (xs := m.head.v) (k := i) (by omega)]; simp [headBy, handB, *]; done) | (rw [bodyB_none (by omega) (by omega) (by omega)]; done) | (rw [bodyB_none (by omega) (by omega) (by omega)]; simp only [List.append_nil]; done) | (exfalso; omega))⟩, trivial⟩, trivial, rfl⟩⟩
      try simp only [tdy] at h99
      have hN2 := hN (by omega)
      have hN8 := eight_8 hN2
      have hhf := head_len (l := m.head.v)
      refine AW_condT rfl ?_
      refine AW_seq ?_
      refine AW_seq ?_
      refine AW_region ?_
      refine AL_p (x_field (off := 8) (o' := 8) rfl rfl rfl (by kernel_rfl) rfl) ?_
      refine AL_b (x_load1 rfl rfl rfl (by kernel_rfl) rfl) (fun b101 h101 => ?_)
      refine AL_nil ?_
      cases b101
      rotate_left
      · try simp only [tdy] at h101
        refine AW_condT rfl ?_
        refine AW_region ?_
        refine AL_p (x_move rfl rfl) ?_
        refine AL_p (y_bslice (E := 5) (e := (intE .u8)) [.const (.int .u8 (1))] ([1]) 111 rfl rfl rfl rfl rfl rfl rfl rfl FitL.rf rfl rfl rfl rfl rfl rfl (by kernel_rfl)) ?_
        refine AL_p (y_append 112 rfl rfl rfl rfl rfl rfl rfl rfl (by kernel_rfl) (by (try simp only [List.length_append, List.length_cons, List.length_nil, putB_len, pairTo_len]); omega)) ?_
        refine AL_p (x_assign rfl rfl) ?_
        refine AL_nil ?_
        refine AW_seq ?_
        refine AW_region ?_
        refine AL_p (x_assign rfl rfl) ?_
        refine AL_nil ?_
        refine AW_block ?_
        refine AW_loop2 (ι := {q : Nat // q ≤ m.head.v.length}) (fun p => [(3, .one (.own 112)), (7, .one (.c (.int .i64 ((p.1) : Int))))]) (fun p => [(112, some (.arr 5 (intE .u8) ([handB m.hand] ++ flatTo (fun n => putB n 6) m.head.v (p.1)) true))]) [1] [100] (fun p => m.head.v.length - (p.1)) ⟨0, by omega⟩ (rn []) ?_ ?_
        exact ⟨by (repeat refine ⟨⟨_, rfl, by first | exact VLe.rf | exact vle_int (by dsimp only; omega)⟩, ?_⟩); exact trivial, by (repeat refine ⟨⟨_, rfl, by first | exact BLe.rf | exact BLe.box AllC.rf | exact BLe.arr (by first | (rw [flatTo_zero, List.append_nil]; simp [handB, *]; done) | (rw [← flatTo_more (f := fun n => putB n 6) (k := i) (by omega)]; simp only [List.append_assoc]; done) | (exfalso; omega))⟩, ?_⟩); exact trivial, by repeat (first | exact trivial | refine ⟨⟨rfl, by first | (left; intro h; cases h) | (right; rfl), by first | exact (fun _ h => ⟨_, h⟩) | exact (fun _ _ => ⟨_, rfl⟩)⟩, ?_⟩), rfl⟩
        rintro ⟨i, hinv⟩
        dsimp only
        have hi := hinv
        refine AW_seq ?_
        refine AW_seq ?_
        refine AW_region ?_
        refine AL_p (x_move rfl rfl) ?_
        refine AL_b (x_lss rfl rfl rfl) (fun b109 h109 => ?_)
        refine AL_nil ?_
        cases b109
        · try simp only [tdy] at h109
          refine AW_condF rfl ?_
          refine AW_exit (BQ_hit ?_)
          refine AW_seq ?_
          refine AW_region ?_
          refine AL_p (x_move rfl rfl) ?_
          refine AL_p (x_assign rfl rfl) ?_
          refine AL_nil ?_
          refine AW_ret ?_
          exact ⟨rn [(0, 112)], ⟨⟨⟨_, rfl, VLe.rf⟩, trivial⟩, ⟨⟨_, rfl, BLe.arr (by first | (rw [bodyB_add (by omega)]; simp only [flatTo_all (f := actBytes) (xs := m.acts) (k := j) (by omega), List.append_assoc, List.nil_append]; done) | (rw [bodyB_flip (by omega)]; done) | (rw [bodyB_flip (by omega)]; simp only [List.append_assoc, List.nil_append]; done) | (rw [bodyB_note (by omega)]; simp only [headBy, flatTo_all (f := fun n => putB n 6) (xs := m.head.v) (k := i) (by omega), List.append_assoc, List.nil_append]; done) | (rw [bodyB_note (by omega), flatTo_all (f := fun n => putB n 6) (xs := m.head.v) (k := i) (by omega)]; simp [headBy, handB, *]; done) | (rw [bodyB_none (by omega) (by omega) (by omega)]; done) | (rw [bodyB_none (by omega) (by omega) (by omega)]; simp only [List.append_nil]; done) | (exfalso; omega))⟩, trivial⟩, trivial, rfl⟩⟩
        try simp only [tdy] at h109
        have hf8 := fits48 (eight_get hN2 (k := i) (by omega))
        have hhi := hhf i
        refine AW_condT rfl ?_
        refine AW_skip ?_
        refine AW_seq ?_
        refine AW_block ?_
        refine AW_region ?_
        refine AL_p (x_move rfl rfl) ?_
        refine AL_p (x_field (off := 9) (o' := 9) rfl rfl rfl (by kernel_rfl) rfl) ?_
        refine AL_p (x_field (off := 0) (o' := 9) rfl rfl rfl (by kernel_rfl) rfl) ?_
        refine AL_p (x_load1 rfl rfl rfl (by kernel_rfl) rfl) ?_
        refine AL_p (x_move rfl rfl) ?_
        refine AL_p (x_index (E := 3) (n := 1) rfl rfl rfl (by kernel_rfl) rfl (k := i) (by omega) (by omega)) ?_
        refine AL_p (x_eload1 rfl rfl (by kernel_rfl) rfl) ?_
        refine AL_p (x_callR rfl rfl rfl (putNumS_c _ (m.head.v[i]'(by omega)) 6 (by omega) (by have e : (256 : Int) ^ 6 = 281474976710656 := rfl; omega) (by omega) (by omega) (by (try simp only [List.length_append, List.length_cons, List.length_nil, putB_len, pairTo_len]); omega) 113) rfl AllV.rf rfl rfl rfl rfl rfl) ?_
        refine AL_p (x_move rfl rfl) ?_
        refine AL_p (x_extract rfl rfl rfl) ?_
        refine AL_p (x_extract rfl rfl rfl) ?_
        refine AL_p (x_assign rfl rfl) ?_
        refine AL_nil ?_
        refine AW_region ?_
        refine AL_p (x_move rfl rfl) ?_
        refine AL_p (x_add rfl rfl rfl (IntWalk.i64_in _ (by omega))) ?_
        refine AL_p (x_assign rfl rfl) ?_
        refine AL_nil ?_
        refine ⟨⟨i + 1, by omega⟩, rn [(112, 113)], ?_, by dsimp only; omega⟩
        exact ⟨by (repeat refine ⟨⟨_, rfl, by first | exact VLe.rf | exact vle_int (by dsimp only; omega)⟩, ?_⟩); exact trivial, by (repeat refine ⟨⟨_, rfl, by first | exact BLe.rf | exact BLe.box AllC.rf | exact BLe.arr (by first | (rw [flatTo_zero, List.append_nil]; simp [handB, *]; done) | (rw [← flatTo_more (f := fun n => putB n 6) (k := i) (by omega)]; simp only [List.append_assoc]; done) | (exfalso; omega))⟩, ?_⟩); exact trivial, by repeat (first | exact trivial | refine ⟨⟨rfl, by first | (left; intro h; cases h) | (right; rfl), by first | exact (fun _ h => ⟨_, h⟩) | exact (fun _ _ => ⟨_, rfl⟩)⟩, ?_⟩), rfl⟩
      try simp only [tdy] at h101
      refine AW_condF rfl ?_
      refine AW_region ?_
      refine AL_p (x_move rfl rfl) ?_
      refine AL_p (y_bslice (E := 5) (e := (intE .u8)) [.const (.int .u8 (0))] ([0]) 114 rfl rfl rfl rfl rfl rfl rfl rfl FitL.rf rfl rfl rfl rfl rfl rfl (by kernel_rfl)) ?_
      refine AL_p (y_append 115 rfl rfl rfl rfl rfl rfl rfl rfl (by kernel_rfl) (by (try simp only [List.length_append, List.length_cons, List.length_nil, putB_len, pairTo_len]); omega)) ?_
      refine AL_p (x_assign rfl rfl) ?_
      refine AL_nil ?_
      refine AW_seq ?_
      refine AW_region ?_
      refine AL_p (x_assign rfl rfl) ?_
      refine AL_nil ?_
      refine AW_block ?_
      refine AW_loop2 (ι := {q : Nat // q ≤ m.head.v.length}) (fun p => [(3, .one (.own 115)), (7, .one (.c (.int .i64 ((p.1) : Int))))]) (fun p => [(115, some (.arr 5 (intE .u8) ([handB m.hand] ++ flatTo (fun n => putB n 6) m.head.v (p.1)) true))]) [1] [100] (fun p => m.head.v.length - (p.1)) ⟨0, by omega⟩ (rn []) ?_ ?_
      exact ⟨by (repeat refine ⟨⟨_, rfl, by first | exact VLe.rf | exact vle_int (by dsimp only; omega)⟩, ?_⟩); exact trivial, by (repeat refine ⟨⟨_, rfl, by first | exact BLe.rf | exact BLe.box AllC.rf | exact BLe.arr (by first | (rw [flatTo_zero, List.append_nil]; simp [handB, *]; done) | (rw [← flatTo_more (f := fun n => putB n 6) (k := i) (by omega)]; simp only [List.append_assoc]; done) | (exfalso; omega))⟩, ?_⟩); exact trivial, by repeat (first | exact trivial | refine ⟨⟨rfl, by first | (left; intro h; cases h) | (right; rfl), by first | exact (fun _ h => ⟨_, h⟩) | exact (fun _ _ => ⟨_, rfl⟩)⟩, ?_⟩), rfl⟩
      rintro ⟨i, hinv⟩
      dsimp only
      have hi := hinv
      refine AW_seq ?_
      refine AW_seq ?_
      refine AW_region ?_
      refine AL_p (x_move rfl rfl) ?_
      refine AL_b (x_lss rfl rfl rfl) (fun b109 h109 => ?_)
      refine AL_nil ?_
      cases b109
      · try simp only [tdy] at h109
        refine AW_condF rfl ?_
        refine AW_exit (BQ_hit ?_)
        refine AW_seq ?_
        refine AW_region ?_
        refine AL_p (x_move rfl rfl) ?_
        refine AL_p (x_assign rfl rfl) ?_
        refine AL_nil ?_
        refine AW_ret ?_
        exact ⟨rn [(0, 115)], ⟨⟨⟨_, rfl, VLe.rf⟩, trivial⟩, ⟨⟨_, rfl, BLe.arr (by first | (rw [bodyB_add (by omega)]; simp only [flatTo_all (f := actBytes) (xs := m.acts) (k := j) (by omega), List.append_assoc, List.nil_append]; done) | (rw [bodyB_flip (by omega)]; done) | (rw [bodyB_flip (by omega)]; simp only [List.append_assoc, List.nil_append]; done) | (rw [bodyB_note (by omega)]; simp only [headBy, flatTo_all (f := fun n => putB n 6) (xs := m.head.v) (k := i) (by omega), List.append_assoc, List.nil_append]; done) | (rw [bodyB_note (by omega), flatTo_all (f := fun n => putB n 6) (xs := m.head.v) (k := i) (by omega)]; simp [headBy, handB, *]; done) | (rw [bodyB_none (by omega) (by omega) (by omega)]; done) | (rw [bodyB_none (by omega) (by omega) (by omega)]; simp only [List.append_nil]; done) | (exfalso; omega))⟩, trivial⟩, trivial, rfl⟩⟩
      try simp only [tdy] at h109
      have hf8 := fits48 (eight_get hN2 (k := i) (by omega))
      have hhi := hhf i
      refine AW_condT rfl ?_
      refine AW_skip ?_
      refine AW_seq ?_
      refine AW_block ?_
      refine AW_region ?_
      refine AL_p (x_move rfl rfl) ?_
      refine AL_p (x_field (off := 9) (o' := 9) rfl rfl rfl (by kernel_rfl) rfl) ?_
      refine AL_p (x_field (off := 0) (o' := 9) rfl rfl rfl (by kernel_rfl) rfl) ?_
      refine AL_p (x_load1 rfl rfl rfl (by kernel_rfl) rfl) ?_
      refine AL_p (x_move rfl rfl) ?_
      refine AL_p (x_index (E := 3) (n := 1) rfl rfl rfl (by kernel_rfl) rfl (k := i) (by omega) (by omega)) ?_
      refine AL_p (x_eload1 rfl rfl (by kernel_rfl) rfl) ?_
      refine AL_p (x_callR rfl rfl rfl (putNumS_c _ (m.head.v[i]'(by omega)) 6 (by omega) (by have e : (256 : Int) ^ 6 = 281474976710656 := rfl; omega) (by omega) (by omega) (by (try simp only [List.length_append, List.length_cons, List.length_nil, putB_len, pairTo_len]); omega) 113) rfl AllV.rf rfl rfl rfl rfl rfl) ?_
      refine AL_p (x_move rfl rfl) ?_
      refine AL_p (x_extract rfl rfl rfl) ?_
      refine AL_p (x_extract rfl rfl rfl) ?_
      refine AL_p (x_assign rfl rfl) ?_
      refine AL_nil ?_
      refine AW_region ?_
      refine AL_p (x_move rfl rfl) ?_
      refine AL_p (x_add rfl rfl rfl (IntWalk.i64_in _ (by omega))) ?_
      refine AL_p (x_assign rfl rfl) ?_
      refine AL_nil ?_
      refine ⟨⟨i + 1, by omega⟩, rn [(115, 113)], ?_, by dsimp only; omega⟩
      exact ⟨by (repeat refine ⟨⟨_, rfl, by first | exact VLe.rf | exact vle_int (by dsimp only; omega)⟩, ?_⟩); exact trivial, by (repeat refine ⟨⟨_, rfl, by first | exact BLe.rf | exact BLe.box AllC.rf | exact BLe.arr (by first | (rw [flatTo_zero, List.append_nil]; simp [handB, *]; done) | (rw [← flatTo_more (f := fun n => putB n 6) (k := i) (by omega)]; simp only [List.append_assoc]; done) | (exfalso; omega))⟩, ?_⟩); exact trivial, by repeat (first | exact trivial | refine ⟨⟨rfl, by first | (left; intro h; cases h) | (right; rfl), by first | exact (fun _ h => ⟨_, h⟩) | exact (fun _ _ => ⟨_, rfl⟩)⟩, ?_⟩), rfl⟩
    try simp only [tdy] at h26
    have hA2 := hA (by omega)
    have hmat := hA2.2.1
    have hact := hA2.2.2
    have hA3 := hA2.1
    have ha12 := actsB_12 hact
    have hpl : putB (m.acts.length : Int) 1 = [(m.acts.length : Int)] := putB_one (by omega) (by omega)
    have haf := acts_len (l := m.acts)
    refine AW_condT rfl ?_
    refine AW_seq ?_
    refine AW_region ?_
    refine AL_p (x_move rfl rfl) ?_
    refine AL_p (x_field (off := 4) (o' := 4) rfl rfl rfl (by kernel_rfl) rfl) ?_
    refine AL_p (x_load1 rfl rfl rfl (by kernel_rfl) rfl) ?_
    refine AL_p (x_callR rfl rfl rfl (putNumS_c _ m.prio 2 (by omega) (by have e : (256 : Int) ^ 2 = 65536 := rfl; omega) (by omega) (by omega) (by (try simp only [List.length_append, List.length_cons, List.length_nil, putB_len, pairTo_len]); omega) 103) rfl AllV.rf rfl rfl rfl rfl rfl) ?_
    refine AL_p (x_move rfl rfl) ?_
    refine AL_p (x_extract rfl rfl rfl) ?_
    refine AL_p (x_extract rfl rfl rfl) ?_
    refine AL_p (x_assign rfl rfl) ?_
    refine AL_nil ?_
    refine AW_seq ?_
    refine AW_seq ?_
    refine AW_region ?_
    refine AL_p (x_assign rfl rfl) ?_
    refine AL_nil ?_
    refine AW_block ?_
    refine AW_loop2 (ι := {q : Nat // q ≤ 8}) (fun p => [(3, .one (.own 103)), (4, .one (.c (.int .i64 ((p.1) : Int))))]) (fun p => [(103, some (.arr 5 (intE .u8) (putB m.epoch 4 ++ putB m.prio 2 ++ pairTo m.mat (p.1)) true))]) [1] [100, 101] (fun p => 8 - (p.1)) ⟨0, by omega⟩ (rn []) ?_ ?_
    exact ⟨by (repeat refine ⟨⟨_, rfl, by first | exact VLe.rf | exact vle_int (by dsimp only; omega)⟩, ?_⟩); exact trivial, by (repeat refine ⟨⟨_, rfl, by first | exact BLe.rf | exact BLe.box AllC.rf | exact BLe.arr (by first | (rw [pairTo_zero, List.append_nil]; done) | (rw [← pairTo_more hv1 hm1]; simp only [List.append_assoc]; done) | (exfalso; omega))⟩, ?_⟩); exact trivial, by repeat (first | exact trivial | refine ⟨⟨rfl, by first | (left; intro h; cases h) | (right; rfl), by first | exact (fun _ h => ⟨_, h⟩) | exact (fun _ _ => ⟨_, rfl⟩)⟩, ?_⟩), rfl⟩
    rintro ⟨k, hinv⟩
    dsimp only
    have hk := hinv
    refine AW_seq ?_
    refine AW_seq ?_
    refine AW_region ?_
    refine AL_p (x_move rfl rfl) ?_
    refine AL_b (x_lss rfl rfl rfl) (fun b35 h35 => ?_)
    refine AL_nil ?_
    cases b35
    rotate_left
    · try simp only [tdy] at h35
      obtain ⟨hv1, hm1, hvr, hmr⟩ := matchB_get hmat (fun x hx => (hi0_5 x hx).2) (k := k) (by omega)
      refine AW_condT rfl ?_
      refine AW_skip ?_
      refine AW_seq ?_
      refine AW_block ?_
      refine AW_seq ?_
      refine AW_region ?_
      refine AL_p (x_move rfl rfl) ?_
      refine AL_p (x_field (off := 5) (o' := 5) rfl rfl rfl (by kernel_rfl) rfl) ?_
      refine AL_p (x_field (off := 0) (o' := 5) rfl rfl rfl (by kernel_rfl) rfl) ?_
      refine AL_p (x_load1 rfl rfl rfl (by kernel_rfl) rfl) ?_
      refine AL_p (x_move rfl rfl) ?_
      refine AL_p (x_index (E := 3) (n := 1) rfl rfl rfl (by kernel_rfl) rfl (k := k) (by omega) (by omega)) ?_
      refine AL_p (x_eload1 rfl rfl (by kernel_rfl) rfl) ?_
      refine AL_p (x_callR rfl rfl rfl (putNumS_c _ (m.mat.v[k]'hv1) 6 (by omega) (by have e : (256 : Int) ^ 6 = 281474976710656 := rfl; omega) (by omega) (by omega) (by (try simp only [List.length_append, List.length_cons, List.length_nil, putB_len, pairTo_len]); omega) 104) rfl AllV.rf rfl rfl rfl rfl rfl) ?_
      refine AL_p (x_move rfl rfl) ?_
      refine AL_p (x_extract rfl rfl rfl) ?_
      refine AL_p (x_extract rfl rfl rfl) ?_
      refine AL_p (x_assign rfl rfl) ?_
      refine AL_nil ?_
      refine AW_region ?_
      refine AL_p (x_move rfl rfl) ?_
      refine AL_p (x_field (off := 5) (o' := 5) rfl rfl rfl (by kernel_rfl) rfl) ?_
      refine AL_p (x_field (off := 1) (o' := 6) rfl rfl rfl (by kernel_rfl) rfl) ?_
      refine AL_p (x_load1 rfl rfl rfl (by kernel_rfl) rfl) ?_
      refine AL_p (x_move rfl rfl) ?_
      refine AL_p (x_index (E := 3) (n := 1) rfl rfl rfl (by kernel_rfl) rfl (k := k) (by omega) (by omega)) ?_
      refine AL_p (x_eload1 rfl rfl (by kernel_rfl) rfl) ?_
      refine AL_p (x_callR rfl rfl rfl (putNumS_c _ (m.mat.m[k]'hm1) 6 (by omega) (by have e : (256 : Int) ^ 6 = 281474976710656 := rfl; omega) (by omega) (by omega) (by (try simp only [List.length_append, List.length_cons, List.length_nil, putB_len, pairTo_len]); omega) 105) rfl AllV.rf rfl rfl rfl rfl rfl) ?_
      refine AL_p (x_move rfl rfl) ?_
      refine AL_p (x_extract rfl rfl rfl) ?_
      refine AL_p (x_extract rfl rfl rfl) ?_
      refine AL_p (x_assign rfl rfl) ?_
      refine AL_nil ?_
      refine AW_region ?_
      refine AL_p (x_move rfl rfl) ?_
      refine AL_p (x_add rfl rfl rfl (IntWalk.i64_in _ (by omega))) ?_
      refine AL_p (x_assign rfl rfl) ?_
      refine AL_nil ?_
      refine ⟨⟨k + 1, by omega⟩, rn [(103, 105)], ?_, by dsimp only; omega⟩
      exact ⟨by (repeat refine ⟨⟨_, rfl, by first | exact VLe.rf | exact vle_int (by dsimp only; omega)⟩, ?_⟩); exact trivial, by (repeat refine ⟨⟨_, rfl, by first | exact BLe.rf | exact BLe.box AllC.rf | exact BLe.arr (by first | (rw [pairTo_zero, List.append_nil]; done) | (rw [← pairTo_more hv1 hm1]; simp only [List.append_assoc]; done) | (exfalso; omega))⟩, ?_⟩); exact trivial, by repeat (first | exact trivial | refine ⟨⟨rfl, by first | (left; intro h; cases h) | (right; rfl), by first | exact (fun _ h => ⟨_, h⟩) | exact (fun _ _ => ⟨_, rfl⟩)⟩, ?_⟩), rfl⟩
    try simp only [tdy] at h35
    obtain rfl : k = 8 := by omega
    refine AW_condF rfl ?_
    refine AW_exit (BQ_hit ?_)
    refine AW_seq ?_
    refine AW_region ?_
    refine AL_p (x_move rfl rfl) ?_
    refine AL_p (x_field (off := 7) (o' := 7) rfl rfl rfl (by kernel_rfl) rfl) ?_
    refine AL_p (x_load1 rfl rfl rfl (by kernel_rfl) rfl) ?_
    refine AL_p (x_len (E := 114) (n := 3) rfl rfl (by kernel_rfl)) ?_
    refine AL_p (x_callR rfl rfl rfl (putNumS_c _ (m.acts.length : Int) 1 (by omega) (by have e : (256 : Int) ^ 1 = 256 := rfl; omega) (by omega) (by omega) (by (try simp only [List.length_append, List.length_cons, List.length_nil, putB_len, pairTo_len]); omega) 106) rfl AllV.rf rfl rfl rfl rfl rfl) ?_
    refine AL_p (x_move rfl rfl) ?_
    refine AL_p (x_extract rfl rfl rfl) ?_
    refine AL_p (x_extract rfl rfl rfl) ?_
    refine AL_p (x_assign rfl rfl) ?_
    refine AL_nil ?_
    refine AW_seq ?_
    refine AW_region ?_
    refine AL_p (x_field (off := 7) (o' := 7) rfl rfl rfl (by kernel_rfl) rfl) ?_
    refine AL_p (x_load1 rfl rfl rfl (by kernel_rfl) rfl) ?_
    refine AL_p (x_len (E := 114) (n := 3) rfl rfl (by kernel_rfl)) ?_
    refine AL_p (x_move rfl rfl) ?_
    refine AL_nil ?_
    refine AW_block ?_
    refine AW_loop2 (ι := {q : Nat // q ≤ m.acts.length}) (fun p => [(3, .one (.own 106)), (71, .one (.c (.int .i64 ((p.1) : Int))))]) (fun p => [(106, some (.arr 5 (intE .u8) (putB m.epoch 4 ++ putB m.prio 2 ++ pairTo m.mat 8 ++ [(m.acts.length : Int)] ++ flatTo actBytes m.acts (p.1)) true))]) [1, 69, 70] [100, 101, 103] (fun p => m.acts.length - (p.1)) ⟨0, by omega⟩ (rn []) ?_ ?_
    exact ⟨by (repeat refine ⟨⟨_, rfl, by first | exact VLe.rf | exact vle_int (by dsimp only; omega)⟩, ?_⟩); exact trivial, by (repeat refine ⟨⟨_, rfl, by first | exact BLe.rf | exact BLe.box AllC.rf | exact BLe.arr (by first | (rw [flatTo_zero, List.append_nil]; done) | (rw [hpl, flatTo_zero, List.append_nil]; done) | (rw [← flatTo_more (f := actBytes) (k := j) (by omega)]; simp only [actBytes, hp1, hp2, List.append_assoc, List.cons_append, List.nil_append]; done) | (exfalso; omega))⟩, ?_⟩); exact trivial, by repeat (first | exact trivial | refine ⟨⟨rfl, by first | (left; intro h; cases h) | (right; rfl), by first | exact (fun _ h => ⟨_, h⟩) | exact (fun _ _ => ⟨_, rfl⟩)⟩, ?_⟩), rfl⟩
    rintro ⟨j, hinv⟩
    dsimp only
    have hj := hinv
    refine AW_seq ?_
    refine AW_region ?_
    refine AL_b (x_lss rfl rfl rfl) (fun b72 h72 => ?_)
    refine AL_nil ?_
    refine AW_seq ?_
    cases b72
    rotate_left
    · try simp only [tdy] at h72
      have hab := actB_in (actsB_get hact (k := j) (by omega))
      have hp1 : putB (m.acts[j]'(by omega)).kind 1 = [(m.acts[j]'(by omega)).kind] := putB_one (by omega) (by omega)
      have hp2 : putB (m.acts[j]'(by omega)).a 1 = [(m.acts[j]'(by omega)).a] := putB_one (by omega) (by omega)
      have haj := haf j
      refine AW_condT rfl ?_
      refine AW_skip ?_
      refine AW_seq ?_
      refine AW_block ?_
      refine AW_seq ?_
      refine AW_region ?_
      refine AL_p (x_index (E := 114) (n := 3) rfl rfl rfl (by kernel_rfl) rfl (k := j) (by omega) (by omega)) ?_
      refine AL_p (x_eloadW (n := 3) rfl rfl (by kernel_rfl) rfl) ?_
      refine AL_p (x_alloc (z := .agg #[.int .i64 0, .int .i64 0, .int .i64 0]) 107 rfl (by kernel_rfl) rfl rfl rfl rfl) ?_
      refine AL_p (x_store (n := 3) rfl rfl rfl rfl (by kernel_rfl) rfl rfl rfl) ?_
      refine AL_nil ?_
      refine AW_seq ?_
      refine AW_region ?_
      refine AL_p (x_move rfl rfl) ?_
      refine AL_p (x_field (off := 0) (o' := 0) rfl rfl rfl (by kernel_rfl) rfl) ?_
      refine AL_p (x_load1 rfl rfl rfl (by kernel_rfl) rfl) ?_
      refine AL_p (x_callR rfl rfl rfl (putNumS_c _ (m.acts[j]'(by omega)).kind 1 (by omega) (by have e : (256 : Int) ^ 1 = 256 := rfl; omega) (by omega) (by omega) (by (try simp only [List.length_append, List.length_cons, List.length_nil, putB_len, pairTo_len]); omega) 108) rfl AllV.rf rfl rfl rfl rfl rfl) ?_
      refine AL_p (x_move rfl rfl) ?_
      refine AL_p (x_extract rfl rfl rfl) ?_
      refine AL_p (x_extract rfl rfl rfl) ?_
      refine AL_p (x_assign rfl rfl) ?_
      refine AL_nil ?_
      refine AW_seq ?_
      refine AW_region ?_
      refine AL_p (x_move rfl rfl) ?_
      refine AL_p (x_field (off := 1) (o' := 1) rfl rfl rfl (by kernel_rfl) rfl) ?_
      refine AL_p (x_load1 rfl rfl rfl (by kernel_rfl) rfl) ?_
      refine AL_p (x_callR rfl rfl rfl (putNumS_c _ (m.acts[j]'(by omega)).a 1 (by omega) (by have e : (256 : Int) ^ 1 = 256 := rfl; omega) (by omega) (by omega) (by (try simp only [List.length_append, List.length_cons, List.length_nil, putB_len, pairTo_len]); omega) 109) rfl AllV.rf rfl rfl rfl rfl rfl) ?_
      refine AL_p (x_move rfl rfl) ?_
      refine AL_p (x_extract rfl rfl rfl) ?_
      refine AL_p (x_extract rfl rfl rfl) ?_
      refine AL_p (x_assign rfl rfl) ?_
      refine AL_nil ?_
      refine AW_region ?_
      refine AL_p (x_move rfl rfl) ?_
      refine AL_p (x_field (off := 2) (o' := 2) rfl rfl rfl (by kernel_rfl) rfl) ?_
      refine AL_p (x_load1 rfl rfl rfl (by kernel_rfl) rfl) ?_
      refine AL_p (x_callR rfl rfl rfl (putNumS_c _ (m.acts[j]'(by omega)).b 6 (by omega) (by have e : (256 : Int) ^ 6 = 281474976710656 := rfl; omega) (by omega) (by omega) (by (try simp only [List.length_append, List.length_cons, List.length_nil, putB_len, pairTo_len]); omega) 110) rfl AllV.rf rfl rfl rfl rfl rfl) ?_
      refine AL_p (x_move rfl rfl) ?_
      refine AL_p (x_extract rfl rfl rfl) ?_
      refine AL_p (x_extract rfl rfl rfl) ?_
      refine AL_p (x_assign rfl rfl) ?_
      refine AL_nil ?_
      refine AW_region ?_
      refine AL_p (x_add rfl rfl rfl (IntWalk.i64_in _ (by omega))) ?_
      refine AL_p (x_move rfl rfl) ?_
      refine AL_nil ?_
      refine ⟨⟨j + 1, by omega⟩, rn [(106, 110)], ?_, by dsimp only; omega⟩
      exact ⟨by (repeat refine ⟨⟨_, rfl, by first | exact VLe.rf | exact vle_int (by dsimp only; omega)⟩, ?_⟩); exact trivial, by (repeat refine ⟨⟨_, rfl, by first | exact BLe.rf | exact BLe.box AllC.rf | exact BLe.arr (by first | (rw [flatTo_zero, List.append_nil]; done) | (rw [hpl, flatTo_zero, List.append_nil]; done) | (rw [← flatTo_more (f := actBytes) (k := j) (by omega)]; simp only [actBytes, hp1, hp2, List.append_assoc, List.cons_append, List.nil_append]; done) | (exfalso; omega))⟩, ?_⟩); exact trivial, by repeat (first | exact trivial | refine ⟨⟨rfl, by first | (left; intro h; cases h) | (right; rfl), by first | exact (fun _ h => ⟨_, h⟩) | exact (fun _ _ => ⟨_, rfl⟩)⟩, ?_⟩), rfl⟩
    try simp only [tdy] at h72
    refine AW_condF rfl ?_
    refine AW_exit (BQ_hit ?_)
    refine AW_seq ?_
    refine AW_seq ?_
    refine AW_region ?_
    refine AL_p (x_field (off := 0) (o' := 0) rfl rfl rfl (by kernel_rfl) rfl) ?_
    refine AL_p (x_load1 rfl rfl rfl (by kernel_rfl) rfl) ?_
    refine AL_b (x_eql rfl rfl rfl) (fun b99 h99 => ?_)
    refine AL_nil ?_
    cases b99
    · try simp only [tdy] at h99
      refine AW_condF rfl ?_
      refine AW_skip ?_
      refine AW_seq ?_
      refine AW_region ?_
      refine AL_p (x_move rfl rfl) ?_
      refine AL_p (x_assign rfl rfl) ?_
      refine AL_nil ?_
      refine AW_ret ?_
      exact ⟨rn [(0, 106)], ⟨⟨⟨_, rfl, VLe.rf⟩, trivial⟩, ⟨⟨_, rfl, BLe.arr (by first | (rw [bodyB_add (by omega)]; simp only [flatTo_all (f := actBytes) (xs := m.acts) (k := j) (by omega), List.append_assoc, List.nil_append]; done) | (rw [bodyB_flip (by omega)]; done) | (rw [bodyB_flip (by omega)]; simp only [List.append_assoc, List.nil_append]; done) | (rw [bodyB_note (by omega)]; simp only [headBy, flatTo_all (f := fun n => putB n 6) (xs := m.head.v) (k := i) (by omega), List.append_assoc, List.nil_append]; done) | (rw [bodyB_note (by omega), flatTo_all (f := fun n => putB n 6) (xs := m.head.v) (k := i) (by omega)]; simp [headBy, handB, *]; done) | (rw [bodyB_none (by omega) (by omega) (by omega)]; done) | (rw [bodyB_none (by omega) (by omega) (by omega)]; simp only [List.append_nil]; done) | (exfalso; omega))⟩, trivial⟩, trivial, rfl⟩⟩
    try simp only [tdy] at h99
    have hN2 := hN (by omega)
    have hN8 := eight_8 hN2
    have hhf := head_len (l := m.head.v)
    refine AW_condT rfl ?_
    refine AW_seq ?_
    refine AW_seq ?_
    refine AW_region ?_
    refine AL_p (x_field (off := 8) (o' := 8) rfl rfl rfl (by kernel_rfl) rfl) ?_
    refine AL_b (x_load1 rfl rfl rfl (by kernel_rfl) rfl) (fun b101 h101 => ?_)
    refine AL_nil ?_
    cases b101
    rotate_left
    · try simp only [tdy] at h101
      refine AW_condT rfl ?_
      refine AW_region ?_
      refine AL_p (x_move rfl rfl) ?_
      refine AL_p (y_bslice (E := 5) (e := (intE .u8)) [.const (.int .u8 (1))] ([1]) 111 rfl rfl rfl rfl rfl rfl rfl rfl FitL.rf rfl rfl rfl rfl rfl rfl (by kernel_rfl)) ?_
      refine AL_p (y_append 112 rfl rfl rfl rfl rfl rfl rfl rfl (by kernel_rfl) (by (try simp only [List.length_append, List.length_cons, List.length_nil, putB_len, pairTo_len]); omega)) ?_
      refine AL_p (x_assign rfl rfl) ?_
      refine AL_nil ?_
      refine AW_seq ?_
      refine AW_region ?_
      refine AL_p (x_assign rfl rfl) ?_
      refine AL_nil ?_
      refine AW_block ?_
      refine AW_loop2 (ι := {q : Nat // q ≤ m.head.v.length}) (fun p => [(3, .one (.own 112)), (7, .one (.c (.int .i64 ((p.1) : Int))))]) (fun p => [(112, some (.arr 5 (intE .u8) ([handB m.hand] ++ flatTo (fun n => putB n 6) m.head.v (p.1)) true))]) [1] [100, 101, 103] (fun p => m.head.v.length - (p.1)) ⟨0, by omega⟩ (rn []) ?_ ?_
      exact ⟨by (repeat refine ⟨⟨_, rfl, by first | exact VLe.rf | exact vle_int (by dsimp only; omega)⟩, ?_⟩); exact trivial, by (repeat refine ⟨⟨_, rfl, by first | exact BLe.rf | exact BLe.box AllC.rf | exact BLe.arr (by first | (rw [flatTo_zero, List.append_nil]; simp [handB, *]; done) | (rw [← flatTo_more (f := fun n => putB n 6) (k := i) (by omega)]; simp only [List.append_assoc]; done) | (exfalso; omega))⟩, ?_⟩); exact trivial, by repeat (first | exact trivial | refine ⟨⟨rfl, by first | (left; intro h; cases h) | (right; rfl), by first | exact (fun _ h => ⟨_, h⟩) | exact (fun _ _ => ⟨_, rfl⟩)⟩, ?_⟩), rfl⟩
      rintro ⟨i, hinv⟩
      dsimp only
      have hi := hinv
      refine AW_seq ?_
      refine AW_seq ?_
      refine AW_region ?_
      refine AL_p (x_move rfl rfl) ?_
      refine AL_b (x_lss rfl rfl rfl) (fun b109 h109 => ?_)
      refine AL_nil ?_
      cases b109
      · try simp only [tdy] at h109
        refine AW_condF rfl ?_
        refine AW_exit (BQ_hit ?_)
        refine AW_seq ?_
        refine AW_region ?_
        refine AL_p (x_move rfl rfl) ?_
        refine AL_p (x_assign rfl rfl) ?_
        refine AL_nil ?_
        refine AW_ret ?_
        exact ⟨rn [(0, 112)], ⟨⟨⟨_, rfl, VLe.rf⟩, trivial⟩, ⟨⟨_, rfl, BLe.arr (by first | (rw [bodyB_add (by omega)]; simp only [flatTo_all (f := actBytes) (xs := m.acts) (k := j) (by omega), List.append_assoc, List.nil_append]; done) | (rw [bodyB_flip (by omega)]; done) | (rw [bodyB_flip (by omega)]; simp only [List.append_assoc, List.nil_append]; done) | (rw [bodyB_note (by omega)]; simp only [headBy, flatTo_all (f := fun n => putB n 6) (xs := m.head.v) (k := i) (by omega), List.append_assoc, List.nil_append]; done) | (rw [bodyB_note (by omega), flatTo_all (f := fun n => putB n 6) (xs := m.head.v) (k := i) (by omega)]; simp [headBy, handB, *]; done) | (rw [bodyB_none (by omega) (by omega) (by omega)]; done) | (rw [bodyB_none (by omega) (by omega) (by omega)]; simp only [List.append_nil]; done) | (exfalso; omega))⟩, trivial⟩, trivial, rfl⟩⟩
      try simp only [tdy] at h109
      have hf8 := fits48 (eight_get hN2 (k := i) (by omega))
      have hhi := hhf i
      refine AW_condT rfl ?_
      refine AW_skip ?_
      refine AW_seq ?_
      refine AW_block ?_
      refine AW_region ?_
      refine AL_p (x_move rfl rfl) ?_
      refine AL_p (x_field (off := 9) (o' := 9) rfl rfl rfl (by kernel_rfl) rfl) ?_
      refine AL_p (x_field (off := 0) (o' := 9) rfl rfl rfl (by kernel_rfl) rfl) ?_
      refine AL_p (x_load1 rfl rfl rfl (by kernel_rfl) rfl) ?_
      refine AL_p (x_move rfl rfl) ?_
      refine AL_p (x_index (E := 3) (n := 1) rfl rfl rfl (by kernel_rfl) rfl (k := i) (by omega) (by omega)) ?_
      refine AL_p (x_eload1 rfl rfl (by kernel_rfl) rfl) ?_
      refine AL_p (x_callR rfl rfl rfl (putNumS_c _ (m.head.v[i]'(by omega)) 6 (by omega) (by have e : (256 : Int) ^ 6 = 281474976710656 := rfl; omega) (by omega) (by omega) (by (try simp only [List.length_append, List.length_cons, List.length_nil, putB_len, pairTo_len]); omega) 113) rfl AllV.rf rfl rfl rfl rfl rfl) ?_
      refine AL_p (x_move rfl rfl) ?_
      refine AL_p (x_extract rfl rfl rfl) ?_
      refine AL_p (x_extract rfl rfl rfl) ?_
      refine AL_p (x_assign rfl rfl) ?_
      refine AL_nil ?_
      refine AW_region ?_
      refine AL_p (x_move rfl rfl) ?_
      refine AL_p (x_add rfl rfl rfl (IntWalk.i64_in _ (by omega))) ?_
      refine AL_p (x_assign rfl rfl) ?_
      refine AL_nil ?_
      refine ⟨⟨i + 1, by omega⟩, rn [(112, 113)], ?_, by dsimp only; omega⟩
      exact ⟨by (repeat refine ⟨⟨_, rfl, by first | exact VLe.rf | exact vle_int (by dsimp only; omega)⟩, ?_⟩); exact trivial, by (repeat refine ⟨⟨_, rfl, by first | exact BLe.rf | exact BLe.box AllC.rf | exact BLe.arr (by first | (rw [flatTo_zero, List.append_nil]; simp [handB, *]; done) | (rw [← flatTo_more (f := fun n => putB n 6) (k := i) (by omega)]; simp only [List.append_assoc]; done) | (exfalso; omega))⟩, ?_⟩); exact trivial, by repeat (first | exact trivial | refine ⟨⟨rfl, by first | (left; intro h; cases h) | (right; rfl), by first | exact (fun _ h => ⟨_, h⟩) | exact (fun _ _ => ⟨_, rfl⟩)⟩, ?_⟩), rfl⟩
    try simp only [tdy] at h101
    refine AW_condF rfl ?_
    refine AW_region ?_
    refine AL_p (x_move rfl rfl) ?_
    refine AL_p (y_bslice (E := 5) (e := (intE .u8)) [.const (.int .u8 (0))] ([0]) 114 rfl rfl rfl rfl rfl rfl rfl rfl FitL.rf rfl rfl rfl rfl rfl rfl (by kernel_rfl)) ?_
    refine AL_p (y_append 115 rfl rfl rfl rfl rfl rfl rfl rfl (by kernel_rfl) (by (try simp only [List.length_append, List.length_cons, List.length_nil, putB_len, pairTo_len]); omega)) ?_
    refine AL_p (x_assign rfl rfl) ?_
    refine AL_nil ?_
    refine AW_seq ?_
    refine AW_region ?_
    refine AL_p (x_assign rfl rfl) ?_
    refine AL_nil ?_
    refine AW_block ?_
    refine AW_loop2 (ι := {q : Nat // q ≤ m.head.v.length}) (fun p => [(3, .one (.own 115)), (7, .one (.c (.int .i64 ((p.1) : Int))))]) (fun p => [(115, some (.arr 5 (intE .u8) ([handB m.hand] ++ flatTo (fun n => putB n 6) m.head.v (p.1)) true))]) [1] [100, 101, 103] (fun p => m.head.v.length - (p.1)) ⟨0, by omega⟩ (rn []) ?_ ?_
    exact ⟨by (repeat refine ⟨⟨_, rfl, by first | exact VLe.rf | exact vle_int (by dsimp only; omega)⟩, ?_⟩); exact trivial, by (repeat refine ⟨⟨_, rfl, by first | exact BLe.rf | exact BLe.box AllC.rf | exact BLe.arr (by first | (rw [flatTo_zero, List.append_nil]; simp [handB, *]; done) | (rw [← flatTo_more (f := fun n => putB n 6) (k := i) (by omega)]; simp only [List.append_assoc]; done) | (exfalso; omega))⟩, ?_⟩); exact trivial, by repeat (first | exact trivial | refine ⟨⟨rfl, by first | (left; intro h; cases h) | (right; rfl), by first | exact (fun _ h => ⟨_, h⟩) | exact (fun _ _ => ⟨_, rfl⟩)⟩, ?_⟩), rfl⟩
    rintro ⟨i, hinv⟩
    dsimp only
    have hi := hinv
    refine AW_seq ?_
    refine AW_seq ?_
    refine AW_region ?_
    refine AL_p (x_move rfl rfl) ?_
    refine AL_b (x_lss rfl rfl rfl) (fun b109 h109 => ?_)
    refine AL_nil ?_
    cases b109
    · try simp only [tdy] at h109
      refine AW_condF rfl ?_
      refine AW_exit (BQ_hit ?_)
      refine AW_seq ?_
      refine AW_region ?_
      refine AL_p (x_move rfl rfl) ?_
      refine AL_p (x_assign rfl rfl) ?_
      refine AL_nil ?_
      refine AW_ret ?_
      exact ⟨rn [(0, 115)], ⟨⟨⟨_, rfl, VLe.rf⟩, trivial⟩, ⟨⟨_, rfl, BLe.arr (by first | (rw [bodyB_add (by omega)]; simp only [flatTo_all (f := actBytes) (xs := m.acts) (k := j) (by omega), List.append_assoc, List.nil_append]; done) | (rw [bodyB_flip (by omega)]; done) | (rw [bodyB_flip (by omega)]; simp only [List.append_assoc, List.nil_append]; done) | (rw [bodyB_note (by omega)]; simp only [headBy, flatTo_all (f := fun n => putB n 6) (xs := m.head.v) (k := i) (by omega), List.append_assoc, List.nil_append]; done) | (rw [bodyB_note (by omega), flatTo_all (f := fun n => putB n 6) (xs := m.head.v) (k := i) (by omega)]; simp [headBy, handB, *]; done) | (rw [bodyB_none (by omega) (by omega) (by omega)]; done) | (rw [bodyB_none (by omega) (by omega) (by omega)]; simp only [List.append_nil]; done) | (exfalso; omega))⟩, trivial⟩, trivial, rfl⟩⟩
    try simp only [tdy] at h109
    have hf8 := fits48 (eight_get hN2 (k := i) (by omega))
    have hhi := hhf i
    refine AW_condT rfl ?_
    refine AW_skip ?_
    refine AW_seq ?_
    refine AW_block ?_
    refine AW_region ?_
    refine AL_p (x_move rfl rfl) ?_
    refine AL_p (x_field (off := 9) (o' := 9) rfl rfl rfl (by kernel_rfl) rfl) ?_
    refine AL_p (x_field (off := 0) (o' := 9) rfl rfl rfl (by kernel_rfl) rfl) ?_
    refine AL_p (x_load1 rfl rfl rfl (by kernel_rfl) rfl) ?_
    refine AL_p (x_move rfl rfl) ?_
    refine AL_p (x_index (E := 3) (n := 1) rfl rfl rfl (by kernel_rfl) rfl (k := i) (by omega) (by omega)) ?_
    refine AL_p (x_eload1 rfl rfl (by kernel_rfl) rfl) ?_
    refine AL_p (x_callR rfl rfl rfl (putNumS_c _ (m.head.v[i]'(by omega)) 6 (by omega) (by have e : (256 : Int) ^ 6 = 281474976710656 := rfl; omega) (by omega) (by omega) (by (try simp only [List.length_append, List.length_cons, List.length_nil, putB_len, pairTo_len]); omega) 113) rfl AllV.rf rfl rfl rfl rfl rfl) ?_
    refine AL_p (x_move rfl rfl) ?_
    refine AL_p (x_extract rfl rfl rfl) ?_
    refine AL_p (x_extract rfl rfl rfl) ?_
    refine AL_p (x_assign rfl rfl) ?_
    refine AL_nil ?_
    refine AW_region ?_
    refine AL_p (x_move rfl rfl) ?_
    refine AL_p (x_add rfl rfl rfl (IntWalk.i64_in _ (by omega))) ?_
    refine AL_p (x_assign rfl rfl) ?_
    refine AL_nil ?_
    refine ⟨⟨i + 1, by omega⟩, rn [(115, 113)], ?_, by dsimp only; omega⟩
    exact ⟨by (repeat refine ⟨⟨_, rfl, by first | exact VLe.rf | exact vle_int (by dsimp only; omega)⟩, ?_⟩); exact trivial, by (repeat refine ⟨⟨_, rfl, by first | exact BLe.rf | exact BLe.box AllC.rf | exact BLe.arr (by first | (rw [flatTo_zero, List.append_nil]; simp [handB, *]; done) | (rw [← flatTo_more (f := fun n => putB n 6) (k := i) (by omega)]; simp only [List.append_assoc]; done) | (exfalso; omega))⟩, ?_⟩); exact trivial, by repeat (first | exact trivial | refine ⟨⟨rfl, by first | (left; intro h; cases h) | (right; rfl), by first | exact (fun _ h => ⟨_, h⟩) | exact (fun _ _ => ⟨_, rfl⟩)⟩, ?_⟩), rfl⟩
  try simp only [tdy] at h15
  refine AW_condT rfl ?_
  refine AW_region ?_
  refine AL_p (x_move rfl rfl) ?_
  refine AL_p (x_field (off := 3) (o' := 3) rfl rfl rfl (by kernel_rfl) rfl) ?_
  refine AL_p (x_load1 rfl rfl rfl (by kernel_rfl) rfl) ?_
  refine AL_p (x_callR rfl rfl rfl (putNumS_c _ m.epoch 4 (by omega) (by have e : (256 : Int) ^ 4 = 4294967296 := rfl; omega) (by omega) (by omega) (by (try simp only [List.length_append, List.length_cons, List.length_nil, putB_len, pairTo_len]); omega) 102) rfl AllV.rf rfl rfl rfl rfl rfl) ?_
  refine AL_p (x_move rfl rfl) ?_
  refine AL_p (x_extract rfl rfl rfl) ?_
  refine AL_p (x_extract rfl rfl rfl) ?_
  refine AL_p (x_assign rfl rfl) ?_
  refine AL_nil ?_
  refine AW_seq ?_
  refine AW_seq ?_
  refine AW_region ?_
  refine AL_p (x_field (off := 0) (o' := 0) rfl rfl rfl (by kernel_rfl) rfl) ?_
  refine AL_p (x_load1 rfl rfl rfl (by kernel_rfl) rfl) ?_
  refine AL_b (x_eql rfl rfl rfl) (fun b26 h26 => ?_)
  refine AL_nil ?_
  cases b26
  · try simp only [tdy] at h26
    refine AW_condF rfl ?_
    refine AW_skip ?_
    refine AW_seq ?_
    refine AW_seq ?_
    refine AW_region ?_
    refine AL_p (x_field (off := 0) (o' := 0) rfl rfl rfl (by kernel_rfl) rfl) ?_
    refine AL_p (x_load1 rfl rfl rfl (by kernel_rfl) rfl) ?_
    refine AL_b (x_eql rfl rfl rfl) (fun b99 h99 => ?_)
    refine AL_nil ?_
    cases b99
    · try simp only [tdy] at h99
      refine AW_condF rfl ?_
      refine AW_skip ?_
      refine AW_seq ?_
      refine AW_region ?_
      refine AL_p (x_move rfl rfl) ?_
      refine AL_p (x_assign rfl rfl) ?_
      refine AL_nil ?_
      refine AW_ret ?_
      exact ⟨rn [(0, 102)], ⟨⟨⟨_, rfl, VLe.rf⟩, trivial⟩, ⟨⟨_, rfl, BLe.arr (by first | (rw [bodyB_add (by omega)]; simp only [flatTo_all (f := actBytes) (xs := m.acts) (k := j) (by omega), List.append_assoc, List.nil_append]; done) | (rw [bodyB_flip (by omega)]; done) | (rw [bodyB_flip (by omega)]; simp only [List.append_assoc, List.nil_append]; done) | (rw [bodyB_note (by omega)]; simp only [headBy, flatTo_all (f := fun n => putB n 6) (xs := m.head.v) (k := i) (by omega), List.append_assoc, List.nil_append]; done) | (rw [bodyB_note (by omega), flatTo_all (f := fun n => putB n 6) (xs := m.head.v) (k := i) (by omega)]; simp [headBy, handB, *]; done) | (rw [bodyB_none (by omega) (by omega) (by omega)]; done) | (rw [bodyB_none (by omega) (by omega) (by omega)]; simp only [List.append_nil]; done) | (exfalso; omega))⟩, trivial⟩, trivial, rfl⟩⟩
    try simp only [tdy] at h99
    have hN2 := hN (by omega)
    have hN8 := eight_8 hN2
    have hhf := head_len (l := m.head.v)
    refine AW_condT rfl ?_
    refine AW_seq ?_
    refine AW_seq ?_
    refine AW_region ?_
    refine AL_p (x_field (off := 8) (o' := 8) rfl rfl rfl (by kernel_rfl) rfl) ?_
    refine AL_b (x_load1 rfl rfl rfl (by kernel_rfl) rfl) (fun b101 h101 => ?_)
    refine AL_nil ?_
    cases b101
    rotate_left
    · try simp only [tdy] at h101
      refine AW_condT rfl ?_
      refine AW_region ?_
      refine AL_p (x_move rfl rfl) ?_
      refine AL_p (y_bslice (E := 5) (e := (intE .u8)) [.const (.int .u8 (1))] ([1]) 111 rfl rfl rfl rfl rfl rfl rfl rfl FitL.rf rfl rfl rfl rfl rfl rfl (by kernel_rfl)) ?_
      refine AL_p (y_append 112 rfl rfl rfl rfl rfl rfl rfl rfl (by kernel_rfl) (by (try simp only [List.length_append, List.length_cons, List.length_nil, putB_len, pairTo_len]); omega)) ?_
      refine AL_p (x_assign rfl rfl) ?_
      refine AL_nil ?_
      refine AW_seq ?_
      refine AW_region ?_
      refine AL_p (x_assign rfl rfl) ?_
      refine AL_nil ?_
      refine AW_block ?_
      refine AW_loop2 (ι := {q : Nat // q ≤ m.head.v.length}) (fun p => [(3, .one (.own 112)), (7, .one (.c (.int .i64 ((p.1) : Int))))]) (fun p => [(112, some (.arr 5 (intE .u8) ([handB m.hand] ++ flatTo (fun n => putB n 6) m.head.v (p.1)) true))]) [1] [100, 101] (fun p => m.head.v.length - (p.1)) ⟨0, by omega⟩ (rn []) ?_ ?_
      exact ⟨by (repeat refine ⟨⟨_, rfl, by first | exact VLe.rf | exact vle_int (by dsimp only; omega)⟩, ?_⟩); exact trivial, by (repeat refine ⟨⟨_, rfl, by first | exact BLe.rf | exact BLe.box AllC.rf | exact BLe.arr (by first | (rw [flatTo_zero, List.append_nil]; simp [handB, *]; done) | (rw [← flatTo_more (f := fun n => putB n 6) (k := i) (by omega)]; simp only [List.append_assoc]; done) | (exfalso; omega))⟩, ?_⟩); exact trivial, by repeat (first | exact trivial | refine ⟨⟨rfl, by first | (left; intro h; cases h) | (right; rfl), by first | exact (fun _ h => ⟨_, h⟩) | exact (fun _ _ => ⟨_, rfl⟩)⟩, ?_⟩), rfl⟩
      rintro ⟨i, hinv⟩
      dsimp only
      have hi := hinv
      refine AW_seq ?_
      refine AW_seq ?_
      refine AW_region ?_
      refine AL_p (x_move rfl rfl) ?_
      refine AL_b (x_lss rfl rfl rfl) (fun b109 h109 => ?_)
      refine AL_nil ?_
      cases b109
      · try simp only [tdy] at h109
        refine AW_condF rfl ?_
        refine AW_exit (BQ_hit ?_)
        refine AW_seq ?_
        refine AW_region ?_
        refine AL_p (x_move rfl rfl) ?_
        refine AL_p (x_assign rfl rfl) ?_
        refine AL_nil ?_
        refine AW_ret ?_
        exact ⟨rn [(0, 112)], ⟨⟨⟨_, rfl, VLe.rf⟩, trivial⟩, ⟨⟨_, rfl, BLe.arr (by first | (rw [bodyB_add (by omega)]; simp only [flatTo_all (f := actBytes) (xs := m.acts) (k := j) (by omega), List.append_assoc, List.nil_append]; done) | (rw [bodyB_flip (by omega)]; done) | (rw [bodyB_flip (by omega)]; simp only [List.append_assoc, List.nil_append]; done) | (rw [bodyB_note (by omega)]; simp only [headBy, flatTo_all (f := fun n => putB n 6) (xs := m.head.v) (k := i) (by omega), List.append_assoc, List.nil_append]; done) | (rw [bodyB_note (by omega), flatTo_all (f := fun n => putB n 6) (xs := m.head.v) (k := i) (by omega)]; simp [headBy, handB, *]; done) | (rw [bodyB_none (by omega) (by omega) (by omega)]; done) | (rw [bodyB_none (by omega) (by omega) (by omega)]; simp only [List.append_nil]; done) | (exfalso; omega))⟩, trivial⟩, trivial, rfl⟩⟩
      try simp only [tdy] at h109
      have hf8 := fits48 (eight_get hN2 (k := i) (by omega))
      have hhi := hhf i
      refine AW_condT rfl ?_
      refine AW_skip ?_
      refine AW_seq ?_
      refine AW_block ?_
      refine AW_region ?_
      refine AL_p (x_move rfl rfl) ?_
      refine AL_p (x_field (off := 9) (o' := 9) rfl rfl rfl (by kernel_rfl) rfl) ?_
      refine AL_p (x_field (off := 0) (o' := 9) rfl rfl rfl (by kernel_rfl) rfl) ?_
      refine AL_p (x_load1 rfl rfl rfl (by kernel_rfl) rfl) ?_
      refine AL_p (x_move rfl rfl) ?_
      refine AL_p (x_index (E := 3) (n := 1) rfl rfl rfl (by kernel_rfl) rfl (k := i) (by omega) (by omega)) ?_
      refine AL_p (x_eload1 rfl rfl (by kernel_rfl) rfl) ?_
      refine AL_p (x_callR rfl rfl rfl (putNumS_c _ (m.head.v[i]'(by omega)) 6 (by omega) (by have e : (256 : Int) ^ 6 = 281474976710656 := rfl; omega) (by omega) (by omega) (by (try simp only [List.length_append, List.length_cons, List.length_nil, putB_len, pairTo_len]); omega) 113) rfl AllV.rf rfl rfl rfl rfl rfl) ?_
      refine AL_p (x_move rfl rfl) ?_
      refine AL_p (x_extract rfl rfl rfl) ?_
      refine AL_p (x_extract rfl rfl rfl) ?_
      refine AL_p (x_assign rfl rfl) ?_
      refine AL_nil ?_
      refine AW_region ?_
      refine AL_p (x_move rfl rfl) ?_
      refine AL_p (x_add rfl rfl rfl (IntWalk.i64_in _ (by omega))) ?_
      refine AL_p (x_assign rfl rfl) ?_
      refine AL_nil ?_
      refine ⟨⟨i + 1, by omega⟩, rn [(112, 113)], ?_, by dsimp only; omega⟩
      exact ⟨by (repeat refine ⟨⟨_, rfl, by first | exact VLe.rf | exact vle_int (by dsimp only; omega)⟩, ?_⟩); exact trivial, by (repeat refine ⟨⟨_, rfl, by first | exact BLe.rf | exact BLe.box AllC.rf | exact BLe.arr (by first | (rw [flatTo_zero, List.append_nil]; simp [handB, *]; done) | (rw [← flatTo_more (f := fun n => putB n 6) (k := i) (by omega)]; simp only [List.append_assoc]; done) | (exfalso; omega))⟩, ?_⟩); exact trivial, by repeat (first | exact trivial | refine ⟨⟨rfl, by first | (left; intro h; cases h) | (right; rfl), by first | exact (fun _ h => ⟨_, h⟩) | exact (fun _ _ => ⟨_, rfl⟩)⟩, ?_⟩), rfl⟩
    try simp only [tdy] at h101
    refine AW_condF rfl ?_
    refine AW_region ?_
    refine AL_p (x_move rfl rfl) ?_
    refine AL_p (y_bslice (E := 5) (e := (intE .u8)) [.const (.int .u8 (0))] ([0]) 114 rfl rfl rfl rfl rfl rfl rfl rfl FitL.rf rfl rfl rfl rfl rfl rfl (by kernel_rfl)) ?_
    refine AL_p (y_append 115 rfl rfl rfl rfl rfl rfl rfl rfl (by kernel_rfl) (by (try simp only [List.length_append, List.length_cons, List.length_nil, putB_len, pairTo_len]); omega)) ?_
    refine AL_p (x_assign rfl rfl) ?_
    refine AL_nil ?_
    refine AW_seq ?_
    refine AW_region ?_
    refine AL_p (x_assign rfl rfl) ?_
    refine AL_nil ?_
    refine AW_block ?_
    refine AW_loop2 (ι := {q : Nat // q ≤ m.head.v.length}) (fun p => [(3, .one (.own 115)), (7, .one (.c (.int .i64 ((p.1) : Int))))]) (fun p => [(115, some (.arr 5 (intE .u8) ([handB m.hand] ++ flatTo (fun n => putB n 6) m.head.v (p.1)) true))]) [1] [100, 101] (fun p => m.head.v.length - (p.1)) ⟨0, by omega⟩ (rn []) ?_ ?_
    exact ⟨by (repeat refine ⟨⟨_, rfl, by first | exact VLe.rf | exact vle_int (by dsimp only; omega)⟩, ?_⟩); exact trivial, by (repeat refine ⟨⟨_, rfl, by first | exact BLe.rf | exact BLe.box AllC.rf | exact BLe.arr (by first | (rw [flatTo_zero, List.append_nil]; simp [handB, *]; done) | (rw [← flatTo_more (f := fun n => putB n 6) (k := i) (by omega)]; simp only [List.append_assoc]; done) | (exfalso; omega))⟩, ?_⟩); exact trivial, by repeat (first | exact trivial | refine ⟨⟨rfl, by first | (left; intro h; cases h) | (right; rfl), by first | exact (fun _ h => ⟨_, h⟩) | exact (fun _ _ => ⟨_, rfl⟩)⟩, ?_⟩), rfl⟩
    rintro ⟨i, hinv⟩
    dsimp only
    have hi := hinv
    refine AW_seq ?_
    refine AW_seq ?_
    refine AW_region ?_
    refine AL_p (x_move rfl rfl) ?_
    refine AL_b (x_lss rfl rfl rfl) (fun b109 h109 => ?_)
    refine AL_nil ?_
    cases b109
    · try simp only [tdy] at h109
      refine AW_condF rfl ?_
      refine AW_exit (BQ_hit ?_)
      refine AW_seq ?_
      refine AW_region ?_
      refine AL_p (x_move rfl rfl) ?_
      refine AL_p (x_assign rfl rfl) ?_
      refine AL_nil ?_
      refine AW_ret ?_
      exact ⟨rn [(0, 115)], ⟨⟨⟨_, rfl, VLe.rf⟩, trivial⟩, ⟨⟨_, rfl, BLe.arr (by first | (rw [bodyB_add (by omega)]; simp only [flatTo_all (f := actBytes) (xs := m.acts) (k := j) (by omega), List.append_assoc, List.nil_append]; done) | (rw [bodyB_flip (by omega)]; done) | (rw [bodyB_flip (by omega)]; simp only [List.append_assoc, List.nil_append]; done) | (rw [bodyB_note (by omega)]; simp only [headBy, flatTo_all (f := fun n => putB n 6) (xs := m.head.v) (k := i) (by omega), List.append_assoc, List.nil_append]; done) | (rw [bodyB_note (by omega), flatTo_all (f := fun n => putB n 6) (xs := m.head.v) (k := i) (by omega)]; simp [headBy, handB, *]; done) | (rw [bodyB_none (by omega) (by omega) (by omega)]; done) | (rw [bodyB_none (by omega) (by omega) (by omega)]; simp only [List.append_nil]; done) | (exfalso; omega))⟩, trivial⟩, trivial, rfl⟩⟩
    try simp only [tdy] at h109
    have hf8 := fits48 (eight_get hN2 (k := i) (by omega))
    have hhi := hhf i
    refine AW_condT rfl ?_
    refine AW_skip ?_
    refine AW_seq ?_
    refine AW_block ?_
    refine AW_region ?_
    refine AL_p (x_move rfl rfl) ?_
    refine AL_p (x_field (off := 9) (o' := 9) rfl rfl rfl (by kernel_rfl) rfl) ?_
    refine AL_p (x_field (off := 0) (o' := 9) rfl rfl rfl (by kernel_rfl) rfl) ?_
    refine AL_p (x_load1 rfl rfl rfl (by kernel_rfl) rfl) ?_
    refine AL_p (x_move rfl rfl) ?_
    refine AL_p (x_index (E := 3) (n := 1) rfl rfl rfl (by kernel_rfl) rfl (k := i) (by omega) (by omega)) ?_
    refine AL_p (x_eload1 rfl rfl (by kernel_rfl) rfl) ?_
    refine AL_p (x_callR rfl rfl rfl (putNumS_c _ (m.head.v[i]'(by omega)) 6 (by omega) (by have e : (256 : Int) ^ 6 = 281474976710656 := rfl; omega) (by omega) (by omega) (by (try simp only [List.length_append, List.length_cons, List.length_nil, putB_len, pairTo_len]); omega) 113) rfl AllV.rf rfl rfl rfl rfl rfl) ?_
    refine AL_p (x_move rfl rfl) ?_
    refine AL_p (x_extract rfl rfl rfl) ?_
    refine AL_p (x_extract rfl rfl rfl) ?_
    refine AL_p (x_assign rfl rfl) ?_
    refine AL_nil ?_
    refine AW_region ?_
    refine AL_p (x_move rfl rfl) ?_
    refine AL_p (x_add rfl rfl rfl (IntWalk.i64_in _ (by omega))) ?_
    refine AL_p (x_assign rfl rfl) ?_
    refine AL_nil ?_
    refine ⟨⟨i + 1, by omega⟩, rn [(115, 113)], ?_, by dsimp only; omega⟩
    exact ⟨by (repeat refine ⟨⟨_, rfl, by first | exact VLe.rf | exact vle_int (by dsimp only; omega)⟩, ?_⟩); exact trivial, by (repeat refine ⟨⟨_, rfl, by first | exact BLe.rf | exact BLe.box AllC.rf | exact BLe.arr (by first | (rw [flatTo_zero, List.append_nil]; simp [handB, *]; done) | (rw [← flatTo_more (f := fun n => putB n 6) (k := i) (by omega)]; simp only [List.append_assoc]; done) | (exfalso; omega))⟩, ?_⟩); exact trivial, by repeat (first | exact trivial | refine ⟨⟨rfl, by first | (left; intro h; cases h) | (right; rfl), by first | exact (fun _ h => ⟨_, h⟩) | exact (fun _ _ => ⟨_, rfl⟩)⟩, ?_⟩), rfl⟩
  try simp only [tdy] at h26
  have hA2 := hA (by omega)
  have hmat := hA2.2.1
  have hact := hA2.2.2
  have hA3 := hA2.1
  have ha12 := actsB_12 hact
  have hpl : putB (m.acts.length : Int) 1 = [(m.acts.length : Int)] := putB_one (by omega) (by omega)
  have haf := acts_len (l := m.acts)
  refine AW_condT rfl ?_
  refine AW_seq ?_
  refine AW_region ?_
  refine AL_p (x_move rfl rfl) ?_
  refine AL_p (x_field (off := 4) (o' := 4) rfl rfl rfl (by kernel_rfl) rfl) ?_
  refine AL_p (x_load1 rfl rfl rfl (by kernel_rfl) rfl) ?_
  refine AL_p (x_callR rfl rfl rfl (putNumS_c _ m.prio 2 (by omega) (by have e : (256 : Int) ^ 2 = 65536 := rfl; omega) (by omega) (by omega) (by (try simp only [List.length_append, List.length_cons, List.length_nil, putB_len, pairTo_len]); omega) 103) rfl AllV.rf rfl rfl rfl rfl rfl) ?_
  refine AL_p (x_move rfl rfl) ?_
  refine AL_p (x_extract rfl rfl rfl) ?_
  refine AL_p (x_extract rfl rfl rfl) ?_
  refine AL_p (x_assign rfl rfl) ?_
  refine AL_nil ?_
  refine AW_seq ?_
  refine AW_seq ?_
  refine AW_region ?_
  refine AL_p (x_assign rfl rfl) ?_
  refine AL_nil ?_
  refine AW_block ?_
  refine AW_loop2 (ι := {q : Nat // q ≤ 8}) (fun p => [(3, .one (.own 103)), (4, .one (.c (.int .i64 ((p.1) : Int))))]) (fun p => [(103, some (.arr 5 (intE .u8) (putB m.epoch 4 ++ putB m.prio 2 ++ pairTo m.mat (p.1)) true))]) [1] [100, 101, 102] (fun p => 8 - (p.1)) ⟨0, by omega⟩ (rn []) ?_ ?_
  exact ⟨by (repeat refine ⟨⟨_, rfl, by first | exact VLe.rf | exact vle_int (by dsimp only; omega)⟩, ?_⟩); exact trivial, by (repeat refine ⟨⟨_, rfl, by first | exact BLe.rf | exact BLe.box AllC.rf | exact BLe.arr (by first | (rw [pairTo_zero, List.append_nil]; done) | (rw [← pairTo_more hv1 hm1]; simp only [List.append_assoc]; done) | (exfalso; omega))⟩, ?_⟩); exact trivial, by repeat (first | exact trivial | refine ⟨⟨rfl, by first | (left; intro h; cases h) | (right; rfl), by first | exact (fun _ h => ⟨_, h⟩) | exact (fun _ _ => ⟨_, rfl⟩)⟩, ?_⟩), rfl⟩
  rintro ⟨k, hinv⟩
  dsimp only
  have hk := hinv
  refine AW_seq ?_
  refine AW_seq ?_
  refine AW_region ?_
  refine AL_p (x_move rfl rfl) ?_
  refine AL_b (x_lss rfl rfl rfl) (fun b35 h35 => ?_)
  refine AL_nil ?_
  cases b35
  rotate_left
  · try simp only [tdy] at h35
    obtain ⟨hv1, hm1, hvr, hmr⟩ := matchB_get hmat (fun x hx => (hi0_5 x hx).2) (k := k) (by omega)
    refine AW_condT rfl ?_
    refine AW_skip ?_
    refine AW_seq ?_
    refine AW_block ?_
    refine AW_seq ?_
    refine AW_region ?_
    refine AL_p (x_move rfl rfl) ?_
    refine AL_p (x_field (off := 5) (o' := 5) rfl rfl rfl (by kernel_rfl) rfl) ?_
    refine AL_p (x_field (off := 0) (o' := 5) rfl rfl rfl (by kernel_rfl) rfl) ?_
    refine AL_p (x_load1 rfl rfl rfl (by kernel_rfl) rfl) ?_
    refine AL_p (x_move rfl rfl) ?_
    refine AL_p (x_index (E := 3) (n := 1) rfl rfl rfl (by kernel_rfl) rfl (k := k) (by omega) (by omega)) ?_
    refine AL_p (x_eload1 rfl rfl (by kernel_rfl) rfl) ?_
    refine AL_p (x_callR rfl rfl rfl (putNumS_c _ (m.mat.v[k]'hv1) 6 (by omega) (by have e : (256 : Int) ^ 6 = 281474976710656 := rfl; omega) (by omega) (by omega) (by (try simp only [List.length_append, List.length_cons, List.length_nil, putB_len, pairTo_len]); omega) 104) rfl AllV.rf rfl rfl rfl rfl rfl) ?_
    refine AL_p (x_move rfl rfl) ?_
    refine AL_p (x_extract rfl rfl rfl) ?_
    refine AL_p (x_extract rfl rfl rfl) ?_
    refine AL_p (x_assign rfl rfl) ?_
    refine AL_nil ?_
    refine AW_region ?_
    refine AL_p (x_move rfl rfl) ?_
    refine AL_p (x_field (off := 5) (o' := 5) rfl rfl rfl (by kernel_rfl) rfl) ?_
    refine AL_p (x_field (off := 1) (o' := 6) rfl rfl rfl (by kernel_rfl) rfl) ?_
    refine AL_p (x_load1 rfl rfl rfl (by kernel_rfl) rfl) ?_
    refine AL_p (x_move rfl rfl) ?_
    refine AL_p (x_index (E := 3) (n := 1) rfl rfl rfl (by kernel_rfl) rfl (k := k) (by omega) (by omega)) ?_
    refine AL_p (x_eload1 rfl rfl (by kernel_rfl) rfl) ?_
    refine AL_p (x_callR rfl rfl rfl (putNumS_c _ (m.mat.m[k]'hm1) 6 (by omega) (by have e : (256 : Int) ^ 6 = 281474976710656 := rfl; omega) (by omega) (by omega) (by (try simp only [List.length_append, List.length_cons, List.length_nil, putB_len, pairTo_len]); omega) 105) rfl AllV.rf rfl rfl rfl rfl rfl) ?_
    refine AL_p (x_move rfl rfl) ?_
    refine AL_p (x_extract rfl rfl rfl) ?_
    refine AL_p (x_extract rfl rfl rfl) ?_
    refine AL_p (x_assign rfl rfl) ?_
    refine AL_nil ?_
    refine AW_region ?_
    refine AL_p (x_move rfl rfl) ?_
    refine AL_p (x_add rfl rfl rfl (IntWalk.i64_in _ (by omega))) ?_
    refine AL_p (x_assign rfl rfl) ?_
    refine AL_nil ?_
    refine ⟨⟨k + 1, by omega⟩, rn [(103, 105)], ?_, by dsimp only; omega⟩
    exact ⟨by (repeat refine ⟨⟨_, rfl, by first | exact VLe.rf | exact vle_int (by dsimp only; omega)⟩, ?_⟩); exact trivial, by (repeat refine ⟨⟨_, rfl, by first | exact BLe.rf | exact BLe.box AllC.rf | exact BLe.arr (by first | (rw [pairTo_zero, List.append_nil]; done) | (rw [← pairTo_more hv1 hm1]; simp only [List.append_assoc]; done) | (exfalso; omega))⟩, ?_⟩); exact trivial, by repeat (first | exact trivial | refine ⟨⟨rfl, by first | (left; intro h; cases h) | (right; rfl), by first | exact (fun _ h => ⟨_, h⟩) | exact (fun _ _ => ⟨_, rfl⟩)⟩, ?_⟩), rfl⟩
  try simp only [tdy] at h35
  obtain rfl : k = 8 := by omega
  refine AW_condF rfl ?_
  refine AW_exit (BQ_hit ?_)
  refine AW_seq ?_
  refine AW_region ?_
  refine AL_p (x_move rfl rfl) ?_
  refine AL_p (x_field (off := 7) (o' := 7) rfl rfl rfl (by kernel_rfl) rfl) ?_
  refine AL_p (x_load1 rfl rfl rfl (by kernel_rfl) rfl) ?_
  refine AL_p (x_len (E := 114) (n := 3) rfl rfl (by kernel_rfl)) ?_
  refine AL_p (x_callR rfl rfl rfl (putNumS_c _ (m.acts.length : Int) 1 (by omega) (by have e : (256 : Int) ^ 1 = 256 := rfl; omega) (by omega) (by omega) (by (try simp only [List.length_append, List.length_cons, List.length_nil, putB_len, pairTo_len]); omega) 106) rfl AllV.rf rfl rfl rfl rfl rfl) ?_
  refine AL_p (x_move rfl rfl) ?_
  refine AL_p (x_extract rfl rfl rfl) ?_
  refine AL_p (x_extract rfl rfl rfl) ?_
  refine AL_p (x_assign rfl rfl) ?_
  refine AL_nil ?_
  refine AW_seq ?_
  refine AW_region ?_
  refine AL_p (x_field (off := 7) (o' := 7) rfl rfl rfl (by kernel_rfl) rfl) ?_
  refine AL_p (x_load1 rfl rfl rfl (by kernel_rfl) rfl) ?_
  refine AL_p (x_len (E := 114) (n := 3) rfl rfl (by kernel_rfl)) ?_
  refine AL_p (x_move rfl rfl) ?_
  refine AL_nil ?_
  refine AW_block ?_
  refine AW_loop2 (ι := {q : Nat // q ≤ m.acts.length}) (fun p => [(3, .one (.own 106)), (71, .one (.c (.int .i64 ((p.1) : Int))))]) (fun p => [(106, some (.arr 5 (intE .u8) (putB m.epoch 4 ++ putB m.prio 2 ++ pairTo m.mat 8 ++ [(m.acts.length : Int)] ++ flatTo actBytes m.acts (p.1)) true))]) [1, 69, 70] [100, 101, 102, 103] (fun p => m.acts.length - (p.1)) ⟨0, by omega⟩ (rn []) ?_ ?_
  exact ⟨by (repeat refine ⟨⟨_, rfl, by first | exact VLe.rf | exact vle_int (by dsimp only; omega)⟩, ?_⟩); exact trivial, by (repeat refine ⟨⟨_, rfl, by first | exact BLe.rf | exact BLe.box AllC.rf | exact BLe.arr (by first | (rw [flatTo_zero, List.append_nil]; done) | (rw [hpl, flatTo_zero, List.append_nil]; done) | (rw [← flatTo_more (f := actBytes) (k := j) (by omega)]; simp only [actBytes, hp1, hp2, List.append_assoc, List.cons_append, List.nil_append]; done) | (exfalso; omega))⟩, ?_⟩); exact trivial, by repeat (first | exact trivial | refine ⟨⟨rfl, by first | (left; intro h; cases h) | (right; rfl), by first | exact (fun _ h => ⟨_, h⟩) | exact (fun _ _ => ⟨_, rfl⟩)⟩, ?_⟩), rfl⟩
  rintro ⟨j, hinv⟩
  dsimp only
  have hj := hinv
  refine AW_seq ?_
  refine AW_region ?_
  refine AL_b (x_lss rfl rfl rfl) (fun b72 h72 => ?_)
  refine AL_nil ?_
  refine AW_seq ?_
  cases b72
  rotate_left
  · try simp only [tdy] at h72
    have hab := actB_in (actsB_get hact (k := j) (by omega))
    have hp1 : putB (m.acts[j]'(by omega)).kind 1 = [(m.acts[j]'(by omega)).kind] := putB_one (by omega) (by omega)
    have hp2 : putB (m.acts[j]'(by omega)).a 1 = [(m.acts[j]'(by omega)).a] := putB_one (by omega) (by omega)
    have haj := haf j
    refine AW_condT rfl ?_
    refine AW_skip ?_
    refine AW_seq ?_
    refine AW_block ?_
    refine AW_seq ?_
    refine AW_region ?_
    refine AL_p (x_index (E := 114) (n := 3) rfl rfl rfl (by kernel_rfl) rfl (k := j) (by omega) (by omega)) ?_
    refine AL_p (x_eloadW (n := 3) rfl rfl (by kernel_rfl) rfl) ?_
    refine AL_p (x_alloc (z := .agg #[.int .i64 0, .int .i64 0, .int .i64 0]) 107 rfl (by kernel_rfl) rfl rfl rfl rfl) ?_
    refine AL_p (x_store (n := 3) rfl rfl rfl rfl (by kernel_rfl) rfl rfl rfl) ?_
    refine AL_nil ?_
    refine AW_seq ?_
    refine AW_region ?_
    refine AL_p (x_move rfl rfl) ?_
    refine AL_p (x_field (off := 0) (o' := 0) rfl rfl rfl (by kernel_rfl) rfl) ?_
    refine AL_p (x_load1 rfl rfl rfl (by kernel_rfl) rfl) ?_
    refine AL_p (x_callR rfl rfl rfl (putNumS_c _ (m.acts[j]'(by omega)).kind 1 (by omega) (by have e : (256 : Int) ^ 1 = 256 := rfl; omega) (by omega) (by omega) (by (try simp only [List.length_append, List.length_cons, List.length_nil, putB_len, pairTo_len]); omega) 108) rfl AllV.rf rfl rfl rfl rfl rfl) ?_
    refine AL_p (x_move rfl rfl) ?_
    refine AL_p (x_extract rfl rfl rfl) ?_
    refine AL_p (x_extract rfl rfl rfl) ?_
    refine AL_p (x_assign rfl rfl) ?_
    refine AL_nil ?_
    refine AW_seq ?_
    refine AW_region ?_
    refine AL_p (x_move rfl rfl) ?_
    refine AL_p (x_field (off := 1) (o' := 1) rfl rfl rfl (by kernel_rfl) rfl) ?_
    refine AL_p (x_load1 rfl rfl rfl (by kernel_rfl) rfl) ?_
    refine AL_p (x_callR rfl rfl rfl (putNumS_c _ (m.acts[j]'(by omega)).a 1 (by omega) (by have e : (256 : Int) ^ 1 = 256 := rfl; omega) (by omega) (by omega) (by (try simp only [List.length_append, List.length_cons, List.length_nil, putB_len, pairTo_len]); omega) 109) rfl AllV.rf rfl rfl rfl rfl rfl) ?_
    refine AL_p (x_move rfl rfl) ?_
    refine AL_p (x_extract rfl rfl rfl) ?_
    refine AL_p (x_extract rfl rfl rfl) ?_
    refine AL_p (x_assign rfl rfl) ?_
    refine AL_nil ?_
    refine AW_region ?_
    refine AL_p (x_move rfl rfl) ?_
    refine AL_p (x_field (off := 2) (o' := 2) rfl rfl rfl (by kernel_rfl) rfl) ?_
    refine AL_p (x_load1 rfl rfl rfl (by kernel_rfl) rfl) ?_
    refine AL_p (x_callR rfl rfl rfl (putNumS_c _ (m.acts[j]'(by omega)).b 6 (by omega) (by have e : (256 : Int) ^ 6 = 281474976710656 := rfl; omega) (by omega) (by omega) (by (try simp only [List.length_append, List.length_cons, List.length_nil, putB_len, pairTo_len]); omega) 110) rfl AllV.rf rfl rfl rfl rfl rfl) ?_
    refine AL_p (x_move rfl rfl) ?_
    refine AL_p (x_extract rfl rfl rfl) ?_
    refine AL_p (x_extract rfl rfl rfl) ?_
    refine AL_p (x_assign rfl rfl) ?_
    refine AL_nil ?_
    refine AW_region ?_
    refine AL_p (x_add rfl rfl rfl (IntWalk.i64_in _ (by omega))) ?_
    refine AL_p (x_move rfl rfl) ?_
    refine AL_nil ?_
    refine ⟨⟨j + 1, by omega⟩, rn [(106, 110)], ?_, by dsimp only; omega⟩
    exact ⟨by (repeat refine ⟨⟨_, rfl, by first | exact VLe.rf | exact vle_int (by dsimp only; omega)⟩, ?_⟩); exact trivial, by (repeat refine ⟨⟨_, rfl, by first | exact BLe.rf | exact BLe.box AllC.rf | exact BLe.arr (by first | (rw [flatTo_zero, List.append_nil]; done) | (rw [hpl, flatTo_zero, List.append_nil]; done) | (rw [← flatTo_more (f := actBytes) (k := j) (by omega)]; simp only [actBytes, hp1, hp2, List.append_assoc, List.cons_append, List.nil_append]; done) | (exfalso; omega))⟩, ?_⟩); exact trivial, by repeat (first | exact trivial | refine ⟨⟨rfl, by first | (left; intro h; cases h) | (right; rfl), by first | exact (fun _ h => ⟨_, h⟩) | exact (fun _ _ => ⟨_, rfl⟩)⟩, ?_⟩), rfl⟩
  try simp only [tdy] at h72
  refine AW_condF rfl ?_
  refine AW_exit (BQ_hit ?_)
  refine AW_seq ?_
  refine AW_seq ?_
  refine AW_region ?_
  refine AL_p (x_field (off := 0) (o' := 0) rfl rfl rfl (by kernel_rfl) rfl) ?_
  refine AL_p (x_load1 rfl rfl rfl (by kernel_rfl) rfl) ?_
  refine AL_b (x_eql rfl rfl rfl) (fun b99 h99 => ?_)
  refine AL_nil ?_
  cases b99
  · try simp only [tdy] at h99
    refine AW_condF rfl ?_
    refine AW_skip ?_
    refine AW_seq ?_
    refine AW_region ?_
    refine AL_p (x_move rfl rfl) ?_
    refine AL_p (x_assign rfl rfl) ?_
    refine AL_nil ?_
    refine AW_ret ?_
    exact ⟨rn [(0, 106)], ⟨⟨⟨_, rfl, VLe.rf⟩, trivial⟩, ⟨⟨_, rfl, BLe.arr (by first | (rw [bodyB_add (by omega)]; simp only [flatTo_all (f := actBytes) (xs := m.acts) (k := j) (by omega), List.append_assoc, List.nil_append]; done) | (rw [bodyB_flip (by omega)]; done) | (rw [bodyB_flip (by omega)]; simp only [List.append_assoc, List.nil_append]; done) | (rw [bodyB_note (by omega)]; simp only [headBy, flatTo_all (f := fun n => putB n 6) (xs := m.head.v) (k := i) (by omega), List.append_assoc, List.nil_append]; done) | (rw [bodyB_note (by omega), flatTo_all (f := fun n => putB n 6) (xs := m.head.v) (k := i) (by omega)]; simp [headBy, handB, *]; done) | (rw [bodyB_none (by omega) (by omega) (by omega)]; done) | (rw [bodyB_none (by omega) (by omega) (by omega)]; simp only [List.append_nil]; done) | (exfalso; omega))⟩, trivial⟩, trivial, rfl⟩⟩
  try simp only [tdy] at h99
  have hN2 := hN (by omega)
  have hN8 := eight_8 hN2
  have hhf := head_len (l := m.head.v)
  refine AW_condT rfl ?_
  refine AW_seq ?_
  refine AW_seq ?_
  refine AW_region ?_
  refine AL_p (x_field (off := 8) (o' := 8) rfl rfl rfl (by kernel_rfl) rfl) ?_
  refine AL_b (x_load1 rfl rfl rfl (by kernel_rfl) rfl) (fun b101 h101 => ?_)
  refine AL_nil ?_
  cases b101
  rotate_left
  · try simp only [tdy] at h101
    refine AW_condT rfl ?_
    refine AW_region ?_
    refine AL_p (x_move rfl rfl) ?_
    refine AL_p (y_bslice (E := 5) (e := (intE .u8)) [.const (.int .u8 (1))] ([1]) 111 rfl rfl rfl rfl rfl rfl rfl rfl FitL.rf rfl rfl rfl rfl rfl rfl (by kernel_rfl)) ?_
    refine AL_p (y_append 112 rfl rfl rfl rfl rfl rfl rfl rfl (by kernel_rfl) (by (try simp only [List.length_append, List.length_cons, List.length_nil, putB_len, pairTo_len]); omega)) ?_
    refine AL_p (x_assign rfl rfl) ?_
    refine AL_nil ?_
    refine AW_seq ?_
    refine AW_region ?_
    refine AL_p (x_assign rfl rfl) ?_
    refine AL_nil ?_
    refine AW_block ?_
    refine AW_loop2 (ι := {q : Nat // q ≤ m.head.v.length}) (fun p => [(3, .one (.own 112)), (7, .one (.c (.int .i64 ((p.1) : Int))))]) (fun p => [(112, some (.arr 5 (intE .u8) ([handB m.hand] ++ flatTo (fun n => putB n 6) m.head.v (p.1)) true))]) [1] [100, 101, 102, 103] (fun p => m.head.v.length - (p.1)) ⟨0, by omega⟩ (rn []) ?_ ?_
    exact ⟨by (repeat refine ⟨⟨_, rfl, by first | exact VLe.rf | exact vle_int (by dsimp only; omega)⟩, ?_⟩); exact trivial, by (repeat refine ⟨⟨_, rfl, by first | exact BLe.rf | exact BLe.box AllC.rf | exact BLe.arr (by first | (rw [flatTo_zero, List.append_nil]; simp [handB, *]; done) | (rw [← flatTo_more (f := fun n => putB n 6) (k := i) (by omega)]; simp only [List.append_assoc]; done) | (exfalso; omega))⟩, ?_⟩); exact trivial, by repeat (first | exact trivial | refine ⟨⟨rfl, by first | (left; intro h; cases h) | (right; rfl), by first | exact (fun _ h => ⟨_, h⟩) | exact (fun _ _ => ⟨_, rfl⟩)⟩, ?_⟩), rfl⟩
    rintro ⟨i, hinv⟩
    dsimp only
    have hi := hinv
    refine AW_seq ?_
    refine AW_seq ?_
    refine AW_region ?_
    refine AL_p (x_move rfl rfl) ?_
    refine AL_b (x_lss rfl rfl rfl) (fun b109 h109 => ?_)
    refine AL_nil ?_
    cases b109
    · try simp only [tdy] at h109
      refine AW_condF rfl ?_
      refine AW_exit (BQ_hit ?_)
      refine AW_seq ?_
      refine AW_region ?_
      refine AL_p (x_move rfl rfl) ?_
      refine AL_p (x_assign rfl rfl) ?_
      refine AL_nil ?_
      refine AW_ret ?_
      exact ⟨rn [(0, 112)], ⟨⟨⟨_, rfl, VLe.rf⟩, trivial⟩, ⟨⟨_, rfl, BLe.arr (by first | (rw [bodyB_add (by omega)]; simp only [flatTo_all (f := actBytes) (xs := m.acts) (k := j) (by omega), List.append_assoc, List.nil_append]; done) | (rw [bodyB_flip (by omega)]; done) | (rw [bodyB_flip (by omega)]; simp only [List.append_assoc, List.nil_append]; done) | (rw [bodyB_note (by omega)]; simp only [headBy, flatTo_all (f := fun n => putB n 6) (xs := m.head.v) (k := i) (by omega), List.append_assoc, List.nil_append]; done) | (rw [bodyB_note (by omega), flatTo_all (f := fun n => putB n 6) (xs := m.head.v) (k := i) (by omega)]; simp [headBy, handB, *]; done) | (rw [bodyB_none (by omega) (by omega) (by omega)]; done) | (rw [bodyB_none (by omega) (by omega) (by omega)]; simp only [List.append_nil]; done) | (exfalso; omega))⟩, trivial⟩, trivial, rfl⟩⟩
    try simp only [tdy] at h109
    have hf8 := fits48 (eight_get hN2 (k := i) (by omega))
    have hhi := hhf i
    refine AW_condT rfl ?_
    refine AW_skip ?_
    refine AW_seq ?_
    refine AW_block ?_
    refine AW_region ?_
    refine AL_p (x_move rfl rfl) ?_
    refine AL_p (x_field (off := 9) (o' := 9) rfl rfl rfl (by kernel_rfl) rfl) ?_
    refine AL_p (x_field (off := 0) (o' := 9) rfl rfl rfl (by kernel_rfl) rfl) ?_
    refine AL_p (x_load1 rfl rfl rfl (by kernel_rfl) rfl) ?_
    refine AL_p (x_move rfl rfl) ?_
    refine AL_p (x_index (E := 3) (n := 1) rfl rfl rfl (by kernel_rfl) rfl (k := i) (by omega) (by omega)) ?_
    refine AL_p (x_eload1 rfl rfl (by kernel_rfl) rfl) ?_
    refine AL_p (x_callR rfl rfl rfl (putNumS_c _ (m.head.v[i]'(by omega)) 6 (by omega) (by have e : (256 : Int) ^ 6 = 281474976710656 := rfl; omega) (by omega) (by omega) (by (try simp only [List.length_append, List.length_cons, List.length_nil, putB_len, pairTo_len]); omega) 113) rfl AllV.rf rfl rfl rfl rfl rfl) ?_
    refine AL_p (x_move rfl rfl) ?_
    refine AL_p (x_extract rfl rfl rfl) ?_
    refine AL_p (x_extract rfl rfl rfl) ?_
    refine AL_p (x_assign rfl rfl) ?_
    refine AL_nil ?_
    refine AW_region ?_
    refine AL_p (x_move rfl rfl) ?_
    refine AL_p (x_add rfl rfl rfl (IntWalk.i64_in _ (by omega))) ?_
    refine AL_p (x_assign rfl rfl) ?_
    refine AL_nil ?_
    refine ⟨⟨i + 1, by omega⟩, rn [(112, 113)], ?_, by dsimp only; omega⟩
    exact ⟨by (repeat refine ⟨⟨_, rfl, by first | exact VLe.rf | exact vle_int (by dsimp only; omega)⟩, ?_⟩); exact trivial, by (repeat refine ⟨⟨_, rfl, by first | exact BLe.rf | exact BLe.box AllC.rf | exact BLe.arr (by first | (rw [flatTo_zero, List.append_nil]; simp [handB, *]; done) | (rw [← flatTo_more (f := fun n => putB n 6) (k := i) (by omega)]; simp only [List.append_assoc]; done) | (exfalso; omega))⟩, ?_⟩); exact trivial, by repeat (first | exact trivial | refine ⟨⟨rfl, by first | (left; intro h; cases h) | (right; rfl), by first | exact (fun _ h => ⟨_, h⟩) | exact (fun _ _ => ⟨_, rfl⟩)⟩, ?_⟩), rfl⟩
  try simp only [tdy] at h101
  refine AW_condF rfl ?_
  refine AW_region ?_
  refine AL_p (x_move rfl rfl) ?_
  refine AL_p (y_bslice (E := 5) (e := (intE .u8)) [.const (.int .u8 (0))] ([0]) 114 rfl rfl rfl rfl rfl rfl rfl rfl FitL.rf rfl rfl rfl rfl rfl rfl (by kernel_rfl)) ?_
  refine AL_p (y_append 115 rfl rfl rfl rfl rfl rfl rfl rfl (by kernel_rfl) (by (try simp only [List.length_append, List.length_cons, List.length_nil, putB_len, pairTo_len]); omega)) ?_
  refine AL_p (x_assign rfl rfl) ?_
  refine AL_nil ?_
  refine AW_seq ?_
  refine AW_region ?_
  refine AL_p (x_assign rfl rfl) ?_
  refine AL_nil ?_
  refine AW_block ?_
  refine AW_loop2 (ι := {q : Nat // q ≤ m.head.v.length}) (fun p => [(3, .one (.own 115)), (7, .one (.c (.int .i64 ((p.1) : Int))))]) (fun p => [(115, some (.arr 5 (intE .u8) ([handB m.hand] ++ flatTo (fun n => putB n 6) m.head.v (p.1)) true))]) [1] [100, 101, 102, 103] (fun p => m.head.v.length - (p.1)) ⟨0, by omega⟩ (rn []) ?_ ?_
  exact ⟨by (repeat refine ⟨⟨_, rfl, by first | exact VLe.rf | exact vle_int (by dsimp only; omega)⟩, ?_⟩); exact trivial, by (repeat refine ⟨⟨_, rfl, by first | exact BLe.rf | exact BLe.box AllC.rf | exact BLe.arr (by first | (rw [flatTo_zero, List.append_nil]; simp [handB, *]; done) | (rw [← flatTo_more (f := fun n => putB n 6) (k := i) (by omega)]; simp only [List.append_assoc]; done) | (exfalso; omega))⟩, ?_⟩); exact trivial, by repeat (first | exact trivial | refine ⟨⟨rfl, by first | (left; intro h; cases h) | (right; rfl), by first | exact (fun _ h => ⟨_, h⟩) | exact (fun _ _ => ⟨_, rfl⟩)⟩, ?_⟩), rfl⟩
  rintro ⟨i, hinv⟩
  dsimp only
  have hi := hinv
  refine AW_seq ?_
  refine AW_seq ?_
  refine AW_region ?_
  refine AL_p (x_move rfl rfl) ?_
  refine AL_b (x_lss rfl rfl rfl) (fun b109 h109 => ?_)
  refine AL_nil ?_
  cases b109
  · try simp only [tdy] at h109
    refine AW_condF rfl ?_
    refine AW_exit (BQ_hit ?_)
    refine AW_seq ?_
    refine AW_region ?_
    refine AL_p (x_move rfl rfl) ?_
    refine AL_p (x_assign rfl rfl) ?_
    refine AL_nil ?_
    refine AW_ret ?_
    exact ⟨rn [(0, 115)], ⟨⟨⟨_, rfl, VLe.rf⟩, trivial⟩, ⟨⟨_, rfl, BLe.arr (by first | (rw [bodyB_add (by omega)]; simp only [flatTo_all (f := actBytes) (xs := m.acts) (k := j) (by omega), List.append_assoc, List.nil_append]; done) | (rw [bodyB_flip (by omega)]; done) | (rw [bodyB_flip (by omega)]; simp only [List.append_assoc, List.nil_append]; done) | (rw [bodyB_note (by omega)]; simp only [headBy, flatTo_all (f := fun n => putB n 6) (xs := m.head.v) (k := i) (by omega), List.append_assoc, List.nil_append]; done) | (rw [bodyB_note (by omega), flatTo_all (f := fun n => putB n 6) (xs := m.head.v) (k := i) (by omega)]; simp [headBy, handB, *]; done) | (rw [bodyB_none (by omega) (by omega) (by omega)]; done) | (rw [bodyB_none (by omega) (by omega) (by omega)]; simp only [List.append_nil]; done) | (exfalso; omega))⟩, trivial⟩, trivial, rfl⟩⟩
  try simp only [tdy] at h109
  have hf8 := fits48 (eight_get hN2 (k := i) (by omega))
  have hhi := hhf i
  refine AW_condT rfl ?_
  refine AW_skip ?_
  refine AW_seq ?_
  refine AW_block ?_
  refine AW_region ?_
  refine AL_p (x_move rfl rfl) ?_
  refine AL_p (x_field (off := 9) (o' := 9) rfl rfl rfl (by kernel_rfl) rfl) ?_
  refine AL_p (x_field (off := 0) (o' := 9) rfl rfl rfl (by kernel_rfl) rfl) ?_
  refine AL_p (x_load1 rfl rfl rfl (by kernel_rfl) rfl) ?_
  refine AL_p (x_move rfl rfl) ?_
  refine AL_p (x_index (E := 3) (n := 1) rfl rfl rfl (by kernel_rfl) rfl (k := i) (by omega) (by omega)) ?_
  refine AL_p (x_eload1 rfl rfl (by kernel_rfl) rfl) ?_
  refine AL_p (x_callR rfl rfl rfl (putNumS_c _ (m.head.v[i]'(by omega)) 6 (by omega) (by have e : (256 : Int) ^ 6 = 281474976710656 := rfl; omega) (by omega) (by omega) (by (try simp only [List.length_append, List.length_cons, List.length_nil, putB_len, pairTo_len]); omega) 113) rfl AllV.rf rfl rfl rfl rfl rfl) ?_
  refine AL_p (x_move rfl rfl) ?_
  refine AL_p (x_extract rfl rfl rfl) ?_
  refine AL_p (x_extract rfl rfl rfl) ?_
  refine AL_p (x_assign rfl rfl) ?_
  refine AL_nil ?_
  refine AW_region ?_
  refine AL_p (x_move rfl rfl) ?_
  refine AL_p (x_add rfl rfl rfl (IntWalk.i64_in _ (by omega))) ?_
  refine AL_p (x_assign rfl rfl) ?_
  refine AL_nil ?_
  refine ⟨⟨i + 1, by omega⟩, rn [(115, 113)], ?_, by dsimp only; omega⟩
  exact ⟨by (repeat refine ⟨⟨_, rfl, by first | exact VLe.rf | exact vle_int (by dsimp only; omega)⟩, ?_⟩); exact trivial, by (repeat refine ⟨⟨_, rfl, by first | exact BLe.rf | exact BLe.box AllC.rf | exact BLe.arr (by first | (rw [flatTo_zero, List.append_nil]; simp [handB, *]; done) | (rw [← flatTo_more (f := fun n => putB n 6) (k := i) (by omega)]; simp only [List.append_assoc]; done) | (exfalso; omega))⟩, ?_⟩); exact trivial, by repeat (first | exact trivial | refine ⟨⟨rfl, by first | (left; intro h; cases h) | (right; rfl), by first | exact (fun _ h => ⟨_, h⟩) | exact (fun _ _ => ⟨_, rfl⟩)⟩, ?_⟩), rfl⟩
theorem bodyS_c (m : Msgt) (hok : msgB m = true) (k : Nat) : AC Try.prog 74 [.agg (msgC m)] [] (.one (.own k)) [(k, some (.arr 5 (intE .u8) (bodyB m) true))] := AC.at (bodyS_c0 m hok) k

set_option maxHeartbeats 4000000 in
theorem msgBytesS_c0 (m : Msgt) : AC Try.prog 27 [.agg (msgC m)] [] (.tup [.one (.own 0), .one (.c (.bool (msgBytes m).2))]) [(0, some (.arr 5 (intE .u8) ((msgBytes m).1) true))] := by
  refine AC_body2 Try.func27 rfl rfl Try.ntmps27 rfl Try.results27 rfl rfl rfl ?_
  refine AW_seq ?_
  refine AW_region ?_
  refine AL_p (x_box 100 rfl rfl rfl rfl rfl rfl rfl) ?_
  refine AL_p (x_assign rfl rfl) ?_
  refine AL_p (x_assign rfl rfl) ?_
  refine AL_nil ?_
  refine AW_seq ?_
  refine AW_seq ?_
  refine AW_region ?_
  refine AL_p (x_loadN (n := 10) rfl rfl rfl (by kernel_rfl) rfl rfl) ?_
  refine AL_b (x_call0 rfl rfl rfl (msgS_c m) rfl rfl) (fun b7 h7 => ?_)
  refine AL_p (x_not rfl rfl) ?_
  refine AL_nil ?_
  cases b7
  · try simp only [tdy] at h7
    have hno := msgBytes_no h7
    refine AW_condT rfl ?_
    refine AW_seq ?_
    refine AW_region ?_
    refine AL_p (x_assign rfl rfl) ?_
    refine AL_p (x_assign rfl rfl) ?_
    refine AL_nil ?_
    refine AW_adoptT (T := 5) (e := (intE .u8)) 107 2 rfl rfl rfl ?_
    refine AW_ret ?_
    exact ⟨rn [(0, 107)], ⟨⟨⟨_, rfl, VLe.rf⟩, ⟨_, rfl, by first | exact VLe.rf | exact vle_bool (by rw [hno])⟩, trivial⟩, ⟨⟨_, rfl, by first | exact BLe.rf | (refine BLe.arr ?_; rw [hno]; done) | (refine BLe.arr ?_; rw [hno]; simp only [wholeB, List.append_assoc])⟩, trivial⟩, trivial, rfl⟩⟩
  try simp only [tdy] at h7
  have hok := h7
  have hno := msgBytes_ok h7
  have hbl := bodyB_len h7
  obtain ⟨hr, hA, hF, hN⟩ := msgB_in hok
  have hE := msgB_ep hok
  refine AW_condF rfl ?_
  refine AW_skip ?_
  refine AW_seq ?_
  refine AW_region ?_
  refine AL_p (x_loadN (n := 10) rfl rfl rfl (by kernel_rfl) rfl rfl) ?_
  refine AL_p (x_call1 rfl rfl rfl (bodyS_c m hok 101) rfl rfl rfl rfl) ?_
  refine AL_p (x_assign rfl rfl) ?_
  refine AL_nil ?_
  refine AW_seq ?_
  refine AW_region ?_
  refine AL_p (x_field (off := 0) (o' := 0) rfl rfl rfl (by kernel_rfl) rfl) ?_
  refine AL_p (x_load1 rfl rfl rfl (by kernel_rfl) rfl) ?_
  refine AL_p (x_conv (k' := .u8) rfl rfl (by kernel_rfl) (wrap8_id (by omega) (by omega))) ?_
  refine AL_p (y_bslice (E := 5) (e := (intE .u8)) [.const (.int .u8 (1)), .tmp 13] ([1, m.kind]) 102 rfl rfl rfl rfl rfl rfl rfl rfl FitL.rf rfl rfl rfl rfl rfl rfl (by kernel_rfl)) ?_
  refine AL_p (x_assign rfl rfl) ?_
  refine AL_nil ?_
  refine AW_seq ?_
  refine AW_region ?_
  refine AL_p (x_move rfl rfl) ?_
  refine AL_p (x_move rfl rfl) ?_
  refine AL_p (x_olen (E := 5) (n := 1) rfl rfl rfl (by kernel_rfl)) ?_
  refine AL_p (x_add rfl rfl rfl (IntWalk.i64_in _ (by omega))) ?_
  refine AL_p (x_callR rfl rfl rfl (putNumS_c _ (12 + ((bodyB m).length : Int)) 2 (by omega) (by have e : (256 : Int) ^ 2 = 65536 := rfl; omega) (by omega) (by omega) (by (try simp only [List.length_append, List.length_cons, List.length_nil, putB_len, pairTo_len]); omega) 103) rfl AllV.rf rfl rfl rfl rfl rfl) ?_
  refine AL_p (x_move rfl rfl) ?_
  refine AL_p (x_extract rfl rfl rfl) ?_
  refine AL_p (x_extract rfl rfl rfl) ?_
  refine AL_p (x_assign rfl rfl) ?_
  refine AL_nil ?_
  refine AW_seq ?_
  refine AW_region ?_
  refine AL_p (x_move rfl rfl) ?_
  refine AL_p (x_field (off := 1) (o' := 1) rfl rfl rfl (by kernel_rfl) rfl) ?_
  refine AL_p (x_load1 rfl rfl rfl (by kernel_rfl) rfl) ?_
  refine AL_p (x_callR rfl rfl rfl (putNumS_c _ m.session 4 (by omega) (by have e : (256 : Int) ^ 4 = 4294967296 := rfl; omega) (by omega) (by omega) (by (try simp only [List.length_append, List.length_cons, List.length_nil, putB_len, pairTo_len]); omega) 104) rfl AllV.rf rfl rfl rfl rfl rfl) ?_
  refine AL_p (x_move rfl rfl) ?_
  refine AL_p (x_extract rfl rfl rfl) ?_
  refine AL_p (x_extract rfl rfl rfl) ?_
  refine AL_p (x_assign rfl rfl) ?_
  refine AL_nil ?_
  refine AW_seq ?_
  refine AW_region ?_
  refine AL_p (x_move rfl rfl) ?_
  refine AL_p (x_field (off := 2) (o' := 2) rfl rfl rfl (by kernel_rfl) rfl) ?_
  refine AL_p (x_load1 rfl rfl rfl (by kernel_rfl) rfl) ?_
  refine AL_p (x_callR rfl rfl rfl (putNumS_c _ m.xid 4 (by omega) (by have e : (256 : Int) ^ 4 = 4294967296 := rfl; omega) (by omega) (by omega) (by (try simp only [List.length_append, List.length_cons, List.length_nil, putB_len, pairTo_len]); omega) 105) rfl AllV.rf rfl rfl rfl rfl rfl) ?_
  refine AL_p (x_move rfl rfl) ?_
  refine AL_p (x_extract rfl rfl rfl) ?_
  refine AL_p (x_extract rfl rfl rfl) ?_
  refine AL_p (x_assign rfl rfl) ?_
  refine AL_nil ?_
  refine AW_seq ?_
  refine AW_region ?_
  refine AL_p (x_move rfl rfl) ?_
  refine AL_p (x_move rfl rfl) ?_
  refine AL_p (y_append 106 rfl rfl rfl rfl rfl rfl rfl rfl (by kernel_rfl) (by (try simp only [List.length_append, List.length_cons, List.length_nil, putB_len, pairTo_len]); omega)) ?_
  refine AL_p (x_assign rfl rfl) ?_
  refine AL_p (x_assign rfl rfl) ?_
  refine AL_nil ?_
  refine AW_ret ?_
  exact ⟨rn [(0, 106)], ⟨⟨⟨_, rfl, VLe.rf⟩, ⟨_, rfl, by first | exact VLe.rf | exact vle_bool (by rw [hno])⟩, trivial⟩, ⟨⟨_, rfl, by first | exact BLe.rf | (refine BLe.arr ?_; rw [hno]; done) | (refine BLe.arr ?_; rw [hno]; simp only [wholeB, List.append_assoc])⟩, trivial⟩, trivial, rfl⟩⟩
theorem msgBytesS_c (m : Msgt) (k : Nat) : AC Try.prog 27 [.agg (msgC m)] [] (.tup [.one (.own k), .one (.c (.bool (msgBytes m).2))]) [(k, some (.arr 5 (intE .u8) ((msgBytes m).1) true))] := AC.at (msgBytesS_c0 m) k

set_option maxHeartbeats 4000000 in
theorem msgBytesI_c0 (m : Msgt) : AC Try.prog 28 [.agg (msgC m)] [] (.tup [.one (.own 0), .one (.c (.bool (msgBytes m).2))]) [(0, some (.arr 5 (intE .u8) ((msgBytes m).1) true))] := by
  refine AC_body2 Try.func28 rfl rfl Try.ntmps28 rfl Try.results28 rfl rfl rfl ?_
  refine AW_aggint 0 5 rfl rfl (fun hi0_5 => ?_)
  refine AW_seq ?_
  refine AW_region ?_
  refine AL_p (x_box 100 rfl rfl rfl rfl rfl rfl rfl) ?_
  refine AL_p (x_assign rfl rfl) ?_
  refine AL_p (x_assign rfl rfl) ?_
  refine AL_nil ?_
  refine AW_seq ?_
  refine AW_seq ?_
  refine AW_region ?_
  refine AL_p (x_loadN (n := 10) rfl rfl rfl (by kernel_rfl) rfl rfl) ?_
  refine AL_b (x_call0 rfl rfl rfl (msgI_c m) rfl rfl) (fun b12 h12 => ?_)
  refine AL_p (x_not rfl rfl) ?_
  refine AL_nil ?_
  cases b12
  · try simp only [tdy] at h12
    have hno := msgBytes_no h12
    refine AW_condT rfl ?_
    refine AW_seq ?_
    refine AW_region ?_
    refine AL_p (x_assign rfl rfl) ?_
    refine AL_p (x_assign rfl rfl) ?_
    refine AL_nil ?_
    refine AW_adoptT (T := 5) (e := (intE .u8)) 119 2 rfl rfl rfl ?_
    refine AW_ret ?_
    exact ⟨rn [(0, 119)], ⟨⟨⟨_, rfl, VLe.rf⟩, ⟨_, rfl, by first | exact VLe.rf | exact vle_bool (by rw [hno])⟩, trivial⟩, ⟨⟨_, rfl, by first | exact BLe.rf | (refine BLe.arr ?_; rw [hno]; done) | (refine BLe.arr ?_; rw [hno]; exact whole_of (by unfold openB; (try simp only [handB]); first | (rw [bodyB_add (by omega)]; simp only [flatTo_all (f := actBytes) (xs := m.acts) (k := j) (by omega), List.append_assoc, List.nil_append]; done) | (rw [bodyB_flip (by omega)]; done) | (rw [bodyB_flip (by omega)]; simp only [List.append_assoc, List.nil_append]; done) | (rw [bodyB_note (by omega)]; simp only [headBy, flatTo_all (f := fun n => putB n 6) (xs := m.head.v) (k := i) (by omega), List.append_assoc, List.nil_append]; done) | (rw [bodyB_note (by omega), flatTo_all (f := fun n => putB n 6) (xs := m.head.v) (k := i) (by omega)]; simp [headBy, handB, *]; done) | (rw [bodyB_none (by omega) (by omega) (by omega)]; done) | (rw [bodyB_none (by omega) (by omega) (by omega)]; simp only [List.append_nil]; done) | (exfalso; omega)))⟩, trivial⟩, trivial, rfl⟩⟩
  try simp only [tdy] at h12
  have hok := h12
  have hno := msgBytes_ok h12
  have hbl := bodyB_len h12
  obtain ⟨hr, hA, hF, hN⟩ := msgB_in hok
  have hE := msgB_ep hok
  refine AW_condF rfl ?_
  refine AW_skip ?_
  refine AW_seq ?_
  refine AW_draw rfl ?_
  refine AL_p (x_field (off := 0) (o' := 0) rfl rfl rfl (by kernel_rfl) rfl) ?_
  refine AL_p (x_load1 rfl rfl rfl (by kernel_rfl) rfl) ?_
  refine AL_p (x_conv (k' := .u8) rfl rfl (by kernel_rfl) (wrap8_id (by omega) (by omega))) ?_
  refine AL_p (y_bslice (E := 5) (e := (intE .u8)) [.const (.int .u8 (1)), .tmp 16, .const (.int .u8 (0)), .const (.int .u8 (0))] ([1, m.kind, 0, 0]) 101 rfl rfl rfl rfl rfl rfl rfl rfl FitL.rf rfl rfl rfl rfl rfl rfl (by kernel_rfl)) ?_
  refine AL_p (x_field (off := 1) (o' := 1) rfl rfl rfl (by kernel_rfl) rfl) ?_
  refine AL_p (x_load1 rfl rfl rfl (by kernel_rfl) rfl) ?_
  refine AL_p (x_call (ks := []) (L := [(101, some _)]) (L' := [(101, none), (102, some _)]) rfl rfl rfl (AT.lend1 (putI_t _ m.session 4 (by omega) (by omega) (by omega) (by (try simp only [List.length_append, List.length_cons, List.length_nil, putB_len, pairTo_len]); omega)) 101 102 rfl (fun _ => rfl)) rfl AllV.rf (caught_of rfl) rfl rfl rfl ⟨rfl, trivial⟩ rfl) ?_
  refine AL_p (x_field (off := 2) (o' := 2) rfl rfl rfl (by kernel_rfl) rfl) ?_
  refine AL_p (x_load1 rfl rfl rfl (by kernel_rfl) rfl) ?_
  refine AL_p (x_call (ks := []) (L := [(102, some _)]) (L' := [(102, none), (103, some _)]) rfl rfl rfl (AT.lend1 (putI_t _ m.xid 4 (by omega) (by omega) (by omega) (by (try simp only [List.length_append, List.length_cons, List.length_nil, putB_len, pairTo_len]); omega)) 102 103 rfl (fun _ => rfl)) rfl AllV.rf (caught_of rfl) rfl rfl rfl ⟨rfl, trivial⟩ rfl) ?_
  refine AL_p (x_assign rfl rfl) ?_
  refine AL_nild (by kernel_rfl) ?_
  refine AW_seq ?_
  refine AW_seq ?_
  refine AW_region ?_
  refine AL_p (x_field (off := 0) (o' := 0) rfl rfl rfl (by kernel_rfl) rfl) ?_
  refine AL_p (x_load1 rfl rfl rfl (by kernel_rfl) rfl) ?_
  refine AL_nil ?_
  refine AW_block ?_
  refine AW_seq ?_
  refine AW_region ?_
  refine AL_b (x_eql rfl rfl rfl) (fun b27 h27 => ?_)
  refine AL_p (x_assign rfl rfl) ?_
  refine AL_nil ?_
  cases b27
  rotate_left
  · try simp only [tdy] at h27
    have hA2 := hA (by omega)
    have hmat := hA2.2.1
    have hact := hA2.2.2
    have hA3 := hA2.1
    have ha12 := actsB_12 hact
    have hpl : putB (m.acts.length : Int) 1 = [(m.acts.length : Int)] := putB_one (by omega) (by omega)
    have haf := acts_len (l := m.acts)
    refine AW_condT rfl ?_
    refine AW_seq ?_
    refine AW_draw rfl ?_
    refine AL_p (x_move rfl rfl) ?_
    refine AL_p (x_field (off := 3) (o' := 3) rfl rfl rfl (by kernel_rfl) rfl) ?_
    refine AL_p (x_load1 rfl rfl rfl (by kernel_rfl) rfl) ?_
    refine AL_p (x_call (ks := []) (L := [(103, some _)]) (L' := [(103, none), (104, some _)]) rfl rfl rfl (AT.lend1 (putI_t _ m.epoch 4 (by omega) (by omega) (by omega) (by (try simp only [List.length_append, List.length_cons, List.length_nil, putB_len, pairTo_len]); omega)) 103 104 rfl (fun _ => rfl)) rfl AllV.rf (caught_of rfl) rfl rfl rfl ⟨rfl, trivial⟩ rfl) ?_
    refine AL_p (x_field (off := 4) (o' := 4) rfl rfl rfl (by kernel_rfl) rfl) ?_
    refine AL_p (x_load1 rfl rfl rfl (by kernel_rfl) rfl) ?_
    refine AL_p (x_call (ks := []) (L := [(104, some _)]) (L' := [(104, none), (105, some _)]) rfl rfl rfl (AT.lend1 (putI_t _ m.prio 2 (by omega) (by omega) (by omega) (by (try simp only [List.length_append, List.length_cons, List.length_nil, putB_len, pairTo_len]); omega)) 104 105 rfl (fun _ => rfl)) rfl AllV.rf (caught_of rfl) rfl rfl rfl ⟨rfl, trivial⟩ rfl) ?_
    refine AL_p (x_assign rfl rfl) ?_
    refine AL_nild (by kernel_rfl) ?_
    refine AW_seq ?_
    refine AW_seq ?_
    refine AW_region ?_
    refine AL_p (x_move rfl rfl) ?_
    refine AL_nil ?_
    refine AW_block ?_
    refine AW_loop2 (ι := {q : Nat // q ≤ 8}) (fun p => [(4, .one (.own 105)), (35, .one (.c (.int .i64 ((p.1) : Int))))]) (fun p => [(105, some (.arr 5 (intE .u8) ([1, m.kind, 0, 0] ++ putB m.session 4 ++ putB m.xid 4 ++ putB m.epoch 4 ++ putB m.prio 2 ++ pairTo m.mat (p.1)) true))]) [1] [100] (fun p => 8 - (p.1)) ⟨0, by omega⟩ (rn []) ?_ ?_
    exact ⟨by (repeat refine ⟨⟨_, rfl, by first | exact VLe.rf | exact vle_int (by dsimp only; omega)⟩, ?_⟩); exact trivial, by (repeat refine ⟨⟨_, rfl, by first | exact BLe.rf | exact BLe.box AllC.rf | exact BLe.arr (by first | (rw [pairTo_zero, List.append_nil]; done) | (rw [← pairTo_more hv1 hm1]; simp only [List.append_assoc]; done) | (exfalso; omega))⟩, ?_⟩); exact trivial, by repeat (first | exact trivial | refine ⟨⟨rfl, by first | (left; intro h; cases h) | (right; rfl), by first | exact (fun _ h => ⟨_, h⟩) | exact (fun _ _ => ⟨_, rfl⟩)⟩, ?_⟩), rfl⟩
    rintro ⟨k, hinv⟩
    dsimp only
    have hk := hinv
    refine AW_seq ?_
    refine AW_region ?_
    refine AL_b (x_lss rfl rfl rfl) (fun b36 h36 => ?_)
    refine AL_nil ?_
    refine AW_seq ?_
    cases b36
    rotate_left
    · try simp only [tdy] at h36
      obtain ⟨hv1, hm1, hvr, hmr⟩ := matchB_get hmat (fun x hx => (hi0_5 x hx).2) (k := k) (by omega)
      refine AW_condT rfl ?_
      refine AW_skip ?_
      refine AW_seq ?_
      refine AW_block ?_
      refine AW_seq ?_
      refine AW_region ?_
      refine AL_p (x_move rfl rfl) ?_
      refine AL_p (x_assign rfl rfl) ?_
      refine AL_nil ?_
      refine AW_draw rfl ?_
      refine AL_p (x_move rfl rfl) ?_
      refine AL_p (x_field (off := 5) (o' := 5) rfl rfl rfl (by kernel_rfl) rfl) ?_
      refine AL_p (x_field (off := 0) (o' := 5) rfl rfl rfl (by kernel_rfl) rfl) ?_
      refine AL_p (x_load1 rfl rfl rfl (by kernel_rfl) rfl) ?_
      refine AL_p (x_move rfl rfl) ?_
      refine AL_p (x_index (E := 3) (n := 1) rfl rfl rfl (by kernel_rfl) rfl (k := k) (by omega) (by omega)) ?_
      refine AL_p (x_eload1 rfl rfl (by kernel_rfl) rfl) ?_
      refine AL_p (x_call (ks := []) (L := [(105, some _)]) (L' := [(105, none), (106, some _)]) rfl rfl rfl (AT.lend1 (putI_t _ (m.mat.v[k]'hv1) 6 (by omega) (by omega) (by omega) (by (try simp only [List.length_append, List.length_cons, List.length_nil, putB_len, pairTo_len]); omega)) 105 106 rfl (fun _ => rfl)) rfl AllV.rf (caught_of rfl) rfl rfl rfl ⟨rfl, trivial⟩ rfl) ?_
      refine AL_p (x_field (off := 5) (o' := 5) rfl rfl rfl (by kernel_rfl) rfl) ?_
      refine AL_p (x_field (off := 1) (o' := 6) rfl rfl rfl (by kernel_rfl) rfl) ?_
      refine AL_p (x_load1 rfl rfl rfl (by kernel_rfl) rfl) ?_
      refine AL_p (x_move rfl rfl) ?_
      refine AL_p (x_index (E := 3) (n := 1) rfl rfl rfl (by kernel_rfl) rfl (k := k) (by omega) (by omega)) ?_
      refine AL_p (x_eload1 rfl rfl (by kernel_rfl) rfl) ?_
      refine AL_p (x_call (ks := []) (L := [(106, some _)]) (L' := [(106, none), (107, some _)]) rfl rfl rfl (AT.lend1 (putI_t _ (m.mat.m[k]'hm1) 6 (by omega) (by omega) (by omega) (by (try simp only [List.length_append, List.length_cons, List.length_nil, putB_len, pairTo_len]); omega)) 106 107 rfl (fun _ => rfl)) rfl AllV.rf (caught_of rfl) rfl rfl rfl ⟨rfl, trivial⟩ rfl) ?_
      refine AL_p (x_assign rfl rfl) ?_
      refine AL_nild (by kernel_rfl) ?_
      refine AW_region ?_
      refine AL_p (x_add rfl rfl rfl (IntWalk.i64_in _ (by omega))) ?_
      refine AL_p (x_move rfl rfl) ?_
      refine AL_nil ?_
      refine ⟨⟨k + 1, by omega⟩, rn [(105, 107)], ?_, by dsimp only; omega⟩
      exact ⟨by (repeat refine ⟨⟨_, rfl, by first | exact VLe.rf | exact vle_int (by dsimp only; omega)⟩, ?_⟩); exact trivial, by (repeat refine ⟨⟨_, rfl, by first | exact BLe.rf | exact BLe.box AllC.rf | exact BLe.arr (by first | (rw [pairTo_zero, List.append_nil]; done) | (rw [← pairTo_more hv1 hm1]; simp only [List.append_assoc]; done) | (exfalso; omega))⟩, ?_⟩); exact trivial, by repeat (first | exact trivial | refine ⟨⟨rfl, by first | (left; intro h; cases h) | (right; rfl), by first | exact (fun _ h => ⟨_, h⟩) | exact (fun _ _ => ⟨_, rfl⟩)⟩, ?_⟩), rfl⟩
    try simp only [tdy] at h36
    obtain rfl : k = 8 := by omega
    refine AW_condF rfl ?_
    refine AW_exit (BQ_hit ?_)
    refine AW_seq ?_
    refine AW_region ?_
    refine AL_p (x_move rfl rfl) ?_
    refine AL_p (x_field (off := 7) (o' := 7) rfl rfl rfl (by kernel_rfl) rfl) ?_
    refine AL_p (x_load1 rfl rfl rfl (by kernel_rfl) rfl) ?_
    refine AL_p (x_len (E := 114) (n := 3) rfl rfl (by kernel_rfl)) ?_
    refine AL_p (x_conv (k' := .u8) rfl rfl (by kernel_rfl) (wrap8_id (by omega) (by omega))) ?_
    refine AL_p (y_bslice (E := 5) (e := (intE .u8)) [.tmp 58] ([(m.acts.length : Int)]) 108 rfl rfl rfl rfl rfl rfl rfl rfl FitL.rf rfl rfl rfl rfl rfl rfl (by kernel_rfl)) ?_
    refine AL_p (y_append 109 rfl rfl rfl rfl rfl rfl rfl rfl (by kernel_rfl) (by (try simp only [List.length_append, List.length_cons, List.length_nil, putB_len, pairTo_len]); omega)) ?_
    refine AL_p (x_assign rfl rfl) ?_
    refine AL_nil ?_
    refine AW_seq ?_
    refine AW_region ?_
    refine AL_p (x_field (off := 7) (o' := 7) rfl rfl rfl (by kernel_rfl) rfl) ?_
    refine AL_p (x_load1 rfl rfl rfl (by kernel_rfl) rfl) ?_
    refine AL_p (x_len (E := 114) (n := 3) rfl rfl (by kernel_rfl)) ?_
    refine AL_p (x_move rfl rfl) ?_
    refine AL_nil ?_
    refine AW_block ?_
    refine AW_loop2 (ι := {q : Nat // q ≤ m.acts.length}) (fun p => [(4, .one (.own 109)), (64, .one (.c (.int .i64 ((p.1) : Int))))]) (fun p => [(109, some (.arr 5 (intE .u8) ([1, m.kind, 0, 0] ++ putB m.session 4 ++ putB m.xid 4 ++ putB m.epoch 4 ++ putB m.prio 2 ++ pairTo m.mat 8 ++ [(m.acts.length : Int)] ++ flatTo actBytes m.acts (p.1)) true))]) [62, 63] [100] (fun p => m.acts.length - (p.1)) ⟨0, by omega⟩ (rn []) ?_ ?_
    exact ⟨by (repeat refine ⟨⟨_, rfl, by first | exact VLe.rf | exact vle_int (by dsimp only; omega)⟩, ?_⟩); exact trivial, by (repeat refine ⟨⟨_, rfl, by first | exact BLe.rf | exact BLe.box AllC.rf | exact BLe.arr (by first | (rw [flatTo_zero, List.append_nil]; done) | (rw [hpl, flatTo_zero, List.append_nil]; done) | (rw [← flatTo_more (f := actBytes) (k := j) (by omega)]; simp only [actBytes, hp1, hp2, List.append_assoc, List.cons_append, List.nil_append]; done) | (exfalso; omega))⟩, ?_⟩); exact trivial, by repeat (first | exact trivial | refine ⟨⟨rfl, by first | (left; intro h; cases h) | (right; rfl), by first | exact (fun _ h => ⟨_, h⟩) | exact (fun _ _ => ⟨_, rfl⟩)⟩, ?_⟩), rfl⟩
    rintro ⟨j, hinv⟩
    dsimp only
    have hj := hinv
    refine AW_seq ?_
    refine AW_region ?_
    refine AL_b (x_lss rfl rfl rfl) (fun b65 h65 => ?_)
    refine AL_nil ?_
    refine AW_seq ?_
    cases b65
    · try simp only [tdy] at h65
      have haj := haf j
      refine AW_condF rfl ?_
      refine AW_exit (BQ_hit ?_)
      refine AW_seq ?_
      refine AW_draw rfl ?_
      refine AL_p (x_move rfl rfl) ?_
      refine AL_p (x_oslice (n := 1) rfl rfl rfl (by kernel_rfl) rfl (.yes (l := 2) rfl (by omega)) (.yes (l := 4) rfl (by omega)) (by omega) (by (try simp only [List.length_append, List.length_cons, List.length_nil, putB_len, pairTo_len]); omega)) ?_
      refine AL_p (x_move rfl rfl) ?_
      refine AL_p (x_olen (E := 5) (n := 1) rfl rfl rfl (by kernel_rfl)) ?_
      refine AL_p (x_call1 rfl rfl rfl (AT.nil (putI_t [] _ 2 (by omega) (by (try simp only [List.length_append, List.length_cons, List.length_nil, putB_len, pairTo_len]); omega) (by omega) (by simp)) rfl 114) rfl rfl rfl rfl) ?_
      refine AL_p (x_copy (E := 5) (kd := .u8) rfl rfl rfl rfl rfl (by kernel_rfl) putB_len (by omega) (by (try simp only [List.length_append, List.length_cons, List.length_nil, putB_len, pairTo_len]); omega) rfl) ?_
      refine AL_nild (by kernel_rfl) ?_
      refine AW_seq ?_
      refine AW_region ?_
      refine AL_p (x_move rfl rfl) ?_
      refine AL_p (x_assign rfl rfl) ?_
      refine AL_p (x_assign rfl rfl) ?_
      refine AL_nil ?_
      refine AW_ret ?_
      exact ⟨rn [(0, 109)], ⟨⟨⟨_, rfl, VLe.rf⟩, ⟨_, rfl, by first | exact VLe.rf | exact vle_bool (by rw [hno])⟩, trivial⟩, ⟨⟨_, rfl, by first | exact BLe.rf | (refine BLe.arr ?_; rw [hno]; done) | (refine BLe.arr ?_; rw [hno]; exact whole_of (by unfold openB; (try simp only [handB]); first | (rw [bodyB_add (by omega)]; simp only [flatTo_all (f := actBytes) (xs := m.acts) (k := j) (by omega), List.append_assoc, List.nil_append]; done) | (rw [bodyB_flip (by omega)]; done) | (rw [bodyB_flip (by omega)]; simp only [List.append_assoc, List.nil_append]; done) | (rw [bodyB_note (by omega)]; simp only [headBy, flatTo_all (f := fun n => putB n 6) (xs := m.head.v) (k := i) (by omega), List.append_assoc, List.nil_append]; done) | (rw [bodyB_note (by omega), flatTo_all (f := fun n => putB n 6) (xs := m.head.v) (k := i) (by omega)]; simp [headBy, handB, *]; done) | (rw [bodyB_none (by omega) (by omega) (by omega)]; done) | (rw [bodyB_none (by omega) (by omega) (by omega)]; simp only [List.append_nil]; done) | (exfalso; omega)))⟩, trivial⟩, trivial, rfl⟩⟩
    try simp only [tdy] at h65
    have hab := actB_in (actsB_get hact (k := j) (by omega))
    have hp1 : putB (m.acts[j]'(by omega)).kind 1 = [(m.acts[j]'(by omega)).kind] := putB_one (by omega) (by omega)
    have hp2 : putB (m.acts[j]'(by omega)).a 1 = [(m.acts[j]'(by omega)).a] := putB_one (by omega) (by omega)
    have haj := haf j
    refine AW_condT rfl ?_
    refine AW_skip ?_
    refine AW_seq ?_
    refine AW_block ?_
    refine AW_seq ?_
    refine AW_region ?_
    refine AL_p (x_index (E := 114) (n := 3) rfl rfl rfl (by kernel_rfl) rfl (k := j) (by omega) (by omega)) ?_
    refine AL_p (x_eloadW (n := 3) rfl rfl (by kernel_rfl) rfl) ?_
    refine AL_p (x_alloc (z := .agg #[.int .i64 0, .int .i64 0, .int .i64 0]) 110 rfl (by kernel_rfl) rfl rfl rfl rfl) ?_
    refine AL_p (x_store (n := 3) rfl rfl rfl rfl (by kernel_rfl) rfl rfl rfl) ?_
    refine AL_nil ?_
    refine AW_draw rfl ?_
    refine AL_p (x_move rfl rfl) ?_
    refine AL_p (x_field (off := 0) (o' := 0) rfl rfl rfl (by kernel_rfl) rfl) ?_
    refine AL_p (x_load1 rfl rfl rfl (by kernel_rfl) rfl) ?_
    refine AL_p (x_conv (k' := .u8) rfl rfl (by kernel_rfl) (wrap8_id (by omega) (by omega))) ?_
    refine AL_p (x_field (off := 1) (o' := 1) rfl rfl rfl (by kernel_rfl) rfl) ?_
    refine AL_p (x_load1 rfl rfl rfl (by kernel_rfl) rfl) ?_
    refine AL_p (x_conv (k' := .u8) rfl rfl (by kernel_rfl) (wrap8_id (by omega) (by omega))) ?_
    refine AL_p (y_bslice (E := 5) (e := (intE .u8)) [.tmp 71, .tmp 74] ([(m.acts[j]'(by omega)).kind, (m.acts[j]'(by omega)).a]) 111 rfl rfl rfl rfl rfl rfl rfl rfl FitL.rf rfl rfl rfl rfl rfl rfl (by kernel_rfl)) ?_
    refine AL_p (y_append 112 rfl rfl rfl rfl rfl rfl rfl rfl (by kernel_rfl) (by (try simp only [List.length_append, List.length_cons, List.length_nil, putB_len, pairTo_len]); omega)) ?_
    refine AL_p (x_field (off := 2) (o' := 2) rfl rfl rfl (by kernel_rfl) rfl) ?_
    refine AL_p (x_load1 rfl rfl rfl (by kernel_rfl) rfl) ?_
    refine AL_p (x_call (ks := []) (L := [(112, some _)]) (L' := [(112, none), (113, some _)]) rfl rfl rfl (AT.lend1 (putI_t _ (m.acts[j]'(by omega)).b 6 (by omega) (by omega) (by omega) (by (try simp only [List.length_append, List.length_cons, List.length_nil, putB_len, pairTo_len]); omega)) 112 113 rfl (fun _ => rfl)) rfl AllV.rf (caught_of rfl) rfl rfl rfl ⟨rfl, trivial⟩ rfl) ?_
    refine AL_p (x_assign rfl rfl) ?_
    refine AL_nild (by kernel_rfl) ?_
    refine AW_region ?_
    refine AL_p (x_add rfl rfl rfl (IntWalk.i64_in _ (by omega))) ?_
    refine AL_p (x_move rfl rfl) ?_
    refine AL_nil ?_
    refine ⟨⟨j + 1, by omega⟩, rn [(109, 113)], ?_, by dsimp only; omega⟩
    exact ⟨by (repeat refine ⟨⟨_, rfl, by first | exact VLe.rf | exact vle_int (by dsimp only; omega)⟩, ?_⟩); exact trivial, by (repeat refine ⟨⟨_, rfl, by first | exact BLe.rf | exact BLe.box AllC.rf | exact BLe.arr (by first | (rw [flatTo_zero, List.append_nil]; done) | (rw [hpl, flatTo_zero, List.append_nil]; done) | (rw [← flatTo_more (f := actBytes) (k := j) (by omega)]; simp only [actBytes, hp1, hp2, List.append_assoc, List.cons_append, List.nil_append]; done) | (exfalso; omega))⟩, ?_⟩); exact trivial, by repeat (first | exact trivial | refine ⟨⟨rfl, by first | (left; intro h; cases h) | (right; rfl), by first | exact (fun _ h => ⟨_, h⟩) | exact (fun _ _ => ⟨_, rfl⟩)⟩, ?_⟩), rfl⟩
  try simp only [tdy] at h27
  refine AW_condF rfl ?_
  refine AW_seq ?_
  refine AW_region ?_
  refine AL_b (x_eql rfl rfl rfl) (fun b82 h82 => ?_)
  refine AL_p (x_assign rfl rfl) ?_
  refine AL_nil ?_
  cases b82
  rotate_left
  · try simp only [tdy] at h82
    refine AW_condT rfl ?_
    refine AW_region ?_
    refine AL_p (x_move rfl rfl) ?_
    refine AL_p (x_field (off := 3) (o' := 3) rfl rfl rfl (by kernel_rfl) rfl) ?_
    refine AL_p (x_load1 rfl rfl rfl (by kernel_rfl) rfl) ?_
    refine AL_p (x_call (ks := []) (L := [(103, some _)]) (L' := [(103, none), (115, some _)]) rfl rfl rfl (AT.lend1 (putI_t _ m.epoch 4 (by omega) (by omega) (by omega) (by (try simp only [List.length_append, List.length_cons, List.length_nil, putB_len, pairTo_len]); omega)) 103 115 rfl (fun _ => rfl)) rfl AllV.rf (caught_of rfl) rfl rfl rfl ⟨rfl, trivial⟩ rfl) ?_
    refine AL_p (x_assign rfl rfl) ?_
    refine AL_nil ?_
    refine AW_seq ?_
    refine AW_draw rfl ?_
    refine AL_p (x_move rfl rfl) ?_
    refine AL_p (x_oslice (n := 1) rfl rfl rfl (by kernel_rfl) rfl (.yes (l := 2) rfl (by omega)) (.yes (l := 4) rfl (by omega)) (by omega) (by (try simp only [List.length_append, List.length_cons, List.length_nil, putB_len, pairTo_len]); omega)) ?_
    refine AL_p (x_move rfl rfl) ?_
    refine AL_p (x_olen (E := 5) (n := 1) rfl rfl rfl (by kernel_rfl)) ?_
    refine AL_p (x_call1 rfl rfl rfl (AT.nil (putI_t [] _ 2 (by omega) (by (try simp only [List.length_append, List.length_cons, List.length_nil, putB_len, pairTo_len]); omega) (by omega) (by simp)) rfl 114) rfl rfl rfl rfl) ?_
    refine AL_p (x_copy (E := 5) (kd := .u8) rfl rfl rfl rfl rfl (by kernel_rfl) putB_len (by omega) (by (try simp only [List.length_append, List.length_cons, List.length_nil, putB_len, pairTo_len]); omega) rfl) ?_
    refine AL_nild (by kernel_rfl) ?_
    refine AW_seq ?_
    refine AW_region ?_
    refine AL_p (x_move rfl rfl) ?_
    refine AL_p (x_assign rfl rfl) ?_
    refine AL_p (x_assign rfl rfl) ?_
    refine AL_nil ?_
    refine AW_ret ?_
    exact ⟨rn [(0, 115)], ⟨⟨⟨_, rfl, VLe.rf⟩, ⟨_, rfl, by first | exact VLe.rf | exact vle_bool (by rw [hno])⟩, trivial⟩, ⟨⟨_, rfl, by first | exact BLe.rf | (refine BLe.arr ?_; rw [hno]; done) | (refine BLe.arr ?_; rw [hno]; exact whole_of (by unfold openB; (try simp only [handB]); first | (rw [bodyB_add (by omega)]; simp only [flatTo_all (f := actBytes) (xs := m.acts) (k := j) (by omega), List.append_assoc, List.nil_append]; done) | (rw [bodyB_flip (by omega)]; done) | (rw [bodyB_flip (by omega)]; simp only [List.append_assoc, List.nil_append]; done) | (rw [bodyB_note (by omega)]; simp only [headBy, flatTo_all (f := fun n => putB n 6) (xs := m.head.v) (k := i) (by omega), List.append_assoc, List.nil_append]; done) | (rw [bodyB_note (by omega), flatTo_all (f := fun n => putB n 6) (xs := m.head.v) (k := i) (by omega)]; simp [headBy, handB, *]; done) | (rw [bodyB_none (by omega) (by omega) (by omega)]; done) | (rw [bodyB_none (by omega) (by omega) (by omega)]; simp only [List.append_nil]; done) | (exfalso; omega)))⟩, trivial⟩, trivial, rfl⟩⟩
  try simp only [tdy] at h82
  refine AW_condF rfl ?_
  refine AW_seq ?_
  refine AW_region ?_
  refine AL_b (x_eql rfl rfl rfl) (fun b88 h88 => ?_)
  refine AL_p (x_assign rfl rfl) ?_
  refine AL_nil ?_
  cases b88
  · try simp only [tdy] at h88
    refine AW_condF rfl ?_
    refine AW_skip ?_
    refine AW_seq ?_
    refine AW_draw rfl ?_
    refine AL_p (x_move rfl rfl) ?_
    refine AL_p (x_oslice (n := 1) rfl rfl rfl (by kernel_rfl) rfl (.yes (l := 2) rfl (by omega)) (.yes (l := 4) rfl (by omega)) (by omega) (by (try simp only [List.length_append, List.length_cons, List.length_nil, putB_len, pairTo_len]); omega)) ?_
    refine AL_p (x_move rfl rfl) ?_
    refine AL_p (x_olen (E := 5) (n := 1) rfl rfl rfl (by kernel_rfl)) ?_
    refine AL_p (x_call1 rfl rfl rfl (AT.nil (putI_t [] _ 2 (by omega) (by (try simp only [List.length_append, List.length_cons, List.length_nil, putB_len, pairTo_len]); omega) (by omega) (by simp)) rfl 114) rfl rfl rfl rfl) ?_
    refine AL_p (x_copy (E := 5) (kd := .u8) rfl rfl rfl rfl rfl (by kernel_rfl) putB_len (by omega) (by (try simp only [List.length_append, List.length_cons, List.length_nil, putB_len, pairTo_len]); omega) rfl) ?_
    refine AL_nild (by kernel_rfl) ?_
    refine AW_seq ?_
    refine AW_region ?_
    refine AL_p (x_move rfl rfl) ?_
    refine AL_p (x_assign rfl rfl) ?_
    refine AL_p (x_assign rfl rfl) ?_
    refine AL_nil ?_
    refine AW_ret ?_
    exact ⟨rn [(0, 103)], ⟨⟨⟨_, rfl, VLe.rf⟩, ⟨_, rfl, by first | exact VLe.rf | exact vle_bool (by rw [hno])⟩, trivial⟩, ⟨⟨_, rfl, by first | exact BLe.rf | (refine BLe.arr ?_; rw [hno]; done) | (refine BLe.arr ?_; rw [hno]; exact whole_of (by unfold openB; (try simp only [handB]); first | (rw [bodyB_add (by omega)]; simp only [flatTo_all (f := actBytes) (xs := m.acts) (k := j) (by omega), List.append_assoc, List.nil_append]; done) | (rw [bodyB_flip (by omega)]; done) | (rw [bodyB_flip (by omega)]; simp only [List.append_assoc, List.nil_append]; done) | (rw [bodyB_note (by omega)]; simp only [headBy, flatTo_all (f := fun n => putB n 6) (xs := m.head.v) (k := i) (by omega), List.append_assoc, List.nil_append]; done) | (rw [bodyB_note (by omega), flatTo_all (f := fun n => putB n 6) (xs := m.head.v) (k := i) (by omega)]; simp [headBy, handB, *]; done) | (rw [bodyB_none (by omega) (by omega) (by omega)]; done) | (rw [bodyB_none (by omega) (by omega) (by omega)]; simp only [List.append_nil]; done) | (exfalso; omega)))⟩, trivial⟩, trivial, rfl⟩⟩
  try simp only [tdy] at h88
  have hN2 := hN (by omega)
  have hN8 := eight_8 hN2
  have hhf := head_len (l := m.head.v)
  refine AW_condT rfl ?_
  refine AW_seq ?_
  refine AW_region ?_
  refine AL_p (x_assign rfl rfl) ?_
  refine AL_nil ?_
  refine AW_seq ?_
  refine AW_seq ?_
  refine AW_region ?_
  refine AL_p (x_field (off := 8) (o' := 8) rfl rfl rfl (by kernel_rfl) rfl) ?_
  refine AL_b (x_load1 rfl rfl rfl (by kernel_rfl) rfl) (fun b90 h90 => ?_)
  refine AL_nil ?_
  cases b90
  · try simp only [tdy] at h90
    refine AW_condF rfl ?_
    refine AW_skip ?_
    refine AW_seq ?_
    refine AW_region ?_
    refine AL_p (x_move rfl rfl) ?_
    refine AL_p (x_move rfl rfl) ?_
    refine AL_p (y_bslice (E := 5) (e := (intE .u8)) [.tmp 92] ([_]) 116 rfl rfl rfl rfl rfl rfl rfl rfl FitL.rf rfl rfl rfl rfl rfl rfl (by kernel_rfl)) ?_
    refine AL_p (y_append 117 rfl rfl rfl rfl rfl rfl rfl rfl (by kernel_rfl) (by (try simp only [List.length_append, List.length_cons, List.length_nil, putB_len, pairTo_len]); omega)) ?_
    refine AL_p (x_assign rfl rfl) ?_
    refine AL_nil ?_
    refine AW_seq ?_
    refine AW_region ?_
    refine AL_p (x_field (off := 9) (o' := 9) rfl rfl rfl (by kernel_rfl) rfl) ?_
    refine AL_p (x_field (off := 0) (o' := 9) rfl rfl rfl (by kernel_rfl) rfl) ?_
    refine AL_p (x_load1 rfl rfl rfl (by kernel_rfl) rfl) ?_
    refine AL_p (x_len (E := 3) (n := 1) rfl rfl (by kernel_rfl)) ?_
    refine AL_p (x_move rfl rfl) ?_
    refine AL_nil ?_
    refine AW_block ?_
    refine AW_loop2 (ι := {q : Nat // q ≤ m.head.v.length}) (fun p => [(4, .one (.own 117)), (99, .one (.c (.int .i64 ((p.1) : Int))))]) (fun p => [(117, some (.arr 5 (intE .u8) ([1, m.kind, 0, 0] ++ putB m.session 4 ++ putB m.xid 4 ++ [handB m.hand] ++ flatTo (fun n => putB n 6) m.head.v (p.1)) true))]) [97, 98] [100] (fun p => m.head.v.length - (p.1)) ⟨0, by omega⟩ (rn []) ?_ ?_
    exact ⟨by (repeat refine ⟨⟨_, rfl, by first | exact VLe.rf | exact vle_int (by dsimp only; omega)⟩, ?_⟩); exact trivial, by (repeat refine ⟨⟨_, rfl, by first | exact BLe.rf | exact BLe.box AllC.rf | exact BLe.arr (by first | (rw [flatTo_zero, List.append_nil]; simp [handB, *]; done) | (rw [← flatTo_more (f := fun n => putB n 6) (k := i) (by omega)]; simp only [List.append_assoc]; done) | (exfalso; omega))⟩, ?_⟩); exact trivial, by repeat (first | exact trivial | refine ⟨⟨rfl, by first | (left; intro h; cases h) | (right; rfl), by first | exact (fun _ h => ⟨_, h⟩) | exact (fun _ _ => ⟨_, rfl⟩)⟩, ?_⟩), rfl⟩
    rintro ⟨i, hinv⟩
    dsimp only
    have hi := hinv
    refine AW_seq ?_
    refine AW_region ?_
    refine AL_b (x_lss rfl rfl rfl) (fun b100 h100 => ?_)
    refine AL_nil ?_
    refine AW_seq ?_
    cases b100
    · try simp only [tdy] at h100
      have hhi := hhf i
      refine AW_condF rfl ?_
      refine AW_exit (BQ_hit ?_)
      refine AW_seq ?_
      refine AW_draw rfl ?_
      refine AL_p (x_move rfl rfl) ?_
      refine AL_p (x_oslice (n := 1) rfl rfl rfl (by kernel_rfl) rfl (.yes (l := 2) rfl (by omega)) (.yes (l := 4) rfl (by omega)) (by omega) (by (try simp only [List.length_append, List.length_cons, List.length_nil, putB_len, pairTo_len]); omega)) ?_
      refine AL_p (x_move rfl rfl) ?_
      refine AL_p (x_olen (E := 5) (n := 1) rfl rfl rfl (by kernel_rfl)) ?_
      refine AL_p (x_call1 rfl rfl rfl (AT.nil (putI_t [] _ 2 (by omega) (by (try simp only [List.length_append, List.length_cons, List.length_nil, putB_len, pairTo_len]); omega) (by omega) (by simp)) rfl 114) rfl rfl rfl rfl) ?_
      refine AL_p (x_copy (E := 5) (kd := .u8) rfl rfl rfl rfl rfl (by kernel_rfl) putB_len (by omega) (by (try simp only [List.length_append, List.length_cons, List.length_nil, putB_len, pairTo_len]); omega) rfl) ?_
      refine AL_nild (by kernel_rfl) ?_
      refine AW_seq ?_
      refine AW_region ?_
      refine AL_p (x_move rfl rfl) ?_
      refine AL_p (x_assign rfl rfl) ?_
      refine AL_p (x_assign rfl rfl) ?_
      refine AL_nil ?_
      refine AW_ret ?_
      exact ⟨rn [(0, 117)], ⟨⟨⟨_, rfl, VLe.rf⟩, ⟨_, rfl, by first | exact VLe.rf | exact vle_bool (by rw [hno])⟩, trivial⟩, ⟨⟨_, rfl, by first | exact BLe.rf | (refine BLe.arr ?_; rw [hno]; done) | (refine BLe.arr ?_; rw [hno]; exact whole_of (by unfold openB; (try simp only [handB]); first | (rw [bodyB_add (by omega)]; simp only [flatTo_all (f := actBytes) (xs := m.acts) (k := j) (by omega), List.append_assoc, List.nil_append]; done) | (rw [bodyB_flip (by omega)]; done) | (rw [bodyB_flip (by omega)]; simp only [List.append_assoc, List.nil_append]; done) | (rw [bodyB_note (by omega)]; simp only [headBy, flatTo_all (f := fun n => putB n 6) (xs := m.head.v) (k := i) (by omega), List.append_assoc, List.nil_append]; done) | (rw [bodyB_note (by omega), flatTo_all (f := fun n => putB n 6) (xs := m.head.v) (k := i) (by omega)]; simp [headBy, handB, *]; done) | (rw [bodyB_none (by omega) (by omega) (by omega)]; done) | (rw [bodyB_none (by omega) (by omega) (by omega)]; simp only [List.append_nil]; done) | (exfalso; omega)))⟩, trivial⟩, trivial, rfl⟩⟩
    try simp only [tdy] at h100
    have hf8 := fits48 (eight_get hN2 (k := i) (by omega))
    have hhi := hhf i
    refine AW_condT rfl ?_
    refine AW_skip ?_
    refine AW_seq ?_
    refine AW_block ?_
    refine AW_seq ?_
    refine AW_region ?_
    refine AL_p (x_index (E := 3) (n := 1) rfl rfl rfl (by kernel_rfl) rfl (k := i) (by omega) (by omega)) ?_
    refine AL_p (x_eload1 rfl rfl (by kernel_rfl) rfl) ?_
    refine AL_p (x_assign rfl rfl) ?_
    refine AL_nil ?_
    refine AW_region ?_
    refine AL_p (x_move rfl rfl) ?_
    refine AL_p (x_move rfl rfl) ?_
    refine AL_p (x_call (ks := []) (L := [(117, some _)]) (L' := [(117, none), (118, some _)]) rfl rfl rfl (AT.lend1 (putI_t _ (m.head.v[i]'(by omega)) 6 (by omega) (by omega) (by omega) (by (try simp only [List.length_append, List.length_cons, List.length_nil, putB_len, pairTo_len]); omega)) 117 118 rfl (fun _ => rfl)) rfl AllV.rf (caught_of rfl) rfl rfl rfl ⟨rfl, trivial⟩ rfl) ?_
    refine AL_p (x_assign rfl rfl) ?_
    refine AL_nil ?_
    refine AW_region ?_
    refine AL_p (x_add rfl rfl rfl (IntWalk.i64_in _ (by omega))) ?_
    refine AL_p (x_move rfl rfl) ?_
    refine AL_nil ?_
    refine ⟨⟨i + 1, by omega⟩, rn [(117, 118)], ?_, by dsimp only; omega⟩
    exact ⟨by (repeat refine ⟨⟨_, rfl, by first | exact VLe.rf | exact vle_int (by dsimp only; omega)⟩, ?_⟩); exact trivial, by (repeat refine ⟨⟨_, rfl, by first | exact BLe.rf | exact BLe.box AllC.rf | exact BLe.arr (by first | (rw [flatTo_zero, List.append_nil]; simp [handB, *]; done) | (rw [← flatTo_more (f := fun n => putB n 6) (k := i) (by omega)]; simp only [List.append_assoc]; done) | (exfalso; omega))⟩, ?_⟩); exact trivial, by repeat (first | exact trivial | refine ⟨⟨rfl, by first | (left; intro h; cases h) | (right; rfl), by first | exact (fun _ h => ⟨_, h⟩) | exact (fun _ _ => ⟨_, rfl⟩)⟩, ?_⟩), rfl⟩
  try simp only [tdy] at h90
  refine AW_condT rfl ?_
  refine AW_region ?_
  refine AL_p (x_assign rfl rfl) ?_
  refine AL_nil ?_
  refine AW_seq ?_
  refine AW_region ?_
  refine AL_p (x_move rfl rfl) ?_
  refine AL_p (x_move rfl rfl) ?_
  refine AL_p (y_bslice (E := 5) (e := (intE .u8)) [.tmp 92] ([_]) 116 rfl rfl rfl rfl rfl rfl rfl rfl FitL.rf rfl rfl rfl rfl rfl rfl (by kernel_rfl)) ?_
  refine AL_p (y_append 117 rfl rfl rfl rfl rfl rfl rfl rfl (by kernel_rfl) (by (try simp only [List.length_append, List.length_cons, List.length_nil, putB_len, pairTo_len]); omega)) ?_
  refine AL_p (x_assign rfl rfl) ?_
  refine AL_nil ?_
  refine AW_seq ?_
  refine AW_region ?_
  refine AL_p (x_field (off := 9) (o' := 9) rfl rfl rfl (by kernel_rfl) rfl) ?_
  refine AL_p (x_field (off := 0) (o' := 9) rfl rfl rfl (by kernel_rfl) rfl) ?_
  refine AL_p (x_load1 rfl rfl rfl (by kernel_rfl) rfl) ?_
  refine AL_p (x_len (E := 3) (n := 1) rfl rfl (by kernel_rfl)) ?_
  refine AL_p (x_move rfl rfl) ?_
  refine AL_nil ?_
  refine AW_block ?_
  refine AW_loop2 (ι := {q : Nat // q ≤ m.head.v.length}) (fun p => [(4, .one (.own 117)), (99, .one (.c (.int .i64 ((p.1) : Int))))]) (fun p => [(117, some (.arr 5 (intE .u8) ([1, m.kind, 0, 0] ++ putB m.session 4 ++ putB m.xid 4 ++ [handB m.hand] ++ flatTo (fun n => putB n 6) m.head.v (p.1)) true))]) [97, 98] [100] (fun p => m.head.v.length - (p.1)) ⟨0, by omega⟩ (rn []) ?_ ?_
  exact ⟨by (repeat refine ⟨⟨_, rfl, by first | exact VLe.rf | exact vle_int (by dsimp only; omega)⟩, ?_⟩); exact trivial, by (repeat refine ⟨⟨_, rfl, by first | exact BLe.rf | exact BLe.box AllC.rf | exact BLe.arr (by first | (rw [flatTo_zero, List.append_nil]; simp [handB, *]; done) | (rw [← flatTo_more (f := fun n => putB n 6) (k := i) (by omega)]; simp only [List.append_assoc]; done) | (exfalso; omega))⟩, ?_⟩); exact trivial, by repeat (first | exact trivial | refine ⟨⟨rfl, by first | (left; intro h; cases h) | (right; rfl), by first | exact (fun _ h => ⟨_, h⟩) | exact (fun _ _ => ⟨_, rfl⟩)⟩, ?_⟩), rfl⟩
  rintro ⟨i, hinv⟩
  dsimp only
  have hi := hinv
  refine AW_seq ?_
  refine AW_region ?_
  refine AL_b (x_lss rfl rfl rfl) (fun b100 h100 => ?_)
  refine AL_nil ?_
  refine AW_seq ?_
  cases b100
  · try simp only [tdy] at h100
    have hhi := hhf i
    refine AW_condF rfl ?_
    refine AW_exit (BQ_hit ?_)
    refine AW_seq ?_
    refine AW_draw rfl ?_
    refine AL_p (x_move rfl rfl) ?_
    refine AL_p (x_oslice (n := 1) rfl rfl rfl (by kernel_rfl) rfl (.yes (l := 2) rfl (by omega)) (.yes (l := 4) rfl (by omega)) (by omega) (by (try simp only [List.length_append, List.length_cons, List.length_nil, putB_len, pairTo_len]); omega)) ?_
    refine AL_p (x_move rfl rfl) ?_
    refine AL_p (x_olen (E := 5) (n := 1) rfl rfl rfl (by kernel_rfl)) ?_
    refine AL_p (x_call1 rfl rfl rfl (AT.nil (putI_t [] _ 2 (by omega) (by (try simp only [List.length_append, List.length_cons, List.length_nil, putB_len, pairTo_len]); omega) (by omega) (by simp)) rfl 114) rfl rfl rfl rfl) ?_
    refine AL_p (x_copy (E := 5) (kd := .u8) rfl rfl rfl rfl rfl (by kernel_rfl) putB_len (by omega) (by (try simp only [List.length_append, List.length_cons, List.length_nil, putB_len, pairTo_len]); omega) rfl) ?_
    refine AL_nild (by kernel_rfl) ?_
    refine AW_seq ?_
    refine AW_region ?_
    refine AL_p (x_move rfl rfl) ?_
    refine AL_p (x_assign rfl rfl) ?_
    refine AL_p (x_assign rfl rfl) ?_
    refine AL_nil ?_
    refine AW_ret ?_
    exact ⟨rn [(0, 117)], ⟨⟨⟨_, rfl, VLe.rf⟩, ⟨_, rfl, by first | exact VLe.rf | exact vle_bool (by rw [hno])⟩, trivial⟩, ⟨⟨_, rfl, by first | exact BLe.rf | (refine BLe.arr ?_; rw [hno]; done) | (refine BLe.arr ?_; rw [hno]; exact whole_of (by unfold openB; (try simp only [handB]); first | (rw [bodyB_add (by omega)]; simp only [flatTo_all (f := actBytes) (xs := m.acts) (k := j) (by omega), List.append_assoc, List.nil_append]; done) | (rw [bodyB_flip (by omega)]; done) | (rw [bodyB_flip (by omega)]; simp only [List.append_assoc, List.nil_append]; done) | (rw [bodyB_note (by omega)]; simp only [headBy, flatTo_all (f := fun n => putB n 6) (xs := m.head.v) (k := i) (by omega), List.append_assoc, List.nil_append]; done) | (rw [bodyB_note (by omega), flatTo_all (f := fun n => putB n 6) (xs := m.head.v) (k := i) (by omega)]; simp [headBy, handB, *]; done) | (rw [bodyB_none (by omega) (by omega) (by omega)]; done) | (rw [bodyB_none (by omega) (by omega) (by omega)]; simp only [List.append_nil]; done) | (exfalso; omega)))⟩, trivial⟩, trivial, rfl⟩⟩
  try simp only [tdy] at h100
  have hf8 := fits48 (eight_get hN2 (k := i) (by omega))
  have hhi := hhf i
  refine AW_condT rfl ?_
  refine AW_skip ?_
  refine AW_seq ?_
  refine AW_block ?_
  refine AW_seq ?_
  refine AW_region ?_
  refine AL_p (x_index (E := 3) (n := 1) rfl rfl rfl (by kernel_rfl) rfl (k := i) (by omega) (by omega)) ?_
  refine AL_p (x_eload1 rfl rfl (by kernel_rfl) rfl) ?_
  refine AL_p (x_assign rfl rfl) ?_
  refine AL_nil ?_
  refine AW_region ?_
  refine AL_p (x_move rfl rfl) ?_
  refine AL_p (x_move rfl rfl) ?_
  refine AL_p (x_call (ks := []) (L := [(117, some _)]) (L' := [(117, none), (118, some _)]) rfl rfl rfl (AT.lend1 (putI_t _ (m.head.v[i]'(by omega)) 6 (by omega) (by omega) (by omega) (by (try simp only [List.length_append, List.length_cons, List.length_nil, putB_len, pairTo_len]); omega)) 117 118 rfl (fun _ => rfl)) rfl AllV.rf (caught_of rfl) rfl rfl rfl ⟨rfl, trivial⟩ rfl) ?_
  refine AL_p (x_assign rfl rfl) ?_
  refine AL_nil ?_
  refine AW_region ?_
  refine AL_p (x_add rfl rfl rfl (IntWalk.i64_in _ (by omega))) ?_
  refine AL_p (x_move rfl rfl) ?_
  refine AL_nil ?_
  refine ⟨⟨i + 1, by omega⟩, rn [(117, 118)], ?_, by dsimp only; omega⟩
  exact ⟨by (repeat refine ⟨⟨_, rfl, by first | exact VLe.rf | exact vle_int (by dsimp only; omega)⟩, ?_⟩); exact trivial, by (repeat refine ⟨⟨_, rfl, by first | exact BLe.rf | exact BLe.box AllC.rf | exact BLe.arr (by first | (rw [flatTo_zero, List.append_nil]; simp [handB, *]; done) | (rw [← flatTo_more (f := fun n => putB n 6) (k := i) (by omega)]; simp only [List.append_assoc]; done) | (exfalso; omega))⟩, ?_⟩); exact trivial, by repeat (first | exact trivial | refine ⟨⟨rfl, by first | (left; intro h; cases h) | (right; rfl), by first | exact (fun _ h => ⟨_, h⟩) | exact (fun _ _ => ⟨_, rfl⟩)⟩, ?_⟩), rfl⟩
theorem msgBytesI_c (m : Msgt) (k : Nat) : AC Try.prog 28 [.agg (msgC m)] [] (.tup [.one (.own k), .one (.c (.bool (msgBytes m).2))]) [(k, some (.arr 5 (intE .u8) ((msgBytes m).1) true))] := AC.at (msgBytesI_c0 m) k
end Go.Proofs.Ytfdpigafekohgaa

/- Bytes read again (printed by walk.py) -/
namespace Go.Proofs.Ytfdpigafekohgaa
open Go.RowKit
set_option linter.unusedVariables false
set_option linter.unusedSimpArgs false
set_option maxRecDepth 100000

set_option maxHeartbeats 4000000 in
theorem getI_c (l : List Int) (hl : l.length ≤ 6) : AC Try.prog 56 [.one (.sl (intE .u8) l)] [] (.one (.c (.int .i64 (bign l)))) [] := by
  refine AC_body1 Try.func56 rfl rfl Try.ntmps56 rfl Try.results56 ?_
  refine AW_slbyte 0 rfl (fun hy0 => ?_)
  refine AW_seq ?_
  refine AW_region ?_
  refine AL_p (x_assign rfl rfl) ?_
  refine AL_nil ?_
  refine AW_seq ?_
  refine AW_region ?_
  refine AL_p (x_assign rfl rfl) ?_
  refine AL_nil ?_
  refine AW_seq ?_
  refine AW_seq ?_
  refine AW_region ?_
  refine AL_p (x_move rfl rfl) ?_
  refine AL_p (x_len (E := 5) (n := 1) rfl rfl (by kernel_rfl)) ?_
  refine AL_p (x_move rfl rfl) ?_
  refine AL_nil ?_
  refine AW_block ?_
  refine AW_loop2 (ι := {q : Nat // q ≤ l.length}) (fun p => [(3, .one (.c (.int .i64 (bign (l.take (p.1)))))), (8, .one (.c (.int .i64 ((p.1) : Int))))]) (fun p => []) [6, 7] [] (fun p => l.length - (p.1)) ⟨0, by omega⟩ (rn []) ?_ ?_
  exact ⟨by (repeat refine ⟨⟨_, rfl, by first | exact VLe.rf | exact vle_int (by dsimp only; omega)⟩, ?_⟩); exact trivial, by (repeat refine ⟨⟨_, rfl, by first | exact BLe.rf | exact BLe.box AllC.rf | exact BLe.arr (by exact rfl)⟩, ?_⟩); exact trivial, by repeat (first | exact trivial | refine ⟨⟨rfl, by first | (left; intro h; cases h) | (right; rfl), by first | exact (fun _ h => ⟨_, h⟩) | exact (fun _ _ => ⟨_, rfl⟩)⟩, ?_⟩), rfl⟩
  rintro ⟨k, hinv⟩
  dsimp only
  have hk := hinv
  have hnb := bign_le (l := l.take k) (n := 6) (by simp; omega) (by omega)
  refine AW_seq ?_
  refine AW_region ?_
  refine AL_b (x_lss rfl rfl rfl) (fun b9 h9 => ?_)
  refine AL_nil ?_
  refine AW_seq ?_
  cases b9
  · try simp only [tdy] at h9
    refine AW_condF rfl ?_
    refine AW_exit (BQ_hit ?_)
    refine AW_seq ?_
    refine AW_region ?_
    refine AL_p (x_move rfl rfl) ?_
    refine AL_p (x_assign rfl rfl) ?_
    refine AL_nil ?_
    refine AW_ret ?_
    exact ⟨rn [], ⟨⟨⟨_, rfl, vle_int (by rw [List.take_of_length_le (by omega)])⟩, trivial⟩, trivial, trivial, rfl⟩⟩
  try simp only [tdy] at h9
  have hx := hy0 _ (List.getElem_mem (l := l) (n := k) (by omega))
  have hs := bign_next (l := l) (k := k) (by omega) hx
  refine AW_condT rfl ?_
  refine AW_skip ?_
  refine AW_seq ?_
  refine AW_block ?_
  refine AW_seq ?_
  refine AW_region ?_
  refine AL_p (x_index (E := 5) (n := 1) rfl rfl rfl (by kernel_rfl) rfl (k := k) (by omega) (by omega)) ?_
  refine AL_p (x_eload1 rfl rfl (by kernel_rfl) rfl) ?_
  refine AL_p (x_assign rfl rfl) ?_
  refine AL_nil ?_
  refine AW_region ?_
  refine AL_p (x_move rfl rfl) ?_
  refine AL_p (x_mul rfl rfl rfl (IntWalk.i64_in _ (by omega))) ?_
  refine AL_p (x_move rfl rfl) ?_
  refine AL_p (x_conv (k' := .i64) rfl rfl (by kernel_rfl) (IntWalk.i64_in _ (by omega))) ?_
  refine AL_p (x_add rfl rfl rfl (IntWalk.i64_in _ (by omega))) ?_
  refine AL_p (x_assign rfl rfl) ?_
  refine AL_nil ?_
  refine AW_region ?_
  refine AL_p (x_add rfl rfl rfl (IntWalk.i64_in _ (by omega))) ?_
  refine AL_p (x_move rfl rfl) ?_
  refine AL_nil ?_
  refine ⟨⟨k + 1, by omega⟩, rn [], ?_, by dsimp only; omega⟩
  exact ⟨by (repeat refine ⟨⟨_, rfl, by first | exact VLe.rf | exact vle_int (by dsimp only; omega)⟩, ?_⟩); exact trivial, by (repeat refine ⟨⟨_, rfl, by first | exact BLe.rf | exact BLe.box AllC.rf | exact BLe.arr (by exact rfl)⟩, ?_⟩); exact trivial, by repeat (first | exact trivial | refine ⟨⟨rfl, by first | (left; intro h; cases h) | (right; rfl), by first | exact (fun _ h => ⟨_, h⟩) | exact (fun _ _ => ⟨_, rfl⟩)⟩, ?_⟩), rfl⟩

set_option maxHeartbeats 4000000 in
theorem takeI_c (xs : List Int) (n : Int) (h0 : 0 ≤ n) (h1 : n ≤ 6) : AC Try.prog 81 [.one (.ptr 200 0), .one (.c (.int .i64 n))] [(200, some (.box [.sl (intE .u8) xs]))] (.one (.c (.int .i64 (takeI xs n).1))) [(200, some (.box [.sl (intE .u8) (takeI xs n).2]))] := by
  refine AC_body1 Try.func81 rfl rfl Try.ntmps81 rfl Try.results81 ?_
  refine AW_seq ?_
  refine AW_region ?_
  refine AL_p (x_assign rfl rfl) ?_
  refine AL_nil ?_
  refine AW_seq ?_
  refine AW_seq ?_
  refine AW_region ?_
  refine AL_p (x_move rfl rfl) ?_
  refine AL_p (x_nilc rfl rfl rfl) ?_
  refine AL_p (x_load1 rfl rfl rfl (by kernel_rfl) rfl) ?_
  refine AL_p (x_len (E := 5) (n := 1) rfl rfl (by kernel_rfl)) ?_
  refine AL_p (x_move rfl rfl) ?_
  refine AL_b (x_lss rfl rfl rfl) (fun b11 h11 => ?_)
  refine AL_nil ?_
  cases b11
  rotate_left
  · try simp only [tdy] at h11
    have hno := takeI_no h11
    refine AW_condT rfl ?_
    refine AW_seq ?_
    refine AW_region ?_
    refine AL_p (x_move rfl rfl) ?_
    refine AL_p (x_nilc rfl rfl rfl) ?_
    refine AL_p (x_store (n := 1) rfl rfl rfl rfl (by kernel_rfl) rfl rfl rfl) ?_
    refine AL_nil ?_
    refine AW_seq ?_
    refine AW_region ?_
    refine AL_p (x_assign rfl rfl) ?_
    refine AL_nil ?_
    refine AW_ret ?_
    exact ⟨rn [], ⟨⟨⟨_, rfl, vle_int (by rw [hno]; first | done | rfl)⟩, trivial⟩, ⟨⟨_, rfl, by rw [hno]; first | exact BLe.rf | exact BLe.box ⟨CLe.nil, trivial⟩⟩, trivial⟩, by repeat (first | exact trivial | refine ⟨⟨rfl, by first | (left; intro h; cases h) | (right; rfl), by first | exact (fun _ h => ⟨_, h⟩) | exact (fun _ _ => ⟨_, rfl⟩)⟩, ?_⟩), rfl⟩⟩
  try simp only [tdy] at h11
  have hno := takeI_ok (xs := xs) (n := n) (by omega)
  refine AW_condF rfl ?_
  refine AW_skip ?_
  refine AW_seq ?_
  refine AW_region ?_
  refine AL_p (x_move rfl rfl) ?_
  refine AL_p (x_nilc rfl rfl rfl) ?_
  refine AL_p (x_load1 rfl rfl rfl (by kernel_rfl) rfl) ?_
  refine AL_p (x_move rfl rfl) ?_
  refine AL_p (x_slice (E := 5) (n := 1) rfl rfl (by kernel_rfl) rfl .no (.yes (l := n.toNat) rfl (by omega)) (by omega) (by first | exact Nat.le_refl _ | omega) rfl) ?_
  refine AL_p (x_call0 rfl rfl rfl (getI_c (xs.take n.toNat) (by simp; omega)) rfl rfl) ?_
  refine AL_p (x_assign rfl rfl) ?_
  refine AL_nil ?_
  refine AW_seq ?_
  refine AW_region ?_
  refine AL_p (x_move rfl rfl) ?_
  refine AL_p (x_move rfl rfl) ?_
  refine AL_p (x_nilc rfl rfl rfl) ?_
  refine AL_p (x_load1 rfl rfl rfl (by kernel_rfl) rfl) ?_
  refine AL_p (x_move rfl rfl) ?_
  refine AL_p (x_slice (E := 5) (n := 1) rfl rfl (by kernel_rfl) rfl (.yes (l := n.toNat) rfl (by omega)) .no (by omega) (by first | exact Nat.le_refl _ | omega) part_drop) ?_
  refine AL_p (x_nilc rfl rfl rfl) ?_
  refine AL_p (x_store (n := 1) rfl rfl rfl rfl (by kernel_rfl) rfl rfl rfl) ?_
  refine AL_nil ?_
  refine AW_seq ?_
  refine AW_region ?_
  refine AL_p (x_move rfl rfl) ?_
  refine AL_p (x_assign rfl rfl) ?_
  refine AL_nil ?_
  refine AW_ret ?_
  exact ⟨rn [], ⟨⟨⟨_, rfl, vle_int (by rw [hno]; first | done | rfl)⟩, trivial⟩, ⟨⟨_, rfl, by rw [hno]; first | exact BLe.rf | exact BLe.box ⟨CLe.nil, trivial⟩⟩, trivial⟩, by repeat (first | exact trivial | refine ⟨⟨rfl, by first | (left; intro h; cases h) | (right; rfl), by first | exact (fun _ h => ⟨_, h⟩) | exact (fun _ _ => ⟨_, rfl⟩)⟩, ?_⟩), rfl⟩⟩

set_option maxHeartbeats 4000000 in
theorem equalB_c (x y : List Int) : AC Try.prog 82 [.one (.sl (intE .u8) x), .one (.sl (intE .u8) y)] [] (.one (.c (.bool (decide (x = y))))) [] := by
  refine AC_body1 Try.func82 rfl rfl Try.ntmps82 rfl Try.results82 ?_
  refine AW_slmax 0 rfl (fun hm0 => ?_)
  refine AW_slmax 1 rfl (fun hm1 => ?_)
  refine AW_seq ?_
  refine AW_region ?_
  refine AL_p (x_assign rfl rfl) ?_
  refine AL_nil ?_
  refine AW_seq ?_
  refine AW_seq ?_
  refine AW_region ?_
  refine AL_p (x_move rfl rfl) ?_
  refine AL_p (x_len (E := 5) (n := 1) rfl rfl (by kernel_rfl)) ?_
  refine AL_p (x_move rfl rfl) ?_
  refine AL_p (x_len (E := 5) (n := 1) rfl rfl (by kernel_rfl)) ?_
  refine AL_b (x_neq rfl rfl rfl) (fun b10 h10 => ?_)
  refine AL_nil ?_
  cases b10
  rotate_left
  · try simp only [tdy] at h10
    refine AW_condT rfl ?_
    refine AW_seq ?_
    refine AW_region ?_
    refine AL_p (x_assign rfl rfl) ?_
    refine AL_nil ?_
    refine AW_ret ?_
    exact ⟨rn [], ⟨⟨⟨_, rfl, vle_bool (by first | (symm; rw [decide_eq_false_iff_not]; intro e; subst e; first | omega | exact hne rfl) | (symm; rw [decide_eq_true_eq]; rw [← List.take_of_length_le (l := x) (i := k) (by omega), hs, List.take_of_length_le (by omega)]))⟩, trivial⟩, trivial, trivial, rfl⟩⟩
  try simp only [tdy] at h10
  refine AW_condF rfl ?_
  refine AW_skip ?_
  refine AW_seq ?_
  refine AW_seq ?_
  refine AW_region ?_
  refine AL_p (x_move rfl rfl) ?_
  refine AL_p (x_len (E := 5) (n := 1) rfl rfl (by kernel_rfl)) ?_
  refine AL_p (x_move rfl rfl) ?_
  refine AL_nil ?_
  refine AW_block ?_
  refine AW_loop2 (ι := {q : Nat // q ≤ x.length ∧ x.take q = y.take q}) (fun p => [(13, .one (.c (.int .i64 ((p.1) : Int))))]) (fun p => []) [0, 1, 12] [] (fun p => x.length - (p.1)) ⟨0, ⟨by omega, rfl⟩⟩ (rn []) ?_ ?_
  exact ⟨by (repeat refine ⟨⟨_, rfl, by first | exact VLe.rf | exact vle_int (by dsimp only; omega)⟩, ?_⟩); exact trivial, by (repeat refine ⟨⟨_, rfl, by first | exact BLe.rf | exact BLe.box AllC.rf | exact BLe.arr (by exact rfl)⟩, ?_⟩); exact trivial, by repeat (first | exact trivial | refine ⟨⟨rfl, by first | (left; intro h; cases h) | (right; rfl), by first | exact (fun _ h => ⟨_, h⟩) | exact (fun _ _ => ⟨_, rfl⟩)⟩, ?_⟩), rfl⟩
  rintro ⟨k, hinv⟩
  dsimp only
  obtain ⟨hk, hs⟩ := hinv
  refine AW_seq ?_
  refine AW_region ?_
  refine AL_b (x_lss rfl rfl rfl) (fun b14 h14 => ?_)
  refine AL_nil ?_
  refine AW_seq ?_
  cases b14
  · try simp only [tdy] at h14
    refine AW_condF rfl ?_
    refine AW_exit (BQ_hit ?_)
    refine AW_seq ?_
    refine AW_region ?_
    refine AL_p (x_assign rfl rfl) ?_
    refine AL_nil ?_
    refine AW_ret ?_
    exact ⟨rn [], ⟨⟨⟨_, rfl, vle_bool (by first | (symm; rw [decide_eq_false_iff_not]; intro e; subst e; first | omega | exact hne rfl) | (symm; rw [decide_eq_true_eq]; rw [← List.take_of_length_le (l := x) (i := k) (by omega), hs, List.take_of_length_le (by omega)]))⟩, trivial⟩, trivial, trivial, rfl⟩⟩
  try simp only [tdy] at h14
  refine AW_condT rfl ?_
  refine AW_skip ?_
  refine AW_seq ?_
  refine AW_block ?_
  refine AW_seq ?_
  refine AW_region ?_
  refine AL_p (x_move rfl rfl) ?_
  refine AL_p (x_assign rfl rfl) ?_
  refine AL_nil ?_
  refine AW_seq ?_
  refine AW_draw rfl ?_
  refine AL_p (x_move rfl rfl) ?_
  refine AL_p (x_move rfl rfl) ?_
  refine AL_p (x_index (E := 5) (n := 1) rfl rfl rfl (by kernel_rfl) rfl (k := k) (by omega) (by omega)) ?_
  refine AL_p (x_eload1 rfl rfl (by kernel_rfl) rfl) ?_
  refine AL_p (x_move rfl rfl) ?_
  refine AL_p (x_move rfl rfl) ?_
  refine AL_p (x_index (E := 5) (n := 1) rfl rfl rfl (by kernel_rfl) rfl (k := k) (by omega) (by omega)) ?_
  refine AL_p (x_eload1 rfl rfl (by kernel_rfl) rfl) ?_
  refine AL_b (x_neq rfl rfl rfl) (fun b24 h24 => ?_)
  refine AL_nild (by kernel_rfl) ?_
  cases b24
  rotate_left
  · try simp only [tdy] at h24
    have hne := h24
    refine AW_condT rfl ?_
    refine AW_seq ?_
    refine AW_region ?_
    refine AL_p (x_assign rfl rfl) ?_
    refine AL_nil ?_
    refine AW_ret (BQ_ret (BQ_ret ?_))
    exact ⟨rn [], ⟨⟨⟨_, rfl, vle_bool (by first | (symm; rw [decide_eq_false_iff_not]; intro e; subst e; first | omega | exact hne rfl) | (symm; rw [decide_eq_true_eq]; rw [← List.take_of_length_le (l := x) (i := k) (by omega), hs, List.take_of_length_le (by omega)]))⟩, trivial⟩, trivial, trivial, rfl⟩⟩
  try simp only [tdy] at h24
  have heq := h24
  refine AW_condF rfl ?_
  refine AW_skip ?_
  refine AW_region ?_
  refine AL_p (x_add rfl rfl rfl (IntWalk.i64_in _ (by omega))) ?_
  refine AL_p (x_move rfl rfl) ?_
  refine AL_nil ?_
  refine ⟨⟨k + 1, ⟨by omega, by rw [List.take_succ_eq_append_getElem (show k < x.length by omega), List.take_succ_eq_append_getElem (show k < y.length by omega), hs, heq]⟩⟩, rn [], ?_, by dsimp only; omega⟩
  exact ⟨by (repeat refine ⟨⟨_, rfl, by first | exact VLe.rf | exact vle_int (by dsimp only; omega)⟩, ?_⟩); exact trivial, by (repeat refine ⟨⟨_, rfl, by first | exact BLe.rf | exact BLe.box AllC.rf | exact BLe.arr (by exact rfl)⟩, ?_⟩); exact trivial, by repeat (first | exact trivial | refine ⟨⟨rfl, by first | (left; intro h; cases h) | (right; rfl), by first | exact (fun _ h => ⟨_, h⟩) | exact (fun _ _ => ⟨_, rfl⟩)⟩, ?_⟩), rfl⟩

end Go.Proofs.Ytfdpigafekohgaa

/- Messages read out of bytes (printed by walk.py) -/
namespace Go.Proofs.Ytfdpigafekohgaa
open Go.RowKit
set_option linter.unusedVariables false
set_option linter.unusedSimpArgs false
set_option maxRecDepth 100000

theorem slbox {r : Nat → Nat} {x y : List Int} (h : x = y) : BLe (.box [.sl (intE .u8) x]) (Blk.ren r (.box [.sl (intE .u8) y])) := by subst h; exact BLe.rf
theorem mrC_zero {r : List Int} : (takeI (mrA r).2 2).2 = (mrC r 0).2 := by simp only [mrC, iterG_zero, mrB]
theorem mrC_step {r : List Int} {k : Nat} : (takeI (takeI (mrC r k).2 6).2 6).2 = (mrC r (k + 1)).2 := by simp only [mrC, iterG, pairI]
theorem mrC_v {r : List Int} {k : Nat} : (mrC r k).1.map Prod.fst ++ [(takeI (mrC r k).2 6).1] = (mrC r (k + 1)).1.map Prod.fst := pairs_v
theorem mrC_m {r : List Int} {k : Nat} : (mrC r k).1.map Prod.snd ++ [(takeI (takeI (mrC r k).2 6).2 6).1] = (mrC r (k + 1)).1.map Prod.snd := pairs_m
theorem mrC_v0 {r : List Int} : [] = (mrC r 0).1.map Prod.fst := by simp only [mrC, iterG_zero, List.map_nil]
theorem mrC_m0 {r : List Int} : [] = (mrC r 0).1.map Prod.snd := by simp only [mrC, iterG_zero, List.map_nil]
theorem mrE_zero {r : List Int} : (takeI (mrC r 8).2 1).2 = (mrE r 0).2 := by simp only [mrE, iterG_zero, mrD]
theorem mrE_step {r : List Int} {j : Nat} : (takeI (takeI (takeI (mrE r j).2 1).2 1).2 6).2 = (mrE r (j + 1)).2 := by simp only [mrE, iterG, actI]
theorem mrE_more {r : List Int} {j : Nat} : (mrE r j).1 ++ [(actI (mrE r j).2).1] = (mrE r (j + 1)).1 := by simp only [mrE, iterG]
theorem mrE_0 {r : List Int} : [] = (mrE r 0).1 := by simp only [mrE, iterG_zero]
theorem mrH_zero {r : List Int} : (takeI r 1).2 = (mrH r 0).2 := by simp only [mrH, iterG_zero]
theorem mrH_step {r : List Int} {i : Nat} : (takeI (mrH r i).2 6).2 = (mrH r (i + 1)).2 := by simp only [mrH, iterG]
theorem mrH_more {r : List Int} {i : Nat} : (mrH r i).1 ++ [(takeI (mrH r i).2 6).1] = (mrH r (i + 1)).1 := by simp only [mrH, iterG]
theorem mrH_0 {r : List Int} : [] = (mrH r 0).1 := by simp only [mrH, iterG_zero]

theorem beq_dec {m n : Int} : (m == n) = decide (m = n) := by by_cases h : m = n <;> simp [h]

theorem getD_at {xs : List Int} {k : Nat} (h : k < xs.length) : xs.getD k 0 = xs[k] := by simp [List.getD, h]

set_option maxHeartbeats 4000000 in
theorem msgReadI_c (b : List Int) : AC Try.prog 31 [.one (.sl (intE .u8) b)] [] (.tup [.agg [.c (.int .i64 (msgRead b).1.kind), .c (.int .i64 (msgRead b).1.session), .c (.int .i64 (msgRead b).1.xid), .c (.int .i64 (msgRead b).1.epoch), .c (.int .i64 (msgRead b).1.prio), .own 0, .own 1, .own 2, .c (.bool (msgRead b).1.hand), .own 3], .one (.c (.int .i64 (msgRead b).2))]) [(0, some (.arr 3 (intE .i64) (msgRead b).1.mat.v true)), (1, some (.arr 3 (intE .i64) (msgRead b).1.mat.m true)), (2, some (.arr 114 actE (msgRead b).1.acts true)), (3, some (.arr 3 (intE .i64) (msgRead b).1.head.v true))] := by
  refine AC_bodyCT (n := 10) (k := 9) (T := [(2, .one (.ptr 9 0)), (3, .one (.c (.int .i64 (msgRead b).2)))]) (Lf := ((9, some (.box [.c (.int .i64 (msgRead b).1.kind), .c (.int .i64 (msgRead b).1.session), .c (.int .i64 (msgRead b).1.xid), .c (.int .i64 (msgRead b).1.epoch), .c (.int .i64 (msgRead b).1.prio), .own 0, .own 1, .own 2, .c (.bool (msgRead b).1.hand), .own 3])) :: [(0, some (.arr 3 (intE .i64) (msgRead b).1.mat.v true)), (1, some (.arr 3 (intE .i64) (msgRead b).1.mat.m true)), (2, some (.arr 114 actE (msgRead b).1.acts true)), (3, some (.arr 3 (intE .i64) (msgRead b).1.head.v true))])) Try.func31 rfl rfl Try.ntmps31 rfl Try.results31 rfl rfl rfl rfl (by kernel_rfl) rfl rfl ⟨trivial, (by repeat (first | exact trivial | refine ⟨⟨_, rfl, BLe.rf⟩, ?_⟩)), (by repeat (first | exact trivial | refine ⟨⟨rfl, by first | (left; intro h; cases h) | (right; rfl), by first | exact (fun _ h => ⟨_, h⟩) | exact (fun _ _ => ⟨_, rfl⟩)⟩, ?_⟩)), rfl⟩ ?_
  refine AW_slbyte 0 rfl (fun hy0 => ?_)
  refine AW_slmax 0 rfl (fun hm0 => ?_)
  refine AW_seq ?_
  refine AW_region ?_
  refine AL_p (x_alloc (z := .agg #[.int .i64 0, .int .i64 0, .int .i64 0, .int .i64 0, .int .i64 0, .slice none 0 0, .slice none 0 0, .slice none 0 0, .bool false, .slice none 0 0]) 100 rfl (by kernel_rfl) rfl rfl rfl rfl) ?_
  refine AL_p (x_assign rfl rfl) ?_
  refine AL_nil ?_
  refine AW_seq ?_
  refine AW_block ?_
  refine AW_seq ?_
  refine AW_region ?_
  refine AL_p (x_move rfl rfl) ?_
  refine AL_p (x_len (E := 5) (n := 1) rfl rfl (by kernel_rfl)) ?_
  refine AL_b (x_lss rfl rfl rfl) (fun b15 h15 => ?_)
  refine AL_p (x_move rfl rfl) ?_
  cases b15
  rotate_left
  · try simp only [tdy] at h15
    have hno := msgRead_1 (b := b) (.inl (by omega))
    refine AL_o rfl rfl rfl rfl ?_
    refine AL_o rfl rfl rfl rfl ?_
    refine AL_o rfl rfl rfl rfl ?_
    refine AL_p (x_pickT rfl rfl rfl) ?_
    refine AL_p (x_assign rfl rfl) ?_
    refine AL_nil ?_
    refine AW_condT rfl ?_
    refine AW_seq ?_
    refine AW_region ?_
    refine AL_p (x_build (zs := [.int .i64 0, .int .i64 0, .int .i64 0, .int .i64 0, .int .i64 0, .slice none 0 0, .slice none 0 0, .slice none 0 0, .bool false, .slice none 0 0]) (places := [(0, 1), (1, 1), (2, 1), (3, 1), (4, 1), (5, 2), (7, 1), (8, 1), (9, 1)]) rfl (by kernel_rfl) rfl rfl rfl rfl rfl) ?_
    refine AL_p (x_store (n := 10) rfl rfl rfl rfl (by kernel_rfl) rfl rfl rfl) ?_
    refine AL_p (x_assign rfl rfl) ?_
    refine AL_nil ?_
    refine AW_adopt (T := 3) (e := (intE .i64)) 101 100 5 rfl rfl rfl rfl rfl ?_
    refine AW_adopt (T := 3) (e := (intE .i64)) 102 100 6 rfl rfl rfl rfl rfl ?_
    refine AW_adopt (T := 114) (e := actE) 103 100 7 rfl rfl rfl rfl rfl ?_
    refine AW_adopt (T := 3) (e := (intE .i64)) 104 100 9 rfl rfl rfl rfl rfl ?_
    refine AW_ret (BQ_ret ?_)
    exact ⟨rn [(9, 100), (0, 101), (1, 102), (2, 103), (3, 104)], ⟨⟨⟨_, rfl, VLe.rf⟩, ⟨_, rfl, by first | (refine vle_int ?_; rw [hno]; done) | exact VLe.rf | (refine vle_int ?_; rw [hno]; apply Eq.symm; assumption) | exact vle_int (by rw [hno])⟩, trivial⟩, ⟨⟨_, rfl, by first | (refine ble_eq ?_; rw [hno]; done) | (refine ble_eq ?_; rw [hno]; rfl) | exact BLe.rf⟩, ⟨_, rfl, by first | (refine BLe.arr ?_; rw [hno]; done) | (refine BLe.arr ?_; rw [hno]; rfl) | exact BLe.rf⟩, ⟨_, rfl, by first | (refine BLe.arr ?_; rw [hno]; done) | (refine BLe.arr ?_; rw [hno]; rfl) | exact BLe.rf⟩, ⟨_, rfl, by first | (refine BLe.arr ?_; rw [hno]; done) | (refine BLe.arr ?_; rw [hno]; rfl) | exact BLe.rf⟩, ⟨_, rfl, by first | (refine BLe.arr ?_; rw [hno]; done) | (refine BLe.arr ?_; rw [hno]; rfl) | exact BLe.rf⟩, trivial⟩, trivial, rfl⟩⟩
  try simp only [tdy] at h15
  refine AL_g rfl rfl (x_move rfl rfl) ?_
  refine AL_g rfl rfl (x_len (E := 5) (n := 1) rfl rfl (by kernel_rfl)) ?_
  refine AL_gb rfl rfl (x_gtr rfl rfl rfl) (fun b19 h19 => ?_)
  refine AL_p (x_pickF rfl rfl rfl) ?_
  refine AL_p (x_assign rfl rfl) ?_
  refine AL_nil ?_
  cases b19
  rotate_left
  · try simp only [tdy] at h19
    have hno := msgRead_1 (b := b) (.inr (by omega))
    refine AW_condT rfl ?_
    refine AW_seq ?_
    refine AW_region ?_
    refine AL_p (x_build (zs := [.int .i64 0, .int .i64 0, .int .i64 0, .int .i64 0, .int .i64 0, .slice none 0 0, .slice none 0 0, .slice none 0 0, .bool false, .slice none 0 0]) (places := [(0, 1), (1, 1), (2, 1), (3, 1), (4, 1), (5, 2), (7, 1), (8, 1), (9, 1)]) rfl (by kernel_rfl) rfl rfl rfl rfl rfl) ?_
    refine AL_p (x_store (n := 10) rfl rfl rfl rfl (by kernel_rfl) rfl rfl rfl) ?_
    refine AL_p (x_assign rfl rfl) ?_
    refine AL_nil ?_
    refine AW_adopt (T := 3) (e := (intE .i64)) 101 100 5 rfl rfl rfl rfl rfl ?_
    refine AW_adopt (T := 3) (e := (intE .i64)) 102 100 6 rfl rfl rfl rfl rfl ?_
    refine AW_adopt (T := 114) (e := actE) 103 100 7 rfl rfl rfl rfl rfl ?_
    refine AW_adopt (T := 3) (e := (intE .i64)) 104 100 9 rfl rfl rfl rfl rfl ?_
    refine AW_ret (BQ_ret ?_)
    exact ⟨rn [(9, 100), (0, 101), (1, 102), (2, 103), (3, 104)], ⟨⟨⟨_, rfl, VLe.rf⟩, ⟨_, rfl, by first | (refine vle_int ?_; rw [hno]; done) | exact VLe.rf | (refine vle_int ?_; rw [hno]; apply Eq.symm; assumption) | exact vle_int (by rw [hno])⟩, trivial⟩, ⟨⟨_, rfl, by first | (refine ble_eq ?_; rw [hno]; done) | (refine ble_eq ?_; rw [hno]; rfl) | exact BLe.rf⟩, ⟨_, rfl, by first | (refine BLe.arr ?_; rw [hno]; done) | (refine BLe.arr ?_; rw [hno]; rfl) | exact BLe.rf⟩, ⟨_, rfl, by first | (refine BLe.arr ?_; rw [hno]; done) | (refine BLe.arr ?_; rw [hno]; rfl) | exact BLe.rf⟩, ⟨_, rfl, by first | (refine BLe.arr ?_; rw [hno]; done) | (refine BLe.arr ?_; rw [hno]; rfl) | exact BLe.rf⟩, ⟨_, rfl, by first | (refine BLe.arr ?_; rw [hno]; done) | (refine BLe.arr ?_; rw [hno]; rfl) | exact BLe.rf⟩, trivial⟩, trivial, rfl⟩⟩
  try simp only [tdy] at h19
  have p1 : ¬ (b.length < 12 ∨ 300 < b.length) := by omega
  have k0 : b.getD 0 0 = b[0]'(by omega) := getD_at (by omega)
  have k1 : kindOf b = b[1]'(by omega) := getD_at (by omega)
  have y1 := hy0 _ (List.getElem_mem (l := b) (n := 1) (by omega))
  refine AW_condF rfl ?_
  refine AW_seq ?_
  refine AW_region ?_
  refine AL_p (x_move rfl rfl) ?_
  refine AL_p (x_index (E := 5) (n := 1) rfl rfl rfl (by kernel_rfl) rfl (k := 0) (by omega) (by omega)) ?_
  refine AL_p (x_eload1 rfl rfl (by kernel_rfl) rfl) ?_
  refine AL_b (x_neq rfl rfl rfl) (fun b26 h26 => ?_)
  refine AL_p (x_assign rfl rfl) ?_
  refine AL_nil ?_
  cases b26
  rotate_left
  · try simp only [tdy] at h26
    have hno := msgRead_2 p1 (by rw [k0]; exact h26)
    refine AW_condT rfl ?_
    refine AW_seq ?_
    refine AW_region ?_
    refine AL_p (x_build (zs := [.int .i64 0, .int .i64 0, .int .i64 0, .int .i64 0, .int .i64 0, .slice none 0 0, .slice none 0 0, .slice none 0 0, .bool false, .slice none 0 0]) (places := [(0, 1), (1, 1), (2, 1), (3, 1), (4, 1), (5, 2), (7, 1), (8, 1), (9, 1)]) rfl (by kernel_rfl) rfl rfl rfl rfl rfl) ?_
    refine AL_p (x_store (n := 10) rfl rfl rfl rfl (by kernel_rfl) rfl rfl rfl) ?_
    refine AL_p (x_assign rfl rfl) ?_
    refine AL_nil ?_
    refine AW_adopt (T := 3) (e := (intE .i64)) 101 100 5 rfl rfl rfl rfl rfl ?_
    refine AW_adopt (T := 3) (e := (intE .i64)) 102 100 6 rfl rfl rfl rfl rfl ?_
    refine AW_adopt (T := 114) (e := actE) 103 100 7 rfl rfl rfl rfl rfl ?_
    refine AW_adopt (T := 3) (e := (intE .i64)) 104 100 9 rfl rfl rfl rfl rfl ?_
    refine AW_ret (BQ_ret ?_)
    exact ⟨rn [(9, 100), (0, 101), (1, 102), (2, 103), (3, 104)], ⟨⟨⟨_, rfl, VLe.rf⟩, ⟨_, rfl, by first | (refine vle_int ?_; rw [hno]; done) | exact VLe.rf | (refine vle_int ?_; rw [hno]; apply Eq.symm; assumption) | exact vle_int (by rw [hno])⟩, trivial⟩, ⟨⟨_, rfl, by first | (refine ble_eq ?_; rw [hno]; done) | (refine ble_eq ?_; rw [hno]; rfl) | exact BLe.rf⟩, ⟨_, rfl, by first | (refine BLe.arr ?_; rw [hno]; done) | (refine BLe.arr ?_; rw [hno]; rfl) | exact BLe.rf⟩, ⟨_, rfl, by first | (refine BLe.arr ?_; rw [hno]; done) | (refine BLe.arr ?_; rw [hno]; rfl) | exact BLe.rf⟩, ⟨_, rfl, by first | (refine BLe.arr ?_; rw [hno]; done) | (refine BLe.arr ?_; rw [hno]; rfl) | exact BLe.rf⟩, ⟨_, rfl, by first | (refine BLe.arr ?_; rw [hno]; done) | (refine BLe.arr ?_; rw [hno]; rfl) | exact BLe.rf⟩, trivial⟩, trivial, rfl⟩⟩
  try simp only [tdy] at h26
  have p2 : b.getD 0 0 = 1 := by rw [k0]; exact h26
  refine AW_condF rfl ?_
  refine AW_seq ?_
  refine AW_region ?_
  refine AL_p (x_move rfl rfl) ?_
  refine AL_p (x_slice (E := 5) (n := 1) rfl rfl (by kernel_rfl) rfl (.yes (l := 2) rfl (by omega)) (.yes (l := 4) rfl (by omega)) (by omega) (by first | exact Nat.le_refl _ | omega) rfl) ?_
  refine AL_p (x_call0 rfl rfl rfl (getI_c ((b.drop 2).take 2) (by simp; omega)) rfl rfl) ?_
  refine AL_p (x_move rfl rfl) ?_
  refine AL_p (x_len (E := 5) (n := 1) rfl rfl (by kernel_rfl)) ?_
  refine AL_b (x_neq rfl rfl rfl) (fun b34 h34 => ?_)
  refine AL_p (x_assign rfl rfl) ?_
  refine AL_nil ?_
  cases b34
  rotate_left
  · try simp only [tdy] at h34
    have hno := msgRead_3 p1 p2 (show ¬ lenOf b = (b.length : Int) from h34)
    refine AW_condT rfl ?_
    refine AW_seq ?_
    refine AW_region ?_
    refine AL_p (x_build (zs := [.int .i64 0, .int .i64 0, .int .i64 0, .int .i64 0, .int .i64 0, .slice none 0 0, .slice none 0 0, .slice none 0 0, .bool false, .slice none 0 0]) (places := [(0, 1), (1, 1), (2, 1), (3, 1), (4, 1), (5, 2), (7, 1), (8, 1), (9, 1)]) rfl (by kernel_rfl) rfl rfl rfl rfl rfl) ?_
    refine AL_p (x_store (n := 10) rfl rfl rfl rfl (by kernel_rfl) rfl rfl rfl) ?_
    refine AL_p (x_assign rfl rfl) ?_
    refine AL_nil ?_
    refine AW_adopt (T := 3) (e := (intE .i64)) 101 100 5 rfl rfl rfl rfl rfl ?_
    refine AW_adopt (T := 3) (e := (intE .i64)) 102 100 6 rfl rfl rfl rfl rfl ?_
    refine AW_adopt (T := 114) (e := actE) 103 100 7 rfl rfl rfl rfl rfl ?_
    refine AW_adopt (T := 3) (e := (intE .i64)) 104 100 9 rfl rfl rfl rfl rfl ?_
    refine AW_ret (BQ_ret ?_)
    exact ⟨rn [(9, 100), (0, 101), (1, 102), (2, 103), (3, 104)], ⟨⟨⟨_, rfl, VLe.rf⟩, ⟨_, rfl, by first | (refine vle_int ?_; rw [hno]; done) | exact VLe.rf | (refine vle_int ?_; rw [hno]; apply Eq.symm; assumption) | exact vle_int (by rw [hno])⟩, trivial⟩, ⟨⟨_, rfl, by first | (refine ble_eq ?_; rw [hno]; done) | (refine ble_eq ?_; rw [hno]; rfl) | exact BLe.rf⟩, ⟨_, rfl, by first | (refine BLe.arr ?_; rw [hno]; done) | (refine BLe.arr ?_; rw [hno]; rfl) | exact BLe.rf⟩, ⟨_, rfl, by first | (refine BLe.arr ?_; rw [hno]; done) | (refine BLe.arr ?_; rw [hno]; rfl) | exact BLe.rf⟩, ⟨_, rfl, by first | (refine BLe.arr ?_; rw [hno]; done) | (refine BLe.arr ?_; rw [hno]; rfl) | exact BLe.rf⟩, ⟨_, rfl, by first | (refine BLe.arr ?_; rw [hno]; done) | (refine BLe.arr ?_; rw [hno]; rfl) | exact BLe.rf⟩, trivial⟩, trivial, rfl⟩⟩
  try simp only [tdy] at h34
  have p3 : lenOf b = (b.length : Int) := h34
  refine AW_condF rfl ?_
  refine AW_seq ?_
  refine AW_region ?_
  refine AL_p (x_move rfl rfl) ?_
  refine AL_p (x_index (E := 5) (n := 1) rfl rfl rfl (by kernel_rfl) rfl (k := 1) (by omega) (by omega)) ?_
  refine AL_p (x_eload1 rfl rfl (by kernel_rfl) rfl) ?_
  refine AL_b (x_lss rfl rfl rfl) (fun b40 h40 => ?_)
  refine AL_p (x_move rfl rfl) ?_
  cases b40
  rotate_left
  · try simp only [tdy] at h40
    have hno := msgRead_4 p1 p2 p3 (.inl (by omega))
    refine AL_o rfl rfl rfl rfl ?_
    refine AL_o rfl rfl rfl rfl ?_
    refine AL_o rfl rfl rfl rfl ?_
    refine AL_o rfl rfl rfl rfl ?_
    refine AL_p (x_pickT rfl rfl rfl) ?_
    refine AL_p (x_assign rfl rfl) ?_
    refine AL_nil ?_
    refine AW_condT rfl ?_
    refine AW_seq ?_
    refine AW_region ?_
    refine AL_p (x_build (zs := [.int .i64 0, .int .i64 0, .int .i64 0, .int .i64 0, .int .i64 0, .slice none 0 0, .slice none 0 0, .slice none 0 0, .bool false, .slice none 0 0]) (places := [(0, 1), (1, 1), (2, 1), (3, 1), (4, 1), (5, 2), (7, 1), (8, 1), (9, 1)]) rfl (by kernel_rfl) rfl rfl rfl rfl rfl) ?_
    refine AL_p (x_store (n := 10) rfl rfl rfl rfl (by kernel_rfl) rfl rfl rfl) ?_
    refine AL_p (x_assign rfl rfl) ?_
    refine AL_nil ?_
    refine AW_adopt (T := 3) (e := (intE .i64)) 101 100 5 rfl rfl rfl rfl rfl ?_
    refine AW_adopt (T := 3) (e := (intE .i64)) 102 100 6 rfl rfl rfl rfl rfl ?_
    refine AW_adopt (T := 114) (e := actE) 103 100 7 rfl rfl rfl rfl rfl ?_
    refine AW_adopt (T := 3) (e := (intE .i64)) 104 100 9 rfl rfl rfl rfl rfl ?_
    refine AW_ret (BQ_ret ?_)
    exact ⟨rn [(9, 100), (0, 101), (1, 102), (2, 103), (3, 104)], ⟨⟨⟨_, rfl, VLe.rf⟩, ⟨_, rfl, by first | (refine vle_int ?_; rw [hno]; done) | exact VLe.rf | (refine vle_int ?_; rw [hno]; apply Eq.symm; assumption) | exact vle_int (by rw [hno])⟩, trivial⟩, ⟨⟨_, rfl, by first | (refine ble_eq ?_; rw [hno]; done) | (refine ble_eq ?_; rw [hno]; rfl) | exact BLe.rf⟩, ⟨_, rfl, by first | (refine BLe.arr ?_; rw [hno]; done) | (refine BLe.arr ?_; rw [hno]; rfl) | exact BLe.rf⟩, ⟨_, rfl, by first | (refine BLe.arr ?_; rw [hno]; done) | (refine BLe.arr ?_; rw [hno]; rfl) | exact BLe.rf⟩, ⟨_, rfl, by first | (refine BLe.arr ?_; rw [hno]; done) | (refine BLe.arr ?_; rw [hno]; rfl) | exact BLe.rf⟩, ⟨_, rfl, by first | (refine BLe.arr ?_; rw [hno]; done) | (refine BLe.arr ?_; rw [hno]; rfl) | exact BLe.rf⟩, trivial⟩, trivial, rfl⟩⟩
  try simp only [tdy] at h40
  refine AL_g rfl rfl (x_move rfl rfl) ?_
  refine AL_g rfl rfl (x_index (E := 5) (n := 1) rfl rfl rfl (by kernel_rfl) rfl (k := 1) (by omega) (by omega)) ?_
  refine AL_g rfl rfl (x_eload1 rfl rfl (by kernel_rfl) rfl) ?_
  refine AL_gb rfl rfl (x_gtr rfl rfl rfl) (fun b45 h45 => ?_)
  refine AL_p (x_pickF rfl rfl rfl) ?_
  refine AL_p (x_assign rfl rfl) ?_
  refine AL_nil ?_
  cases b45
  rotate_left
  · try simp only [tdy] at h45
    have hno := msgRead_4 p1 p2 p3 (.inr (by omega))
    refine AW_condT rfl ?_
    refine AW_seq ?_
    refine AW_region ?_
    refine AL_p (x_build (zs := [.int .i64 0, .int .i64 0, .int .i64 0, .int .i64 0, .int .i64 0, .slice none 0 0, .slice none 0 0, .slice none 0 0, .bool false, .slice none 0 0]) (places := [(0, 1), (1, 1), (2, 1), (3, 1), (4, 1), (5, 2), (7, 1), (8, 1), (9, 1)]) rfl (by kernel_rfl) rfl rfl rfl rfl rfl) ?_
    refine AL_p (x_store (n := 10) rfl rfl rfl rfl (by kernel_rfl) rfl rfl rfl) ?_
    refine AL_p (x_assign rfl rfl) ?_
    refine AL_nil ?_
    refine AW_adopt (T := 3) (e := (intE .i64)) 101 100 5 rfl rfl rfl rfl rfl ?_
    refine AW_adopt (T := 3) (e := (intE .i64)) 102 100 6 rfl rfl rfl rfl rfl ?_
    refine AW_adopt (T := 114) (e := actE) 103 100 7 rfl rfl rfl rfl rfl ?_
    refine AW_adopt (T := 3) (e := (intE .i64)) 104 100 9 rfl rfl rfl rfl rfl ?_
    refine AW_ret (BQ_ret ?_)
    exact ⟨rn [(9, 100), (0, 101), (1, 102), (2, 103), (3, 104)], ⟨⟨⟨_, rfl, VLe.rf⟩, ⟨_, rfl, by first | (refine vle_int ?_; rw [hno]; done) | exact VLe.rf | (refine vle_int ?_; rw [hno]; apply Eq.symm; assumption) | exact vle_int (by rw [hno])⟩, trivial⟩, ⟨⟨_, rfl, by first | (refine ble_eq ?_; rw [hno]; done) | (refine ble_eq ?_; rw [hno]; rfl) | exact BLe.rf⟩, ⟨_, rfl, by first | (refine BLe.arr ?_; rw [hno]; done) | (refine BLe.arr ?_; rw [hno]; rfl) | exact BLe.rf⟩, ⟨_, rfl, by first | (refine BLe.arr ?_; rw [hno]; done) | (refine BLe.arr ?_; rw [hno]; rfl) | exact BLe.rf⟩, ⟨_, rfl, by first | (refine BLe.arr ?_; rw [hno]; done) | (refine BLe.arr ?_; rw [hno]; rfl) | exact BLe.rf⟩, ⟨_, rfl, by first | (refine BLe.arr ?_; rw [hno]; done) | (refine BLe.arr ?_; rw [hno]; rfl) | exact BLe.rf⟩, trivial⟩, trivial, rfl⟩⟩
  try simp only [tdy] at h45
  have p4 : ¬ (kindOf b < 1 ∨ 6 < kindOf b) := by omega
  refine AW_condF rfl ?_
  refine AW_skip ?_
  refine AW_seq ?_
  refine AW_draw rfl ?_
  refine AL_p (x_move rfl rfl) ?_
  refine AL_p (x_index (E := 5) (n := 1) rfl rfl rfl (by kernel_rfl) rfl (k := 1) (by omega) (by omega)) ?_
  refine AL_p (x_eload1 rfl rfl (by kernel_rfl) rfl) ?_
  refine AL_p (x_conv (k' := .i64) rfl rfl (by kernel_rfl) (r := kindOf b) (by rw [k1]; exact IntWalk.i64_in _ (by omega))) ?_
  refine AL_p (x_move rfl rfl) ?_
  refine AL_p (x_slice (E := 5) (n := 1) rfl rfl (by kernel_rfl) rfl (.yes (l := 4) rfl (by omega)) (.yes (l := 8) rfl (by omega)) (by omega) (by first | exact Nat.le_refl _ | omega) rfl) ?_
  refine AL_p (x_call0 rfl rfl rfl (getI_c ((b.drop 4).take 4) (by simp; omega)) rfl rfl) ?_
  refine AL_p (x_move rfl rfl) ?_
  refine AL_p (x_slice (E := 5) (n := 1) rfl rfl (by kernel_rfl) rfl (.yes (l := 8) rfl (by omega)) (.yes (l := 12) rfl (by omega)) (by omega) (by first | exact Nat.le_refl _ | omega) rfl) ?_
  refine AL_p (x_call0 rfl rfl rfl (getI_c ((b.drop 8).take 4) (by simp; omega)) rfl rfl) ?_
  refine AL_p (x_build (zs := [.int .i64 0, .int .i64 0, .int .i64 0, .int .i64 0, .int .i64 0, .slice none 0 0, .slice none 0 0, .slice none 0 0, .bool false, .slice none 0 0]) (places := [(0, 1), (1, 1), (2, 1), (3, 1), (4, 1), (5, 2), (7, 1), (8, 1), (9, 1)]) rfl (by kernel_rfl) rfl rfl rfl rfl rfl) ?_
  refine AL_p (x_alloc (z := .agg #[.int .i64 0, .int .i64 0, .int .i64 0, .int .i64 0, .int .i64 0, .slice none 0 0, .slice none 0 0, .slice none 0 0, .bool false, .slice none 0 0]) 105 rfl (by kernel_rfl) rfl rfl rfl rfl) ?_
  refine AL_p (x_store (n := 10) rfl rfl rfl rfl (by kernel_rfl) rfl rfl rfl) ?_
  refine AL_nild (by kernel_rfl) ?_
  refine AW_seq ?_
  refine AW_region ?_
  refine AL_p (x_move rfl rfl) ?_
  refine AL_p (x_slice (E := 5) (n := 1) rfl rfl (by kernel_rfl) rfl (.yes (l := 12) rfl (by omega)) .no (by omega) (by first | exact Nat.le_refl _ | omega) part_drop) ?_
  refine AL_p (x_alloc (z := .slice none 0 0) 200 rfl (by kernel_rfl) rfl rfl rfl rfl) ?_
  refine AL_p (x_store (n := 1) rfl rfl rfl rfl (by kernel_rfl) rfl rfl rfl) ?_
  refine AL_nil ?_
  refine AW_seq ?_
  refine AW_seq ?_
  refine AW_region ?_
  refine AL_p (x_field (off := 0) (o' := 0) rfl rfl rfl (by kernel_rfl) rfl) ?_
  refine AL_p (x_load1 rfl rfl rfl (by kernel_rfl) rfl) ?_
  refine AL_nil ?_
  refine AW_block ?_
  refine AW_seq ?_
  refine AW_region ?_
  refine AL_b (x_eql rfl rfl rfl) (fun b64 h64 => ?_)
  refine AL_p (x_assign rfl rfl) ?_
  refine AL_nil ?_
  cases b64
  rotate_left
  · try simp only [tdy] at h64
    have hm2 : True := trivial
    refine AW_condT rfl ?_
    refine AW_seq ?_
    refine AW_region ?_
    refine AL_p (x_call (ks := []) (L := [(200, some _)]) (L' := [(200, some _)]) rfl rfl rfl (takeI_c (b.drop 12) 4 (by omega) (by omega)) rfl AllV.rf (caught_of rfl) rfl rfl rfl ⟨rfl, trivial⟩ rfl) ?_
    refine AL_p (x_field (off := 3) (o' := 3) rfl rfl rfl (by kernel_rfl) rfl) ?_
    refine AL_p (x_store (n := 1) rfl rfl rfl rfl (by kernel_rfl) rfl rfl rfl) ?_
    refine AL_nil ?_
    refine AW_seq ?_
    refine AW_region ?_
    refine AL_p (x_call (ks := []) (L := [(200, some _)]) (L' := [(200, some _)]) rfl rfl rfl (takeI_c (mrA (b.drop 12)).2 2 (by omega) (by omega)) rfl AllV.rf (caught_of rfl) rfl rfl rfl ⟨rfl, trivial⟩ rfl) ?_
    refine AL_p (x_field (off := 4) (o' := 4) rfl rfl rfl (by kernel_rfl) rfl) ?_
    refine AL_p (x_store (n := 1) rfl rfl rfl rfl (by kernel_rfl) rfl rfl rfl) ?_
    refine AL_nil ?_
    refine AW_seq ?_
    refine AW_seq ?_
    refine AW_region ?_
    refine AL_p (x_move rfl rfl) ?_
    refine AL_nil ?_
    refine AW_block ?_
    refine AW_adopt (T := 3) (e := (intE .i64)) 106 105 5 rfl rfl rfl rfl rfl ?_
    refine AW_adopt (T := 3) (e := (intE .i64)) 107 105 6 rfl rfl rfl rfl rfl ?_
    refine AW_loop2 (ι := {q : Nat // q ≤ 8}) (fun p => [(69, .one (.c (.int .i64 ((p.1) : Int))))]) (fun p => [(106, some (.arr 3 (intE .i64) ((mrC (b.drop 12) (p.1)).1.map Prod.fst) true)), (107, some (.arr 3 (intE .i64) ((mrC (b.drop 12) (p.1)).1.map Prod.snd) true)), (200, some (.box [.sl (intE .u8) (mrC (b.drop 12) (p.1)).2]))]) [0, 2, 4, 5] [100, 105] (fun p => 8 - (p.1)) ⟨0, by omega⟩ (rn []) ?_ ?_
    exact ⟨by (repeat refine ⟨⟨_, rfl, by first | with_reducible exact VLe.rf | exact VLe.rf | exact vle_int (by dsimp only; omega)⟩, ?_⟩); exact trivial, by (repeat refine ⟨⟨_, rfl, by first | with_reducible exact BLe.rf | with_reducible exact slbox mrC_zero | with_reducible exact slbox mrC_step | (refine BLe.arr ?_; first | with_reducible exact mrC_v | with_reducible exact mrC_m | with_reducible exact mrC_v0 | with_reducible exact mrC_m0) | exact BLe.rf | exact BLe.box AllC.rf⟩, ?_⟩); exact trivial, by repeat (first | exact trivial | refine ⟨⟨rfl, by first | (left; intro h; cases h) | (right; rfl), by first | exact (fun _ h => ⟨_, h⟩) | exact (fun _ _ => ⟨_, rfl⟩)⟩, ?_⟩), rfl⟩
    rintro ⟨k, hinv⟩
    dsimp only
    have hk := hinv
    refine AW_seq ?_
    refine AW_region ?_
    refine AL_b (x_lss rfl rfl rfl) (fun b70 h70 => ?_)
    refine AL_nil ?_
    refine AW_seq ?_
    cases b70
    rotate_left
    · try simp only [tdy] at h70
      refine AW_condT rfl ?_
      refine AW_skip ?_
      refine AW_seq ?_
      refine AW_block ?_
      refine AW_seq ?_
      refine AW_region ?_
      refine AL_p (x_call (ks := []) (L := [(200, some _)]) (L' := [(200, some _)]) rfl rfl rfl (takeI_c (mrC (b.drop 12) k).2 6 (by omega) (by omega)) rfl AllV.rf (caught_of rfl) rfl rfl rfl ⟨rfl, trivial⟩ rfl) ?_
      refine AL_p (x_assign rfl rfl) ?_
      refine AL_nil ?_
      refine AW_seq ?_
      refine AW_region ?_
      refine AL_p (x_call (ks := []) (L := [(200, some _)]) (L' := [(200, some _)]) rfl rfl rfl (takeI_c (takeI (mrC (b.drop 12) k).2 6).2 6 (by omega) (by omega)) rfl AllV.rf (caught_of rfl) rfl rfl rfl ⟨rfl, trivial⟩ rfl) ?_
      refine AL_p (x_assign rfl rfl) ?_
      refine AL_nil ?_
      refine AW_seq ?_
      refine AW_region ?_
      refine AL_p (x_field (off := 5) (o' := 5) rfl rfl rfl (by kernel_rfl) rfl) ?_
      refine AL_p (x_field (off := 0) (o' := 5) rfl rfl rfl (by kernel_rfl) rfl) ?_
      refine AL_p (x_load1 rfl rfl rfl (by kernel_rfl) rfl) ?_
      refine AL_p (x_move rfl rfl) ?_
      refine AL_p (y_bslice (E := 3) (e := (intE .i64)) [.tmp 76] ([(takeI (mrC (b.drop 12) k).2 6).1]) 108 rfl rfl rfl rfl rfl rfl rfl rfl FitL.rf rfl rfl rfl rfl rfl rfl (by kernel_rfl)) ?_
      refine AL_p (y_append 109 rfl rfl rfl rfl rfl rfl rfl rfl (by kernel_rfl) (by simp only [List.length_map, mrC, mrE, mrH, iterG_len, sActs_len, sH_len, List.length_cons, List.length_nil]; omega)) ?_
      refine AL_p (x_field (off := 5) (o' := 5) rfl rfl rfl (by kernel_rfl) rfl) ?_
      refine AL_p (x_field (off := 0) (o' := 5) rfl rfl rfl (by kernel_rfl) rfl) ?_
      refine AL_p (x_store (n := 1) rfl rfl rfl rfl (by kernel_rfl) rfl rfl rfl) ?_
      refine AL_nil ?_
      refine AW_region ?_
      refine AL_p (x_field (off := 5) (o' := 5) rfl rfl rfl (by kernel_rfl) rfl) ?_
      refine AL_p (x_field (off := 1) (o' := 6) rfl rfl rfl (by kernel_rfl) rfl) ?_
      refine AL_p (x_load1 rfl rfl rfl (by kernel_rfl) rfl) ?_
      refine AL_p (x_move rfl rfl) ?_
      refine AL_p (y_bslice (E := 3) (e := (intE .i64)) [.tmp 84] ([(takeI (takeI (mrC (b.drop 12) k).2 6).2 6).1]) 110 rfl rfl rfl rfl rfl rfl rfl rfl FitL.rf rfl rfl rfl rfl rfl rfl (by kernel_rfl)) ?_
      refine AL_p (y_append 111 rfl rfl rfl rfl rfl rfl rfl rfl (by kernel_rfl) (by simp only [List.length_map, mrC, mrE, mrH, iterG_len, sActs_len, sH_len, List.length_cons, List.length_nil]; omega)) ?_
      refine AL_p (x_field (off := 5) (o' := 5) rfl rfl rfl (by kernel_rfl) rfl) ?_
      refine AL_p (x_field (off := 1) (o' := 6) rfl rfl rfl (by kernel_rfl) rfl) ?_
      refine AL_p (x_store (n := 1) rfl rfl rfl rfl (by kernel_rfl) rfl rfl rfl) ?_
      refine AL_nil ?_
      refine AW_region ?_
      refine AL_p (x_add rfl rfl rfl (IntWalk.i64_in _ (by omega))) ?_
      refine AL_p (x_move rfl rfl) ?_
      refine AL_nil ?_
      refine ⟨⟨k + 1, by omega⟩, rn [(106, 109), (107, 111)], ?_, by dsimp only; omega⟩
      exact ⟨by (repeat refine ⟨⟨_, rfl, by first | with_reducible exact VLe.rf | exact VLe.rf | exact vle_int (by dsimp only; omega)⟩, ?_⟩); exact trivial, by (repeat refine ⟨⟨_, rfl, by first | with_reducible exact BLe.rf | with_reducible exact slbox mrC_zero | with_reducible exact slbox mrC_step | (refine BLe.arr ?_; first | with_reducible exact mrC_v | with_reducible exact mrC_m | with_reducible exact mrC_v0 | with_reducible exact mrC_m0) | exact BLe.rf | exact BLe.box AllC.rf⟩, ?_⟩); exact trivial, by repeat (first | exact trivial | refine ⟨⟨rfl, by first | (left; intro h; cases h) | (right; rfl), by first | exact (fun _ h => ⟨_, h⟩) | exact (fun _ _ => ⟨_, rfl⟩)⟩, ?_⟩), rfl⟩
    try simp only [tdy] at h70
    obtain rfl : k = 8 := by omega
    refine AW_condF rfl ?_
    refine AW_exit (BQ_hit ?_)
    refine AW_seq ?_
    refine AW_region ?_
    refine AL_p (x_call (ks := []) (L := [(200, some _)]) (L' := [(200, some _)]) rfl rfl rfl (takeI_c (mrC (b.drop 12) 8).2 1 (by omega) (by omega)) rfl AllV.rf (caught_of rfl) rfl rfl rfl ⟨rfl, trivial⟩ rfl) ?_
    refine AL_p (x_assign rfl rfl) ?_
    refine AL_nil ?_
    refine AW_seq ?_
    refine AW_region ?_
    refine AL_p (x_move rfl rfl) ?_
    refine AL_p (x_move rfl rfl) ?_
    refine AL_nil ?_
    refine AW_block ?_
    refine AW_adopt (T := 114) (e := actE) 112 105 7 rfl rfl rfl rfl rfl ?_
    refine AW_loop2 (ι := {q : Nat // q ≤ (mrD (b.drop 12)).1.toNat}) (fun p => [(92, .one (.c (.int .i64 ((p.1) : Int))))]) (fun p => [(112, some (.arr 114 actE (mrE (b.drop 12) (p.1)).1 true)), (200, some (.box [.sl (intE .u8) (mrE (b.drop 12) (p.1)).2]))]) [0, 2, 4, 5, 91] [100, 105, 106, 107] (fun p => (mrD (b.drop 12)).1.toNat - (p.1)) ⟨0, by omega⟩ (rn []) ?_ ?_
    exact ⟨by (repeat refine ⟨⟨_, rfl, by first | with_reducible exact VLe.rf | exact VLe.rf | exact vle_int (by dsimp only; omega)⟩, ?_⟩); exact trivial, by (repeat refine ⟨⟨_, rfl, by first | with_reducible exact BLe.rf | with_reducible exact slbox mrE_zero | with_reducible exact slbox mrE_step | (refine BLe.arr ?_; first | with_reducible exact mrE_more | with_reducible exact mrE_0) | exact BLe.rf | exact BLe.box AllC.rf⟩, ?_⟩); exact trivial, by repeat (first | exact trivial | refine ⟨⟨rfl, by first | (left; intro h; cases h) | (right; rfl), by first | exact (fun _ h => ⟨_, h⟩) | exact (fun _ _ => ⟨_, rfl⟩)⟩, ?_⟩), rfl⟩
    rintro ⟨j, hinv⟩
    dsimp only
    have hj := hinv
    have hd1 : (mrD (b.drop 12)).1 ≤ 255 := takeI_one
    have hd0 : 0 ≤ (mrD (b.drop 12)).1 := (takeI_in (by omega)).1
    have hde : (mrD (b.drop 12)).1 = (takeI (mrC (b.drop 12) 8).2 1).1 := rfl
    refine AW_seq ?_
    refine AW_region ?_
    refine AL_b (x_lss rfl rfl rfl) (fun b93 h93 => ?_)
    refine AL_nil ?_
    refine AW_seq ?_
    cases b93
    rotate_left
    · try simp only [tdy] at h93
      refine AW_condT rfl ?_
      refine AW_skip ?_
      refine AW_seq ?_
      refine AW_block ?_
      refine AW_seq ?_
      refine AW_region ?_
      refine AL_p (x_build (zs := [.int .i64 0, .int .i64 0, .int .i64 0]) (places := [(0, 1), (1, 1), (2, 1)]) rfl (by kernel_rfl) rfl rfl rfl rfl rfl) ?_
      refine AL_p (x_alloc (z := .agg #[.int .i64 0, .int .i64 0, .int .i64 0]) 113 rfl (by kernel_rfl) rfl rfl rfl rfl) ?_
      refine AL_p (x_store (n := 3) rfl rfl rfl rfl (by kernel_rfl) rfl rfl rfl) ?_
      refine AL_nil ?_
      refine AW_seq ?_
      refine AW_region ?_
      refine AL_p (x_call (ks := []) (L := [(200, some _)]) (L' := [(200, some _)]) rfl rfl rfl (takeI_c (mrE (b.drop 12) j).2 1 (by omega) (by omega)) rfl AllV.rf (caught_of rfl) rfl rfl rfl ⟨rfl, trivial⟩ rfl) ?_
      refine AL_p (x_field (off := 0) (o' := 0) rfl rfl rfl (by kernel_rfl) rfl) ?_
      refine AL_p (x_store (n := 1) rfl rfl rfl rfl (by kernel_rfl) rfl rfl rfl) ?_
      refine AL_nil ?_
      refine AW_seq ?_
      refine AW_region ?_
      refine AL_p (x_call (ks := []) (L := [(200, some _)]) (L' := [(200, some _)]) rfl rfl rfl (takeI_c (takeI (mrE (b.drop 12) j).2 1).2 1 (by omega) (by omega)) rfl AllV.rf (caught_of rfl) rfl rfl rfl ⟨rfl, trivial⟩ rfl) ?_
      refine AL_p (x_field (off := 1) (o' := 1) rfl rfl rfl (by kernel_rfl) rfl) ?_
      refine AL_p (x_store (n := 1) rfl rfl rfl rfl (by kernel_rfl) rfl rfl rfl) ?_
      refine AL_nil ?_
      refine AW_seq ?_
      refine AW_region ?_
      refine AL_p (x_call (ks := []) (L := [(200, some _)]) (L' := [(200, some _)]) rfl rfl rfl (takeI_c (takeI (takeI (mrE (b.drop 12) j).2 1).2 1).2 6 (by omega) (by omega)) rfl AllV.rf (caught_of rfl) rfl rfl rfl ⟨rfl, trivial⟩ rfl) ?_
      refine AL_p (x_field (off := 2) (o' := 2) rfl rfl rfl (by kernel_rfl) rfl) ?_
      refine AL_p (x_store (n := 1) rfl rfl rfl rfl (by kernel_rfl) rfl rfl rfl) ?_
      refine AL_nil ?_
      refine AW_region ?_
      refine AL_p (x_field (off := 7) (o' := 7) rfl rfl rfl (by kernel_rfl) rfl) ?_
      refine AL_p (x_load1 rfl rfl rfl (by kernel_rfl) rfl) ?_
      refine AL_p (x_loadN (n := 3) rfl rfl rfl (by kernel_rfl) rfl rfl) ?_
      refine AL_p (y_bslice (E := 114) (e := actE) [.tmp 103] ([(actI (mrE (b.drop 12) j).2).1]) 114 rfl rfl rfl rfl rfl rfl rfl rfl FitL.rf rfl rfl rfl rfl rfl rfl (by kernel_rfl)) ?_
      refine AL_p (y_append 115 rfl rfl rfl rfl rfl rfl rfl rfl (by kernel_rfl) (by simp only [List.length_map, mrC, mrE, mrH, iterG_len, sActs_len, sH_len, List.length_cons, List.length_nil]; omega)) ?_
      refine AL_p (x_field (off := 7) (o' := 7) rfl rfl rfl (by kernel_rfl) rfl) ?_
      refine AL_p (x_store (n := 1) rfl rfl rfl rfl (by kernel_rfl) rfl rfl rfl) ?_
      refine AL_nil ?_
      refine AW_region ?_
      refine AL_p (x_add rfl rfl rfl (IntWalk.i64_in _ (by omega))) ?_
      refine AL_p (x_move rfl rfl) ?_
      refine AL_nil ?_
      refine ⟨⟨j + 1, by omega⟩, rn [(112, 115)], ?_, by dsimp only; omega⟩
      exact ⟨by (repeat refine ⟨⟨_, rfl, by first | with_reducible exact VLe.rf | exact VLe.rf | exact vle_int (by dsimp only; omega)⟩, ?_⟩); exact trivial, by (repeat refine ⟨⟨_, rfl, by first | with_reducible exact BLe.rf | with_reducible exact slbox mrE_zero | with_reducible exact slbox mrE_step | (refine BLe.arr ?_; first | with_reducible exact mrE_more | with_reducible exact mrE_0) | exact BLe.rf | exact BLe.box AllC.rf⟩, ?_⟩); exact trivial, by repeat (first | exact trivial | refine ⟨⟨rfl, by first | (left; intro h; cases h) | (right; rfl), by first | exact (fun _ h => ⟨_, h⟩) | exact (fun _ _ => ⟨_, rfl⟩)⟩, ?_⟩), rfl⟩
    try simp only [tdy] at h93
    have hje : j = (mrD (b.drop 12)).1.toNat := by omega
    have hm : msgI b = (⟨kindOf b, sesOf b, xidOf b, (mrA (b.drop 12)).1, (mrB (b.drop 12)).1, ⟨(mrC (b.drop 12) 8).1.map Prod.fst, (mrC (b.drop 12) 8).1.map Prod.snd⟩, (mrE (b.drop 12) j).1, false, ⟨[]⟩⟩ : Msgt) := by rw [hje]; exact msgI_add h64
    refine AW_condF rfl ?_
    refine AW_exit (BQ_hit ?_)
    refine AW_seq ?_
    refine AW_seq ?_
    refine AW_region ?_
    refine AL_p (x_loadN (n := 10) rfl rfl rfl (by kernel_rfl) rfl rfl) ?_
    refine AL_p (x_callR rfl rfl rfl (msgBytesI_c (⟨kindOf b, sesOf b, xidOf b, (mrA (b.drop 12)).1, (mrB (b.drop 12)).1, ⟨(mrC (b.drop 12) 8).1.map Prod.fst, (mrC (b.drop 12) 8).1.map Prod.snd⟩, (mrE (b.drop 12) j).1, false, ⟨[]⟩⟩ : Msgt) 116) rfl ⟨V1Le.agg (by repeat (first | exact trivial | refine ⟨by first | exact CLe.rf | exact CLe.nil, ?_⟩)), trivial⟩ rfl rfl rfl rfl rfl) ?_
    refine AL_p (x_move rfl rfl) ?_
    refine AL_p (x_extract rfl rfl rfl) ?_
    refine AL_b (x_extract rfl rfl rfl) (fun b132 h132 => ?_)
    refine AL_p (x_assign rfl rfl) ?_
    refine AL_p (x_assign rfl rfl) ?_
    refine AL_nil ?_
    refine AW_seq ?_
    refine AW_region ?_
    refine AL_p (x_move rfl rfl) ?_
    refine AL_p (x_not rfl rfl) ?_
    refine AL_p (x_move rfl rfl) ?_
    cases b132
    · try simp only [tdy] at h132
      have hno := msgRead_no p1 p2 p3 p4 (fun e => by rw [hm] at e; rw [e] at h132; cases h132)
      refine AL_o rfl rfl rfl rfl ?_
      refine AL_o rfl rfl rfl rfl ?_
      refine AL_o rfl rfl rfl rfl ?_
      refine AL_o rfl rfl rfl rfl ?_
      refine AL_p (x_pickT rfl rfl rfl) ?_
      refine AL_nil ?_
      refine AW_condT rfl ?_
      refine AW_seq ?_
      refine AW_region ?_
      refine AL_p (x_build (zs := [.int .i64 0, .int .i64 0, .int .i64 0, .int .i64 0, .int .i64 0, .slice none 0 0, .slice none 0 0, .slice none 0 0, .bool false, .slice none 0 0]) (places := [(0, 1), (1, 1), (2, 1), (3, 1), (4, 1), (5, 2), (7, 1), (8, 1), (9, 1)]) rfl (by kernel_rfl) rfl rfl rfl rfl rfl) ?_
      refine AL_p (x_store (n := 10) rfl rfl rfl rfl (by kernel_rfl) rfl rfl rfl) ?_
      refine AL_p (x_assign rfl rfl) ?_
      refine AL_nil ?_
      refine AW_adopt (T := 3) (e := (intE .i64)) 101 100 5 rfl rfl rfl rfl rfl ?_
      refine AW_adopt (T := 3) (e := (intE .i64)) 102 100 6 rfl rfl rfl rfl rfl ?_
      refine AW_adopt (T := 114) (e := actE) 103 100 7 rfl rfl rfl rfl rfl ?_
      refine AW_adopt (T := 3) (e := (intE .i64)) 104 100 9 rfl rfl rfl rfl rfl ?_
      refine AW_ret ?_
      exact ⟨rn [(9, 100), (0, 101), (1, 102), (2, 103), (3, 104)], ⟨⟨⟨_, rfl, VLe.rf⟩, ⟨_, rfl, by first | (refine vle_int ?_; rw [hno]; done) | exact VLe.rf | (refine vle_int ?_; rw [hno]; apply Eq.symm; assumption) | exact vle_int (by rw [hno])⟩, trivial⟩, ⟨⟨_, rfl, by first | (refine ble_eq ?_; rw [hno]; done) | (refine ble_eq ?_; rw [hno]; rfl) | exact BLe.rf⟩, ⟨_, rfl, by first | (refine BLe.arr ?_; rw [hno]; done) | (refine BLe.arr ?_; rw [hno]; rfl) | exact BLe.rf⟩, ⟨_, rfl, by first | (refine BLe.arr ?_; rw [hno]; done) | (refine BLe.arr ?_; rw [hno]; rfl) | exact BLe.rf⟩, ⟨_, rfl, by first | (refine BLe.arr ?_; rw [hno]; done) | (refine BLe.arr ?_; rw [hno]; rfl) | exact BLe.rf⟩, ⟨_, rfl, by first | (refine BLe.arr ?_; rw [hno]; done) | (refine BLe.arr ?_; rw [hno]; rfl) | exact BLe.rf⟩, trivial⟩, trivial, rfl⟩⟩
    try simp only [tdy] at h132
    refine AL_g rfl rfl (x_move rfl rfl) ?_
    refine AL_g rfl rfl (x_move rfl rfl) ?_
    refine AL_gbc rfl rfl (x_callR rfl rfl rfl (equalB_c _ _) rfl AllV.rf rfl rfl rfl rfl rfl) (fun b138 h138 => ?_)
    refine AL_g rfl rfl (x_not rfl rfl) ?_
    refine AL_p (x_pickF rfl rfl rfl) ?_
    refine AL_nil ?_
    cases b138
    rotate_left
    · try simp only [tdy] at h138
      have hno := msgRead_yes (m := (⟨kindOf b, sesOf b, xidOf b, (mrA (b.drop 12)).1, (mrB (b.drop 12)).1, ⟨(mrC (b.drop 12) 8).1.map Prod.fst, (mrC (b.drop 12) 8).1.map Prod.snd⟩, (mrE (b.drop 12) j).1, false, ⟨[]⟩⟩ : Msgt)) (Prod.ext h138 h132 : msgBytes _ = (b, true)) (hm ▸ msgI_v b)
      refine AW_condF rfl ?_
      refine AW_skip ?_
      refine AW_seq ?_
      refine AW_region ?_
      refine AL_p (x_loadN (n := 10) rfl rfl rfl (by kernel_rfl) rfl rfl) ?_
      refine AL_p (x_store (n := 10) rfl rfl rfl rfl (by kernel_rfl) rfl rfl rfl) ?_
      refine AL_p (x_assign rfl rfl) ?_
      refine AL_nil ?_
      refine AW_adopt (T := 3) (e := (intE .i64)) 104 100 9 rfl rfl rfl rfl rfl ?_
      refine AW_ret ?_
      exact ⟨rn [(9, 100), (0, 106), (1, 107), (2, 112), (3, 104)], ⟨⟨⟨_, rfl, VLe.rf⟩, ⟨_, rfl, by first | (refine vle_int ?_; rw [hno]; done) | exact VLe.rf | (refine vle_int ?_; rw [hno]; apply Eq.symm; assumption) | exact vle_int (by rw [hno])⟩, trivial⟩, ⟨⟨_, rfl, by first | (refine ble_eq ?_; rw [hno]; done) | (refine ble_eq ?_; rw [hno]; rfl) | exact BLe.rf⟩, ⟨_, rfl, by first | (refine BLe.arr ?_; rw [hno]; done) | (refine BLe.arr ?_; rw [hno]; rfl) | exact BLe.rf⟩, ⟨_, rfl, by first | (refine BLe.arr ?_; rw [hno]; done) | (refine BLe.arr ?_; rw [hno]; rfl) | exact BLe.rf⟩, ⟨_, rfl, by first | (refine BLe.arr ?_; rw [hno]; done) | (refine BLe.arr ?_; rw [hno]; rfl) | exact BLe.rf⟩, ⟨_, rfl, by first | (refine BLe.arr ?_; rw [hno]; done) | (refine BLe.arr ?_; rw [hno]; rfl) | exact BLe.rf⟩, trivial⟩, trivial, rfl⟩⟩
    try simp only [tdy] at h138
    have hno := msgRead_no p1 p2 p3 p4 (fun e => h138 (by rw [hm] at e; rw [e]))
    refine AW_condT rfl ?_
    refine AW_seq ?_
    refine AW_region ?_
    refine AL_p (x_build (zs := [.int .i64 0, .int .i64 0, .int .i64 0, .int .i64 0, .int .i64 0, .slice none 0 0, .slice none 0 0, .slice none 0 0, .bool false, .slice none 0 0]) (places := [(0, 1), (1, 1), (2, 1), (3, 1), (4, 1), (5, 2), (7, 1), (8, 1), (9, 1)]) rfl (by kernel_rfl) rfl rfl rfl rfl rfl) ?_
    refine AL_p (x_store (n := 10) rfl rfl rfl rfl (by kernel_rfl) rfl rfl rfl) ?_
    refine AL_p (x_assign rfl rfl) ?_
    refine AL_nil ?_
    refine AW_adopt (T := 3) (e := (intE .i64)) 101 100 5 rfl rfl rfl rfl rfl ?_
    refine AW_adopt (T := 3) (e := (intE .i64)) 102 100 6 rfl rfl rfl rfl rfl ?_
    refine AW_adopt (T := 114) (e := actE) 103 100 7 rfl rfl rfl rfl rfl ?_
    refine AW_adopt (T := 3) (e := (intE .i64)) 104 100 9 rfl rfl rfl rfl rfl ?_
    refine AW_ret ?_
    exact ⟨rn [(9, 100), (0, 101), (1, 102), (2, 103), (3, 104)], ⟨⟨⟨_, rfl, VLe.rf⟩, ⟨_, rfl, by first | (refine vle_int ?_; rw [hno]; done) | exact VLe.rf | (refine vle_int ?_; rw [hno]; apply Eq.symm; assumption) | exact vle_int (by rw [hno])⟩, trivial⟩, ⟨⟨_, rfl, by first | (refine ble_eq ?_; rw [hno]; done) | (refine ble_eq ?_; rw [hno]; rfl) | exact BLe.rf⟩, ⟨_, rfl, by first | (refine BLe.arr ?_; rw [hno]; done) | (refine BLe.arr ?_; rw [hno]; rfl) | exact BLe.rf⟩, ⟨_, rfl, by first | (refine BLe.arr ?_; rw [hno]; done) | (refine BLe.arr ?_; rw [hno]; rfl) | exact BLe.rf⟩, ⟨_, rfl, by first | (refine BLe.arr ?_; rw [hno]; done) | (refine BLe.arr ?_; rw [hno]; rfl) | exact BLe.rf⟩, ⟨_, rfl, by first | (refine BLe.arr ?_; rw [hno]; done) | (refine BLe.arr ?_; rw [hno]; rfl) | exact BLe.rf⟩, trivial⟩, trivial, rfl⟩⟩
  try simp only [tdy] at h64
  refine AW_condF rfl ?_
  refine AW_seq ?_
  refine AW_region ?_
  refine AL_b (x_eql rfl rfl rfl) (fun b109 h109 => ?_)
  refine AL_p (x_assign rfl rfl) ?_
  refine AL_nil ?_
  cases b109
  rotate_left
  · try simp only [tdy] at h109
    have hm3 : True := trivial
    have hm : msgI b = (⟨kindOf b, sesOf b, xidOf b, (takeI (b.drop 12) 4).1, 0, ⟨[], []⟩, [], false, ⟨[]⟩⟩ : Msgt) := msgI_flip h109
    refine AW_condT rfl ?_
    refine AW_region ?_
    refine AL_p (x_call (ks := []) (L := [(200, some _)]) (L' := [(200, some _)]) rfl rfl rfl (takeI_c (b.drop 12) 4 (by omega) (by omega)) rfl AllV.rf (caught_of rfl) rfl rfl rfl ⟨rfl, trivial⟩ rfl) ?_
    refine AL_p (x_field (off := 3) (o' := 3) rfl rfl rfl (by kernel_rfl) rfl) ?_
    refine AL_p (x_store (n := 1) rfl rfl rfl rfl (by kernel_rfl) rfl rfl rfl) ?_
    refine AL_nil ?_
    refine AW_seq ?_
    refine AW_seq ?_
    refine AW_region ?_
    refine AL_p (x_loadN (n := 10) rfl rfl rfl (by kernel_rfl) rfl rfl) ?_
    refine AL_p (x_callR rfl rfl rfl (msgBytesI_c (⟨kindOf b, sesOf b, xidOf b, (takeI (b.drop 12) 4).1, 0, ⟨[], []⟩, [], false, ⟨[]⟩⟩ : Msgt) 116) rfl ⟨V1Le.agg (by repeat (first | exact trivial | refine ⟨by first | exact CLe.rf | exact CLe.nil, ?_⟩)), trivial⟩ rfl rfl rfl rfl rfl) ?_
    refine AL_p (x_move rfl rfl) ?_
    refine AL_p (x_extract rfl rfl rfl) ?_
    refine AL_b (x_extract rfl rfl rfl) (fun b132 h132 => ?_)
    refine AL_p (x_assign rfl rfl) ?_
    refine AL_p (x_assign rfl rfl) ?_
    refine AL_nil ?_
    refine AW_seq ?_
    refine AW_region ?_
    refine AL_p (x_move rfl rfl) ?_
    refine AL_p (x_not rfl rfl) ?_
    refine AL_p (x_move rfl rfl) ?_
    cases b132
    · try simp only [tdy] at h132
      have hno := msgRead_no p1 p2 p3 p4 (fun e => by rw [hm] at e; rw [e] at h132; cases h132)
      refine AL_o rfl rfl rfl rfl ?_
      refine AL_o rfl rfl rfl rfl ?_
      refine AL_o rfl rfl rfl rfl ?_
      refine AL_o rfl rfl rfl rfl ?_
      refine AL_p (x_pickT rfl rfl rfl) ?_
      refine AL_nil ?_
      refine AW_condT rfl ?_
      refine AW_seq ?_
      refine AW_region ?_
      refine AL_p (x_build (zs := [.int .i64 0, .int .i64 0, .int .i64 0, .int .i64 0, .int .i64 0, .slice none 0 0, .slice none 0 0, .slice none 0 0, .bool false, .slice none 0 0]) (places := [(0, 1), (1, 1), (2, 1), (3, 1), (4, 1), (5, 2), (7, 1), (8, 1), (9, 1)]) rfl (by kernel_rfl) rfl rfl rfl rfl rfl) ?_
      refine AL_p (x_store (n := 10) rfl rfl rfl rfl (by kernel_rfl) rfl rfl rfl) ?_
      refine AL_p (x_assign rfl rfl) ?_
      refine AL_nil ?_
      refine AW_adopt (T := 3) (e := (intE .i64)) 101 100 5 rfl rfl rfl rfl rfl ?_
      refine AW_adopt (T := 3) (e := (intE .i64)) 102 100 6 rfl rfl rfl rfl rfl ?_
      refine AW_adopt (T := 114) (e := actE) 103 100 7 rfl rfl rfl rfl rfl ?_
      refine AW_adopt (T := 3) (e := (intE .i64)) 104 100 9 rfl rfl rfl rfl rfl ?_
      refine AW_ret ?_
      exact ⟨rn [(9, 100), (0, 101), (1, 102), (2, 103), (3, 104)], ⟨⟨⟨_, rfl, VLe.rf⟩, ⟨_, rfl, by first | (refine vle_int ?_; rw [hno]; done) | exact VLe.rf | (refine vle_int ?_; rw [hno]; apply Eq.symm; assumption) | exact vle_int (by rw [hno])⟩, trivial⟩, ⟨⟨_, rfl, by first | (refine ble_eq ?_; rw [hno]; done) | (refine ble_eq ?_; rw [hno]; rfl) | exact BLe.rf⟩, ⟨_, rfl, by first | (refine BLe.arr ?_; rw [hno]; done) | (refine BLe.arr ?_; rw [hno]; rfl) | exact BLe.rf⟩, ⟨_, rfl, by first | (refine BLe.arr ?_; rw [hno]; done) | (refine BLe.arr ?_; rw [hno]; rfl) | exact BLe.rf⟩, ⟨_, rfl, by first | (refine BLe.arr ?_; rw [hno]; done) | (refine BLe.arr ?_; rw [hno]; rfl) | exact BLe.rf⟩, ⟨_, rfl, by first | (refine BLe.arr ?_; rw [hno]; done) | (refine BLe.arr ?_; rw [hno]; rfl) | exact BLe.rf⟩, trivial⟩, trivial, rfl⟩⟩
    try simp only [tdy] at h132
    refine AL_g rfl rfl (x_move rfl rfl) ?_
    refine AL_g rfl rfl (x_move rfl rfl) ?_
    refine AL_gbc rfl rfl (x_callR rfl rfl rfl (equalB_c _ _) rfl AllV.rf rfl rfl rfl rfl rfl) (fun b138 h138 => ?_)
    refine AL_g rfl rfl (x_not rfl rfl) ?_
    refine AL_p (x_pickF rfl rfl rfl) ?_
    refine AL_nil ?_
    cases b138
    · try simp only [tdy] at h138
      have hno := msgRead_no p1 p2 p3 p4 (fun e => h138 (by rw [hm] at e; rw [e]))
      refine AW_condT rfl ?_
      refine AW_seq ?_
      refine AW_region ?_
      refine AL_p (x_build (zs := [.int .i64 0, .int .i64 0, .int .i64 0, .int .i64 0, .int .i64 0, .slice none 0 0, .slice none 0 0, .slice none 0 0, .bool false, .slice none 0 0]) (places := [(0, 1), (1, 1), (2, 1), (3, 1), (4, 1), (5, 2), (7, 1), (8, 1), (9, 1)]) rfl (by kernel_rfl) rfl rfl rfl rfl rfl) ?_
      refine AL_p (x_store (n := 10) rfl rfl rfl rfl (by kernel_rfl) rfl rfl rfl) ?_
      refine AL_p (x_assign rfl rfl) ?_
      refine AL_nil ?_
      refine AW_adopt (T := 3) (e := (intE .i64)) 101 100 5 rfl rfl rfl rfl rfl ?_
      refine AW_adopt (T := 3) (e := (intE .i64)) 102 100 6 rfl rfl rfl rfl rfl ?_
      refine AW_adopt (T := 114) (e := actE) 103 100 7 rfl rfl rfl rfl rfl ?_
      refine AW_adopt (T := 3) (e := (intE .i64)) 104 100 9 rfl rfl rfl rfl rfl ?_
      refine AW_ret ?_
      exact ⟨rn [(9, 100), (0, 101), (1, 102), (2, 103), (3, 104)], ⟨⟨⟨_, rfl, VLe.rf⟩, ⟨_, rfl, by first | (refine vle_int ?_; rw [hno]; done) | exact VLe.rf | (refine vle_int ?_; rw [hno]; apply Eq.symm; assumption) | exact vle_int (by rw [hno])⟩, trivial⟩, ⟨⟨_, rfl, by first | (refine ble_eq ?_; rw [hno]; done) | (refine ble_eq ?_; rw [hno]; rfl) | exact BLe.rf⟩, ⟨_, rfl, by first | (refine BLe.arr ?_; rw [hno]; done) | (refine BLe.arr ?_; rw [hno]; rfl) | exact BLe.rf⟩, ⟨_, rfl, by first | (refine BLe.arr ?_; rw [hno]; done) | (refine BLe.arr ?_; rw [hno]; rfl) | exact BLe.rf⟩, ⟨_, rfl, by first | (refine BLe.arr ?_; rw [hno]; done) | (refine BLe.arr ?_; rw [hno]; rfl) | exact BLe.rf⟩, ⟨_, rfl, by first | (refine BLe.arr ?_; rw [hno]; done) | (refine BLe.arr ?_; rw [hno]; rfl) | exact BLe.rf⟩, trivial⟩, trivial, rfl⟩⟩
    try simp only [tdy] at h138
    have hno := msgRead_yes (m := (⟨kindOf b, sesOf b, xidOf b, (takeI (b.drop 12) 4).1, 0, ⟨[], []⟩, [], false, ⟨[]⟩⟩ : Msgt)) (Prod.ext h138 h132 : msgBytes _ = (b, true)) (hm ▸ msgI_v b)
    refine AW_condF rfl ?_
    refine AW_skip ?_
    refine AW_seq ?_
    refine AW_region ?_
    refine AL_p (x_loadN (n := 10) rfl rfl rfl (by kernel_rfl) rfl rfl) ?_
    refine AL_p (x_store (n := 10) rfl rfl rfl rfl (by kernel_rfl) rfl rfl rfl) ?_
    refine AL_p (x_assign rfl rfl) ?_
    refine AL_nil ?_
    refine AW_adopt (T := 3) (e := (intE .i64)) 101 100 5 rfl rfl rfl rfl rfl ?_
    refine AW_adopt (T := 3) (e := (intE .i64)) 102 100 6 rfl rfl rfl rfl rfl ?_
    refine AW_adopt (T := 114) (e := actE) 103 100 7 rfl rfl rfl rfl rfl ?_
    refine AW_adopt (T := 3) (e := (intE .i64)) 104 100 9 rfl rfl rfl rfl rfl ?_
    refine AW_ret ?_
    exact ⟨rn [(9, 100), (0, 101), (1, 102), (2, 103), (3, 104)], ⟨⟨⟨_, rfl, VLe.rf⟩, ⟨_, rfl, by first | (refine vle_int ?_; rw [hno]; done) | exact VLe.rf | (refine vle_int ?_; rw [hno]; apply Eq.symm; assumption) | exact vle_int (by rw [hno])⟩, trivial⟩, ⟨⟨_, rfl, by first | (refine ble_eq ?_; rw [hno]; done) | (refine ble_eq ?_; rw [hno]; rfl) | exact BLe.rf⟩, ⟨_, rfl, by first | (refine BLe.arr ?_; rw [hno]; done) | (refine BLe.arr ?_; rw [hno]; rfl) | exact BLe.rf⟩, ⟨_, rfl, by first | (refine BLe.arr ?_; rw [hno]; done) | (refine BLe.arr ?_; rw [hno]; rfl) | exact BLe.rf⟩, ⟨_, rfl, by first | (refine BLe.arr ?_; rw [hno]; done) | (refine BLe.arr ?_; rw [hno]; rfl) | exact BLe.rf⟩, ⟨_, rfl, by first | (refine BLe.arr ?_; rw [hno]; done) | (refine BLe.arr ?_; rw [hno]; rfl) | exact BLe.rf⟩, trivial⟩, trivial, rfl⟩⟩
  try simp only [tdy] at h109
  refine AW_condF rfl ?_
  refine AW_seq ?_
  refine AW_region ?_
  refine AL_b (x_eql rfl rfl rfl) (fun b113 h113 => ?_)
  refine AL_p (x_assign rfl rfl) ?_
  refine AL_nil ?_
  cases b113
  · try simp only [tdy] at h113
    have hm0 : True := trivial
    have hm : msgI b = (⟨kindOf b, sesOf b, xidOf b, 0, 0, ⟨[], []⟩, [], false, ⟨[]⟩⟩ : Msgt) := msgI_none h64 h109 h113
    refine AW_condF rfl ?_
    refine AW_skip ?_
    refine AW_seq ?_
    refine AW_seq ?_
    refine AW_region ?_
    refine AL_p (x_loadN (n := 10) rfl rfl rfl (by kernel_rfl) rfl rfl) ?_
    refine AL_p (x_callR rfl rfl rfl (msgBytesI_c (⟨kindOf b, sesOf b, xidOf b, 0, 0, ⟨[], []⟩, [], false, ⟨[]⟩⟩ : Msgt) 116) rfl ⟨V1Le.agg (by repeat (first | exact trivial | refine ⟨by first | exact CLe.rf | exact CLe.nil, ?_⟩)), trivial⟩ rfl rfl rfl rfl rfl) ?_
    refine AL_p (x_move rfl rfl) ?_
    refine AL_p (x_extract rfl rfl rfl) ?_
    refine AL_b (x_extract rfl rfl rfl) (fun b132 h132 => ?_)
    refine AL_p (x_assign rfl rfl) ?_
    refine AL_p (x_assign rfl rfl) ?_
    refine AL_nil ?_
    refine AW_seq ?_
    refine AW_region ?_
    refine AL_p (x_move rfl rfl) ?_
    refine AL_p (x_not rfl rfl) ?_
    refine AL_p (x_move rfl rfl) ?_
    cases b132
    · try simp only [tdy] at h132
      have hno := msgRead_no p1 p2 p3 p4 (fun e => by rw [hm] at e; rw [e] at h132; cases h132)
      refine AL_o rfl rfl rfl rfl ?_
      refine AL_o rfl rfl rfl rfl ?_
      refine AL_o rfl rfl rfl rfl ?_
      refine AL_o rfl rfl rfl rfl ?_
      refine AL_p (x_pickT rfl rfl rfl) ?_
      refine AL_nil ?_
      refine AW_condT rfl ?_
      refine AW_seq ?_
      refine AW_region ?_
      refine AL_p (x_build (zs := [.int .i64 0, .int .i64 0, .int .i64 0, .int .i64 0, .int .i64 0, .slice none 0 0, .slice none 0 0, .slice none 0 0, .bool false, .slice none 0 0]) (places := [(0, 1), (1, 1), (2, 1), (3, 1), (4, 1), (5, 2), (7, 1), (8, 1), (9, 1)]) rfl (by kernel_rfl) rfl rfl rfl rfl rfl) ?_
      refine AL_p (x_store (n := 10) rfl rfl rfl rfl (by kernel_rfl) rfl rfl rfl) ?_
      refine AL_p (x_assign rfl rfl) ?_
      refine AL_nil ?_
      refine AW_adopt (T := 3) (e := (intE .i64)) 101 100 5 rfl rfl rfl rfl rfl ?_
      refine AW_adopt (T := 3) (e := (intE .i64)) 102 100 6 rfl rfl rfl rfl rfl ?_
      refine AW_adopt (T := 114) (e := actE) 103 100 7 rfl rfl rfl rfl rfl ?_
      refine AW_adopt (T := 3) (e := (intE .i64)) 104 100 9 rfl rfl rfl rfl rfl ?_
      refine AW_ret ?_
      exact ⟨rn [(9, 100), (0, 101), (1, 102), (2, 103), (3, 104)], ⟨⟨⟨_, rfl, VLe.rf⟩, ⟨_, rfl, by first | (refine vle_int ?_; rw [hno]; done) | exact VLe.rf | (refine vle_int ?_; rw [hno]; apply Eq.symm; assumption) | exact vle_int (by rw [hno])⟩, trivial⟩, ⟨⟨_, rfl, by first | (refine ble_eq ?_; rw [hno]; done) | (refine ble_eq ?_; rw [hno]; rfl) | exact BLe.rf⟩, ⟨_, rfl, by first | (refine BLe.arr ?_; rw [hno]; done) | (refine BLe.arr ?_; rw [hno]; rfl) | exact BLe.rf⟩, ⟨_, rfl, by first | (refine BLe.arr ?_; rw [hno]; done) | (refine BLe.arr ?_; rw [hno]; rfl) | exact BLe.rf⟩, ⟨_, rfl, by first | (refine BLe.arr ?_; rw [hno]; done) | (refine BLe.arr ?_; rw [hno]; rfl) | exact BLe.rf⟩, ⟨_, rfl, by first | (refine BLe.arr ?_; rw [hno]; done) | (refine BLe.arr ?_; rw [hno]; rfl) | exact BLe.rf⟩, trivial⟩, trivial, rfl⟩⟩
    try simp only [tdy] at h132
    refine AL_g rfl rfl (x_move rfl rfl) ?_
    refine AL_g rfl rfl (x_move rfl rfl) ?_
    refine AL_gbc rfl rfl (x_callR rfl rfl rfl (equalB_c _ _) rfl AllV.rf rfl rfl rfl rfl rfl) (fun b138 h138 => ?_)
    refine AL_g rfl rfl (x_not rfl rfl) ?_
    refine AL_p (x_pickF rfl rfl rfl) ?_
    refine AL_nil ?_
    cases b138
    · try simp only [tdy] at h138
      have hno := msgRead_no p1 p2 p3 p4 (fun e => h138 (by rw [hm] at e; rw [e]))
      refine AW_condT rfl ?_
      refine AW_seq ?_
      refine AW_region ?_
      refine AL_p (x_build (zs := [.int .i64 0, .int .i64 0, .int .i64 0, .int .i64 0, .int .i64 0, .slice none 0 0, .slice none 0 0, .slice none 0 0, .bool false, .slice none 0 0]) (places := [(0, 1), (1, 1), (2, 1), (3, 1), (4, 1), (5, 2), (7, 1), (8, 1), (9, 1)]) rfl (by kernel_rfl) rfl rfl rfl rfl rfl) ?_
      refine AL_p (x_store (n := 10) rfl rfl rfl rfl (by kernel_rfl) rfl rfl rfl) ?_
      refine AL_p (x_assign rfl rfl) ?_
      refine AL_nil ?_
      refine AW_adopt (T := 3) (e := (intE .i64)) 101 100 5 rfl rfl rfl rfl rfl ?_
      refine AW_adopt (T := 3) (e := (intE .i64)) 102 100 6 rfl rfl rfl rfl rfl ?_
      refine AW_adopt (T := 114) (e := actE) 103 100 7 rfl rfl rfl rfl rfl ?_
      refine AW_adopt (T := 3) (e := (intE .i64)) 104 100 9 rfl rfl rfl rfl rfl ?_
      refine AW_ret ?_
      exact ⟨rn [(9, 100), (0, 101), (1, 102), (2, 103), (3, 104)], ⟨⟨⟨_, rfl, VLe.rf⟩, ⟨_, rfl, by first | (refine vle_int ?_; rw [hno]; done) | exact VLe.rf | (refine vle_int ?_; rw [hno]; apply Eq.symm; assumption) | exact vle_int (by rw [hno])⟩, trivial⟩, ⟨⟨_, rfl, by first | (refine ble_eq ?_; rw [hno]; done) | (refine ble_eq ?_; rw [hno]; rfl) | exact BLe.rf⟩, ⟨_, rfl, by first | (refine BLe.arr ?_; rw [hno]; done) | (refine BLe.arr ?_; rw [hno]; rfl) | exact BLe.rf⟩, ⟨_, rfl, by first | (refine BLe.arr ?_; rw [hno]; done) | (refine BLe.arr ?_; rw [hno]; rfl) | exact BLe.rf⟩, ⟨_, rfl, by first | (refine BLe.arr ?_; rw [hno]; done) | (refine BLe.arr ?_; rw [hno]; rfl) | exact BLe.rf⟩, ⟨_, rfl, by first | (refine BLe.arr ?_; rw [hno]; done) | (refine BLe.arr ?_; rw [hno]; rfl) | exact BLe.rf⟩, trivial⟩, trivial, rfl⟩⟩
    try simp only [tdy] at h138
    have hno := msgRead_yes (m := (⟨kindOf b, sesOf b, xidOf b, 0, 0, ⟨[], []⟩, [], false, ⟨[]⟩⟩ : Msgt)) (Prod.ext h138 h132 : msgBytes _ = (b, true)) (hm ▸ msgI_v b)
    refine AW_condF rfl ?_
    refine AW_skip ?_
    refine AW_seq ?_
    refine AW_region ?_
    refine AL_p (x_loadN (n := 10) rfl rfl rfl (by kernel_rfl) rfl rfl) ?_
    refine AL_p (x_store (n := 10) rfl rfl rfl rfl (by kernel_rfl) rfl rfl rfl) ?_
    refine AL_p (x_assign rfl rfl) ?_
    refine AL_nil ?_
    refine AW_adopt (T := 3) (e := (intE .i64)) 101 100 5 rfl rfl rfl rfl rfl ?_
    refine AW_adopt (T := 3) (e := (intE .i64)) 102 100 6 rfl rfl rfl rfl rfl ?_
    refine AW_adopt (T := 114) (e := actE) 103 100 7 rfl rfl rfl rfl rfl ?_
    refine AW_adopt (T := 3) (e := (intE .i64)) 104 100 9 rfl rfl rfl rfl rfl ?_
    refine AW_ret ?_
    exact ⟨rn [(9, 100), (0, 101), (1, 102), (2, 103), (3, 104)], ⟨⟨⟨_, rfl, VLe.rf⟩, ⟨_, rfl, by first | (refine vle_int ?_; rw [hno]; done) | exact VLe.rf | (refine vle_int ?_; rw [hno]; apply Eq.symm; assumption) | exact vle_int (by rw [hno])⟩, trivial⟩, ⟨⟨_, rfl, by first | (refine ble_eq ?_; rw [hno]; done) | (refine ble_eq ?_; rw [hno]; rfl) | exact BLe.rf⟩, ⟨_, rfl, by first | (refine BLe.arr ?_; rw [hno]; done) | (refine BLe.arr ?_; rw [hno]; rfl) | exact BLe.rf⟩, ⟨_, rfl, by first | (refine BLe.arr ?_; rw [hno]; done) | (refine BLe.arr ?_; rw [hno]; rfl) | exact BLe.rf⟩, ⟨_, rfl, by first | (refine BLe.arr ?_; rw [hno]; done) | (refine BLe.arr ?_; rw [hno]; rfl) | exact BLe.rf⟩, ⟨_, rfl, by first | (refine BLe.arr ?_; rw [hno]; done) | (refine BLe.arr ?_; rw [hno]; rfl) | exact BLe.rf⟩, trivial⟩, trivial, rfl⟩⟩
  try simp only [tdy] at h113
  have hm5 : True := trivial
  have hm : msgI b = (⟨kindOf b, sesOf b, xidOf b, 0, 0, ⟨[], []⟩, [], ((takeI (b.drop 12) 1).1 == 1), ⟨(mrH (b.drop 12) 8).1⟩⟩ : Msgt) := (msgI_note h113).trans (by rw [beq_dec])
  refine AW_condT rfl ?_
  refine AW_seq ?_
  refine AW_region ?_
  refine AL_p (x_call (ks := []) (L := [(200, some _)]) (L' := [(200, some _)]) rfl rfl rfl (takeI_c (b.drop 12) 1 (by omega) (by omega)) rfl AllV.rf (caught_of rfl) rfl rfl rfl ⟨rfl, trivial⟩ rfl) ?_
  refine AL_p (x_eql rfl rfl rfl) ?_
  refine AL_p (x_field (off := 8) (o' := 8) rfl rfl rfl (by kernel_rfl) rfl) ?_
  refine AL_p (x_store (n := 1) rfl rfl rfl rfl (by kernel_rfl) rfl rfl rfl) ?_
  refine AL_nil ?_
  refine AW_seq ?_
  refine AW_region ?_
  refine AL_p (x_move rfl rfl) ?_
  refine AL_nil ?_
  refine AW_block ?_
  refine AW_adopt (T := 3) (e := (intE .i64)) 117 105 9 rfl rfl rfl rfl rfl ?_
  refine AW_loop2 (ι := {q : Nat // q ≤ 8}) (fun p => [(117, .one (.c (.int .i64 ((p.1) : Int))))]) (fun p => [(117, some (.arr 3 (intE .i64) (mrH (b.drop 12) (p.1)).1 true)), (200, some (.box [.sl (intE .u8) (mrH (b.drop 12) (p.1)).2]))]) [0, 2, 4, 5] [100, 105] (fun p => 8 - (p.1)) ⟨0, by omega⟩ (rn []) ?_ ?_
  exact ⟨by (repeat refine ⟨⟨_, rfl, by first | with_reducible exact VLe.rf | exact VLe.rf | exact vle_int (by dsimp only; omega)⟩, ?_⟩); exact trivial, by (repeat refine ⟨⟨_, rfl, by first | with_reducible exact BLe.rf | with_reducible exact slbox mrH_zero | with_reducible exact slbox mrH_step | (refine BLe.arr ?_; first | with_reducible exact mrH_more | with_reducible exact mrH_0) | exact BLe.rf | exact BLe.box AllC.rf⟩, ?_⟩); exact trivial, by repeat (first | exact trivial | refine ⟨⟨rfl, by first | (left; intro h; cases h) | (right; rfl), by first | exact (fun _ h => ⟨_, h⟩) | exact (fun _ _ => ⟨_, rfl⟩)⟩, ?_⟩), rfl⟩
  rintro ⟨i, hinv⟩
  dsimp only
  have hi := hinv
  refine AW_seq ?_
  refine AW_region ?_
  refine AL_b (x_lss rfl rfl rfl) (fun b118 h118 => ?_)
  refine AL_nil ?_
  refine AW_seq ?_
  cases b118
  rotate_left
  · try simp only [tdy] at h118
    refine AW_condT rfl ?_
    refine AW_skip ?_
    refine AW_seq ?_
    refine AW_block ?_
    refine AW_draw rfl ?_
    refine AL_p (x_field (off := 9) (o' := 9) rfl rfl rfl (by kernel_rfl) rfl) ?_
    refine AL_p (x_field (off := 0) (o' := 9) rfl rfl rfl (by kernel_rfl) rfl) ?_
    refine AL_p (x_load1 rfl rfl rfl (by kernel_rfl) rfl) ?_
    refine AL_p (x_call (ks := []) (L := [(200, some _)]) (L' := [(200, some _)]) rfl rfl rfl (takeI_c (mrH (b.drop 12) i).2 6 (by omega) (by omega)) rfl AllV.rf (caught_of rfl) rfl rfl rfl ⟨rfl, trivial⟩ rfl) ?_
    refine AL_p (y_bslice (E := 3) (e := (intE .i64)) [.tmp 122] ([(takeI (mrH (b.drop 12) i).2 6).1]) 118 rfl rfl rfl rfl rfl rfl rfl rfl FitL.rf rfl rfl rfl rfl rfl rfl (by kernel_rfl)) ?_
    refine AL_p (y_append 119 rfl rfl rfl rfl rfl rfl rfl rfl (by kernel_rfl) (by simp only [List.length_map, mrC, mrE, mrH, iterG_len, sActs_len, sH_len, List.length_cons, List.length_nil]; omega)) ?_
    refine AL_p (x_field (off := 9) (o' := 9) rfl rfl rfl (by kernel_rfl) rfl) ?_
    refine AL_p (x_field (off := 0) (o' := 9) rfl rfl rfl (by kernel_rfl) rfl) ?_
    refine AL_p (x_store (n := 1) rfl rfl rfl rfl (by kernel_rfl) rfl rfl rfl) ?_
    refine AL_nild (by kernel_rfl) ?_
    refine AW_region ?_
    refine AL_p (x_add rfl rfl rfl (IntWalk.i64_in _ (by omega))) ?_
    refine AL_p (x_move rfl rfl) ?_
    refine AL_nil ?_
    refine ⟨⟨i + 1, by omega⟩, rn [(117, 119)], ?_, by dsimp only; omega⟩
    exact ⟨by (repeat refine ⟨⟨_, rfl, by first | with_reducible exact VLe.rf | exact VLe.rf | exact vle_int (by dsimp only; omega)⟩, ?_⟩); exact trivial, by (repeat refine ⟨⟨_, rfl, by first | with_reducible exact BLe.rf | with_reducible exact slbox mrH_zero | with_reducible exact slbox mrH_step | (refine BLe.arr ?_; first | with_reducible exact mrH_more | with_reducible exact mrH_0) | exact BLe.rf | exact BLe.box AllC.rf⟩, ?_⟩); exact trivial, by repeat (first | exact trivial | refine ⟨⟨rfl, by first | (left; intro h; cases h) | (right; rfl), by first | exact (fun _ h => ⟨_, h⟩) | exact (fun _ _ => ⟨_, rfl⟩)⟩, ?_⟩), rfl⟩
  try simp only [tdy] at h118
  obtain rfl : i = 8 := by omega
  refine AW_condF rfl ?_
  refine AW_exit (BQ_hit ?_)
  refine AW_seq ?_
  refine AW_seq ?_
  refine AW_region ?_
  refine AL_p (x_loadN (n := 10) rfl rfl rfl (by kernel_rfl) rfl rfl) ?_
  refine AL_p (x_callR rfl rfl rfl (msgBytesI_c (⟨kindOf b, sesOf b, xidOf b, 0, 0, ⟨[], []⟩, [], ((takeI (b.drop 12) 1).1 == 1), ⟨(mrH (b.drop 12) 8).1⟩⟩ : Msgt) 116) rfl ⟨V1Le.agg (by repeat (first | exact trivial | refine ⟨by first | exact CLe.rf | exact CLe.nil, ?_⟩)), trivial⟩ rfl rfl rfl rfl rfl) ?_
  refine AL_p (x_move rfl rfl) ?_
  refine AL_p (x_extract rfl rfl rfl) ?_
  refine AL_b (x_extract rfl rfl rfl) (fun b132 h132 => ?_)
  refine AL_p (x_assign rfl rfl) ?_
  refine AL_p (x_assign rfl rfl) ?_
  refine AL_nil ?_
  refine AW_seq ?_
  refine AW_region ?_
  refine AL_p (x_move rfl rfl) ?_
  refine AL_p (x_not rfl rfl) ?_
  refine AL_p (x_move rfl rfl) ?_
  cases b132
  · try simp only [tdy] at h132
    have hno := msgRead_no p1 p2 p3 p4 (fun e => by rw [hm] at e; rw [e] at h132; cases h132)
    refine AL_o rfl rfl rfl rfl ?_
    refine AL_o rfl rfl rfl rfl ?_
    refine AL_o rfl rfl rfl rfl ?_
    refine AL_o rfl rfl rfl rfl ?_
    refine AL_p (x_pickT rfl rfl rfl) ?_
    refine AL_nil ?_
    refine AW_condT rfl ?_
    refine AW_seq ?_
    refine AW_region ?_
    refine AL_p (x_build (zs := [.int .i64 0, .int .i64 0, .int .i64 0, .int .i64 0, .int .i64 0, .slice none 0 0, .slice none 0 0, .slice none 0 0, .bool false, .slice none 0 0]) (places := [(0, 1), (1, 1), (2, 1), (3, 1), (4, 1), (5, 2), (7, 1), (8, 1), (9, 1)]) rfl (by kernel_rfl) rfl rfl rfl rfl rfl) ?_
    refine AL_p (x_store (n := 10) rfl rfl rfl rfl (by kernel_rfl) rfl rfl rfl) ?_
    refine AL_p (x_assign rfl rfl) ?_
    refine AL_nil ?_
    refine AW_adopt (T := 3) (e := (intE .i64)) 101 100 5 rfl rfl rfl rfl rfl ?_
    refine AW_adopt (T := 3) (e := (intE .i64)) 102 100 6 rfl rfl rfl rfl rfl ?_
    refine AW_adopt (T := 114) (e := actE) 103 100 7 rfl rfl rfl rfl rfl ?_
    refine AW_adopt (T := 3) (e := (intE .i64)) 104 100 9 rfl rfl rfl rfl rfl ?_
    refine AW_ret ?_
    exact ⟨rn [(9, 100), (0, 101), (1, 102), (2, 103), (3, 104)], ⟨⟨⟨_, rfl, VLe.rf⟩, ⟨_, rfl, by first | (refine vle_int ?_; rw [hno]; done) | exact VLe.rf | (refine vle_int ?_; rw [hno]; apply Eq.symm; assumption) | exact vle_int (by rw [hno])⟩, trivial⟩, ⟨⟨_, rfl, by first | (refine ble_eq ?_; rw [hno]; done) | (refine ble_eq ?_; rw [hno]; rfl) | exact BLe.rf⟩, ⟨_, rfl, by first | (refine BLe.arr ?_; rw [hno]; done) | (refine BLe.arr ?_; rw [hno]; rfl) | exact BLe.rf⟩, ⟨_, rfl, by first | (refine BLe.arr ?_; rw [hno]; done) | (refine BLe.arr ?_; rw [hno]; rfl) | exact BLe.rf⟩, ⟨_, rfl, by first | (refine BLe.arr ?_; rw [hno]; done) | (refine BLe.arr ?_; rw [hno]; rfl) | exact BLe.rf⟩, ⟨_, rfl, by first | (refine BLe.arr ?_; rw [hno]; done) | (refine BLe.arr ?_; rw [hno]; rfl) | exact BLe.rf⟩, trivial⟩, trivial, rfl⟩⟩
  try simp only [tdy] at h132
  refine AL_g rfl rfl (x_move rfl rfl) ?_
  refine AL_g rfl rfl (x_move rfl rfl) ?_
  refine AL_gbc rfl rfl (x_callR rfl rfl rfl (equalB_c _ _) rfl AllV.rf rfl rfl rfl rfl rfl) (fun b138 h138 => ?_)
  refine AL_g rfl rfl (x_not rfl rfl) ?_
  refine AL_p (x_pickF rfl rfl rfl) ?_
  refine AL_nil ?_
  cases b138
  rotate_left
  · try simp only [tdy] at h138
    have hno := msgRead_yes (m := (⟨kindOf b, sesOf b, xidOf b, 0, 0, ⟨[], []⟩, [], ((takeI (b.drop 12) 1).1 == 1), ⟨(mrH (b.drop 12) 8).1⟩⟩ : Msgt)) (Prod.ext h138 h132 : msgBytes _ = (b, true)) (hm ▸ msgI_v b)
    refine AW_condF rfl ?_
    refine AW_skip ?_
    refine AW_seq ?_
    refine AW_region ?_
    refine AL_p (x_loadN (n := 10) rfl rfl rfl (by kernel_rfl) rfl rfl) ?_
    refine AL_p (x_store (n := 10) rfl rfl rfl rfl (by kernel_rfl) rfl rfl rfl) ?_
    refine AL_p (x_assign rfl rfl) ?_
    refine AL_nil ?_
    refine AW_adopt (T := 3) (e := (intE .i64)) 101 100 5 rfl rfl rfl rfl rfl ?_
    refine AW_adopt (T := 3) (e := (intE .i64)) 102 100 6 rfl rfl rfl rfl rfl ?_
    refine AW_adopt (T := 114) (e := actE) 103 100 7 rfl rfl rfl rfl rfl ?_
    refine AW_ret ?_
    exact ⟨rn [(9, 100), (0, 101), (1, 102), (2, 103), (3, 117)], ⟨⟨⟨_, rfl, VLe.rf⟩, ⟨_, rfl, by first | (refine vle_int ?_; rw [hno]; done) | exact VLe.rf | (refine vle_int ?_; rw [hno]; apply Eq.symm; assumption) | exact vle_int (by rw [hno])⟩, trivial⟩, ⟨⟨_, rfl, by first | (refine ble_eq ?_; rw [hno]; done) | (refine ble_eq ?_; rw [hno]; rfl) | exact BLe.rf⟩, ⟨_, rfl, by first | (refine BLe.arr ?_; rw [hno]; done) | (refine BLe.arr ?_; rw [hno]; rfl) | exact BLe.rf⟩, ⟨_, rfl, by first | (refine BLe.arr ?_; rw [hno]; done) | (refine BLe.arr ?_; rw [hno]; rfl) | exact BLe.rf⟩, ⟨_, rfl, by first | (refine BLe.arr ?_; rw [hno]; done) | (refine BLe.arr ?_; rw [hno]; rfl) | exact BLe.rf⟩, ⟨_, rfl, by first | (refine BLe.arr ?_; rw [hno]; done) | (refine BLe.arr ?_; rw [hno]; rfl) | exact BLe.rf⟩, trivial⟩, trivial, rfl⟩⟩
  try simp only [tdy] at h138
  have hno := msgRead_no p1 p2 p3 p4 (fun e => h138 (by rw [hm] at e; rw [e]))
  refine AW_condT rfl ?_
  refine AW_seq ?_
  refine AW_region ?_
  refine AL_p (x_build (zs := [.int .i64 0, .int .i64 0, .int .i64 0, .int .i64 0, .int .i64 0, .slice none 0 0, .slice none 0 0, .slice none 0 0, .bool false, .slice none 0 0]) (places := [(0, 1), (1, 1), (2, 1), (3, 1), (4, 1), (5, 2), (7, 1), (8, 1), (9, 1)]) rfl (by kernel_rfl) rfl rfl rfl rfl rfl) ?_
  refine AL_p (x_store (n := 10) rfl rfl rfl rfl (by kernel_rfl) rfl rfl rfl) ?_
  refine AL_p (x_assign rfl rfl) ?_
  refine AL_nil ?_
  refine AW_adopt (T := 3) (e := (intE .i64)) 101 100 5 rfl rfl rfl rfl rfl ?_
  refine AW_adopt (T := 3) (e := (intE .i64)) 102 100 6 rfl rfl rfl rfl rfl ?_
  refine AW_adopt (T := 114) (e := actE) 103 100 7 rfl rfl rfl rfl rfl ?_
  refine AW_adopt (T := 3) (e := (intE .i64)) 104 100 9 rfl rfl rfl rfl rfl ?_
  refine AW_ret ?_
  exact ⟨rn [(9, 100), (0, 101), (1, 102), (2, 103), (3, 104)], ⟨⟨⟨_, rfl, VLe.rf⟩, ⟨_, rfl, by first | (refine vle_int ?_; rw [hno]; done) | exact VLe.rf | (refine vle_int ?_; rw [hno]; apply Eq.symm; assumption) | exact vle_int (by rw [hno])⟩, trivial⟩, ⟨⟨_, rfl, by first | (refine ble_eq ?_; rw [hno]; done) | (refine ble_eq ?_; rw [hno]; rfl) | exact BLe.rf⟩, ⟨_, rfl, by first | (refine BLe.arr ?_; rw [hno]; done) | (refine BLe.arr ?_; rw [hno]; rfl) | exact BLe.rf⟩, ⟨_, rfl, by first | (refine BLe.arr ?_; rw [hno]; done) | (refine BLe.arr ?_; rw [hno]; rfl) | exact BLe.rf⟩, ⟨_, rfl, by first | (refine BLe.arr ?_; rw [hno]; done) | (refine BLe.arr ?_; rw [hno]; rfl) | exact BLe.rf⟩, ⟨_, rfl, by first | (refine BLe.arr ?_; rw [hno]; done) | (refine BLe.arr ?_; rw [hno]; rfl) | exact BLe.rf⟩, trivial⟩, trivial, rfl⟩⟩
end Go.Proofs.Ytfdpigafekohgaa

/- Messages read out of bytes by the reference (printed by walk.py) -/
namespace Go.Proofs.Ytfdpigafekohgaa
open Go.RowKit
set_option linter.unusedVariables false
set_option linter.unusedSimpArgs false
set_option maxRecDepth 100000

set_option maxHeartbeats 4000000 in
theorem matchAll_c  : AC Try.prog 79 [] [] (.agg [.own 0, .own 1]) [(0, some (.arr 3 (intE .i64) (List.replicate 8 0) true)), (1, some (.arr 3 (intE .i64) (List.replicate 8 0) true))] := by
  refine AC_bodyC (n := 2) (k := 9) (T := [(0, .one (.ptr 9 0))]) (Lf := ((9, some (.box [.own 0, .own 1])) :: [(0, some (.arr 3 (intE .i64) (List.replicate 8 0) true)), (1, some (.arr 3 (intE .i64) (List.replicate 8 0) true))])) Try.func79 rfl rfl Try.ntmps79 rfl Try.results79 rfl rfl (by kernel_rfl) rfl rfl ⟨trivial, (by repeat (first | exact trivial | refine ⟨⟨_, rfl, BLe.rf⟩, ?_⟩)), (by repeat (first | exact trivial | refine ⟨⟨rfl, by first | (left; intro h; cases h) | (right; rfl), by first | exact (fun _ h => ⟨_, h⟩) | exact (fun _ _ => ⟨_, rfl⟩)⟩, ?_⟩)), rfl⟩ ?_
  refine AW_seq ?_
  refine AW_region ?_
  refine AL_p (x_alloc (z := .agg #[.slice none 0 0, .slice none 0 0]) 100 rfl (by kernel_rfl) rfl rfl rfl rfl) ?_
  refine AL_nil ?_
  refine AW_seq ?_
  refine AW_draw rfl ?_
  refine AL_p (x_make (T := 36) (E := 3) (e := (intE .i64)) (0) (z := .int .i64 0) 101 rfl rfl rfl (by kernel_rfl) rfl FitL.rf rfl rfl (by kernel_rfl) (by decide)) ?_
  refine AL_p (x_make (T := 36) (E := 3) (e := (intE .i64)) (0) (z := .int .i64 0) 102 rfl rfl rfl (by kernel_rfl) rfl FitL.rf rfl rfl (by kernel_rfl) (by decide)) ?_
  refine AL_p (x_build (zs := [.slice none 0 0, .slice none 0 0]) (places := [(0, 1), (1, 1)]) rfl (by kernel_rfl) rfl rfl rfl rfl rfl) ?_
  refine AL_p (x_store (n := 2) rfl rfl rfl rfl (by kernel_rfl) rfl rfl rfl) ?_
  refine AL_nild (by kernel_rfl) ?_
  refine AW_ret ?_
  exact ⟨rn [(9, 100), (0, 101), (1, 102)], ⟨⟨⟨_, rfl, VLe.rf⟩, trivial⟩, ⟨⟨_, rfl, by first | exact BLe.rf | (subst_vars; exact BLe.rf)⟩, ⟨_, rfl, BLe.rf⟩, ⟨_, rfl, BLe.rf⟩, trivial⟩, trivial, rfl⟩⟩

end Go.Proofs.Ytfdpigafekohgaa

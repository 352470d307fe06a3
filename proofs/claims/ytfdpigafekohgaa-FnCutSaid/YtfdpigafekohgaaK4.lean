/- Lemmas of the walks, part 4. -/
import Derived.Test.YtfdpigafekohgaaK3
/- Messages ars bytes (printed by walk.py) -/
namespace Go.Proofs.Ytfdpigafekohgaa
open Go.RowKit
set_option linter.unusedVariables false
set_option linter.unusedSimpArgs false
set_option maxRecDepth 100000

set_option maxHeartbeats 4000000 in
theorem powN_c (n : Nat) (h1 : n ≤ 6) : AC Try.prog 147 [.one (.c (.int .i64 (n : Int)))] [] (.one (.c (.int .i64 ((256 : Int) ^ n)))) [] := by
  refine AC_body1 Try.func147 rfl rfl Try.ntmps147 rfl Try.results147 ?_
  refine AW_seq ?_
  refine AW_region ?_
  refine AL_p (x_assign rfl rfl) ?_
  refine AL_nil ?_
  refine AW_seq ?_
  refine AW_region ?_
  refine AL_p (x_assign rfl rfl) ?_
  refine AL_nil ?_
  refine AW_seq ?_
  refine AW_seq ?_
  refine AW_region ?_
  refine AL_p (x_assign rfl rfl) ?_
  refine AL_nil ?_
  refine AW_block ?_
  refine AW_loop2 (ι := {q : Nat // q ≤ n}) (fun p => [(3, .one (.c (.int .i64 ((256 : Int) ^ (p.1))))), (4, .one (.c (.int .i64 ((p.1) : Int))))]) (fun p => []) [0] [] (fun p => n - (p.1)) ⟨0, by omega⟩ (rn []) ?_ ?_
  exact ⟨by (repeat refine ⟨⟨_, rfl, by first | exact VLe.rf | exact vle_int (by dsimp only; omega)⟩, ?_⟩); exact trivial, by (repeat refine ⟨⟨_, rfl, by first | exact BLe.rf | exact BLe.box AllC.rf | exact BLe.arr (by exact rfl)⟩, ?_⟩); exact trivial, by repeat (first | exact trivial | refine ⟨⟨rfl, by first | (left; intro h; cases h) | (right; rfl), by first | exact (fun _ h => ⟨_, h⟩) | exact (fun _ _ => ⟨_, rfl⟩)⟩, ?_⟩), rfl⟩
  rintro ⟨k, hinv⟩
  dsimp only
  have hp := p256_in (k := k) (by omega)
  have hs := Int.pow_succ (256 : Int) k
  refine AW_seq ?_
  refine AW_seq ?_
  refine AW_region ?_
  refine AL_p (x_move rfl rfl) ?_
  refine AL_p (x_move rfl rfl) ?_
  refine AL_b (x_lss rfl rfl rfl) (fun b7 h7 => ?_)
  refine AL_nil ?_
  cases b7
  · try simp only [tdy] at h7
    refine AW_condF rfl ?_
    refine AW_exit (BQ_hit ?_)
    refine AW_seq ?_
    refine AW_region ?_
    refine AL_p (x_move rfl rfl) ?_
    refine AL_p (x_assign rfl rfl) ?_
    refine AL_nil ?_
    refine AW_ret ?_
    exact ⟨rn [], ⟨⟨⟨_, rfl, vle_int (by rw [show n = k by omega])⟩, trivial⟩, trivial, trivial, rfl⟩⟩
  try simp only [tdy] at h7
  refine AW_condT rfl ?_
  refine AW_skip ?_
  refine AW_seq ?_
  refine AW_block ?_
  refine AW_region ?_
  refine AL_p (x_move rfl rfl) ?_
  refine AL_p (x_mul rfl rfl rfl (IntWalk.i64_in _ (by omega))) ?_
  refine AL_p (x_assign rfl rfl) ?_
  refine AL_nil ?_
  refine AW_region ?_
  refine AL_p (x_move rfl rfl) ?_
  refine AL_p (x_add rfl rfl rfl (IntWalk.i64_in _ (by omega))) ?_
  refine AL_p (x_assign rfl rfl) ?_
  refine AL_nil ?_
  refine ⟨⟨k + 1, by omega⟩, rn [], ?_, by dsimp only; omega⟩
  exact ⟨by (repeat refine ⟨⟨_, rfl, by first | exact VLe.rf | exact vle_int (by dsimp only; omega)⟩, ?_⟩); exact trivial, by (repeat refine ⟨⟨_, rfl, by first | exact BLe.rf | exact BLe.box AllC.rf | exact BLe.arr (by exact rfl)⟩, ?_⟩); exact trivial, by repeat (first | exact trivial | refine ⟨⟨rfl, by first | (left; intro h; cases h) | (right; rfl), by first | exact (fun _ h => ⟨_, h⟩) | exact (fun _ _ => ⟨_, rfl⟩)⟩, ?_⟩), rfl⟩

set_option maxHeartbeats 4000000 in
theorem numT_c (n : Int) (size : Nat) (h0 : 0 ≤ n) (h1 : n < (256 : Int) ^ size) (h2 : 1 ≤ size) (h3 : size ≤ 6) : AC Try.prog 129 [.one (.c (.int .i64 n)), .one (.c (.int .i64 (size : Int)))] [] (.one (.c (.bool true))) [] := by
  refine AC_body1 Try.func129 rfl rfl Try.ntmps129 rfl Try.results129 ?_
  refine AW_seq ?_
  refine AW_region ?_
  refine AL_p (x_assign rfl rfl) ?_
  refine AL_nil ?_
  refine AW_seq ?_
  refine AW_region ?_
  refine AL_p (x_move rfl rfl) ?_
  refine AL_b (x_geq rfl rfl rfl) (fun b6 h6 => ?_)
  refine AL_p (x_move rfl rfl) ?_
  cases b6
  · try simp only [tdy] at h6
    refine AL_o rfl rfl rfl rfl ?_
    refine AL_o rfl rfl rfl rfl ?_
    refine AL_p (x_pickF rfl rfl rfl) ?_
    refine AL_p (x_move rfl rfl) ?_
    refine AL_o rfl rfl rfl rfl ?_
    refine AL_o rfl rfl rfl rfl ?_
    refine AL_p (x_pickF rfl rfl rfl) ?_
    refine AL_p (x_move rfl rfl) ?_
    refine AL_o rfl rfl rfl rfl ?_
    refine AL_o rfl rfl rfl rfl ?_
    refine AL_o rfl rfl rfl rfl ?_
    refine AL_o rfl rfl rfl rfl ?_
    refine AL_p (x_pickF rfl rfl rfl) ?_
    refine AL_p (x_assign rfl rfl) ?_
    refine AL_nil ?_
    refine AW_ret ?_
    exact ⟨rn [], ⟨⟨⟨_, rfl, vle_bool (by first | rfl | (exfalso; omega))⟩, trivial⟩, trivial, trivial, rfl⟩⟩
  try simp only [tdy] at h6
  refine AL_g rfl rfl (x_move rfl rfl) ?_
  refine AL_gb rfl rfl (x_leq rfl rfl rfl) (fun b9 h9 => ?_)
  refine AL_p (x_pickT rfl rfl rfl) ?_
  refine AL_p (x_move rfl rfl) ?_
  cases b9
  · try simp only [tdy] at h9
    refine AL_o rfl rfl rfl rfl ?_
    refine AL_o rfl rfl rfl rfl ?_
    refine AL_p (x_pickF rfl rfl rfl) ?_
    refine AL_p (x_move rfl rfl) ?_
    refine AL_o rfl rfl rfl rfl ?_
    refine AL_o rfl rfl rfl rfl ?_
    refine AL_o rfl rfl rfl rfl ?_
    refine AL_o rfl rfl rfl rfl ?_
    refine AL_p (x_pickF rfl rfl rfl) ?_
    refine AL_p (x_assign rfl rfl) ?_
    refine AL_nil ?_
    refine AW_ret ?_
    exact ⟨rn [], ⟨⟨⟨_, rfl, vle_bool (by first | rfl | (exfalso; omega))⟩, trivial⟩, trivial, trivial, rfl⟩⟩
  try simp only [tdy] at h9
  refine AL_g rfl rfl (x_move rfl rfl) ?_
  refine AL_gb rfl rfl (x_geq rfl rfl rfl) (fun b13 h13 => ?_)
  refine AL_p (x_pickT rfl rfl rfl) ?_
  refine AL_p (x_move rfl rfl) ?_
  cases b13
  · try simp only [tdy] at h13
    refine AL_o rfl rfl rfl rfl ?_
    refine AL_o rfl rfl rfl rfl ?_
    refine AL_o rfl rfl rfl rfl ?_
    refine AL_o rfl rfl rfl rfl ?_
    refine AL_p (x_pickF rfl rfl rfl) ?_
    refine AL_p (x_assign rfl rfl) ?_
    refine AL_nil ?_
    refine AW_ret ?_
    exact ⟨rn [], ⟨⟨⟨_, rfl, vle_bool (by first | rfl | (exfalso; omega))⟩, trivial⟩, trivial, trivial, rfl⟩⟩
  try simp only [tdy] at h13
  refine AL_g rfl rfl (x_move rfl rfl) ?_
  refine AL_g rfl rfl (x_move rfl rfl) ?_
  refine AL_g rfl rfl (x_call0 rfl rfl rfl (powN_c size h3) rfl rfl) ?_
  refine AL_gb rfl rfl (x_lss rfl rfl rfl) (fun b19 h19 => ?_)
  refine AL_p (x_pickT rfl rfl rfl) ?_
  refine AL_p (x_assign rfl rfl) ?_
  refine AL_nil ?_
  refine AW_ret ?_
  cases b19
  rotate_left
  · try simp only [tdy] at h19
    exact ⟨rn [], ⟨⟨⟨_, rfl, vle_bool (by first | rfl | (exfalso; omega))⟩, trivial⟩, trivial, trivial, rfl⟩⟩
  try simp only [tdy] at h19
  exact ⟨rn [], ⟨⟨⟨_, rfl, vle_bool (by first | rfl | (exfalso; omega))⟩, trivial⟩, trivial, trivial, rfl⟩⟩

set_option maxHeartbeats 4000000 in
theorem putNumS_c0 (xs : List Int) (n : Int) (size : Nat) (h0 : 0 ≤ n) (h1 : n < (256 : Int) ^ size) (h2 : 1 ≤ size) (h3 : size ≤ 6) (hl : xs.length ≤ 1000) : AC Try.prog 75 [.one (.sl (intE .u8) xs), .one (.c (.int .i64 n)), .one (.c (.int .i64 (size : Int)))] [] (.tup [.one (.own 0), .one (.c (.bool true))]) [(0, some (.arr 5 (intE .u8) (xs ++ putB n size) true))] := by
  have hp6 := p256_in h3
  refine AC_body2 Try.func75 rfl rfl Try.ntmps75 rfl Try.results75 rfl rfl rfl ?_
  refine AW_seq ?_
  refine AW_region ?_
  refine AL_p (x_assign rfl rfl) ?_
  refine AL_p (x_assign rfl rfl) ?_
  refine AL_nil ?_
  refine AW_seq ?_
  refine AW_seq ?_
  refine AW_region ?_
  refine AL_p (x_move rfl rfl) ?_
  refine AL_p (x_move rfl rfl) ?_
  refine AL_p (x_call0 rfl rfl rfl (numT_c n size h0 h1 h2 h3) rfl rfl) ?_
  refine AL_p (x_not rfl rfl) ?_
  refine AL_p (x_move rfl rfl) ?_
  refine AL_g rfl rfl (x_move rfl rfl) ?_
  refine AL_g rfl rfl (x_len (E := 5) (n := 1) rfl rfl (by kernel_rfl)) ?_
  refine AL_g rfl rfl (x_move rfl rfl) ?_
  refine AL_g rfl rfl (x_sub rfl rfl rfl (IntWalk.i64_in _ (by omega))) ?_
  refine AL_gb rfl rfl (x_gtr rfl rfl rfl) (fun b21 h21 => ?_)
  refine AL_p (x_pickF rfl rfl rfl) ?_
  refine AL_nil ?_
  cases b21
  rotate_left
  · exfalso; simp at h21; omega
  try simp only [tdy] at h21
  refine AW_condF rfl ?_
  refine AW_skip ?_
  refine AW_seq ?_
  refine AW_region ?_
  refine AL_p (y_bslice0 (E := 5) (e := (intE .u8)) 100 rfl rfl rfl (by kernel_rfl)) ?_
  refine AL_p (x_move rfl rfl) ?_
  refine AL_p (y_append_sl 101 true (.inr intE_nofp) rfl rfl rfl rfl rfl rfl (by kernel_rfl) (by (try simp only [List.length_cons, List.length_nil]); omega)) ?_
  refine AL_p (x_assign rfl rfl) ?_
  refine AL_nil ?_
  refine AW_seq ?_
  refine AW_seq ?_
  refine AW_region ?_
  refine AL_p (x_move rfl rfl) ?_
  refine AL_p (x_sub rfl rfl rfl (IntWalk.i64_in _ (by omega))) ?_
  refine AL_p (x_assign rfl rfl) ?_
  refine AL_nil ?_
  refine AW_block ?_
  refine AW_loop2 (ι := {q : Nat // q ≤ size}) (fun p => [(8, .one (.own 101)), (9, .one (.c (.int .i64 (((p.1) : Int) - 1))))]) (fun p => [(101, some (.arr 5 (intE .u8) (xs ++ bpTo n size (p.1)) true))]) [1] [] (fun p => (p.1)) ⟨size, Nat.le_refl _⟩ (rn []) ?_ ?_
  exact ⟨by (repeat refine ⟨⟨_, rfl, by first | exact VLe.rf | exact vle_int (by dsimp only; omega)⟩, ?_⟩); exact trivial, by (repeat refine ⟨⟨_, rfl, by first | exact BLe.rf | exact BLe.box AllC.rf | exact BLe.arr (by first | (rw [bpTo_start, List.append_nil, List.nil_append]; done) | (rw [bpTo_start, List.append_nil]; done) | exact (by rw [bpTo_start, List.append_nil]; rfl) | (rw [List.append_assoc, hm]; done))⟩, ?_⟩); exact trivial, by repeat (first | exact trivial | refine ⟨⟨rfl, by first | (left; intro h; cases h) | (right; rfl), by first | exact (fun _ h => ⟨_, h⟩) | exact (fun _ _ => ⟨_, rfl⟩)⟩, ?_⟩), rfl⟩
  rintro ⟨j, hinv⟩
  dsimp only
  have hj := hinv
  refine AW_seq ?_
  refine AW_seq ?_
  refine AW_region ?_
  refine AL_p (x_move rfl rfl) ?_
  refine AL_b (x_geq rfl rfl rfl) (fun b29 h29 => ?_)
  refine AL_nil ?_
  cases b29
  · try simp only [tdy] at h29
    refine AW_condF rfl ?_
    refine AW_exit (BQ_hit ?_)
    refine AW_seq ?_
    refine AW_region ?_
    refine AL_p (x_move rfl rfl) ?_
    refine AL_p (x_assign rfl rfl) ?_
    refine AL_p (x_assign rfl rfl) ?_
    refine AL_nil ?_
    refine AW_ret ?_
    exact ⟨rn [(0, 101)], ⟨⟨⟨_, rfl, VLe.rf⟩, ⟨_, rfl, VLe.rf⟩, trivial⟩, ⟨⟨_, rfl, BLe.arr (by unfold putB; rw [show j = 0 by omega])⟩, trivial⟩, trivial, rfl⟩⟩
  try simp only [tdy] at h29
  have hm : bpTo n size j ++ [n / 256 ^ (j - 1) % 256] = bpTo n size (j - 1) := by have hm := bpTo_more (n := n) (size := size) (j := j - 1) (by omega); rwa [show j - 1 + 1 = j by omega] at hm
  refine AW_condT rfl ?_
  refine AW_skip ?_
  refine AW_seq ?_
  refine AW_block ?_
  refine AW_seq ?_
  refine AW_region ?_
  refine AL_p (x_move rfl rfl) ?_
  refine AL_p (x_assign rfl rfl) ?_
  refine AL_nil ?_
  refine AW_seq ?_
  refine AW_seq ?_
  refine AW_region ?_
  refine AL_p (x_assign rfl rfl) ?_
  refine AL_nil ?_
  refine AW_block ?_
  refine AW_loop2 (ι := {q : Nat // q ≤ j - 1}) (fun p => [(10, .one (.c (.int .i64 (n / 256 ^ (p.1))))), (11, .one (.c (.int .i64 ((p.1) : Int))))]) (fun p => []) [1, 8, 9] [101] (fun p => j - 1 - (p.1)) ⟨0, by omega⟩ (rn []) ?_ ?_
  exact ⟨by (repeat refine ⟨⟨_, rfl, by first | exact VLe.rf | exact vle_int (by dsimp only; omega)⟩, ?_⟩); exact trivial, by (repeat refine ⟨⟨_, rfl, by first | exact BLe.rf | exact BLe.box AllC.rf | exact BLe.arr (by exact rfl)⟩, ?_⟩); exact trivial, by repeat (first | exact trivial | refine ⟨⟨rfl, by first | (left; intro h; cases h) | (right; rfl), by first | exact (fun _ h => ⟨_, h⟩) | exact (fun _ _ => ⟨_, rfl⟩)⟩, ?_⟩), rfl⟩
  rintro ⟨m, hinv⟩
  dsimp only
  have hm2 := hinv
  refine AW_seq ?_
  refine AW_seq ?_
  refine AW_region ?_
  refine AL_p (x_move rfl rfl) ?_
  refine AL_p (x_move rfl rfl) ?_
  refine AL_b (x_lss rfl rfl rfl) (fun b35 h35 => ?_)
  refine AL_nil ?_
  cases b35
  rotate_left
  · try simp only [tdy] at h35
    refine AW_condT rfl ?_
    refine AW_skip ?_
    refine AW_seq ?_
    refine AW_block ?_
    refine AW_region ?_
    refine AL_p (x_move rfl rfl) ?_
    refine AL_p (x_quo rfl rfl rfl (r := n / 256 ^ (m + 1)) (by omega) (quo256 h0 (by omega))) ?_
    refine AL_p (x_assign rfl rfl) ?_
    refine AL_nil ?_
    refine AW_region ?_
    refine AL_p (x_move rfl rfl) ?_
    refine AL_p (x_add rfl rfl rfl (IntWalk.i64_in _ (by omega))) ?_
    refine AL_p (x_assign rfl rfl) ?_
    refine AL_nil ?_
    refine ⟨⟨m + 1, by omega⟩, rn [], ?_, by dsimp only; omega⟩
    exact ⟨by (repeat refine ⟨⟨_, rfl, by first | exact VLe.rf | exact vle_int (by dsimp only; omega)⟩, ?_⟩); exact trivial, by (repeat refine ⟨⟨_, rfl, by first | exact BLe.rf | exact BLe.box AllC.rf | exact BLe.arr (by exact rfl)⟩, ?_⟩); exact trivial, by repeat (first | exact trivial | refine ⟨⟨rfl, by first | (left; intro h; cases h) | (right; rfl), by first | exact (fun _ h => ⟨_, h⟩) | exact (fun _ _ => ⟨_, rfl⟩)⟩, ?_⟩), rfl⟩
  try simp only [tdy] at h35
  refine AW_condF rfl ?_
  refine AW_exit (BQ_hit ?_)
  refine AW_region ?_
  refine AL_p (x_move rfl rfl) ?_
  refine AL_p (x_move rfl rfl) ?_
  refine AL_p (x_rem rfl rfl rfl (r := n / 256 ^ (j - 1) % 256) (by omega) (by rw [show j - 1 = m by omega]; exact rem256 h0) (wf64i (mod256_in _).1 (by have := mod256_in (n / 256 ^ (j - 1)); omega))) ?_
  refine AL_p (x_conv (k' := .u8) rfl rfl (by kernel_rfl) (wrap8_id (mod256_in _).1 (mod256_in _).2)) ?_
  refine AL_p (y_bslice (E := 5) (e := (intE .u8)) [.tmp 43] ([n / 256 ^ (j - 1) % 256]) 102 rfl rfl rfl rfl rfl rfl rfl rfl FitL.rf rfl rfl rfl rfl rfl rfl (by kernel_rfl)) ?_
  refine AL_p (y_append 103 rfl rfl rfl rfl rfl rfl rfl rfl (by kernel_rfl) (by have := bpTo_len (n := n) (size := size) (j := j); simp only [List.length_append, List.length_cons, List.length_nil]; omega)) ?_
  refine AL_p (x_assign rfl rfl) ?_
  refine AL_nil ?_
  refine AW_region ?_
  refine AL_p (x_move rfl rfl) ?_
  refine AL_p (x_sub rfl rfl rfl (IntWalk.i64_in _ (by omega))) ?_
  refine AL_p (x_assign rfl rfl) ?_
  refine AL_nil ?_
  refine ⟨⟨j - 1, by omega⟩, rn [(101, 103)], ?_, by dsimp only; omega⟩
  exact ⟨by (repeat refine ⟨⟨_, rfl, by first | exact VLe.rf | exact vle_int (by dsimp only; omega)⟩, ?_⟩); exact trivial, by (repeat refine ⟨⟨_, rfl, by first | exact BLe.rf | exact BLe.box AllC.rf | exact BLe.arr (by first | (rw [bpTo_start, List.append_nil, List.nil_append]; done) | (rw [bpTo_start, List.append_nil]; done) | exact (by rw [bpTo_start, List.append_nil]; rfl) | (rw [List.append_assoc, hm]; done))⟩, ?_⟩); exact trivial, by repeat (first | exact trivial | refine ⟨⟨rfl, by first | (left; intro h; cases h) | (right; rfl), by first | exact (fun _ h => ⟨_, h⟩) | exact (fun _ _ => ⟨_, rfl⟩)⟩, ?_⟩), rfl⟩
theorem putNumS_c (xs : List Int) (n : Int) (size : Nat) (h0 : 0 ≤ n) (h1 : n < (256 : Int) ^ size) (h2 : 1 ≤ size) (h3 : size ≤ 6) (hl : xs.length ≤ 1000) (k : Nat) : AC Try.prog 75 [.one (.sl (intE .u8) xs), .one (.c (.int .i64 n)), .one (.c (.int .i64 (size : Int)))] [] (.tup [.one (.own k), .one (.c (.bool true))]) [(k, some (.arr 5 (intE .u8) (xs ++ putB n size) true))] := AC.at (putNumS_c0 xs n size h0 h1 h2 h3 hl) k

set_option maxHeartbeats 4000000 in
theorem bodyS_c0 (m : Msgt) (hok : msgB m = true) : AC Try.prog 74 [.agg (msgC m)] [] (.one (.own 0)) [(0, some (.arr 5 (intE .u8) (bodyB m) true))] := by
  obtain ⟨hr, hA, hF, hN⟩ := msgB_in hok
  have hE := msgB_ep hok
  refine AC_body1 Try.func74 rfl rfl Try.ntmps74 rfl Try.results74 ?_
  refine AW_aggint 0 5 rfl rfl (fun hi0_5 => ?_)
  refine AW_aggmax 0 5 rfl rfl (fun hm0_5 => ?_)
  refine AW_aggmax 0 6 rfl rfl (fun hm0_6 => ?_)
  refine AW_aggmax 0 7 rfl rfl (fun hm0_7 => ?_)
  refine AW_aggmax 0 9 rfl rfl (fun hm0_9 => ?_)
  refine AW_seq ?_
  refine AW_region ?_
  refine AL_p (x_box 100 rfl rfl rfl rfl rfl rfl rfl) ?_
  refine AL_p (x_assign rfl rfl) ?_
  refine AL_nil ?_
  refine AW_seq ?_
  refine AW_region ?_
  refine AL_p (y_bslice0 (E := 5) (e := (intE .u8)) 101 rfl rfl rfl (by kernel_rfl)) ?_
  refine AL_p (x_assign rfl rfl) ?_
  refine AL_nil ?_
  refine AW_seq ?_
  refine AW_seq ?_
  refine AW_region ?_
  refine AL_p (x_field (off := 0) (o' := 0) rfl rfl rfl (by kernel_rfl) rfl) ?_
  refine AL_p (x_load1 rfl rfl rfl (by kernel_rfl) rfl) ?_
  refine AL_b (x_eql rfl rfl rfl) (fun b11 h11 => ?_)
  refine AL_p (x_move rfl rfl) ?_
  cases b11
  rotate_left
  · try simp only [tdy] at h11
    refine AL_o rfl rfl rfl rfl ?_
    refine AL_o rfl rfl rfl rfl ?_
    refine AL_o rfl rfl rfl rfl ?_
    refine AL_p (x_pickT rfl rfl rfl) ?_
    refine AL_nil ?_
    refine AW_condT rfl ?_
    refine AW_region ?_
    refine AL_p (x_move rfl rfl) ?_
    refine AL_p (x_field (off := 3) (o' := 3) rfl rfl rfl (by kernel_rfl) rfl) ?_
    refine AL_p (x_load1 rfl rfl rfl (by kernel_rfl) rfl) ?_
    refine AL_p (x_callR rfl rfl rfl (putNumS_c _ m.epoch 4 (by omega) (by have e : (256 : Int) ^ 4 = 4294967296 := rfl; omega) (by omega) (by omega) (by (try simp only [List.length_append, List.length_cons, List.length_nil, putB_len, pairTo_len]); omega) 102) rfl AllV.rf rfl rfl rfl rfl rfl) ?_
    refine AL_p (x_move rfl rfl) ?_
    refine AL_p (x_extract rfl rfl rfl) ?_
    refine AL_p (x_extract rfl rfl rfl) ?_
    refine AL_p (x_assign rfl rfl) ?_
    refine AL_nil ?_
    refine AW_seq ?_
    refine AW_seq ?_
    refine AW_region ?_
    refine AL_p (x_field (off := 0) (o' := 0) rfl rfl rfl (by kernel_rfl) rfl) ?_
    refine AL_p (x_load1 rfl rfl rfl (by kernel_rfl) rfl) ?_
    refine AL_b (x_eql rfl rfl rfl) (fun b26 h26 => ?_)
    refine AL_nil ?_
    cases b26
    · try simp only [tdy] at h26
      refine AW_condF rfl ?_
      refine AW_skip ?_
      refine AW_seq ?_
      refine AW_seq ?_
      refine AW_region ?_
      refine AL_p (x_field (off := 0) (o' := 0) rfl rfl rfl (by kernel_rfl) rfl) ?_
      refine AL_p (x_load1 rfl rfl rfl (by kernel_rfl) rfl) ?_
      refine AL_b (x_eql rfl rfl rfl) (fun b99 h99 => ?_)
      refine AL_nil ?_
      cases b99
      · try simp only [tdy] at h99
        refine AW_condF rfl ?_
        refine AW_skip ?_
        refine AW_seq ?_
        refine AW_region ?_
        refine AL_p (x_move rfl rfl) ?_
        refine AL_p (x_assign rfl rfl) ?_
        refine AL_nil ?_
        refine AW_ret ?_
        exact ⟨rn [(0, 102)], ⟨⟨⟨_, rfl, VLe.rf⟩, trivial⟩, ⟨⟨_, rfl, BLe.arr (by first | (rw [bodyB_add (by omega)]; simp only [flatTo_all (f := actBytes) (xs := m.acts) (k := j) (by omega), List.append_assoc, List.nil_append]; done) | (rw [bodyB_flip (by omega)]; done) | (rw [bodyB_flip (by omega)]; simp only [List.append_assoc, List.nil_append]; done) | (rw [bodyB_note (by omega)]; simp only [headBy, flatTo_all (f := fun n => putB n 6) (xs := m.head.v) (k := i) (by omega), List.append_assoc, List.nil_append]; done) | (rw [bodyB_note (by omega), flatTo_all (f := fun n => putB n 6) (xs := m.head.v) (k := i) (by omega)]; simp [headBy, handB, *]; done) | (rw [bodyB_none (by omega) (by omega) (by omega)]; done) | (rw [bodyB_none (by omega) (by omega) (by omega)]; simp only [List.append_nil]; done) | (exfalso; omega))⟩, trivial⟩, trivial, rfl⟩⟩
      try simp only [tdy] at h99
      have hN2 := hN (by omega)
      have hN8 := eight_8 hN2
      have hhf := head_len (l := m.head.v)
      refine AW_condT rfl ?_
      refine AW_seq ?_
      refine AW_seq ?_
      refine AW_region ?_
      refine AL_p (x_field (off := 8) (o' := 8) rfl rfl rfl (by kernel_rfl) rfl) ?_
      refine AL_b (x_load1 rfl rfl rfl (by kernel_rfl) rfl) (fun b101 h101 => ?_)
      refine AL_nil ?_
      cases b101
      rotate_left
      · try simp only [tdy] at h101
        refine AW_condT rfl ?_
        refine AW_region ?_
        refine AL_p (x_move rfl rfl) ?_
        refine AL_p (y_bslice (E := 5) (e := (intE .u8)) [.const (.int .u8 (1))] ([1]) 111 rfl rfl rfl rfl rfl rfl rfl rfl FitL.rf rfl rfl rfl rfl rfl rfl (by kernel_rfl)) ?_
        refine AL_p (y_append 112 rfl rfl rfl rfl rfl rfl rfl rfl (by kernel_rfl) (by (try simp only [List.length_append, List.length_cons, List.length_nil, putB_len, pairTo_len]); omega)) ?_
        refine AL_p (x_assign rfl rfl) ?_
        refine AL_nil ?_
        refine AW_seq ?_
        refine AW_region ?_
        refine AL_p (x_assign rfl rfl) ?_
        refine AL_nil ?_
        refine AW_block ?_
        refine AW_loop2 (ι := {q : Nat // q ≤ m.head.v.length}) (fun p => [(3, .one (.own 112)), (7, .one (.c (.int .i64 ((p.1) : Int))))]) (fun p => [(112, some (.arr 5 (intE .u8) ([handB m.hand] ++ flatTo (fun n => putB n 6) m.head.v (p.1)) true))]) [1] [100, 101] (fun p => m.head.v.length - (p.1)) ⟨0, by omega⟩ (rn []) ?_ ?_
        exact ⟨by (repeat refine ⟨⟨_, rfl, by first | exact VLe.rf | exact vle_int (by dsimp only; omega)⟩, ?_⟩); exact trivial, by (repeat refine ⟨⟨_, rfl, by first | exact BLe.rf | exact BLe.box AllC.rf | exact BLe.arr (by first | (rw [flatTo_zero, List.append_nil]; simp [handB, *]; done) | (rw [← flatTo_more (f := fun n => putB n 6) (k := i) (by omega)]; simp only [List.append_assoc]; done) | (exfalso; omega))⟩, ?_⟩); exact trivial, by repeat (first | exact trivial | refine ⟨⟨rfl, by first | (left; intro h; cases h) | (right; rfl), by first | exact (fun _ h => ⟨_, h⟩) | exact (fun _ _ => ⟨_, rfl⟩)⟩, ?_⟩), rfl⟩
        rintro ⟨i, hinv⟩
        dsimp only
        have hi := hinv
        refine AW_seq ?_
        refine AW_seq ?_
        refine AW_region ?_
        refine AL_p (x_move rfl rfl) ?_
        refine AL_b (x_lss rfl rfl rfl) (fun b109 h109 => ?_)
        refine AL_nil ?_
        cases b109
        · try simp only [tdy] at h109
          refine AW_condF rfl ?_
          refine AW_exit (BQ_hit ?_)
          refine AW_seq ?_
          refine AW_region ?_
          refine AL_p (x_move rfl rfl) ?_
          refine AL_p (x_assign rfl rfl) ?_
          refine AL_nil ?_
          refine AW_ret ?_
          exact ⟨rn [(0, 112)], ⟨⟨⟨_, rfl, VLe.rf⟩, trivial⟩, ⟨⟨_, rfl, BLe.arr (by first | (rw [bodyB_add (by omega)]; simp only [flatTo_all (f := actBytes) (xs := m.acts) (k := j) (by omega), List.append_assoc, List.nil_append]; done) | (rw [bodyB_flip (by omega)]; done) | (rw [bodyB_flip (by omega)]; simp only [List.append_assoc, List.nil_append]; done) | (rw [bodyB_note (by omega)]; simp only [headBy, flatTo_all (f := fun n => putB n 6) (xs := m.head.v) (k := i) (by omega), List.append_assoc, List.nil_append]; done) | (rw [bodyB_note (by omega), flatTo_all (f := fun n => putB n 6) (xs := m.head.v) (k := i) (by omega)]; simp [headBy, handB, *]; done) | (rw [bodyB_none (by omega) (by omega) (by omega)]; done) | (rw [bodyB_none (by omega) (by omega) (by omega)]; simp only [List.append_nil]; done) | (exfalso; omega))⟩, trivial⟩, trivial, rfl⟩⟩
        try simp only [tdy] at h109
        have hf8 := fits48 (eight_get hN2 (k := i) (by omega))
        have hhi := hhf i
        refine AW_condT rfl ?_
        refine AW_skip ?_
        refine AW_seq ?_
        refine AW_block ?_
        refine AW_region ?_
        refine AL_p (x_move rfl rfl) ?_
        refine AL_p (x_field (off := 9) (o' := 9) rfl rfl rfl (by kernel_rfl) rfl) ?_
        refine AL_p (x_field (off := 0) (o' := 9) rfl rfl rfl (by kernel_rfl) rfl) ?_
        refine AL_p (x_load1 rfl rfl rfl (by kernel_rfl) rfl) ?_
        refine AL_p (x_move rfl rfl) ?_
        refine AL_p (x_index (E := 3) (n := 1) rfl rfl rfl (by kernel_rfl) rfl (k := i) (by omega) (by omega)) ?_
        refine AL_p (x_eload1 rfl rfl (by kernel_rfl) rfl) ?_
        refine AL_p (x_callR rfl rfl rfl (putNumS_c _ (m.head.v[i]'(by omega)) 6 (by omega) (by have e : (256 : Int) ^ 6 = 281474976710656 := rfl; omega) (by omega) (by omega) (by (try simp only [List.length_append, List.length_cons, List.length_nil, putB_len, pairTo_len]); omega) 113) rfl AllV.rf rfl rfl rfl rfl rfl) ?_
        refine AL_p (x_move rfl rfl) ?_
        refine AL_p (x_extract rfl rfl rfl) ?_
        refine AL_p (x_extract rfl rfl rfl) ?_
        refine AL_p (x_assign rfl rfl) ?_
        refine AL_nil ?_
        refine AW_region ?_
        refine AL_p (x_move rfl rfl) ?_
        refine AL_p (x_add rfl rfl rfl (IntWalk.i64_in _ (by omega))) ?_
        refine AL_p (x_assign rfl rfl) ?_
        refine AL_nil ?_
        refine ⟨⟨i + 1, by omega⟩, rn [(112, 113)], ?_, by dsimp only; omega⟩
        exact ⟨by (repeat refine ⟨⟨_, rfl, by first | exact VLe.rf | exact vle_int (by dsimp only; omega)⟩, ?_⟩); exact trivial, by (repeat refine ⟨⟨_, rfl, by first | exact BLe.rf | exact BLe.box AllC.rf | exact BLe.arr (by first | (rw [flatTo_zero, List.append_nil]; simp [handB, *]; done) | (rw [← flatTo_more (f := fun n => putB n 6) (k := i) (by omega)]; simp only [List.append_assoc]; done) | (exfalso; omega))⟩, ?_⟩); exact trivial, by repeat (first | exact trivial | refine ⟨⟨rfl, by first | (left; intro h; cases h) | (right; rfl), by first | exact (fun _ h => ⟨_, h⟩) | exact (fun _ _ => ⟨_, rfl⟩)⟩, ?_⟩), rfl⟩
      try simp only [tdy] at h101
      refine AW_condF rfl ?_
      refine AW_region ?_
      refine AL_p (x_move rfl rfl) ?_
      refine AL_p (y_bslice (E := 5) (e := (intE .u8)) [.const (.int .u8 (0))] ([0]) 114 rfl rfl rfl rfl rfl rfl rfl rfl FitL.rf rfl rfl rfl rfl rfl rfl (by kernel_rfl)) ?_
      refine AL_p (y_append 115 rfl rfl rfl rfl rfl rfl rfl rfl (by kernel_rfl) (by (try simp only [List.length_append, List.length_cons, List.length_nil, putB_len, pairTo_len]); omega)) ?_
      refine AL_p (x_assign rfl rfl) ?_
      refine AL_nil ?_
      refine AW_seq ?_
      refine AW_region ?_
      refine AL_p (x_assign rfl rfl) ?_
      refine AL_nil ?_
      refine AW_block ?_
      refine AW_loop2 (ι := {q : Nat // q ≤ m.head.v.length}) (fun p => [(3, .one (.own 115)), (7, .one (.c (.int .i64 ((p.1) : Int))))]) (fun p => [(115, some (.arr 5 (intE .u8) ([handB m.hand] ++ flatTo (fun n => putB n 6) m.head.v (p.1)) true))]) [1] [100, 101] (fun p => m.head.v.length - (p.1)) ⟨0, by omega⟩ (rn []) ?_ ?_
      exact ⟨by (repeat refine ⟨⟨_, rfl, by first | exact VLe.rf | exact vle_int (by dsimp only; omega)⟩, ?_⟩); exact trivial, by (repeat refine ⟨⟨_, rfl, by first | exact BLe.rf | exact BLe.box AllC.rf | exact BLe.arr (by first | (rw [flatTo_zero, List.append_nil]; simp [handB, *]; done) | (rw [← flatTo_more (f := fun n => putB n 6) (k := i) (by omega)]; simp only [List.append_assoc]; done) | (exfalso; omega))⟩, ?_⟩); exact trivial, by repeat (first | exact trivial | refine ⟨⟨rfl, by first | (left; intro h; cases h) | (right; rfl), by first | exact (fun _ h => ⟨_, h⟩) | exact (fun _ _ => ⟨_, rfl⟩)⟩, ?_⟩), rfl⟩
      rintro ⟨i, hinv⟩
      dsimp only
      have hi := hinv
      refine AW_seq ?_
      refine AW_seq ?_
      refine AW_region ?_
      refine AL_p (x_move rfl rfl) ?_
      refine AL_b (x_lss rfl rfl rfl) (fun b109 h109 => ?_)
      refine AL_nil ?_
      cases b109
      · try simp only [tdy] at h109
        refine AW_condF rfl ?_
        refine AW_exit (BQ_hit ?_)
        refine AW_seq ?_
        refine AW_region ?_
        refine AL_p (x_move rfl rfl) ?_
        refine AL_p (x_assign rfl rfl) ?_
        refine AL_nil ?_
        refine AW_ret ?_
        exact ⟨rn [(0, 115)], ⟨⟨⟨_, rfl, VLe.rf⟩, trivial⟩, ⟨⟨_, rfl, BLe.arr (by first | (rw [bodyB_add (by omega)]; simp only [flatTo_all (f := actBytes) (xs := m.acts) (k := j) (by omega), List.append_assoc, List.nil_append]; done) | (rw [bodyB_flip (by omega)]; done) | (rw [bodyB_flip (by omega)]; simp only [List.append_assoc, List.nil_append]; done) | (rw [bodyB_note (by omega)]; simp only [headBy, flatTo_all (f := fun n => putB n 6) (xs := m.head.v) (k := i) (by omega), List.append_assoc, List.nil_append]; done) | (rw [bodyB_note (by omega), flatTo_all (f := fun n => putB n 6) (xs := m.head.v) (k := i) (by omega)]; simp [headBy, handB, *]; done) | (rw [bodyB_none (by omega) (by omega) (by omega)]; done) | (rw [bodyB_none (by omega) (by omega) (by omega)]; simp only [List.append_nil]; done) | (exfalso; omega))⟩, trivial⟩, trivial, rfl⟩⟩
      try simp only [tdy] at h109
      have hf8 := fits48 (eight_get hN2 (k := i) (by omega))
      have hhi := hhf i
      refine AW_condT rfl ?_
      refine AW_skip ?_
      refine AW_seq ?_
      refine AW_block ?_
      refine AW_region ?_
      refine AL_p (x_move rfl rfl) ?_
      refine AL_p (x_field (off := 9) (o' := 9) rfl rfl rfl (by kernel_rfl) rfl) ?_
      refine AL_p (x_field (off := 0) (o' := 9) rfl rfl rfl (by kernel_rfl) rfl) ?_
      refine AL_p (x_load1 rfl rfl rfl (by kernel_rfl) rfl) ?_
      refine AL_p (x_move rfl rfl) ?_
      refine AL_p (x_index (E := 3) (n := 1) rfl rfl rfl (by kernel_rfl) rfl (k := i) (by omega) (by omega)) ?_
      refine AL_p (x_eload1 rfl rfl (by kernel_rfl) rfl) ?_
      refine AL_p (x_callR rfl rfl rfl (putNumS_c _ (m.head.v[i]'(by omega)) 6 (by omega) (by have e : (256 : Int) ^ 6 = 281474976710656 := rfl; omega) (by omega) (by omega) (by (try simp only [List.length_append, List.length_cons, List.length_nil, putB_len, pairTo_len]); omega) 113) rfl AllV.rf rfl rfl rfl rfl rfl) ?_
      refine AL_p (x_move rfl rfl) ?_
      refine AL_p (x_extract rfl rfl rfl) ?_
      refine AL_p (x_extract rfl rfl rfl) ?_
      refine AL_p (x_assign rfl rfl) ?_
      refine AL_nil ?_
      refine AW_region ?_
      refine AL_p (x_move rfl rfl) ?_
      refine AL_p (x_add rfl rfl rfl (IntWalk.i64_in _ (by omega))) ?_
      refine AL_p (x_assign rfl rfl) ?_
      refine AL_nil ?_
      refine ⟨⟨i + 1, by omega⟩, rn [(115, 113)], ?_, by dsimp only; omega⟩
      exact ⟨by (repeat refine ⟨⟨_, rfl, by first | exact VLe.rf | exact vle_int (by dsimp only; omega)⟩, ?_⟩); exact trivial, by (repeat refine ⟨⟨_, rfl, by first | exact BLe.rf | exact BLe.box AllC.rf | exact BLe.arr (by first | (rw [flatTo_zero, List.append_nil]; simp [handB, *]; done) | (rw [← flatTo_more (f := fun n => putB n 6) (k := i) (by omega)]; simp only [List.append_assoc]; done) | (exfalso; omega))⟩, ?_⟩); exact trivial, by repeat (first | exact trivial | refine ⟨⟨rfl, by first | (left; intro h; cases h) | (right; rfl), by first | exact (fun _ h => ⟨_, h⟩) | exact (fun _ _ => ⟨_, rfl⟩)⟩, ?_⟩), rfl⟩
    try simp only [tdy] at h26
    have hA2 := hA (by omega)
    have hmat := hA2.2.1
    have hact := hA2.2.2
    have hA3 := hA2.1
    have ha12 := actsB_12 hact
    have hpl : putB (m.acts.length : Int) 1 = [(m.acts.length : Int)] := putB_one (by omega) (by omega)
    have haf := acts_len (l := m.acts)
    refine AW_condT rfl ?_
    refine AW_seq ?_
    refine AW_region ?_
    refine AL_p (x_move rfl rfl) ?_
    refine AL_p (x_field (off := 4) (o' := 4) rfl rfl rfl (by kernel_rfl) rfl) ?_
    refine AL_p (x_load1 rfl rfl rfl (by kernel_rfl) rfl) ?_
    refine AL_p (x_callR rfl rfl rfl (putNumS_c _ m.prio 2 (by omega) (by have e : (256 : Int) ^ 2 = 65536 := rfl; omega) (by omega) (by omega) (by (try simp only [List.length_append, List.length_cons, List.length_nil, putB_len, pairTo_len]); omega) 103) rfl AllV.rf rfl rfl rfl rfl rfl) ?_
    refine AL_p (x_move rfl rfl) ?_
    refine AL_p (x_extract rfl rfl rfl) ?_
    refine AL_p (x_extract rfl rfl rfl) ?_
    refine AL_p (x_assign rfl rfl) ?_
    refine AL_nil ?_
    refine AW_seq ?_
    refine AW_seq ?_
    refine AW_region ?_
    refine AL_p (x_assign rfl rfl) ?_
    refine AL_nil ?_
    refine AW_block ?_
    refine AW_loop2 (ι := {q : Nat // q ≤ 8}) (fun p => [(3, .one (.own 103)), (4, .one (.c (.int .i64 ((p.1) : Int))))]) (fun p => [(103, some (.arr 5 (intE .u8) (putB m.epoch 4 ++ putB m.prio 2 ++ pairTo m.mat (p.1)) true))]) [1] [100, 101, 102] (fun p => 8 - (p.1)) ⟨0, by omega⟩ (rn []) ?_ ?_
    exact ⟨by (repeat refine ⟨⟨_, rfl, by first | exact VLe.rf | exact vle_int (by dsimp only; omega)⟩, ?_⟩); exact trivial, by (repeat refine ⟨⟨_, rfl, by first | exact BLe.rf | exact BLe.box AllC.rf | exact BLe.arr (by first | (rw [pairTo_zero, List.append_nil]; done) | (rw [← pairTo_more hv1 hm1]; simp only [List.append_assoc]; done) | (exfalso; omega))⟩, ?_⟩); exact trivial, by repeat (first | exact trivial | refine ⟨⟨rfl, by first | (left; intro h; cases h) | (right; rfl), by first | exact (fun _ h => ⟨_, h⟩) | exact (fun _ _ => ⟨_, rfl⟩)⟩, ?_⟩), rfl⟩
    rintro ⟨k, hinv⟩
    dsimp only
    have hk := hinv
    refine AW_seq ?_
    refine AW_seq ?_
    refine AW_region ?_
    refine AL_p (x_move rfl rfl) ?_
    refine AL_b (x_lss rfl rfl rfl) (fun b35 h35 => ?_)
    refine AL_nil ?_
    cases b35
    rotate_left
    · try simp only [tdy] at h35
      obtain ⟨hv1, hm1, hvr, hmr⟩ := matchB_get hmat (fun x hx => (hi0_5 x hx).2) (k := k) (by omega)
      refine AW_condT rfl ?_
      refine AW_skip ?_
      refine AW_seq ?_
      refine AW_block ?_
      refine AW_seq ?_
      refine AW_region ?_
      refine AL_p (x_move rfl rfl) ?_
      refine AL_p (x_field (off := 5) (o' := 5) rfl rfl rfl (by kernel_rfl) rfl) ?_
      refine AL_p (x_field (off := 0) (o' := 5) rfl rfl rfl (by kernel_rfl) rfl) ?_
      refine AL_p (x_load1 rfl rfl rfl (by kernel_rfl) rfl) ?_
      refine AL_p (x_move rfl rfl) ?_
      refine AL_p (x_index (E := 3) (n := 1) rfl rfl rfl (by kernel_rfl) rfl (k := k) (by omega) (by omega)) ?_
      refine AL_p (x_eload1 rfl rfl (by kernel_rfl) rfl) ?_
      refine AL_p (x_callR rfl rfl rfl (putNumS_c _ (m.mat.v[k]'hv1) 6 (by omega) (by have e : (256 : Int) ^ 6 = 281474976710656 := rfl; omega) (by omega) (by omega) (by (try simp only [List.length_append, List.length_cons, List.length_nil, putB_len, pairTo_len]); omega) 104) rfl AllV.rf rfl rfl rfl rfl rfl) ?_
      refine AL_p (x_move rfl rfl) ?_
      refine AL_p (x_extract rfl rfl rfl) ?_
      refine AL_p (x_extract rfl rfl rfl) ?_
      refine AL_p (x_assign rfl rfl) ?_
      refine AL_nil ?_
      refine AW_region ?_
      refine AL_p (x_move rfl rfl) ?_
      refine AL_p (x_field (off := 5) (o' := 5) rfl rfl rfl (by kernel_rfl) rfl) ?_
      refine AL_p (x_field (off := 1) (o' := 6) rfl rfl rfl (by kernel_rfl) rfl) ?_
      refine AL_p (x_load1 rfl rfl rfl (by kernel_rfl) rfl) ?_
      refine AL_p (x_move rfl rfl) ?_
      refine AL_p (x_index (E := 3) (n := 1) rfl rfl rfl (by kernel_rfl) rfl (k := k) (by omega) (by omega)) ?_
      refine AL_p (x_eload1 rfl rfl (by kernel_rfl) rfl) ?_
      refine AL_p (x_callR rfl rfl rfl (putNumS_c _ (m.mat.m[k]'hm1) 6 (by omega) (by have e : (256 : Int) ^ 6 = 281474976710656 := rfl; omega) (by omega) (by omega) (by (try simp only [List.length_append, List.length_cons, List.length_nil, putB_len, pairTo_len]); omega) 105) rfl AllV.rf rfl rfl rfl rfl rfl) ?_
      refine AL_p (x_move rfl rfl) ?_
      refine AL_p (x_extract rfl rfl rfl) ?_
      refine AL_p (x_extract rfl rfl rfl) ?_
      refine AL_p (x_assign rfl rfl) ?_
      refine AL_nil ?_
      refine AW_region ?_
      refine AL_p (x_move rfl rfl) ?_
      refine AL_p (x_add rfl rfl rfl (IntWalk.i64_in _ (by omega))) ?_
      refine AL_p (x_assign rfl rfl) ?_
      refine AL_nil ?_
      refine ⟨⟨k + 1, by omega⟩, rn [(103, 105)], ?_, by dsimp only; omega⟩
      exact ⟨by (repeat refine ⟨⟨_, rfl, by first | exact VLe.rf | exact vle_int (by dsimp only; omega)⟩, ?_⟩); exact trivial, by (repeat refine ⟨⟨_, rfl, by first | exact BLe.rf | exact BLe.box AllC.rf | exact BLe.arr (by first | (rw [pairTo_zero, List.append_nil]; done) | (rw [← pairTo_more hv1 hm1]; simp only [List.append_assoc]; done) | (exfalso; omega))⟩, ?_⟩); exact trivial, by repeat (first | exact trivial | refine ⟨⟨rfl, by first | (left; intro h; cases h) | (right; rfl), by first | exact (fun _ h => ⟨_, h⟩) | exact (fun _ _ => ⟨_, rfl⟩)⟩, ?_⟩), rfl⟩
    try simp only [tdy] at h35
    obtain rfl : k = 8 := by omega
    refine AW_condF rfl ?_
    refine AW_exit (BQ_hit ?_)
    refine AW_seq ?_
    refine AW_region ?_
    refine AL_p (x_move rfl rfl) ?_
    refine AL_p (x_field (off := 7) (o' := 7) rfl rfl rfl (by kernel_rfl) rfl) ?_
    refine AL_p (x_load1 rfl rfl rfl (by kernel_rfl) rfl) ?_
    refine AL_p (x_len (E := 114) (n := 3) rfl rfl (by kernel_rfl)) ?_
    refine AL_p (x_callR rfl rfl rfl (putNumS_c _ (m.acts.length : Int) 1 (by omega) (by have e : (256 : Int) ^ 1 = 256 := rfl; omega) (by omega) (by omega) (by (try simp only [List.length_append, List.length_cons, List.length_nil, putB_len, pairTo_len]); omega) 106) rfl AllV.rf rfl rfl rfl rfl rfl) ?_
    refine AL_p (x_move rfl rfl) ?_
    refine AL_p (x_extract rfl rfl rfl) ?_
    refine AL_p (x_extract rfl rfl rfl) ?_
    refine AL_p (x_assign rfl rfl) ?_
    refine AL_nil ?_
    refine AW_seq ?_
    refine AW_region ?_
    refine AL_p (x_field (off := 7) (o' := 7) rfl rfl rfl (by kernel_rfl) rfl) ?_
    refine AL_p (x_load1 rfl rfl rfl (by kernel_rfl) rfl) ?_
    refine AL_p (x_len (E := 114) (n := 3) rfl rfl (by kernel_rfl)) ?_
    refine AL_p (x_move rfl rfl) ?_
    refine AL_nil ?_
    refine AW_block ?_
    refine AW_loop2 (ι := {q : Nat // q ≤ m.acts.length}) (fun p => [(3, .one (.own 106)), (71, .one (.c (.int .i64 ((p.1) : Int))))]) (fun p => [(106, some (.arr 5 (intE .u8) (putB m.epoch 4 ++ putB m.prio 2 ++ pairTo m.mat 8 ++ [(m.acts.length : Int)] ++ flatTo actBytes m.acts (p.1)) true))]) [1, 69, 70] [100, 101, 102, 103] (fun p => m.acts.length - (p.1)) ⟨0, by omega⟩ (rn []) ?_ ?_
    exact ⟨by (repeat refine ⟨⟨_, rfl, by first | exact VLe.rf | exact vle_int (by dsimp only; omega)⟩, ?_⟩); exact trivial, by (repeat refine ⟨⟨_, rfl, by first | exact BLe.rf | exact BLe.box AllC.rf | exact BLe.arr (by first | (rw [flatTo_zero, List.append_nil]; done) | (rw [hpl, flatTo_zero, List.append_nil]; done) | (rw [← flatTo_more (f := actBytes) (k := j) (by omega)]; simp only [actBytes, hp1, hp2, List.append_assoc, List.cons_append, List.nil_append]; done) | (exfalso; omega))⟩, ?_⟩); exact trivial, by repeat (first | exact trivial | refine ⟨⟨rfl, by first | (left; intro h; cases h) | (right; rfl), by first | exact (fun _ h => ⟨_, h⟩) | exact (fun _ _ => ⟨_, rfl⟩)⟩, ?_⟩), rfl⟩
    rintro ⟨j, hinv⟩
    dsimp only
    have hj := hinv
    refine AW_seq ?_
    refine AW_region ?_
    refine AL_b (x_lss rfl rfl rfl) (fun b72 h72 => ?_)
    refine AL_nil ?_
    refine AW_seq ?_
    cases b72
    rotate_left
    · try simp only [tdy] at h72
      have hab := actB_in (actsB_get hact (k := j) (by omega))
      have hp1 : putB (m.acts[j]'(by omega)).kind 1 = [(m.acts[j]'(by omega)).kind] := putB_one (by omega) (by omega)
      have hp2 : putB (m.acts[j]'(by omega)).a 1 = [(m.acts[j]'(by omega)).a] := putB_one (by omega) (by omega)
      have haj := haf j
      refine AW_condT rfl ?_
      refine AW_skip ?_
      refine AW_seq ?_
      refine AW_block ?_
      refine AW_seq ?_
      refine AW_region ?_
      refine AL_p (x_index (E := 114) (n := 3) rfl rfl rfl (by kernel_rfl) rfl (k := j) (by omega) (by omega)) ?_
      refine AL_p (x_eloadW (n := 3) rfl rfl (by kernel_rfl) rfl) ?_
      refine AL_p (x_alloc (z := .agg #[.int .i64 0, .int .i64 0, .int .i64 0]) 107 rfl (by kernel_rfl) rfl rfl rfl rfl) ?_
      refine AL_p (x_store (n := 3) rfl rfl rfl rfl (by kernel_rfl) rfl rfl rfl) ?_
      refine AL_nil ?_
      refine AW_seq ?_
      refine AW_region ?_
      refine AL_p (x_move rfl rfl) ?_
      refine AL_p (x_field (off := 0) (o' := 0) rfl rfl rfl (by kernel_rfl) rfl) ?_
      refine AL_p (x_load1 rfl rfl rfl (by kernel_rfl) rfl) ?_
      refine AL_p (x_callR rfl rfl rfl (putNumS_c _ (m.acts[j]'(by omega)).kind 1 (by omega) (by have e : (256 : Int) ^ 1 = 256 := rfl; omega) (by omega) (by omega) (by (try simp only [List.length_append, List.length_cons, List.length_nil, putB_len, pairTo_len]); omega) 108) rfl AllV.rf rfl rfl rfl rfl rfl) ?_
      refine AL_p (x_move rfl rfl) ?_
      refine AL_p (x_extract rfl rfl rfl) ?_
      refine AL_p (x_extract rfl rfl rfl) ?_
      refine AL_p (x_assign rfl rfl) ?_
      refine AL_nil ?_
      refine AW_seq ?_
      refine AW_region ?_
      refine AL_p (x_move rfl rfl) ?_
      refine AL_p (x_field (off := 1) (o' := 1) rfl rfl rfl (by kernel_rfl) rfl) ?_
      refine AL_p (x_load1 rfl rfl rfl (by kernel_rfl) rfl) ?_
      refine AL_p (x_callR rfl rfl rfl (putNumS_c _ (m.acts[j]'(by omega)).a 1 (by omega) (by have e : (256 : Int) ^ 1 = 256 := rfl; omega) (by omega) (by omega) (by (try simp only [List.length_append, List.length_cons, List.length_nil, putB_len, pairTo_len]); omega) 109) rfl AllV.rf rfl rfl rfl rfl rfl) ?_
      refine AL_p (x_move rfl rfl) ?_
      refine AL_p (x_extract rfl rfl rfl) ?_
      refine AL_p (x_extract rfl rfl rfl) ?_
      refine AL_p (x_assign rfl rfl) ?_
      refine AL_nil ?_
      refine AW_region ?_
      refine AL_p (x_move rfl rfl) ?_
      refine AL_p (x_field (off := 2) (o' := 2) rfl rfl rfl (by kernel_rfl) rfl) ?_
      refine AL_p (x_load1 rfl rfl rfl (by kernel_rfl) rfl) ?_
      refine AL_p (x_callR rfl rfl rfl (putNumS_c _ (m.acts[j]'(by omega)).b 6 (by omega) (by have e : (256 : Int) ^ 6 = 281474976710656 := rfl; omega) (by omega) (by omega) (by (try simp only [List.length_append, List.length_cons, List.length_nil, putB_len, pairTo_len]); omega) 110) rfl AllV.rf rfl rfl rfl rfl rfl) ?_
      refine AL_p (x_move rfl rfl) ?_
      refine AL_p (x_extract rfl rfl rfl) ?_
      refine AL_p (x_extract rfl rfl rfl) ?_
      refine AL_p (x_assign rfl rfl) ?_
      refine AL_nil ?_
      refine AW_region ?_
      refine AL_p (x_add rfl rfl rfl (IntWalk.i64_in _ (by omega))) ?_
      refine AL_p (x_move rfl rfl) ?_
      refine AL_nil ?_
      refine ⟨⟨j + 1, by omega⟩, rn [(106, 110)], ?_, by dsimp only; omega⟩
      exact ⟨by (repeat refine ⟨⟨_, rfl, by first | exact VLe.rf | exact vle_int (by dsimp only; omega)⟩, ?_⟩); exact trivial, by (repeat refine ⟨⟨_, rfl, by first | exact BLe.rf | exact BLe.box AllC.rf | exact BLe.arr (by first | (rw [flatTo_zero, List.append_nil]; done) | (rw [hpl, flatTo_zero, List.append_nil]; done) | (rw [← flatTo_more (f := actBytes) (k := j) (by omega)]; simp only [actBytes, hp1, hp2, List.append_assoc, List.cons_append, List.nil_append]; done) | (exfalso; omega))⟩, ?_⟩); exact trivial, by repeat (first | exact trivial | refine ⟨⟨rfl, by first | (left; intro h; cases h) | (right; rfl), by first | exact (fun _ h => ⟨_, h⟩) | exact (fun _ _ => ⟨_, rfl⟩)⟩, ?_⟩), rfl⟩
    try simp only [tdy] at h72
    refine AW_condF rfl ?_
    refine AW_exit (BQ_hit ?_)
    refine AW_seq ?_
    refine AW_seq ?_
    refine AW_region ?_
    refine AL_p (x_field (off := 0) (o' := 0) rfl rfl rfl (by kernel_rfl) rfl) ?_
    refine AL_p (x_load1 rfl rfl rfl (by kernel_rfl) rfl) ?_
    refine AL_b (x_eql rfl rfl rfl) (fun b99 h99 => ?_)
    refine AL_nil ?_
    cases b99
    · try simp only [tdy] at h99
      refine AW_condF rfl ?_
      refine AW_skip ?_
      refine AW_seq ?_
      refine AW_region ?_
      refine AL_p (x_move rfl rfl) ?_
      refine AL_p (x_assign rfl rfl) ?_
      refine AL_nil ?_
      refine AW_ret ?_
      exact ⟨rn [(0, 106)], ⟨⟨⟨_, rfl, VLe.rf⟩, trivial⟩, ⟨⟨_, rfl, BLe.arr (by first | (rw [bodyB_add (by omega)]; simp only [flatTo_all (f := actBytes) (xs := m.acts) (k := j) (by omega), List.append_assoc, List.nil_append]; done) | (rw [bodyB_flip (by omega)]; done) | (rw [bodyB_flip (by omega)]; simp only [List.append_assoc, List.nil_append]; done) | (rw [bodyB_note (by omega)]; simp only [headBy, flatTo_all (f := fun n => putB n 6) (xs := m.head.v) (k := i) (by omega), List.append_assoc, List.nil_append]; done) | (rw [bodyB_note (by omega), flatTo_all (f := fun n => putB n 6) (xs := m.head.v) (k := i) (by omega)]; simp [headBy, handB, *]; done) | (rw [bodyB_none (by omega) (by omega) (by omega)]; done) | (rw [bodyB_none (by omega) (by omega) (by omega)]; simp only [List.append_nil]; done) | (exfalso; omega))⟩, trivial⟩, trivial, rfl⟩⟩
    try simp only [tdy] at h99
    have hN2 := hN (by omega)
    have hN8 := eight_8 hN2
    have hhf := head_len (l := m.head.v)
    refine AW_condT rfl ?_
    refine AW_seq ?_
    refine AW_seq ?_
    refine AW_region ?_
    refine AL_p (x_field (off := 8) (o' := 8) rfl rfl rfl (by kernel_rfl) rfl) ?_
    refine AL_b (x_load1 rfl rfl rfl (by kernel_rfl) rfl) (fun b101 h101 => ?_)
    refine AL_nil ?_
    cases b101
    rotate_left
    · try simp only [tdy] at h101
      refine AW_condT rfl ?_
      refine AW_region ?_
      refine AL_p (x_move rfl rfl) ?_
      refine AL_p (y_bslice (E := 5) (e := (intE .u8)) [.const (.int .u8 (1))] ([1]) 111 rfl rfl rfl rfl rfl rfl rfl rfl FitL.rf rfl rfl rfl rfl rfl rfl (by kernel_rfl)) ?_
      refine AL_p (y_append 112 rfl rfl rfl rfl rfl rfl rfl rfl (by kernel_rfl) (by (try simp only [List.length_append, List.length_cons, List.length_nil, putB_len, pairTo_len]); omega)) ?_
      refine AL_p (x_assign rfl rfl) ?_
      refine AL_nil ?_
      refine AW_seq ?_
      refine AW_region ?_
      refine AL_p (x_assign rfl rfl) ?_
      refine AL_nil ?_
      refine AW_block ?_
      refine AW_loop2 (ι := {q : Nat // q ≤ m.head.v.length}) (fun p => [(3, .one (.own 112)), (7, .one (.c (.int .i64 ((p.1) : Int))))]) (fun p => [(112, some (.arr 5 (intE .u8) ([handB m.hand] ++ flatTo (fun n => putB n 6) m.head.v (p.1)) true))]) [1] [100, 101, 102, 103] (fun p => m.head.v.length - (p.1)) ⟨0, by omega⟩ (rn []) ?_ ?_
      exact ⟨by (repeat refine ⟨⟨_, rfl, by first | exact VLe.rf | exact vle_int (by dsimp only; omega)⟩, ?_⟩); exact trivial, by (repeat refine ⟨⟨_, rfl, by first | exact BLe.rf | exact BLe.box AllC.rf | exact BLe.arr (by first | (rw [flatTo_zero, List.append_nil]; simp [handB, *]; done) | (rw [← flatTo_more (f := fun n => putB n 6) (k := i) (by omega)]; simp only [List.append_assoc]; done) | (exfalso; omega))⟩, ?_⟩); exact trivial, by repeat (first | exact trivial | refine ⟨⟨rfl, by first | (left; intro h; cases h) | (right; rfl), by first | exact (fun _ h => ⟨_, h⟩) | exact (fun _ _ => ⟨_, rfl⟩)⟩, ?_⟩), rfl⟩
      rintro ⟨i, hinv⟩
      dsimp only
      have hi := hinv
      refine AW_seq ?_
      refine AW_seq ?_
      refine AW_region ?_
      refine AL_p (x_move rfl rfl) ?_
      refine AL_b (x_lss rfl rfl rfl) (fun b109 h109 => ?_)
      refine AL_nil ?_
      cases b109
      · try simp only [tdy] at h109
        refine AW_condF rfl ?_
        refine AW_exit (BQ_hit ?_)
        refine AW_seq ?_
        refine AW_region ?_
        refine AL_p (x_move rfl rfl) ?_
        refine AL_p (x_assign rfl rfl) ?_
        refine AL_nil ?_
        refine AW_ret ?_
        exact ⟨rn [(0, 112)], ⟨⟨⟨_, rfl, VLe.rf⟩, trivial⟩, ⟨⟨_, rfl, BLe.arr (by first | (rw [bodyB_add (by omega)]; simp only [flatTo_all (f := actBytes) (xs := m.acts) (k := j) (by omega), List.append_assoc, List.nil_append]; done) | (rw [bodyB_flip (by omega)]; done) | (rw [bodyB_flip (by omega)]; simp only [List.append_assoc, List.nil_append]; done) | (rw [bodyB_note (by omega)]; simp only [headBy, flatTo_all (f := fun n => putB n 6) (xs := m.head.v) (k := i) (by omega), List.append_assoc, List.nil_append]; done) | (rw [bodyB_note (by omega), flatTo_all (f := fun n => putB n 6) (xs := m.head.v) (k := i) (by omega)]; simp [headBy, handB, *]; done) | (rw [bodyB_none (by omega) (by omega) (by omega)]; done) | (rw [bodyB_none (by omega) (by omega) (by omega)]; simp only [List.append_nil]; done) | (exfalso; omega))⟩, trivial⟩, trivial, rfl⟩⟩
      try simp only [tdy] at h109
      have hf8 := fits48 (eight_get hN2 (k := i) (by omega))
      have hhi := hhf i
      refine AW_condT rfl ?_
      refine AW_skip ?_
      refine AW_seq ?_
      refine AW_block ?_
      refine AW_region ?_
      refine AL_p (x_move rfl rfl) ?_
      refine AL_p (x_field (off := 9) (o' := 9) rfl rfl rfl (by kernel_rfl) rfl) ?_
      refine AL_p (x_field (off := 0) (o' := 9) rfl rfl rfl (by kernel_rfl) rfl) ?_
      refine AL_p (x_load1 rfl rfl rfl (by kernel_rfl) rfl) ?_
      refine AL_p (x_move rfl rfl) ?_
      refine AL_p (x_index (E := 3) (n := 1) rfl rfl rfl (by kernel_rfl) rfl (k := i) (by omega) (by omega)) ?_
      refine AL_p (x_eload1 rfl rfl (by kernel_rfl) rfl) ?_
      refine AL_p (x_callR rfl rfl rfl (putNumS_c _ (m.head.v[i]'(by omega)) 6 (by omega) (by have e : (256 : Int) ^ 6 = 281474976710656 := rfl; omega) (by omega) (by omega) (by (try simp only [List.length_append, List.length_cons, List.length_nil, putB_len, pairTo_len]); omega) 113) rfl AllV.rf rfl rfl rfl rfl rfl) ?_
      refine AL_p (x_move rfl rfl) ?_
      refine AL_p (x_extract rfl rfl rfl) ?_
      refine AL_p (x_extract rfl rfl rfl) ?_
      refine AL_p (x_assign rfl rfl) ?_
      refine AL_nil ?_
      refine AW_region ?_
      refine AL_p (x_move rfl rfl) ?_
      refine AL_p (x_add rfl rfl rfl (IntWalk.i64_in _ (by omega))) ?_
      refine AL_p (x_assign rfl rfl) ?_
      refine AL_nil ?_
      refine ⟨⟨i + 1, by omega⟩, rn [(112, 113)], ?_, by dsimp only; omega⟩
      exact ⟨by (repeat refine ⟨⟨_, rfl, by first | exact VLe.rf | exact vle_int (by dsimp only; omega)⟩, ?_⟩); exact trivial, by (repeat refine ⟨⟨_, rfl, by first | exact BLe.rf | exact BLe.box AllC.rf | exact BLe.arr (by first | (rw [flatTo_zero, List.append_nil]; simp [handB, *]; done) | (rw [← flatTo_more (f := fun n => putB n 6) (k := i) (by omega)]; simp only [List.append_assoc]; done) | (exfalso; omega))⟩, ?_⟩); exact trivial, by repeat (first | exact trivial | refine ⟨⟨rfl, by first | (left; intro h; cases h) | (right; rfl), by first | exact (fun _ h => ⟨_, h⟩) | exact (fun _ _ => ⟨_, rfl⟩)⟩, ?_⟩), rfl⟩
    try simp only [tdy] at h101
    refine AW_condF rfl ?_
    refine AW_region ?_
    refine AL_p (x_move rfl rfl) ?_
    refine AL_p (y_bslice (E := 5) (e := (intE .u8)) [.const (.int .u8 (0))] ([0]) 114 rfl rfl rfl rfl rfl rfl rfl rfl FitL.rf rfl rfl rfl rfl rfl rfl (by kernel_rfl)) ?_
    refine AL_p (y_append 115 rfl rfl rfl rfl rfl rfl rfl rfl (by kernel_rfl) (by (try simp only [List.length_append, List.length_cons, List.length_nil, putB_len, pairTo_len]); omega)) ?_
    refine AL_p (x_assign rfl rfl) ?_
    refine AL_nil ?_
    refine AW_seq ?_
    refine AW_region ?_
    refine AL_p (x_assign rfl rfl) ?_
    refine AL_nil ?_
    refine AW_block ?_
    refine AW_loop2 (ι := {q : Nat // q ≤ m.head.v.length}) (fun p => [(3, .one (.own 115)), (7, .one (.c (.int .i64 ((p.1) : Int))))]) (fun p => [(115, some (.arr 5 (intE .u8) ([handB m.hand] ++ flatTo (fun n => putB n 6) m.head.v (p.1)) true))]) [1] [100, 101, 102, 103] (fun p => m.head.v.length - (p.1)) ⟨0, by omega⟩ (rn []) ?_ ?_
    exact ⟨by (repeat refine ⟨⟨_, rfl, by first | exact VLe.rf | exact vle_int (by dsimp only; omega)⟩, ?_⟩); exact trivial, by (repeat refine ⟨⟨_, rfl, by first | exact BLe.rf | exact BLe.box AllC.rf | exact BLe.arr (by first | (rw [flatTo_zero, List.append_nil]; simp [handB, *]; done) | (rw [← flatTo_more (f := fun n => putB n 6) (k := i) (by omega)]; simp only [List.append_assoc]; done) | (exfalso; omega))⟩, ?_⟩); exact trivial, by repeat (first | exact trivial | refine ⟨⟨rfl, by first | (left; intro h; cases h) | (right; rfl), by first | exact (fun _ h => ⟨_, h⟩) | exact (fun _ _ => ⟨_, rfl⟩)⟩, ?_⟩), rfl⟩
    rintro ⟨i, hinv⟩
    dsimp only
    have hi := hinv
    refine AW_seq ?_
    refine AW_seq ?_
    refine AW_region ?_
    refine AL_p (x_move rfl rfl) ?_
    refine AL_b (x_lss rfl rfl rfl) (fun b109 h109 => ?_)
    refine AL_nil ?_
    cases b109
    · try simp only [tdy] at h109
      refine AW_condF rfl ?_
      refine AW_exit (BQ_hit ?_)
      refine AW_seq ?_
      refine AW_region ?_
      refine AL_p (x_move rfl rfl) ?_
      refine AL_p (x_assign rfl rfl) ?_
      refine AL_nil ?_
      refine AW_ret ?_
      exact ⟨rn [(0, 115)], ⟨⟨⟨_, rfl, VLe.rf⟩, trivial⟩, ⟨⟨_, rfl, BLe.arr (by first | (rw [bodyB_add (by omega)]; simp only [flatTo_all (f := actBytes) (xs := m.acts) (k := j) (by omega), List.append_assoc, List.nil_append]; done) | (rw [bodyB_flip (by omega)]; done) | (rw [bodyB_flip (by omega)]; simp only [List.append_assoc, List.nil_append]; done) | (rw [bodyB_note (by omega)]; simp only [headBy, flatTo_all (f := fun n => putB n 6) (xs := m.head.v) (k := i) (by omega), List.append_assoc, List.nil_append]; done) | (rw [bodyB_note (by omega), flatTo_all (f := fun n => putB n 6) (xs := m.head.v) (k := i) (by omega)]; simp [headBy, handB, *]; done) | (rw [bodyB_none (by omega) (by omega) (by omega)]; done) | (rw [bodyB_none (by omega) (by omega) (by omega)]; simp only [List.append_nil]; done) | (exfalso; omega))⟩, trivial⟩, trivial, rfl⟩⟩
    try simp only [tdy] at h109
    have hf8 := fits48 (eight_get hN2 (k := i) (by omega))
    have hhi := hhf i
    refine AW_condT rfl ?_
    refine AW_skip ?_
    refine AW_seq ?_
    refine AW_block ?_
    refine AW_region ?_
    refine AL_p (x_move rfl rfl) ?_
    refine AL_p (x_field (off := 9) (o' := 9) rfl rfl rfl (by kernel_rfl) rfl) ?_
    refine AL_p (x_field (off := 0) (o' := 9) rfl rfl rfl (by kernel_rfl) rfl) ?_
    refine AL_p (x_load1 rfl rfl rfl (by kernel_rfl) rfl) ?_
    refine AL_p (x_move rfl rfl) ?_
    refine AL_p (x_index (E := 3) (n := 1) rfl rfl rfl (by kernel_rfl) rfl (k := i) (by omega) (by omega)) ?_
    refine AL_p (x_eload1 rfl rfl (by kernel_rfl) rfl) ?_
    refine AL_p (x_callR rfl rfl rfl (putNumS_c _ (m.head.v[i]'(by omega)) 6 (by omega) (by have e : (256 : Int) ^ 6 = 281474976710656 := rfl; omega) (by omega) (by omega) (by (try simp only [List.length_append, List.length_cons, List.length_nil, putB_len, pairTo_len]); omega) 113) rfl AllV.rf rfl rfl rfl rfl rfl) ?_
    refine AL_p (x_move rfl rfl) ?_
    refine AL_p (x_extract rfl rfl rfl) ?_
    refine AL_p (x_extract rfl rfl rfl) ?_
    refine AL_p (x_assign rfl rfl) ?_
    refine AL_nil ?_
    refine AW_region ?_
    refine AL_p (x_move rfl rfl) ?_
    refine AL_p (x_add rfl rfl rfl (IntWalk.i64_in _ (by omega))) ?_
    refine AL_p (x_assign rfl rfl) ?_
    refine AL_nil ?_
    refine ⟨⟨i + 1, by omega⟩, rn [(115, 113)], ?_, by dsimp only; omega⟩
    exact ⟨by (repeat refine ⟨⟨_, rfl, by first | exact VLe.rf | exact vle_int (by dsimp only; omega)⟩, ?_⟩); exact trivial, by (repeat refine ⟨⟨_, rfl, by first | exact BLe.rf | exact BLe.box AllC.rf | exact BLe.arr (by first | (rw [flatTo_zero, List.append_nil]; simp [handB, *]; done) | (rw [← flatTo_more (f := fun n => putB n 6) (k := i) (by omega)]; simp only [List.append_assoc]; done) | (exfalso; omega))⟩, ?_⟩); exact trivial, by repeat (first | exact trivial | refine ⟨⟨rfl, by first | (left; intro h; cases h) | (right; rfl), by first | exact (fun _ h => ⟨_, h⟩) | exact (fun _ _ => ⟨_, rfl⟩)⟩, ?_⟩), rfl⟩
  try simp only [tdy] at h11
  refine AL_g rfl rfl (x_field (off := 0) (o' := 0) rfl rfl rfl (by kernel_rfl) rfl) ?_
  refine AL_g rfl rfl (x_load1 rfl rfl rfl (by kernel_rfl) rfl) ?_
  refine AL_gb rfl rfl (x_eql rfl rfl rfl) (fun b15 h15 => ?_)
  refine AL_p (x_pickF rfl rfl rfl) ?_
  refine AL_nil ?_
  cases b15
  · try simp only [tdy] at h15
    refine AW_condF rfl ?_
    refine AW_skip ?_
    refine AW_seq ?_
    refine AW_seq ?_
    refine AW_region ?_
    refine AL_p (x_field (off := 0) (o' := 0) rfl rfl rfl (by kernel_rfl) rfl) ?_
    refine AL_p (x_load1 rfl rfl rfl (by kernel_rfl) rfl) ?_
    refine AL_b (x_eql rfl rfl rfl) (fun b26 h26 => ?_)
    refine AL_nil ?_
    cases b26
    · try simp only [tdy] at h26
      refine AW_condF rfl ?_
      refine AW_skip ?_
      refine AW_seq ?_
      refine AW_seq ?_
      refine AW_region ?_
      refine AL_p (x_field (off := 0) (o' := 0) rfl rfl rfl (by kernel_rfl) rfl) ?_
      refine AL_p (x_load1 rfl rfl rfl (by kernel_rfl) rfl) ?_
      refine AL_b (x_eql rfl rfl rfl) (fun b99 h99 => ?_)
      refine AL_nil ?_
      cases b99
      · try simp only [tdy] at h99
        refine AW_condF rfl ?_
        refine AW_skip ?_
        refine AW_seq ?_
        refine AW_region ?_
        refine AL_p (x_move rfl rfl) ?_
        refine AL_p (x_assign rfl rfl) ?_
        refine AL_nil ?_
        refine AW_ret ?_
        exact ⟨rn [(0, 101)], ⟨⟨⟨_, rfl, VLe.rf⟩, trivial⟩, ⟨⟨_, rfl, BLe.arr (by first | (rw [bodyB_add (by omega)]; simp only [flatTo_all (f := actBytes) (xs := m.acts) (k := j) (by omega), List.append_assoc, List.nil_append]; done) | (rw [bodyB_flip (by omega)]; done) | (rw [bodyB_flip (by omega)]; simp only [List.append_assoc, List.nil_append]; done) | (rw [bodyB_note (by omega)]; simp only [headBy, flatTo_all (f := fun n => putB n 6) (xs := m.head.v) (k := i) (by omega), List.append_assoc, List.nil_append]; done) | (rw [bodyB_note (by omega), flatTo_all (f := fun n => putB n 6) (xs := m.head.v) (k := i) (by omega)]; simp [headBy, handB, *]; done) | (rw [bodyB_none (by omega) (by omega) (by omega)]; done) | (rw [bodyB_none (by omega) (by omega) (by omega)]; simp only [List.append_nil]; done) | (exfalso; omega))⟩, trivial⟩, trivial, rfl⟩⟩
      try simp only [tdy] at h99
      have hN2 := hN (by omega)
      have hN8 := eight_8 hN2
      have hhf := head_len (l := m.head.v)
      refine AW_condT rfl ?_
      refine AW_seq ?_
      refine AW_seq ?_
      refine AW_region ?_
      refine AL_p (x_field (off := 8) (o' := 8) rfl rfl rfl (by kernel_rfl) rfl) ?_
      refine AL_b (x_load1 rfl rfl rfl (by kernel_rfl) rfl) (fun b101 h101 => ?_)
      refine AL_nil ?_
      cases b101
      rotate_left
      · try simp only [tdy] at h101
        refine AW_condT rfl ?_
        refine AW_region ?_
        refine AL_p (x_move rfl rfl) ?_
        refine AL_p (y_bslice (E := 5) (e := (intE .u8)) [.const (.int .u8 (1))] ([1]) 111 rfl rfl rfl rfl rfl rfl rfl rfl FitL.rf rfl rfl rfl rfl rfl rfl (by kernel_rfl)) ?_
        refine AL_p (y_append 112 rfl rfl rfl rfl rfl rfl rfl rfl (by kernel_rfl) (by (try simp only [List.length_append, List.length_cons, List.length_nil, putB_len, pairTo_len]); omega)) ?_
        refine AL_p (x_assign rfl rfl) ?_
        refine AL_nil ?_
        refine AW_seq ?_
        refine AW_region ?_
        refine AL_p (x_assign rfl rfl) ?_
        refine AL_nil ?_
        refine AW_block ?_
        refine AW_loop2 (ι := {q : Nat // q ≤ m.head.v.length}) (fun p => [(3, .one (.own 112)), (7, .one (.c (.int .i64 ((p.1) : Int))))]) (fun p => [(112, some (.arr 5 (intE .u8) ([handB m.hand] ++ flatTo (fun n => putB n 6) m.head.v (p.1)) true))]) [1] [100] (fun p => m.head.v.length - (p.1)) ⟨0, by omega⟩ (rn []) ?_ ?_
        exact ⟨by (repeat refine ⟨⟨_, rfl, by first | exact VLe.rf | exact vle_int (by dsimp only; omega)⟩, ?_⟩); exact trivial, by (repeat refine ⟨⟨_, rfl, by first | exact BLe.rf | exact BLe.box AllC.rf | exact BLe.arr (by first | (rw [flatTo_zero, List.append_nil]; simp [handB, *]; done) | (rw [← flatTo_more (f := fun n => putB n 6) (k := i) (by omega)]; simp only [List.append_assoc]; done) | (exfalso; omega))⟩, ?_⟩); exact trivial, by repeat (first | exact trivial | refine ⟨⟨rfl, by first | (left; intro h; cases h) | (right; rfl), by first | exact (fun _ h => ⟨_, h⟩) | exact (fun _ _ => ⟨_, rfl⟩)⟩, ?_⟩), rfl⟩
        rintro ⟨i, hinv⟩
        dsimp only
        have hi := hinv
        refine AW_seq ?_
        refine AW_seq ?_
        refine AW_region ?_
        refine AL_p (x_move rfl rfl) ?_
        refine AL_b (x_lss rfl rfl rfl) (fun b109 h109 => ?_)
        refine AL_nil ?_
        cases b109
        · try simp only [tdy] at h109
          refine AW_condF rfl ?_
          refine AW_exit (BQ_hit ?_)
          refine AW_seq ?_
          refine AW_region ?_
          refine AL_p (x_move rfl rfl) ?_
          refine AL_p (x_assign rfl rfl) ?_
          refine AL_nil ?_
          refine AW_ret ?_
          exact ⟨rn [(0, 112)], ⟨⟨⟨_, rfl, VLe.rf⟩, trivial⟩, ⟨⟨_, rfl, BLe.arr (by first | (rw [bodyB_add (by omega)]; simp only [flatTo_all (f := actBytes) (xs := m.acts) (k := j) (by omega), List.append_assoc, List.nil_append]; done) | (rw [bodyB_flip (by omega)]; done) | (rw [bodyB_flip (by omega)]; simp only [List.append_assoc, List.nil_append]; done) | (rw [bodyB_note (by omega)]; simp only [headBy, flatTo_all (f := fun n => putB n 6) (xs := m.head.v) (k := i) (by omega), List.append_assoc, List.nil_append]; done) | (rw [bodyB_note (by omega), flatTo_all (f := fun n => putB n 6) (xs := m.head.v) (k := i) (by omega)]; simp [headBy, handB, *]; done) | (rw [bodyB_none (by omega) (by omega) (by omega)]; done) | (rw [bodyB_none (by omega) (by omega) (by omega)]; simp only [List.append_nil]; done) | (exfalso; omega))⟩, trivial⟩, trivial, rfl⟩⟩
        try simp only [tdy] at h109
        have hf8 := fits48 (eight_get hN2 (k := i) (by omega))
        have hhi := hhf i
        refine AW_condT rfl ?_
        refine AW_skip ?_
        refine AW_seq ?_
        refine AW_block ?_
        refine AW_region ?_
        refine AL_p (x_move rfl rfl) ?_
        refine AL_p (x_field (off := 9) (o' := 9) rfl rfl rfl (by kernel_rfl) rfl) ?_
        refine AL_p (x_field (off := 0) (o' := 9) rfl rfl rfl (by kernel_rfl) rfl) ?_
        refine AL_p (x_load1 rfl rfl rfl (by kernel_rfl) rfl) ?_
        refine AL_p (x_move rfl rfl) ?_
        refine AL_p (x_index (E := 3) (n := 1) rfl rfl rfl (by kernel_rfl) rfl (k := i) (by omega) (by omega)) ?_
        refine AL_p (x_eload1 rfl rfl (by kernel_rfl) rfl) ?_
        refine AL_p (x_callR rfl rfl rfl (putNumS_c _ (m.head.v[i]'(by omega)) 6 (by omega) (by have e : (256 : Int) ^ 6 = 281474976710656 := rfl; omega) (by omega) (by omega) (by (try simp only [List.length_append, List.length_cons, List.length_nil, putB_len, pairTo_len]); omega) 113) rfl AllV.rf rfl rfl rfl rfl rfl) ?_
        refine AL_p (x_move rfl rfl) ?_
        refine AL_p (x_extract rfl rfl rfl) ?_
        refine AL_p (x_extract rfl rfl rfl) ?_
        refine AL_p (x_assign rfl rfl) ?_
        refine AL_nil ?_
        refine AW_region ?_
        refine AL_p (x_move rfl rfl) ?_
        refine AL_p (x_add rfl rfl rfl (IntWalk.i64_in _ (by omega))) ?_
        refine AL_p (x_assign rfl rfl) ?_
        refine AL_nil ?_
        refine ⟨⟨i + 1, by omega⟩, rn [(112, 113)], ?_, by dsimp only; omega⟩
        exact ⟨by (repeat refine ⟨⟨_, rfl, by first | exact VLe.rf | exact vle_int (by dsimp only; omega)⟩, ?_⟩); exact trivial, by (repeat refine ⟨⟨_, rfl, by first | exact BLe.rf | exact BLe.box AllC.rf | exact BLe.arr (by first | (rw [flatTo_zero, List.append_nil]; simp [handB, *]; done) | (rw [← flatTo_more (f := fun n => putB n 6) (k := i) (by omega)]; simp only [List.append_assoc]; done) | (exfalso; omega))⟩, ?_⟩); exact trivial, by repeat (first | exact trivial | refine ⟨⟨rfl, by first | (left; intro h; cases h) | (right; rfl), by first | exact (fun _ h => ⟨_, h⟩) | exact (fun _ _ => ⟨_, rfl⟩)⟩, ?_⟩), rfl⟩
      try simp only [tdy] at h101
      refine AW_condF rfl ?_
      refine AW_region ?_
      refine AL_p (x_move rfl rfl) ?_
      refine AL_p (y_bslice (E := 5) (e := (intE .u8)) [.const (.int .u8 (0))] ([0]) 114 rfl rfl rfl rfl rfl rfl rfl rfl FitL.rf rfl rfl rfl rfl rfl rfl (by kernel_rfl)) ?_
      refine AL_p (y_append 115 rfl rfl rfl rfl rfl rfl rfl rfl (by kernel_rfl) (by (try simp only [List.length_append, List.length_cons, List.length_nil, putB_len, pairTo_len]); omega)) ?_
      refine AL_p (x_assign rfl rfl) ?_
      refine AL_nil ?_
      refine AW_seq ?_
      refine AW_region ?_
      refine AL_p (x_assign rfl rfl) ?_
      refine AL_nil ?_
      refine AW_block ?_
      refine AW_loop2 (ι := {q : Nat // q ≤ m.head.v.length}) (fun p => [(3, .one (.own 115)), (7, .one (.c (.int .i64 ((p.1) : Int))))]) (fun p => [(115, some (.arr 5 (intE .u8) ([handB m.hand] ++ flatTo (fun n => putB n 6) m.head.v (p.1)) true))]) [1] [100] (fun p => m.head.v.length - (p.1)) ⟨0, by omega⟩ (rn []) ?_ ?_
      exact ⟨by (repeat refine ⟨⟨_, rfl, by first | exact VLe.rf | exact vle_int (by dsimp only; omega)⟩, ?_⟩); exact trivial, by (repeat refine ⟨⟨_, rfl, by first | exact BLe.rf | exact BLe.box AllC.rf | exact BLe.arr (by first | (rw [flatTo_zero, List.append_nil]; simp [handB, *]; done) | (rw [← flatTo_more (f := fun n => putB n 6) (k := i) (by omega)]; simp only [List.append_assoc]; done) | (exfalso; omega))⟩, ?_⟩); exact trivial, by repeat (first | exact trivial | refine ⟨⟨rfl, by first | (left; intro h; cases h) | (right; rfl), by first | exact (fun _ h => ⟨_, h⟩) | exact (fun _ _ => ⟨_, rfl⟩)⟩, ?_⟩), rfl⟩
      rintro ⟨i, hinv⟩
      dsimp only
      have hi := hinv
      refine AW_seq ?_
      refine AW_seq ?_
      refine AW_region ?_
      refine AL_p (x_move rfl rfl) ?_
      refine AL_b (x_lss rfl rfl rfl) (fun b109 h109 => ?_)
      refine AL_nil ?_
      cases b109
      · try simp only [tdy] at h109
        refine AW_condF rfl ?_
        refine AW_exit (BQ_hit ?_)
        refine AW_seq ?_
        refine AW_region ?_
        refine AL_p (x_move rfl rfl) ?_
        refine AL_p (x_assign rfl rfl) ?_
        refine AL_nil ?_
        refine AW_ret ?_
        exact ⟨rn [(0, 115)], ⟨⟨⟨_, rfl, VLe.rf⟩, trivial⟩, ⟨⟨_, rfl, BLe.arr (by first | (rw [bodyB_add (by omega)]; simp only [flatTo_all (f := actBytes) (xs := m.acts) (k := j) (by omega), List.append_assoc, List.nil_append]; done) | (rw [bodyB_flip (by omega)]; done) | (rw [bodyB_flip (by omega)]; simp only [List.append_assoc, List.nil_append]; done) | (rw [bodyB_note (by omega)]; simp only [headBy, flatTo_all (f := fun n => putB n 6) (xs := m.head.v) (k := i) (by omega), List.append_assoc, List.nil_append]; done) | (rw [bodyB_note (by omega), flatTo_all (f := fun n => putB n 6) (xs := m.head.v) (k := i) (by omega)]; simp [headBy, handB, *]; done) | (rw [bodyB_none (by omega) (by omega) (by omega)]; done) | (rw [bodyB_none (by omega) (by omega) (by omega)]; simp only [List.append_nil]; done) | (exfalso; omega))⟩, trivial⟩, trivial, rfl⟩⟩
      try simp only [tdy] at h109
      have hf8 := fits48 (eight_get hN2 (k := i) (by omega))
      have hhi := hhf i
      refine AW_condT rfl ?_
      refine AW_skip ?_
      refine AW_seq ?_
      refine AW_block ?_
      refine AW_region ?_
      refine AL_p (x_move rfl rfl) ?_
      refine AL_p (x_field (off := 9) (o' := 9) rfl rfl rfl (by kernel_rfl) rfl) ?_
      refine AL_p (x_field (off := 0) (o' := 9) rfl rfl rfl (by kernel_rfl) rfl) ?_
      refine AL_p (x_load1 rfl rfl rfl (by kernel_rfl) rfl) ?_
      refine AL_p (x_move rfl rfl) ?_
      refine AL_p (x_index (E := 3) (n := 1) rfl rfl rfl (by kernel_rfl) rfl (k := i) (by omega) (by omega)) ?_
      refine AL_p (x_eload1 rfl rfl (by kernel_rfl) rfl) ?_
      refine AL_p (x_callR rfl rfl rfl (putNumS_c _ (m.head.v[i]'(by omega)) 6 (by omega) (by have e : (256 : Int) ^ 6 = 281474976710656 := rfl; omega) (by omega) (by omega) (by (try simp only [List.length_append, List.length_cons, List.length_nil, putB_len, pairTo_len]); omega) 113) rfl AllV.rf rfl rfl rfl rfl rfl) ?_
      refine AL_p (x_move rfl rfl) ?_
      refine AL_p (x_extract rfl rfl rfl) ?_
      refine AL_p (x_extract rfl rfl rfl) ?_
      refine AL_p (x_assign rfl rfl) ?_
      refine AL_nil ?_
      refine AW_region ?_
      refine AL_p (x_move rfl rfl) ?_
      refine AL_p (x_add rfl rfl rfl (IntWalk.i64_in _ (by omega))) ?_
      refine AL_p (x_assign rfl rfl) ?_
      refine AL_nil ?_
      refine ⟨⟨i + 1, by omega⟩, rn [(115, 113)], ?_, by dsimp only; omega⟩
      exact ⟨by (repeat refine ⟨⟨_, rfl, by first | exact VLe.rf | exact vle_int (by dsimp only; omega)⟩, ?_⟩); exact trivial, by (repeat refine ⟨⟨_, rfl, by first | exact BLe.rf | exact BLe.box AllC.rf | exact BLe.arr (by first | (rw [flatTo_zero, List.append_nil]; simp [handB, *]; done) | (rw [← flatTo_more (f := fun n => putB n 6) (k := i) (by omega)]; simp only [List.append_assoc]; done) | (exfalso; omega))⟩, ?_⟩); exact trivial, by repeat (first | exact trivial | refine ⟨⟨rfl, by first | (left; intro h; cases h) | (right; rfl), by first | exact (fun _ h => ⟨_, h⟩) | exact (fun _ _ => ⟨_, rfl⟩)⟩, ?_⟩), rfl⟩
    try simp only [tdy] at h26
    have hA2 := hA (by omega)
    have hmat := hA2.2.1
    have hact := hA2.2.2
    have hA3 := hA2.1
    have ha12 := actsB_12 hact
    have hpl : putB (m.acts.length : Int) 1 = [(m.acts.length : Int)] := putB_one (by omega) (by omega)
    have haf := acts_len (l := m.acts)
    refine AW_condT rfl ?_
    refine AW_seq ?_
    refine AW_region ?_
    refine AL_p (x_move rfl rfl) ?_
    refine AL_p (x_field (off := 4) (o' := 4) rfl rfl rfl (by kernel_rfl) rfl) ?_
    refine AL_p (x_load1 rfl rfl rfl (by kernel_rfl) rfl) ?_
    refine AL_p (x_callR rfl rfl rfl (putNumS_c _ m.prio 2 (by omega) (by have e : (256 : Int) ^ 2 = 65536 := rfl; omega) (by omega) (by omega) (by (try simp only [List.length_append, List.length_cons, List.length_nil, putB_len, pairTo_len]); omega) 103) rfl AllV.rf rfl rfl rfl rfl rfl) ?_
    refine AL_p (x_move rfl rfl) ?_
    refine AL_p (x_extract rfl rfl rfl) ?_
    refine AL_p (x_extract rfl rfl rfl) ?_
    refine AL_p (x_assign rfl rfl) ?_
    refine AL_nil ?_
    refine AW_seq ?_
    refine AW_seq ?_
    refine AW_region ?_
    refine AL_p (x_assign rfl rfl) ?_
    refine AL_nil ?_
    refine AW_block ?_
    refine AW_loop2 (ι := {q : Nat // q ≤ 8}) (fun p => [(3, .one (.own 103)), (4, .one (.c (.int .i64 ((p.1) : Int))))]) (fun p => [(103, some (.arr 5 (intE .u8) (putB m.epoch 4 ++ putB m.prio 2 ++ pairTo m.mat (p.1)) true))]) [1] [100, 101] (fun p => 8 - (p.1)) ⟨0, by omega⟩ (rn []) ?_ ?_
    exact ⟨by (repeat refine ⟨⟨_, rfl, by first | exact VLe.rf | exact vle_int (by dsimp only; omega)⟩, ?_⟩); exact trivial, by (repeat refine ⟨⟨_, rfl, by first | exact BLe.rf | exact BLe.box AllC.rf | exact BLe.arr (by first | (rw [pairTo_zero, List.append_nil]; done) | (rw [← pairTo_more hv1 hm1]; simp only [List.append_assoc]; done) | (exfalso; omega))⟩, ?_⟩); exact trivial, by repeat (first | exact trivial | refine ⟨⟨rfl, by first | (left; intro h; cases h) | (right; rfl), by first | exact (fun _ h => ⟨_, h⟩) | exact (fun _ _ => ⟨_, rfl⟩)⟩, ?_⟩), rfl⟩
    rintro ⟨k, hinv⟩
    dsimp only
    have hk := hinv
    refine AW_seq ?_
    refine AW_seq ?_
    refine AW_region ?_
    refine AL_p (x_move rfl rfl) ?_
    refine AL_b (x_lss rfl rfl rfl) (fun b35 h35 => ?_)
    refine AL_nil ?_
    cases b35
    rotate_left
    · try simp only [tdy] at h35
      obtain ⟨hv1, hm1, hvr, hmr⟩ := matchB_get hmat (fun x hx => (hi0_5 x hx).2) (k := k) (by omega)
      refine AW_condT rfl ?_
      refine AW_skip ?_
      refine AW_seq ?_
      refine AW_block ?_
      refine AW_seq ?_
      refine AW_region ?_
      refine AL_p (x_move rfl rfl) ?_
      refine AL_p (x_field (off := 5) (o' := 5) rfl rfl rfl (by kernel_rfl) rfl) ?_
      refine AL_p (x_field (off := 0) (o' := 5) rfl rfl rfl (by kernel_rfl) rfl) ?_
      refine AL_p (x_load1 rfl rfl rfl (by kernel_rfl) rfl) ?_
      refine AL_p (x_move rfl rfl) ?_
      refine AL_p (x_index (E := 3) (n := 1) rfl rfl rfl (by kernel_rfl) rfl (k := k) (by omega) (by omega)) ?_
      refine AL_p (x_eload1 rfl rfl (by kernel_rfl) rfl) ?_
      refine AL_p (x_callR rfl rfl rfl (putNumS_c _ (m.mat.v[k]'hv1) 6 (by omega) (by have e : (256 : Int) ^ 6 = 281474976710656 := rfl; omega) (by omega) (by omega) (by (try simp only [List.length_append, List.length_cons, List.length_nil, putB_len, pairTo_len]); omega) 104) rfl AllV.rf rfl rfl rfl rfl rfl) ?_
      refine AL_p (x_move rfl rfl) ?_
      refine AL_p (x_extract rfl rfl rfl) ?_
      refine AL_p (x_extract rfl rfl rfl) ?_
      refine AL_p (x_assign rfl rfl) ?_
      refine AL_nil ?_
      refine AW_region ?_
      refine AL_p (x_move rfl rfl) ?_
      refine AL_p (x_field (off := 5) (o' := 5) rfl rfl rfl (by kernel_rfl) rfl) ?_
      refine AL_p (x_field (off := 1) (o' := 6) rfl rfl rfl (by kernel_rfl) rfl) ?_
      refine AL_p (x_load1 rfl rfl rfl (by kernel_rfl) rfl) ?_
      refine AL_p (x_move rfl rfl) ?_
      refine AL_p (x_index (E := 3) (n := 1) rfl rfl rfl (by kernel_rfl) rfl (k := k) (by omega) (by omega)) ?_
      refine AL_p (x_eload1 rfl rfl (by kernel_rfl) rfl) ?_
      refine AL_p (x_callR rfl rfl rfl (putNumS_c _ (m.mat.m[k]'hm1) 6 (by omega) (by have e : (256 : Int) ^ 6 = 281474976710656 := rfl; omega) (by omega) (by omega) (by (try simp only [List.length_append, List.length_cons, List.length_nil, putB_len, pairTo_len]); omega) 105) rfl AllV.rf rfl rfl rfl rfl rfl) ?_
      refine AL_p (x_move rfl rfl) ?_
      refine AL_p (x_extract rfl rfl rfl) ?_
      refine AL_p (x_extract rfl rfl rfl) ?_
      refine AL_p (x_assign rfl rfl) ?_
      refine AL_nil ?_
      refine AW_region ?_
      refine AL_p (x_move rfl rfl) ?_
      refine AL_p (x_add rfl rfl rfl (IntWalk.i64_in _ (by omega))) ?_
      refine AL_p (x_assign rfl rfl) ?_
      refine AL_nil ?_
      refine ⟨⟨k + 1, by omega⟩, rn [(103, 105)], ?_, by dsimp only; omega⟩
      exact ⟨by (repeat refine ⟨⟨_, rfl, by first | exact VLe.rf | exact vle_int (by dsimp only; omega)⟩, ?_⟩); exact trivial, by (repeat refine ⟨⟨_, rfl, by first | exact BLe.rf | exact BLe.box AllC.rf | exact BLe.arr (by first | (rw [pairTo_zero, List.append_nil]; done) | (rw [← pairTo_more hv1 hm1]; simp only [List.append_assoc]; done) | (exfalso; omega))⟩, ?_⟩); exact trivial, by repeat (first | exact trivial | refine ⟨⟨rfl, by first | (left; intro h; cases h) | (right; rfl), by first | exact (fun _ h => ⟨_, h⟩) | exact (fun _ _ => ⟨_, rfl⟩)⟩, ?_⟩), rfl⟩
    try simp only [tdy] at h35
    obtain rfl : k = 8 := by omega
    refine AW_condF rfl ?_
    refine AW_exit (BQ_hit ?_)
    refine AW_seq ?_
    refine AW_region ?_
    refine AL_p (x_move rfl rfl) ?_
    refine AL_p (x_field (off := 7) (o' := 7) rfl rfl rfl (by kernel_rfl) rfl) ?_
    refine AL_p (x_load1 rfl rfl rfl (by kernel_rfl) rfl) ?_
    refine AL_p (x_len (E := 114) (n := 3) rfl rfl (by kernel_rfl)) ?_
    refine AL_p (x_callR rfl rfl rfl (putNumS_c _ (m.acts.length : Int) 1 (by omega) (by have e : (256 : Int) ^ 1 = 256 := rfl; omega) (by omega) (by omega) (by (try simp only [List.length_append, List.length_cons, List.length_nil, putB_len, pairTo_len]); omega) 106) rfl AllV.rf rfl rfl rfl rfl rfl) ?_
    refine AL_p (x_move rfl rfl) ?_
    refine AL_p (x_extract rfl rfl rfl) ?_
    refine AL_p (x_extract rfl rfl rfl) ?_
    refine AL_p (x_assign rfl rfl) ?_
    refine AL_nil ?_
    refine AW_seq ?_
    refine AW_region ?_
    refine AL_p (x_field (off := 7) (o' := 7) rfl rfl rfl (by kernel_rfl) rfl) ?_
    refine AL_p (x_load1 rfl rfl rfl (by kernel_rfl) rfl) ?_
    refine AL_p (x_len (E := 114) (n := 3) rfl rfl (by kernel_rfl)) ?_
    refine AL_p (x_move rfl rfl) ?_
    refine AL_nil ?_
    refine AW_block ?_
    refine AW_loop2 (ι := {q : Nat // q ≤ m.acts.length}) (fun p => [(3, .one (.own 106)), (71, .one (.c (.int .i64 ((p.1) : Int))))]) (fun p => [(106, some (.arr 5 (intE .u8) (putB m.epoch 4 ++ putB m.prio 2 ++ pairTo m.mat 8 ++ [(m.acts.length : Int)] ++ flatTo actBytes m.acts (p.1)) true))]) [1, 69, 70] [100, 101, 103] (fun p => m.acts.length - (p.1)) ⟨0, by omega⟩ (rn []) ?_ ?_
    exact ⟨by (repeat refine ⟨⟨_, rfl, by first | exact VLe.rf | exact vle_int (by dsimp only; omega)⟩, ?_⟩); exact trivial, by (repeat refine ⟨⟨_, rfl, by first | exact BLe.rf | exact BLe.box AllC.rf | exact BLe.arr (by first | (rw [flatTo_zero, List.append_nil]; done) | (rw [hpl, flatTo_zero, List.append_nil]; done) | (rw [← flatTo_more (f := actBytes) (k := j) (by omega)]; simp only [actBytes, hp1, hp2, List.append_assoc, List.cons_append, List.nil_append]; done) | (exfalso; omega))⟩, ?_⟩); exact trivial, by repeat (first | exact trivial | refine ⟨⟨rfl, by first | (left; intro h; cases h) | (right; rfl), by first | exact (fun _ h => ⟨_, h⟩) | exact (fun _ _ => ⟨_, rfl⟩)⟩, ?_⟩), rfl⟩
    rintro ⟨j, hinv⟩
    dsimp only
    have hj := hinv
    refine AW_seq ?_
    refine AW_region ?_
    refine AL_b (x_lss rfl rfl rfl) (fun b72 h72 => ?_)
    refine AL_nil ?_
    refine AW_seq ?_
    cases b72
    rotate_left
    · try simp only [tdy] at h72
      have hab := actB_in (actsB_get hact (k := j) (by omega))
      have hp1 : putB (m.acts[j]'(by omega)).kind 1 = [(m.acts[j]'(by omega)).kind] := putB_one (by omega) (by omega)
      have hp2 : putB (m.acts[j]'(by omega)).a 1 = [(m.acts[j]'(by omega)).a] := putB_one (by omega) (by omega)
      have haj := haf j
      refine AW_condT rfl ?_
      refine AW_skip ?_
      refine AW_seq ?_
      refine AW_block ?_
      refine AW_seq ?_
      refine AW_region ?_
      refine AL_p (x_index (E := 114) (n := 3) rfl rfl rfl (by kernel_rfl) rfl (k := j) (by omega) (by omega)) ?_
      refine AL_p (x_eloadW (n := 3) rfl rfl (by kernel_rfl) rfl) ?_
      refine AL_p (x_alloc (z := .agg #[.int .i64 0, .int .i64 0, .int .i64 0]) 107 rfl (by kernel_rfl) rfl rfl rfl rfl) ?_
      refine AL_p (x_store (n := 3) rfl rfl rfl rfl (by kernel_rfl) rfl rfl rfl) ?_
      refine AL_nil ?_
      refine AW_seq ?_
      refine AW_region ?_
      refine AL_p (x_move rfl rfl) ?_
      refine AL_p (x_field (off := 0) (o' := 0) rfl rfl rfl (by kernel_rfl) rfl) ?_
      refine AL_p (x_load1 rfl rfl rfl (by kernel_rfl) rfl) ?_
      refine AL_p (x_callR rfl rfl rfl (putNumS_c _ (m.acts[j]'(by omega)).kind 1 (by omega) (by have e : (256 : Int) ^ 1 = 256 := rfl; omega) (by omega) (by omega) (by (try simp only [List.length_append, List.length_cons, List.length_nil, putB_len, pairTo_len]); omega) 108) rfl AllV.rf rfl rfl rfl rfl rfl) ?_
      refine AL_p (x_move rfl rfl) ?_
      refine AL_p (x_extract rfl rfl rfl) ?_
      refine AL_p (x_extract rfl rfl rfl) ?_
      refine AL_p (x_assign rfl rfl) ?_
      refine AL_nil ?_
      refine AW_seq ?_
      refine AW_region ?_
      refine AL_p (x_move rfl rfl) ?_
      refine AL_p (x_field (off := 1) (o' := 1) rfl rfl rfl (by kernel_rfl) rfl) ?_
      refine AL_p (x_load1 rfl rfl rfl (by kernel_rfl) rfl) ?_
      refine AL_p (x_callR rfl rfl rfl (putNumS_c _ (m.acts[j]'(by omega)).a 1 (by omega) (by have e : (256 : Int) ^ 1 = 256 := rfl; omega) (by omega) (by omega) (by (try simp only [List.length_append, List.length_cons, List.length_nil, putB_len, pairTo_len]); omega) 109) rfl AllV.rf rfl rfl rfl rfl rfl) ?_
      refine AL_p (x_move rfl rfl) ?_
      refine AL_p (x_extract rfl rfl rfl) ?_
      refine AL_p (x_extract rfl rfl rfl) ?_
      refine AL_p (x_assign rfl rfl) ?_
      refine AL_nil ?_
      refine AW_region ?_
      refine AL_p (x_move rfl rfl) ?_
      refine AL_p (x_field (off := 2) (o' := 2) rfl rfl rfl (by kernel_rfl) rfl) ?_
      refine AL_p (x_load1 rfl rfl rfl (by kernel_rfl) rfl) ?_
      refine AL_p (x_callR rfl rfl rfl (putNumS_c _ (m.acts[j]'(by omega)).b 6 (by omega) (by have e : (256 : Int) ^ 6 = 281474976710656 := rfl; omega) (by omega) (by omega) (by (try simp only [List.length_append, List.length_cons, List.length_nil, putB_len, pairTo_len]); omega) 110) rfl AllV.rf rfl rfl rfl rfl rfl) ?_
      refine AL_p (x_move rfl rfl) ?_
      refine AL_p (x_extract rfl rfl rfl) ?_
      refine AL_p (x_extract rfl rfl rfl) ?_
      refine AL_p (x_assign rfl rfl) ?_
      refine AL_nil ?_
      refine AW_region ?_
      refine AL_p (x_add rfl rfl rfl (IntWalk.i64_in _ (by omega))) ?_
      refine AL_p (x_move rfl rfl) ?_
      refine AL_nil ?_
      refine ⟨⟨j + 1, by omega⟩, rn [(106, 110)], ?_, by dsimp only; omega⟩
      exact ⟨by (repeat refine ⟨⟨_, rfl, by first | exact VLe.rf | exact vle_int (by dsimp only; omega)⟩, ?_⟩); exact trivial, by (repeat refine ⟨⟨_, rfl, by first | exact BLe.rf | exact BLe.box AllC.rf | exact BLe.arr (by first | (rw [flatTo_zero, List.append_nil]; done) | (rw [hpl, flatTo_zero, List.append_nil]; done) | (rw [← flatTo_more (f := actBytes) (k := j) (by omega)]; simp only [actBytes, hp1, hp2, List.append_assoc, List.cons_append, List.nil_append]; done) | (exfalso; omega))⟩, ?_⟩); exact trivial, by repeat (first | exact trivial | refine ⟨⟨rfl, by first | (left; intro h; cases h) | (right; rfl), by first | exact (fun _ h => ⟨_, h⟩) | exact (fun _ _ => ⟨_, rfl⟩)⟩, ?_⟩), rfl⟩
    try simp only [tdy] at h72
    refine AW_condF rfl ?_
    refine AW_exit (BQ_hit ?_)
    refine AW_seq ?_
    refine AW_seq ?_
    refine AW_region ?_
    refine AL_p (x_field (off := 0) (o' := 0) rfl rfl rfl (by kernel_rfl) rfl) ?_
    refine AL_p (x_load1 rfl rfl rfl (by kernel_rfl) rfl) ?_
    refine AL_b (x_eql rfl rfl rfl) (fun b99 h99 => ?_)
    refine AL_nil ?_
    cases b99
    · try simp only [tdy] at h99
      refine AW_condF rfl ?_
      refine AW_skip ?_
      refine AW_seq ?_
      refine AW_region ?_
      refine AL_p (x_move rfl rfl) ?_
      refine AL_p (x_assign rfl rfl) ?_
      refine AL_nil ?_
      refine AW_ret ?_
      exact ⟨rn [(0, 106)], ⟨⟨⟨_, rfl, VLe.rf⟩, trivial⟩, ⟨⟨_, rfl, BLe.arr (by first | (rw [bodyB_add (by omega)]; simp only [flatTo_all (f := actBytes) (xs := m.acts) (k := j) (by omega), List.append_assoc, List.nil_append]; done) | (rw [bodyB_flip (by omega)]; done) | (rw [bodyB_flip (by omega)]; simp only [List.append_assoc, List.nil_append]; done) | (rw [bodyB_note (by omega)]; simp only [headBy, flatTo_all (f := fun n => putB n 6) (xs := m.head.v) (k := i) (by omega), List.append_assoc, List.nil_append]; done) | (rw [bodyB_note (by omega), flatTo_all (f := fun n => putB n 6) (xs := m.head.v) (k := i) (by omega)]; simp [headBy, handB, *]; done) | (rw [bodyB_none (by omega) (by omega) (by omega)]; done) | (rw [bodyB_none (by omega) (by omega) (by omega)]; simp only [List.append_nil]; done) | (exfalso; omega))⟩, trivial⟩, trivial, rfl⟩⟩
    try simp only [tdy] at h99
    have hN2 := hN (by omega)
    have hN8 := eight_8 hN2
    have hhf := head_len (l := m.head.v)
    refine AW_condT rfl ?_
    refine AW_seq ?_
    refine AW_seq ?_
    refine AW_region ?_
    refine AL_p (x_field (off := 8) (o' := 8) rfl rfl rfl (by kernel_rfl) rfl) ?_
    refine AL_b (x_load1 rfl rfl rfl (by kernel_rfl) rfl) (fun b101 h101 => ?_)
    refine AL_nil ?_
    cases b101
    rotate_left
    · try simp only [tdy] at h101
      refine AW_condT rfl ?_
      refine AW_region ?_
      refine AL_p (x_move rfl rfl) ?_
      refine AL_p (y_bslice (E := 5) (e := (intE .u8)) [.const (.int .u8 (1))] ([1]) 111 rfl rfl rfl rfl rfl rfl rfl rfl FitL.rf rfl rfl rfl rfl rfl rfl (by kernel_rfl)) ?_
      refine AL_p (y_append 112 rfl rfl rfl rfl rfl rfl rfl rfl (by kernel_rfl) (by (try simp only [List.length_append, List.length_cons, List.length_nil, putB_len, pairTo_len]); omega)) ?_
      refine AL_p (x_assign rfl rfl) ?_
      refine AL_nil ?_
      refine AW_seq ?_
      refine AW_region ?_
      refine AL_p (x_assign rfl rfl) ?_
      refine AL_nil ?_
      refine AW_block ?_
      refine AW_loop2 (ι := {q : Nat // q ≤ m.head.v.length}) (fun p => [(3, .one (.own 112)), (7, .one (.c (.int .i64 ((p.1) : Int))))]) (fun p => [(112, some (.arr 5 (intE .u8) ([handB m.hand] ++ flatTo (fun n => putB n 6) m.head.v (p.1)) true))]) [1] [100, 101, 103] (fun p => m.head.v.length - (p.1)) ⟨0, by omega⟩ (rn []) ?_ ?_
      exact ⟨by (repeat refine ⟨⟨_, rfl, by first | exact VLe.rf | exact vle_int (by dsimp only; omega)⟩, ?_⟩); exact trivial, by (repeat refine ⟨⟨_, rfl, by first | exact BLe.rf | exact BLe.box AllC.rf | exact BLe.arr (by first | (rw [flatTo_zero, List.append_nil]; simp [handB, *]; done) | (rw [← flatTo_more (f := fun n => putB n 6) (k := i) (by omega)]; simp only [List.append_assoc]; done) | (exfalso; omega))⟩, ?_⟩); exact trivial, by repeat (first | exact trivial | refine ⟨⟨rfl, by first | (left; intro h; cases h) | (right; rfl), by first | exact (fun _ h => ⟨_, h⟩) | exact (fun _ _ => ⟨_, rfl⟩)⟩, ?_⟩), rfl⟩
      rintro ⟨i, hinv⟩
      dsimp only
      have hi := hinv
      refine AW_seq ?_
      refine AW_seq ?_
      refine AW_region ?_
      refine AL_p (x_move rfl rfl) ?_
      refine AL_b (x_lss rfl rfl rfl) (fun b109 h109 => ?_)
      refine AL_nil ?_
      cases b109
      · try simp only [tdy] at h109
        refine AW_condF rfl ?_
        refine AW_exit (BQ_hit ?_)
        refine AW_seq ?_
        refine AW_region ?_
        refine AL_p (x_move rfl rfl) ?_
        refine AL_p (x_assign rfl rfl) ?_
        refine AL_nil ?_
        refine AW_ret ?_
        exact ⟨rn [(0, 112)], ⟨⟨⟨_, rfl, VLe.rf⟩, trivial⟩, ⟨⟨_, rfl, BLe.arr (by first | (rw [bodyB_add (by omega)]; simp only [flatTo_all (f := actBytes) (xs := m.acts) (k := j) (by omega), List.append_assoc, List.nil_append]; done) | (rw [bodyB_flip (by omega)]; done) | (rw [bodyB_flip (by omega)]; simp only [List.append_assoc, List.nil_append]; done) | (rw [bodyB_note (by omega)]; simp only [headBy, flatTo_all (f := fun n => putB n 6) (xs := m.head.v) (k := i) (by omega), List.append_assoc, List.nil_append]; done) | (rw [bodyB_note (by omega), flatTo_all (f := fun n => putB n 6) (xs := m.head.v) (k := i) (by omega)]; simp [headBy, handB, *]; done) | (rw [bodyB_none (by omega) (by omega) (by omega)]; done) | (rw [bodyB_none (by omega) (by omega) (by omega)]; simp only [List.append_nil]; done) | (exfalso; omega))⟩, trivial⟩, trivial, rfl⟩⟩
      try simp only [tdy] at h109
      have hf8 := fits48 (eight_get hN2 (k := i) (by omega))
      have hhi := hhf i
      refine AW_condT rfl ?_
      refine AW_skip ?_
      refine AW_seq ?_
      refine AW_block ?_
      refine AW_region ?_
      refine AL_p (x_move rfl rfl) ?_
      refine AL_p (x_field (off := 9) (o' := 9) rfl rfl rfl (by kernel_rfl) rfl) ?_
      refine AL_p (x_field (off := 0) (o' := 9) rfl rfl rfl (by kernel_rfl) rfl) ?_
      refine AL_p (x_load1 rfl rfl rfl (by kernel_rfl) rfl) ?_
      refine AL_p (x_move rfl rfl) ?_
      refine AL_p (x_index (E := 3) (n := 1) rfl rfl rfl (by kernel_rfl) rfl (k := i) (by omega) (by omega)) ?_
      refine AL_p (x_eload1 rfl rfl (by kernel_rfl) rfl) ?_
      refine AL_p (x_callR rfl rfl rfl (putNumS_c _ (m.head.v[i]'(by omega)) 6 (by omega) (by have e : (256 : Int) ^ 6 = 281474976710656 := rfl; omega) (by omega) (by omega) (by (try simp only [List.length_append, List.length_cons, List.length_nil, putB_len, pairTo_len]); omega) 113) rfl AllV.rf rfl rfl rfl rfl rfl) ?_
      refine AL_p (x_move rfl rfl) ?_
      refine AL_p (x_extract rfl rfl rfl) ?_
      refine AL_p (x_extract rfl rfl rfl) ?_
      refine AL_p (x_assign rfl rfl) ?_
      refine AL_nil ?_
      refine AW_region ?_
      refine AL_p (x_move rfl rfl) ?_
      refine AL_p (x_add rfl rfl rfl (IntWalk.i64_in _ (by omega))) ?_
      refine AL_p (x_assign rfl rfl) ?_
      refine AL_nil ?_
      refine ⟨⟨i + 1, by omega⟩, rn [(112, 113)], ?_, by dsimp only; omega⟩
      exact ⟨by (repeat refine ⟨⟨_, rfl, by first | exact VLe.rf | exact vle_int (by dsimp only; omega)⟩, ?_⟩); exact trivial, by (repeat refine ⟨⟨_, rfl, by first | exact BLe.rf | exact BLe.box AllC.rf | exact BLe.arr (by first | (rw [flatTo_zero, List.append_nil]; simp [handB, *]; done) | (rw [← flatTo_more (f := fun n => putB n 6) (k := i) (by omega)]; simp only [List.append_assoc]; done) | (exfalso; omega))⟩, ?_⟩); exact trivial, by repeat (first | exact trivial | refine ⟨⟨rfl, by first | (left; intro h; cases h) | (right; rfl), by first | exact (fun _ h => ⟨_, h⟩) | exact (fun _ _ => ⟨_, rfl⟩)⟩, ?_⟩), rfl⟩
    try simp only [tdy] at h101
    refine AW_condF rfl ?_
    refine AW_region ?_
    refine AL_p (x_move rfl rfl) ?_
    refine AL_p (y_bslice (E := 5) (e := (intE .u8)) [.const (.int .u8 (0))] ([0]) 114 rfl rfl rfl rfl rfl rfl rfl rfl FitL.rf rfl rfl rfl rfl rfl rfl (by kernel_rfl)) ?_
    refine AL_p (y_append 115 rfl rfl rfl rfl rfl rfl rfl rfl (by kernel_rfl) (by (try simp only [List.length_append, List.length_cons, List.length_nil, putB_len, pairTo_len]); omega)) ?_
    refine AL_p (x_assign rfl rfl) ?_
    refine AL_nil ?_
    refine AW_seq ?_
    refine AW_region ?_
    refine AL_p (x_assign rfl rfl) ?_
    refine AL_nil ?_
    refine AW_block ?_
    refine AW_loop2 (ι := {q : Nat // q ≤ m.head.v.length}) (fun p => [(3, .one (.own 115)), (7, .one (.c (.int .i64 ((p.1) : Int))))]) (fun p => [(115, some (.arr 5 (intE .u8) ([handB m.hand] ++ flatTo (fun n => putB n 6) m.head.v (p.1)) true))]) [1] [100, 101, 103] (fun p => m.head.v.length - (p.1)) ⟨0, by omega⟩ (rn []) ?_ ?_
    exact ⟨by (repeat refine ⟨⟨_, rfl, by first | exact VLe.rf | exact vle_int (by dsimp only; omega)⟩, ?_⟩); exact trivial, by (repeat refine ⟨⟨_, rfl, by first | exact BLe.rf | exact BLe.box AllC.rf | exact BLe.arr (by first | (rw [flatTo_zero, List.append_nil]; simp [handB, *]; done) | (rw [← flatTo_more (f := fun n => putB n 6) (k := i) (by omega)]; simp only [List.append_assoc]; done) | (exfalso; omega))⟩, ?_⟩); exact trivial, by repeat (first | exact trivial | refine ⟨⟨rfl, by first | (left; intro h; cases h) | (right; rfl), by first | exact (fun _ h => ⟨_, h⟩) | exact (fun _ _ => ⟨_, rfl⟩)⟩, ?_⟩), rfl⟩
    rintro ⟨i, hinv⟩
    dsimp only
    have hi := hinv
    refine AW_seq ?_
    refine AW_seq ?_
    refine AW_region ?_
    refine AL_p (x_move rfl rfl) ?_
    refine AL_b (x_lss rfl rfl rfl) (fun b109 h109 => ?_)
    refine AL_nil ?_
    cases b109
    · try simp only [tdy] at h109
      refine AW_condF rfl ?_
      refine AW_exit (BQ_hit ?_)
      refine AW_seq ?_
      refine AW_region ?_
      refine AL_p (x_move rfl rfl) ?_
      refine AL_p (x_assign rfl rfl) ?_
      refine AL_nil ?_
      refine AW_ret ?_
      exact ⟨rn [(0, 115)], ⟨⟨⟨_, rfl, VLe.rf⟩, trivial⟩, ⟨⟨_, rfl, BLe.arr (by first | (rw [bodyB_add (by omega)]; simp only [flatTo_all (f := actBytes) (xs := m.acts) (k := j) (by omega), List.append_assoc, List.nil_append]; done) | (rw [bodyB_flip (by omega)]; done) | (rw [bodyB_flip (by omega)]; simp only [List.append_assoc, List.nil_append]; done) | (rw [bodyB_note (by omega)]; simp only [headBy, flatTo_all (f := fun n => putB n 6) (xs := m.head.v) (k := i) (by omega), List.append_assoc, List.nil_append]; done) | (rw [bodyB_note (by omega), flatTo_all (f := fun n => putB n 6) (xs := m.head.v) (k := i) (by omega)]; simp [headBy, handB, *]; done) | (rw [bodyB_none (by omega) (by omega) (by omega)]; done) | (rw [bodyB_none (by omega) (by omega) (by omega)]; simp only [List.append_nil]; done) | (exfalso; omega))⟩, trivial⟩, trivial, rfl⟩⟩
    try simp only [tdy] at h109
    have hf8 := fits48 (eight_get hN2 (k := i) (by omega))
    have hhi := hhf i
    refine AW_condT rfl ?_
    refine AW_skip ?_
    refine AW_seq ?_
    refine AW_block ?_
    refine AW_region ?_
    refine AL_p (x_move rfl rfl) ?_
    refine AL_p (x_field (off := 9) (o' := 9) rfl rfl rfl (by kernel_rfl) rfl) ?_
    refine AL_p (x_field (off := 0) (o' := 9) rfl rfl rfl (by kernel_rfl) rfl) ?_
    refine AL_p (x_load1 rfl rfl rfl (by kernel_rfl) rfl) ?_
    refine AL_p (x_move rfl rfl) ?_
    refine AL_p (x_index (E := 3) (n := 1) rfl rfl rfl (by kernel_rfl) rfl (k := i) (by omega) (by omega)) ?_
    refine AL_p (x_eload1 rfl rfl (by kernel_rfl) rfl) ?_
    refine AL_p (x_callR rfl rfl rfl (putNumS_c _ (m.head.v[i]'(by omega)) 6 (by omega) (by have e : (256 : Int) ^ 6 = 281474976710656 := rfl; omega) (by omega) (by omega) (by (try simp only [List.length_append, List.length_cons, List.length_nil, putB_len, pairTo_len]); omega) 113) rfl AllV.rf rfl rfl rfl rfl rfl) ?_
    refine AL_p (x_move rfl rfl) ?_
    refine AL_p (x_extract rfl rfl rfl) ?_
    refine AL_p (x_extract rfl rfl rfl) ?_
    refine AL_p (x_assign rfl rfl) ?_
    refine AL_nil ?_
    refine AW_region ?_
    refine AL_p (x_move rfl rfl) ?_
    refine AL_p (x_add rfl rfl rfl (IntWalk.i64_in _ (by omega))) ?_
    refine AL_p (x_assign rfl rfl) ?_
    refine AL_nil ?_
    refine ⟨⟨i + 1, by omega⟩, rn [(115, 113)], ?_, by dsimp only; omega⟩
    exact ⟨by (repeat refine ⟨⟨_, rfl, by first | exact VLe.rf | exact vle_int (by dsimp only; omega)⟩, ?_⟩); exact trivial, by (repeat refine ⟨⟨_, rfl, by first | exact BLe.rf | exact BLe.box AllC.rf | exact BLe.arr (by first | (rw [flatTo_zero, List.append_nil]; simp [handB, *]; done) | (rw [← flatTo_more (f := fun n => putB n 6) (k := i) (by omega)]; simp only [List.append_assoc]; done) | (exfalso; omega))⟩, ?_⟩); exact trivial, by repeat (first | exact trivial | refine ⟨⟨rfl, by first | (left; intro h; cases h) | (right; rfl), by first | exact (fun _ h => ⟨_, h⟩) | exact (fun _ _ => ⟨_, rfl⟩)⟩, ?_⟩), rfl⟩
  try simp only [tdy] at h15
  refine AW_condT rfl ?_
  refine AW_region ?_
  refine AL_p (x_move rfl rfl) ?_
  refine AL_p (x_field (off := 3) (o' := 3) rfl rfl rfl (by kernel_rfl) rfl) ?_
  refine AL_p (x_load1 rfl rfl rfl (by kernel_rfl) rfl) ?_
  refine AL_p (x_callR rfl rfl rfl (putNumS_c _ m.epoch 4 (by omega) (by have e : (256 : Int) ^ 4 = 4294967296 := rfl; omega) (by omega) (by omega) (by (try simp only [List.length_append, List.length_cons, List.length_nil, putB_len, pairTo_len]); omega) 102) rfl AllV.rf rfl rfl rfl rfl rfl) ?_
  refine AL_p (x_move rfl rfl) ?_
  refine AL_p (x_extract rfl rfl rfl) ?_
  refine AL_p (x_extract rfl rfl rfl) ?_
  refine AL_p (x_assign rfl rfl) ?_
  refine AL_nil ?_
  refine AW_seq ?_
  refine AW_seq ?_
  refine AW_region ?_
  refine AL_p (x_field (off := 0) (o' := 0) rfl rfl rfl (by kernel_rfl) rfl) ?_
  refine AL_p (x_load1 rfl rfl rfl (by kernel_rfl) rfl) ?_
  refine AL_b (x_eql rfl rfl rfl) (fun b26 h26 => ?_)
  refine AL_nil ?_
  cases b26
  · try simp only [tdy] at h26
    refine AW_condF rfl ?_
    refine AW_skip ?_
    refine AW_seq ?_
    refine AW_seq ?_
    refine AW_region ?_
    refine AL_p (x_field (off := 0) (o' := 0) rfl rfl rfl (by kernel_rfl) rfl) ?_
    refine AL_p (x_load1 rfl rfl rfl (by kernel_rfl) rfl) ?_
    refine AL_b (x_eql rfl rfl rfl) (fun b99 h99 => ?_)
    refine AL_nil ?_
    cases b99
    · try simp only [tdy] at h99
      refine AW_condF rfl ?_
      refine AW_skip ?_
      refine AW_seq ?_
      refine AW_region ?_
      refine AL_p (x_move rfl rfl) ?_
      refine AL_p (x_assign rfl rfl) ?_
      refine AL_nil ?_
      refine AW_ret ?_
      exact ⟨rn [(0, 102)], ⟨⟨⟨_, rfl, VLe.rf⟩, trivial⟩, ⟨⟨_, rfl, BLe.arr (by first | (rw [bodyB_add (by omega)]; simp only [flatTo_all (f := actBytes) (xs := m.acts) (k := j) (by omega), List.append_assoc, List.nil_append]; done) | (rw [bodyB_flip (by omega)]; done) | (rw [bodyB_flip (by omega)]; simp only [List.append_assoc, List.nil_append]; done) | (rw [bodyB_note (by omega)]; simp only [headBy, flatTo_all (f := fun n => putB n 6) (xs := m.head.v) (k := i) (by omega), List.append_assoc, List.nil_append]; done) | (rw [bodyB_note (by omega), flatTo_all (f := fun n => putB n 6) (xs := m.head.v) (k := i) (by omega)]; simp [headBy, handB, *]; done) | (rw [bodyB_none (by omega) (by omega) (by omega)]; done) | (rw [bodyB_none (by omega) (by omega) (by omega)]; simp only [List.append_nil]; done) | (exfalso; omega))⟩, trivial⟩, trivial, rfl⟩⟩
    try simp only [tdy] at h99
    have hN2 := hN (by omega)
    have hN8 := eight_8 hN2
    have hhf := head_len (l := m.head.v)
    refine AW_condT rfl ?_
    refine AW_seq ?_
    refine AW_seq ?_
    refine AW_region ?_
    refine AL_p (x_field (off := 8) (o' := 8) rfl rfl rfl (by kernel_rfl) rfl) ?_
    refine AL_b (x_load1 rfl rfl rfl (by kernel_rfl) rfl) (fun b101 h101 => ?_)
    refine AL_nil ?_
    cases b101
    rotate_left
    · try simp only [tdy] at h101
      refine AW_condT rfl ?_
      refine AW_region ?_
      refine AL_p (x_move rfl rfl) ?_
      refine AL_p (y_bslice (E := 5) (e := (intE .u8)) [.const (.int .u8 (1))] ([1]) 111 rfl rfl rfl rfl rfl rfl rfl rfl FitL.rf rfl rfl rfl rfl rfl rfl (by kernel_rfl)) ?_
      refine AL_p (y_append 112 rfl rfl rfl rfl rfl rfl rfl rfl (by kernel_rfl) (by (try simp only [List.length_append, List.length_cons, List.length_nil, putB_len, pairTo_len]); omega)) ?_
      refine AL_p (x_assign rfl rfl) ?_
      refine AL_nil ?_
      refine AW_seq ?_
      refine AW_region ?_
      refine AL_p (x_assign rfl rfl) ?_
      refine AL_nil ?_
      refine AW_block ?_
      refine AW_loop2 (ι := {q : Nat // q ≤ m.head.v.length}) (fun p => [(3, .one (.own 112)), (7, .one (.c (.int .i64 ((p.1) : Int))))]) (fun p => [(112, some (.arr 5 (intE .u8) ([handB m.hand] ++ flatTo (fun n => putB n 6) m.head.v (p.1)) true))]) [1] [100, 101] (fun p => m.head.v.length - (p.1)) ⟨0, by omega⟩ (rn []) ?_ ?_
      exact ⟨by (repeat refine ⟨⟨_, rfl, by first | exact VLe.rf | exact vle_int (by dsimp only; omega)⟩, ?_⟩); exact trivial, by (repeat refine ⟨⟨_, rfl, by first | exact BLe.rf | exact BLe.box AllC.rf | exact BLe.arr (by first | (rw [flatTo_zero, List.append_nil]; simp [handB, *]; done) | (rw [← flatTo_more (f := fun n => putB n 6) (k := i) (by omega)]; simp only [List.append_assoc]; done) | (exfalso; omega))⟩, ?_⟩); exact trivial, by repeat (first | exact trivial | refine ⟨⟨rfl, by first | (left; intro h; cases h) | (right; rfl), by first | exact (fun _ h => ⟨_, h⟩) | exact (fun _ _ => ⟨_, rfl⟩)⟩, ?_⟩), rfl⟩
      rintro ⟨i, hinv⟩
      dsimp only
      have hi := hinv
      refine AW_seq ?_
      refine AW_seq ?_
      refine AW_region ?_
      refine AL_p (x_move rfl rfl) ?_
      refine AL_b (x_lss rfl rfl rfl) (fun b109 h109 => ?_)
      refine AL_nil ?_
      cases b109
      · try simp only [tdy] at h109
        refine AW_condF rfl ?_
        refine AW_exit (BQ_hit ?_)
        refine AW_seq ?_
        refine AW_region ?_
        refine AL_p (x_move rfl rfl) ?_
        refine AL_p (x_assign rfl rfl) ?_
        refine AL_nil ?_
        refine AW_ret ?_
        exact ⟨rn [(0, 112)], ⟨⟨⟨_, rfl, VLe.rf⟩, trivial⟩, ⟨⟨_, rfl, BLe.arr (by first | (rw [bodyB_add (by omega)]; simp only [flatTo_all (f := actBytes) (xs := m.acts) (k := j) (by omega), List.append_assoc, List.nil_append]; done) | (rw [bodyB_flip (by omega)]; done) | (rw [bodyB_flip (by omega)]; simp only [List.append_assoc, List.nil_append]; done) | (rw [bodyB_note (by omega)]; simp only [headBy, flatTo_all (f := fun n => putB n 6) (xs := m.head.v) (k := i) (by omega), List.append_assoc, List.nil_append]; done) | (rw [bodyB_note (by omega), flatTo_all (f := fun n => putB n 6) (xs := m.head.v) (k := i) (by omega)]; simp [headBy, handB, *]; done) | (rw [bodyB_none (by omega) (by omega) (by omega)]; done) | (rw [bodyB_none (by omega) (by omega) (by omega)]; simp only [List.append_nil]; done) | (exfalso; omega))⟩, trivial⟩, trivial, rfl⟩⟩
      try simp only [tdy] at h109
      have hf8 := fits48 (eight_get hN2 (k := i) (by omega))
      have hhi := hhf i
      refine AW_condT rfl ?_
      refine AW_skip ?_
      refine AW_seq ?_
      refine AW_block ?_
      refine AW_region ?_
      refine AL_p (x_move rfl rfl) ?_
      refine AL_p (x_field (off := 9) (o' := 9) rfl rfl rfl (by kernel_rfl) rfl) ?_
      refine AL_p (x_field (off := 0) (o' := 9) rfl rfl rfl (by kernel_rfl) rfl) ?_
      refine AL_p (x_load1 rfl rfl rfl (by kernel_rfl) rfl) ?_
      refine AL_p (x_move rfl rfl) ?_
      refine AL_p (x_index (E := 3) (n := 1) rfl rfl rfl (by kernel_rfl) rfl (k := i) (by omega) (by omega)) ?_
      refine AL_p (x_eload1 rfl rfl (by kernel_rfl) rfl) ?_
      refine AL_p (x_callR rfl rfl rfl (putNumS_c _ (m.head.v[i]'(by omega)) 6 (by omega) (by have e : (256 : Int) ^ 6 = 281474976710656 := rfl; omega) (by omega) (by omega) (by (try simp only [List.length_append, List.length_cons, List.length_nil, putB_len, pairTo_len]); omega) 113) rfl AllV.rf rfl rfl rfl rfl rfl) ?_
      refine AL_p (x_move rfl rfl) ?_
      refine AL_p (x_extract rfl rfl rfl) ?_
      refine AL_p (x_extract rfl rfl rfl) ?_
      refine AL_p (x_assign rfl rfl) ?_
      refine AL_nil ?_
      refine AW_region ?_
      refine AL_p (x_move rfl rfl) ?_
      refine AL_p (x_add rfl rfl rfl (IntWalk.i64_in _ (by omega))) ?_
      refine AL_p (x_assign rfl rfl) ?_
      refine AL_nil ?_
      refine ⟨⟨i + 1, by omega⟩, rn [(112, 113)], ?_, by dsimp only; omega⟩
      exact ⟨by (repeat refine ⟨⟨_, rfl, by first | exact VLe.rf | exact vle_int (by dsimp only; omega)⟩, ?_⟩); exact trivial, by (repeat refine ⟨⟨_, rfl, by first | exact BLe.rf | exact BLe.box AllC.rf | exact BLe.arr (by first | (rw [flatTo_zero, List.append_nil]; simp [handB, *]; done) | (rw [← flatTo_more (f := fun n => putB n 6) (k := i) (by omega)]; simp only [List.append_assoc]; done) | (exfalso; omega))⟩, ?_⟩); exact trivial, by repeat (first | exact trivial | refine ⟨⟨rfl, by first | (left; intro h; cases h) | (right; rfl), by first | exact (fun _ h => ⟨_, h⟩) | exact (fun _ _ => ⟨_, rfl⟩)⟩, ?_⟩), rfl⟩
    try simp only [tdy] at h101
    refine AW_condF rfl ?_
    refine AW_region ?_
    refine AL_p (x_move rfl rfl) ?_
    refine AL_p (y_bslice (E := 5) (e := (intE .u8)) [.const (.int .u8 (0))] ([0]) 114 rfl rfl rfl rfl rfl rfl rfl rfl FitL.rf rfl rfl rfl rfl rfl rfl (by kernel_rfl)) ?_
    refine AL_p (y_append 115 rfl rfl rfl rfl rfl rfl rfl rfl (by kernel_rfl) (by (try simp only [List.length_append, List.length_cons, List.length_nil, putB_len, pairTo_len]); omega)) ?_
    refine AL_p (x_assign rfl rfl) ?_
    refine AL_nil ?_
    refine AW_seq ?_
    refine AW_region ?_
    refine AL_p (x_assign rfl rfl) ?_
    refine AL_nil ?_
    refine AW_block ?_
    refine AW_loop2 (ι := {q : Nat // q ≤ m.head.v.length}) (fun p => [(3, .one (.own 115)), (7, .one (.c (.int .i64 ((p.1) : Int))))]) (fun p => [(115, some (.arr 5 (intE .u8) ([handB m.hand] ++ flatTo (fun n => putB n 6) m.head.v (p.1)) true))]) [1] [100, 101] (fun p => m.head.v.length - (p.1)) ⟨0, by omega⟩ (rn []) ?_ ?_
    exact ⟨by (repeat refine ⟨⟨_, rfl, by first | exact VLe.rf | exact vle_int (by dsimp only; omega)⟩, ?_⟩); exact trivial, by (repeat refine ⟨⟨_, rfl, by first | exact BLe.rf | exact BLe.box AllC.rf | exact BLe.arr (by first | (rw [flatTo_zero, List.append_nil]; simp [handB, *]; done) | (rw [← flatTo_more (f := fun n => putB n 6) (k := i) (by omega)]; simp only [List.append_assoc]; done) | (exfalso; omega))⟩, ?_⟩); exact trivial, by repeat (first | exact trivial | refine ⟨⟨rfl, by first | (left; intro h; cases h) | (right; rfl), by first | exact (fun _ h => ⟨_, h⟩) | exact (fun _ _ => ⟨_, rfl⟩)⟩, ?_⟩), rfl⟩
    rintro ⟨i, hinv⟩
    dsimp only
    have hi := hinv
    refine AW_seq ?_
    refine AW_seq ?_
    refine AW_region ?_
    refine AL_p (x_move rfl rfl) ?_
    refine AL_b (x_lss rfl rfl rfl) (fun b109 h109 => ?_)
    refine AL_nil ?_
    cases b109
    · try simp only [tdy] at h109
      refine AW_condF rfl ?_
      refine AW_exit (BQ_hit ?_)
      refine AW_seq ?_
      refine AW_region ?_
      refine AL_p (x_move rfl rfl) ?_
      refine AL_p (x_assign rfl rfl) ?_
      refine AL_nil ?_
      refine AW_ret ?_
      exact ⟨rn [(0, 115)], ⟨⟨⟨_, rfl, VLe.rf⟩, trivial⟩, ⟨⟨_, rfl, BLe.arr (by first | (rw [bodyB_add (by omega)]; simp only [flatTo_all (f := actBytes) (xs := m.acts) (k := j) (by omega), List.append_assoc, List.nil_append]; done) | (rw [bodyB_flip (by omega)]; done) | (rw [bodyB_flip (by omega)]; simp only [List.append_assoc, List.nil_append]; done) | (rw [bodyB_note (by omega)]; simp only [headBy, flatTo_all (f := fun n => putB n 6) (xs := m.head.v) (k := i) (by omega), List.append_assoc, List.nil_append]; done) | (rw [bodyB_note (by omega), flatTo_all (f := fun n => putB n 6) (xs := m.head.v) (k := i) (by omega)]; simp [headBy, handB, *]; done) | (rw [bodyB_none (by omega) (by omega) (by omega)]; done) | (rw [bodyB_none (by omega) (by omega) (by omega)]; simp only [List.append_nil]; done) | (exfalso; omega))⟩, trivial⟩, trivial, rfl⟩⟩
    try simp only [tdy] at h109
    have hf8 := fits48 (eight_get hN2 (k := i) (by omega))
    have hhi := hhf i
    refine AW_condT rfl ?_
    refine AW_skip ?_
    refine AW_seq ?_
    refine AW_block ?_
    refine AW_region ?_
    refine AL_p (x_move rfl rfl) ?_
    refine AL_p (x_field (off := 9) (o' := 9) rfl rfl rfl (by kernel_rfl) rfl) ?_
    refine AL_p (x_field (off := 0) (o' := 9) rfl rfl rfl (by kernel_rfl) rfl) ?_
    refine AL_p (x_load1 rfl rfl rfl (by kernel_rfl) rfl) ?_
    refine AL_p (x_move rfl rfl) ?_
    refine AL_p (x_index (E := 3) (n := 1) rfl rfl rfl (by kernel_rfl) rfl (k := i) (by omega) (by omega)) ?_
    refine AL_p (x_eload1 rfl rfl (by kernel_rfl) rfl) ?_
    refine AL_p (x_callR rfl rfl rfl (putNumS_c _ (m.head.v[i]'(by omega)) 6 (by omega) (by have e : (256 : Int) ^ 6 = 281474976710656 := rfl; omega) (by omega) (by omega) (by (try simp only [List.length_append, List.length_cons, List.length_nil, putB_len, pairTo_len]); omega) 113) rfl AllV.rf rfl rfl rfl rfl rfl) ?_
    refine AL_p (x_move rfl rfl) ?_
    refine AL_p (x_extract rfl rfl rfl) ?_
    refine AL_p (x_extract rfl rfl rfl) ?_
    refine AL_p (x_assign rfl rfl) ?_
    refine AL_nil ?_
    refine AW_region ?_
    refine AL_p (x_move rfl rfl) ?_
    refine AL_p (x_add rfl rfl rfl (IntWalk.i64_in _ (by omega))) ?_
    refine AL_p (x_assign rfl rfl) ?_
    refine AL_nil ?_
    refine ⟨⟨i + 1, by omega⟩, rn [(115, 113)], ?_, by dsimp only; omega⟩
    exact ⟨by (repeat refine ⟨⟨_, rfl, by first | exact VLe.rf | exact vle_int (by dsimp only; omega)⟩, ?_⟩); exact trivial, by (repeat refine ⟨⟨_, rfl, by first | exact BLe.rf | exact BLe.box AllC.rf | exact BLe.arr (by first | (rw [flatTo_zero, List.append_nil]; simp [handB, *]; done) | (rw [← flatTo_more (f := fun n => putB n 6) (k := i) (by omega)]; simp only [List.append_assoc]; done) | (exfalso; omega))⟩, ?_⟩); exact trivial, by repeat (first | exact trivial | refine ⟨⟨rfl, by first | (left; intro h; cases h) | (right; rfl), by first | exact (fun _ h => ⟨_, h⟩) | exact (fun _ _ => ⟨_, rfl⟩)⟩, ?_⟩), rfl⟩
  try simp only [tdy] at h26
  have hA2 := hA (by omega)
  have hmat := hA2.2.1
  have hact := hA2.2.2
  have hA3 := hA2.1
  have ha12 := actsB_12 hact
  have hpl : putB (m.acts.length : Int) 1 = [(m.acts.length : Int)] := putB_one (by omega) (by omega)
  have haf := acts_len (l := m.acts)
  refine AW_condT rfl ?_
  refine AW_seq ?_
  refine AW_region ?_
  refine AL_p (x_move rfl rfl) ?_
  refine AL_p (x_field (off := 4) (o' := 4) rfl rfl rfl (by kernel_rfl) rfl) ?_
  refine AL_p (x_load1 rfl rfl rfl (by kernel_rfl) rfl) ?_
  refine AL_p (x_callR rfl rfl rfl (putNumS_c _ m.prio 2 (by omega) (by have e : (256 : Int) ^ 2 = 65536 := rfl; omega) (by omega) (by omega) (by (try simp only [List.length_append, List.length_cons, List.length_nil, putB_len, pairTo_len]); omega) 103) rfl AllV.rf rfl rfl rfl rfl rfl) ?_
  refine AL_p (x_move rfl rfl) ?_
  refine AL_p (x_extract rfl rfl rfl) ?_
  refine AL_p (x_extract rfl rfl rfl) ?_
  refine AL_p (x_assign rfl rfl) ?_
  refine AL_nil ?_
  refine AW_seq ?_
  refine AW_seq ?_
  refine AW_region ?_
  refine AL_p (x_assign rfl rfl) ?_
  refine AL_nil ?_
  refine AW_block ?_
  refine AW_loop2 (ι := {q : Nat // q ≤ 8}) (fun p => [(3, .one (.own 103)), (4, .one (.c (.int .i64 ((p.1) : Int))))]) (fun p => [(103, some (.arr 5 (intE .u8) (putB m.epoch 4 ++ putB m.prio 2 ++ pairTo m.mat (p.1)) true))]) [1] [100, 101, 102] (fun p => 8 - (p.1)) ⟨0, by omega⟩ (rn []) ?_ ?_
  exact ⟨by (repeat refine ⟨⟨_, rfl, by first | exact VLe.rf | exact vle_int (by dsimp only; omega)⟩, ?_⟩); exact trivial, by (repeat refine ⟨⟨_, rfl, by first | exact BLe.rf | exact BLe.box AllC.rf | exact BLe.arr (by first | (rw [pairTo_zero, List.append_nil]; done) | (rw [← pairTo_more hv1 hm1]; simp only [List.append_assoc]; done) | (exfalso; omega))⟩, ?_⟩); exact trivial, by repeat (first | exact trivial | refine ⟨⟨rfl, by first | (left; intro h; cases h) | (right; rfl), by first | exact (fun _ h => ⟨_, h⟩) | exact (fun _ _ => ⟨_, rfl⟩)⟩, ?_⟩), rfl⟩
  rintro ⟨k, hinv⟩
  dsimp only
  have hk := hinv
  refine AW_seq ?_
  refine AW_seq ?_
  refine AW_region ?_
  refine AL_p (x_move rfl rfl) ?_
  refine AL_b (x_lss rfl rfl rfl) (fun b35 h35 => ?_)
  refine AL_nil ?_
  cases b35
  rotate_left
  · try simp only [tdy] at h35
    obtain ⟨hv1, hm1, hvr, hmr⟩ := matchB_get hmat (fun x hx => (hi0_5 x hx).2) (k := k) (by omega)
    refine AW_condT rfl ?_
    refine AW_skip ?_
    refine AW_seq ?_
    refine AW_block ?_
    refine AW_seq ?_
    refine AW_region ?_
    refine AL_p (x_move rfl rfl) ?_
    refine AL_p (x_field (off := 5) (o' := 5) rfl rfl rfl (by kernel_rfl) rfl) ?_
    refine AL_p (x_field (off := 0) (o' := 5) rfl rfl rfl (by kernel_rfl) rfl) ?_
    refine AL_p (x_load1 rfl rfl rfl (by kernel_rfl) rfl) ?_
    refine AL_p (x_move rfl rfl) ?_
    refine AL_p (x_index (E := 3) (n := 1) rfl rfl rfl (by kernel_rfl) rfl (k := k) (by omega) (by omega)) ?_
    refine AL_p (x_eload1 rfl rfl (by kernel_rfl) rfl) ?_
    refine AL_p (x_callR rfl rfl rfl (putNumS_c _ (m.mat.v[k]'hv1) 6 (by omega) (by have e : (256 : Int) ^ 6 = 281474976710656 := rfl; omega) (by omega) (by omega) (by (try simp only [List.length_append, List.length_cons, List.length_nil, putB_len, pairTo_len]); omega) 104) rfl AllV.rf rfl rfl rfl rfl rfl) ?_
    refine AL_p (x_move rfl rfl) ?_
    refine AL_p (x_extract rfl rfl rfl) ?_
    refine AL_p (x_extract rfl rfl rfl) ?_
    refine AL_p (x_assign rfl rfl) ?_
    refine AL_nil ?_
    refine AW_region ?_
    refine AL_p (x_move rfl rfl) ?_
    refine AL_p (x_field (off := 5) (o' := 5) rfl rfl rfl (by kernel_rfl) rfl) ?_
    refine AL_p (x_field (off := 1) (o' := 6) rfl rfl rfl (by kernel_rfl) rfl) ?_
    refine AL_p (x_load1 rfl rfl rfl (by kernel_rfl) rfl) ?_
    refine AL_p (x_move rfl rfl) ?_
    refine AL_p (x_index (E := 3) (n := 1) rfl rfl rfl (by kernel_rfl) rfl (k := k) (by omega) (by omega)) ?_
    refine AL_p (x_eload1 rfl rfl (by kernel_rfl) rfl) ?_
    refine AL_p (x_callR rfl rfl rfl (putNumS_c _ (m.mat.m[k]'hm1) 6 (by omega) (by have e : (256 : Int) ^ 6 = 281474976710656 := rfl; omega) (by omega) (by omega) (by (try simp only [List.length_append, List.length_cons, List.length_nil, putB_len, pairTo_len]); omega) 105) rfl AllV.rf rfl rfl rfl rfl rfl) ?_
    refine AL_p (x_move rfl rfl) ?_
    refine AL_p (x_extract rfl rfl rfl) ?_
    refine AL_p (x_extract rfl rfl rfl) ?_
    refine AL_p (x_assign rfl rfl) ?_
    refine AL_nil ?_
    refine AW_region ?_
    refine AL_p (x_move rfl rfl) ?_
    refine AL_p (x_add rfl rfl rfl (IntWalk.i64_in _ (by omega))) ?_
    refine AL_p (x_assign rfl rfl) ?_
    refine AL_nil ?_
    refine ⟨⟨k + 1, by omega⟩, rn [(103, 105)], ?_, by dsimp only; omega⟩
    exact ⟨by (repeat refine ⟨⟨_, rfl, by first | exact VLe.rf | exact vle_int (by dsimp only; omega)⟩, ?_⟩); exact trivial, by (repeat refine ⟨⟨_, rfl, by first | exact BLe.rf | exact BLe.box AllC.rf | exact BLe.arr (by first | (rw [pairTo_zero, List.append_nil]; done) | (rw [← pairTo_more hv1 hm1]; simp only [List.append_assoc]; done) | (exfalso; omega))⟩, ?_⟩); exact trivial, by repeat (first | exact trivial | refine ⟨⟨rfl, by first | (left; intro h; cases h) | (right; rfl), by first | exact (fun _ h => ⟨_, h⟩) | exact (fun _ _ => ⟨_, rfl⟩)⟩, ?_⟩), rfl⟩
  try simp only [tdy] at h35
  obtain rfl : k = 8 := by omega
  refine AW_condF rfl ?_
  refine AW_exit (BQ_hit ?_)
  refine AW_seq ?_
  refine AW_region ?_
  refine AL_p (x_move rfl rfl) ?_
  refine AL_p (x_field (off := 7) (o' := 7) rfl rfl rfl (by kernel_rfl) rfl) ?_
  refine AL_p (x_load1 rfl rfl rfl (by kernel_rfl) rfl) ?_
  refine AL_p (x_len (E := 114) (n := 3) rfl rfl (by kernel_rfl)) ?_
  refine AL_p (x_callR rfl rfl rfl (putNumS_c _ (m.acts.length : Int) 1 (by omega) (by have e : (256 : Int) ^ 1 = 256 := rfl; omega) (by omega) (by omega) (by (try simp only [List.length_append, List.length_cons, List.length_nil, putB_len, pairTo_len]); omega) 106) rfl AllV.rf rfl rfl rfl rfl rfl) ?_
  refine AL_p (x_move rfl rfl) ?_
  refine AL_p (x_extract rfl rfl rfl) ?_
  refine AL_p (x_extract rfl rfl rfl) ?_
  refine AL_p (x_assign rfl rfl) ?_
  refine AL_nil ?_
  refine AW_seq ?_
  refine AW_region ?_
  refine AL_p (x_field (off := 7) (o' := 7) rfl rfl rfl (by kernel_rfl) rfl) ?_
  refine AL_p (x_load1 rfl rfl rfl (by kernel_rfl) rfl) ?_
  refine AL_p (x_len (E := 114) (n := 3) rfl rfl (by kernel_rfl)) ?_
  refine AL_p (x_move rfl rfl) ?_
  refine AL_nil ?_
  refine AW_block ?_
  refine AW_loop2 (ι := {q : Nat // q ≤ m.acts.length}) (fun p => [(3, .one (.own 106)), (71, .one (.c (.int .i64 ((p.1) : Int))))]) (fun p => [(106, some (.arr 5 (intE .u8) (putB m.epoch 4 ++ putB m.prio 2 ++ pairTo m.mat 8 ++ [(m.acts.length : Int)] ++ flatTo actBytes m.acts (p.1)) true))]) [1, 69, 70] [100, 101, 102, 103] (fun p => m.acts.length - (p.1)) ⟨0, by omega⟩ (rn []) ?_ ?_
  exact ⟨by (repeat refine ⟨⟨_, rfl, by first | exact VLe.rf | exact vle_int (by dsimp only; omega)⟩, ?_⟩); exact trivial, by (repeat refine ⟨⟨_, rfl, by first | exact BLe.rf | exact BLe.box AllC.rf | exact BLe.arr (by first | (rw [flatTo_zero, List.append_nil]; done) | (rw [hpl, flatTo_zero, List.append_nil]; done) | (rw [← flatTo_more (f := actBytes) (k := j) (by omega)]; simp only [actBytes, hp1, hp2, List.append_assoc, List.cons_append, List.nil_append]; done) | (exfalso; omega))⟩, ?_⟩); exact trivial, by repeat (first | exact trivial | refine ⟨⟨rfl, by first | (left; intro h; cases h) | (right; rfl), by first | exact (fun _ h => ⟨_, h⟩) | exact (fun _ _ => ⟨_, rfl⟩)⟩, ?_⟩), rfl⟩
  rintro ⟨j, hinv⟩
  dsimp only
  have hj := hinv
  refine AW_seq ?_
  refine AW_region ?_
  refine AL_b (x_lss rfl rfl rfl) (fun b72 h72 => ?_)
  refine AL_nil ?_
  refine AW_seq ?_
  cases b72
  rotate_left
  · try simp only [tdy] at h72
    have hab := actB_in (actsB_get hact (k := j) (by omega))
    have hp1 : putB (m.acts[j]'(by omega)).kind 1 = [(m.acts[j]'(by omega)).kind] := putB_one (by omega) (by omega)
    have hp2 : putB (m.acts[j]'(by omega)).a 1 = [(m.acts[j]'(by omega)).a] := putB_one (by omega) (by omega)
    have haj := haf j
    refine AW_condT rfl ?_
    refine AW_skip ?_
    refine AW_seq ?_
    refine AW_block ?_
    refine AW_seq ?_
    refine AW_region ?_
    refine AL_p (x_index (E := 114) (n := 3) rfl rfl rfl (by kernel_rfl) rfl (k := j) (by omega) (by omega)) ?_
    refine AL_p (x_eloadW (n := 3) rfl rfl (by kernel_rfl) rfl) ?_
    refine AL_p (x_alloc (z := .agg #[.int .i64 0, .int .i64 0, .int .i64 0]) 107 rfl (by kernel_rfl) rfl rfl rfl rfl) ?_
    refine AL_p (x_store (n := 3) rfl rfl rfl rfl (by kernel_rfl) rfl rfl rfl) ?_
    refine AL_nil ?_
    refine AW_seq ?_
    refine AW_region ?_
    refine AL_p (x_move rfl rfl) ?_
    refine AL_p (x_field (off := 0) (o' := 0) rfl rfl rfl (by kernel_rfl) rfl) ?_
    refine AL_p (x_load1 rfl rfl rfl (by kernel_rfl) rfl) ?_
    refine AL_p (x_callR rfl rfl rfl (putNumS_c _ (m.acts[j]'(by omega)).kind 1 (by omega) (by have e : (256 : Int) ^ 1 = 256 := rfl; omega) (by omega) (by omega) (by (try simp only [List.length_append, List.length_cons, List.length_nil, putB_len, pairTo_len]); omega) 108) rfl AllV.rf rfl rfl rfl rfl rfl) ?_
    refine AL_p (x_move rfl rfl) ?_
    refine AL_p (x_extract rfl rfl rfl) ?_
    refine AL_p (x_extract rfl rfl rfl) ?_
    refine AL_p (x_assign rfl rfl) ?_
    refine AL_nil ?_
    refine AW_seq ?_
    refine AW_region ?_
    refine AL_p (x_move rfl rfl) ?_
    refine AL_p (x_field (off := 1) (o' := 1) rfl rfl rfl (by kernel_rfl) rfl) ?_
    refine AL_p (x_load1 rfl rfl rfl (by kernel_rfl) rfl) ?_
    refine AL_p (x_callR rfl rfl rfl (putNumS_c _ (m.acts[j]'(by omega)).a 1 (by omega) (by have e : (256 : Int) ^ 1 = 256 := rfl; omega) (by omega) (by omega) (by (try simp only [List.length_append, List.length_cons, List.length_nil, putB_len, pairTo_len]); omega) 109) rfl AllV.rf rfl rfl rfl rfl rfl) ?_
    refine AL_p (x_move rfl rfl) ?_
    refine AL_p (x_extract rfl rfl rfl) ?_
    refine AL_p (x_extract rfl rfl rfl) ?_
    refine AL_p (x_assign rfl rfl) ?_
    refine AL_nil ?_
    refine AW_region ?_
    refine AL_p (x_move rfl rfl) ?_
    refine AL_p (x_field (off := 2) (o' := 2) rfl rfl rfl (by kernel_rfl) rfl) ?_
    refine AL_p (x_load1 rfl rfl rfl (by kernel_rfl) rfl) ?_
    refine AL_p (x_callR rfl rfl rfl (putNumS_c _ (m.acts[j]'(by omega)).b 6 (by omega) (by have e : (256 : Int) ^ 6 = 281474976710656 := rfl; omega) (by omega) (by omega) (by (try simp only [List.length_append, List.length_cons, List.length_nil, putB_len, pairTo_len]); omega) 110) rfl AllV.rf rfl rfl rfl rfl rfl) ?_
    refine AL_p (x_move rfl rfl) ?_
    refine AL_p (x_extract rfl rfl rfl) ?_
    refine AL_p (x_extract rfl rfl rfl) ?_
    refine AL_p (x_assign rfl rfl) ?_
    refine AL_nil ?_
    refine AW_region ?_
    refine AL_p (x_add rfl rfl rfl (IntWalk.i64_in _ (by omega))) ?_
    refine AL_p (x_move rfl rfl) ?_
    refine AL_nil ?_
    refine ⟨⟨j + 1, by omega⟩, rn [(106, 110)], ?_, by dsimp only; omega⟩
    exact ⟨by (repeat refine ⟨⟨_, rfl, by first | exact VLe.rf | exact vle_int (by dsimp only; omega)⟩, ?_⟩); exact trivial, by (repeat refine ⟨⟨_, rfl, by first | exact BLe.rf | exact BLe.box AllC.rf | exact BLe.arr (by first | (rw [flatTo_zero, List.append_nil]; done) | (rw [hpl, flatTo_zero, List.append_nil]; done) | (rw [← flatTo_more (f := actBytes) (k := j) (by omega)]; simp only [actBytes, hp1, hp2, List.append_assoc, List.cons_append, List.nil_append]; done) | (exfalso; omega))⟩, ?_⟩); exact trivial, by repeat (first | exact trivial | refine ⟨⟨rfl, by first | (left; intro h; cases h) | (right; rfl), by first | exact (fun _ h => ⟨_, h⟩) | exact (fun _ _ => ⟨_, rfl⟩)⟩, ?_⟩), rfl⟩
  try simp only [tdy] at h72
  refine AW_condF rfl ?_
  refine AW_exit (BQ_hit ?_)
  refine AW_seq ?_
  refine AW_seq ?_
  refine AW_region ?_
  refine AL_p (x_field (off := 0) (o' := 0) rfl rfl rfl (by kernel_rfl) rfl) ?_
  refine AL_p (x_load1 rfl rfl rfl (by kernel_rfl) rfl) ?_
  refine AL_b (x_eql rfl rfl rfl) (fun b99 h99 => ?_)
  refine AL_nil ?_
  cases b99
  · try simp only [tdy] at h99
    refine AW_condF rfl ?_
    refine AW_skip ?_
    refine AW_seq ?_
    refine AW_region ?_
    refine AL_p (x_move rfl rfl) ?_
    refine AL_p (x_assign rfl rfl) ?_
    refine AL_nil ?_
    refine AW_ret ?_
    exact ⟨rn [(0, 106)], ⟨⟨⟨_, rfl, VLe.rf⟩, trivial⟩, ⟨⟨_, rfl, BLe.arr (by first | (rw [bodyB_add (by omega)]; simp only [flatTo_all (f := actBytes) (xs := m.acts) (k := j) (by omega), List.append_assoc, List.nil_append]; done) | (rw [bodyB_flip (by omega)]; done) | (rw [bodyB_flip (by omega)]; simp only [List.append_assoc, List.nil_append]; done) | (rw [bodyB_note (by omega)]; simp only [headBy, flatTo_all (f := fun n => putB n 6) (xs := m.head.v) (k := i) (by omega), List.append_assoc, List.nil_append]; done) | (rw [bodyB_note (by omega), flatTo_all (f := fun n => putB n 6) (xs := m.head.v) (k := i) (by omega)]; simp [headBy, handB, *]; done) | (rw [bodyB_none (by omega) (by omega) (by omega)]; done) | (rw [bodyB_none (by omega) (by omega) (by omega)]; simp only [List.append_nil]; done) | (exfalso; omega))⟩, trivial⟩, trivial, rfl⟩⟩
  try simp only [tdy] at h99
  have hN2 := hN (by omega)
  have hN8 := eight_8 hN2
  have hhf := head_len (l := m.head.v)
  refine AW_condT rfl ?_
  refine AW_seq ?_
  refine AW_seq ?_
  refine AW_region ?_
  refine AL_p (x_field (off := 8) (o' := 8) rfl rfl rfl (by kernel_rfl) rfl) ?_
  refine AL_b (x_load1 rfl rfl rfl (by kernel_rfl) rfl) (fun b101 h101 => ?_)
  refine AL_nil ?_
  cases b101
  rotate_left
  · try simp only [tdy] at h101
    refine AW_condT rfl ?_
    refine AW_region ?_
    refine AL_p (x_move rfl rfl) ?_
    refine AL_p (y_bslice (E := 5) (e := (intE .u8)) [.const (.int .u8 (1))] ([1]) 111 rfl rfl rfl rfl rfl rfl rfl rfl FitL.rf rfl rfl rfl rfl rfl rfl (by kernel_rfl)) ?_
    refine AL_p (y_append 112 rfl rfl rfl rfl rfl rfl rfl rfl (by kernel_rfl) (by (try simp only [List.length_append, List.length_cons, List.length_nil, putB_len, pairTo_len]); omega)) ?_
    refine AL_p (x_assign rfl rfl) ?_
    refine AL_nil ?_
    refine AW_seq ?_
    refine AW_region ?_
    refine AL_p (x_assign rfl rfl) ?_
    refine AL_nil ?_
    refine AW_block ?_
    refine AW_loop2 (ι := {q : Nat // q ≤ m.head.v.length}) (fun p => [(3, .one (.own 112)), (7, .one (.c (.int .i64 ((p.1) : Int))))]) (fun p => [(112, some (.arr 5 (intE .u8) ([handB m.hand] ++ flatTo (fun n => putB n 6) m.head.v (p.1)) true))]) [1] [100, 101, 102, 103] (fun p => m.head.v.length - (p.1)) ⟨0, by omega⟩ (rn []) ?_ ?_
    exact ⟨by (repeat refine ⟨⟨_, rfl, by first | exact VLe.rf | exact vle_int (by dsimp only; omega)⟩, ?_⟩); exact trivial, by (repeat refine ⟨⟨_, rfl, by first | exact BLe.rf | exact BLe.box AllC.rf | exact BLe.arr (by first | (rw [flatTo_zero, List.append_nil]; simp [handB, *]; done) | (rw [← flatTo_more (f := fun n => putB n 6) (k := i) (by omega)]; simp only [List.append_assoc]; done) | (exfalso; omega))⟩, ?_⟩); exact trivial, by repeat (first | exact trivial | refine ⟨⟨rfl, by first | (left; intro h; cases h) | (right; rfl), by first | exact (fun _ h => ⟨_, h⟩) | exact (fun _ _ => ⟨_, rfl⟩)⟩, ?_⟩), rfl⟩
    rintro ⟨i, hinv⟩
    dsimp only
    have hi := hinv
    refine AW_seq ?_
    refine AW_seq ?_
    refine AW_region ?_
    refine AL_p (x_move rfl rfl) ?_
    refine AL_b (x_lss rfl rfl rfl) (fun b109 h109 => ?_)
    refine AL_nil ?_
    cases b109
    · try simp only [tdy] at h109
      refine AW_condF rfl ?_
      refine AW_exit (BQ_hit ?_)
      refine AW_seq ?_
      refine AW_region ?_
      refine AL_p (x_move rfl rfl) ?_
      refine AL_p (x_assign rfl rfl) ?_
      refine AL_nil ?_
      refine AW_ret ?_
      exact ⟨rn [(0, 112)], ⟨⟨⟨_, rfl, VLe.rf⟩, trivial⟩, ⟨⟨_, rfl, BLe.arr (by first | (rw [bodyB_add (by omega)]; simp only [flatTo_all (f := actBytes) (xs := m.acts) (k := j) (by omega), List.append_assoc, List.nil_append]; done) | (rw [bodyB_flip (by omega)]; done) | (rw [bodyB_flip (by omega)]; simp only [List.append_assoc, List.nil_append]; done) | (rw [bodyB_note (by omega)]; simp only [headBy, flatTo_all (f := fun n => putB n 6) (xs := m.head.v) (k := i) (by omega), List.append_assoc, List.nil_append]; done) | (rw [bodyB_note (by omega), flatTo_all (f := fun n => putB n 6) (xs := m.head.v) (k := i) (by omega)]; simp [headBy, handB, *]; done) | (rw [bodyB_none (by omega) (by omega) (by omega)]; done) | (rw [bodyB_none (by omega) (by omega) (by omega)]; simp only [List.append_nil]; done) | (exfalso; omega))⟩, trivial⟩, trivial, rfl⟩⟩
    try simp only [tdy] at h109
    have hf8 := fits48 (eight_get hN2 (k := i) (by omega))
    have hhi := hhf i
    refine AW_condT rfl ?_
    refine AW_skip ?_
    refine AW_seq ?_
    refine AW_block ?_
    refine AW_region ?_
    refine AL_p (x_move rfl rfl) ?_
    refine AL_p (x_field (off := 9) (o' := 9) rfl rfl rfl (by kernel_rfl) rfl) ?_
    refine AL_p (x_field (off := 0) (o' := 9) rfl rfl rfl (by kernel_rfl) rfl) ?_
    refine AL_p (x_load1 rfl rfl rfl (by kernel_rfl) rfl) ?_
    refine AL_p (x_move rfl rfl) ?_
    refine AL_p (x_index (E := 3) (n := 1) rfl rfl rfl (by kernel_rfl) rfl (k := i) (by omega) (by omega)) ?_
    refine AL_p (x_eload1 rfl rfl (by kernel_rfl) rfl) ?_
    refine AL_p (x_callR rfl rfl rfl (putNumS_c _ (m.head.v[i]'(by omega)) 6 (by omega) (by have e : (256 : Int) ^ 6 = 281474976710656 := rfl; omega) (by omega) (by omega) (by (try simp only [List.length_append, List.length_cons, List.length_nil, putB_len, pairTo_len]); omega) 113) rfl AllV.rf rfl rfl rfl rfl rfl) ?_
    refine AL_p (x_move rfl rfl) ?_
    refine AL_p (x_extract rfl rfl rfl) ?_
    refine AL_p (x_extract rfl rfl rfl) ?_
    refine AL_p (x_assign rfl rfl) ?_
    refine AL_nil ?_
    refine AW_region ?_
    refine AL_p (x_move rfl rfl) ?_
    refine AL_p (x_add rfl rfl rfl (IntWalk.i64_in _ (by omega))) ?_
    refine AL_p (x_assign rfl rfl) ?_
    refine AL_nil ?_
    refine ⟨⟨i + 1, by omega⟩, rn [(112, 113)], ?_, by dsimp only; omega⟩
    exact ⟨by (repeat refine ⟨⟨_, rfl, by first | exact VLe.rf | exact vle_int (by dsimp only; omega)⟩, ?_⟩); exact trivial, by (repeat refine ⟨⟨_, rfl, by first | exact BLe.rf | exact BLe.box AllC.rf | exact BLe.arr (by first | (rw [flatTo_zero, List.append_nil]; simp [handB, *]; done) | (rw [← flatTo_more (f := fun n => putB n 6) (k := i) (by omega)]; simp only [List.append_assoc]; done) | (exfalso; omega))⟩, ?_⟩); exact trivial, by repeat (first | exact trivial | refine ⟨⟨rfl, by first | (left; intro h; cases h) | (right; rfl), by first | exact (fun _ h => ⟨_, h⟩) | exact (fun _ _ => ⟨_, rfl⟩)⟩, ?_⟩), rfl⟩
  try simp only [tdy] at h101
  refine AW_condF rfl ?_
  refine AW_region ?_
  refine AL_p (x_move rfl rfl) ?_
  refine AL_p (y_bslice (E := 5) (e := (intE .u8)) [.const (.int .u8 (0))] ([0]) 114 rfl rfl rfl rfl rfl rfl rfl rfl FitL.rf rfl rfl rfl rfl rfl rfl (by kernel_rfl)) ?_
  refine AL_p (y_append 115 rfl rfl rfl rfl rfl rfl rfl rfl (by kernel_rfl) (by (try simp only [List.length_append, List.length_cons, List.length_nil, putB_len, pairTo_len]); omega)) ?_
  refine AL_p (x_assign rfl rfl) ?_
  refine AL_nil ?_
  refine AW_seq ?_
  refine AW_region ?_
  refine AL_p (x_assign rfl rfl) ?_
  refine AL_nil ?_
  refine AW_block ?_
  refine AW_loop2 (ι := {q : Nat // q ≤ m.head.v.length}) (fun p => [(3, .one (.own 115)), (7, .one (.c (.int .i64 ((p.1) : Int))))]) (fun p => [(115, some (.arr 5 (intE .u8) ([handB m.hand] ++ flatTo (fun n => putB n 6) m.head.v (p.1)) true))]) [1] [100, 101, 102, 103] (fun p => m.head.v.length - (p.1)) ⟨0, by omega⟩ (rn []) ?_ ?_
  exact ⟨by (repeat refine ⟨⟨_, rfl, by first | exact VLe.rf | exact vle_int (by dsimp only; omega)⟩, ?_⟩); exact trivial, by (repeat refine ⟨⟨_, rfl, by first | exact BLe.rf | exact BLe.box AllC.rf | exact BLe.arr (by first | (rw [flatTo_zero, List.append_nil]; simp [handB, *]; done) | (rw [← flatTo_more (f := fun n => putB n 6) (k := i) (by omega)]; simp only [List.append_assoc]; done) | (exfalso; omega))⟩, ?_⟩); exact trivial, by repeat (first | exact trivial | refine ⟨⟨rfl, by first | (left; intro h; cases h) | (right; rfl), by first | exact (fun _ h => ⟨_, h⟩) | exact (fun _ _ => ⟨_, rfl⟩)⟩, ?_⟩), rfl⟩
  rintro ⟨i, hinv⟩
  dsimp only
  have hi := hinv
  refine AW_seq ?_
  refine AW_seq ?_
  refine AW_region ?_
  refine AL_p (x_move rfl rfl) ?_
  refine AL_b (x_lss rfl rfl rfl) (fun b109 h109 => ?_)
  refine AL_nil ?_
  cases b109
  · try simp only [tdy] at h109
    refine AW_condF rfl ?_
    refine AW_exit (BQ_hit ?_)
    refine AW_seq ?_
    refine AW_region ?_
    refine AL_p (x_move rfl rfl) ?_
    refine AL_p (x_assign rfl rfl) ?_
    refine AL_nil ?_
    refine AW_ret ?_
    exact ⟨rn [(0, 115)], ⟨⟨⟨_, rfl, VLe.rf⟩, trivial⟩, ⟨⟨_, rfl, BLe.arr (by first | (rw [bodyB_add (by omega)]; simp only [flatTo_all (f := actBytes) (xs := m.acts) (k := j) (by omega), List.append_assoc, List.nil_append]; done) | (rw [bodyB_flip (by omega)]; done) | (rw [bodyB_flip (by omega)]; simp only [List.append_assoc, List.nil_append]; done) | (rw [bodyB_note (by omega)]; simp only [headBy, flatTo_all (f := fun n => putB n 6) (xs := m.head.v) (k := i) (by omega), List.append_assoc, List.nil_append]; done) | (rw [bodyB_note (by omega), flatTo_all (f := fun n => putB n 6) (xs := m.head.v) (k := i) (by omega)]; simp [headBy, handB, *]; done) | (rw [bodyB_none (by omega) (by omega) (by omega)]; done) | (rw [bodyB_none (by omega) (by omega) (by omega)]; simp only [List.append_nil]; done) | (exfalso; omega))⟩, trivial⟩, trivial, rfl⟩⟩
  try simp only [tdy] at h109
  have hf8 := fits48 (eight_get hN2 (k := i) (by omega))
  have hhi := hhf i
  refine AW_condT rfl ?_
  refine AW_skip ?_
  refine AW_seq ?_
  refine AW_block ?_
  refine AW_region ?_
  refine AL_p (x_move rfl rfl) ?_
  refine AL_p (x_field (off := 9) (o' := 9) rfl rfl rfl (by kernel_rfl) rfl) ?_
  refine AL_p (x_field (off := 0) (o' := 9) rfl rfl rfl (by kernel_rfl) rfl) ?_
  refine AL_p (x_load1 rfl rfl rfl (by kernel_rfl) rfl) ?_
  refine AL_p (x_move rfl rfl) ?_
  refine AL_p (x_index (E := 3) (n := 1) rfl rfl rfl (by kernel_rfl) rfl (k := i) (by omega) (by omega)) ?_
  refine AL_p (x_eload1 rfl rfl (by kernel_rfl) rfl) ?_
  refine AL_p (x_callR rfl rfl rfl (putNumS_c _ (m.head.v[i]'(by omega)) 6 (by omega) (by have e : (256 : Int) ^ 6 = 281474976710656 := rfl; omega) (by omega) (by omega) (by (try simp only [List.length_append, List.length_cons, List.length_nil, putB_len, pairTo_len]); omega) 113) rfl AllV.rf rfl rfl rfl rfl rfl) ?_
  refine AL_p (x_move rfl rfl) ?_
  refine AL_p (x_extract rfl rfl rfl) ?_
  refine AL_p (x_extract rfl rfl rfl) ?_
  refine AL_p (x_assign rfl rfl) ?_
  refine AL_nil ?_
  refine AW_region ?_
  refine AL_p (x_move rfl rfl) ?_
  refine AL_p (x_add rfl rfl rfl (IntWalk.i64_in _ (by omega))) ?_
  refine AL_p (x_assign rfl rfl) ?_
  refine AL_nil ?_
  refine ⟨⟨i + 1, by omega⟩, rn [(115, 113)], ?_, by dsimp only; omega⟩
  exact ⟨by (repeat refine ⟨⟨_, rfl, by first | exact VLe.rf | exact vle_int (by dsimp only; omega)⟩, ?_⟩); exact trivial, by (repeat refine ⟨⟨_, rfl, by first | exact BLe.rf | exact BLe.box AllC.rf | exact BLe.arr (by first | (rw [flatTo_zero, List.append_nil]; simp [handB, *]; done) | (rw [← flatTo_more (f := fun n => putB n 6) (k := i) (by omega)]; simp only [List.append_assoc]; done) | (exfalso; omega))⟩, ?_⟩); exact trivial, by repeat (first | exact trivial | refine ⟨⟨rfl, by first | (left; intro h; cases h) | (right; rfl), by first | exact (fun _ h => ⟨_, h⟩) | exact (fun _ _ => ⟨_, rfl⟩)⟩, ?_⟩), rfl⟩
theorem bodyS_c (m : Msgt) (hok : msgB m = true) (k : Nat) : AC Try.prog 74 [.agg (msgC m)] [] (.one (.own k)) [(k, some (.arr 5 (intE .u8) (bodyB m) true))] := AC.at (bodyS_c0 m hok) k

set_option maxHeartbeats 4000000 in
theorem msgBytesS_c0 (m : Msgt) : AC Try.prog 27 [.agg (msgC m)] [] (.tup [.one (.own 0), .one (.c (.bool (msgBytes m).2))]) [(0, some (.arr 5 (intE .u8) ((msgBytes m).1) true))] := by
  refine AC_body2 Try.func27 rfl rfl Try.ntmps27 rfl Try.results27 rfl rfl rfl ?_
  refine AW_seq ?_
  refine AW_region ?_
  refine AL_p (x_box 100 rfl rfl rfl rfl rfl rfl rfl) ?_
  refine AL_p (x_assign rfl rfl) ?_
  refine AL_p (x_assign rfl rfl) ?_
  refine AL_nil ?_
  refine AW_seq ?_
  refine AW_seq ?_
  refine AW_region ?_
  refine AL_p (x_loadN (n := 10) rfl rfl rfl (by kernel_rfl) rfl rfl) ?_
  refine AL_b (x_call0 rfl rfl rfl (msgS_c m) rfl rfl) (fun b7 h7 => ?_)
  refine AL_p (x_not rfl rfl) ?_
  refine AL_nil ?_
  cases b7
  · try simp only [tdy] at h7
    have hno := msgBytes_no h7
    refine AW_condT rfl ?_
    refine AW_seq ?_
    refine AW_region ?_
    refine AL_p (x_assign rfl rfl) ?_
    refine AL_p (x_assign rfl rfl) ?_
    refine AL_nil ?_
    refine AW_adoptT (T := 5) (e := (intE .u8)) 107 2 rfl rfl rfl ?_
    refine AW_ret ?_
    exact ⟨rn [(0, 107)], ⟨⟨⟨_, rfl, VLe.rf⟩, ⟨_, rfl, by first | exact VLe.rf | exact vle_bool (by rw [hno])⟩, trivial⟩, ⟨⟨_, rfl, by first | exact BLe.rf | (refine BLe.arr ?_; rw [hno]; done) | (refine BLe.arr ?_; rw [hno]; simp only [wholeB, List.append_assoc])⟩, trivial⟩, trivial, rfl⟩⟩
  try simp only [tdy] at h7
  have hok := h7
  have hno := msgBytes_ok h7
  have hbl := bodyB_len h7
  obtain ⟨hr, hA, hF, hN⟩ := msgB_in hok
  have hE := msgB_ep hok
  refine AW_condF rfl ?_
  refine AW_skip ?_
  refine AW_seq ?_
  refine AW_region ?_
  refine AL_p (x_loadN (n := 10) rfl rfl rfl (by kernel_rfl) rfl rfl) ?_
  refine AL_p (x_call1 rfl rfl rfl (bodyS_c m hok 101) rfl rfl rfl rfl) ?_
  refine AL_p (x_assign rfl rfl) ?_
  refine AL_nil ?_
  refine AW_seq ?_
  refine AW_region ?_
  refine AL_p (x_field (off := 0) (o' := 0) rfl rfl rfl (by kernel_rfl) rfl) ?_
  refine AL_p (x_load1 rfl rfl rfl (by kernel_rfl) rfl) ?_
  refine AL_p (x_conv (k' := .u8) rfl rfl (by kernel_rfl) (wrap8_id (by omega) (by omega))) ?_
  refine AL_p (y_bslice (E := 5) (e := (intE .u8)) [.const (.int .u8 (1)), .tmp 13] ([1, m.kind]) 102 rfl rfl rfl rfl rfl rfl rfl rfl FitL.rf rfl rfl rfl rfl rfl rfl (by kernel_rfl)) ?_
  refine AL_p (x_assign rfl rfl) ?_
  refine AL_nil ?_
  refine AW_seq ?_
  refine AW_region ?_
  refine AL_p (x_move rfl rfl) ?_
  refine AL_p (x_move rfl rfl) ?_
  refine AL_p (x_olen (E := 5) (n := 1) rfl rfl rfl (by kernel_rfl)) ?_
  refine AL_p (x_add rfl rfl rfl (IntWalk.i64_in _ (by omega))) ?_
  refine AL_p (x_callR rfl rfl rfl (putNumS_c _ (12 + ((bodyB m).length : Int)) 2 (by omega) (by have e : (256 : Int) ^ 2 = 65536 := rfl; omega) (by omega) (by omega) (by (try simp only [List.length_append, List.length_cons, List.length_nil, putB_len, pairTo_len]); omega) 103) rfl AllV.rf rfl rfl rfl rfl rfl) ?_
  refine AL_p (x_move rfl rfl) ?_
  refine AL_p (x_extract rfl rfl rfl) ?_
  refine AL_p (x_extract rfl rfl rfl) ?_
  refine AL_p (x_assign rfl rfl) ?_
  refine AL_nil ?_
  refine AW_seq ?_
  refine AW_region ?_
  refine AL_p (x_move rfl rfl) ?_
  refine AL_p (x_field (off := 1) (o' := 1) rfl rfl rfl (by kernel_rfl) rfl) ?_
  refine AL_p (x_load1 rfl rfl rfl (by kernel_rfl) rfl) ?_
  refine AL_p (x_callR rfl rfl rfl (putNumS_c _ m.session 4 (by omega) (by have e : (256 : Int) ^ 4 = 4294967296 := rfl; omega) (by omega) (by omega) (by (try simp only [List.length_append, List.length_cons, List.length_nil, putB_len, pairTo_len]); omega) 104) rfl AllV.rf rfl rfl rfl rfl rfl) ?_
  refine AL_p (x_move rfl rfl) ?_
  refine AL_p (x_extract rfl rfl rfl) ?_
  refine AL_p (x_extract rfl rfl rfl) ?_
  refine AL_p (x_assign rfl rfl) ?_
  refine AL_nil ?_
  refine AW_seq ?_
  refine AW_region ?_
  refine AL_p (x_move rfl rfl) ?_
  refine AL_p (x_field (off := 2) (o' := 2) rfl rfl rfl (by kernel_rfl) rfl) ?_
  refine AL_p (x_load1 rfl rfl rfl (by kernel_rfl) rfl) ?_
  refine AL_p (x_callR rfl rfl rfl (putNumS_c _ m.xid 4 (by omega) (by have e : (256 : Int) ^ 4 = 4294967296 := rfl; omega) (by omega) (by omega) (by (try simp only [List.length_append, List.length_cons, List.length_nil, putB_len, pairTo_len]); omega) 105) rfl AllV.rf rfl rfl rfl rfl rfl) ?_
  refine AL_p (x_move rfl rfl) ?_
  refine AL_p (x_extract rfl rfl rfl) ?_
  refine AL_p (x_extract rfl rfl rfl) ?_
  refine AL_p (x_assign rfl rfl) ?_
  refine AL_nil ?_
  refine AW_seq ?_
  refine AW_region ?_
  refine AL_p (x_move rfl rfl) ?_
  refine AL_p (x_move rfl rfl) ?_
  refine AL_p (y_append 106 rfl rfl rfl rfl rfl rfl rfl rfl (by kernel_rfl) (by (try simp only [List.length_append, List.length_cons, List.length_nil, putB_len, pairTo_len]); omega)) ?_
  refine AL_p (x_assign rfl rfl) ?_
  refine AL_p (x_assign rfl rfl) ?_
  refine AL_nil ?_
  refine AW_ret ?_
  exact ⟨rn [(0, 106)], ⟨⟨⟨_, rfl, VLe.rf⟩, ⟨_, rfl, by first | exact VLe.rf | exact vle_bool (by rw [hno])⟩, trivial⟩, ⟨⟨_, rfl, by first | exact BLe.rf | (refine BLe.arr ?_; rw [hno]; done) | (refine BLe.arr ?_; rw [hno]; simp only [wholeB, List.append_assoc])⟩, trivial⟩, trivial, rfl⟩⟩
theorem msgBytesS_c (m : Msgt) (k : Nat) : AC Try.prog 27 [.agg (msgC m)] [] (.tup [.one (.own k), .one (.c (.bool (msgBytes m).2))]) [(k, some (.arr 5 (intE .u8) ((msgBytes m).1) true))] := AC.at (msgBytesS_c0 m) k

end Go.Proofs.Ytfdpigafekohgaa

/- Bytes read again (printed by walk.py) -/
namespace Go.Proofs.Ytfdpigafekohgaa
open Go.RowKit
set_option linter.unusedVariables false
set_option linter.unusedSimpArgs false
set_option maxRecDepth 100000

set_option maxHeartbeats 4000000 in
theorem getI_c (l : List Int) (hl : l.length ≤ 6) : AC Try.prog 56 [.one (.sl (intE .u8) l)] [] (.one (.c (.int .i64 (bign l)))) [] := by
  refine AC_body1 Try.func56 rfl rfl Try.ntmps56 rfl Try.results56 ?_
  refine AW_slbyte 0 rfl (fun hy0 => ?_)
  refine AW_seq ?_
  refine AW_region ?_
  refine AL_p (x_assign rfl rfl) ?_
  refine AL_nil ?_
  refine AW_seq ?_
  refine AW_region ?_
  refine AL_p (x_assign rfl rfl) ?_
  refine AL_nil ?_
  refine AW_seq ?_
  refine AW_seq ?_
  refine AW_region ?_
  refine AL_p (x_move rfl rfl) ?_
  refine AL_p (x_len (E := 5) (n := 1) rfl rfl (by kernel_rfl)) ?_
  refine AL_p (x_move rfl rfl) ?_
  refine AL_nil ?_
  refine AW_block ?_
  refine AW_loop2 (ι := {q : Nat // q ≤ l.length}) (fun p => [(3, .one (.c (.int .i64 (bign (l.take (p.1)))))), (8, .one (.c (.int .i64 ((p.1) : Int))))]) (fun p => []) [6, 7] [] (fun p => l.length - (p.1)) ⟨0, by omega⟩ (rn []) ?_ ?_
  exact ⟨by (repeat refine ⟨⟨_, rfl, by first | exact VLe.rf | exact vle_int (by dsimp only; omega)⟩, ?_⟩); exact trivial, by (repeat refine ⟨⟨_, rfl, by first | exact BLe.rf | exact BLe.box AllC.rf | exact BLe.arr (by exact rfl)⟩, ?_⟩); exact trivial, by repeat (first | exact trivial | refine ⟨⟨rfl, by first | (left; intro h; cases h) | (right; rfl), by first | exact (fun _ h => ⟨_, h⟩) | exact (fun _ _ => ⟨_, rfl⟩)⟩, ?_⟩), rfl⟩
  rintro ⟨k, hinv⟩
  dsimp only
  have hk := hinv
  have hnb := bign_le (l := l.take k) (n := 6) (by simp; omega) (by omega)
  refine AW_seq ?_
  refine AW_region ?_
  refine AL_b (x_lss rfl rfl rfl) (fun b9 h9 => ?_)
  refine AL_nil ?_
  refine AW_seq ?_
  cases b9
  · try simp only [tdy] at h9
    refine AW_condF rfl ?_
    refine AW_exit (BQ_hit ?_)
    refine AW_seq ?_
    refine AW_region ?_
    refine AL_p (x_move rfl rfl) ?_
    refine AL_p (x_assign rfl rfl) ?_
    refine AL_nil ?_
    refine AW_ret ?_
    exact ⟨rn [], ⟨⟨⟨_, rfl, vle_int (by rw [List.take_of_length_le (by omega)])⟩, trivial⟩, trivial, trivial, rfl⟩⟩
  try simp only [tdy] at h9
  have hx := hy0 _ (List.getElem_mem (l := l) (n := k) (by omega))
  have hs := bign_next (l := l) (k := k) (by omega) hx
  refine AW_condT rfl ?_
  refine AW_skip ?_
  refine AW_seq ?_
  refine AW_block ?_
  refine AW_seq ?_
  refine AW_region ?_
  refine AL_p (x_index (E := 5) (n := 1) rfl rfl rfl (by kernel_rfl) rfl (k := k) (by omega) (by omega)) ?_
  refine AL_p (x_eload1 rfl rfl (by kernel_rfl) rfl) ?_
  refine AL_p (x_assign rfl rfl) ?_
  refine AL_nil ?_
  refine AW_region ?_
  refine AL_p (x_move rfl rfl) ?_
  refine AL_p (x_mul rfl rfl rfl (IntWalk.i64_in _ (by omega))) ?_
  refine AL_p (x_move rfl rfl) ?_
  refine AL_p (x_conv (k' := .i64) rfl rfl (by kernel_rfl) (IntWalk.i64_in _ (by omega))) ?_
  refine AL_p (x_add rfl rfl rfl (IntWalk.i64_in _ (by omega))) ?_
  refine AL_p (x_assign rfl rfl) ?_
  refine AL_nil ?_
  refine AW_region ?_
  refine AL_p (x_add rfl rfl rfl (IntWalk.i64_in _ (by omega))) ?_
  refine AL_p (x_move rfl rfl) ?_
  refine AL_nil ?_
  refine ⟨⟨k + 1, by omega⟩, rn [], ?_, by dsimp only; omega⟩
  exact ⟨by (repeat refine ⟨⟨_, rfl, by first | exact VLe.rf | exact vle_int (by dsimp only; omega)⟩, ?_⟩); exact trivial, by (repeat refine ⟨⟨_, rfl, by first | exact BLe.rf | exact BLe.box AllC.rf | exact BLe.arr (by exact rfl)⟩, ?_⟩); exact trivial, by repeat (first | exact trivial | refine ⟨⟨rfl, by first | (left; intro h; cases h) | (right; rfl), by first | exact (fun _ h => ⟨_, h⟩) | exact (fun _ _ => ⟨_, rfl⟩)⟩, ?_⟩), rfl⟩

set_option maxHeartbeats 4000000 in
theorem getS_c (b : List Int) (z n : Int) (h0 : 0 ≤ z) (hz : z ≤ 1000000000) (h1 : 1 ≤ n) (h2 : n ≤ 6) : AC Try.prog 54 [.one (.sl (intE .u8) b), .one (.c (.int .i64 z)), .one (.c (.int .i64 n))] [] (.tup [.one (.c (.int .i64 (getS b z n))), .one (.c (.bool (decide (z + n ≤ (b.length : Int)))))]) [] := by
  refine AC_body2 Try.func54 rfl rfl Try.ntmps54 rfl Try.results54 rfl rfl rfl ?_
  refine AW_slbyte 0 rfl (fun hy0 => ?_)
  refine AW_slmax 0 rfl (fun hm0 => ?_)
  refine AW_seq ?_
  refine AW_region ?_
  refine AL_p (x_assign rfl rfl) ?_
  refine AL_p (x_assign rfl rfl) ?_
  refine AL_nil ?_
  refine AW_seq ?_
  refine AW_seq ?_
  refine AW_region ?_
  refine AL_p (x_move rfl rfl) ?_
  refine AL_b (x_lss rfl rfl rfl) (fun b11 h11 => ?_)
  refine AL_p (x_move rfl rfl) ?_
  cases b11
  rotate_left
  · exfalso; simp at h11; omega
  try simp only [tdy] at h11
  refine AL_g rfl rfl (x_move rfl rfl) ?_
  refine AL_gb rfl rfl (x_gtr rfl rfl rfl) (fun b14 h14 => ?_)
  refine AL_p (x_pickF rfl rfl rfl) ?_
  refine AL_p (x_move rfl rfl) ?_
  cases b14
  rotate_left
  · exfalso; simp at h14; omega
  try simp only [tdy] at h14
  refine AL_g rfl rfl (x_move rfl rfl) ?_
  refine AL_gb rfl rfl (x_lss rfl rfl rfl) (fun b18 h18 => ?_)
  refine AL_p (x_pickF rfl rfl rfl) ?_
  refine AL_p (x_move rfl rfl) ?_
  cases b18
  rotate_left
  · exfalso; simp at h18; omega
  try simp only [tdy] at h18
  refine AL_g rfl rfl (x_move rfl rfl) ?_
  refine AL_g rfl rfl (x_move rfl rfl) ?_
  refine AL_g rfl rfl (x_len (E := 5) (n := 1) rfl rfl (by kernel_rfl)) ?_
  refine AL_g rfl rfl (x_move rfl rfl) ?_
  refine AL_g rfl rfl (x_sub rfl rfl rfl (IntWalk.i64_in _ (by omega))) ?_
  refine AL_gb rfl rfl (x_gtr rfl rfl rfl) (fun b26 h26 => ?_)
  refine AL_p (x_pickF rfl rfl rfl) ?_
  refine AL_nil ?_
  cases b26
  rotate_left
  · try simp only [tdy] at h26
    have hno : getS b z n = 0 := if_neg (by omega)
    refine AW_condT rfl ?_
    refine AW_seq ?_
    refine AW_region ?_
    refine AL_p (x_assign rfl rfl) ?_
    refine AL_p (x_assign rfl rfl) ?_
    refine AL_nil ?_
    refine AW_ret ?_
    exact ⟨rn [], ⟨⟨⟨_, rfl, vle_int (by rw [hno]; first | done | rw [List.take_of_length_le (by omega)])⟩, ⟨_, rfl, vle_bool (by symm; first | (rw [decide_eq_true_eq]; omega) | (rw [decide_eq_false_iff_not]; omega))⟩, trivial⟩, trivial, trivial, rfl⟩⟩
  try simp only [tdy] at h26
  have hno : getS b z n = bign ((b.drop z.toNat).take n.toNat) := if_pos (by omega)
  have hlen : ((b.drop z.toNat).take n.toNat).length = n.toNat := by simp; omega
  refine AW_condF rfl ?_
  refine AW_skip ?_
  refine AW_seq ?_
  refine AW_region ?_
  refine AL_p (x_assign rfl rfl) ?_
  refine AL_nil ?_
  refine AW_seq ?_
  refine AW_seq ?_
  refine AW_region ?_
  refine AL_p (x_assign rfl rfl) ?_
  refine AL_nil ?_
  refine AW_block ?_
  refine AW_loop2 (ι := {q : Nat // (q : Int) ≤ n}) (fun p => [(8, .one (.c (.int .i64 (bign (((b.drop z.toNat).take n.toNat).take (p.1)))))), (9, .one (.c (.int .i64 ((p.1) : Int))))]) (fun p => []) [0, 1, 2] [] (fun p => n.toNat - (p.1)) ⟨0, by omega⟩ (rn []) ?_ ?_
  exact ⟨by (repeat refine ⟨⟨_, rfl, by first | exact VLe.rf | exact vle_int (by dsimp only; omega)⟩, ?_⟩); exact trivial, by (repeat refine ⟨⟨_, rfl, by first | exact BLe.rf | exact BLe.box AllC.rf | exact BLe.arr (by exact rfl)⟩, ?_⟩); exact trivial, by repeat (first | exact trivial | refine ⟨⟨rfl, by first | (left; intro h; cases h) | (right; rfl), by first | exact (fun _ h => ⟨_, h⟩) | exact (fun _ _ => ⟨_, rfl⟩)⟩, ?_⟩), rfl⟩
  rintro ⟨k, hinv⟩
  dsimp only
  have hk := hinv
  have hnb := bign_le (l := ((b.drop z.toNat).take n.toNat).take k) (n := 6) (by simp; omega) (by omega)
  refine AW_seq ?_
  refine AW_seq ?_
  refine AW_region ?_
  refine AL_p (x_move rfl rfl) ?_
  refine AL_p (x_move rfl rfl) ?_
  refine AL_b (x_lss rfl rfl rfl) (fun b30 h30 => ?_)
  refine AL_nil ?_
  cases b30
  · try simp only [tdy] at h30
    refine AW_condF rfl ?_
    refine AW_exit (BQ_hit ?_)
    refine AW_seq ?_
    refine AW_region ?_
    refine AL_p (x_move rfl rfl) ?_
    refine AL_p (x_assign rfl rfl) ?_
    refine AL_p (x_assign rfl rfl) ?_
    refine AL_nil ?_
    refine AW_ret ?_
    exact ⟨rn [], ⟨⟨⟨_, rfl, vle_int (by rw [hno]; first | done | rw [List.take_of_length_le (by omega)])⟩, ⟨_, rfl, vle_bool (by symm; first | (rw [decide_eq_true_eq]; omega) | (rw [decide_eq_false_iff_not]; omega))⟩, trivial⟩, trivial, trivial, rfl⟩⟩
  try simp only [tdy] at h30
  have hat : ((b.drop z.toNat).take n.toNat)[k]'(by omega) = b[(z + (k : Int)).toNat]'(by omega) := by simp only [List.getElem_take, List.getElem_drop]; congr 1; omega
  have hx := hy0 _ (List.getElem_mem (l := b) (n := (z + (k : Int)).toNat) (by omega))
  have hs := bign_next (l := (b.drop z.toNat).take n.toNat) (k := k) (by omega) (by rw [hat]; exact hx)
  rw [hat] at hs
  refine AW_condT rfl ?_
  refine AW_skip ?_
  refine AW_seq ?_
  refine AW_block ?_
  refine AW_region ?_
  refine AL_p (x_move rfl rfl) ?_
  refine AL_p (x_mul rfl rfl rfl (IntWalk.i64_in _ (by omega))) ?_
  refine AL_p (x_move rfl rfl) ?_
  refine AL_p (x_move rfl rfl) ?_
  refine AL_p (x_move rfl rfl) ?_
  refine AL_p (x_add rfl rfl rfl (IntWalk.i64_in _ (by omega))) ?_
  refine AL_p (x_index (E := 5) (n := 1) rfl rfl rfl (by kernel_rfl) rfl (k := (z + (k : Int)).toNat) (by omega) (by omega)) ?_
  refine AL_p (x_eload1 rfl rfl (by kernel_rfl) rfl) ?_
  refine AL_p (x_conv (k' := .i64) rfl rfl (by kernel_rfl) (IntWalk.i64_in _ (by omega))) ?_
  refine AL_p (x_add rfl rfl rfl (IntWalk.i64_in _ (by omega))) ?_
  refine AL_p (x_assign rfl rfl) ?_
  refine AL_nil ?_
  refine AW_region ?_
  refine AL_p (x_move rfl rfl) ?_
  refine AL_p (x_add rfl rfl rfl (IntWalk.i64_in _ (by omega))) ?_
  refine AL_p (x_assign rfl rfl) ?_
  refine AL_nil ?_
  refine ⟨⟨k + 1, by omega⟩, rn [], ?_, by dsimp only; omega⟩
  exact ⟨by (repeat refine ⟨⟨_, rfl, by first | exact VLe.rf | exact vle_int (by dsimp only; omega)⟩, ?_⟩); exact trivial, by (repeat refine ⟨⟨_, rfl, by first | exact BLe.rf | exact BLe.box AllC.rf | exact BLe.arr (by exact rfl)⟩, ?_⟩); exact trivial, by repeat (first | exact trivial | refine ⟨⟨rfl, by first | (left; intro h; cases h) | (right; rfl), by first | exact (fun _ h => ⟨_, h⟩) | exact (fun _ _ => ⟨_, rfl⟩)⟩, ?_⟩), rfl⟩

end Go.Proofs.Ytfdpigafekohgaa

/- Messages read out of bytes (printed by walk.py) -/
namespace Go.Proofs.Ytfdpigafekohgaa
open Go.RowKit
set_option linter.unusedVariables false
set_option linter.unusedSimpArgs false
set_option maxRecDepth 100000

end Go.Proofs.Ytfdpigafekohgaa

/- Messages read out of bytes by the reference (printed by walk.py) -/
namespace Go.Proofs.Ytfdpigafekohgaa
open Go.RowKit
set_option linter.unusedVariables false
set_option linter.unusedSimpArgs false
set_option maxRecDepth 100000

set_option maxHeartbeats 4000000 in
theorem matchAll_c  : AC Try.prog 79 [] [] (.agg [.own 0, .own 1]) [(0, some (.arr 3 (intE .i64) (List.replicate 8 0) true)), (1, some (.arr 3 (intE .i64) (List.replicate 8 0) true))] := by
  refine AC_bodyC (n := 2) (k := 9) (T := [(0, .one (.ptr 9 0))]) (Lf := ((9, some (.box [.own 0, .own 1])) :: [(0, some (.arr 3 (intE .i64) (List.replicate 8 0) true)), (1, some (.arr 3 (intE .i64) (List.replicate 8 0) true))])) Try.func79 rfl rfl Try.ntmps79 rfl Try.results79 rfl rfl (by kernel_rfl) rfl rfl ⟨trivial, (by repeat (first | exact trivial | refine ⟨⟨_, rfl, BLe.rf⟩, ?_⟩)), (by repeat (first | exact trivial | refine ⟨⟨rfl, by first | (left; intro h; cases h) | (right; rfl), by first | exact (fun _ h => ⟨_, h⟩) | exact (fun _ _ => ⟨_, rfl⟩)⟩, ?_⟩)), rfl⟩ ?_
  refine AW_seq ?_
  refine AW_region ?_
  refine AL_p (x_alloc (z := .agg #[.slice none 0 0, .slice none 0 0]) 100 rfl (by kernel_rfl) rfl rfl rfl rfl) ?_
  refine AL_nil ?_
  refine AW_seq ?_
  refine AW_draw rfl ?_
  refine AL_p (x_make (T := 36) (E := 3) (e := (intE .i64)) (0) (z := .int .i64 0) 101 rfl rfl rfl (by kernel_rfl) rfl FitL.rf rfl rfl (by kernel_rfl) (by decide)) ?_
  refine AL_p (x_make (T := 36) (E := 3) (e := (intE .i64)) (0) (z := .int .i64 0) 102 rfl rfl rfl (by kernel_rfl) rfl FitL.rf rfl rfl (by kernel_rfl) (by decide)) ?_
  refine AL_p (x_build (zs := [.slice none 0 0, .slice none 0 0]) (places := [(0, 1), (1, 1)]) rfl (by kernel_rfl) rfl rfl rfl rfl rfl) ?_
  refine AL_p (x_store (n := 2) rfl rfl rfl rfl (by kernel_rfl) rfl rfl rfl) ?_
  refine AL_nild (by kernel_rfl) ?_
  refine AW_ret ?_
  exact ⟨rn [(9, 100), (0, 101), (1, 102)], ⟨⟨⟨_, rfl, VLe.rf⟩, trivial⟩, ⟨⟨_, rfl, by first | exact BLe.rf | (subst_vars; exact BLe.rf)⟩, ⟨_, rfl, BLe.rf⟩, ⟨_, rfl, BLe.rf⟩, trivial⟩, trivial, rfl⟩⟩

end Go.Proofs.Ytfdpigafekohgaa

/- The abstract walk: contracts that leave open what a function returns; it is something good. -/
namespace Go.Proofs.Ytfdpigafekohgaa
open Go.RowKit
set_option linter.unusedVariables false

/-- Called with such arguments, the function returns one of some values. -/
structure AX (P : Program) (f : FuncId) (args : List AVal) (L : Locs) {ι : Type} (G : ι → Prop) (res : ι → AVal) (L' : ι → Locs) : Prop where
  fn : Callable P f
  run : ∀ (g : Gh) (w : World) (cargs : Array Value), MemR g L w → All2 (VR1 g L w) cargs.toList args →
    Calls P f cargs w fun e w' => ∃ i v g', G i ∧ e = .returned v ∧ MemR g' (L' i) w' ∧ VR g' (L' i) w' v (res i) ∧ Step (keys L) g L w g' (L' i) w'
theorem AX.mono {P : Program} {f : FuncId} {args : List AVal} {L : Locs} {ι : Type} {G G' : ι → Prop} {res : ι → AVal} {L' : ι → Locs} (h : AX P f args L G res L') (hg : ∀ i, G i → G' i) : AX P f args L G' res L' :=
  ⟨h.fn, fun g w cargs m ha => (h.run g w cargs m ha).mono (by
    rintro e w' ⟨i, v, g', h0, h1, h2, h3, h4⟩
    exact ⟨i, v, g', hg i h0, h1, h2, h3, h4⟩)⟩

/-! ### How a body must end -/
def RetXS {ι : Type} (K : List Nat) (G : ι → Prop) (T : ι → Tmps) (L' : ι → Locs) (s : St) : Prop := ∃ i, G i ∧ ∃ r, LeS K r s ⟨T i, L' i⟩
def RetXQ {ι : Type} (K : List Nat) (G : ι → Prop) (T : ι → Tmps) (L' : ι → Locs) : Exit → St → Prop
  | .ret, s => RetXS K G T L' s
  | _, _ => False
section body
variable {P : Program} {N : Nat} {f : FuncId} {fn : Func} {c : Code} {args : List AVal} {L : Locs} {ι : Type} {G : ι → Prop} {res : ι → AVal} {L' Lf : ι → Locs} {T : ι → Tmps}
theorem AX_of (hf : P.funcs[f]? = some fn) (hb : fn.body = some c) (hn : (fn.name == "runtime.NumGoroutine") = false) (hN : fn.ntmps = N) (hA : Nat.ble args.length N = true)
    (hr : ∀ (i : ι) (g : Gh) (a : Act) (w : World), Rep N g ⟨T i, L' i⟩ a w → ∃ v, (results fn a.tmps).run P w = .ok v w ∧ VR g (L' i) w v (res i))
    (h : AW P N (keys L) c (RetXS (keys L) G T L') (RetXQ (keys L) G T L') ⟨args0 args 0, L⟩) : AX P f args L G res L' := by
  refine ⟨⟨fn, c, hf, hb, hn⟩, fun g w cargs m ha => ?_⟩
  subst hN
  have R := entry_rep m ha (Nat.le_of_ble_eq_true hA)
  refine calls_of_wp hf hb (Go.wp_mono (h g _ w R) ?_)
  rintro e a1 w1 ⟨g1, s1, R1, hs, hR⟩
  have fin : RetXS (keys L) G T L' s1 → a1.defers = [] ∧ ∃ v, (results fn a1.tmps).run P w1 = .ok v w1 ∧ ∃ i v' g', G i ∧ Ending.returned v = .returned v' ∧ MemR g' (L' i) w1 ∧ VR g' (L' i) w1 v' (res i) ∧ Step (keys L) g L w g' (L' i) w1 := by
    rintro ⟨i, hG, r, hle⟩
    have R2 := R1.le hle
    obtain ⟨v, h1, h2⟩ := hr i _ a1 w1 R2
    exact ⟨R1.defers, v, h1, i, v, _, hG, rfl, R2.mem, h2, hs.trans m R1.mem (Step.unren hle.l hle.k)⟩
  cases e with
  | normal => exact fin hR
  | ret => exact fin hR
  | exit id => exact hR
  | goto l => exact hR
  | panic ch => exact hR.elim
  | outgrown => exact hR.elim
theorem AX_ofB (hf : P.funcs[f]? = some fn) (hb : fn.body = some c) (hn : (fn.name == "runtime.NumGoroutine") = false) (hN : fn.ntmps = N) (hA : Nat.ble args.length N = true)
    (hren : ∀ i, (res i).ren (rn []) = res i) (hle : ∀ i, LeS (keys L) (rn []) ⟨T i, Lf i⟩ ⟨[], L' i⟩)
    (hr : ∀ (i : ι) (g : Gh) (a : Act) (w : World), Rep N g ⟨T i, Lf i⟩ a w → ∃ v, (results fn a.tmps).run P w = .ok v w ∧ VR g (Lf i) w v (res i))
    (h : AW P N (keys L) c (RetXS (keys L) G T Lf) (RetXQ (keys L) G T Lf) ⟨args0 args 0, L⟩) : AX P f args L G res L' := by
  have h0 := AX_of (L' := Lf) hf hb hn hN hA hr h
  refine ⟨h0.fn, fun g w cargs m ha => (h0.run g w cargs m ha).mono ?_⟩
  rintro e w' ⟨i, v, g1, hG, rfl, m1, hv, hs⟩
  exact ⟨i, v, g1.ren (rn []), hG, rfl, m1.unren (hle i).l (hle i).inj, VR.unren (hle i).l (by rw [hren]; exact hv), hs.trans m m1 (Step.unren (hle i).l (hle i).k)⟩
theorem AX_body1 {r : Nat} {x : ι → AVal} (hf : P.funcs[f]? = some fn) (hb : fn.body = some c) (hn : (fn.name == "runtime.NumGoroutine") = false) (hN : fn.ntmps = N) (hA : Nat.ble args.length N = true) (hr : fn.results = #[.tmp r])
    (h : AW P N (keys L) c (RetXS (keys L) G (fun i => [(r, x i)]) L') (RetXQ (keys L) G (fun i => [(r, x i)]) L') ⟨args0 args 0, L⟩) : AX P f args L G x L' :=
  AX_of hf hb hn hN hA (fun i g a w R => ⟨_, results_tmp hr _ _ _, R.tmp r (x i) lk_cons_self⟩) h
theorem AX_body2 {r1 r2 : Nat} {x1 x2 : ι → AVal} (hf : P.funcs[f]? = some fn) (hb : fn.body = some c) (hn : (fn.name == "runtime.NumGoroutine") = false) (hN : fn.ntmps = N) (hA : Nat.ble args.length N = true) (hr : fn.results = #[.tmp r1, .tmp r2])
    (hne : Nat.beq r1 r2 = false) (f1 : ∀ i, (x1 i).flat = true) (f2 : ∀ i, (x2 i).flat = true) (h : AW P N (keys L) c (RetXS (keys L) G (fun i => [(r1, x1 i), (r2, x2 i)]) L') (RetXQ (keys L) G (fun i => [(r1, x1 i), (r2, x2 i)]) L') ⟨args0 args 0, L⟩) : AX P f args L G (fun i => .tup [x1 i, x2 i]) L' :=
  AX_of hf hb hn hN hA (fun i g a w R => ⟨_, results_tmp2 hr _ _ _, ⟨[a.tmps.getD r1 undef, a.tmps.getD r2 undef], rfl, (R.tmp r1 (x1 i) lk_cons_self).vr1 (f1 i), (R.tmp r2 (x2 i) (by
    rw [lk_cons_ne (by intro e; subst e; simp at hne)]; exact lk_cons_self)).vr1 (f2 i), trivial⟩⟩) h
theorem AX_bodyC {ty : TypeId} {r n k : Nat} {cs : ι → List Cell} (hf : P.funcs[f]? = some fn) (hb : fn.body = some c) (hn : (fn.name == "runtime.NumGoroutine") = false) (hN : fn.ntmps = N) (hA : Nat.ble args.length N = true) (hr : fn.results = #[.cell r ty])
    (ht : ∀ i, lk (T i) r = some (.one (.ptr k 0))) (hl : ∀ i, lkl (Lf i) k = some (.box (cs i))) (hk : kindT P ty = some (some n)) (hcn : ∀ i, (cs i).length = n) (hren : ∀ i, (AVal.agg (cs i)).ren (rn []) = .agg (cs i)) (hle : ∀ i, LeS (keys L) (rn []) ⟨T i, Lf i⟩ ⟨[], L' i⟩)
    (h : AW P N (keys L) c (RetXS (keys L) G T Lf) (RetXQ (keys L) G T Lf) ⟨args0 args 0, L⟩) : AX P f args L G (fun i => .agg (cs i)) L' :=
  AX_ofB hf hb hn hN hA hren hle (fun i g a w R => by
    obtain ⟨ad, v, h1, h2, h3⟩ := run_results_c R (ht i) (hl i) hk (hcn i)
    refine ⟨v, ?_, h3⟩
    simp only [Array.getD_eq_getD_getElem?] at h1
    simp [results, hr, h1, h2]) h
end body

/-! ### A region in the order of its text -/
def AN (P : Program) (N : Nat) (ops : Array Oper) (Kn : St → Prop) (l : List Oper) (s : St) : Prop :=
  ∀ (K : List Nat) (Q : Exit → St → Prop) (g0 : Gh) (l0 : Locs) (w0 : World), MemR g0 l0 w0 → ∀ (g : Gh) (a : Act) (w : World), Rep N g s a w → Step K g0 l0 w0 g s.l w → wpList P ops (Ends N K g0 l0 w0 (NormR Kn Q)) l a w
section walk
variable {P : Program} {N : Nat} {ops : Array Oper} {Kn : St → Prop} {r : List Oper} {s s' : St} {c : Cert}
theorem AW_regionN {K : List Nat} {Q : Exit → St → Prop} {id : Nat} {l : List Oper} (h : AN P N l.toArray Kn l s) : AW P N K (.region id l.toArray false) Kn Q s := fun g a w r =>
  wp_region_lit (h K Q g s.l w r.mem g a w r (Step.refl ..))
theorem AN_nil (h : Kn s) : AN P N ops Kn [] s := fun K Q g0 l0 w0 m0 g a w r hs => ⟨g, s, r, hs, h⟩
theorem AN_cons {o : Oper} (h1 : OpG P N ops o c) (h2 : c.pre s) (h3 : AN P N ops Kn r (c.upd s)) : AN P N ops Kn (o :: r) s := fun K Q g0 l0 w0 m0 g a w R hs => by
  have h4 := h1 K g s a w h2 R
  unfold wpList
  split
  · rename_i hw
    rw [if_pos hw] at h4
    exact .inl (Oper.wp_weak (fun a' w' ⟨g', r', hs'⟩ => h3 K Q g0 l0 w0 m0 g' a' w' r' (hs.trans m0 R.mem hs')) h4)
  · rename_i hw
    rw [if_neg hw] at h4
    obtain ⟨g', r', hs'⟩ := h4
    exact h3 K Q g0 l0 w0 m0 g' _ w r' (hs.trans m0 R.mem hs')
theorem AN_p {dst : Option Nat} {op : Op} {ty : TypeId} {pos : String} {after : Array Edge} (h : Stp P N ⟨dst, op, ty, pos, after, none⟩ s s' c) (next : AN P N ops Kn r s') : AN P N ops Kn (⟨dst, op, ty, pos, after, none⟩ :: r) s :=
  AN_cons (OpG.plain rfl h.1) h.2.1 (by rw [h.2.2]; exact next)
theorem AN_g {dst : Option Nat} {op : Op} {ty : TypeId} {pos : String} {after : Array Edge} {j t : Nat} {b : Bool} (hj : gslot ops j = some t) (hb : lk s.t t = some (.one (.c (.bool b)))) (h : Stp P N ⟨dst, op, ty, pos, after, some (j, b)⟩ s s' c)
    (next : AN P N ops Kn r s') : AN P N ops Kn (⟨dst, op, ty, pos, after, some (j, b)⟩ :: r) s :=
  AN_cons (c := { c with rt := (t, .one (.c (.bool b))) :: c.rt }) (OpG.on rfl hj h.1) ⟨fun p hp => by
    rcases List.mem_cons.1 hp with rfl | hp
    · exact hb
    · exact h.2.1.1 p hp, h.2.1.2⟩ (by
    show AN P N ops Kn r (c.upd s)
    rw [h.2.2]; exact next)
theorem AN_o {d : Nat} {op : Op} {ty : TypeId} {pos : String} {after : Array Edge} {j t : Nat} {b b' : Bool} (hN : Nat.blt d N = true) (hj : gslot ops j = some t) (hb : lk s.t t = some (.one (.c (.bool b')))) (hne : (b' == b) = false)
    (next : AN P N ops Kn r ⟨(d, .tup []) :: s.t, s.l⟩) : AN P N ops Kn (⟨some d, op, ty, pos, after, some (j, b)⟩ :: r) s :=
  AN_cons (OpG.off rfl hj (by simpa using hne) rfl (blt_lt hN)) ⟨fun p hp => by simp at hp; subst hp; exact hb, by simp, by simp⟩ next
theorem AN_b {d : Nat} {op : Op} {ty : TypeId} {pos : String} {after : Array Edge} {e : Bool} {rt : List (Nat × AVal)} {rl : List (Nat × Blk)} (h : Stp P N ⟨some d, op, ty, pos, after, none⟩ s ⟨(d, .one (.c (.bool e))) :: s.t, s.l⟩ ⟨rt, rl, [(d, .one (.c (.bool e)))], [], []⟩)
    (next : ∀ b, e = b → AN P N ops Kn r ⟨(d, .one (.c (.bool b))) :: s.t, s.l⟩) : AN P N ops Kn (⟨some d, op, ty, pos, after, none⟩ :: r) s :=
  AN_p h (next e rfl)
theorem AN_gb {d : Nat} {op : Op} {ty : TypeId} {pos : String} {after : Array Edge} {j t : Nat} {g : Bool} {e : Bool} {rt : List (Nat × AVal)} {rl : List (Nat × Blk)} (hj : gslot ops j = some t) (hb : lk s.t t = some (.one (.c (.bool g)))) (h : Stp P N ⟨some d, op, ty, pos, after, some (j, g)⟩ s ⟨(d, .one (.c (.bool e))) :: s.t, s.l⟩ ⟨rt, rl, [(d, .one (.c (.bool e)))], [], []⟩)
    (next : ∀ b, e = b → AN P N ops Kn r ⟨(d, .one (.c (.bool b))) :: s.t, s.l⟩) : AN P N ops Kn (⟨some d, op, ty, pos, after, some (j, g)⟩ :: r) s :=
  AN_g hj hb h (next e rfl)
/-- A call whose contract leaves open what it returns. -/
theorem AN_x {ι : Type} {G : ι → Prop} {res : ι → AVal} {L' : ι → Locs} {d : Nat} {fo : Operand} {f : FuncId} {ars : Array Operand} {ats : Array TypeId} {xs : List AVal} {L : Locs} {ty : TypeId} {pos : String} {after : Array Edge} (hN : Nat.blt d N = true)
    (hev : evo s.t fo = some (.one (.clo f []))) (hxs : evl s.t ars.toList = some xs) (hac : AX P f xs L G res L') (hfl : flats xs = true) (hLs : okL L = true) (hsc : ∀ i, closedIn (keys (L' i)) (L' i).ids = true) (hsr : ∀ i, closedIn (keys (L' i)) (res i).ids = true)
    (hsub : sub s.l L) (hnew : ∀ i, newOk s (newOf L (L' i)) = true) (next : ∀ i, G i → AN P N ops Kn r ⟨(d, res i) :: s.t, L' i ++ (goneL L ++ s.l)⟩) :
    AN P N ops Kn (⟨some d, .call { callee := .value fo, args := ars, argTypes := ats }, ty, pos, after, none⟩ :: r) s := fun K Q g0 l0 w0 m0 g a w R hst => by
  have hfe : a.eval fo = .func (.func f) #[] #[] := (eval_ok R (evs_of hev) (rdo_of hev) : VR g s.l w (a.eval fo) (.one (.clo f []))) fun k hk => by cases hk
  have hargs : All2 (VR1 g s.l w) ((ars.map a.eval) ++ #[]).toList xs := by
    rw [Array.append_empty, Array.toList_map]
    exact ((evl_ok hxs).2 R (evl_ok (N := N) hxs).1).vr1 hfl
  unfold wpList
  rw [if_pos (by simp [Region.wanted])]
  refine .inl ?_
  unfold Oper.wp
  rw [run_enter rfl hac.fn hfe, Oper.upon_enter]
  have mL := R.mem.sub hsub
  refine (hac.run g w _ mL (hargs.mono fun v x _ hr => VR1.step (fun _ _ => rfl) (fun _ h => h) (Nat.le_refl _) (fun k _ => okK.sub hsub k) hr)).mono ?_
  rintro e w' ⟨i, v, g', hG, rfl, m', hv, hs⟩
  have p3 := newOk_of (hnew i)
  have hnw : ∀ k ∈ newOf L (L' i), lk s.l k = none ∧ k ∉ s.l.ids := fun k hk => ⟨(p3 k hk).1, fun h => (p3 k hk).2 (List.mem_append_right _ h)⟩
  obtain ⟨c1, c2, c3, c4, c5⟩ := call_mem R.mem hsub m' hs (hsc i) hLs hnw K
  have hmm : ∀ b, g.I b → (g.mix g' (keys (L' i) ++ keys L)).I b := fun b hb => hs.imm b hb
  refine next i hG K Q g0 l0 w0 m0 _ _ w' ?_ (hst.trans m0 R.mem c2)
  exact R.next (blt_lt hN) c3 hmm hs.size (fun k hk => c4 k fun h => (p3 k h).2 hk) (VR.step (g := g') (l := L' i) (fun _ _ => rfl) (fun b hb => hb) (Nat.le_refl _) (fun k hk => c5 k (closedIn_get (hsr i) hk)) hv) c1
end walk
end Go.Proofs.Ytfdpigafekohgaa

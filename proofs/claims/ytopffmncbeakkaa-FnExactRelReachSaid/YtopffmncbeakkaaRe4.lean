/- Lemmas of the walks, part 4. -/
import Derived.Test.YtopffmncbeakkaaRe3
/- A row taken out, or put in (printed by walk.py) -/
namespace Go.Proofs.Ytopffmncbeakkaa
open Go.RowKit
set_option linter.unusedVariables false
set_option linter.unusedSimpArgs false
set_option maxRecDepth 100000

set_option maxHeartbeats 4000000 in
theorem copyS_c0 (r : Relt) (hr : smallRel r) : AC Try.prog 50 [.agg (relC r)] [] (.agg [.c (.int .i64 r.arity), .own 0]) [(0, some (.arr 38 rowE r.rows true))] := by
  refine AC_bodyC (n := 2) (k := 9) (T := [(2, .one (.ptr 9 0))]) (Lf := ((9, some (.box [.c (.int .i64 r.arity), .own 0])) :: [(0, some (.arr 38 rowE r.rows true))])) Try.func50 rfl rfl Try.ntmps50 rfl Try.results50 rfl rfl (by kernel_rfl) rfl rfl ⟨trivial, (by repeat (first | exact trivial | refine ⟨⟨_, rfl, BLe.rf⟩, ?_⟩)), (by repeat (first | exact trivial | refine ⟨⟨rfl, by first | (left; intro h; cases h) | (right; rfl), by first | exact (fun _ h => ⟨_, h⟩) | exact (fun _ _ => ⟨_, rfl⟩)⟩, ?_⟩)), rfl⟩ ?_
  refine AW_seq ?_
  refine AW_region ?_
  refine AL_p (x_box 100 rfl rfl rfl rfl rfl rfl rfl) ?_
  refine AL_p (x_alloc (z := .agg #[.int .i64 0, .slice none 0 0]) 101 rfl (by kernel_rfl) rfl rfl rfl rfl) ?_
  refine AL_nil ?_
  refine AW_seq ?_
  refine AW_region ?_
  refine AL_p (x_field (off := 0) (o' := 0) rfl rfl rfl (by kernel_rfl) rfl) ?_
  refine AL_p (x_load1 rfl rfl rfl (by kernel_rfl) rfl) ?_
  refine AL_p (x_build (zs := [.int .i64 0, .slice none 0 0]) (places := [(0, 1), (1, 1)]) rfl (by kernel_rfl) rfl rfl rfl rfl rfl) ?_
  refine AL_p (x_alloc (z := .agg #[.int .i64 0, .slice none 0 0]) 102 rfl (by kernel_rfl) rfl rfl rfl rfl) ?_
  refine AL_p (x_store (n := 2) rfl rfl rfl rfl (by kernel_rfl) rfl rfl rfl) ?_
  refine AL_nil ?_
  refine AW_seq ?_
  refine AW_seq ?_
  refine AW_region ?_
  refine AL_p (x_field (off := 1) (o' := 1) rfl rfl rfl (by kernel_rfl) rfl) ?_
  refine AL_p (x_load1 rfl rfl rfl (by kernel_rfl) rfl) ?_
  refine AL_p (x_len (E := 38) (n := 1) rfl rfl (by kernel_rfl)) ?_
  refine AL_p (x_move rfl rfl) ?_
  refine AL_nil ?_
  refine AW_block ?_
  refine AW_adopt (T := 38) (e := rowE) 103 102 1 rfl rfl rfl rfl rfl ?_
  refine AW_loop2 (ι := {q : Nat // q ≤ r.rows.length}) (fun p => [(11, .one (.c (.int .i64 ((p.1) : Int))))]) (fun p => [(103, some (.arr 38 rowE (r.rows.take (p.1)) true))]) [1, 2, 3, 10] [100, 101, 102] (fun p => r.rows.length - (p.1)) ⟨0, by omega⟩ (rn []) ?_ ?_
  exact ⟨by (repeat refine ⟨⟨_, rfl, by first | exact VLe.rf | exact vle_int (by dsimp only; omega)⟩, ?_⟩); exact trivial, by (repeat refine ⟨⟨_, rfl, by first | exact BLe.rf | exact BLe.box AllC.rf | exact BLe.arr (by first | exact take_none | exact take_more (by omega))⟩, ?_⟩); exact trivial, by repeat (first | exact trivial | refine ⟨⟨rfl, by first | (left; intro h; cases h) | (right; rfl), fun _ h => ⟨_, h⟩⟩, ?_⟩), rfl⟩
  rintro ⟨k, hinv⟩
  dsimp only
  have hl := hr.1
  refine AW_seq ?_
  refine AW_region ?_
  refine AL_b (x_lss rfl rfl rfl) (fun b12 h12 => ?_)
  refine AL_nil ?_
  refine AW_seq ?_
  cases b12
  rotate_left
  · try simp only [decide_eq_true_eq, decide_eq_false_iff_not, Bool.not_eq_true, Bool.not_eq_false, Bool.not_eq_true', Bool.not_eq_false', beq_iff_eq, bne_iff_ne, beq_eq_false_iff_ne, bne_eq_false_iff_eq, Int.not_lt, Int.not_le, ge_iff_le, gt_iff_lt] at h12
    refine AW_condT rfl ?_
    refine AW_skip ?_
    refine AW_seq ?_
    refine AW_block ?_
    refine AW_seq ?_
    refine AW_region ?_
    refine AL_p (x_move rfl rfl) ?_
    refine AL_p (x_assign rfl rfl) ?_
    refine AL_nil ?_
    refine AW_draw rfl ?_
    refine AL_p (x_field (off := 1) (o' := 1) rfl rfl rfl (by kernel_rfl) rfl) ?_
    refine AL_p (x_load1 rfl rfl rfl (by kernel_rfl) rfl) ?_
    refine AL_p (x_field (off := 1) (o' := 1) rfl rfl rfl (by kernel_rfl) rfl) ?_
    refine AL_p (x_load1 rfl rfl rfl (by kernel_rfl) rfl) ?_
    refine AL_p (x_move rfl rfl) ?_
    refine AL_p (x_index (E := 38) (n := 1) rfl rfl rfl (by kernel_rfl) rfl (k := k) (by omega) (by omega)) ?_
    refine AL_p (x_eloadW (n := 1) rfl rfl (by kernel_rfl) rfl) ?_
    refine AL_p (x_call1 rfl rfl rfl (rowS_c (r.rows[k]'(by omega)) (hr.2 _ (List.getElem_mem _)).1 104) rfl rfl rfl rfl) ?_
    refine AL_p (y_bslice (E := 38) (e := rowE) [.tmp 21] ([r.rows[k]'(by omega)]) 105 rfl rfl rfl rfl rfl rfl rfl rfl FitL.rf rfl rfl rfl rfl rfl rfl (by kernel_rfl)) ?_
    refine AL_p (y_append 106 rfl rfl rfl rfl rfl rfl rfl rfl (by kernel_rfl) (by have := hr.1; simp only [List.length_take, List.length_cons, List.length_nil]; omega)) ?_
    refine AL_p (x_field (off := 1) (o' := 1) rfl rfl rfl (by kernel_rfl) rfl) ?_
    refine AL_p (x_store (n := 1) rfl rfl rfl rfl (by kernel_rfl) rfl rfl rfl) ?_
    refine AL_nild (by kernel_rfl) ?_
    refine AW_region ?_
    refine AL_p (x_add rfl rfl rfl (IntWalk.i64_in _ (by omega))) ?_
    refine AL_p (x_move rfl rfl) ?_
    refine AL_nil ?_
    refine ⟨⟨k + 1, by omega⟩, rn [(103, 106)], ?_, by dsimp only; omega⟩
    exact ⟨by (repeat refine ⟨⟨_, rfl, by first | exact VLe.rf | exact vle_int (by dsimp only; omega)⟩, ?_⟩); exact trivial, by (repeat refine ⟨⟨_, rfl, by first | exact BLe.rf | exact BLe.box AllC.rf | exact BLe.arr (by first | exact take_none | exact take_more (by omega))⟩, ?_⟩); exact trivial, by repeat (first | exact trivial | refine ⟨⟨rfl, by first | (left; intro h; cases h) | (right; rfl), fun _ h => ⟨_, h⟩⟩, ?_⟩), rfl⟩
  · try simp only [decide_eq_true_eq, decide_eq_false_iff_not, Bool.not_eq_true, Bool.not_eq_false, Bool.not_eq_true', Bool.not_eq_false', beq_iff_eq, bne_iff_ne, beq_eq_false_iff_ne, bne_eq_false_iff_eq, Int.not_lt, Int.not_le, ge_iff_le, gt_iff_lt] at h12
    refine AW_condF rfl ?_
    refine AW_exit (BQ_hit ?_)
    refine AW_seq ?_
    refine AW_region ?_
    refine AL_p (x_loadN (n := 2) rfl rfl rfl (by kernel_rfl) rfl rfl) ?_
    refine AL_p (x_store (n := 2) rfl rfl rfl rfl (by kernel_rfl) rfl rfl rfl) ?_
    refine AL_nil ?_
    refine AW_ret ?_
    exact ⟨rn [(9, 101), (0, 103)], ⟨⟨⟨_, rfl, VLe.rf⟩, trivial⟩, ⟨⟨_, rfl, by first | exact BLe.rf | (subst_vars; exact BLe.rf)⟩, ⟨_, rfl, BLe.arr (List.take_of_length_le (by omega))⟩, trivial⟩, trivial, rfl⟩⟩
theorem copyS_c (r : Relt) (hr : smallRel r) (k : Nat) : AC Try.prog 50 [.agg (relC r)] [] (.agg [.c (.int .i64 r.arity), .own k]) [(k, some (.arr 38 rowE r.rows true))] := AC.at (copyS_c0 r hr) k

set_option maxHeartbeats 4000000 in
theorem copyI_c0 (r : Relt) (hr : smallRel r) : AC Try.prog 42 [.agg (relC r)] [] (.agg [.c (.int .i64 r.arity), .own 0]) [(0, some (.arr 38 rowE r.rows true))] := by
  refine AC_bodyC (n := 2) (k := 9) (T := [(2, .one (.ptr 9 0))]) (Lf := ((9, some (.box [.c (.int .i64 r.arity), .own 0])) :: [(0, some (.arr 38 rowE r.rows true))])) Try.func42 rfl rfl Try.ntmps42 rfl Try.results42 rfl rfl (by kernel_rfl) rfl rfl ⟨trivial, (by repeat (first | exact trivial | refine ⟨⟨_, rfl, BLe.rf⟩, ?_⟩)), (by repeat (first | exact trivial | refine ⟨⟨rfl, by first | (left; intro h; cases h) | (right; rfl), by first | exact (fun _ h => ⟨_, h⟩) | exact (fun _ _ => ⟨_, rfl⟩)⟩, ?_⟩)), rfl⟩ ?_
  refine AW_seq ?_
  refine AW_region ?_
  refine AL_p (x_box 100 rfl rfl rfl rfl rfl rfl rfl) ?_
  refine AL_p (x_alloc (z := .agg #[.int .i64 0, .slice none 0 0]) 101 rfl (by kernel_rfl) rfl rfl rfl rfl) ?_
  refine AL_nil ?_
  refine AW_seq ?_
  refine AW_region ?_
  refine AL_p (x_field (off := 0) (o' := 0) rfl rfl rfl (by kernel_rfl) rfl) ?_
  refine AL_p (x_load1 rfl rfl rfl (by kernel_rfl) rfl) ?_
  refine AL_p (x_build (zs := [.int .i64 0, .slice none 0 0]) (places := [(0, 1), (1, 1)]) rfl (by kernel_rfl) rfl rfl rfl rfl rfl) ?_
  refine AL_p (x_alloc (z := .agg #[.int .i64 0, .slice none 0 0]) 102 rfl (by kernel_rfl) rfl rfl rfl rfl) ?_
  refine AL_p (x_store (n := 2) rfl rfl rfl rfl (by kernel_rfl) rfl rfl rfl) ?_
  refine AL_nil ?_
  refine AW_seq ?_
  refine AW_seq ?_
  refine AW_region ?_
  refine AL_p (x_field (off := 1) (o' := 1) rfl rfl rfl (by kernel_rfl) rfl) ?_
  refine AL_p (x_load1 rfl rfl rfl (by kernel_rfl) rfl) ?_
  refine AL_p (x_len (E := 38) (n := 1) rfl rfl (by kernel_rfl)) ?_
  refine AL_p (x_move rfl rfl) ?_
  refine AL_nil ?_
  refine AW_block ?_
  refine AW_adopt (T := 38) (e := rowE) 103 102 1 rfl rfl rfl rfl rfl ?_
  refine AW_loop2 (ι := {q : Nat // q ≤ r.rows.length}) (fun p => [(12, .one (.c (.int .i64 ((p.1) : Int))))]) (fun p => [(103, some (.arr 38 rowE (r.rows.take (p.1)) true))]) [2, 3, 10, 11] [100, 101, 102] (fun p => r.rows.length - (p.1)) ⟨0, by omega⟩ (rn []) ?_ ?_
  exact ⟨by (repeat refine ⟨⟨_, rfl, by first | exact VLe.rf | exact vle_int (by dsimp only; omega)⟩, ?_⟩); exact trivial, by (repeat refine ⟨⟨_, rfl, by first | exact BLe.rf | exact BLe.box AllC.rf | exact BLe.arr (by first | exact take_none | exact take_more (by omega))⟩, ?_⟩); exact trivial, by repeat (first | exact trivial | refine ⟨⟨rfl, by first | (left; intro h; cases h) | (right; rfl), fun _ h => ⟨_, h⟩⟩, ?_⟩), rfl⟩
  rintro ⟨k, hinv⟩
  dsimp only
  have hl := hr.1
  refine AW_seq ?_
  refine AW_region ?_
  refine AL_b (x_lss rfl rfl rfl) (fun b13 h13 => ?_)
  refine AL_nil ?_
  refine AW_seq ?_
  cases b13
  rotate_left
  · try simp only [decide_eq_true_eq, decide_eq_false_iff_not, Bool.not_eq_true, Bool.not_eq_false, Bool.not_eq_true', Bool.not_eq_false', beq_iff_eq, bne_iff_ne, beq_eq_false_iff_ne, bne_eq_false_iff_eq, Int.not_lt, Int.not_le, ge_iff_le, gt_iff_lt] at h13
    refine AW_condT rfl ?_
    refine AW_skip ?_
    refine AW_seq ?_
    refine AW_block ?_
    refine AW_seq ?_
    refine AW_region ?_
    refine AL_p (x_index (E := 38) (n := 1) rfl rfl rfl (by kernel_rfl) rfl (k := k) (by omega) (by omega)) ?_
    refine AL_p (x_eloadW (n := 1) rfl rfl (by kernel_rfl) rfl) ?_
    refine AL_p (x_alloc (z := .agg #[.slice none 0 0]) 104 rfl (by kernel_rfl) rfl rfl rfl rfl) ?_
    refine AL_p (x_store (n := 1) rfl rfl rfl rfl (by kernel_rfl) rfl rfl rfl) ?_
    refine AL_nil ?_
    refine AW_draw rfl ?_
    refine AL_p (x_field (off := 1) (o' := 1) rfl rfl rfl (by kernel_rfl) rfl) ?_
    refine AL_p (x_load1 rfl rfl rfl (by kernel_rfl) rfl) ?_
    refine AL_p (x_loadN (n := 1) rfl rfl rfl (by kernel_rfl) rfl rfl) ?_
    refine AL_p (x_call1 rfl rfl rfl (rowI_c (r.rows[k]'(by omega)) (hr.2 _ (List.getElem_mem _)).1 105) rfl rfl rfl rfl) ?_
    refine AL_p (y_bslice (E := 38) (e := rowE) [.tmp 19] ([r.rows[k]'(by omega)]) 106 rfl rfl rfl rfl rfl rfl rfl rfl FitL.rf rfl rfl rfl rfl rfl rfl (by kernel_rfl)) ?_
    refine AL_p (y_append 107 rfl rfl rfl rfl rfl rfl rfl rfl (by kernel_rfl) (by have := hr.1; simp only [List.length_take, List.length_cons, List.length_nil]; omega)) ?_
    refine AL_p (x_field (off := 1) (o' := 1) rfl rfl rfl (by kernel_rfl) rfl) ?_
    refine AL_p (x_store (n := 1) rfl rfl rfl rfl (by kernel_rfl) rfl rfl rfl) ?_
    refine AL_nild (by kernel_rfl) ?_
    refine AW_region ?_
    refine AL_p (x_add rfl rfl rfl (IntWalk.i64_in _ (by omega))) ?_
    refine AL_p (x_move rfl rfl) ?_
    refine AL_nil ?_
    refine ⟨⟨k + 1, by omega⟩, rn [(103, 107)], ?_, by dsimp only; omega⟩
    exact ⟨by (repeat refine ⟨⟨_, rfl, by first | exact VLe.rf | exact vle_int (by dsimp only; omega)⟩, ?_⟩); exact trivial, by (repeat refine ⟨⟨_, rfl, by first | exact BLe.rf | exact BLe.box AllC.rf | exact BLe.arr (by first | exact take_none | exact take_more (by omega))⟩, ?_⟩); exact trivial, by repeat (first | exact trivial | refine ⟨⟨rfl, by first | (left; intro h; cases h) | (right; rfl), fun _ h => ⟨_, h⟩⟩, ?_⟩), rfl⟩
  · try simp only [decide_eq_true_eq, decide_eq_false_iff_not, Bool.not_eq_true, Bool.not_eq_false, Bool.not_eq_true', Bool.not_eq_false', beq_iff_eq, bne_iff_ne, beq_eq_false_iff_ne, bne_eq_false_iff_eq, Int.not_lt, Int.not_le, ge_iff_le, gt_iff_lt] at h13
    refine AW_condF rfl ?_
    refine AW_exit (BQ_hit ?_)
    refine AW_seq ?_
    refine AW_region ?_
    refine AL_p (x_loadN (n := 2) rfl rfl rfl (by kernel_rfl) rfl rfl) ?_
    refine AL_p (x_store (n := 2) rfl rfl rfl rfl (by kernel_rfl) rfl rfl rfl) ?_
    refine AL_nil ?_
    refine AW_ret ?_
    exact ⟨rn [(9, 101), (0, 103)], ⟨⟨⟨_, rfl, VLe.rf⟩, trivial⟩, ⟨⟨_, rfl, by first | exact BLe.rf | (subst_vars; exact BLe.rf)⟩, ⟨_, rfl, BLe.arr (List.take_of_length_le (by omega))⟩, trivial⟩, trivial, rfl⟩⟩
theorem copyI_c (r : Relt) (hr : smallRel r) (k : Nat) : AC Try.prog 42 [.agg (relC r)] [] (.agg [.c (.int .i64 r.arity), .own k]) [(k, some (.arr 38 rowE r.rows true))] := AC.at (copyI_c0 r hr) k

set_option maxHeartbeats 4000000 in
theorem putS_c (rows : List (List Val)) (row : List Val) (hl : rows.length ≤ 1048575) (hm : ∀ r ∈ rows, r.length ≤ 1048576) (hr : row.length ≤ 1048576) (hs : Sorted rows) (hv : ∀ v ∈ row, valOk v = true) : AC Try.prog 51 [.one (.sl rowE rows), .agg (rowC row)] [] (.one (.sl rowE (putRow rows row))) [] := by
  refine AC_body1 Try.func51 rfl rfl Try.ntmps51 rfl Try.results51 ?_
  refine AW_seq ?_
  refine AW_region ?_
  refine AL_p (x_box 100 rfl rfl rfl rfl rfl rfl rfl) ?_
  refine AL_p (x_assign rfl rfl) ?_
  refine AL_nil ?_
  refine AW_seq ?_
  refine AW_seq ?_
  refine AW_region ?_
  refine AL_p (x_move rfl rfl) ?_
  refine AL_p (x_loadN (n := 1) rfl rfl rfl (by kernel_rfl) rfl rfl) ?_
  refine AL_b (x_call0 rfl rfl rfl (hasS_c _ _ (by omega) hm) rfl rfl) (fun b10 h10 => ?_)
  refine AL_nil ?_
  cases b10
  rotate_left
  · try simp only [decide_eq_true_eq, decide_eq_false_iff_not, Bool.not_eq_true, Bool.not_eq_false, Bool.not_eq_true', Bool.not_eq_false', beq_iff_eq, bne_iff_ne, beq_eq_false_iff_ne, bne_eq_false_iff_eq, Int.not_lt, Int.not_le, ge_iff_le, gt_iff_lt] at h10
    have hno := putRow_has h10
    refine AW_condT rfl ?_
    refine AW_seq ?_
    refine AW_region ?_
    refine AL_p (x_move rfl rfl) ?_
    refine AL_p (x_assign rfl rfl) ?_
    refine AL_nil ?_
    refine AW_ret ?_
    exact ⟨rn [], ⟨⟨_, rfl, by first | (refine vle_sl ?_; rw [hno]; done) | (refine vle_sl ?_; rw [hno]; first | exact putTo_done (by omega) (by omega) (by omega) | exact putTo_end (by omega) (by omega) (by omega))⟩, trivial⟩, trivial, trivial, rfl⟩
  · try simp only [decide_eq_true_eq, decide_eq_false_iff_not, Bool.not_eq_true, Bool.not_eq_false, Bool.not_eq_true', Bool.not_eq_false', beq_iff_eq, bne_iff_ne, beq_eq_false_iff_ne, bne_eq_false_iff_eq, Int.not_lt, Int.not_le, ge_iff_le, gt_iff_lt] at h10
    have hno := putRow_no h10
    refine AW_condF rfl ?_
    refine AW_skip ?_
    refine AW_seq ?_
    refine AW_region ?_
    refine AL_p (y_bslice0 (E := 38) (e := rowE) 101 rfl rfl rfl (by kernel_rfl)) ?_
    refine AL_p (x_assign rfl rfl) ?_
    refine AL_nil ?_
    refine AW_seq ?_
    refine AW_region ?_
    refine AL_p (x_assign rfl rfl) ?_
    refine AL_nil ?_
    refine AW_seq ?_
    refine AW_seq ?_
    refine AW_region ?_
    refine AL_p (x_move rfl rfl) ?_
    refine AL_p (x_len (E := 38) (n := 1) rfl rfl (by kernel_rfl)) ?_
    refine AL_p (x_move rfl rfl) ?_
    refine AL_nil ?_
    refine AW_block ?_
    refine AW_shallow 101 rfl ?_
    refine AW_loop2 (ι := {q : Nat × Bool // (q.1) ≤ rows.length ∧ decide (pos rows row < (q.1)) = (q.2)}) (fun p => [(5, .one (.own 101)), (6, .one (.c (.bool (p.1.2)))), (15, .one (.c (.int .i64 ((p.1.1) : Int))))]) (fun p => [(101, some (.arr 38 rowE (putTo rows row (p.1.1)) false))]) [0, 3, 14] [100] (fun p => rows.length - (p.1.1)) ⟨⟨0, false⟩, ⟨by omega, by simp⟩⟩ (rn []) ?_ ?_
    exact ⟨by (repeat refine ⟨⟨_, rfl, by first | exact VLe.rf | exact vle_int (by dsimp only; omega)⟩, ?_⟩); exact trivial, by (repeat refine ⟨⟨_, rfl, by first | exact BLe.rf | exact BLe.box AllC.rf | exact BLe.arr (by first | exact putTo_zero | exact putTo_behind (by omega) (by omega) | exact putTo_here (by omega) (by omega) | exact putTo_before (by omega) (by omega))⟩, ?_⟩); exact trivial, by repeat (first | exact trivial | refine ⟨⟨rfl, by first | (left; intro h; cases h) | (right; rfl), fun _ h => ⟨_, h⟩⟩, ?_⟩), rfl⟩
    rintro ⟨⟨k, b900⟩, hinv⟩
    dsimp only
    obtain ⟨hk, h900⟩ := hinv
    have hk : k ≤ rows.length := hk
    refine AW_seq ?_
    refine AW_region ?_
    refine AL_b (x_lss rfl rfl rfl) (fun b16 h16 => ?_)
    refine AL_nil ?_
    refine AW_seq ?_
    cases b16
    rotate_left
    · try simp only [decide_eq_true_eq, decide_eq_false_iff_not, Bool.not_eq_true, Bool.not_eq_false, Bool.not_eq_true', Bool.not_eq_false', beq_iff_eq, bne_iff_ne, beq_eq_false_iff_ne, bne_eq_false_iff_eq, Int.not_lt, Int.not_le, ge_iff_le, gt_iff_lt] at h16
      refine AW_condT rfl ?_
      refine AW_skip ?_
      refine AW_seq ?_
      refine AW_block ?_
      refine AW_seq ?_
      refine AW_region ?_
      refine AL_p (x_move rfl rfl) ?_
      refine AL_p (x_assign rfl rfl) ?_
      refine AL_nil ?_
      refine AW_seq ?_
      refine AW_seq ?_
      refine AW_draw rfl ?_
      refine AL_p (x_move rfl rfl) ?_
      refine AL_p (x_not rfl rfl) ?_
      refine AL_p (x_move rfl rfl) ?_
      cases b900
      rotate_left
      · try simp only [decide_eq_true_eq, decide_eq_false_iff_not, Bool.not_eq_true, Bool.not_eq_false, Bool.not_eq_true', Bool.not_eq_false', beq_iff_eq, bne_iff_ne, beq_eq_false_iff_ne, bne_eq_false_iff_eq, Int.not_lt, Int.not_le, ge_iff_le, gt_iff_lt] at h900
        refine AL_o rfl rfl rfl rfl ?_
        refine AL_o rfl rfl rfl rfl ?_
        refine AL_o rfl rfl rfl rfl ?_
        refine AL_o rfl rfl rfl rfl ?_
        refine AL_o rfl rfl rfl rfl ?_
        refine AL_o rfl rfl rfl rfl ?_
        refine AL_o rfl rfl rfl rfl ?_
        refine AL_p (x_pickF rfl rfl rfl) ?_
        refine AL_nild (by kernel_rfl) ?_
        refine AW_condF rfl ?_
        refine AW_skip ?_
        refine AW_region ?_
        refine AL_p (x_move rfl rfl) ?_
        refine AL_p (x_move rfl rfl) ?_
        refine AL_p (x_move rfl rfl) ?_
        refine AL_p (x_index (E := 38) (n := 1) rfl rfl rfl (by kernel_rfl) rfl (k := k) (by omega) (by omega)) ?_
        refine AL_p (x_eloadW (n := 1) rfl rfl (by kernel_rfl) rfl) ?_
        refine AL_p (y_bslice (E := 38) (e := rowE) [.tmp 38] ([(rows[k]'(by omega))]) 102 rfl rfl rfl rfl rfl rfl rfl rfl FitL.rf rfl rfl rfl rfl rfl rfl (by kernel_rfl)) ?_
        refine AL_p (y_append 103 rfl rfl rfl rfl rfl rfl rfl rfl (by kernel_rfl) (by have := putTo_len (rows := rows) (row := row) (k := k) (by omega); simp only [List.length_append, List.length_cons, List.length_nil]; omega)) ?_
        refine AL_p (x_assign rfl rfl) ?_
        refine AL_nil ?_
        refine AW_region ?_
        refine AL_p (x_add rfl rfl rfl (IntWalk.i64_in _ (by omega))) ?_
        refine AL_p (x_move rfl rfl) ?_
        refine AL_nil ?_
        refine ⟨⟨⟨k + 1, true⟩, ⟨by omega, by rw [decide_eq_true_eq]; omega⟩⟩, rn [(101, 103)], ?_, by dsimp only; omega⟩
        exact ⟨by (repeat refine ⟨⟨_, rfl, by first | exact VLe.rf | exact vle_int (by dsimp only; omega)⟩, ?_⟩); exact trivial, by (repeat refine ⟨⟨_, rfl, by first | exact BLe.rf | exact BLe.box AllC.rf | exact BLe.arr (by first | exact putTo_zero | exact putTo_behind (by omega) (by omega) | exact putTo_here (by omega) (by omega) | exact putTo_before (by omega) (by omega))⟩, ?_⟩); exact trivial, by repeat (first | exact trivial | refine ⟨⟨rfl, by first | (left; intro h; cases h) | (right; rfl), fun _ h => ⟨_, h⟩⟩, ?_⟩), rfl⟩
      · try simp only [decide_eq_true_eq, decide_eq_false_iff_not, Bool.not_eq_true, Bool.not_eq_false, Bool.not_eq_true', Bool.not_eq_false', beq_iff_eq, bne_iff_ne, beq_eq_false_iff_ne, bne_eq_false_iff_eq, Int.not_lt, Int.not_le, ge_iff_le, gt_iff_lt] at h900
        refine AL_g rfl rfl (x_loadN (n := 1) rfl rfl rfl (by kernel_rfl) rfl rfl) ?_
        refine AL_g rfl rfl (x_move rfl rfl) ?_
        refine AL_g rfl rfl (x_move rfl rfl) ?_
        refine AL_g rfl rfl (x_index (E := 38) (n := 1) rfl rfl rfl (by kernel_rfl) rfl (k := k) (by omega) (by omega)) ?_
        refine AL_g rfl rfl (x_eloadW (n := 1) rfl rfl (by kernel_rfl) rfl) ?_
        refine AL_g rfl rfl (x_call0 rfl rfl rfl (orderS_c _ _) rfl rfl) ?_
        refine AL_gb rfl rfl (x_eql rfl rfl rfl) (fun b27 h27 => ?_)
        refine AL_p (x_pickT rfl rfl rfl) ?_
        refine AL_nild (by kernel_rfl) ?_
        cases b27
        rotate_left
        · try simp only [decide_eq_true_eq, decide_eq_false_iff_not, Bool.not_eq_true, Bool.not_eq_false, Bool.not_eq_true', Bool.not_eq_false', beq_iff_eq, bne_iff_ne, beq_eq_false_iff_ne, bne_eq_false_iff_eq, Int.not_lt, Int.not_le, ge_iff_le, gt_iff_lt] at h27
          have hp : k = pos rows row := of_decide_eq_true ((putTo_lt hs hv h10 (k := k) (by omega) (by omega)).symm.trans (by simp [h27]))
          refine AW_condT rfl ?_
          refine AW_seq ?_
          refine AW_region ?_
          refine AL_p (x_move rfl rfl) ?_
          refine AL_p (x_loadN (n := 1) rfl rfl rfl (by kernel_rfl) rfl rfl) ?_
          refine AL_p (x_call1 rfl rfl rfl (rowS_c row hr 104) rfl rfl rfl rfl) ?_
          refine AL_p (y_bslice (E := 38) (e := rowE) [.tmp 31] ([row]) 105 rfl rfl rfl rfl rfl rfl rfl rfl FitL.rf rfl rfl rfl rfl rfl rfl (by kernel_rfl)) ?_
          refine AL_p (y_append 106 rfl rfl rfl rfl rfl rfl rfl rfl (by kernel_rfl) (by have := putTo_len (rows := rows) (row := row) (k := k) (by omega); simp only [List.length_append, List.length_cons, List.length_nil]; omega)) ?_
          refine AL_p (x_assign rfl rfl) ?_
          refine AL_nil ?_
          refine AW_region ?_
          refine AL_p (x_assign rfl rfl) ?_
          refine AL_nil ?_
          refine AW_region ?_
          refine AL_p (x_move rfl rfl) ?_
          refine AL_p (x_move rfl rfl) ?_
          refine AL_p (x_move rfl rfl) ?_
          refine AL_p (x_index (E := 38) (n := 1) rfl rfl rfl (by kernel_rfl) rfl (k := k) (by omega) (by omega)) ?_
          refine AL_p (x_eloadW (n := 1) rfl rfl (by kernel_rfl) rfl) ?_
          refine AL_p (y_bslice (E := 38) (e := rowE) [.tmp 38] ([(rows[k]'(by omega))]) 102 rfl rfl rfl rfl rfl rfl rfl rfl FitL.rf rfl rfl rfl rfl rfl rfl (by kernel_rfl)) ?_
          refine AL_p (y_append 103 rfl rfl rfl rfl rfl rfl rfl rfl (by kernel_rfl) (by have := putTo_len (rows := rows) (row := row) (k := k) (by omega); simp only [List.length_append, List.length_cons, List.length_nil]; omega)) ?_
          refine AL_p (x_assign rfl rfl) ?_
          refine AL_nil ?_
          refine AW_region ?_
          refine AL_p (x_add rfl rfl rfl (IntWalk.i64_in _ (by omega))) ?_
          refine AL_p (x_move rfl rfl) ?_
          refine AL_nil ?_
          refine ⟨⟨⟨k + 1, true⟩, ⟨by omega, by rw [decide_eq_true_eq]; omega⟩⟩, rn [(101, 103)], ?_, by dsimp only; omega⟩
          exact ⟨by (repeat refine ⟨⟨_, rfl, by first | exact VLe.rf | exact vle_int (by dsimp only; omega)⟩, ?_⟩); exact trivial, by (repeat refine ⟨⟨_, rfl, by first | exact BLe.rf | exact BLe.box AllC.rf | exact BLe.arr (by first | exact putTo_zero | exact putTo_behind (by omega) (by omega) | exact putTo_here (by omega) (by omega) | exact putTo_before (by omega) (by omega))⟩, ?_⟩); exact trivial, by repeat (first | exact trivial | refine ⟨⟨rfl, by first | (left; intro h; cases h) | (right; rfl), fun _ h => ⟨_, h⟩⟩, ?_⟩), rfl⟩
        · try simp only [decide_eq_true_eq, decide_eq_false_iff_not, Bool.not_eq_true, Bool.not_eq_false, Bool.not_eq_true', Bool.not_eq_false', beq_iff_eq, bne_iff_ne, beq_eq_false_iff_ne, bne_eq_false_iff_eq, Int.not_lt, Int.not_le, ge_iff_le, gt_iff_lt] at h27
          have hp : ¬ k = pos rows row := of_decide_eq_false ((putTo_lt hs hv h10 (k := k) (by omega) (by omega)).symm.trans (by simp [h27]))
          refine AW_condF rfl ?_
          refine AW_skip ?_
          refine AW_region ?_
          refine AL_p (x_move rfl rfl) ?_
          refine AL_p (x_move rfl rfl) ?_
          refine AL_p (x_move rfl rfl) ?_
          refine AL_p (x_index (E := 38) (n := 1) rfl rfl rfl (by kernel_rfl) rfl (k := k) (by omega) (by omega)) ?_
          refine AL_p (x_eloadW (n := 1) rfl rfl (by kernel_rfl) rfl) ?_
          refine AL_p (y_bslice (E := 38) (e := rowE) [.tmp 38] ([(rows[k]'(by omega))]) 102 rfl rfl rfl rfl rfl rfl rfl rfl FitL.rf rfl rfl rfl rfl rfl rfl (by kernel_rfl)) ?_
          refine AL_p (y_append 103 rfl rfl rfl rfl rfl rfl rfl rfl (by kernel_rfl) (by have := putTo_len (rows := rows) (row := row) (k := k) (by omega); simp only [List.length_append, List.length_cons, List.length_nil]; omega)) ?_
          refine AL_p (x_assign rfl rfl) ?_
          refine AL_nil ?_
          refine AW_region ?_
          refine AL_p (x_add rfl rfl rfl (IntWalk.i64_in _ (by omega))) ?_
          refine AL_p (x_move rfl rfl) ?_
          refine AL_nil ?_
          refine ⟨⟨⟨k + 1, false⟩, ⟨by omega, by rw [decide_eq_false_iff_not]; omega⟩⟩, rn [(101, 103)], ?_, by dsimp only; omega⟩
          exact ⟨by (repeat refine ⟨⟨_, rfl, by first | exact VLe.rf | exact vle_int (by dsimp only; omega)⟩, ?_⟩); exact trivial, by (repeat refine ⟨⟨_, rfl, by first | exact BLe.rf | exact BLe.box AllC.rf | exact BLe.arr (by first | exact putTo_zero | exact putTo_behind (by omega) (by omega) | exact putTo_here (by omega) (by omega) | exact putTo_before (by omega) (by omega))⟩, ?_⟩); exact trivial, by repeat (first | exact trivial | refine ⟨⟨rfl, by first | (left; intro h; cases h) | (right; rfl), fun _ h => ⟨_, h⟩⟩, ?_⟩), rfl⟩
    · try simp only [decide_eq_true_eq, decide_eq_false_iff_not, Bool.not_eq_true, Bool.not_eq_false, Bool.not_eq_true', Bool.not_eq_false', beq_iff_eq, bne_iff_ne, beq_eq_false_iff_ne, bne_eq_false_iff_eq, Int.not_lt, Int.not_le, ge_iff_le, gt_iff_lt] at h16
      refine AW_condF rfl ?_
      refine AW_exit (BQ_hit ?_)
      refine AW_seq ?_
      refine AW_seq ?_
      refine AW_region ?_
      refine AL_p (x_move rfl rfl) ?_
      refine AL_p (x_not rfl rfl) ?_
      refine AL_nil ?_
      cases b900
      rotate_left
      · try simp only [decide_eq_true_eq, decide_eq_false_iff_not, Bool.not_eq_true, Bool.not_eq_false, Bool.not_eq_true', Bool.not_eq_false', beq_iff_eq, bne_iff_ne, beq_eq_false_iff_ne, bne_eq_false_iff_eq, Int.not_lt, Int.not_le, ge_iff_le, gt_iff_lt] at h900
        refine AW_condF rfl ?_
        refine AW_skip ?_
        refine AW_seq ?_
        refine AW_region ?_
        refine AL_p (x_move rfl rfl) ?_
        refine AL_p (x_assign rfl rfl) ?_
        refine AL_nil ?_
        refine AW_shut 101 4 rfl rfl ?_
        refine AW_ret ?_
        exact ⟨rn [], ⟨⟨_, rfl, by first | (refine vle_sl ?_; rw [hno]; done) | (refine vle_sl ?_; rw [hno]; first | exact putTo_done (by omega) (by omega) (by omega) | exact putTo_end (by omega) (by omega) (by omega))⟩, trivial⟩, trivial, trivial, rfl⟩
      · try simp only [decide_eq_true_eq, decide_eq_false_iff_not, Bool.not_eq_true, Bool.not_eq_false, Bool.not_eq_true', Bool.not_eq_false', beq_iff_eq, bne_iff_ne, beq_eq_false_iff_ne, bne_eq_false_iff_eq, Int.not_lt, Int.not_le, ge_iff_le, gt_iff_lt] at h900
        refine AW_condT rfl ?_
        refine AW_region ?_
        refine AL_p (x_move rfl rfl) ?_
        refine AL_p (x_loadN (n := 1) rfl rfl rfl (by kernel_rfl) rfl rfl) ?_
        refine AL_p (x_call1 rfl rfl rfl (rowS_c row hr 107) rfl rfl rfl rfl) ?_
        refine AL_p (y_bslice (E := 38) (e := rowE) [.tmp 46] ([row]) 108 rfl rfl rfl rfl rfl rfl rfl rfl FitL.rf rfl rfl rfl rfl rfl rfl (by kernel_rfl)) ?_
        refine AL_p (y_append 109 rfl rfl rfl rfl rfl rfl rfl rfl (by kernel_rfl) (by have := putTo_len (rows := rows) (row := row) (k := k) (by omega); simp only [List.length_append, List.length_cons, List.length_nil]; omega)) ?_
        refine AL_p (x_assign rfl rfl) ?_
        refine AL_nil ?_
        refine AW_seq ?_
        refine AW_region ?_
        refine AL_p (x_move rfl rfl) ?_
        refine AL_p (x_assign rfl rfl) ?_
        refine AL_nil ?_
        refine AW_shut 109 4 rfl rfl ?_
        refine AW_ret ?_
        exact ⟨rn [], ⟨⟨_, rfl, by first | (refine vle_sl ?_; rw [hno]; done) | (refine vle_sl ?_; rw [hno]; first | exact putTo_done (by omega) (by omega) (by omega) | exact putTo_end (by omega) (by omega) (by omega))⟩, trivial⟩, trivial, trivial, rfl⟩

end Go.Proofs.Ytopffmncbeakkaa

/- Variables whose rows are said in other words. -/
namespace Go.Proofs.Ytopffmncbeakkaa
open Go.RowKit
set_option linter.unusedVariables false
theorem boxRel {ar : Int} {x y : List (List Val)} {r : Nat → Nat} (h : x = y) : BLe (.box [.c (.int .i64 ar), .sl rowE x]) (Blk.ren r (.box [.c (.int .i64 ar), .sl rowE y])) := by subst h; exact BLe.rf
theorem boxPair {a b : Int} {x y : List (List Val)} {r : Nat → Nat} (h : a = b) (h2 : x = y) : BLe (.box [.c (.int .i64 a), .sl rowE x]) (Blk.ren r (.box [.c (.int .i64 b), .sl rowE y])) := by subst h; subst h2; exact BLe.rf
end Go.Proofs.Ytopffmncbeakkaa

/- Rows joined (printed by walk.py) -/
namespace Go.Proofs.Ytopffmncbeakkaa
open Go.RowKit
set_option linter.unusedVariables false
set_option linter.unusedSimpArgs false
set_option maxRecDepth 100000

set_option maxHeartbeats 4000000 in
theorem relOfI_c0 (ar : Int) (rows : List (List Val)) (hv : ValsOk rows) (hs : smallRel ⟨ar, rows⟩) : AC Try.prog 56 [.one (.c (.int .i64 ar)), .one (.sl rowE rows)] [] (.tup [.agg [.c (.int .i64 (relOf ar rows).1.arity), .own 0], .one (.c (.bool (relOf ar rows).2))]) [(0, some (.arr 38 rowE (relOf ar rows).1.rows true))] := by
  refine AC_bodyCT (n := 2) (k := 9) (T := [(4, .one (.ptr 9 0)), (5, .one (.c (.bool (relOf ar rows).2)))]) (Lf := ((9, some (.box [.c (.int .i64 (relOf ar rows).1.arity), .own 0])) :: [(0, some (.arr 38 rowE (relOf ar rows).1.rows true))])) Try.func56 rfl rfl Try.ntmps56 rfl Try.results56 rfl rfl rfl rfl (by kernel_rfl) rfl rfl ⟨trivial, (by repeat (first | exact trivial | refine ⟨⟨_, rfl, BLe.rf⟩, ?_⟩)), (by repeat (first | exact trivial | refine ⟨⟨rfl, by first | (left; intro h; cases h) | (right; rfl), by first | exact (fun _ h => ⟨_, h⟩) | exact (fun _ _ => ⟨_, rfl⟩)⟩, ?_⟩)), rfl⟩ ?_
  refine AW_seq ?_
  refine AW_region ?_
  refine AL_p (x_alloc (z := .agg #[.int .i64 0, .slice none 0 0]) 100 rfl (by kernel_rfl) rfl rfl rfl rfl) ?_
  refine AL_p (x_assign rfl rfl) ?_
  refine AL_nil ?_
  refine AW_seq ?_
  refine AW_region ?_
  refine AL_p (x_move rfl rfl) ?_
  refine AL_p (x_move rfl rfl) ?_
  refine AL_p (x_build (zs := [.int .i64 0, .slice none 0 0]) (places := [(0, 1), (1, 1)]) rfl (by kernel_rfl) rfl rfl rfl rfl rfl) ?_
  refine AL_p (x_call1 rfl rfl rfl (copyI_c ⟨ar, rows⟩ hs 0) rfl rfl rfl rfl) ?_
  refine AL_p (x_alloc (z := .agg #[.int .i64 0, .slice none 0 0]) 101 rfl (by kernel_rfl) rfl rfl rfl rfl) ?_
  refine AL_p (x_store (n := 2) rfl rfl rfl rfl (by kernel_rfl) rfl rfl rfl) ?_
  refine AL_nil ?_
  refine AW_seq ?_
  refine AW_region ?_
  refine AL_p (x_field (off := 1) (o' := 1) rfl rfl rfl (by kernel_rfl) rfl) ?_
  refine AL_p (x_load1 rfl rfl rfl (by kernel_rfl) rfl) ?_
  refine AL_p (x_call (ks := []) (L := [(0, some _)]) (L' := [(0, some _)]) rfl rfl rfl (sortRow_c rows hv hs.1 true) rfl AllV.rf (caught_of rfl) rfl rfl rfl ⟨rfl, trivial⟩ rfl) ?_
  refine AL_nil ?_
  refine AW_seq ?_
  refine AW_region ?_
  refine AL_p (x_field (off := 1) (o' := 1) rfl rfl rfl (by kernel_rfl) rfl) ?_
  refine AL_p (x_load1 rfl rfl rfl (by kernel_rfl) rfl) ?_
  refine AL_p (x_call (ks := []) (L := [(0, some _)]) (L' := [(0, none), (102, some _)]) rfl rfl rfl (AT.lend1 (compact_t (ordRows rows) (by rw [ordRows_len hv]; exact hs.1) (ordRows_small hv fun r hr => (hs.2 r hr).1)) 0 102 rfl (fun _ => rfl)) rfl AllV.rf (caught_of rfl) rfl rfl rfl ⟨rfl, trivial⟩ rfl) ?_
  refine AL_p (x_field (off := 1) (o' := 1) rfl rfl rfl (by kernel_rfl) rfl) ?_
  refine AL_p (x_store (n := 1) rfl rfl rfl rfl (by kernel_rfl) rfl rfl rfl) ?_
  refine AL_nil ?_
  refine AW_seq ?_
  refine AW_seq ?_
  refine AW_region ?_
  refine AL_p (x_field (off := 1) (o' := 1) rfl rfl rfl (by kernel_rfl) rfl) ?_
  refine AL_p (x_load1 rfl rfl rfl (by kernel_rfl) rfl) ?_
  refine AL_p (x_olen (E := 38) (n := 1) rfl rfl rfl (by kernel_rfl)) ?_
  refine AL_b (x_gtr rfl rfl rfl) (fun b21 h21 => ?_)
  refine AL_nil ?_
  cases b21
  rotate_left
  · try simp only [tdy] at h21
    have hso := ordRows_uniq hv
    have hno := relOf_big (ar := ar) (rows := rows) (by rw [← hso]; omega)
    refine AW_condT rfl ?_
    refine AW_seq ?_
    refine AW_region ?_
    refine AL_p (x_build (zs := [.int .i64 0, .slice none 0 0]) (places := [(0, 1), (1, 1)]) rfl (by kernel_rfl) rfl rfl rfl rfl rfl) ?_
    refine AL_p (x_store (n := 2) rfl rfl rfl rfl (by kernel_rfl) rfl rfl rfl) ?_
    refine AL_p (x_assign rfl rfl) ?_
    refine AL_nil ?_
    refine AW_adopt (T := 38) (e := rowE) 103 100 1 rfl rfl rfl rfl rfl ?_
    refine AW_ret ?_
    exact ⟨rn [(9, 100), (0, 103)], ⟨⟨⟨_, rfl, VLe.rf⟩, ⟨_, rfl, by first | (refine vle_bool ?_; rw [hno]; done) | exact VLe.rf | exact vle_bool (by rw [hno])⟩, trivial⟩, ⟨⟨_, rfl, by first | (refine ble_eq ?_; rw [hno]; done) | (refine ble_eq ?_; rw [hno]; rfl) | exact BLe.rf⟩, ⟨_, rfl, by first | (refine BLe.arr ?_; rw [hno]; done) | (refine BLe.arr ?_; rw [hno]; exact hso) | (refine BLe.arr ?_; rw [hno]; rfl) | exact BLe.rf⟩, trivial⟩, trivial, rfl⟩⟩
  try simp only [tdy] at h21
  have hso := ordRows_uniq hv
  have hno := relOf_ok (ar := ar) (rows := rows) (by rw [← hso]; omega)
  refine AW_condF rfl ?_
  refine AW_skip ?_
  refine AW_seq ?_
  refine AW_region ?_
  refine AL_p (x_loadN (n := 2) rfl rfl rfl (by kernel_rfl) rfl rfl) ?_
  refine AL_p (x_store (n := 2) rfl rfl rfl rfl (by kernel_rfl) rfl rfl rfl) ?_
  refine AL_p (x_assign rfl rfl) ?_
  refine AL_nil ?_
  refine AW_ret ?_
  exact ⟨rn [(9, 100), (0, 102)], ⟨⟨⟨_, rfl, VLe.rf⟩, ⟨_, rfl, by first | (refine vle_bool ?_; rw [hno]; done) | exact VLe.rf | exact vle_bool (by rw [hno])⟩, trivial⟩, ⟨⟨_, rfl, by first | (refine ble_eq ?_; rw [hno]; done) | (refine ble_eq ?_; rw [hno]; rfl) | exact BLe.rf⟩, ⟨_, rfl, by first | (refine BLe.arr ?_; rw [hno]; done) | (refine BLe.arr ?_; rw [hno]; exact hso) | (refine BLe.arr ?_; rw [hno]; rfl) | exact BLe.rf⟩, trivial⟩, trivial, rfl⟩⟩
theorem relOfI_c (ar : Int) (rows : List (List Val)) (hv : ValsOk rows) (hs : smallRel ⟨ar, rows⟩) (k : Nat) : AC Try.prog 56 [.one (.c (.int .i64 ar)), .one (.sl rowE rows)] [] (.tup [.agg [.c (.int .i64 (relOf ar rows).1.arity), .own k], .one (.c (.bool (relOf ar rows).2))]) [(k, some (.arr 38 rowE (relOf ar rows).1.rows true))] := AC.at (relOfI_c0 ar rows hv hs) k

end Go.Proofs.Ytopffmncbeakkaa

/- RelJoin in plain words. -/
namespace Go.Proofs.Ytopffmncbeakkaa
open Go.RowKit
set_option linter.unusedVariables false

/-! The rows put so far. -/
end Go.Proofs.Ytopffmncbeakkaa

/- RelReach in plain words: the pairs that are linked by a way. -/
namespace Go.Proofs.Ytopffmncbeakkaa
open Go.RowKit
set_option linter.unusedVariables false

inductive Reach (rows : List (List Val)) : Val → Val → Prop
  | one {u v : Val} : [u, v] ∈ rows → Reach rows u v
  | step {u v w : Val} : Reach rows u v → [v, w] ∈ rows → Reach rows u w
theorem Reach.trans {rows : List (List Val)} {u v w : Val} (h : Reach rows u v) (h' : Reach rows v w) : Reach rows u w := by
  induction h' with
  | one h1 => exact .step h h1
  | step _ h1 ih => exact .step ih h1
def InTC (rows : List (List Val)) (x : List Val) : Prop := ∃ u v, x = [u, v] ∧ Reach rows u v
def IsClo (r : Relt) (L : List (List Val)) : Prop := Sorted L ∧ ∀ x, x ∈ L ↔ InTC r.rows x
open Classical in
noncomputable def relReach (r : Relt) : Relt × Bool :=
  if relOk r = true ∧ r.arity = 2 then (if h : ∃ L, IsClo r L ∧ L.length ≤ 300 then (⟨2, h.choose⟩, true) else (⟨0, []⟩, false)) else (⟨0, []⟩, false)
theorem relReach_no1 {r : Relt} (h : relOk r = false) : relReach r = (⟨0, []⟩, false) := by unfold relReach; rw [if_neg (by simp [h])]
theorem relReach_no2 {r : Relt} (h : ¬ r.arity = 2) : relReach r = (⟨0, []⟩, false) := by unfold relReach; rw [if_neg (by simp [h])]
theorem relReach_yes {r : Relt} {L : List (List Val)} (h1 : relOk r = true) (h2 : r.arity = 2) (hc : IsClo r L) (hl : L.length ≤ 300) : relReach r = (⟨2, L⟩, true) := by
  have h : ∃ L, IsClo r L ∧ L.length ≤ 300 := ⟨L, hc, hl⟩
  have e : h.choose = L := sorted_ext h.choose_spec.1.1 hc.1 fun x => by rw [h.choose_spec.1.2, hc.2]
  unfold relReach
  rw [if_pos ⟨h1, h2⟩, dif_pos h, e]
/-! ### Lists without repetition -/
theorem len_sub {α : Type} [DecidableEq α] : ∀ {a b : List α}, a.Nodup → (∀ x ∈ a, x ∈ b) → a.length ≤ b.length
  | [], b, _, _ => by simp
  | x :: t, b, hn, hs => by
    obtain ⟨h1, h2⟩ := List.nodup_cons.1 hn
    have h3 := len_sub (a := t) (b := b.erase x) h2 fun y hy => by
      have hne : y ≠ x := fun e => h1 (e ▸ hy)
      exact (List.mem_erase_of_ne hne).2 (hs y (List.mem_cons_of_mem _ hy))
    have hx := hs x List.mem_cons_self
    have h4 := List.length_erase_of_mem hx
    have h5 : 0 < b.length := List.length_pos_of_mem hx
    rw [List.length_cons]; omega
theorem Sorted.nodup {rows : List (List Val)} (h : Sorted rows) : rows.Nodup := h.pw.imp fun {a b} hab e => by
  subst e; rw [cmpRow_self] at hab; omega
open Classical in
theorem sorted_len {a b : List (List Val)} (ha : Sorted a) (hs : ∀ x ∈ a, x ∈ b) : a.length ≤ b.length := len_sub ha.nodup hs
open Classical in
/-- One in the other, of one length: the same. -/
theorem sorted_same {a b : List (List Val)} (ha : Sorted a) (hb : Sorted b) (hs : ∀ x ∈ a, x ∈ b) (hl : b.length ≤ a.length) : a = b := by
  refine sorted_ext ha hb fun x => ⟨hs x, fun hx => ?_⟩
  by_cases h : x ∈ a
  · exact h
  · have h1 : (x :: a).Nodup := List.nodup_cons.2 ⟨h, ha.nodup⟩
    have h2 := len_sub h1 fun y hy => (List.mem_cons.1 hy).elim (fun e => e ▸ hx) (hs y)
    rw [List.length_cons] at h2; omega
theorem relReach_big {r : Relt} {out : List (List Val)} (hs : Sorted out) (ht : ∀ x ∈ out, InTC r.rows x) (hl : 300 < (out.length : Int)) : relReach r = (⟨0, []⟩, false) := by
  unfold relReach
  split
  · rw [dif_neg]
    rintro ⟨L, hc, h3⟩
    have := sorted_len hs fun x hx => (hc.2 x).2 (ht x hx)
    omega
  · rfl
/-! ### Rows linked -/
def zv : Val := ⟨0, ByteArray.empty⟩
def linkOne (x y : List Val) : Bool := sameVal (x.getD 1 zv) (y.getD 0 zv)
def linkRow (x y : List Val) : List Val := [x.getD 0 zv, y.getD 1 zv]
def linkPart (x : List Val) (ys : List (List Val)) : List (List Val) := (ys.filter (linkOne x)).map (linkRow x)
def linkFront (av bs : List (List Val)) (k : Nat) : List (List Val) := (av.take k).flatMap fun x => linkPart x bs
def linkTo (av bs : List (List Val)) (k j : Nat) : List (List Val) := linkFront av bs k ++ linkPart (av.getD k []) (bs.take j)
def linkAll (av bs : List (List Val)) : List (List Val) := av.flatMap fun x => linkPart x bs
section
variable {av bs : List (List Val)} {k j : Nat}
theorem linkPart_len {x : List Val} {ys : List (List Val)} : (linkPart x ys).length ≤ ys.length := by
  unfold linkPart; rw [List.length_map]; exact List.length_filter_le _ _
theorem linkFront_len (hb : bs.length ≤ 300) : ∀ {k : Nat}, (linkFront av bs k).length ≤ 300 * k
  | 0 => by simp [linkFront]
  | k + 1 => by
    have ih := linkFront_len hb (k := k)
    unfold linkFront at *
    rw [List.take_add_one]
    cases h : av[k]? with
    | none => simp only [Option.toList, List.append_nil]; omega
    | some x =>
      have := linkPart_len (x := x) (ys := bs)
      simp only [Option.toList, List.flatMap_append, List.flatMap_cons, List.flatMap_nil, List.append_nil, List.length_append]; omega
theorem linkTo_len (hb : bs.length ≤ 300) (hk : k ≤ 300) : (linkTo av bs k j).length ≤ 90300 := by
  have h1 := linkFront_len (av := av) hb (k := k)
  have h2 := linkPart_len (x := av.getD k []) (ys := bs.take j)
  have h3 : (bs.take j).length ≤ 300 := by rw [List.length_take]; omega
  unfold linkTo; rw [List.length_append]; omega
theorem linkTo_zero : linkTo av bs 0 0 = [] := by simp [linkTo, linkFront, linkPart]
theorem linkTo_start : linkTo av bs k 0 = linkFront av bs k := by simp [linkTo, linkPart]
theorem linkTo_next (hk : k < av.length) (hj : bs.length ≤ j) : linkTo av bs k j = linkTo av bs (k + 1) 0 := by
  rw [linkTo_start]
  unfold linkTo linkFront
  rw [List.take_succ_eq_append_getElem hk, List.flatMap_append, List.take_of_length_le hj]
  simp [List.getD, hk]
theorem linkTo_all (hk : av.length ≤ k) : linkTo av bs k 0 = linkAll av bs := by
  rw [linkTo_start]
  unfold linkFront linkAll
  rw [List.take_of_length_le hk]
theorem linkTo_yes (hk : k < av.length) (hj : j < bs.length) (h : linkOne av[k] bs[j] = true) : linkTo av bs k j ++ [linkRow av[k] bs[j]] = linkTo av bs k (j + 1) := by
  unfold linkTo linkPart
  rw [List.take_succ_eq_append_getElem hj, List.filter_append, List.map_append, ← List.append_assoc]
  simp [List.getD, hk, h]
theorem linkTo_no (hk : k < av.length) (hj : j < bs.length) (h : linkOne av[k] bs[j] = false) : linkTo av bs k j = linkTo av bs k (j + 1) := by
  unfold linkTo linkPart
  rw [List.take_succ_eq_append_getElem hj, List.filter_append, List.map_append]
  simp [List.getD, hk, h]
theorem linkPart_mem {x r : List Val} {ys : List (List Val)} (h : r ∈ linkPart x ys) : ∃ y ∈ ys, linkOne x y = true ∧ r = linkRow x y := by
  obtain ⟨y, hy, rfl⟩ := List.mem_map.1 h
  exact ⟨y, (List.mem_filter.1 hy).1, (List.mem_filter.1 hy).2, rfl⟩
theorem linkTo_mem (hk : k < av.length ∨ j = 0) {r : List Val} (h : r ∈ linkTo av bs k j) : ∃ x ∈ av, ∃ y ∈ bs, linkOne x y = true ∧ r = linkRow x y := by
  rcases List.mem_append.1 h with h | h
  · obtain ⟨x, hx, h⟩ := List.mem_flatMap.1 h
    obtain ⟨y, hy, h1, h2⟩ := linkPart_mem h
    exact ⟨x, List.mem_of_mem_take hx, y, hy, h1, h2⟩
  · obtain ⟨y, hy, h1, h2⟩ := linkPart_mem h
    rcases hk with q | q
    · have e : av.getD k [] = av[k] := by simp [List.getD, q]
      rw [e] at h1 h2
      exact ⟨av[k], List.getElem_mem _, y, List.mem_of_mem_take hy, h1, h2⟩
    · subst q; cases hy
theorem linkAll_mem {x y : List Val} (hx : x ∈ av) (hy : y ∈ bs) (h : linkOne x y = true) : linkRow x y ∈ linkAll av bs :=
  List.mem_flatMap.2 ⟨x, hx, List.mem_map.2 ⟨y, List.mem_filter.2 ⟨hy, h⟩, rfl⟩⟩
end
/-! ### What both ways keep -/
structure Good (r : Relt) (out : List (List Val)) : Prop where
  srt : Sorted out
  tc : ∀ x ∈ out, InTC r.rows x
  sup : ∀ x ∈ r.rows, x ∈ out
theorem two_rows {r : Relt} (h1 : relOk r = true) (h2 : r.arity = 2) {x : List Val} (hx : x ∈ r.rows) : ∃ u v, x = [u, v] := by
  obtain ⟨j, hj, rfl⟩ := List.getElem_of_mem hx
  have hl := relOk_ar h1 hj
  have hl2 : r.rows[j].length = 2 := by omega
  match r.rows[j], hl2 with
  | [u, v], _ => exact ⟨u, v, rfl⟩
theorem Good.start {r : Relt} (h1 : relOk r = true) (h2 : r.arity = 2) : Good r r.rows :=
  ⟨relOk_sorted h1, fun x hx => by
    obtain ⟨u, v, rfl⟩ := two_rows h1 h2 hx
    exact ⟨u, v, rfl, .one hx⟩, fun x hx => hx⟩
theorem link_tc {rows : List (List Val)} {x y : List Val} (hx : InTC rows x) (hy : InTC rows y) (h : linkOne x y = true) : InTC rows (linkRow x y) := by
  obtain ⟨u, v, rfl, h1⟩ := hx
  obtain ⟨u', v', rfl, h2⟩ := hy
  have e : v = u' := sameVal_iff.1 h
  subst e
  exact ⟨u, v', rfl, h1.trans h2⟩
/-- What a way's values have, that all rows' values have. -/
theorem tc_all {rows : List (List Val)} {p : Val → Prop} (h : ∀ r ∈ rows, ∀ v ∈ r, p v) {x : List Val} (hx : InTC rows x) : ∀ v ∈ x, p v := by
  obtain ⟨u, v, rfl, hr⟩ := hx
  have key : p u ∧ p v := by
    induction hr with
    | one h1 => exact ⟨h _ h1 _ (by simp), h _ h1 _ (by simp)⟩
    | step _ h1 ih => exact ⟨ih.1, h _ h1 _ (by simp)⟩
  intro q hq
  simp only [List.mem_cons, List.not_mem_nil, or_false] at hq
  rcases hq with rfl | rfl
  · exact key.1
  · exact key.2
theorem tc_len {rows : List (List Val)} {x : List Val} (hx : InTC rows x) : x.length = 2 := by
  obtain ⟨u, v, rfl, _⟩ := hx; rfl
theorem tc_vals {r : Relt} (h1 : relOk r = true) {x : List Val} (hx : InTC r.rows x) : ∀ v ∈ x, valOk v = true := tc_all (relOk_sorted h1).vals hx
theorem tc_small {r : Relt} (hs : smallRel r) {x : List Val} (hx : InTC r.rows x) : smallRow x := ⟨by rw [tc_len hx]; decide, tc_all (fun q hq => (hs.2 q hq).2) hx⟩
/-! ### The program's way -/
def reachTo (r : Relt) (out : List (List Val)) (k j : Nat) : List (List Val) := out ++ linkTo out r.rows k j
theorem reachTo_zero {r : Relt} {out : List (List Val)} : out = reachTo r out 0 0 := by simp [reachTo, linkTo_zero]
theorem reachTo_next {r : Relt} {out : List (List Val)} {k j : Nat} (hk : k < out.length) (hj : r.rows.length ≤ j) : reachTo r out k j = reachTo r out (k + 1) 0 := by unfold reachTo; rw [linkTo_next hk hj]
theorem reachTo_yes {r : Relt} {out : List (List Val)} {k j : Nat} (hk : k < out.length) (hj : j < r.rows.length) (h : linkOne out[k] r.rows[j] = true) : reachTo r out k j ++ [linkRow out[k] r.rows[j]] = reachTo r out k (j + 1) := by
  unfold reachTo; rw [List.append_assoc, linkTo_yes hk hj h]
theorem reachTo_no {r : Relt} {out : List (List Val)} {k j : Nat} (hk : k < out.length) (hj : j < r.rows.length) (h : linkOne out[k] r.rows[j] = false) : reachTo r out k j = reachTo r out k (j + 1) := by unfold reachTo; rw [linkTo_no hk hj h]
theorem reachTo_tc {r : Relt} {out : List (List Val)} (g : Good r out) {k : Nat} {x : List Val} (hx : x ∈ reachTo r out k 0) : InTC r.rows x := by
  rcases List.mem_append.1 hx with h | h
  · exact g.tc x h
  · obtain ⟨a, ha, b, hb, h1, rfl⟩ := linkTo_mem (.inr rfl) h
    exact link_tc (g.tc a ha) (g.tc b (g.sup b hb)) h1
theorem reachTo_len {r : Relt} {out : List (List Val)} {k j : Nat} (ho : out.length ≤ 300) (hr : r.rows.length ≤ 300) (hk : k ≤ 300) : (reachTo r out k j).length ≤ 90600 := by
  have := linkTo_len (av := out) (bs := r.rows) (j := j) hr hk
  unfold reachTo; rw [List.length_append]; omega
theorem reach_vals {r : Relt} {out : List (List Val)} (h1 : relOk r = true) (g : Good r out) {k : Nat} : ValsOk (reachTo r out k 0) := fun x hx => tc_vals h1 (reachTo_tc g hx)
theorem reach_small {r : Relt} {out : List (List Val)} (h1 : relOk r = true) (hs : smallRel r) (g : Good r out) (ho : out.length ≤ 300) {k : Nat} (hk : k ≤ 300) : smallRel ⟨2, reachTo r out k 0⟩ :=
  ⟨by have := reachTo_len (r := r) (out := out) (j := 0) ho (relOk_parts h1).2.2.2 hk; show (reachTo r out k 0).length ≤ 1048576; omega, fun x hx => tc_small hs (reachTo_tc g hx)⟩
/-- The next rows. -/
def reachNext (r : Relt) (out : List (List Val)) (k : Nat) : List (List Val) := sortRows (reachTo r out k 0)
theorem reachNext_mem {r : Relt} {out : List (List Val)} {k : Nat} {x : List Val} (hx : x ∈ reachNext r out k) : x ∈ reachTo r out k 0 := sortRows_mem.1 hx
theorem Good.next {r : Relt} {out : List (List Val)} (h1 : relOk r = true) (g : Good r out) {k : Nat} : Good r (reachNext r out k) :=
  ⟨sortRows_sorted (reach_vals h1 g), fun x hx => reachTo_tc g (reachNext_mem hx), fun x hx => sortRows_mem.2 (List.mem_append_left _ (g.sup x hx))⟩
theorem next_sub {r : Relt} {out : List (List Val)} {k : Nat} : ∀ x ∈ out, x ∈ reachNext r out k := fun x hx => sortRows_mem.2 (List.mem_append_left _ hx)
theorem next_len {r : Relt} {out : List (List Val)} {k : Nat} (g : Good r out) : out.length ≤ (reachNext r out k).length := sorted_len g.srt next_sub
theorem Good.clo {r : Relt} {out : List (List Val)} (g : Good r out) (hc : ∀ x ∈ out, ∀ y ∈ r.rows, linkOne x y = true → linkRow x y ∈ out) : IsClo r out := by
  refine ⟨g.srt, fun x => ⟨g.tc x, fun hx => ?_⟩⟩
  obtain ⟨u, v, rfl, h⟩ := hx
  induction h with
  | one h1 => exact g.sup _ h1
  | step _ h1 ih => exact hc _ ih _ h1 (sameVal_refl _)
theorem next_done {r : Relt} {out : List (List Val)} {k : Nat} (h1 : relOk r = true) (g : Good r out) (hk : out.length ≤ k) (hl : (reachNext r out k).length = out.length) : IsClo r (reachNext r out k) := by
  have gn := g.next h1 (k := k)
  have e : out = reachNext r out k := sorted_same g.srt gn.srt next_sub (by omega)
  refine gn.clo fun x hx y hy h => ?_
  rw [← e] at hx
  refine sortRows_mem.2 (List.mem_append_right _ ?_)
  rw [linkTo_all hk]
  exact linkAll_mem hx hy h
/-! ### The reference's way -/
def reachU (now : List (List Val)) (k j : Nat) : List (List Val) := (linkTo now now k j).foldl putRow now
theorem reachU_zero {now : List (List Val)} : now = reachU now 0 0 := by simp [reachU, linkTo_zero]
theorem reachU_next {now : List (List Val)} {k j : Nat} (hk : k < now.length) (hj : now.length ≤ j) : reachU now k j = reachU now (k + 1) 0 := by unfold reachU; rw [linkTo_next hk hj]
theorem reachU_yes {now : List (List Val)} {k j : Nat} (hk : k < now.length) (hj : j < now.length) (h : linkOne now[k] now[j] = true) : putRow (reachU now k j) (linkRow now[k] now[j]) = reachU now k (j + 1) := by
  unfold reachU
  rw [← linkTo_yes hk hj h, List.foldl_append]; rfl
theorem reachU_no {now : List (List Val)} {k j : Nat} (hk : k < now.length) (hj : j < now.length) (h : linkOne now[k] now[j] = false) : reachU now k j = reachU now k (j + 1) := by unfold reachU; rw [linkTo_no hk hj h]
theorem reachU_tc {r : Relt} {now : List (List Val)} (g : Good r now) {k j : Nat} (hk : k < now.length ∨ j = 0) {x : List Val} (hx : x ∈ reachU now k j) : InTC r.rows x := by
  rcases puts_mem.1 hx with h | h
  · exact g.tc x h
  · obtain ⟨a, ha, b, hb, h1, rfl⟩ := linkTo_mem hk h
    exact link_tc (g.tc a ha) (g.tc b hb) h1
theorem reachU_sorted {r : Relt} {now : List (List Val)} (h1 : relOk r = true) (g : Good r now) {k j : Nat} (hk : k < now.length ∨ j = 0) : Sorted (reachU now k j) := puts_sorted g.srt fun x hx => tc_vals h1 (reachU_tc g hk (puts_mem.2 (.inr hx)))
theorem Good.put {r : Relt} {now : List (List Val)} (h1 : relOk r = true) (g : Good r now) {k : Nat} : Good r (reachU now k 0) :=
  ⟨reachU_sorted h1 g (.inr rfl), fun x hx => reachU_tc g (.inr rfl) hx, fun x hx => puts_mem.2 (.inl (g.sup x hx))⟩
theorem reachU_row {r : Relt} {now : List (List Val)} (g : Good r now) {k j : Nat} (hk : k < now.length ∨ j = 0) : ∀ x ∈ reachU now k j, x.length ≤ 1048576 := fun x hx => by rw [tc_len (reachU_tc g hk hx)]; decide
theorem reachU_len {now : List (List Val)} (hn : now.length ≤ 300) {k j : Nat} (hk : k ≤ 300) : (reachU now k j).length ≤ 90600 := by
  have h1 := linkTo_len (av := now) (bs := now) (j := j) hn hk
  have h2 := (puts_len (rows := linkTo now now k j) (acc := now)).2
  unfold reachU; omega
theorem reachU_more {now : List (List Val)} {k j : Nat} : now.length ≤ (reachU now k j).length := (puts_len (rows := linkTo now now k j) (acc := now)).1
def Closed (out : List (List Val)) : Prop := ∀ x ∈ out, ∀ y ∈ out, linkOne x y = true → linkRow x y ∈ out
theorem reachU_closed {r : Relt} {now : List (List Val)} (h1 : relOk r = true) (g : Good r now) {k : Nat} (hk : now.length ≤ k) (hl : (reachU now k 0).length = now.length) : Closed (reachU now k 0) := by
  have e : now = reachU now k 0 := sorted_same g.srt (reachU_sorted h1 g (.inr rfl)) (fun x hx => puts_mem.2 (.inl hx)) (by omega)
  intro x hx y hy h
  rw [← e] at hx hy
  refine puts_mem.2 (.inr ?_)
  rw [linkTo_all hk]
  exact linkAll_mem hx hy h
theorem Closed.clo {r : Relt} {out : List (List Val)} (hc : Closed out) (g : Good r out) : IsClo r out := g.clo fun x hx y hy h => hc x hx y (g.sup y hy) h
theorem link_valsOne {r : Relt} {now : List (List Val)} (h1 : relOk r = true) (g : Good r now) {x y : List Val} (hx : x ∈ now) (hy : y ∈ now) (h : linkOne x y = true) : ∀ v ∈ linkRow x y, valOk v = true := tc_vals h1 (link_tc (g.tc x hx) (g.tc y hy) h)
theorem relReach_small {r : Relt} (hs : smallRel r) : smallRel (relReach r).1 := by
  unfold relReach
  split
  · split
    · rename_i h1 h
      have hh := h.choose_spec
      refine ⟨Nat.le_trans hh.2 (by decide), fun x hx => tc_small hs ((hh.1.2 x).1 hx)⟩
    · exact small_none
  · exact small_none
/-! values in their places -/
theorem two_0 {x : List Val} (h : x.length = 2) : x[0] = x.getD 0 zv := by simp [List.getD, show 0 < x.length by omega]
theorem two_1 {x : List Val} (h : x.length = 2) : x[1] = x.getD 1 zv := by simp [List.getD, show 1 < x.length by omega]
theorem linkRow_at {x y : List Val} (hx : x.length = 2) (hy : y.length = 2) : [x[0]'(by omega), y[1]'(by omega)] = linkRow x y := by rw [two_0 hx, two_1 hy]; rfl
theorem linkOne_at {x y : List Val} {t : Bool} (hx : x.length = 2) (hy : y.length = 2) (h : sameVal (x[1]'(by omega)) (y[0]'(by omega)) = t) : linkOne x y = t := by rw [two_1 hx, two_0 hy] at h; exact h
end Go.Proofs.Ytopffmncbeakkaa

/- Operations whose new array is at once given up to be read alone. -/
namespace Go.Proofs.Ytopffmncbeakkaa
open Go.RowKit
set_option linter.unusedVariables false

theorem above : ∀ L : List Nat, ∃ k, ∀ i ∈ L, i < k
  | [] => ⟨0, fun i h => by cases h⟩
  | a :: L => by
    obtain ⟨k, hk⟩ := above L
    refine ⟨max (a + 1) k, fun i hi => ?_⟩
    rcases List.mem_cons.1 hi with rfl | hi
    · omega
    · have := hk i hi; omega
section
variable {g g' : Gh} {l l' : Locs} {w w' : World}
theorem okK.congr {l2 : Locs} (h : ∀ j, lkl l' j = lkl l2 j) {k : Nat} (hk : okK g l g' l' k) : okK g l g' l2 k :=
  ⟨fun cs hc => hk.1 cs (by rw [h]; exact hc), fun α T e xs d hc => hk.2 α T e xs d (by rw [h]; exact hc)⟩
theorem okK.back {l2 : Locs} (h : ∀ j, lkl l j = lkl l2 j) {k : Nat} : okK g l g l2 k := okK.same (h k).symm rfl rfl
theorem MemR.congr (h : ∀ j, lkl l j = lkl l' j) (m : MemR g l w) : MemR g l' w := by
  refine ⟨m.ilt, fun k cs hc => ?_, fun k α T e xs d hc => m.arr k _ _ _ _ _ (by rw [h]; exact hc), fun j k b b' hjk h1 h2 => m.dis j k _ _ hjk (by rw [h]; exact h1) (by rw [h]; exact h2), fun k α T e xs hc => m.fr k _ _ _ _ (by rw [h]; exact hc), fun j k α β T U e f xs ys hjk h1 h2 => m.fd j k _ _ _ _ _ _ _ _ hjk (by rw [h]; exact h1) (by rw [h]; exact h2)⟩
  obtain ⟨vs, t, h1, h2, h3⟩ := m.box k cs (by rw [h]; exact hc)
  exact ⟨vs, t, h1, h2.mono fun a c _ hr => CellR.step (fun _ _ => rfl) (fun _ h => h) (Nat.le_refl _) (fun i _ => okK.back h) hr, h3⟩
theorem VR.congr (h : ∀ j, lkl l j = lkl l' j) {v : Value} {x : AVal} (hv : VR g l w v x) : VR g l' w v x := hv.step (fun _ _ => rfl) (fun _ h => h) (Nat.le_refl _) (fun i _ => okK.back h)
theorem OwnB.congr (h : ∀ j, lkl l j = lkl l' j) {b : Nat} (hb : OwnB g l b) : OwnB g l' b := by
  obtain ⟨k, blk, h1, h2⟩ := hb
  exact ⟨k, blk, by rw [← h]; exact h1, h2⟩
end
theorem OpOK.frz {P : Program} {N d : Nat} {o : Oper} {rt : List (Nat × AVal)} {rl : List (Nat × Blk)} {α : Type} {T : TypeId} {e : Enc α} {xs : List α} {dp : Bool} {L : List Nat}
    (h : ∀ k, (∀ i ∈ L, i < k) → OpOK P N o ⟨rt, rl, [(d, .one (.own k))], [(k, some (.arr T e xs dp))], [k]⟩) : OpOK P N o ⟨rt, rl, [(d, .one (.sl e xs))], [], []⟩ := fun K g s a w hp r => by
  obtain ⟨k, hk⟩ := above (L ++ (keys s.l ++ s.ids))
  have hkl : lk s.l k = none := by
    cases hq : lk s.l k with
    | none => rfl
    | some y =>
      have h1 : k ∈ keys s.l := List.mem_map.2 ⟨_, lk_mem hq, rfl⟩
      have := hk k (List.mem_append_right _ (List.mem_append_left _ h1))
      omega
  have hki : k ∉ s.ids := fun hm => by
    have := hk k (List.mem_append_right _ (List.mem_append_right _ hm))
    omega
  have hkk : lkl s.l k = none := by unfold lkl; rw [hkl]
  have h1 := h k (fun i hi => hk i (List.mem_append_left _ hi)) K g s a w ⟨hp.1, hp.2.1, fun j hj => by simp at hj; subst hj; exact ⟨hkl, hki⟩⟩ r
  refine Oper.wp_mono ?_ h1
  rintro a' w' ⟨g', r', st⟩
  have hu : (Cert.upd ⟨rt, rl, [(d, .one (.own k))], [(k, some (.arr T e xs dp))], [k]⟩ s) = ⟨(d, .one (.own k)) :: s.t, (k, some (.arr T e xs dp)) :: s.l⟩ := rfl
  rw [hu] at r' st
  have hka : lkl ((k, some (Blk.arr T e xs dp)) :: s.l) k = some (.arr T e xs dp) := lkl_cons_self
  obtain ⟨m1, st1, c1, ok1⟩ := shut_mem r'.mem hka
  have T2 := Step.trans r.mem r'.mem st (st1 K)
  have hl : ∀ j, lkl ((k, none) :: (k, some (Blk.arr T e xs dp)) :: s.l) j = lkl s.l j := fun j => by
    by_cases q : k = j
    · subst q; rw [lkl_cons_self, hkk]
    · rw [lkl_cons_ne q, lkl_cons_ne q]
  have hv : a'.tmps.getD d undef = g'.hd k := (r'.tmp d _ (lk_cons_self ..) : CellR g' _ w' _ (.own k)) _ _ _ _ _ hka
  refine ⟨g'.shut k, ⟨r'.size, r'.defers, fun j x hj => ?_, m1.congr hl⟩, ⟨T2.os, T2.tape, T2.output, T2.size, T2.keep, T2.imm, T2.imm', fun b hb => T2.own b (OwnB.congr (fun j => (hl j).symm) hb), fun j hj hn => ?_⟩⟩
  · have hj : lk ((d, AVal.one (.sl e xs)) :: s.t) j = some x := hj
    by_cases hjt : d = j
    · subst hjt
      rw [lk_cons_self] at hj; cases hj
      rw [hv]; exact VR.congr (x := .one (.sl e xs)) hl c1
    · rw [lk_cons_ne hjt] at hj
      have h2 := r'.tmp j x (by show lk ((d, AVal.one (.own k)) :: s.t) j = some x; rw [lk_cons_ne hjt]; exact hj)
      have h3 : VR (g'.shut k) ((k, none) :: (k, some (Blk.arr T e xs dp)) :: s.l) w' (a'.tmps.getD j undef) x := h2.step (fun _ _ => rfl) (fun _ h => .inl h) (Nat.le_refl _) (fun i _ => ok1 i)
      exact VR.congr hl h3
  · obtain ⟨z1, z2, z3⟩ := T2.base j hj hn
    exact ⟨hn, okK.congr hl z2, fun cs hc => ⟨cs, hc⟩⟩
theorem noId_mk {k : Nat} {l : List Nat} (h : k ∉ l) : noId k l = true := by
  unfold noId
  rw [List.all_eq_true]
  intro i hi
  cases hq : Nat.beq i k
  · rfl
  · exact absurd (Nat.eq_of_beq_eq_true hq ▸ hi) h
section ops
variable {P : Program} {N : Nat} {s : St} {d : Nat} {ty : TypeId} {pos : String} {after : Array Edge} {gd : Option (Nat × Bool)}
theorem y_bslice_sl {α : Type} {e : Enc α} {f : α → List Cell} [hc : CellsOf e f] {T E len : Nat} (ops : List Operand) {parts : Array (Nat × Operand)} {Xs : List AVal} (xs : List α) {ds : List Cell} {dp : Bool} (hN : Nat.blt d N = true)
    (hparts : parts = ((ops.zipIdx 0).map fun x => (x.2, x.1)).toArray) (hev : evl s.t ops = some Xs) (hfl : flats Xs = true) (hsol : (Xs.flatMap AVal.cells).all (solid s.l) = true)
    (hlen : ops.length = len) (hsz : Xs.all (fun X => Nat.beq X.cells.length e.size) = true)
    (hmv : mvC s.l (Xs.flatMap AVal.cells) = some (ds, [], dp)) (hfit : FitL ds (xs.flatMap f)) (hxs : xs.length = len) (hpos : Nat.blt 0 len = true) (hsmall : Nat.ble (len * e.size) 16777216 = true)
    (hT : arrOk P T E e.size = true) :
    Stp P N ⟨some d, .buildSlice T len parts, ty, pos, after, gd⟩ s ⟨(d, .one (.sl e xs)) :: s.t, s.l⟩ ⟨rdl s.t ops, rlC s.l (Xs.flatMap AVal.cells), [(d, .one (.sl e xs))], [], []⟩ :=
  ⟨OpOK.frz (T := E) (dp := dp) (L := keys s.l ++ s.ids) fun k hk => (y_bslice ops xs k hN hparts hev hfl hsol hlen hsz hmv hfit rfl hxs hpos hsmall (by
      cases hq : lk s.l k with
      | none => rfl
      | some y =>
        have h1 : k ∈ keys s.l := List.mem_map.2 ⟨_, lk_mem hq, rfl⟩
        have := hk k (List.mem_append_left _ h1)
        omega) (noId_mk fun hm => by
        have := hk k (List.mem_append_right _ hm)
        omega) hT).1, ⟨(evl_ok (N := N) hev).1, rlC_self, fun j hj => by cases hj⟩, rfl⟩
end ops
end Go.Proofs.Ytopffmncbeakkaa

/- Ways (printed by walk.py) -/
namespace Go.Proofs.Ytopffmncbeakkaa
open Go.RowKit
set_option linter.unusedVariables false
set_option linter.unusedSimpArgs false
set_option maxRecDepth 100000

set_option maxHeartbeats 4000000 in
theorem cloneRows_c0 (r : List (List Val)) (hl : r.length ≤ 1048576) : AC Try.prog 64 [.one (.sl rowE r)] [] (.one (.own 0)) [(0, some (.arr 38 rowE r false))] := by
  refine AC_body1 Try.func64 rfl rfl Try.ntmps64 rfl Try.results64 ?_
  refine AW_split 0 rfl (fun hx => ?_) ?_
  · subst hx
    refine AW_seq ?_
    refine AW_region ?_
    refine AL_p (x_assign rfl rfl) ?_
    refine AL_nil ?_
    refine AW_seq ?_
    refine AW_seq ?_
    refine AW_region ?_
    refine AL_p (x_move rfl rfl) ?_
    refine AL_p (x_nilnil rfl rfl rfl (E := 38) (n := 1) (by kernel_rfl)) ?_
    refine AL_nil ?_
    refine AW_condT rfl ?_
    refine AW_seq ?_
    refine AW_region ?_
    refine AL_p (x_assign rfl rfl) ?_
    refine AL_nil ?_
    refine AW_adoptT (T := 38) (e := rowE) 100 2 rfl rfl rfl ?_
    refine AW_shallow 100 rfl ?_
    refine AW_ret ?_
    exact ⟨rn [(0, 100)], ⟨⟨⟨_, rfl, VLe.rf⟩, trivial⟩, ⟨⟨_, rfl, BLe.rf⟩, trivial⟩, trivial, rfl⟩⟩
  · refine AW_seq ?_
    refine AW_region ?_
    refine AL_p (x_assign rfl rfl) ?_
    refine AL_nil ?_
    refine AW_seq ?_
    refine AW_seq ?_
    refine AW_region ?_
    refine AL_p (x_move rfl rfl) ?_
    refine AL_p (x_snnil rfl rfl rfl (E := 38) (n := 1) (by kernel_rfl)) ?_
    refine AL_nil ?_
    refine AW_condF rfl ?_
    refine AW_skip ?_
    refine AW_seq ?_
    refine AW_region ?_
    refine AL_p (y_bslice0 (E := 38) (e := rowE) 101 rfl rfl rfl (by kernel_rfl)) ?_
    refine AL_p (x_move_sn rfl rfl) ?_
    refine AL_p (y_append_sl 102 false (.inl rfl) rfl rfl rfl rfl rfl rfl (by kernel_rfl) (by simp; omega)) ?_
    refine AL_p (x_assign rfl rfl) ?_
    refine AL_nil ?_
    refine AW_shallow 102 rfl ?_
    refine AW_ret ?_
    exact ⟨rn [(0, 102)], ⟨⟨⟨_, rfl, VLe.rf⟩, trivial⟩, ⟨⟨_, rfl, BLe.rf⟩, trivial⟩, trivial, rfl⟩⟩
theorem cloneRows_c (r : List (List Val)) (hl : r.length ≤ 1048576) (k : Nat) : AC Try.prog 64 [.one (.sl rowE r)] [] (.one (.own k)) [(k, some (.arr 38 rowE r false))] := AC.at (cloneRows_c0 r hl) k

set_option maxHeartbeats 4000000 in
theorem relReachI_c0 (r : Relt) (hr : smallRel r) : AC Try.prog 32 [.agg (relC r)] [] (.tup [.agg [.c (.int .i64 (relReach r).1.arity), .own 0], .one (.c (.bool (relReach r).2))]) [(0, some (.arr 38 rowE (relReach r).1.rows true))] := by
  refine AC_bodyCT (n := 2) (k := 9) (T := [(2, .one (.ptr 9 0)), (3, .one (.c (.bool (relReach r).2)))]) (Lf := ((9, some (.box [.c (.int .i64 (relReach r).1.arity), .own 0])) :: [(0, some (.arr 38 rowE (relReach r).1.rows true))])) Try.func32 rfl rfl Try.ntmps32 rfl Try.results32 rfl rfl rfl rfl (by kernel_rfl) rfl rfl ⟨trivial, (by repeat (first | exact trivial | refine ⟨⟨_, rfl, BLe.rf⟩, ?_⟩)), (by repeat (first | exact trivial | refine ⟨⟨rfl, by first | (left; intro h; cases h) | (right; rfl), by first | exact (fun _ h => ⟨_, h⟩) | exact (fun _ _ => ⟨_, rfl⟩)⟩, ?_⟩)), rfl⟩ ?_
  refine AW_seq ?_
  refine AW_region ?_
  refine AL_p (x_box 100 rfl rfl rfl rfl rfl rfl rfl) ?_
  refine AL_p (x_alloc (z := .agg #[.int .i64 0, .slice none 0 0]) 101 rfl (by kernel_rfl) rfl rfl rfl rfl) ?_
  refine AL_p (x_assign rfl rfl) ?_
  refine AL_nil ?_
  refine AW_seq ?_
  refine AW_seq ?_
  refine AW_region ?_
  refine AL_p (x_loadN (n := 2) rfl rfl rfl (by kernel_rfl) rfl rfl) ?_
  refine AL_b (x_call0 rfl rfl rfl (relOkI_c _ hr.1) rfl rfl) (fun b13 h13 => ?_)
  refine AL_p (x_not rfl rfl) ?_
  refine AL_p (x_move rfl rfl) ?_
  cases b13
  · try simp only [tdy] at h13
    have hno := relReach_no1 h13
    refine AL_o rfl rfl rfl rfl ?_
    refine AL_o rfl rfl rfl rfl ?_
    refine AL_o rfl rfl rfl rfl ?_
    refine AL_p (x_pickT rfl rfl rfl) ?_
    refine AL_nil ?_
    refine AW_condT rfl ?_
    refine AW_seq ?_
    refine AW_region ?_
    refine AL_p (x_build (zs := [.int .i64 0, .slice none 0 0]) (places := [(0, 1), (1, 1)]) rfl (by kernel_rfl) rfl rfl rfl rfl rfl) ?_
    refine AL_p (x_store (n := 2) rfl rfl rfl rfl (by kernel_rfl) rfl rfl rfl) ?_
    refine AL_p (x_assign rfl rfl) ?_
    refine AL_nil ?_
    refine AW_adopt (T := 38) (e := rowE) 102 101 1 rfl rfl rfl rfl rfl ?_
    refine AW_ret ?_
    exact ⟨rn [(9, 101), (0, 102)], ⟨⟨⟨_, rfl, VLe.rf⟩, ⟨_, rfl, by first | (refine vle_bool ?_; rw [hno]; done) | exact VLe.rf | (refine vle_bool ?_; rw [hno]; apply Eq.symm; assumption) | exact vle_bool (by rw [hno])⟩, trivial⟩, ⟨⟨_, rfl, by first | (refine ble_eq ?_; rw [hno]; done) | (refine ble_eq ?_; rw [hno]; rfl) | exact BLe.rf⟩, ⟨_, rfl, by first | (refine BLe.arr ?_; rw [hno]; done) | (refine BLe.arr ?_; rw [hno]; rfl) | exact BLe.rf⟩, trivial⟩, trivial, rfl⟩⟩
  try simp only [tdy] at h13
  have hr3 := (relOk_parts h13).2.2.2
  refine AL_g rfl rfl (x_field (off := 0) (o' := 0) rfl rfl rfl (by kernel_rfl) rfl) ?_
  refine AL_g rfl rfl (x_load1 rfl rfl rfl (by kernel_rfl) rfl) ?_
  refine AL_gb rfl rfl (x_neq rfl rfl rfl) (fun b18 h18 => ?_)
  refine AL_p (x_pickF rfl rfl rfl) ?_
  refine AL_nil ?_
  cases b18
  rotate_left
  · try simp only [tdy] at h18
    have hno := relReach_no2 (r := r) (by omega)
    refine AW_condT rfl ?_
    refine AW_seq ?_
    refine AW_region ?_
    refine AL_p (x_build (zs := [.int .i64 0, .slice none 0 0]) (places := [(0, 1), (1, 1)]) rfl (by kernel_rfl) rfl rfl rfl rfl rfl) ?_
    refine AL_p (x_store (n := 2) rfl rfl rfl rfl (by kernel_rfl) rfl rfl rfl) ?_
    refine AL_p (x_assign rfl rfl) ?_
    refine AL_nil ?_
    refine AW_adopt (T := 38) (e := rowE) 102 101 1 rfl rfl rfl rfl rfl ?_
    refine AW_ret ?_
    exact ⟨rn [(9, 101), (0, 102)], ⟨⟨⟨_, rfl, VLe.rf⟩, ⟨_, rfl, by first | (refine vle_bool ?_; rw [hno]; done) | exact VLe.rf | (refine vle_bool ?_; rw [hno]; apply Eq.symm; assumption) | exact vle_bool (by rw [hno])⟩, trivial⟩, ⟨⟨_, rfl, by first | (refine ble_eq ?_; rw [hno]; done) | (refine ble_eq ?_; rw [hno]; rfl) | exact BLe.rf⟩, ⟨_, rfl, by first | (refine BLe.arr ?_; rw [hno]; done) | (refine BLe.arr ?_; rw [hno]; rfl) | exact BLe.rf⟩, trivial⟩, trivial, rfl⟩⟩
  try simp only [tdy] at h18
  have har2 : r.arity = 2 := by omega
  refine AW_condF rfl ?_
  refine AW_skip ?_
  refine AW_seq ?_
  refine AW_region ?_
  refine AL_p (x_loadN (n := 2) rfl rfl rfl (by kernel_rfl) rfl rfl) ?_
  refine AL_p (x_call1 rfl rfl rfl (copyI_c r hr 103) rfl rfl rfl rfl) ?_
  refine AL_p (x_alloc (z := .agg #[.int .i64 0, .slice none 0 0]) 200 rfl (by kernel_rfl) rfl rfl rfl rfl) ?_
  refine AL_p (x_store (n := 2) rfl rfl rfl rfl (by kernel_rfl) rfl rfl rfl) ?_
  refine AL_nil ?_
  refine AW_block ?_
  refine AW_shutB 103 200 1 rfl rfl rfl rfl ?_
  refine AW_loop2 (ι := {q : List (List Val) // Good r q ∧ q.length ≤ 300}) (fun p => []) (fun p => [(200, some (.box [.c (.int .i64 2), .sl rowE (p.1)]))]) [1, 2, 4] [100, 101] (fun p => 301 - (p.1).length) ⟨r.rows, ⟨Good.start h13 (by omega), hr3⟩⟩ (rn []) ?_ ?_
  exact ⟨by (repeat refine ⟨⟨_, rfl, by first | with_reducible exact VLe.rf | exact VLe.rf | exact vle_int (by dsimp only; omega)⟩, ?_⟩); exact trivial, by (repeat refine ⟨⟨_, rfl, by first | with_reducible exact BLe.rf | with_reducible exact boxPair hrb hra | exact boxPair har2 rfl | (refine BLe.arr ?_; exact rfl) | exact BLe.rf | exact BLe.box AllC.rf⟩, ?_⟩); exact trivial, by repeat (first | exact trivial | refine ⟨⟨rfl, by first | (left; intro h; cases h) | (right; rfl), fun _ h => ⟨_, h⟩⟩, ?_⟩), rfl⟩
  rintro ⟨out, hinv⟩
  dsimp only
  obtain ⟨g, ho⟩ := hinv
  have ho : out.length ≤ 300 := ho
  have g : Good r out := g
  refine AW_block ?_
  refine AW_seq ?_
  refine AW_region ?_
  refine AL_p (x_field (off := 1) (o' := 1) rfl rfl rfl (by kernel_rfl) rfl) ?_
  refine AL_p (x_load1 rfl rfl rfl (by kernel_rfl) rfl) ?_
  refine AL_p (x_call1 rfl rfl rfl (cloneRows_c out (by omega) 104) rfl rfl rfl rfl) ?_
  refine AL_p (x_assign rfl rfl) ?_
  refine AL_nil ?_
  refine AW_seq ?_
  refine AW_seq ?_
  refine AW_region ?_
  refine AL_p (x_field (off := 1) (o' := 1) rfl rfl rfl (by kernel_rfl) rfl) ?_
  refine AL_p (x_load1 rfl rfl rfl (by kernel_rfl) rfl) ?_
  refine AL_p (x_len (E := 38) (n := 1) rfl rfl (by kernel_rfl)) ?_
  refine AL_p (x_move rfl rfl) ?_
  refine AL_nil ?_
  refine AW_block ?_
  refine AW_loop2 (ι := {q : Nat // q ≤ out.length}) (fun p => [(5, .one (.own 104)), (29, .one (.c (.int .i64 ((p.1) : Int))))]) (fun p => [(104, some (.arr 38 rowE (reachTo r out (p.1) 0) false))]) [1, 2, 4, 27, 28] [100, 101, 200] (fun p => out.length - (p.1)) ⟨0, by omega⟩ (rn []) ?_ ?_
  exact ⟨by (repeat refine ⟨⟨_, rfl, by first | exact VLe.rf | exact vle_int (by dsimp only; omega)⟩, ?_⟩); exact trivial, by (repeat refine ⟨⟨_, rfl, by first | exact BLe.rf | exact BLe.box AllC.rf | exact BLe.arr (by first | exact reachTo_zero | exact reachTo_next hkl (by omega))⟩, ?_⟩); exact trivial, by repeat (first | exact trivial | refine ⟨⟨rfl, by first | (left; intro h; cases h) | (right; rfl), fun _ h => ⟨_, h⟩⟩, ?_⟩), rfl⟩
  rintro ⟨k, hinv⟩
  dsimp only
  have hk := hinv
  refine AW_seq ?_
  refine AW_region ?_
  refine AL_b (x_lss rfl rfl rfl) (fun b30 h30 => ?_)
  refine AL_nil ?_
  refine AW_seq ?_
  cases b30
  · try simp only [tdy] at h30
    refine AW_condF rfl ?_
    refine AW_exit (BQ_hit ?_)
    refine AW_seq ?_
    refine AW_region ?_
    refine AL_p (x_move rfl rfl) ?_
    refine AL_p (x_callR rfl rfl rfl (relOfI_c 2 (reachTo r out k 0) (reach_vals h13 g) (reach_small h13 hr g ho (by omega)) 110) rfl AllV.rf rfl rfl rfl rfl rfl) ?_
    refine AL_p (x_move rfl rfl) ?_
    refine AL_p (x_extract rfl rfl rfl) ?_
    refine AL_b (x_extract rfl rfl rfl) (fun b68 h68 => ?_)
    refine AL_p (x_alloc (z := .agg #[.int .i64 0, .slice none 0 0]) 111 rfl (by kernel_rfl) rfl rfl rfl rfl) ?_
    refine AL_p (x_store (n := 2) rfl rfl rfl rfl (by kernel_rfl) rfl rfl rfl) ?_
    refine AL_p (x_assign rfl rfl) ?_
    refine AL_nil ?_
    refine AW_seq ?_
    refine AW_seq ?_
    refine AW_region ?_
    refine AL_p (x_move rfl rfl) ?_
    refine AL_p (x_not rfl rfl) ?_
    refine AL_nil ?_
    cases b68
    · try simp only [tdy] at h68
      have hno := relReach_big (g.next h13 (k := k)).srt (g.next h13).tc (relOf_false h68)
      refine AW_condT rfl ?_
      refine AW_seq ?_
      refine AW_region ?_
      refine AL_p (x_build (zs := [.int .i64 0, .slice none 0 0]) (places := [(0, 1), (1, 1)]) rfl (by kernel_rfl) rfl rfl rfl rfl rfl) ?_
      refine AL_p (x_store (n := 2) rfl rfl rfl rfl (by kernel_rfl) rfl rfl rfl) ?_
      refine AL_p (x_assign rfl rfl) ?_
      refine AL_nil ?_
      refine AW_adopt (T := 38) (e := rowE) 102 101 1 rfl rfl rfl rfl rfl ?_
      refine AW_ret (BQ_ret (BQ_ret ?_))
      exact ⟨rn [(9, 101), (0, 102)], ⟨⟨⟨_, rfl, VLe.rf⟩, ⟨_, rfl, by first | (refine vle_bool ?_; rw [hno]; done) | exact VLe.rf | (refine vle_bool ?_; rw [hno]; apply Eq.symm; assumption) | exact vle_bool (by rw [hno])⟩, trivial⟩, ⟨⟨_, rfl, by first | (refine ble_eq ?_; rw [hno]; done) | (refine ble_eq ?_; rw [hno]; rfl) | exact BLe.rf⟩, ⟨_, rfl, by first | (refine BLe.arr ?_; rw [hno]; done) | (refine BLe.arr ?_; rw [hno]; rfl) | exact BLe.rf⟩, trivial⟩, trivial, rfl⟩⟩
    try simp only [tdy] at h68
    obtain ⟨hro, hn3⟩ := relOf_true h68
    have hn3 : (reachNext r out k).length ≤ 300 := hn3
    have hnl := next_len (k := k) g
    have hra : (relOf 2 (reachTo r out k 0)).1.rows = reachNext r out k := by rw [hro]; rfl
    have hrb : (relOf 2 (reachTo r out k 0)).1.arity = 2 := by rw [hro]
    refine AW_condF rfl ?_
    refine AW_skip ?_
    refine AW_seq ?_
    refine AW_seq ?_
    refine AW_region ?_
    refine AL_p (x_field (off := 1) (o' := 1) rfl rfl rfl (by kernel_rfl) rfl) ?_
    refine AL_p (x_load1 rfl rfl rfl (by kernel_rfl) rfl) ?_
    refine AL_p (x_olen (E := 38) (n := 1) rfl rfl rfl (by kernel_rfl)) ?_
    refine AL_p (x_field (off := 1) (o' := 1) rfl rfl rfl (by kernel_rfl) rfl) ?_
    refine AL_p (x_load1 rfl rfl rfl (by kernel_rfl) rfl) ?_
    refine AL_p (x_len (E := 38) (n := 1) rfl rfl (by kernel_rfl)) ?_
    refine AL_b (x_eql rfl rfl rfl) (fun b78 h78 => ?_)
    refine AL_nil ?_
    cases b78
    rotate_left
    · try simp only [tdy] at h78
      rw [hra] at h78
      have hno := (relReach_yes h13 (by omega) (next_done h13 g (by omega) (by omega)) hn3).trans hro.symm
      refine AW_condT rfl ?_
      refine AW_seq ?_
      refine AW_region ?_
      refine AL_p (x_loadN (n := 2) rfl rfl rfl (by kernel_rfl) rfl rfl) ?_
      refine AL_p (x_store (n := 2) rfl rfl rfl rfl (by kernel_rfl) rfl rfl rfl) ?_
      refine AL_p (x_assign rfl rfl) ?_
      refine AL_nil ?_
      refine AW_ret (BQ_ret (BQ_ret ?_))
      exact ⟨rn [(9, 101), (0, 110)], ⟨⟨⟨_, rfl, VLe.rf⟩, ⟨_, rfl, by first | (refine vle_bool ?_; rw [hno]; done) | exact VLe.rf | (refine vle_bool ?_; rw [hno]; apply Eq.symm; assumption) | exact vle_bool (by rw [hno])⟩, trivial⟩, ⟨⟨_, rfl, by first | (refine ble_eq ?_; rw [hno]; done) | (refine ble_eq ?_; rw [hno]; rfl) | exact BLe.rf⟩, ⟨_, rfl, by first | (refine BLe.arr ?_; rw [hno]; done) | (refine BLe.arr ?_; rw [hno]; rfl) | exact BLe.rf⟩, trivial⟩, trivial, rfl⟩⟩
    try simp only [tdy] at h78
    rw [hra] at h78
    have hlt : out.length < (reachNext r out k).length := by omega
    refine AW_condF rfl ?_
    refine AW_skip ?_
    refine AW_shutB 110 111 1 rfl rfl rfl rfl ?_
    refine AW_region ?_
    refine AL_p (x_loadN (n := 2) rfl rfl rfl (by kernel_rfl) rfl rfl) ?_
    refine AL_p (x_store (n := 2) rfl rfl rfl rfl (by kernel_rfl) rfl rfl rfl) ?_
    refine AL_nil ?_
    refine ⟨⟨reachNext r out k, ⟨g.next h13, hn3⟩⟩, rn [], ?_, by dsimp only; omega⟩
    exact ⟨by (repeat refine ⟨⟨_, rfl, by first | with_reducible exact VLe.rf | exact VLe.rf | exact vle_int (by dsimp only; omega)⟩, ?_⟩); exact trivial, by (repeat refine ⟨⟨_, rfl, by first | with_reducible exact BLe.rf | with_reducible exact boxPair hrb hra | exact boxPair har2 rfl | (refine BLe.arr ?_; exact rfl) | exact BLe.rf | exact BLe.box AllC.rf⟩, ?_⟩); exact trivial, by repeat (first | exact trivial | refine ⟨⟨rfl, by first | (left; intro h; cases h) | (right; rfl), fun _ h => ⟨_, h⟩⟩, ?_⟩), rfl⟩
  try simp only [tdy] at h30
  have hkl : k < out.length := by omega
  have hx2 := tc_len (g.tc out[k] (List.getElem_mem hkl))
  refine AW_condT rfl ?_
  refine AW_skip ?_
  refine AW_seq ?_
  refine AW_block ?_
  refine AW_seq ?_
  refine AW_region ?_
  refine AL_p (x_index (E := 38) (n := 1) rfl rfl rfl (by kernel_rfl) rfl (k := k) rfl (by omega)) ?_
  refine AL_p (x_eloadW (n := 1) rfl rfl (by kernel_rfl) rfl) ?_
  refine AL_p (x_alloc (z := .agg #[.slice none 0 0]) 105 rfl (by kernel_rfl) rfl rfl rfl rfl) ?_
  refine AL_p (x_store (n := 1) rfl rfl rfl rfl (by kernel_rfl) rfl rfl rfl) ?_
  refine AL_nil ?_
  refine AW_seq ?_
  refine AW_region ?_
  refine AL_p (x_field (off := 1) (o' := 1) rfl rfl rfl (by kernel_rfl) rfl) ?_
  refine AL_p (x_load1 rfl rfl rfl (by kernel_rfl) rfl) ?_
  refine AL_p (x_len (E := 38) (n := 1) rfl rfl (by kernel_rfl)) ?_
  refine AL_p (x_move rfl rfl) ?_
  refine AL_nil ?_
  refine AW_block ?_
  refine AW_loop2 (ι := {q : Nat // q ≤ r.rows.length}) (fun p => [(5, .one (.own 104)), (36, .one (.c (.int .i64 ((p.1) : Int))))]) (fun p => [(104, some (.arr 38 rowE (reachTo r out k (p.1)) false))]) [1, 2, 4, 7, 27, 28, 29, 34, 35] [100, 101, 105, 200] (fun p => r.rows.length - (p.1)) ⟨0, by omega⟩ (rn []) ?_ ?_
  exact ⟨by (repeat refine ⟨⟨_, rfl, by first | exact VLe.rf | exact vle_int (by dsimp only; omega)⟩, ?_⟩); exact trivial, by (repeat refine ⟨⟨_, rfl, by first | exact BLe.rf | exact BLe.box AllC.rf | exact BLe.arr (by first | exact reachTo_no hkl hjl hj1 | (rw [linkRow_at hx2 hy2]; exact reachTo_yes hkl hjl hj1))⟩, ?_⟩); exact trivial, by repeat (first | exact trivial | refine ⟨⟨rfl, by first | (left; intro h; cases h) | (right; rfl), fun _ h => ⟨_, h⟩⟩, ?_⟩), rfl⟩
  rintro ⟨j, hinv⟩
  dsimp only
  have hj := hinv
  refine AW_seq ?_
  refine AW_region ?_
  refine AL_b (x_lss rfl rfl rfl) (fun b37 h37 => ?_)
  refine AL_nil ?_
  refine AW_seq ?_
  cases b37
  · try simp only [tdy] at h37
    refine AW_condF rfl ?_
    refine AW_exit (BQ_hit ?_)
    refine AW_region ?_
    refine AL_p (x_add rfl rfl rfl (IntWalk.i64_in _ (by omega))) ?_
    refine AL_p (x_move rfl rfl) ?_
    refine AL_nil ?_
    refine ⟨⟨k + 1, by omega⟩, rn [], ?_, by dsimp only; omega⟩
    exact ⟨by (repeat refine ⟨⟨_, rfl, by first | exact VLe.rf | exact vle_int (by dsimp only; omega)⟩, ?_⟩); exact trivial, by (repeat refine ⟨⟨_, rfl, by first | exact BLe.rf | exact BLe.box AllC.rf | exact BLe.arr (by first | exact reachTo_zero | exact reachTo_next hkl (by omega))⟩, ?_⟩); exact trivial, by repeat (first | exact trivial | refine ⟨⟨rfl, by first | (left; intro h; cases h) | (right; rfl), fun _ h => ⟨_, h⟩⟩, ?_⟩), rfl⟩
  try simp only [tdy] at h37
  have hjl : j < r.rows.length := by omega
  have hy2 := tc_len (g.tc r.rows[j] (g.sup _ (List.getElem_mem hjl)))
  refine AW_condT rfl ?_
  refine AW_skip ?_
  refine AW_seq ?_
  refine AW_block ?_
  refine AW_seq ?_
  refine AW_region ?_
  refine AL_p (x_index (E := 38) (n := 1) rfl rfl rfl (by kernel_rfl) rfl (k := j) rfl (by omega)) ?_
  refine AL_p (x_eloadW (n := 1) rfl rfl (by kernel_rfl) rfl) ?_
  refine AL_p (x_alloc (z := .agg #[.slice none 0 0]) 106 rfl (by kernel_rfl) rfl rfl rfl rfl) ?_
  refine AL_p (x_store (n := 1) rfl rfl rfl rfl (by kernel_rfl) rfl rfl rfl) ?_
  refine AL_nil ?_
  refine AW_seq ?_
  refine AW_draw rfl ?_
  refine AL_p (x_field (off := 0) (o' := 0) rfl rfl rfl (by kernel_rfl) rfl) ?_
  refine AL_p (x_load1 rfl rfl rfl (by kernel_rfl) rfl) ?_
  refine AL_p (x_index (E := 79) (n := 2) rfl rfl rfl (by kernel_rfl) rfl (k := 1) rfl (by omega)) ?_
  refine AL_p (x_eloadW (n := 2) rfl rfl (by kernel_rfl) rfl) ?_
  refine AL_p (x_field (off := 0) (o' := 0) rfl rfl rfl (by kernel_rfl) rfl) ?_
  refine AL_p (x_load1 rfl rfl rfl (by kernel_rfl) rfl) ?_
  refine AL_p (x_index (E := 79) (n := 2) rfl rfl rfl (by kernel_rfl) rfl (k := 0) rfl (by omega)) ?_
  refine AL_p (x_eloadW (n := 2) rfl rfl (by kernel_rfl) rfl) ?_
  refine AL_b (x_veql rfl rfl rfl) (fun b48 h48 => ?_)
  refine AL_nild (by kernel_rfl) ?_
  cases b48
  · try simp only [tdy] at h48
    have hj1 := linkOne_at hx2 hy2 h48
    refine AW_condF rfl ?_
    refine AW_skip ?_
    refine AW_region ?_
    refine AL_p (x_add rfl rfl rfl (IntWalk.i64_in _ (by omega))) ?_
    refine AL_p (x_move rfl rfl) ?_
    refine AL_nil ?_
    refine ⟨⟨j + 1, by omega⟩, rn [], ?_, by dsimp only; omega⟩
    exact ⟨by (repeat refine ⟨⟨_, rfl, by first | exact VLe.rf | exact vle_int (by dsimp only; omega)⟩, ?_⟩); exact trivial, by (repeat refine ⟨⟨_, rfl, by first | exact BLe.rf | exact BLe.box AllC.rf | exact BLe.arr (by first | exact reachTo_no hkl hjl hj1 | (rw [linkRow_at hx2 hy2]; exact reachTo_yes hkl hjl hj1))⟩, ?_⟩); exact trivial, by repeat (first | exact trivial | refine ⟨⟨rfl, by first | (left; intro h; cases h) | (right; rfl), fun _ h => ⟨_, h⟩⟩, ?_⟩), rfl⟩
  try simp only [tdy] at h48
  have hj1 := linkOne_at hx2 hy2 h48
  refine AW_condT rfl ?_
  refine AW_draw rfl ?_
  refine AL_p (x_move rfl rfl) ?_
  refine AL_p (x_field (off := 0) (o' := 0) rfl rfl rfl (by kernel_rfl) rfl) ?_
  refine AL_p (x_load1 rfl rfl rfl (by kernel_rfl) rfl) ?_
  refine AL_p (x_index (E := 79) (n := 2) rfl rfl rfl (by kernel_rfl) rfl (k := 0) rfl (by omega)) ?_
  refine AL_p (x_eloadW (n := 2) rfl rfl (by kernel_rfl) rfl) ?_
  refine AL_p (x_field (off := 0) (o' := 0) rfl rfl rfl (by kernel_rfl) rfl) ?_
  refine AL_p (x_load1 rfl rfl rfl (by kernel_rfl) rfl) ?_
  refine AL_p (x_index (E := 79) (n := 2) rfl rfl rfl (by kernel_rfl) rfl (k := 1) rfl (by omega)) ?_
  refine AL_p (x_eloadW (n := 2) rfl rfl (by kernel_rfl) rfl) ?_
  refine AL_p (y_bslice (E := 79) (e := valE) [.tmp 53, .tmp 57] ([(out[k]'(by omega))[0]'(by omega), (r.rows[j]'(by omega))[1]'(by omega)]) 107 rfl rfl rfl rfl rfl rfl rfl rfl FitL.rf rfl rfl rfl rfl rfl rfl (by kernel_rfl)) ?_
  refine AL_p (x_build (zs := [.slice none 0 0]) (places := [(0, 1)]) rfl (by kernel_rfl) rfl rfl rfl rfl rfl) ?_
  refine AL_p (y_bslice (E := 38) (e := rowE) [.tmp 59] ([[(out[k]'(by omega))[0]'(by omega), (r.rows[j]'(by omega))[1]'(by omega)]]) 108 rfl rfl rfl rfl rfl rfl rfl rfl FitL.rf rfl rfl rfl rfl rfl rfl (by kernel_rfl)) ?_
  refine AL_p (y_append 109 rfl rfl rfl rfl rfl rfl rfl rfl (by kernel_rfl) (by have := reachTo_len (r := r) (out := out) (k := k) (j := j) ho hr3 (by omega); simp only [List.length_cons, List.length_nil]; omega)) ?_
  refine AL_p (x_assign rfl rfl) ?_
  refine AL_nild (by kernel_rfl) ?_
  refine AW_region ?_
  refine AL_p (x_add rfl rfl rfl (IntWalk.i64_in _ (by omega))) ?_
  refine AL_p (x_move rfl rfl) ?_
  refine AL_nil ?_
  refine ⟨⟨j + 1, by omega⟩, rn [(104, 109)], ?_, by dsimp only; omega⟩
  exact ⟨by (repeat refine ⟨⟨_, rfl, by first | exact VLe.rf | exact vle_int (by dsimp only; omega)⟩, ?_⟩); exact trivial, by (repeat refine ⟨⟨_, rfl, by first | exact BLe.rf | exact BLe.box AllC.rf | exact BLe.arr (by first | exact reachTo_no hkl hjl hj1 | (rw [linkRow_at hx2 hy2]; exact reachTo_yes hkl hjl hj1))⟩, ?_⟩); exact trivial, by repeat (first | exact trivial | refine ⟨⟨rfl, by first | (left; intro h; cases h) | (right; rfl), fun _ h => ⟨_, h⟩⟩, ?_⟩), rfl⟩
theorem relReachI_c (r : Relt) (hr : smallRel r) (k : Nat) : AC Try.prog 32 [.agg (relC r)] [] (.tup [.agg [.c (.int .i64 (relReach r).1.arity), .own k], .one (.c (.bool (relReach r).2))]) [(k, some (.arr 38 rowE (relReach r).1.rows true))] := AC.at (relReachI_c0 r hr) k

set_option maxHeartbeats 4000000 in
theorem relReachS_c (r : Relt) (hr : smallRel r) : AC Try.prog 31 [.agg (relC r)] [] (.tup [.agg [.c (.int .i64 (relReach r).1.arity), .sl rowE (relReach r).1.rows], .one (.c (.bool (relReach r).2))]) [] := by
  refine AC_bodyCT (n := 2) (k := 9) (T := [(2, .one (.ptr 9 0)), (3, .one (.c (.bool (relReach r).2)))]) (Lf := ((9, some (.box [.c (.int .i64 (relReach r).1.arity), .sl rowE (relReach r).1.rows])) :: [])) Try.func31 rfl rfl Try.ntmps31 rfl Try.results31 rfl rfl rfl rfl (by kernel_rfl) rfl rfl ⟨trivial, (by repeat (first | exact trivial | refine ⟨⟨_, rfl, BLe.rf⟩, ?_⟩)), (by repeat (first | exact trivial | refine ⟨⟨rfl, by first | (left; intro h; cases h) | (right; rfl), by first | exact (fun _ h => ⟨_, h⟩) | exact (fun _ _ => ⟨_, rfl⟩)⟩, ?_⟩)), rfl⟩ ?_
  refine AW_seq ?_
  refine AW_region ?_
  refine AL_p (x_box 100 rfl rfl rfl rfl rfl rfl rfl) ?_
  refine AL_p (x_alloc (z := .agg #[.int .i64 0, .slice none 0 0]) 101 rfl (by kernel_rfl) rfl rfl rfl rfl) ?_
  refine AL_p (x_assign rfl rfl) ?_
  refine AL_nil ?_
  refine AW_seq ?_
  refine AW_seq ?_
  refine AW_region ?_
  refine AL_p (x_loadN (n := 2) rfl rfl rfl (by kernel_rfl) rfl rfl) ?_
  refine AL_b (x_call0 rfl rfl rfl (relOkS_c _ hr.1) rfl rfl) (fun b10 h10 => ?_)
  refine AL_p (x_not rfl rfl) ?_
  refine AL_p (x_move rfl rfl) ?_
  cases b10
  · try simp only [tdy] at h10
    have hno := relReach_no1 h10
    refine AL_o rfl rfl rfl rfl ?_
    refine AL_o rfl rfl rfl rfl ?_
    refine AL_o rfl rfl rfl rfl ?_
    refine AL_p (x_pickT rfl rfl rfl) ?_
    refine AL_nil ?_
    refine AW_condT rfl ?_
    refine AW_seq ?_
    refine AW_region ?_
    refine AL_p (x_build (zs := [.int .i64 0, .slice none 0 0]) (places := [(0, 1), (1, 1)]) rfl (by kernel_rfl) rfl rfl rfl rfl rfl) ?_
    refine AL_p (x_store (n := 2) rfl rfl rfl rfl (by kernel_rfl) rfl rfl rfl) ?_
    refine AL_p (x_assign rfl rfl) ?_
    refine AL_nil ?_
    refine AW_ret ?_
    first | exact ⟨rn [(9, 101)], ⟨⟨⟨_, rfl, VLe.rf⟩, ⟨_, rfl, by refine vle_bool ?_; rw [hno]⟩, trivial⟩, ⟨⟨_, rfl, by refine ble_eq ?_; rw [hno, ← har]; rfl⟩, trivial⟩, trivial, rfl⟩⟩ | exact ⟨rn [(9, 101)], ⟨⟨⟨_, rfl, VLe.rf⟩, ⟨_, rfl, by refine vle_bool ?_; rw [hno]⟩, trivial⟩, ⟨⟨_, rfl, by refine BLe.box ?_; rw [hno]; exact ⟨CLe.rf, CLe.nil, trivial⟩⟩, trivial⟩, trivial, rfl⟩⟩
  try simp only [tdy] at h10
  have hr3 := (relOk_parts h10).2.2.2
  refine AL_g rfl rfl (x_field (off := 0) (o' := 0) rfl rfl rfl (by kernel_rfl) rfl) ?_
  refine AL_g rfl rfl (x_load1 rfl rfl rfl (by kernel_rfl) rfl) ?_
  refine AL_gb rfl rfl (x_neq rfl rfl rfl) (fun b15 h15 => ?_)
  refine AL_p (x_pickF rfl rfl rfl) ?_
  refine AL_nil ?_
  cases b15
  rotate_left
  · try simp only [tdy] at h15
    have hno := relReach_no2 (r := r) (by omega)
    refine AW_condT rfl ?_
    refine AW_seq ?_
    refine AW_region ?_
    refine AL_p (x_build (zs := [.int .i64 0, .slice none 0 0]) (places := [(0, 1), (1, 1)]) rfl (by kernel_rfl) rfl rfl rfl rfl rfl) ?_
    refine AL_p (x_store (n := 2) rfl rfl rfl rfl (by kernel_rfl) rfl rfl rfl) ?_
    refine AL_p (x_assign rfl rfl) ?_
    refine AL_nil ?_
    refine AW_ret ?_
    first | exact ⟨rn [(9, 101)], ⟨⟨⟨_, rfl, VLe.rf⟩, ⟨_, rfl, by refine vle_bool ?_; rw [hno]⟩, trivial⟩, ⟨⟨_, rfl, by refine ble_eq ?_; rw [hno, ← har]; rfl⟩, trivial⟩, trivial, rfl⟩⟩ | exact ⟨rn [(9, 101)], ⟨⟨⟨_, rfl, VLe.rf⟩, ⟨_, rfl, by refine vle_bool ?_; rw [hno]⟩, trivial⟩, ⟨⟨_, rfl, by refine BLe.box ?_; rw [hno]; exact ⟨CLe.rf, CLe.nil, trivial⟩⟩, trivial⟩, trivial, rfl⟩⟩
  try simp only [tdy] at h15
  have har : r.arity = 2 := by omega
  refine AW_condF rfl ?_
  refine AW_skip ?_
  refine AW_seq ?_
  refine AW_region ?_
  refine AL_p (x_loadN (n := 2) rfl rfl rfl (by kernel_rfl) rfl rfl) ?_
  refine AL_p (x_call1 rfl rfl rfl (copyS_c r hr 102) rfl rfl rfl rfl) ?_
  refine AL_p (x_alloc (z := .agg #[.int .i64 0, .slice none 0 0]) 200 rfl (by kernel_rfl) rfl rfl rfl rfl) ?_
  refine AL_p (x_store (n := 2) rfl rfl rfl rfl (by kernel_rfl) rfl rfl rfl) ?_
  refine AL_nil ?_
  refine AW_seq ?_
  refine AW_seq ?_
  refine AW_region ?_
  refine AL_p (x_assign rfl rfl) ?_
  refine AL_nil ?_
  refine AW_block ?_
  refine AW_shutB 102 200 1 rfl rfl rfl rfl ?_
  refine AW_loop2 (ι := {q : List (List Val) × Int // (Good r (q.1) ∧ (q.1).length ≤ 300) ∧ (q.2) ≤ (q.1).length ∧ ((q.2) = (q.1).length → Closed (q.1))}) (fun p => [(5, .one (.c (.int .i64 (p.1.2))))]) (fun p => [(200, some (.box [.c (.int .i64 r.arity), .sl rowE (p.1.1)]))]) [2, 4] [100, 101] (fun p => 2 * (301 - (p.1.1).length) + min 1 (((p.1.1).length : Int) - (p.1.2)).toNat) ⟨⟨r.rows, -1⟩, ⟨⟨Good.start h10 har, hr3⟩, by omega, fun e => by omega⟩⟩ (rn []) ?_ ?_
  exact ⟨by (repeat refine ⟨⟨_, rfl, by first | with_reducible exact VLe.rf | exact VLe.rf | exact vle_int (by dsimp only; omega)⟩, ?_⟩); exact trivial, by (repeat refine ⟨⟨_, rfl, by first | with_reducible exact BLe.rf | with_reducible exact BLe.rf | (refine BLe.arr ?_; exact rfl) | exact BLe.rf | exact BLe.box AllC.rf⟩, ?_⟩); exact trivial, by repeat (first | exact trivial | refine ⟨⟨rfl, by first | (left; intro h; cases h) | (right; rfl), fun _ h => ⟨_, h⟩⟩, ?_⟩), rfl⟩
  rintro ⟨⟨out, n⟩, hinv⟩
  dsimp only
  obtain ⟨⟨g, ho⟩, hn, hcl⟩ := hinv
  have ho : out.length ≤ 300 := ho
  have g : Good r out := g
  have hn : n ≤ (out.length : Int) := hn
  have hcl : n = (out.length : Int) → Closed out := hcl
  refine AW_seq ?_
  refine AW_seq ?_
  refine AW_region ?_
  refine AL_p (x_move rfl rfl) ?_
  refine AL_p (x_field (off := 1) (o' := 1) rfl rfl rfl (by kernel_rfl) rfl) ?_
  refine AL_p (x_load1 rfl rfl rfl (by kernel_rfl) rfl) ?_
  refine AL_p (x_len (E := 38) (n := 1) rfl rfl (by kernel_rfl)) ?_
  refine AL_b (x_lss rfl rfl rfl) (fun b24 h24 => ?_)
  refine AL_nil ?_
  cases b24
  · try simp only [tdy] at h24
    have hno := relReach_yes h10 har ((hcl (by omega)).clo g) ho
    refine AW_condF rfl ?_
    refine AW_exit (BQ_hit ?_)
    refine AW_seq ?_
    refine AW_region ?_
    refine AL_p (x_loadN (n := 2) rfl rfl rfl (by kernel_rfl) rfl rfl) ?_
    refine AL_p (x_store (n := 2) rfl rfl rfl rfl (by kernel_rfl) rfl rfl rfl) ?_
    refine AL_p (x_assign rfl rfl) ?_
    refine AL_nil ?_
    refine AW_ret ?_
    first | exact ⟨rn [(9, 101)], ⟨⟨⟨_, rfl, VLe.rf⟩, ⟨_, rfl, by refine vle_bool ?_; rw [hno]⟩, trivial⟩, ⟨⟨_, rfl, by refine ble_eq ?_; rw [hno, ← har]; rfl⟩, trivial⟩, trivial, rfl⟩⟩ | exact ⟨rn [(9, 101)], ⟨⟨⟨_, rfl, VLe.rf⟩, ⟨_, rfl, by refine vle_bool ?_; rw [hno]⟩, trivial⟩, ⟨⟨_, rfl, by refine BLe.box ?_; rw [hno]; exact ⟨CLe.rf, CLe.nil, trivial⟩⟩, trivial⟩, trivial, rfl⟩⟩
  try simp only [tdy] at h24
  refine AW_condT rfl ?_
  refine AW_skip ?_
  refine AW_block ?_
  refine AW_seq ?_
  refine AW_region ?_
  refine AL_p (x_field (off := 1) (o' := 1) rfl rfl rfl (by kernel_rfl) rfl) ?_
  refine AL_p (x_load1 rfl rfl rfl (by kernel_rfl) rfl) ?_
  refine AL_p (x_len (E := 38) (n := 1) rfl rfl (by kernel_rfl)) ?_
  refine AL_p (x_assign rfl rfl) ?_
  refine AL_nil ?_
  refine AW_seq ?_
  refine AW_region ?_
  refine AL_p (x_field (off := 1) (o' := 1) rfl rfl rfl (by kernel_rfl) rfl) ?_
  refine AL_p (x_load1 rfl rfl rfl (by kernel_rfl) rfl) ?_
  refine AL_p (x_assign rfl rfl) ?_
  refine AL_nil ?_
  refine AW_seq ?_
  refine AW_region ?_
  refine AL_p (x_move rfl rfl) ?_
  refine AL_p (x_len (E := 38) (n := 1) rfl rfl (by kernel_rfl)) ?_
  refine AL_p (x_move rfl rfl) ?_
  refine AL_nil ?_
  refine AW_block ?_
  refine AW_loop2 (ι := {q : Nat // q ≤ out.length ∧ (reachU out q 0).length ≤ 300}) (fun p => [(32, .one (.c (.int .i64 ((p.1) : Int))))]) (fun p => [(200, some (.box [.c (.int .i64 r.arity), .sl rowE (reachU out (p.1) 0)]))]) [2, 4, 5, 6, 31] [100, 101] (fun p => out.length - (p.1)) ⟨0, ⟨by omega, by rw [← reachU_zero]; omega⟩⟩ (rn []) ?_ ?_
  exact ⟨by (repeat refine ⟨⟨_, rfl, by first | with_reducible exact VLe.rf | exact VLe.rf | exact vle_int (by dsimp only; omega)⟩, ?_⟩); exact trivial, by (repeat refine ⟨⟨_, rfl, by first | with_reducible exact BLe.rf | with_reducible exact boxRel reachU_zero | with_reducible exact boxRel hun | (refine BLe.arr ?_; exact rfl) | exact BLe.rf | exact BLe.box AllC.rf⟩, ?_⟩); exact trivial, by repeat (first | exact trivial | refine ⟨⟨rfl, by first | (left; intro h; cases h) | (right; rfl), fun _ h => ⟨_, h⟩⟩, ?_⟩), rfl⟩
  rintro ⟨k, hinv⟩
  dsimp only
  obtain ⟨hk, h3k⟩ := hinv
  have hk : k ≤ out.length := hk
  have h3k : (reachU out k 0).length ≤ 300 := h3k
  refine AW_seq ?_
  refine AW_region ?_
  refine AL_b (x_lss rfl rfl rfl) (fun b33 h33 => ?_)
  refine AL_nil ?_
  refine AW_seq ?_
  cases b33
  · try simp only [tdy] at h33
    have hum := reachU_more (now := out) (k := k) (j := 0)
    refine AW_condF rfl ?_
    refine AW_exit (BQ_hit ?_)
    refine ⟨⟨⟨reachU out k 0, (out.length : Int)⟩, ⟨⟨g.put h10, h3k⟩, by dsimp only; omega, fun e => reachU_closed h10 g (by omega) (by dsimp only at e; omega)⟩⟩, rn [], ?_, by dsimp only; omega⟩
    exact ⟨by (repeat refine ⟨⟨_, rfl, by first | with_reducible exact VLe.rf | exact VLe.rf | exact vle_int (by dsimp only; omega)⟩, ?_⟩); exact trivial, by (repeat refine ⟨⟨_, rfl, by first | with_reducible exact BLe.rf | with_reducible exact BLe.rf | (refine BLe.arr ?_; exact rfl) | exact BLe.rf | exact BLe.box AllC.rf⟩, ?_⟩); exact trivial, by repeat (first | exact trivial | refine ⟨⟨rfl, by first | (left; intro h; cases h) | (right; rfl), fun _ h => ⟨_, h⟩⟩, ?_⟩), rfl⟩
  try simp only [tdy] at h33
  have hkl : k < out.length := by omega
  have hx2 := tc_len (g.tc out[k] (List.getElem_mem hkl))
  refine AW_condT rfl ?_
  refine AW_skip ?_
  refine AW_seq ?_
  refine AW_block ?_
  refine AW_seq ?_
  refine AW_region ?_
  refine AL_p (x_move rfl rfl) ?_
  refine AL_p (x_assign rfl rfl) ?_
  refine AL_nil ?_
  refine AW_seq ?_
  refine AW_seq ?_
  refine AW_region ?_
  refine AL_p (x_move rfl rfl) ?_
  refine AL_p (x_len (E := 38) (n := 1) rfl rfl (by kernel_rfl)) ?_
  refine AL_p (x_move rfl rfl) ?_
  refine AL_nil ?_
  refine AW_block ?_
  refine AW_loop2 (ι := {q : Nat // q ≤ out.length}) (fun p => [(37, .one (.c (.int .i64 ((p.1) : Int))))]) (fun p => [(200, some (.box [.c (.int .i64 r.arity), .sl rowE (reachU out k (p.1))]))]) [2, 4, 5, 6, 7, 31, 32, 36] [100, 101] (fun p => out.length - (p.1)) ⟨0, by omega⟩ (rn []) ?_ ?_
  exact ⟨by (repeat refine ⟨⟨_, rfl, by first | with_reducible exact VLe.rf | exact VLe.rf | exact vle_int (by dsimp only; omega)⟩, ?_⟩); exact trivial, by (repeat refine ⟨⟨_, rfl, by first | with_reducible exact BLe.rf | with_reducible exact boxRel hu | (refine BLe.arr ?_; exact rfl) | exact BLe.rf | exact BLe.box AllC.rf⟩, ?_⟩); exact trivial, by repeat (first | exact trivial | refine ⟨⟨rfl, by first | (left; intro h; cases h) | (right; rfl), fun _ h => ⟨_, h⟩⟩, ?_⟩), rfl⟩
  rintro ⟨j, hinv⟩
  dsimp only
  have hj := hinv
  refine AW_seq ?_
  refine AW_region ?_
  refine AL_b (x_lss rfl rfl rfl) (fun b38 h38 => ?_)
  refine AL_nil ?_
  refine AW_seq ?_
  cases b38
  · try simp only [tdy] at h38
    have hun := reachU_next (now := out) (j := j) hkl (by omega)
    refine AW_condF rfl ?_
    refine AW_exit (BQ_hit ?_)
    refine AW_seq ?_
    refine AW_region ?_
    refine AL_p (x_field (off := 1) (o' := 1) rfl rfl rfl (by kernel_rfl) rfl) ?_
    refine AL_p (x_load1 rfl rfl rfl (by kernel_rfl) rfl) ?_
    refine AL_p (x_len (E := 38) (n := 1) rfl rfl (by kernel_rfl)) ?_
    refine AL_b (x_gtr rfl rfl rfl) (fun b79 h79 => ?_)
    refine AL_nil ?_
    cases b79
    · try simp only [tdy] at h79
      rw [hun] at h79
      refine AW_condF rfl ?_
      refine AW_skip ?_
      refine AW_region ?_
      refine AL_p (x_add rfl rfl rfl (IntWalk.i64_in _ (by omega))) ?_
      refine AL_p (x_move rfl rfl) ?_
      refine AL_nil ?_
      refine ⟨⟨k + 1, ⟨by omega, by omega⟩⟩, rn [], ?_, by dsimp only; omega⟩
      exact ⟨by (repeat refine ⟨⟨_, rfl, by first | with_reducible exact VLe.rf | exact VLe.rf | exact vle_int (by dsimp only; omega)⟩, ?_⟩); exact trivial, by (repeat refine ⟨⟨_, rfl, by first | with_reducible exact BLe.rf | with_reducible exact boxRel reachU_zero | with_reducible exact boxRel hun | (refine BLe.arr ?_; exact rfl) | exact BLe.rf | exact BLe.box AllC.rf⟩, ?_⟩); exact trivial, by repeat (first | exact trivial | refine ⟨⟨rfl, by first | (left; intro h; cases h) | (right; rfl), fun _ h => ⟨_, h⟩⟩, ?_⟩), rfl⟩
    try simp only [tdy] at h79
    rw [hun] at h79
    have hno := relReach_big (reachU_sorted h10 g (.inr rfl)) (fun x hx => reachU_tc g (.inr rfl) hx) h79
    refine AW_condT rfl ?_
    refine AW_seq ?_
    refine AW_region ?_
    refine AL_p (x_build (zs := [.int .i64 0, .slice none 0 0]) (places := [(0, 1), (1, 1)]) rfl (by kernel_rfl) rfl rfl rfl rfl rfl) ?_
    refine AL_p (x_store (n := 2) rfl rfl rfl rfl (by kernel_rfl) rfl rfl rfl) ?_
    refine AL_p (x_assign rfl rfl) ?_
    refine AL_nil ?_
    refine AW_ret (BQ_ret (BQ_ret (BQ_ret (BQ_ret ?_))))
    first | exact ⟨rn [(9, 101)], ⟨⟨⟨_, rfl, VLe.rf⟩, ⟨_, rfl, by refine vle_bool ?_; rw [hno]⟩, trivial⟩, ⟨⟨_, rfl, by refine ble_eq ?_; rw [hno, ← har]; rfl⟩, trivial⟩, trivial, rfl⟩⟩ | exact ⟨rn [(9, 101)], ⟨⟨⟨_, rfl, VLe.rf⟩, ⟨_, rfl, by refine vle_bool ?_; rw [hno]⟩, trivial⟩, ⟨⟨_, rfl, by refine BLe.box ?_; rw [hno]; exact ⟨CLe.rf, CLe.nil, trivial⟩⟩, trivial⟩, trivial, rfl⟩⟩
  try simp only [tdy] at h38
  have hjl : j < out.length := by omega
  have hy2 := tc_len (g.tc out[j] (List.getElem_mem hjl))
  refine AW_condT rfl ?_
  refine AW_skip ?_
  refine AW_seq ?_
  refine AW_block ?_
  refine AW_seq ?_
  refine AW_region ?_
  refine AL_p (x_move rfl rfl) ?_
  refine AL_p (x_assign rfl rfl) ?_
  refine AL_nil ?_
  refine AW_seq ?_
  refine AW_draw rfl ?_
  refine AL_p (x_move rfl rfl) ?_
  refine AL_p (x_move rfl rfl) ?_
  refine AL_p (x_index (E := 38) (n := 1) rfl rfl rfl (by kernel_rfl) rfl (k := k) rfl (by omega)) ?_
  refine AL_p (x_efield (off := 0) (o' := 0) rfl rfl (by kernel_rfl) rfl) ?_
  refine AL_p (x_eload1 rfl rfl (by kernel_rfl) rfl) ?_
  refine AL_p (x_index (E := 79) (n := 2) rfl rfl rfl (by kernel_rfl) rfl (k := 1) rfl (by omega)) ?_
  refine AL_p (x_eloadW (n := 2) rfl rfl (by kernel_rfl) rfl) ?_
  refine AL_p (x_move rfl rfl) ?_
  refine AL_p (x_move rfl rfl) ?_
  refine AL_p (x_index (E := 38) (n := 1) rfl rfl rfl (by kernel_rfl) rfl (k := j) rfl (by omega)) ?_
  refine AL_p (x_efield (off := 0) (o' := 0) rfl rfl (by kernel_rfl) rfl) ?_
  refine AL_p (x_eload1 rfl rfl (by kernel_rfl) rfl) ?_
  refine AL_p (x_index (E := 79) (n := 2) rfl rfl rfl (by kernel_rfl) rfl (k := 0) rfl (by omega)) ?_
  refine AL_p (x_eloadW (n := 2) rfl rfl (by kernel_rfl) rfl) ?_
  refine AL_b (x_veql rfl rfl rfl) (fun b54 h54 => ?_)
  refine AL_nild (by kernel_rfl) ?_
  cases b54
  · try simp only [tdy] at h54
    have hj1 := linkOne_at hx2 hy2 h54
    have hu := reachU_no hkl hjl hj1
    refine AW_condF rfl ?_
    refine AW_skip ?_
    refine AW_region ?_
    refine AL_p (x_add rfl rfl rfl (IntWalk.i64_in _ (by omega))) ?_
    refine AL_p (x_move rfl rfl) ?_
    refine AL_nil ?_
    refine ⟨⟨j + 1, by omega⟩, rn [], ?_, by dsimp only; omega⟩
    exact ⟨by (repeat refine ⟨⟨_, rfl, by first | with_reducible exact VLe.rf | exact VLe.rf | exact vle_int (by dsimp only; omega)⟩, ?_⟩); exact trivial, by (repeat refine ⟨⟨_, rfl, by first | with_reducible exact BLe.rf | with_reducible exact boxRel hu | (refine BLe.arr ?_; exact rfl) | exact BLe.rf | exact BLe.box AllC.rf⟩, ?_⟩); exact trivial, by repeat (first | exact trivial | refine ⟨⟨rfl, by first | (left; intro h; cases h) | (right; rfl), fun _ h => ⟨_, h⟩⟩, ?_⟩), rfl⟩
  try simp only [tdy] at h54
  have hj1 := linkOne_at hx2 hy2 h54
  have hu : putRow (reachU out k j) [(out[k]'(by omega))[0]'(by omega), (out[j]'(by omega))[1]'(by omega)] = (reachU out k (j + 1)) := by rw [linkRow_at hx2 hy2]; exact reachU_yes hkl hjl hj1
  refine AW_condT rfl ?_
  refine AW_draw rfl ?_
  refine AL_p (x_field (off := 1) (o' := 1) rfl rfl rfl (by kernel_rfl) rfl) ?_
  refine AL_p (x_load1 rfl rfl rfl (by kernel_rfl) rfl) ?_
  refine AL_p (x_move rfl rfl) ?_
  refine AL_p (x_move rfl rfl) ?_
  refine AL_p (x_index (E := 38) (n := 1) rfl rfl rfl (by kernel_rfl) rfl (k := k) rfl (by omega)) ?_
  refine AL_p (x_efield (off := 0) (o' := 0) rfl rfl (by kernel_rfl) rfl) ?_
  refine AL_p (x_eload1 rfl rfl (by kernel_rfl) rfl) ?_
  refine AL_p (x_index (E := 79) (n := 2) rfl rfl rfl (by kernel_rfl) rfl (k := 0) rfl (by omega)) ?_
  refine AL_p (x_eloadW (n := 2) rfl rfl (by kernel_rfl) rfl) ?_
  refine AL_p (x_move rfl rfl) ?_
  refine AL_p (x_move rfl rfl) ?_
  refine AL_p (x_index (E := 38) (n := 1) rfl rfl rfl (by kernel_rfl) rfl (k := j) rfl (by omega)) ?_
  refine AL_p (x_efield (off := 0) (o' := 0) rfl rfl (by kernel_rfl) rfl) ?_
  refine AL_p (x_eload1 rfl rfl (by kernel_rfl) rfl) ?_
  refine AL_p (x_index (E := 79) (n := 2) rfl rfl rfl (by kernel_rfl) rfl (k := 1) rfl (by omega)) ?_
  refine AL_p (x_eloadW (n := 2) rfl rfl (by kernel_rfl) rfl) ?_
  refine AL_p (y_bslice_sl (E := 79) (e := valE) [.tmp 63, .tmp 70] ([(out[k]'(by omega))[0]'(by omega), (out[j]'(by omega))[1]'(by omega)]) rfl rfl rfl rfl rfl rfl rfl rfl FitL.rf rfl rfl rfl (by kernel_rfl)) ?_
  refine AL_p (x_build (zs := [.slice none 0 0]) (places := [(0, 1)]) rfl (by kernel_rfl) rfl rfl rfl rfl rfl) ?_
  refine AL_p (x_call0 rfl rfl rfl (putS_c (reachU out k j) [(out[k]'(by omega))[0]'(by omega), (out[j]'(by omega))[1]'(by omega)] (Nat.le_trans (reachU_len ho (by omega)) (by decide)) (reachU_row g (.inl hkl)) (by simp) (reachU_sorted h10 g (.inl hkl)) (by rw [linkRow_at hx2 hy2]; exact link_valsOne h10 g (List.getElem_mem hkl) (List.getElem_mem hjl) hj1)) rfl rfl) ?_
  refine AL_p (x_field (off := 1) (o' := 1) rfl rfl rfl (by kernel_rfl) rfl) ?_
  refine AL_p (x_store (n := 1) rfl rfl rfl rfl (by kernel_rfl) rfl rfl rfl) ?_
  refine AL_nild (by kernel_rfl) ?_
  refine AW_region ?_
  refine AL_p (x_add rfl rfl rfl (IntWalk.i64_in _ (by omega))) ?_
  refine AL_p (x_move rfl rfl) ?_
  refine AL_nil ?_
  refine ⟨⟨j + 1, by omega⟩, rn [], ?_, by dsimp only; omega⟩
  exact ⟨by (repeat refine ⟨⟨_, rfl, by first | with_reducible exact VLe.rf | exact VLe.rf | exact vle_int (by dsimp only; omega)⟩, ?_⟩); exact trivial, by (repeat refine ⟨⟨_, rfl, by first | with_reducible exact BLe.rf | with_reducible exact boxRel hu | (refine BLe.arr ?_; exact rfl) | exact BLe.rf | exact BLe.box AllC.rf⟩, ?_⟩); exact trivial, by repeat (first | exact trivial | refine ⟨⟨rfl, by first | (left; intro h; cases h) | (right; rfl), fun _ h => ⟨_, h⟩⟩, ?_⟩), rfl⟩
end Go.Proofs.Ytopffmncbeakkaa

/- The walk of FnExactRelReach (printed by walk.py) -/
namespace Go.Proofs.Ytopffmncbeakkaa
open Go.RowKit
set_option linter.unusedVariables false
set_option linter.unusedSimpArgs false
set_option maxRecDepth 100000

theorem frz0 (x : Relt) (s : smallRel x) : AC Try.prog 12 [.agg (relC x)] [] (.agg (relC x)) [] := AC.frz (toRel_c x s 0) rfl (by intro k hk; simpa [AVal.ids, Cell.ids] using hk)
set_option maxHeartbeats 4000000 in
theorem lawFnExactRelReach.walk (w : World) (c0 : Array Value) (x0 : Relt) (b0 : List Nat) (h0 : relE.rep w c0.toList x0 b0) :
    Calls Try.prog 8 #[.agg c0] w fun e w' => e = .returned (.bool true) ∧ Below w.heap.size w w' := by
  refine AM_law (r := 2) Try.func8 rfl Try.ntmps8 rfl Try.results8 w _ (args := [.agg (relC x0)]) ⟨arg_agg h0, trivial⟩ (fun B => ?_)
  refine AM_seq ?_
  refine AM_region ?_
  refine AL_p (x_box 100 rfl rfl rfl rfl rfl rfl rfl) ?_
  refine AL_p (x_assign rfl rfl) ?_
  refine AL_nil ?_
  refine AM_seq ?_
  refine AM_region ?_
  refine AL_p (x_assign rfl rfl) ?_
  refine AL_nil ?_
  refine AM_seq ?_
  refine AM_region ?_
  refine AL_p (x_loadN (n := 2) rfl rfl rfl (by kernel_rfl) rfl rfl) ?_
  refine AL_p (x_move rfl rfl) ?_
  refine AL_p (x_call0 rfl rfl rfl (szRel_c _ _ (by omega) (by omega)) rfl rfl) ?_
  refine AL_p (x_assign rfl rfl) ?_
  refine AL_nil ?_
  refine AM_seq ?_
  refine AM_seq ?_
  refine AM_region ?_
  refine AL_p (x_move rfl rfl) ?_
  refine AL_b (x_lss rfl rfl rfl) (fun b18 h18 => ?_)
  refine AL_nil ?_
  cases b18
  rotate_left
  · try simp only [tdy] at h18
    refine AM_condT rfl ?_
    refine AM_seq ?_
    refine AM_region ?_
    refine AL_p (x_assign rfl rfl) ?_
    refine AL_nil ?_
    refine AM_ret ?_
    exact rfl
  try simp only [tdy] at h18
  have f18 := (szR_nonneg h18).1
  have e18 := (szR_nonneg h18).2
  have t0 : totRel x0 ≤ 1048576 := by omega
  have s0 := totRel_small t0
  refine AM_condF rfl ?_
  refine AM_skip ?_
  refine AM_seq ?_
  refine AM_region ?_
  refine AL_p (x_loadN (n := 2) rfl rfl rfl (by kernel_rfl) rfl rfl) ?_
  refine AL_p (x_call0 rfl rfl rfl (frz0 x0 s0) rfl rfl) ?_
  refine AL_p (x_call0 rfl rfl rfl (relReachS_c x0 s0) rfl rfl) ?_
  refine AL_p (x_move rfl rfl) ?_
  refine AL_p (x_extract rfl rfl rfl) ?_
  refine AL_p (x_extract rfl rfl rfl) ?_
  refine AL_p (x_alloc (z := .agg #[.int .i64 0, .slice none 0 0]) 101 rfl (by kernel_rfl) rfl rfl rfl rfl) ?_
  refine AL_p (x_store (n := 2) rfl rfl rfl rfl (by kernel_rfl) rfl rfl rfl) ?_
  refine AL_p (x_assign rfl rfl) ?_
  refine AL_nil ?_
  refine AM_raise (fun B' => [(1, .one (.epo B' relE (x0) 0)), (4, .one (.epo B' relE ((relReach x0).1) 0)), (5, .one (.c _))]) (fun B' => ⟨⟨_, rfl, .box (f := relC) rfl rfl rfl FitL.rf⟩, ⟨_, rfl, .box (f := relC) rfl rfl rfl FitL.rf⟩, ⟨_, rfl, .c⟩, trivial⟩) (fun B' => ?_)
  refine AM_seq ?_
  refine AM_region ?_
  refine AL_p (x_pload (f := relC) (n := 2) rfl rfl (by kernel_rfl) rfl rfl) ?_
  refine AL_p (x_callR rfl rfl rfl (toRel_c x0 s0 102) rfl AllV.rf rfl rfl rfl rfl rfl) ?_
  refine AL_p (x_alloc (z := .agg #[.int .i64 0, .slice none 0 0]) 103 rfl (by kernel_rfl) rfl rfl rfl rfl) ?_
  refine AL_p (x_store (n := 2) rfl rfl rfl rfl (by kernel_rfl) rfl rfl rfl) ?_
  refine AL_nil ?_
  refine AM_seq ?_
  refine AM_region ?_
  refine AL_p (x_loadN (n := 2) rfl rfl rfl (by kernel_rfl) rfl rfl) ?_
  refine AL_p (x_callR rfl rfl rfl (relReachI_c x0 s0 104) rfl AllV.rf rfl rfl rfl rfl rfl) ?_
  refine AL_p (x_move rfl rfl) ?_
  refine AL_p (x_extract rfl rfl rfl) ?_
  refine AL_p (x_extract rfl rfl rfl) ?_
  refine AL_p (x_alloc (z := .agg #[.int .i64 0, .slice none 0 0]) 105 rfl (by kernel_rfl) rfl rfl rfl rfl) ?_
  refine AL_p (x_store (n := 2) rfl rfl rfl rfl (by kernel_rfl) rfl rfl rfl) ?_
  refine AL_p (x_assign rfl rfl) ?_
  refine AL_nil ?_
  refine AM_seq ?_
  refine AM_seq ?_
  refine AM_region ?_
  refine AL_p (x_loadN (n := 2) rfl rfl rfl (by kernel_rfl) rfl rfl) ?_
  refine AL_p (x_pload (f := relC) (n := 2) rfl rfl (by kernel_rfl) rfl rfl) ?_
  refine AL_p (x_callR rfl rfl rfl (eqRel_c ((relReach x0).1)) rfl AllV.rf rfl rfl rfl rfl rfl) ?_
  refine AL_p (x_not rfl rfl) ?_
  refine AL_p (x_move rfl rfl) ?_
  refine AL_g rfl rfl (x_move rfl rfl) ?_
  refine AL_g rfl rfl (x_move rfl rfl) ?_
  refine AL_gb rfl rfl (x_bneq rfl rfl rfl (by kernel_rfl)) (fun b39 h39 => ?_)
  refine AL_p (x_pickF rfl rfl rfl) ?_
  refine AL_nil ?_
  cases b39
  rotate_left
  · exfalso; first | (simp [ba_beq_self] at h39; done) | (simp at h39; omega)
  try simp only [tdy] at h39
  refine AM_condF rfl ?_
  refine AM_skip ?_
  refine AM_seq ?_
  refine AM_seq ?_
  refine AM_draw rfl ?_
  refine AL_p (x_loadN (n := 2) rfl rfl rfl (by kernel_rfl) rfl rfl) ?_
  refine AL_p (x_pload (f := relC) (n := 2) rfl rfl (by kernel_rfl) rfl rfl) ?_
  refine AL_p (x_callR rfl rfl rfl (toRel_c x0 s0 106) rfl AllV.rf rfl rfl rfl rfl rfl) ?_
  refine AL_p (x_callR rfl rfl rfl (eqRel_c (x0)) rfl AllV.rf rfl rfl rfl rfl rfl) ?_
  refine AL_p (x_not rfl rfl) ?_
  refine AL_nild (by kernel_rfl) ?_
  refine AM_condF rfl ?_
  refine AM_skip ?_
  refine AM_seq ?_
  refine AM_region ?_
  refine AL_p (x_assign rfl rfl) ?_
  refine AL_nil ?_
  refine AM_seq ?_
  refine AM_regionM ?_
  refine LM_p (x_loadN (n := 2) rfl rfl rfl (by kernel_rfl) rfl rfl) ?_
  refine LM_p (x_move rfl rfl) ?_
  have n0 : cntDRel (x0) ≤ 1152921504606846976 := cntRel_le s0
  have v0 := markDRel_cnt (x0) (1)
  refine LM_markA (F := relC) (z := x0) (z' := (markDRel x0 (1)).1) [(1, _), (4, _), (5, _), (7, _), (8, _), (9, _)] [(105, some _), (104, some _)] rfl rfl rfl rfl ⟨_, _, Try.func17, rfl, rfl⟩ (fun w cs bs h hF => markDRel_any cs _ bs _ 0 w h hF (by omega) (by omega)) rfl rfl FitL.rf (wf64 (by omega) (by omega)) ⟨⟨rfl, rfl⟩, ⟨rfl, rfl⟩, ⟨rfl, trivial⟩, ⟨rfl, trivial⟩, ⟨rfl, trivial⟩, ⟨rfl, trivial⟩, trivial⟩ ⟨⟨rfl, ⟨trivial, rfl, trivial⟩⟩, ⟨rfl, rfl, rfl⟩, trivial⟩ ?_
  refine LM_p (x_assign rfl rfl) ?_
  refine LM_nil ?_
  refine AM_seq ?_
  refine AM_seq ?_
  refine AM_region ?_
  refine AL_p (x_move rfl rfl) ?_
  refine AL_b (x_lss rfl rfl rfl) (fun b50 h50 => ?_)
  refine AL_p (x_move rfl rfl) ?_
  cases b50
  rotate_left
  · exfalso; first | (simp [ba_beq_self] at h50; done) | (simp at h50; omega)
  try simp only [tdy] at h50
  refine AL_g rfl rfl (x_loadN (n := 2) rfl rfl rfl (by kernel_rfl) rfl rfl) ?_
  refine AL_g rfl rfl (x_pload (f := relC) (n := 2) rfl rfl (by kernel_rfl) rfl rfl) ?_
  refine AL_g rfl rfl (x_callR rfl rfl rfl (eqRel_c ((relReach x0).1)) rfl AllV.rf rfl rfl rfl rfl rfl) ?_
  refine AL_g rfl rfl (x_not rfl rfl) ?_
  refine AL_p (x_pickF rfl rfl rfl) ?_
  refine AL_p (x_move rfl rfl) ?_
  refine AL_g rfl rfl (x_move rfl rfl) ?_
  refine AL_g rfl rfl (x_move rfl rfl) ?_
  refine AL_gb rfl rfl (x_bneq rfl rfl rfl (by kernel_rfl)) (fun b60 h60 => ?_)
  refine AL_p (x_pickF rfl rfl rfl) ?_
  refine AL_nil ?_
  cases b60
  rotate_left
  · exfalso; first | (simp [ba_beq_self] at h60; done) | (simp at h60; omega)
  try simp only [tdy] at h60
  refine AM_condF rfl ?_
  refine AM_skip ?_
  refine AM_seq ?_
  refine AM_region ?_
  refine AL_p (x_assign rfl rfl) ?_
  refine AL_nil ?_
  refine AM_seq ?_
  refine AM_regionM ?_
  refine LM_p (x_loadN (n := 2) rfl rfl rfl (by kernel_rfl) rfl rfl) ?_
  refine LM_p (x_move rfl rfl) ?_
  have n1 : cntDRel ((relReach x0).1) ≤ 1152921504606846976 := cntRel_le (relReach_small s0)
  have v1 := markDRel_cnt ((relReach x0).1) (1)
  refine LM_markAK (F := relC) (z := (relReach x0).1) (z' := (markDRel (relReach x0).1 (1)).1) 7 105 (fun B' => [(1, .one (.epo B' relE (x0) 0)), (4, .one (.epo B' relE ((relReach x0).1) 0)), (5, .one (.c _)), (10, .one (.c _))]) rfl rfl rfl rfl rfl rfl rfl rfl ⟨_, _, Try.func17, rfl, rfl⟩ (fun w cs bs h hF => markDRel_any cs _ bs _ 0 w h hF (by omega) (by omega)) rfl rfl FitL.rf (wf64 (by omega) (by omega)) (fun B' => ⟨⟨_, rfl, .epo⟩, ⟨_, rfl, .epo⟩, ⟨_, rfl, .c⟩, ⟨_, rfl, .c⟩, trivial⟩) (fun B' => ?_)
  refine LM_p (x_assign rfl rfl) ?_
  refine LM_nil ?_
  refine AM_seq ?_
  refine AM_region ?_
  refine AL_p (x_assign rfl rfl) ?_
  refine AL_nil ?_
  refine AM_seq ?_
  refine AM_region ?_
  refine AL_p (x_pload (f := relC) (n := 2) rfl rfl (by kernel_rfl) rfl rfl) ?_
  refine AL_p (x_move rfl rfl) ?_
  refine AL_p (x_callR rfl rfl rfl (heldDRel_c ((relReach x0).1) (1) (by omega) (by omega)) rfl AllV.rf rfl rfl rfl rfl rfl) ?_
  refine AL_p (x_assign rfl rfl) ?_
  refine AL_nil ?_
  refine AM_seq ?_
  refine AM_seq ?_
  refine AM_region ?_
  refine AL_p (x_move rfl rfl) ?_
  refine AL_b (x_lss rfl rfl rfl) (fun b69 h69 => ?_)
  refine AL_nil ?_
  cases b69
  rotate_left
  · exfalso; first | (simp [ba_beq_self] at h69; done) | (simp at h69; omega)
  try simp only [tdy] at h69
  refine AM_condF rfl ?_
  refine AM_skip ?_
  refine AM_seq ?_
  refine AM_seq ?_
  refine AM_region ?_
  refine AL_p (x_move rfl rfl) ?_
  refine AL_p (x_move rfl rfl) ?_
  refine AL_b (x_neq rfl rfl rfl) (fun b72 h72 => ?_)
  refine AL_nil ?_
  cases b72
  rotate_left
  · exfalso; first | (simp [ba_beq_self] at h72; done) | (simp at h72; omega)
  try simp only [tdy] at h72
  refine AM_condF rfl ?_
  refine AM_skip ?_
  refine AM_seq ?_
  refine AM_region ?_
  refine AL_p (x_pload (f := relC) (n := 2) rfl rfl (by kernel_rfl) rfl rfl) ?_
  refine AL_p (x_callR rfl rfl rfl (toRel_c x0 s0 107) rfl AllV.rf rfl rfl rfl rfl rfl) ?_
  refine AL_p (x_callR rfl rfl rfl (relReachI_c x0 s0 108) rfl AllV.rf rfl rfl rfl rfl rfl) ?_
  refine AL_p (x_move rfl rfl) ?_
  refine AL_p (x_extract rfl rfl rfl) ?_
  refine AL_p (x_extract rfl rfl rfl) ?_
  refine AL_p (x_alloc (z := .agg #[.int .i64 0, .slice none 0 0]) 109 rfl (by kernel_rfl) rfl rfl rfl rfl) ?_
  refine AL_p (x_store (n := 2) rfl rfl rfl rfl (by kernel_rfl) rfl rfl rfl) ?_
  refine AL_p (x_assign rfl rfl) ?_
  refine AL_nil ?_
  refine AM_seq ?_
  refine AM_seq ?_
  refine AM_region ?_
  refine AL_p (x_loadN (n := 2) rfl rfl rfl (by kernel_rfl) rfl rfl) ?_
  refine AL_p (x_pload (f := relC) (n := 2) rfl rfl (by kernel_rfl) rfl rfl) ?_
  refine AL_p (x_callR rfl rfl rfl (eqRel_c ((relReach x0).1)) rfl AllV.rf rfl rfl rfl rfl rfl) ?_
  refine AL_p (x_not rfl rfl) ?_
  refine AL_p (x_move rfl rfl) ?_
  refine AL_g rfl rfl (x_move rfl rfl) ?_
  refine AL_g rfl rfl (x_move rfl rfl) ?_
  refine AL_gb rfl rfl (x_bneq rfl rfl rfl (by kernel_rfl)) (fun b86 h86 => ?_)
  refine AL_p (x_pickF rfl rfl rfl) ?_
  refine AL_nil ?_
  cases b86
  rotate_left
  · exfalso; first | (simp [ba_beq_self] at h86; done) | (simp at h86; omega)
  try simp only [tdy] at h86
  refine AM_condF rfl ?_
  refine AM_skip ?_
  refine AM_seq ?_
  refine AM_region ?_
  refine AL_p (x_assign rfl rfl) ?_
  refine AL_nil ?_
  refine AM_seq ?_
  refine AM_region ?_
  refine AL_p (x_pload (f := relC) (n := 2) rfl rfl (by kernel_rfl) rfl rfl) ?_
  refine AL_p (x_move rfl rfl) ?_
  refine AL_p (x_callR rfl rfl rfl (heldDRel_c ((relReach x0).1) (1) (by omega) (by omega)) rfl AllV.rf rfl rfl rfl rfl rfl) ?_
  refine AL_p (x_assign rfl rfl) ?_
  refine AL_nil ?_
  refine AM_seq ?_
  refine AM_seq ?_
  refine AM_region ?_
  refine AL_p (x_move rfl rfl) ?_
  refine AL_b (x_lss rfl rfl rfl) (fun b92 h92 => ?_)
  refine AL_nil ?_
  cases b92
  rotate_left
  · exfalso; first | (simp [ba_beq_self] at h92; done) | (simp at h92; omega)
  try simp only [tdy] at h92
  refine AM_condF rfl ?_
  refine AM_skip ?_
  refine AM_seq ?_
  refine AM_seq ?_
  refine AM_region ?_
  refine AL_p (x_move rfl rfl) ?_
  refine AL_p (x_move rfl rfl) ?_
  refine AL_b (x_neq rfl rfl rfl) (fun b95 h95 => ?_)
  refine AL_nil ?_
  cases b95
  rotate_left
  · exfalso; first | (simp [ba_beq_self] at h95; done) | (simp at h95; omega)
  try simp only [tdy] at h95
  refine AM_condF rfl ?_
  refine AM_skip ?_
  refine AM_seq ?_
  refine AM_region ?_
  refine AL_p (x_assign rfl rfl) ?_
  refine AL_nil ?_
  refine AM_ret ?_
  exact rfl
end Go.Proofs.Ytopffmncbeakkaa

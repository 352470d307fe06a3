/- The laws' held functions (printed by walk.py) -/
import Derived.Test.YtcgickpnckedcaaMarkA
import Derived.Test.YtcgickpnckedcaaAbsLaw
import Derived.Test.YtcgickpnckedcaaAbsNil
namespace Go.Proofs.Ytcgickpnckedcaa
open Go.RowKit
set_option linter.unusedVariables false
set_option linter.unusedSimpArgs false
set_option maxRecDepth 100000

theorem mtext_c (q : Int) (h1 : q ≤ 9223372036854775807) : AC Try.prog 109 [.one (.c (.int .i64 q))] [] (.one (.c (.string (markText q)))) [] :=
  AC.pure ⟨_, _, Try.func109, rfl, rfl⟩ (wfText h1) fun w g cargs h => by
    obtain ⟨v, rfl, h0⟩ := inv1 h
    rw [(inv_c h0).1]
    exact markText_any q w h1

set_option maxHeartbeats 4000000 in
theorem heldValueS_c (xs ys : List (Val)) (q : Int) (hy : (markL markValue xs q).1 = ys) (k0 : 0 ≤ q) (k1 : q + cntL cntValue xs ≤ 4611686018427387904) : AC Try.prog 105 [.one (.sl valE ys), .one (.c (.int .i64 q))] [] (.one (.c (.int .i64 (markL markValue xs q).2))) [] := by
  refine AC_body1 Try.func105 rfl rfl Try.ntmps105 rfl Try.results105 ?_
  refine AW_slmax 0 rfl (fun hm0 => ?_)
  refine AW_seq ?_
  refine AW_region ?_
  refine AL_p (x_assign rfl rfl) ?_
  refine AL_nil ?_
  refine AW_seq ?_
  refine AW_seq ?_
  refine AW_region ?_
  refine AL_p (x_assign rfl rfl) ?_
  refine AL_nil ?_
  refine AW_block ?_
  refine AW_loop2 (ι := {q : Nat // q ≤ xs.length}) (fun p => [(1, .one (.c (.int .i64 (markK markValue xs q (p.1))))), (5, .one (.c (.int .i64 ((p.1) : Int))))]) (fun p => []) [0] [] (fun p => xs.length - (p.1)) ⟨0, by omega⟩ (rn []) ?_ ?_
  exact ⟨by (repeat refine ⟨⟨_, rfl, by first | exact VLe.rf | exact vle_int (by dsimp only; omega) | exact vle_int (markK_zero _ _ _).symm | exact vle_int (by rw [hks]; rfl)⟩, ?_⟩); exact trivial, by (repeat refine ⟨⟨_, rfl, by first | exact BLe.rf | exact BLe.box AllC.rf | exact BLe.arr (by exact rfl)⟩, ?_⟩); exact trivial, by repeat (first | exact trivial | refine ⟨⟨rfl, by first | (left; intro h; cases h) | (right; rfl), fun _ h => ⟨_, h⟩⟩, ?_⟩), rfl⟩
  rintro ⟨k, hinv⟩
  dsimp only
  have hl : ys.length = xs.length := by rw [← hy, markL_len]
  refine AW_seq ?_
  refine AW_seq ?_
  refine AW_region ?_
  refine AL_p (x_move rfl rfl) ?_
  refine AL_p (x_move rfl rfl) ?_
  refine AL_p (x_len (E := 37) (n := 2) rfl rfl (by kernel_rfl)) ?_
  refine AL_b (x_lss rfl rfl rfl) (fun b9 h9 => ?_)
  refine AL_nil ?_
  cases b9
  rotate_left
  · try simp only [decide_eq_true_eq, decide_eq_false_iff_not, Bool.not_eq_true, Bool.not_eq_false, Bool.not_eq_true', Bool.not_eq_false', beq_iff_eq, bne_iff_ne, beq_eq_false_iff_ne, bne_eq_false_iff_eq, Int.not_lt, Int.not_le, ge_iff_le, gt_iff_lt] at h9
    have hlt : k < xs.length := by omega
    have hat := markL_at' markValue hy hlt
    obtain ⟨q0, q1⟩ := markK_bound markValue markValue_cnt k0 k1 hlt
    have hks := markK_succ markValue (k := q) hlt
    generalize markK markValue xs q k = r at *
    simp only [cntValue] at q1
    refine AW_condT rfl ?_
    refine AW_skip ?_
    refine AW_seq ?_
    refine AW_block ?_
    refine AW_seq ?_
    refine AW_seq ?_
    refine AW_region ?_
    refine AL_p (x_move rfl rfl) ?_
    refine AL_p (x_move rfl rfl) ?_
    refine AL_p (x_index (E := 37) (n := 2) rfl rfl rfl (by kernel_rfl) rfl (k := k) (by omega) (by omega)) ?_
    refine AL_p (x_efield (off := 0) (o' := 0) rfl rfl (by kernel_rfl) rfl) ?_
    refine AL_p (x_eload1 rfl rfl (by kernel_rfl) rfl) ?_
    refine AL_p (x_move rfl rfl) ?_
    refine AL_b (x_neq rfl rfl rfl) (fun b18 h18 => ?_)
    refine AL_nil ?_
    cases b18
    rotate_left
    · exfalso; rw [hat] at h18; simp [markValue, ba_beq_self] at h18
    · try simp only [decide_eq_true_eq, decide_eq_false_iff_not, Bool.not_eq_true, Bool.not_eq_false, Bool.not_eq_true', Bool.not_eq_false', beq_iff_eq, bne_iff_ne, beq_eq_false_iff_ne, bne_eq_false_iff_eq, Int.not_lt, Int.not_le, ge_iff_le, gt_iff_lt] at h18
      refine AW_condF rfl ?_
      refine AW_skip ?_
      refine AW_seq ?_
      refine AW_region ?_
      refine AL_p (x_move rfl rfl) ?_
      refine AL_p (x_add rfl rfl rfl (IntWalk.i64_in _ (by omega))) ?_
      refine AL_p (x_assign rfl rfl) ?_
      refine AL_nil ?_
      refine AW_seq ?_
      refine AW_seq ?_
      refine AW_draw rfl ?_
      refine AL_p (x_move rfl rfl) ?_
      refine AL_p (x_move rfl rfl) ?_
      refine AL_p (x_index (E := 37) (n := 2) rfl rfl rfl (by kernel_rfl) rfl (k := k) (by omega) (by omega)) ?_
      refine AL_p (x_efield (off := 1) (o' := 1) rfl rfl (by kernel_rfl) rfl) ?_
      refine AL_p (x_eload1 rfl rfl (by kernel_rfl) rfl) ?_
      refine AL_p (x_move rfl rfl) ?_
      refine AL_p (x_call0 rfl rfl rfl (mtext_c _ (by omega)) rfl rfl) ?_
      refine AL_b (x_sneq rfl rfl rfl) (fun b28 h28 => ?_)
      refine AL_nild (by kernel_rfl) ?_
      cases b28
      rotate_left
      · exfalso; rw [hat] at h28; simp [markValue, ba_beq_self] at h28
      · try simp only [decide_eq_true_eq, decide_eq_false_iff_not, Bool.not_eq_true, Bool.not_eq_false, Bool.not_eq_true', Bool.not_eq_false', beq_iff_eq, bne_iff_ne, beq_eq_false_iff_ne, bne_eq_false_iff_eq, Int.not_lt, Int.not_le, ge_iff_le, gt_iff_lt] at h28
        refine AW_condF rfl ?_
        refine AW_skip ?_
        refine AW_region ?_
        refine AL_p (x_move rfl rfl) ?_
        refine AL_p (x_add rfl rfl rfl (IntWalk.i64_in _ (by omega))) ?_
        refine AL_p (x_assign rfl rfl) ?_
        refine AL_nil ?_
        refine AW_region ?_
        refine AL_p (x_move rfl rfl) ?_
        refine AL_p (x_add rfl rfl rfl (IntWalk.i64_in _ (by omega))) ?_
        refine AL_p (x_assign rfl rfl) ?_
        refine AL_nil ?_
        refine ⟨⟨k + 1, by omega⟩, rn [], ?_, by dsimp only; omega⟩
        exact ⟨by (repeat refine ⟨⟨_, rfl, by first | exact VLe.rf | exact vle_int (by dsimp only; omega) | exact vle_int (markK_zero _ _ _).symm | exact vle_int (by rw [hks]; rfl)⟩, ?_⟩); exact trivial, by (repeat refine ⟨⟨_, rfl, by first | exact BLe.rf | exact BLe.box AllC.rf | exact BLe.arr (by exact rfl)⟩, ?_⟩); exact trivial, by repeat (first | exact trivial | refine ⟨⟨rfl, by first | (left; intro h; cases h) | (right; rfl), fun _ h => ⟨_, h⟩⟩, ?_⟩), rfl⟩
  · try simp only [decide_eq_true_eq, decide_eq_false_iff_not, Bool.not_eq_true, Bool.not_eq_false, Bool.not_eq_true', Bool.not_eq_false', beq_iff_eq, bne_iff_ne, beq_eq_false_iff_ne, bne_eq_false_iff_eq, Int.not_lt, Int.not_le, ge_iff_le, gt_iff_lt] at h9
    refine AW_condF rfl ?_
    refine AW_exit (BQ_hit ?_)
    refine AW_seq ?_
    refine AW_region ?_
    refine AL_p (x_move rfl rfl) ?_
    refine AL_p (x_assign rfl rfl) ?_
    refine AL_nil ?_
    refine AW_ret ?_
    obtain rfl : k = xs.length := by omega
    exact ⟨rn [], ⟨⟨⟨_, rfl, vle_int (markK_done _ _ _)⟩, trivial⟩, trivial, trivial, rfl⟩⟩

set_option maxHeartbeats 4000000 in
theorem heldRowS_c (xs ys : List (List Val)) (q : Int) (hy : (markL markRow xs q).1 = ys) (k0 : 0 ≤ q) (k1 : q + cntL cntRow xs ≤ 4611686018427387904) : AC Try.prog 67 [.one (.sl rowE ys), .one (.c (.int .i64 q))] [] (.one (.c (.int .i64 (markL markRow xs q).2))) [] := by
  refine AC_body1 Try.func67 rfl rfl Try.ntmps67 rfl Try.results67 ?_
  refine AW_slmax 0 rfl (fun hm0 => ?_)
  refine AW_seq ?_
  refine AW_region ?_
  refine AL_p (x_assign rfl rfl) ?_
  refine AL_nil ?_
  refine AW_seq ?_
  refine AW_seq ?_
  refine AW_region ?_
  refine AL_p (x_assign rfl rfl) ?_
  refine AL_nil ?_
  refine AW_block ?_
  refine AW_loop2 (ι := {q : Nat // q ≤ xs.length}) (fun p => [(1, .one (.c (.int .i64 (markK markRow xs q (p.1))))), (5, .one (.c (.int .i64 ((p.1) : Int))))]) (fun p => []) [0] [] (fun p => xs.length - (p.1)) ⟨0, by omega⟩ (rn []) ?_ ?_
  exact ⟨by (repeat refine ⟨⟨_, rfl, by first | exact VLe.rf | exact vle_int (by dsimp only; omega) | exact vle_int (markK_zero _ _ _).symm | exact vle_int (by rw [hks]; rfl)⟩, ?_⟩); exact trivial, by (repeat refine ⟨⟨_, rfl, by first | exact BLe.rf | exact BLe.box AllC.rf | exact BLe.arr (by exact rfl)⟩, ?_⟩); exact trivial, by repeat (first | exact trivial | refine ⟨⟨rfl, by first | (left; intro h; cases h) | (right; rfl), fun _ h => ⟨_, h⟩⟩, ?_⟩), rfl⟩
  rintro ⟨k, hinv⟩
  dsimp only
  have hl : ys.length = xs.length := by rw [← hy, markL_len]
  refine AW_seq ?_
  refine AW_seq ?_
  refine AW_region ?_
  refine AL_p (x_move rfl rfl) ?_
  refine AL_p (x_move rfl rfl) ?_
  refine AL_p (x_len (E := 50) (n := 1) rfl rfl (by kernel_rfl)) ?_
  refine AL_b (x_lss rfl rfl rfl) (fun b9 h9 => ?_)
  refine AL_nil ?_
  cases b9
  rotate_left
  · try simp only [decide_eq_true_eq, decide_eq_false_iff_not, Bool.not_eq_true, Bool.not_eq_false, Bool.not_eq_true', Bool.not_eq_false', beq_iff_eq, bne_iff_ne, beq_eq_false_iff_ne, bne_eq_false_iff_eq, Int.not_lt, Int.not_le, ge_iff_le, gt_iff_lt] at h9
    have hlt : k < xs.length := by omega
    have hat := markL_at' markRow hy hlt
    obtain ⟨q0, q1⟩ := markK_bound markRow markRow_cnt k0 k1 hlt
    have hks := markK_succ markRow (k := q) hlt
    generalize markK markRow xs q k = r at *
    simp only [cntRow] at q1
    refine AW_condT rfl ?_
    refine AW_skip ?_
    refine AW_seq ?_
    refine AW_block ?_
    refine AW_seq ?_
    refine AW_region ?_
    refine AL_p (x_move rfl rfl) ?_
    refine AL_p (x_move rfl rfl) ?_
    refine AL_p (x_index (E := 50) (n := 1) rfl rfl rfl (by kernel_rfl) rfl (k := k) (by omega) (by omega)) ?_
    refine AL_p (x_efield (off := 0) (o' := 0) rfl rfl (by kernel_rfl) rfl) ?_
    refine AL_p (x_eload1 rfl rfl (by kernel_rfl) rfl) ?_
    refine AL_p (x_move rfl rfl) ?_
    refine AL_p (x_call0 rfl rfl rfl (heldValueS_c (xs[k]'hlt) _ _ (by rw [hat]; rfl) (by omega) (by omega)) rfl rfl) ?_
    refine AL_p (x_assign rfl rfl) ?_
    refine AL_nil ?_
    refine AW_seq ?_
    refine AW_region ?_
    refine AL_p (x_move rfl rfl) ?_
    refine AL_b (x_lss rfl rfl rfl) (fun b20 h20 => ?_)
    refine AL_nil ?_
    cases b20
    rotate_left
    · exfalso; have v := markL_cnt markValue markValue_cnt (xs[k]'hlt) (r); simp at h20; omega
    · try simp only [decide_eq_true_eq, decide_eq_false_iff_not, Bool.not_eq_true, Bool.not_eq_false, Bool.not_eq_true', Bool.not_eq_false', beq_iff_eq, bne_iff_ne, beq_eq_false_iff_ne, bne_eq_false_iff_eq, Int.not_lt, Int.not_le, ge_iff_le, gt_iff_lt] at h20
      have v0 := markL_cnt markValue markValue_cnt (xs[k]'hlt) (r)
      have y0 : 0 ≤ (markL markValue (xs[k]'hlt) (r)).2 := by omega
      have z0 : (markL markValue (xs[k]'hlt) (r)).2 + ((0 : Nat) : Int) ≤ 4611686018427387904 := by omega
      clear v0
      refine AW_condF rfl ?_
      refine AW_skip ?_
      refine AW_region ?_
      refine AL_p (x_move rfl rfl) ?_
      refine AL_p (x_add rfl rfl rfl (IntWalk.i64_in _ (by omega))) ?_
      refine AL_p (x_assign rfl rfl) ?_
      refine AL_nil ?_
      refine ⟨⟨k + 1, by omega⟩, rn [], ?_, by dsimp only; omega⟩
      exact ⟨by (repeat refine ⟨⟨_, rfl, by first | exact VLe.rf | exact vle_int (by dsimp only; omega) | exact vle_int (markK_zero _ _ _).symm | exact vle_int (by rw [hks]; rfl)⟩, ?_⟩); exact trivial, by (repeat refine ⟨⟨_, rfl, by first | exact BLe.rf | exact BLe.box AllC.rf | exact BLe.arr (by exact rfl)⟩, ?_⟩); exact trivial, by repeat (first | exact trivial | refine ⟨⟨rfl, by first | (left; intro h; cases h) | (right; rfl), fun _ h => ⟨_, h⟩⟩, ?_⟩), rfl⟩
  · try simp only [decide_eq_true_eq, decide_eq_false_iff_not, Bool.not_eq_true, Bool.not_eq_false, Bool.not_eq_true', Bool.not_eq_false', beq_iff_eq, bne_iff_ne, beq_eq_false_iff_ne, bne_eq_false_iff_eq, Int.not_lt, Int.not_le, ge_iff_le, gt_iff_lt] at h9
    refine AW_condF rfl ?_
    refine AW_exit (BQ_hit ?_)
    refine AW_seq ?_
    refine AW_region ?_
    refine AL_p (x_move rfl rfl) ?_
    refine AL_p (x_assign rfl rfl) ?_
    refine AL_nil ?_
    refine AW_ret ?_
    obtain rfl : k = xs.length := by omega
    exact ⟨rn [], ⟨⟨⟨_, rfl, vle_int (markK_done _ _ _)⟩, trivial⟩, trivial, trivial, rfl⟩⟩


set_option maxHeartbeats 4000000 in
theorem heldDRel_c (x : Relt) (q : Int) (k0 : 0 ≤ q) (k1 : q + cntDRel x ≤ 4611686018427387904) : AC Try.prog 25 [.agg [.c (.int .i64 x.arity), .sl rowE (markL markRow x.rows (q)).1], .one (.c (.int .i64 q))] [] (.one (.c (.int .i64 (markDRel x q).2))) [] := by
  simp only [cntDRel] at k1
  refine AC_body1 Try.func25 rfl rfl Try.ntmps25 rfl Try.results25 ?_
  refine AW_seq ?_
  refine AW_region ?_
  refine AL_p (x_box 100 rfl rfl rfl rfl rfl rfl rfl) ?_
  refine AL_p (x_assign rfl rfl) ?_
  refine AL_nil ?_
  refine AW_seq ?_
  refine AW_region ?_
  refine AL_p (x_field (off := 1) (o' := 1) rfl rfl rfl (by kernel_rfl) rfl) ?_
  refine AL_p (x_load1 rfl rfl rfl (by kernel_rfl) rfl) ?_
  refine AL_p (x_move rfl rfl) ?_
  refine AL_p (x_call0 rfl rfl rfl (heldRowS_c x.rows _ _ rfl (by omega) (by omega)) rfl rfl) ?_
  refine AL_p (x_assign rfl rfl) ?_
  refine AL_nil ?_
  refine AW_seq ?_
  refine AW_seq ?_
  refine AW_region ?_
  refine AL_p (x_move rfl rfl) ?_
  refine AL_b (x_lss rfl rfl rfl) (fun b10 h10 => ?_)
  refine AL_nil ?_
  cases b10
  rotate_left
  · exfalso; have v0 := markL_cnt markRow markRow_cnt x.rows (q); simp at h10; omega
  · try simp only [decide_eq_true_eq, decide_eq_false_iff_not, Bool.not_eq_true, Bool.not_eq_false, Bool.not_eq_true', Bool.not_eq_false', beq_iff_eq, bne_iff_ne, beq_eq_false_iff_ne, bne_eq_false_iff_eq, Int.not_lt, Int.not_le, ge_iff_le, gt_iff_lt] at h10
    have v0 := markL_cnt markRow markRow_cnt x.rows (q)
    have y0 : 0 ≤ (markL markRow x.rows (q)).2 := by omega
    have z0 : (markL markRow x.rows (q)).2 + ((0 : Nat) : Int) ≤ 4611686018427387904 := by omega
    clear v0
    refine AW_condF rfl ?_
    refine AW_skip ?_
    refine AW_seq ?_
    refine AW_region ?_
    refine AL_p (x_move rfl rfl) ?_
    refine AL_p (x_assign rfl rfl) ?_
    refine AL_nil ?_
    refine AW_ret ?_
    exact ⟨rn [], ⟨⟨⟨_, rfl, vle_int (rfl)⟩, trivial⟩, trivial, trivial, rfl⟩⟩
end Go.Proofs.Ytcgickpnckedcaa

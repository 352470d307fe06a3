/- Lemmas of the walks, part 3. -/
import Derived.Test.YtibhoanjglfaoaaR2
import Derived.Lib.AppendStr
import Derived.Lib.ConvBytes
import Derived.Lib.BufferRead
import Derived.Laws.CopyRow
import Derived.Laws.Small
/- The laws' held functions (printed by walk.py) -/
namespace Go.Proofs.Ytibhoanjglfaoaa
open Go.RowKit
set_option linter.unusedVariables false
set_option linter.unusedSimpArgs false
set_option maxRecDepth 100000

theorem mtext_c (q : Int) (h1 : q ≤ 9223372036854775807) : AC Try.prog 99 [.one (.c (.int .i64 q))] [] (.one (.c (.string (markText q)))) [] :=
  AC.pure ⟨_, _, Try.func99, rfl, rfl⟩ (wfText h1) fun w g cargs h => by
    obtain ⟨v, rfl, h0⟩ := inv1 h
    rw [(inv_c h0).1]
    exact markText_any q w h1

set_option maxHeartbeats 4000000 in
theorem heldValueS_c (xs ys : List (Val)) (q : Int) (hy : (markL markValue xs q).1 = ys) (k0 : 0 ≤ q) (k1 : q + cntL cntValue xs ≤ 4611686018427387904) : AC Try.prog 101 [.one (.sl valE ys), .one (.c (.int .i64 q))] [] (.one (.c (.int .i64 (markL markValue xs q).2))) [] := by
  refine AC_body1 Try.func101 rfl rfl Try.ntmps101 rfl Try.results101 ?_
  refine AW_slmax 0 rfl (fun hm0 => ?_)
  refine AW_seq ?_
  refine AW_region ?_
  refine AL_p (x_assign rfl rfl) ?_
  refine AL_nil ?_
  refine AW_seq ?_
  refine AW_seq ?_
  refine AW_region ?_
  refine AL_p (x_assign rfl rfl) ?_
  refine AL_nil ?_
  refine AW_block ?_
  refine AW_loop2 (ι := {q : Nat // q ≤ xs.length}) (fun p => [(1, .one (.c (.int .i64 (markK markValue xs q (p.1))))), (5, .one (.c (.int .i64 ((p.1) : Int))))]) (fun p => []) [0] [] (fun p => xs.length - (p.1)) ⟨0, by omega⟩ (rn []) ?_ ?_
  exact ⟨by (repeat refine ⟨⟨_, rfl, by first | exact VLe.rf | exact vle_int (by dsimp only; omega) | exact vle_int (markK_zero _ _ _).symm | exact vle_int (by rw [hks]; rfl)⟩, ?_⟩); exact trivial, by (repeat refine ⟨⟨_, rfl, by first | exact BLe.rf | exact BLe.box AllC.rf | exact BLe.arr (by exact rfl)⟩, ?_⟩); exact trivial, by repeat (first | exact trivial | refine ⟨⟨rfl, by first | (left; intro h; cases h) | (right; rfl), fun _ h => ⟨_, h⟩⟩, ?_⟩), rfl⟩
  rintro ⟨k, hinv⟩
  dsimp only
  have hl : ys.length = xs.length := by rw [← hy, markL_len]
  refine AW_seq ?_
  refine AW_seq ?_
  refine AW_region ?_
  refine AL_p (x_move rfl rfl) ?_
  refine AL_p (x_move rfl rfl) ?_
  refine AL_p (x_len (E := 94) (n := 2) rfl rfl (by kernel_rfl)) ?_
  refine AL_b (x_lss rfl rfl rfl) (fun b9 h9 => ?_)
  refine AL_nil ?_
  cases b9
  rotate_left
  · try simp only [decide_eq_true_eq, decide_eq_false_iff_not, Bool.not_eq_true, Bool.not_eq_false, Bool.not_eq_true', Bool.not_eq_false', beq_iff_eq, bne_iff_ne, beq_eq_false_iff_ne, bne_eq_false_iff_eq, Int.not_lt, Int.not_le, ge_iff_le, gt_iff_lt] at h9
    have hlt : k < xs.length := by omega
    have hat := markL_at' markValue hy hlt
    obtain ⟨q0, q1⟩ := markK_bound markValue markValue_cnt k0 k1 hlt
    have hks := markK_succ markValue (k := q) hlt
    generalize markK markValue xs q k = r at *
    simp only [cntValue] at q1
    refine AW_condT rfl ?_
    refine AW_skip ?_
    refine AW_seq ?_
    refine AW_block ?_
    refine AW_seq ?_
    refine AW_seq ?_
    refine AW_region ?_
    refine AL_p (x_move rfl rfl) ?_
    refine AL_p (x_move rfl rfl) ?_
    refine AL_p (x_index (E := 94) (n := 2) rfl rfl rfl (by kernel_rfl) rfl (k := k) (by omega) (by omega)) ?_
    refine AL_p (x_efield (off := 0) (o' := 0) rfl rfl (by kernel_rfl) rfl) ?_
    refine AL_p (x_eload1 rfl rfl (by kernel_rfl) rfl) ?_
    refine AL_p (x_move rfl rfl) ?_
    refine AL_b (x_neq rfl rfl rfl) (fun b18 h18 => ?_)
    refine AL_nil ?_
    cases b18
    rotate_left
    · exfalso; rw [hat] at h18; simp [markValue, ba_beq_self] at h18
    · try simp only [decide_eq_true_eq, decide_eq_false_iff_not, Bool.not_eq_true, Bool.not_eq_false, Bool.not_eq_true', Bool.not_eq_false', beq_iff_eq, bne_iff_ne, beq_eq_false_iff_ne, bne_eq_false_iff_eq, Int.not_lt, Int.not_le, ge_iff_le, gt_iff_lt] at h18
      refine AW_condF rfl ?_
      refine AW_skip ?_
      refine AW_seq ?_
      refine AW_region ?_
      refine AL_p (x_move rfl rfl) ?_
      refine AL_p (x_add rfl rfl rfl (IntWalk.i64_in _ (by omega))) ?_
      refine AL_p (x_assign rfl rfl) ?_
      refine AL_nil ?_
      refine AW_seq ?_
      refine AW_seq ?_
      refine AW_draw rfl ?_
      refine AL_p (x_move rfl rfl) ?_
      refine AL_p (x_move rfl rfl) ?_
      refine AL_p (x_index (E := 94) (n := 2) rfl rfl rfl (by kernel_rfl) rfl (k := k) (by omega) (by omega)) ?_
      refine AL_p (x_efield (off := 1) (o' := 1) rfl rfl (by kernel_rfl) rfl) ?_
      refine AL_p (x_eload1 rfl rfl (by kernel_rfl) rfl) ?_
      refine AL_p (x_move rfl rfl) ?_
      refine AL_p (x_call0 rfl rfl rfl (mtext_c _ (by omega)) rfl rfl) ?_
      refine AL_b (x_sneq rfl rfl rfl) (fun b28 h28 => ?_)
      refine AL_nild (by kernel_rfl) ?_
      cases b28
      rotate_left
      · exfalso; rw [hat] at h28; simp [markValue, ba_beq_self] at h28
      · try simp only [decide_eq_true_eq, decide_eq_false_iff_not, Bool.not_eq_true, Bool.not_eq_false, Bool.not_eq_true', Bool.not_eq_false', beq_iff_eq, bne_iff_ne, beq_eq_false_iff_ne, bne_eq_false_iff_eq, Int.not_lt, Int.not_le, ge_iff_le, gt_iff_lt] at h28
        refine AW_condF rfl ?_
        refine AW_skip ?_
        refine AW_region ?_
        refine AL_p (x_move rfl rfl) ?_
        refine AL_p (x_add rfl rfl rfl (IntWalk.i64_in _ (by omega))) ?_
        refine AL_p (x_assign rfl rfl) ?_
        refine AL_nil ?_
        refine AW_region ?_
        refine AL_p (x_move rfl rfl) ?_
        refine AL_p (x_add rfl rfl rfl (IntWalk.i64_in _ (by omega))) ?_
        refine AL_p (x_assign rfl rfl) ?_
        refine AL_nil ?_
        refine ⟨⟨k + 1, by omega⟩, rn [], ?_, by dsimp only; omega⟩
        exact ⟨by (repeat refine ⟨⟨_, rfl, by first | exact VLe.rf | exact vle_int (by dsimp only; omega) | exact vle_int (markK_zero _ _ _).symm | exact vle_int (by rw [hks]; rfl)⟩, ?_⟩); exact trivial, by (repeat refine ⟨⟨_, rfl, by first | exact BLe.rf | exact BLe.box AllC.rf | exact BLe.arr (by exact rfl)⟩, ?_⟩); exact trivial, by repeat (first | exact trivial | refine ⟨⟨rfl, by first | (left; intro h; cases h) | (right; rfl), fun _ h => ⟨_, h⟩⟩, ?_⟩), rfl⟩
  · try simp only [decide_eq_true_eq, decide_eq_false_iff_not, Bool.not_eq_true, Bool.not_eq_false, Bool.not_eq_true', Bool.not_eq_false', beq_iff_eq, bne_iff_ne, beq_eq_false_iff_ne, bne_eq_false_iff_eq, Int.not_lt, Int.not_le, ge_iff_le, gt_iff_lt] at h9
    refine AW_condF rfl ?_
    refine AW_exit (BQ_hit ?_)
    refine AW_seq ?_
    refine AW_region ?_
    refine AL_p (x_move rfl rfl) ?_
    refine AL_p (x_assign rfl rfl) ?_
    refine AL_nil ?_
    refine AW_ret ?_
    obtain rfl : k = xs.length := by omega
    exact ⟨rn [], ⟨⟨⟨_, rfl, vle_int (markK_done _ _ _)⟩, trivial⟩, trivial, trivial, rfl⟩⟩

set_option maxHeartbeats 4000000 in
theorem heldRowS_c (xs ys : List (List Val)) (q : Int) (hy : (markL markRow xs q).1 = ys) (k0 : 0 ≤ q) (k1 : q + cntL cntRow xs ≤ 4611686018427387904) : AC Try.prog 56 [.one (.sl rowE ys), .one (.c (.int .i64 q))] [] (.one (.c (.int .i64 (markL markRow xs q).2))) [] := by
  refine AC_body1 Try.func56 rfl rfl Try.ntmps56 rfl Try.results56 ?_
  refine AW_slmax 0 rfl (fun hm0 => ?_)
  refine AW_seq ?_
  refine AW_region ?_
  refine AL_p (x_assign rfl rfl) ?_
  refine AL_nil ?_
  refine AW_seq ?_
  refine AW_seq ?_
  refine AW_region ?_
  refine AL_p (x_assign rfl rfl) ?_
  refine AL_nil ?_
  refine AW_block ?_
  refine AW_loop2 (ι := {q : Nat // q ≤ xs.length}) (fun p => [(1, .one (.c (.int .i64 (markK markRow xs q (p.1))))), (5, .one (.c (.int .i64 ((p.1) : Int))))]) (fun p => []) [0] [] (fun p => xs.length - (p.1)) ⟨0, by omega⟩ (rn []) ?_ ?_
  exact ⟨by (repeat refine ⟨⟨_, rfl, by first | exact VLe.rf | exact vle_int (by dsimp only; omega) | exact vle_int (markK_zero _ _ _).symm | exact vle_int (by rw [hks]; rfl)⟩, ?_⟩); exact trivial, by (repeat refine ⟨⟨_, rfl, by first | exact BLe.rf | exact BLe.box AllC.rf | exact BLe.arr (by exact rfl)⟩, ?_⟩); exact trivial, by repeat (first | exact trivial | refine ⟨⟨rfl, by first | (left; intro h; cases h) | (right; rfl), fun _ h => ⟨_, h⟩⟩, ?_⟩), rfl⟩
  rintro ⟨k, hinv⟩
  dsimp only
  have hl : ys.length = xs.length := by rw [← hy, markL_len]
  refine AW_seq ?_
  refine AW_seq ?_
  refine AW_region ?_
  refine AL_p (x_move rfl rfl) ?_
  refine AL_p (x_move rfl rfl) ?_
  refine AL_p (x_len (E := 92) (n := 1) rfl rfl (by kernel_rfl)) ?_
  refine AL_b (x_lss rfl rfl rfl) (fun b9 h9 => ?_)
  refine AL_nil ?_
  cases b9
  rotate_left
  · try simp only [decide_eq_true_eq, decide_eq_false_iff_not, Bool.not_eq_true, Bool.not_eq_false, Bool.not_eq_true', Bool.not_eq_false', beq_iff_eq, bne_iff_ne, beq_eq_false_iff_ne, bne_eq_false_iff_eq, Int.not_lt, Int.not_le, ge_iff_le, gt_iff_lt] at h9
    have hlt : k < xs.length := by omega
    have hat := markL_at' markRow hy hlt
    obtain ⟨q0, q1⟩ := markK_bound markRow markRow_cnt k0 k1 hlt
    have hks := markK_succ markRow (k := q) hlt
    generalize markK markRow xs q k = r at *
    simp only [cntRow] at q1
    refine AW_condT rfl ?_
    refine AW_skip ?_
    refine AW_seq ?_
    refine AW_block ?_
    refine AW_seq ?_
    refine AW_region ?_
    refine AL_p (x_move rfl rfl) ?_
    refine AL_p (x_move rfl rfl) ?_
    refine AL_p (x_index (E := 92) (n := 1) rfl rfl rfl (by kernel_rfl) rfl (k := k) (by omega) (by omega)) ?_
    refine AL_p (x_efield (off := 0) (o' := 0) rfl rfl (by kernel_rfl) rfl) ?_
    refine AL_p (x_eload1 rfl rfl (by kernel_rfl) rfl) ?_
    refine AL_p (x_move rfl rfl) ?_
    refine AL_p (x_call0 rfl rfl rfl (heldValueS_c (xs[k]'hlt) _ _ (by rw [hat]; rfl) (by omega) (by omega)) rfl rfl) ?_
    refine AL_p (x_assign rfl rfl) ?_
    refine AL_nil ?_
    refine AW_seq ?_
    refine AW_region ?_
    refine AL_p (x_move rfl rfl) ?_
    refine AL_b (x_lss rfl rfl rfl) (fun b20 h20 => ?_)
    refine AL_nil ?_
    cases b20
    rotate_left
    · exfalso; have v := markL_cnt markValue markValue_cnt (xs[k]'hlt) (r); simp at h20; omega
    · try simp only [decide_eq_true_eq, decide_eq_false_iff_not, Bool.not_eq_true, Bool.not_eq_false, Bool.not_eq_true', Bool.not_eq_false', beq_iff_eq, bne_iff_ne, beq_eq_false_iff_ne, bne_eq_false_iff_eq, Int.not_lt, Int.not_le, ge_iff_le, gt_iff_lt] at h20
      have v0 := markL_cnt markValue markValue_cnt (xs[k]'hlt) (r)
      have y0 : 0 ≤ (markL markValue (xs[k]'hlt) (r)).2 := by omega
      have z0 : (markL markValue (xs[k]'hlt) (r)).2 + ((0 : Nat) : Int) ≤ 4611686018427387904 := by omega
      clear v0
      refine AW_condF rfl ?_
      refine AW_skip ?_
      refine AW_region ?_
      refine AL_p (x_move rfl rfl) ?_
      refine AL_p (x_add rfl rfl rfl (IntWalk.i64_in _ (by omega))) ?_
      refine AL_p (x_assign rfl rfl) ?_
      refine AL_nil ?_
      refine ⟨⟨k + 1, by omega⟩, rn [], ?_, by dsimp only; omega⟩
      exact ⟨by (repeat refine ⟨⟨_, rfl, by first | exact VLe.rf | exact vle_int (by dsimp only; omega) | exact vle_int (markK_zero _ _ _).symm | exact vle_int (by rw [hks]; rfl)⟩, ?_⟩); exact trivial, by (repeat refine ⟨⟨_, rfl, by first | exact BLe.rf | exact BLe.box AllC.rf | exact BLe.arr (by exact rfl)⟩, ?_⟩); exact trivial, by repeat (first | exact trivial | refine ⟨⟨rfl, by first | (left; intro h; cases h) | (right; rfl), fun _ h => ⟨_, h⟩⟩, ?_⟩), rfl⟩
  · try simp only [decide_eq_true_eq, decide_eq_false_iff_not, Bool.not_eq_true, Bool.not_eq_false, Bool.not_eq_true', Bool.not_eq_false', beq_iff_eq, bne_iff_ne, beq_eq_false_iff_ne, bne_eq_false_iff_eq, Int.not_lt, Int.not_le, ge_iff_le, gt_iff_lt] at h9
    refine AW_condF rfl ?_
    refine AW_exit (BQ_hit ?_)
    refine AW_seq ?_
    refine AW_region ?_
    refine AL_p (x_move rfl rfl) ?_
    refine AL_p (x_assign rfl rfl) ?_
    refine AL_nil ?_
    refine AW_ret ?_
    obtain rfl : k = xs.length := by omega
    exact ⟨rn [], ⟨⟨⟨_, rfl, vle_int (markK_done _ _ _)⟩, trivial⟩, trivial, trivial, rfl⟩⟩

set_option maxHeartbeats 4000000 in
theorem heldNamedS_c (xs ys : List (Namedt)) (q : Int) (hy : (markL markNamed xs q).1 = ys) (k0 : 0 ≤ q) (k1 : q + cntL cntNamed xs ≤ 4611686018427387904) : AC Try.prog 66 [.one (.sl namedE ys), .one (.c (.int .i64 q))] [] (.one (.c (.int .i64 (markL markNamed xs q).2))) [] := by
  refine AC_body1 Try.func66 rfl rfl Try.ntmps66 rfl Try.results66 ?_
  refine AW_slmax 0 rfl (fun hm0 => ?_)
  refine AW_seq ?_
  refine AW_region ?_
  refine AL_p (x_assign rfl rfl) ?_
  refine AL_nil ?_
  refine AW_seq ?_
  refine AW_seq ?_
  refine AW_region ?_
  refine AL_p (x_assign rfl rfl) ?_
  refine AL_nil ?_
  refine AW_block ?_
  refine AW_loop2 (ι := {q : Nat // q ≤ xs.length}) (fun p => [(1, .one (.c (.int .i64 (markK markNamed xs q (p.1))))), (5, .one (.c (.int .i64 ((p.1) : Int))))]) (fun p => []) [0] [] (fun p => xs.length - (p.1)) ⟨0, by omega⟩ (rn []) ?_ ?_
  exact ⟨by (repeat refine ⟨⟨_, rfl, by first | exact VLe.rf | exact vle_int (by dsimp only; omega) | exact vle_int (markK_zero _ _ _).symm | exact vle_int (by rw [hks]; rfl)⟩, ?_⟩); exact trivial, by (repeat refine ⟨⟨_, rfl, by first | exact BLe.rf | exact BLe.box AllC.rf | exact BLe.arr (by exact rfl)⟩, ?_⟩); exact trivial, by repeat (first | exact trivial | refine ⟨⟨rfl, by first | (left; intro h; cases h) | (right; rfl), fun _ h => ⟨_, h⟩⟩, ?_⟩), rfl⟩
  rintro ⟨k, hinv⟩
  dsimp only
  have hl : ys.length = xs.length := by rw [← hy, markL_len]
  refine AW_seq ?_
  refine AW_seq ?_
  refine AW_region ?_
  refine AL_p (x_move rfl rfl) ?_
  refine AL_p (x_move rfl rfl) ?_
  refine AL_p (x_len (E := 89) (n := 3) rfl rfl (by kernel_rfl)) ?_
  refine AL_b (x_lss rfl rfl rfl) (fun b9 h9 => ?_)
  refine AL_nil ?_
  cases b9
  rotate_left
  · try simp only [decide_eq_true_eq, decide_eq_false_iff_not, Bool.not_eq_true, Bool.not_eq_false, Bool.not_eq_true', Bool.not_eq_false', beq_iff_eq, bne_iff_ne, beq_eq_false_iff_ne, bne_eq_false_iff_eq, Int.not_lt, Int.not_le, ge_iff_le, gt_iff_lt] at h9
    have hlt : k < xs.length := by omega
    have hat := markL_at' markNamed hy hlt
    obtain ⟨q0, q1⟩ := markK_bound markNamed markNamed_cnt k0 k1 hlt
    have hks := markK_succ markNamed (k := q) hlt
    generalize markK markNamed xs q k = r at *
    simp only [cntNamed] at q1
    refine AW_condT rfl ?_
    refine AW_skip ?_
    refine AW_seq ?_
    refine AW_block ?_
    refine AW_seq ?_
    refine AW_seq ?_
    refine AW_draw rfl ?_
    refine AL_p (x_move rfl rfl) ?_
    refine AL_p (x_move rfl rfl) ?_
    refine AL_p (x_index (E := 89) (n := 3) rfl rfl rfl (by kernel_rfl) rfl (k := k) (by omega) (by omega)) ?_
    refine AL_p (x_efield (off := 0) (o' := 0) rfl rfl (by kernel_rfl) rfl) ?_
    refine AL_p (x_eload1 rfl rfl (by kernel_rfl) rfl) ?_
    refine AL_p (x_move rfl rfl) ?_
    refine AL_p (x_call0 rfl rfl rfl (mtext_c _ (by omega)) rfl rfl) ?_
    refine AL_b (x_sneq rfl rfl rfl) (fun b19 h19 => ?_)
    refine AL_nild (by kernel_rfl) ?_
    cases b19
    rotate_left
    · exfalso; rw [hat] at h19; simp [markNamed, ba_beq_self] at h19
    · try simp only [decide_eq_true_eq, decide_eq_false_iff_not, Bool.not_eq_true, Bool.not_eq_false, Bool.not_eq_true', Bool.not_eq_false', beq_iff_eq, bne_iff_ne, beq_eq_false_iff_ne, bne_eq_false_iff_eq, Int.not_lt, Int.not_le, ge_iff_le, gt_iff_lt] at h19
      refine AW_condF rfl ?_
      refine AW_skip ?_
      refine AW_seq ?_
      refine AW_region ?_
      refine AL_p (x_move rfl rfl) ?_
      refine AL_p (x_add rfl rfl rfl (IntWalk.i64_in _ (by omega))) ?_
      refine AL_p (x_assign rfl rfl) ?_
      refine AL_nil ?_
      refine AW_seq ?_
      refine AW_seq ?_
      refine AW_region ?_
      refine AL_p (x_move rfl rfl) ?_
      refine AL_p (x_move rfl rfl) ?_
      refine AL_p (x_index (E := 89) (n := 3) rfl rfl rfl (by kernel_rfl) rfl (k := k) (by omega) (by omega)) ?_
      refine AL_p (x_efield (off := 1) (o' := 1) rfl rfl (by kernel_rfl) rfl) ?_
      refine AL_p (x_efield (off := 0) (o' := 1) rfl rfl (by kernel_rfl) rfl) ?_
      refine AL_p (x_eload1 rfl rfl (by kernel_rfl) rfl) ?_
      refine AL_p (x_move rfl rfl) ?_
      refine AL_b (x_neq rfl rfl rfl) (fun b29 h29 => ?_)
      refine AL_nil ?_
      cases b29
      rotate_left
      · exfalso; rw [hat] at h29; simp [markNamed, ba_beq_self] at h29
      · try simp only [decide_eq_true_eq, decide_eq_false_iff_not, Bool.not_eq_true, Bool.not_eq_false, Bool.not_eq_true', Bool.not_eq_false', beq_iff_eq, bne_iff_ne, beq_eq_false_iff_ne, bne_eq_false_iff_eq, Int.not_lt, Int.not_le, ge_iff_le, gt_iff_lt] at h29
        refine AW_condF rfl ?_
        refine AW_skip ?_
        refine AW_seq ?_
        refine AW_region ?_
        refine AL_p (x_move rfl rfl) ?_
        refine AL_p (x_add rfl rfl rfl (IntWalk.i64_in _ (by omega))) ?_
        refine AL_p (x_assign rfl rfl) ?_
        refine AL_nil ?_
        refine AW_seq ?_
        refine AW_region ?_
        refine AL_p (x_move rfl rfl) ?_
        refine AL_p (x_move rfl rfl) ?_
        refine AL_p (x_index (E := 89) (n := 3) rfl rfl rfl (by kernel_rfl) rfl (k := k) (by omega) (by omega)) ?_
        refine AL_p (x_efield (off := 1) (o' := 1) rfl rfl (by kernel_rfl) rfl) ?_
        refine AL_p (x_efield (off := 1) (o' := 2) rfl rfl (by kernel_rfl) rfl) ?_
        refine AL_p (x_eload1 rfl rfl (by kernel_rfl) rfl) ?_
        refine AL_p (x_move rfl rfl) ?_
        refine AL_p (x_call0 rfl rfl rfl (heldRowS_c (xs[k]'hlt).rel.rows _ _ (by rw [hat]; rfl) (by omega) (by omega)) rfl rfl) ?_
        refine AL_p (x_assign rfl rfl) ?_
        refine AL_nil ?_
        refine AW_seq ?_
        refine AW_region ?_
        refine AL_p (x_move rfl rfl) ?_
        refine AL_b (x_lss rfl rfl rfl) (fun b41 h41 => ?_)
        refine AL_nil ?_
        cases b41
        rotate_left
        · exfalso; have v := markL_cnt markRow markRow_cnt (xs[k]'hlt).rel.rows (r + 1 + 1); simp at h41; omega
        · try simp only [decide_eq_true_eq, decide_eq_false_iff_not, Bool.not_eq_true, Bool.not_eq_false, Bool.not_eq_true', Bool.not_eq_false', beq_iff_eq, bne_iff_ne, beq_eq_false_iff_ne, bne_eq_false_iff_eq, Int.not_lt, Int.not_le, ge_iff_le, gt_iff_lt] at h41
          have v2 := markL_cnt markRow markRow_cnt (xs[k]'hlt).rel.rows (r + 1 + 1)
          have y2 : 0 ≤ (markL markRow (xs[k]'hlt).rel.rows (r + 1 + 1)).2 := by omega
          have z2 : (markL markRow (xs[k]'hlt).rel.rows (r + 1 + 1)).2 + ((0 : Nat) : Int) ≤ 4611686018427387904 := by omega
          clear v2
          refine AW_condF rfl ?_
          refine AW_skip ?_
          refine AW_region ?_
          refine AL_p (x_move rfl rfl) ?_
          refine AL_p (x_add rfl rfl rfl (IntWalk.i64_in _ (by omega))) ?_
          refine AL_p (x_assign rfl rfl) ?_
          refine AL_nil ?_
          refine ⟨⟨k + 1, by omega⟩, rn [], ?_, by dsimp only; omega⟩
          exact ⟨by (repeat refine ⟨⟨_, rfl, by first | exact VLe.rf | exact vle_int (by dsimp only; omega) | exact vle_int (markK_zero _ _ _).symm | exact vle_int (by rw [hks]; rfl)⟩, ?_⟩); exact trivial, by (repeat refine ⟨⟨_, rfl, by first | exact BLe.rf | exact BLe.box AllC.rf | exact BLe.arr (by exact rfl)⟩, ?_⟩); exact trivial, by repeat (first | exact trivial | refine ⟨⟨rfl, by first | (left; intro h; cases h) | (right; rfl), fun _ h => ⟨_, h⟩⟩, ?_⟩), rfl⟩
  · try simp only [decide_eq_true_eq, decide_eq_false_iff_not, Bool.not_eq_true, Bool.not_eq_false, Bool.not_eq_true', Bool.not_eq_false', beq_iff_eq, bne_iff_ne, beq_eq_false_iff_ne, bne_eq_false_iff_eq, Int.not_lt, Int.not_le, ge_iff_le, gt_iff_lt] at h9
    refine AW_condF rfl ?_
    refine AW_exit (BQ_hit ?_)
    refine AW_seq ?_
    refine AW_region ?_
    refine AL_p (x_move rfl rfl) ?_
    refine AL_p (x_assign rfl rfl) ?_
    refine AL_nil ?_
    refine AW_ret ?_
    obtain rfl : k = xs.length := by omega
    exact ⟨rn [], ⟨⟨⟨_, rfl, vle_int (markK_done _ _ _)⟩, trivial⟩, trivial, trivial, rfl⟩⟩

set_option maxHeartbeats 4000000 in
theorem heldDStore_c (x : Storet) (q : Int) (k0 : 0 ≤ q) (k1 : q + cntDStore x ≤ 4611686018427387904) : AC Try.prog 23 [.agg [.sl namedE (markL markNamed x.rels (q)).1], .one (.c (.int .i64 q))] [] (.one (.c (.int .i64 (markDStore x q).2))) [] := by
  simp only [cntDStore] at k1
  refine AC_body1 Try.func23 rfl rfl Try.ntmps23 rfl Try.results23 ?_
  refine AW_seq ?_
  refine AW_region ?_
  refine AL_p (x_box 100 rfl rfl rfl rfl rfl rfl rfl) ?_
  refine AL_p (x_assign rfl rfl) ?_
  refine AL_nil ?_
  refine AW_seq ?_
  refine AW_region ?_
  refine AL_p (x_field (off := 0) (o' := 0) rfl rfl rfl (by kernel_rfl) rfl) ?_
  refine AL_p (x_load1 rfl rfl rfl (by kernel_rfl) rfl) ?_
  refine AL_p (x_move rfl rfl) ?_
  refine AL_p (x_call0 rfl rfl rfl (heldNamedS_c x.rels _ _ rfl (by omega) (by omega)) rfl rfl) ?_
  refine AL_p (x_assign rfl rfl) ?_
  refine AL_nil ?_
  refine AW_seq ?_
  refine AW_seq ?_
  refine AW_region ?_
  refine AL_p (x_move rfl rfl) ?_
  refine AL_b (x_lss rfl rfl rfl) (fun b10 h10 => ?_)
  refine AL_nil ?_
  cases b10
  rotate_left
  · exfalso; have v0 := markL_cnt markNamed markNamed_cnt x.rels (q); simp at h10; omega
  · try simp only [decide_eq_true_eq, decide_eq_false_iff_not, Bool.not_eq_true, Bool.not_eq_false, Bool.not_eq_true', Bool.not_eq_false', beq_iff_eq, bne_iff_ne, beq_eq_false_iff_ne, bne_eq_false_iff_eq, Int.not_lt, Int.not_le, ge_iff_le, gt_iff_lt] at h10
    have v0 := markL_cnt markNamed markNamed_cnt x.rels (q)
    have y0 : 0 ≤ (markL markNamed x.rels (q)).2 := by omega
    have z0 : (markL markNamed x.rels (q)).2 + ((0 : Nat) : Int) ≤ 4611686018427387904 := by omega
    clear v0
    refine AW_condF rfl ?_
    refine AW_skip ?_
    refine AW_seq ?_
    refine AW_region ?_
    refine AL_p (x_move rfl rfl) ?_
    refine AL_p (x_assign rfl rfl) ?_
    refine AL_nil ?_
    refine AW_ret ?_
    exact ⟨rn [], ⟨⟨⟨_, rfl, vle_int (rfl)⟩, trivial⟩, trivial, trivial, rfl⟩⟩

end Go.Proofs.Ytibhoanjglfaoaa

/- The laws' marks: MarkP (printed by genmark.py) -/
namespace Go.Proofs.Ytibhoanjglfaoaa
open Go.RowKit
set_option linter.unusedVariables false
set_option linter.unusedSimpArgs false
set_option maxRecDepth 100000

def markByte (x : Int) (k : Int) : Int × Int := (IntKind.u8.wrap (k), k + 1)
def cntByte (x : Int) : Nat := 1
theorem markByte_cnt (x : Int) (k : Int) : (markByte x k).2 = k + cntByte x := by
  simp only [markByte, cntByte]
  try omega
set_option maxHeartbeats 4000000 in
theorem markByteS_any (a : Option Addr) (n cap : Nat) (xs : List (Int)) (bs : List Nat) (k : Int) (lo : Nat) (w : World) (h : SliceRep (intE .u8) w a n cap xs bs) (hF : Fresh lo w bs) (k0 : 0 ≤ k) (k1 : k + cntL cntByte xs ≤ 4611686018427387904) :
    Calls Try.prog 27 #[.slice a n cap, .int .i64 k] w fun e w' => e = .returned (.int .i64 (markL markByte xs k).2) ∧ SliceRep (intE .u8) w' a n cap (markL markByte xs k).1 bs ∧ Only bs w w' := by
  have hmax := h.max
  obtain rfl := h.1
  go_enter Try.func27, Try.ntmps27
  go_wp2_with fail
  go_loopw [1, 5] (fun l i W => ∃ (j : Nat), j ≤ xs.length ∧ i = .int .i64 j ∧ l = .int .i64 (markK markByte xs k j) ∧ SliceRep (intE .u8) W a xs.length cap (markTo markByte xs k j) bs ∧ Only bs w W) (fun _ i _ => xs.length - (intOf i).toNat)
  case atStart => exact ⟨0, Nat.zero_le _, rfl, by rw [markK_zero], by rw [markTo_zero]; exact h, Only.refl _ _⟩
  case round =>
    obtain ⟨j, hj, rfl, rfl, hS, hO⟩ := hrel
    by_cases hlt : j < xs.length
    · obtain ⟨g, off, _, _, rfl, _⟩ := h.get hlt
      have HF := hF.only hO
      obtain ⟨q0, q1⟩ := markK_bound markByte markByte_cnt k0 k1 hlt
      have hat := markTo_at markByte (k := k) hlt
      have HS := Lib.hid (markTo_succ markByte (k := k) hlt)
      have HK := Lib.hid (markK_succ markByte (k := k) hlt)
      have hl := markTo_len markByte xs k j
      have NJ := Lib.hid (show j + 1 ≤ xs.length by omega)
      have i0 : (0 : Int) ≤ (j : Int) := by omega
      have i1 : (j : Int) < (xs.length : Int) := by omega
      generalize markTo markByte xs k j = ys at hS hat HS hl
      generalize markK markByte xs k j = q at q0 q1 HS HK
      generalize xs[j] = x at hat HS HK q1
      rw [← set_same hat] at hS
      have hjy : j < ys.length := by omega
      clear hat
      have Q1 := Lib.hid q1
      simp only [cntByte] at q1
      obtain ⟨c0, d0⟩ := hS.cellAt2 HF hjy (c := 0) rfl
      obtain ⟨hS0, o0⟩ := hS.put2 HF hjy 0 (.int .u8 (IntKind.u8.wrap (q))) (IntKind.u8.wrap (q) : Int) rfl (wfByte _) rfl
      simp only [show Enc.size (intE .u8) = 1 from rfl, Nat.mul_one, Nat.add_zero] at c0 d0 hS0 o0
      clear hS
      have hS := hS0
      clear hS0
      replace hO := hO.trans o0
      replace HF := HF.only o0
      clear o0
      go_wp2_with fail
      go_roundw
      case rel => exact ⟨j + 1, NJ.out, by go_num, by rw [HK.out]; rfl, by rw [← HS.out]; exact hS, hO⟩
      case measure => simp [intOf]; omega
    · obtain rfl : j = xs.length := by omega
      rw [markTo_done] at hS
      go_wp2_with fail
      go_ret
      exact ⟨ret_int (markK_done _ _ _), hS, hO⟩

end Go.Proofs.Ytibhoanjglfaoaa

/- The laws' held functions (printed by walk.py) -/
namespace Go.Proofs.Ytibhoanjglfaoaa
open Go.RowKit
set_option linter.unusedVariables false
set_option linter.unusedSimpArgs false
set_option maxRecDepth 100000

end Go.Proofs.Ytibhoanjglfaoaa

/- The abstract walk of a law: phases, between which own data is written anew (marks). -/
namespace Go.Proofs.Ytibhoanjglfaoaa
open Go.RowKit
set_option linter.unusedVariables false

/-- A phase: what stood at its start (blocks below B) is read alone; what is one's own was made since. -/
structure Ph (B : Nat) (g : Gh) (s : St) (w : World) : Prop where
  le : B ≤ w.heap.size
  old : ∀ b, b < B → g.I b
  own : ∀ b, OwnB g s.l b → B ≤ b
theorem Ph.step {B : Nat} {g g' : Gh} {s s' : St} {w w' : World} (p : Ph B g s w) (hs : Step [] g s.l w g' s'.l w') : Ph B g' s' w' ∧ Below B w w' :=
  ⟨⟨Nat.le_trans p.le hs.size, fun b hb => hs.imm b (p.old b hb), fun b hb => (hs.own b hb).elim (p.own b) fun h => Nat.le_trans p.le h⟩,
   hs.os, hs.tape, hs.output, hs.size, fun b hb => hs.keep b (Nat.lt_of_lt_of_le hb p.le) fun k blk hk hl e => by
    have := p.own b (e ▸ OwnB.of_live hk hl)
    omega⟩
def EndsM (N B : Nat) (w : World) (R : Exit → St → Prop) : Exit → Act → World → Prop := fun e a' w' => ∃ g' s', Rep N g' s' a' w' ∧ Ph B g' s' w' ∧ Below B w w' ∧ R e s'
theorem EndsM.back {N B : Nat} {w w1 : World} {R : Exit → St → Prop} {e : Exit} {a : Act} {w2 : World} (hb : Below B w w1) (h : EndsM N B w1 R e a w2) : EndsM N B w R e a w2 := by
  obtain ⟨g', s', r, p, b, hR⟩ := h
  exact ⟨g', s', r, p, hb.trans b, hR⟩
theorem EndsM.down {N B B' : Nat} {w : World} {R : Exit → St → Prop} {e : Exit} {a : Act} {w2 : World} (hB : B ≤ B') (h : EndsM N B' w R e a w2) : EndsM N B w R e a w2 := by
  obtain ⟨g', s', r, p, b, hR⟩ := h
  exact ⟨g', s', r, ⟨Nat.le_trans hB p.le, fun b hb => p.old b (Nat.lt_of_lt_of_le hb hB), fun b hb => Nat.le_trans hB (p.own b hb)⟩, b.mono hB, hR⟩
def AM (P : Program) (N B : Nat) (c : Code) (Kn : St → Prop) (Q : Exit → St → Prop) (s : St) : Prop :=
  ∀ (g : Gh) (a : Act) (w : World), Rep N g s a w → Ph B g s w → c.wp P (EndsM N B w (NormR Kn Q)) a w
section rules
variable {P : Program} {N B : Nat} {Kn : St → Prop} {Q : Exit → St → Prop} {s : St}
theorem AM_of {c : Code} (h : AW P N [] c Kn Q s) : AM P N B c Kn Q s := fun g a w r p =>
  Go.wp_mono (h g a w r) fun e a1 w1 ⟨g1, s1, r1, hs, hR⟩ => ⟨g1, s1, r1, (p.step hs).1, (p.step hs).2, hR⟩
theorem AM_region {id : Nat} {l : List Oper} (h : AL P N false l.toArray Kn l s []) : AM P N B (.region id l.toArray false) Kn Q s := AM_of (AW_region h)
theorem AM_skip (h : Kn s) : AM P N B .skip Kn Q s := AM_of (AW_skip h)
theorem AM_ret (h : Q .ret s) : AM P N B .ret Kn Q s := AM_of (AW_ret h)
theorem AM_seq {x y : Code} (h : AM P N B x (AM P N B y Kn Q) Q s) : AM P N B (.seq x y) Kn Q s := fun g a w r p =>
  wp_seq (Go.wp_mono (h g a w r p) fun e a1 w1 h1 => by
    obtain ⟨g1, s1, r1, p1, b1, hR⟩ := h1
    cases e with
    | normal => exact Go.wp_mono (hR g1 a1 w1 r1 p1) fun e a2 w2 h2 => h2.back b1
    | exit id => exact ⟨g1, s1, r1, p1, b1, hR⟩
    | goto l => exact ⟨g1, s1, r1, p1, b1, hR⟩
    | ret => exact ⟨g1, s1, r1, p1, b1, hR⟩
    | panic ch => exact ⟨g1, s1, r1, p1, b1, hR⟩
    | outgrown => exact ⟨g1, s1, r1, p1, b1, hR⟩)
theorem AM_condT {c : Operand} {x y : Code} (hc : evo s.t c = some (.one (.c (.bool true)))) (h : AM P N B x Kn Q s) : AM P N B (.cond c x y) Kn Q s := fun g a w r p => by
  obtain ⟨hv, _⟩ : a.eval c = .bool true ∧ wfV (.bool true) := eval_ok r (evs_of hc) (rdo_of hc)
  exact wp_cond_split hv (fun _ => h g a w r p) (fun h => by cases h)
theorem AM_condF {c : Operand} {x y : Code} (hc : evo s.t c = some (.one (.c (.bool false)))) (h : AM P N B y Kn Q s) : AM P N B (.cond c x y) Kn Q s := fun g a w r p => by
  obtain ⟨hv, _⟩ : a.eval c = .bool false ∧ wfV (.bool false) := eval_ok r (evs_of hc) (rdo_of hc)
  exact wp_cond_split hv (fun h => by cases h) (fun _ => h g a w r p)
end rules

/-! ### A new phase -/
/-- What a slot holds, where all that stands is read alone from now on. -/
inductive Rise (l : Locs) (B B' : Nat) : AVal → AVal → Prop
  | c {v : Value} : Rise l B B' (.one (.c v)) (.one (.c v))
  | box {k : Nat} {cs ds : List Cell} {js : List Nat} {d : Bool} {α : Type} {e : Enc α} {f : α → List Cell} [hc : CellsOf e f] {x : α} (hb : lkl l k = some (.box cs)) (hm : mvC l cs = some (ds, js, d)) (hj : noDup js = true) (hf : FitL ds (f x)) : Rise l B B' (.one (.ptr k 0)) (.one (.epo B' e x 0))
  | own {k : Nat} {α : Type} {T : TypeId} {e : Enc α} {xs : List α} {d : Bool} (hb : lkl l k = some (.arr T e xs d)) : Rise l B B' (.one (.own k)) (.one (.slo B' e xs))
  | epo {α : Type} {e : Enc α} {x : α} {o : Nat} : Rise l B B' (.one (.epo B e x o)) (.one (.epo B' e x o))
  | slo {α : Type} {e : Enc α} {xs : List α} : Rise l B B' (.one (.slo B e xs)) (.one (.slo B' e xs))
  | sl {α : Type} {e : Enc α} {xs : List α} : Rise l B B' (.one (.sl e xs)) (.one (.slo B' e xs))
  | agg {cs ds : List Cell} {js : List Nat} {d : Bool} {α : Type} {e : Enc α} {f : α → List Cell} [hc : CellsOf e f] {x : α} (hm : mvC l cs = some (ds, js, d)) (hj : noDup js = true) (hf : FitL ds (f x)) (hs : (f x).all Cell.dat = true) : Rise l B B' (.agg cs) (.agg (f x))
def RiseT (l : Locs) (B B' : Nat) (t : Tmps) : Tmps → Prop
  | [] => True
  | (k, x) :: r => (∃ y, lk t k = some y ∧ Rise l B B' y x) ∧ RiseT l B B' t r
theorem RiseT.get {l : Locs} {B B' : Nat} {t : Tmps} : ∀ {T : Tmps} {k : Nat} {x : AVal}, RiseT l B B' t T → lk T k = some x → ∃ y, lk t k = some y ∧ Rise l B B' y x
  | [], k, x, _, h => by simp [lk] at h
  | (j, z) :: r, k, x, hT, h => by
    by_cases e : j = k
    · subst e; rw [lk_cons_self] at h; cases h; exact hT.1
    · rw [lk_cons_ne e] at h; exact RiseT.get hT.2 h
theorem Rise.ok {g : Gh} {l : Locs} {w : World} {B : Nat} (m : MemR g l w) {v : Value} {x y : AVal} (h : Rise l B w.heap.size x y) (hv : VR g l w v x) : VR (allI w) [] w v y := by
  cases h with
  | c => exact hv
  | @box k cs ds js d α e f hc x hb hm hj hf =>
    have he : v = .pointer (some ⟨g.ρ k, 0, none⟩) := hv cs hb
    obtain ⟨vs, t, h1, h2, h3⟩ := m.box k cs hb
    obtain ⟨bs, f1, f2, _⟩ := mvC_ok m h2 hm (noDup_of hj)
    have hr : e.rep w vs.toList x bs := hc.iff.2 (f1.fit hf)
    exact ⟨g.ρ k, 0, vs.toList, bs, he, ⟨(Array.getElem?_eq_some_iff.1 h1).1, (Array.getElem?_eq_some_iff.1 h1).1⟩, hr, fun c hcb => ⟨e.lt hr c hcb, e.lt hr c hcb⟩, fun j u hu => by rw [cell_of_heap h1, Nat.zero_add]; simpa using hu⟩
  | @own k α T e xs d hb =>
    obtain ⟨a, n, cap, bs, h1, h2, h3, _⟩ := (m.arr k α T e xs d hb).slice
    have he : v = g.hd k := hv α T e xs d hb
    exact ⟨a, n, cap, bs, he.trans h1, h2, fun b hbb => ⟨h2.lt b hbb, h2.lt b hbb⟩⟩
  | epo =>
    obtain ⟨gb, o, cs, b, h1, h2, h3, h4, h5⟩ := hv
    have hg := m.ilt gb h2.1
    exact ⟨gb, o, cs, b, h1, ⟨hg, hg⟩, h3, fun c hc => ⟨m.ilt c (h4 c hc).1, m.ilt c (h4 c hc).1⟩, h5⟩
  | slo =>
    obtain ⟨a, n, cap, bs, h1, h2, h3⟩ := hv
    exact ⟨a, n, cap, bs, h1, h2, fun b hb => ⟨h2.lt b hb, h2.lt b hb⟩⟩
  | sl =>
    obtain ⟨a, n, cap, bs, h1, h2, h3⟩ := hv
    exact ⟨a, n, cap, bs, h1, h2, fun b hb => ⟨h2.lt b hb, h2.lt b hb⟩⟩
  | @agg cs ds js d α e f hc x hm hj hf hs =>
    obtain ⟨vs, h1, h2⟩ := hv
    obtain ⟨bs, f1, f2, _⟩ := mvC_ok m h2 hm (noDup_of hj)
    have hr : e.rep w vs x bs := hc.iff.2 (f1.fit hf)
    exact ⟨vs, h1, (f1.fit hf).all2 fun i hi => e.lt hr i hi⟩
/-- From here on all that stands is read alone. -/
theorem AM_raise {P : Program} {N B : Nat} {c : Code} {Kn : St → Prop} {Q : Exit → St → Prop} {s : St} (T : Nat → Tmps) (hT : ∀ B', RiseT s.l B B' s.t (T B')) (h : ∀ B', AM P N B' c Kn Q ⟨T B', []⟩) : AM P N B c Kn Q s := fun g a w r p => by
  have r2 : Rep N (allI w) ⟨T w.heap.size, []⟩ a w := ⟨r.size, r.defers, fun k x hk => by
    obtain ⟨y, h1, h2⟩ := (hT w.heap.size).get hk
    exact h2.ok r.mem (r.tmp k y h1), allI_mem w⟩
  exact Go.wp_mono (h w.heap.size (allI w) a w r2 ⟨Nat.le_refl _, fun b hb => hb, fun b ⟨k, blk, hk, _⟩ => by simp [lkl, lk] at hk⟩) fun e a1 w1 h1 => h1.down p.le

/-! ### What a mark leaves standing -/
def HardC (B : Nat) (js : List Nat) : Cell → Prop
  | .c _ => True
  | .any => True
  | .ptr _ _ => True
  | .own j => noId j js = true
  | .slo B' _ _ => B' = B
  | .epo B' _ _ _ => B' = B
  | _ => False
def hardAll (B : Nat) (js : List Nat) : List Cell → Prop
  | [] => True
  | c :: cs => HardC B js c ∧ hardAll B js cs
theorem hardAll.get {B : Nat} {js : List Nat} : ∀ {cs : List Cell}, hardAll B js cs → ∀ x ∈ cs, HardC B js x
  | [], _, x, h => by cases h
  | c :: cs, h, x, hx => by
    rcases List.mem_cons.1 hx with rfl | hx
    · exact h.1
    · exact hardAll.get h.2 x hx
def HardV (B : Nat) (js : List Nat) : AVal → Prop
  | .one x => HardC B js x
  | .agg xs => hardAll B js xs
  | .tup _ => False
def HardB (B : Nat) (js : List Nat) (k : Nat) : Blk → Prop
  | .box cs => hardAll B js cs
  | .arr _ _ _ d => d = true ∧ noId k js = true
def SubT (B : Nat) (js : List Nat) (t : Tmps) : Tmps → Prop
  | [] => True
  | (k, x) :: r => (lk t k = some x ∧ HardV B js x) ∧ SubT B js t r
def SubL (B : Nat) (js : List Nat) (l : Locs) : Locs → Prop
  | [] => True
  | (k, some b) :: r => (lkl l k = some b ∧ HardB B js k b) ∧ SubL B js l r
  | (_, none) :: r => SubL B js l r
theorem SubT.get {B : Nat} {js : List Nat} {t : Tmps} : ∀ {T : Tmps} {k : Nat} {x : AVal}, SubT B js t T → lk T k = some x → lk t k = some x ∧ HardV B js x
  | [], k, x, _, h => by simp [lk] at h
  | (j, z) :: r, k, x, hT, h => by
    by_cases e : j = k
    · subst e; rw [lk_cons_self] at h; cases h; exact hT.1
    · rw [lk_cons_ne e] at h; exact SubT.get hT.2 h
theorem SubL.get {B : Nat} {js : List Nat} {l : Locs} : ∀ {L : Locs} {k : Nat} {b : Blk}, SubL B js l L → lkl L k = some b → lkl l k = some b ∧ HardB B js k b
  | [], k, b, _, h => by simp [lkl, lk] at h
  | (j, z) :: r, k, b, hL, h => by
    by_cases e : j = k
    · subst e; rw [lkl_cons_self] at h; subst h; exact hL.1
    · cases z with
      | none => rw [lkl_cons_ne e] at h; exact SubL.get (L := r) hL h
      | some z => rw [lkl_cons_ne e] at h; exact SubL.get hL.2 h
section back
variable {N B : Nat} {g : Gh} {s : St} {a : Act} {w w' : World} {js : List Nat} {bs : List Nat} {L : Locs}
/-- The names behind a mark. -/
def Gh.after (g : Gh) (B : Nat) (L : Locs) : Gh := { g with I := fun b => b < B ∨ ∃ (j : Nat) (α : Type) (T : TypeId) (e : Enc α) (xs : List α), lkl L j = some (.arr T e xs true) ∧ b ∈ g.F j }
theorem hard_cell (p : Ph B g s w) (hb : ∀ b ∈ bs, ∃ j ∈ js, Via g s.l j b) (o : Only bs w w') (hL : SubL B js s.l L) {v : Value} {x : Cell} (hx : HardC B js x) (h : CellR g s.l w v x) : CellR (g.after B L) L w' v x := by
  have lo : ∀ b, b < B → b ∉ bs := fun b h1 h2 => by
    obtain ⟨j, _, hv⟩ := hb b h2
    have := p.own b hv.own
    omega
  have kp : ∀ b, b < B → w'.heap[b]? = w.heap[b]? := fun b h1 => o.keep b (Nat.lt_of_lt_of_le h1 p.le) (lo b h1)
  cases x with
  | c u => exact h
  | any => trivial
  | own j => exact fun α T e xs d hk => h α T e xs d (hL.get hk).1
  | ptr k off => exact fun cs hk => h cs (hL.get hk).1
  | slo B' e xs =>
    obtain rfl : B' = B := hx
    obtain ⟨a, n, cap, b1, h1, h2, h3⟩ := h
    exact ⟨a, n, cap, b1, h1, h2.keep (fun b hbb => kp b (h3 b hbb).2) o.size, fun b hbb => ⟨.inl (h3 b hbb).2, (h3 b hbb).2⟩⟩
  | epo B' e z off =>
    obtain rfl : B' = B := hx
    obtain ⟨gb, of, cs, b1, h1, h2, h3, h4, h5⟩ := h
    exact ⟨gb, of, cs, b1, h1, ⟨.inl h2.2, h2.2⟩, e.keep h3 (fun c hc => kp c (h4 c hc).2) o.size, fun c hc => ⟨.inl (h4 c hc).2, (h4 c hc).2⟩, fun j u hu => (World.cell?_of_block (w := w) (kp gb h2.2)).trans (h5 j u hu)⟩
  | _ => exact hx.elim
theorem hard_val (p : Ph B g s w) (hb : ∀ b ∈ bs, ∃ j ∈ js, Via g s.l j b) (o : Only bs w w') (hL : SubL B js s.l L) {v : Value} {x : AVal} (hx : HardV B js x) (h : VR g s.l w v x) : VR (g.after B L) L w' v x := by
  cases x with
  | one x => exact hard_cell p hb o hL hx h
  | agg xs =>
    obtain ⟨vs, h1, h2⟩ := h
    exact ⟨vs, h1, h2.mono fun a b hm hr => hard_cell p hb o hL (hardAll.get hx b hm) hr⟩
  | tup xs => exact hx.elim
theorem after_rep (r : Rep N g s a w) (p : Ph B g s w) (hb : ∀ b ∈ bs, ∃ j ∈ js, Via g s.l j b) (o : Only bs w w') {T : Tmps} (hT : SubT B js s.t T) (hL : SubL B js s.l L) :
    Rep N (g.after B L) ⟨T, L⟩ a w' ∧ Ph B (g.after B L) ⟨T, L⟩ w' ∧ Below B w w' := by
  have m := r.mem
  have lo : ∀ b ∈ bs, B ≤ b := fun b h2 => by
    obtain ⟨j, _, hv⟩ := hb b h2
    exact p.own b hv.own
  have out : ∀ {k blk}, lkl L k = some blk → liv g k blk → g.ρ k ∉ bs := fun {k blk} hk hl hm => by
    obtain ⟨hk', hh⟩ := hL.get hk
    obtain ⟨j, hj, α, T, e, xs, h1, h2⟩ := hb _ hm
    have hne : k ≠ j := fun e => by
      subst e
      rw [hk'] at h1; cases h1
      exact noId_of hh.2 hj
    rcases h2 with ⟨h3, h4⟩ | h3
    · exact m.dis k j _ _ hne hk' h1 hl h3 h4
    · exact m.notI hk' hl ((m.fr j α T e xs h1).2 _ h3).1
  have outF : ∀ {k : Nat} {α : Type} {T : TypeId} {e : Enc α} {xs : List α}, lkl L k = some (.arr T e xs true) → ∀ b ∈ g.F k, b ∉ bs := fun {k α T e xs} hk b hbF hm => by
    obtain ⟨hk', hh⟩ := hL.get hk
    obtain ⟨j, hj, hv⟩ := hb _ hm
    have : k = j := Via.disj m ⟨α, T, e, xs, hk', .inr hbF⟩ hv
    subst this
    exact noId_of hh.2 hj
  have own : ∀ {b}, OwnB (g.after B L) L b → OwnB g s.l b := fun {b} ⟨k, blk, hk, h⟩ => ⟨k, blk, (hL.get hk).1, h⟩
  have nI : ∀ {k blk}, lkl L k = some blk → liv g k blk → ¬ (g.after B L).I (g.ρ k) := fun {k blk} hk hl hI => by
    rcases hI with h1 | ⟨j, α, T, e, xs, h1, h2⟩
    · have := p.own _ (OwnB.of_live (hL.get hk).1 hl); omega
    · exact m.notI (hL.get hk).1 hl ((m.fr j α T e xs (hL.get h1).1).2 _ h2).1
  have hp : ∀ {k blk}, lkl L k = some blk → liv g k blk → w'.heap[g.ρ k]? = w.heap[g.ρ k]? := fun {k blk} hk hl => o.keep _ (m.lt (hL.get hk).1 hl) (out hk hl)
  have hpF : ∀ {k : Nat} {α : Type} {T : TypeId} {e : Enc α} {xs : List α}, lkl L k = some (.arr T e xs true) → ∀ b ∈ g.F k, w'.heap[b]? = w.heap[b]? := fun {k α T e xs} hk b hbF => o.keep b (m.ilt b ((m.fr k α T e xs (hL.get hk).1).2 b hbF).1) (outF hk b hbF)
  refine ⟨⟨r.size, r.defers, fun k x hk => ?_, ⟨fun b hI => ?_, fun k cs hk => ?_, fun k α T e xs d hk => ?_, fun j k b b' hjk hj hk lj lk => m.dis j k b b' hjk (hL.get hj).1 (hL.get hk).1 lj lk, fun k α T e xs hk => ?_, fun j k α β T U e f xs ys hjk hj hk => m.fd j k α β T U e f xs ys hjk (hL.get hj).1 (hL.get hk).1⟩⟩,
    ⟨Nat.le_trans p.le o.size, fun b hb => .inl hb, fun b hb => p.own b (own hb)⟩, o.os, o.tape, o.output, o.size, fun b h1 => o.keep b (Nat.lt_of_lt_of_le h1 p.le) fun h2 => by have := lo b h2; omega⟩
  · obtain ⟨h1, h2⟩ := hT.get hk
    exact hard_val p hb o hL h2 (r.tmp k x h1)
  · refine Nat.lt_of_lt_of_le ?_ o.size
    rcases hI with h1 | ⟨j, α, T, e, xs, h1, h2⟩
    · exact Nat.lt_of_lt_of_le h1 p.le
    · exact m.ilt b ((m.fr j α T e xs (hL.get h1).1).2 b h2).1
  · obtain ⟨h1, h2⟩ := hL.get hk
    obtain ⟨vs, t, h3, h4, h5⟩ := m.box k cs h1
    exact ⟨vs, t, (hp hk trivial).trans h3, h4.mono fun a x hx hr => hard_cell p hb o hL (hardAll.get h2 x hx) hr, nI hk trivial⟩
  · obtain ⟨h1, h2, h3⟩ := hL.get hk
    subst h2
    rcases m.arr k α T e xs true h1 with h4 | ⟨cap, vs, bss, a1, a2, a3, a4, a5, a6, a7, a8, a9⟩
    · exact .inl h4
    · have hl : liv g k (.arr T e xs true) := by show g.hd k ≠ _; rw [a1]; intro e; cases e
      refine .inr ⟨cap, vs, bss, a1, a2, a3, (hp hk hl).trans a4, a5, a6.keep (hp hk hl) (fun b hb => hpF hk b (by rw [a9 rfl]; exact hb)) o.size, fun b hb => .inr ⟨k, α, T, e, xs, hk, by rw [a9 rfl]; exact hb⟩, nI hk hl, a9⟩
  · obtain ⟨h1, h2, h3⟩ := hL.get hk
    obtain ⟨n1, n2⟩ := m.fr k α T e xs h1
    exact ⟨n1, fun b hb => ⟨.inr ⟨k, α, T, e, xs, hk, hb⟩, by
      obtain ⟨_, c, t, h4⟩ := n2 b hb
      exact ⟨c, t, (hpF hk b hb).trans h4⟩⟩⟩
end back

/-! ### Regions in which a mark is called -/
def LM (P : Program) (N B : Nat) (ops : Array Oper) (Kn : St → Prop) (l : List Oper) (s : St) : Prop :=
  ∀ (Q : Exit → St → Prop) (Z : Exit → Act → World → Prop) (g : Gh) (a : Act) (w : World), Rep N g s a w → Ph B g s w → (∀ e a' w', EndsM N B w (NormR Kn Q) e a' w' → Z e a' w') → wpList P ops Z l a w
section lm
variable {P : Program} {N B : Nat} {ops : Array Oper} {Kn : St → Prop} {s : St}
theorem AM_regionM {id : Nat} {l : List Oper} {Q : Exit → St → Prop} (h : LM P N B l.toArray Kn l s) : AM P N B (.region id l.toArray false) Kn Q s := fun g a w r p => wp_region_lit (h Q _ g a w r p fun _ _ _ h => h)
theorem LM_nil (h : Kn s) : LM P N B ops Kn [] s := fun Q Z g a w r p hz => hz _ _ _ ⟨g, s, r, p, Below.refl _ _, h⟩
theorem LM_p {dst : Option Nat} {op : Op} {ty : TypeId} {pos : String} {after : Array Edge} {c : Cert} {r : List Oper} {s' : St} (h : Stp P N ⟨dst, op, ty, pos, after, none⟩ s s' c) (next : LM P N B ops Kn r s') : LM P N B ops Kn (⟨dst, op, ty, pos, after, none⟩ :: r) s := fun Q Z g a w R p hz => by
  obtain ⟨h1, h2, h3⟩ := h
  have h4 := h1 [] g s a w h2 R
  rw [h3] at h4
  unfold wpList
  rw [if_pos (by simp [Region.wanted])]
  refine .inl (Oper.wp_weak (fun a' w' ⟨g', r', hs'⟩ => ?_) h4)
  obtain ⟨p2, b2⟩ := p.step hs'
  exact next Q Z g' a' w' r' p2 fun e a2 w2 h5 => hz e a2 w2 (h5.back b2)
/-- A function that writes a datum anew. -/
def MarkA (P : Program) (f : FuncId) {α : Type} (e : Enc α) (x : α) (k r : Int) (x' : α) : Prop :=
  ∀ (w : World) (cs : List Value) (bs : List Nat), e.rep w cs x bs → Fresh 0 w bs → Calls P f #[.agg cs.toArray, .int .i64 k] w fun e' w' => e' = .returned (.int .i64 r) ∧ e.rep w' cs x' bs ∧ Only bs w w'
def MarkO (P : Program) (f : FuncId) {α : Type} (e : Enc α) (x : List α) (k r : Int) (x' : List α) : Prop :=
  ∀ (w : World) (a : Option Addr) (n cap : Nat) (bs : List Nat), SliceRep e w a n cap x bs → Fresh 0 w bs → Calls P f #[.slice a n cap, .int .i64 k] w fun e' w' => e' = .returned (.int .i64 r) ∧ SliceRep e w' a n cap x' bs ∧ Only bs w w'
theorem via_fresh {g : Gh} {l : Locs} {w : World} (m : MemR g l w) {js bs : List Nat} (h : bs.Nodup ∧ ∀ b ∈ bs, ∃ j ∈ js, Via g l j b) : Fresh 0 w bs := ⟨h.1, fun b hb => by
  obtain ⟨j, _, hv⟩ := h.2 b hb
  exact ⟨Nat.zero_le _, hv.cells m⟩⟩
section mark
variable {d : Nat} {fo x y : Operand} {f : FuncId} {ats : Array TypeId} {ty : TypeId} {pos : String} {after : Array Edge} {r : List Oper} {k r' : Int}
theorem LM_markO {i : Nat} {α : Type} {U : TypeId} {e : Enc α} {z z' : List α} (T : Tmps) (L : Locs) (hN : Nat.blt d N = true) (hev : evo s.t fo = some (.one (.clo f []))) (hx : evo s.t x = some (.one (.own i))) (hy : evo s.t y = some (.one (.c (.int .i64 k))))
    (hf : Callable P f) (hM : MarkO P f e z k r' z') (hl : lkl s.l i = some (.arr U e z true)) (hw : wfV (.int .i64 r')) (hT : SubT B [i] s.t T) (hL : SubL B [i] s.l L)
    (next : LM P N B ops Kn r ⟨(d, .one (.c (.int .i64 r'))) :: T, L⟩) : LM P N B ops Kn (⟨some d, .call { callee := .value fo, args := #[x, y], argTypes := ats }, ty, pos, after, none⟩ :: r) s := fun Q Z g a w R p hz => by
  have hfe : a.eval fo = .func (.func f) #[] #[] := (eval_ok R (evs_of hev) (rdo_of hev) : CellR g s.l w (a.eval fo) (.clo f [])) (fun k hk => by cases hk)
  have h1 : CellR g s.l w (a.eval x) (.own i) := eval_ok R (evs_of hx) (rdo_of hx)
  obtain ⟨h3, _⟩ : a.eval y = .int .i64 k ∧ wfV (.int .i64 k) := eval_ok R (evs_of hy) (rdo_of hy)
  obtain ⟨bs, f1, f2, f3⟩ := mvC_ok R.mem (vs := [a.eval x]) (cs := [.own i]) (ds := [.sl e z]) (js := [i]) (d := true) ⟨h1, trivial⟩ (by simp [mvC, hl]) (by simp)
  obtain ⟨b1, b2, rfl, ⟨ad, n, cap, e1, e2⟩, rfl⟩ := f1
  rw [List.append_nil] at f2 f3
  unfold wpList
  rw [if_pos (by simp [Region.wanted])]
  refine .inl ?_
  unfold Oper.wp
  rw [run_enter rfl hf hfe, Oper.upon_enter]
  simp only [List.map_toArray, List.map_cons, List.map_nil, e1, h3, Array.append_empty]
  refine (hM w ad n cap b1 e2 (via_fresh R.mem (f3 rfl))).mono ?_
  rintro e' w' ⟨rfl, _, o⟩
  obtain ⟨q1, q2, q3⟩ := after_rep R p (f3 rfl).2 o hT hL
  have q4 : Rep N (g.after B L) ⟨(d, .one (.c (.int .i64 r'))) :: T, L⟩ (a.put (some d) (.int .i64 r')) w' := q1.put (blt_lt hN) ⟨rfl, hw⟩
  exact next Q Z _ _ _ q4 ⟨q2.le, q2.old, q2.own⟩ fun e a2 w2 h5 => hz e a2 w2 (h5.back q3)
/-- Values that are known by their cells. -/
def firm : Cell → Bool
  | .c _ => true
  | .own _ => true
  | _ => false
theorem firm_eq {g : Gh} {l : Locs} {w : World} : ∀ {vs us : List Value} {cs ds : List Cell} {js : List Nat} {q : Bool}, mvC l cs = some (ds, js, q) → cs.all firm = true → All2 (CellR g l w) vs cs → All2 (CellR g l w) us cs → vs = us
  | [], [], [], _, _, _, _, _, _, _ => rfl
  | [], _ :: _, [], _, _, _, _, _, _, h => h.elim
  | _ :: _, [], [], _, _, _, _, _, h, _ => h.elim
  | [], _, _ :: _, _, _, _, _, _, h, _ => h.elim
  | _ :: _, [], _ :: _, _, _, _, _, _, _, h => h.elim
  | _ :: _, _ :: _, [], _, _, _, _, _, h, _ => h.elim
  | v :: vs, u :: us, c :: cs, ds, js, q, hm, hf, h1, h2 => by
    simp only [List.all_cons, Bool.and_eq_true] at hf
    simp only [mvC] at hm
    split at hm
    · cases hm
    · rename_i ds1 js1 d1 h3
      have ih := firm_eq h3 hf.2 h1.2 h2.2
      subst ih
      cases c with
      | c z => rw [show v = z from h1.1.1, show u = z from h2.1.1]
      | own j =>
        simp only at hm
        split at hm
        · rename_i T e xs q hj
          rw [show v = _ from h1.1 _ _ _ _ _ hj, show u = _ from h2.1 _ _ _ _ _ hj]
        · cases hm
      | _ => cases hf.1
/-- What a slot says, at a new phase behind a mark. -/
inductive Stay (B B' : Nat) : AVal → AVal → Prop
  | c {v : Value} : Stay B B' (.one (.c v)) (.one (.c v))
  | epo {α : Type} {e : Enc α} {x : α} {o : Nat} : Stay B B' (.one (.epo B e x o)) (.one (.epo B' e x o))
  | slo {α : Type} {e : Enc α} {xs : List α} : Stay B B' (.one (.slo B e xs)) (.one (.slo B' e xs))
def StayT (B B' : Nat) (t : Tmps) : Tmps → Prop
  | [] => True
  | (k, x) :: r => (∃ y, lk t k = some y ∧ Stay B B' y x) ∧ StayT B B' t r
theorem StayT.get {B B' : Nat} {t : Tmps} : ∀ {T : Tmps} {k : Nat} {x : AVal}, StayT B B' t T → lk T k = some x → ∃ y, lk t k = some y ∧ Stay B B' y x
  | [], k, x, _, h => by simp [lk] at h
  | (j, z) :: r, k, x, hT, h => by
    by_cases e : j = k
    · subst e; rw [lk_cons_self] at h; cases h; exact hT.1
    · rw [lk_cons_ne e] at h; exact StayT.get hT.2 h
theorem Stay.ok {g : Gh} {l : Locs} {B : Nat} {w w' : World} {v : Value} {x y : AVal} (hs : w.heap.size ≤ w'.heap.size) (hB : B ≤ w.heap.size) (hk : ∀ b, b < B → w'.heap[b]? = w.heap[b]?) (h : Stay B w'.heap.size x y) (hv : VR g l w v x) : VR (allI w') [] w' v y := by
  cases h with
  | c => exact hv
  | epo =>
    obtain ⟨gb, o, cs, b, h1, h2, h3, h4, h5⟩ := hv
    have lt : ∀ c, c < B → c < w'.heap.size := fun c hc => by omega
    exact ⟨gb, o, cs, b, h1, ⟨lt _ h2.2, lt _ h2.2⟩, Enc.keep _ h3 (fun c hc => hk c (h4 c hc).2) hs, fun c hc => ⟨lt _ (h4 c hc).2, lt _ (h4 c hc).2⟩, fun j u hu => (World.cell?_of_block (w := w) (hk gb h2.2)).trans (h5 j u hu)⟩
  | slo =>
    obtain ⟨a, n, cap, bs, h1, h2, h3⟩ := hv
    have lt : ∀ c, c < B → c < w'.heap.size := fun c hc => by omega
    exact ⟨a, n, cap, bs, h1, h2.keep (fun b hb => hk b (h3 b hb).2) hs, fun b hb => ⟨lt _ (h3 b hb).2, lt _ (h3 b hb).2⟩⟩
theorem stay_rep {B : Nat} {g : Gh} {s : St} {a : Act} {w w' : World} {js bs : List Nat} (R : Rep N g s a w) (p : Ph B g s w) (hb : ∀ b ∈ bs, ∃ j ∈ js, Via g s.l j b) (o : Only bs w w') {T : Tmps} (hT : StayT B w'.heap.size s.t T) :
    Rep N (allI w') ⟨T, []⟩ a w' ∧ Ph w'.heap.size (allI w') ⟨T, []⟩ w' ∧ Below B w w' := by
  obtain ⟨q1, q2, q3⟩ := after_rep (T := []) (L := []) R p hb o trivial trivial
  refine ⟨⟨R.size, R.defers, fun k x hk => ?_, allI_mem w'⟩, ⟨Nat.le_refl _, fun b hb => hb, fun b ⟨k, blk, hk, _⟩ => by simp [lkl, lk] at hk⟩, q3⟩
  obtain ⟨y, h1, h2⟩ := hT.get hk
  exact h2.ok o.size p.le q3.block (R.tmp k y h1)
/-- The mark of a struct that lies in variable b, to which slot t points; from here on all is read alone. -/
theorem LM_markAK {cs ds : List Cell} {js : List Nat} {α : Type} {e : Enc α} {F : α → List Cell} [hc : CellsOf e F] {z z' : α} (t b : Nat) (T : Nat → Tmps) (hN : Nat.blt d N = true) (hev : evo s.t fo = some (.one (.clo f []))) (hx : evo s.t x = some (.agg cs)) (hy : evo s.t y = some (.one (.c (.int .i64 k))))
    (ht : lk s.t t = some (.one (.ptr b 0))) (hb : lkl s.l b = some (.box cs)) (hfm : cs.all firm = true) (htd : Nat.beq d t = false)
    (hf : Callable P f) (hM : MarkA P f e z k r' z') (hm : mvC s.l cs = some (ds, js, true)) (hj : noDup js = true) (hfit : FitL ds (F z)) (hw : wfV (.int .i64 r')) (hT : ∀ B', StayT B B' s.t (T B'))
    (next : ∀ B', LM P N B' ops Kn r ⟨(d, .one (.c (.int .i64 r'))) :: (t, .one (.epo B' e z' 0)) :: T B', []⟩) : LM P N B ops Kn (⟨some d, .call { callee := .value fo, args := #[x, y], argTypes := ats }, ty, pos, after, none⟩ :: r) s := fun Q Z g a w R p hz => by
  have hfe : a.eval fo = .func (.func f) #[] #[] := (eval_ok R (evs_of hev) (rdo_of hev) : CellR g s.l w (a.eval fo) (.clo f [])) (fun k hk => by cases hk)
  obtain ⟨vs, h1, h2⟩ : ∃ vs : List Value, a.eval x = .agg vs.toArray ∧ All2 (CellR g s.l w) vs cs := eval_ok R (evs_of hx) (rdo_of hx)
  obtain ⟨h3, _⟩ : a.eval y = .int .i64 k ∧ wfV (.int .i64 k) := eval_ok R (evs_of hy) (rdo_of hy)
  obtain ⟨bs, f1, f2, f3⟩ := mvC_ok R.mem h2 hm (noDup_of hj)
  have hr : e.rep w vs z bs := hc.iff.2 (f1.fit hfit)
  have hpt : a.tmps.getD t undef = .pointer (some ⟨g.ρ b, 0, none⟩) := (R.tmp t _ ht : CellR g s.l w _ (.ptr b 0)) cs hb
  obtain ⟨us, ut, u1, u2, u3⟩ := R.mem.box b cs hb
  have hvu := firm_eq hm hfm h2 u2
  have hnb : g.ρ b ∉ bs := fun hmem => by
    obtain ⟨j, _, β, U, e', zs, j1, j2⟩ := (f3 rfl).2 _ hmem
    rcases j2 with ⟨j3, j4⟩ | j3
    · exact R.mem.dis b j _ _ (fun e => by subst e; rw [hb] at j1; cases j1) hb j1 trivial j3 j4
    · exact u3 ((R.mem.fr j β U e' zs j1).2 _ j3).1
  unfold wpList
  rw [if_pos (by simp [Region.wanted])]
  refine .inl ?_
  unfold Oper.wp
  rw [run_enter rfl hf hfe, Oper.upon_enter]
  simp only [List.map_toArray, List.map_cons, List.map_nil, h1, h3, Array.append_empty]
  refine (hM w vs bs hr (via_fresh R.mem (f3 rfl))).mono ?_
  rintro e' w' ⟨rfl, hr', o⟩
  obtain ⟨q1, q2, q3⟩ := stay_rep R p (f3 rfl).2 o (hT w'.heap.size)
  have hub : w'.heap[g.ρ b]? = some (.cells us ut (0, 0)) := (o.keep _ (Array.getElem?_eq_some_iff.1 u1).1 hnb).trans u1
  have hgb : g.ρ b < w'.heap.size := (Array.getElem?_eq_some_iff.1 hub).1
  have hep : VR (allI w') [] w' (a.tmps.getD t undef) (.one (.epo w'.heap.size e z' 0)) := by
    rw [hpt]
    exact ⟨g.ρ b, 0, vs, bs, rfl, ⟨hgb, hgb⟩, hr', fun c hc => ⟨e.lt hr' c hc, e.lt hr' c hc⟩, fun j u hu => by rw [cell_of_heap hub, Nat.zero_add]; rw [hvu] at hu; simpa using hu⟩
  have q5 : Rep N (allI w') ⟨(t, .one (.epo w'.heap.size e z' 0)) :: T w'.heap.size, []⟩ a w' := ⟨q1.size, q1.defers, fun j y hj => by
    by_cases ej : t = j
    · subst ej; rw [lk_cons_self] at hj; cases hj; exact hep
    · rw [lk_cons_ne ej] at hj; exact q1.tmp j y hj, q1.mem⟩
  have q4 : Rep N (allI w') ⟨(d, .one (.c (.int .i64 r'))) :: (t, .one (.epo w'.heap.size e z' 0)) :: T w'.heap.size, []⟩ (a.put (some d) (.int .i64 r')) w' := q5.put (blt_lt hN) ⟨rfl, hw⟩
  exact next w'.heap.size Q Z _ _ _ q4 ⟨q2.le, q2.old, q2.own⟩ fun e a2 w2 h5 => hz e a2 w2 ((h5.down (Nat.le_trans p.le o.size)).back q3)
end mark
end lm
/-- A variable that is read alone since an earlier phase. -/
def upC (B : Nat) : Cell → Cell
  | .sl e xs => .slo B e xs
  | c => c
theorem FR.all2o {g : Gh} {l : Locs} {w : World} {B : Nat} : ∀ {vs : List Value} {cs : List Cell} {b : List Nat}, FR w vs cs b → (∀ i ∈ b, g.I i ∧ i < B) → All2 (CellR g l w) vs (cs.map (upC B))
  | [], [], b, _, _ => trivial
  | v :: vs, c :: cs, b, h, hI => by
    obtain ⟨b1, b2, rfl, h1, h2⟩ := h
    refine ⟨?_, FR.all2o h2 fun i hi => hI i (List.mem_append_right _ hi)⟩
    cases c with
    | c u => exact ⟨h1.1, h1.2.1⟩
    | sl e xs =>
      obtain ⟨a, n, cap, h3, h4⟩ := h1
      exact ⟨a, n, cap, b1, h3, h4, fun i hi => hI i (List.mem_append_left _ hi)⟩
    | rx e x us b j =>
      obtain ⟨h3, h4, rfl⟩ := h1
      exact ⟨h3, h4, fun i hi => (hI i (List.mem_append_left _ hi)).1⟩
    | _ => exact h1.elim
section pload
variable {P : Program} {N : Nat} {s : St} {d : Nat} {ty : TypeId} {pos : String} {after : Array Edge} {gd : Option (Nat × Bool)}
theorem x_pload {α : Type} {e : Enc α} {f : α → List Cell} [hc : CellsOf e f] {T B n : Nat} {x : Operand} {z : α} {cs : List Cell} (hN : Nat.blt d N = true) (h : evo s.t x = some (.one (.epo B e z 0))) (hT : kindT P T = some (some n)) (hl : (f z).length = n) (hcs : (f z).map (upC B) = cs) :
    Stp P N ⟨some d, .load T x, ty, pos, after, gd⟩ s ⟨(d, .agg cs) :: s.t, s.l⟩ ⟨rdo x (.one (.epo B e z 0)), [], [(d, .agg cs)], [], []⟩ :=
  Stp.pure rfl hN (rdo_of h) (by simp) fun g s' a w ht hl' r => by
    obtain ⟨gb, o, vs, b, h1, h2, h3, h4, h5⟩ : CellR g s'.l w (a.eval x) (.epo B e z 0) := eval_ok r (evs_of h) ht
    have hfr := hc.iff.1 h3
    subst hcs
    have hlen : vs.length = n := by rw [← hl]; exact hfr.length
    have hrun := run_load_agg (P := P) (T := T) hT (w := w) (a := ⟨gb, o + 0, none⟩) hlen (fun j v hj => by rw [addr_add]; exact h5 j v hj)
    exact ⟨_, by simp only [execOp, Instr.loadAt, h1, Instr.sureAddr, Sem.run_bind, Sem.run_pure, Result.andThen_ok, hrun], ⟨vs, rfl, hfr.all2o fun i hi => h4 i hi⟩⟩
end pload
/-! ### The entry of a law -/
def EndT (r : Nat) (s : St) : Prop := lk s.t r = some (.one (.c (.bool true)))
def EndQ (r : Nat) : Exit → St → Prop
  | .ret, s => EndT r s
  | _, _ => False
theorem AM_law {P : Program} {f : FuncId} {fn : Func} {c : Code} {N r : Nat} {args : List AVal} (hf : P.funcs[f]? = some fn) (hb : fn.body = some c) (hN : fn.ntmps = N) (hA : Nat.ble args.length N = true) (hr : fn.results = #[.tmp r])
    (w : World) (cargs : Array Value) (ha : All2 (VR1 (allI w) [] w) cargs.toList args) (h : ∀ B, AM P N B c (EndT r) (EndQ r) ⟨args0 args 0, []⟩) : Calls P f cargs w fun e w' => e = .returned (.bool true) ∧ Below w.heap.size w w' := by
  subst hN
  have R := entry_rep (N := fn.ntmps) (allI_mem w) ha (Nat.le_of_ble_eq_true hA)
  refine calls_of_wp hf hb (Go.wp_mono (h w.heap.size (allI w) _ w R ⟨Nat.le_refl _, fun b hb => hb, fun b ⟨k, blk, hk, _⟩ => by simp [lkl, lk] at hk⟩) ?_)
  rintro e a1 w1 ⟨g1, s1, R1, p1, b1, hR⟩
  have fin : EndT r s1 → a1.defers = [] ∧ ∃ v, (results fn a1.tmps).run P w1 = .ok v w1 ∧ Ending.returned v = .returned (.bool true) ∧ Below w.heap.size w w1 := fun ht => by
    have hv : a1.tmps.getD r undef = .bool true ∧ wfV (.bool true) := R1.tmp r _ ht
    exact ⟨R1.defers, _, results_tmp hr _ _ _, by rw [hv.1], b1⟩
  cases e with
  | normal => exact fin hR
  | ret => exact fin hR
  | exit id => exact hR.elim
  | goto l => exact hR.elim
  | panic ch => exact hR.elim
  | outgrown => exact hR.elim
end Go.Proofs.Ytibhoanjglfaoaa

/- Texts and bytes in the abstract walk: the bytes of a text, appended. -/
namespace Go.Proofs.Ytibhoanjglfaoaa
open Go.RowKit
set_option linter.unusedVariables false

/-- The bytes of a text. -/
def strBytes (s : ByteArray) : List Int := s.data.toList.map fun b => (b.toNat : Int)
theorem strBytes_len (s : ByteArray) : (strBytes s).length = s.size := by rw [strBytes, List.length_map, Array.length_toList]; rfl
theorem u8_fine (b : UInt8) : (Lit.int .u8 (b.toNat : Int)).wf = true := by
  have := b.toNat_lt
  simp only [Lit.wf, Bool.and_eq_true, decide_eq_true_eq]
  have h1 : IntKind.u8.min = 0 := rfl
  have h2 : IntKind.u8.max = 255 := rfl
  rw [h1, h2]; omega
theorem FR.bytes {w : World} : ∀ (l : List UInt8), FR w (l.map fun b => Value.int .u8 b.toNat) ((l.map fun b => (b.toNat : Int)).flatMap fun n => [Cell.c (.int .u8 n)]) []
  | [] => rfl
  | b :: l => ⟨[], [], rfl, ⟨rfl, u8_fine b, rfl⟩, FR.bytes l⟩
theorem run_app_str {P : Program} (w : World) (t u ty e : TypeId) (i : TypeInfo) (ht : P.underlying t = some (.slice e)) (hu : P.underlying u = some .string) (hi : P.info? e = some i) (hz : i.zero = some (.int .u8 0))
    (hsize : i.size = 1) (hby : i.bytes = 1) (v : Value) (n : Nat) (xs : List Value) (hown : w.ownsRow 0 e 1 v n xs) (s : ByteArray) (hle : n + s.size ≤ 1000000000) :
    ∃ v' w', (Builtin.append_ #[t, u] ty #[v, .string s]).run P w = .ok v' w' ∧ w'.ownsRow 0 e 1 v' (n + s.size) (xs ++ Lib.strCells s) ∧ w.grownBy w' v.ownBlock ∧
      ∀ b, v'.ownBlock = some b → v.ownBlock = some b ∨ w.heap.size ≤ b := by
  obtain ⟨v', w', q1, q2, q3, q4⟩ := Lib.run_append_own_string (P := P) w 0 t u ty e i ht hu hi hz hsize hby v n xs hown s (by unfold maxLen; omega) (by omega) (Nat.zero_le _)
  refine ⟨v', w', q1, q2, q3, fun b hb => ?_⟩
  have hxl : xs.length = n := by simpa using hown.1
  rcases hown.2 with ⟨rfl, rfl⟩ | ⟨g, cap, cur, rfl, hbg, hg, hnc, hcm, hcs, htake⟩
  · by_cases hm : s.size = 0
    · rw [q4.2 ⟨rfl, hm⟩] at hb; cases hb
    · have hr := run_append_nil_string (P := P) w t u ty e i (.int .u8 0) ht hu hi hz s (by omega) (by omega) (by rw [hby]; omega)
      rw [hr] at q1
      cases q1
      right
      cases hb
      exact Nat.le_refl _
  · by_cases hroom : n + s.size ≤ cap
    · have hcs' : cur.size = cap := by simpa using hcs
      have hr := Lib.run_append_room_string (P := P) w t u ty e i ht hu hi hsize g n cap cur hg s hroom (by omega)
      rw [hr] at q1
      cases q1
      left
      exact hb
    · have holds : ∀ j u, xs[j]? = some u → w.cell? ((⟨g, 0, none⟩ : Addr).add j) = some u := hown.cells (g := g) rfl
      have hr := Lib.run_append_grow_string (P := P) w t u ty e i (.int .u8 0) ht hu hi hz ⟨g, 0, none⟩ n cap xs (by rw [hsize]; simpa using hxl) holds s (by omega) (by omega) (by rw [hby]; exact growslice_fits (by omega) (by omega))
      rw [hr] at q1
      cases q1
      right
      cases hb
      exact Nat.le_refl _
section ops
variable {P : Program} {N : Nat} {s : St} {d : Nat} {ty : TypeId} {pos : String} {after : Array Edge} {gd : Option (Nat × Bool)}
/-- The type of slices of bytes and that of texts. -/
def byteT (P : Program) (T U E : TypeId) : Bool :=
  match P.underlying T, P.underlying U, P.underlying E, P.info? E with
  | some (.slice E'), some .string, some (.int .u8), some i => Nat.beq E' E && Nat.beq i.size 1 && Nat.beq i.bytes 1 && (match i.zero with | some (.int .u8 z) => (match z with | .ofNat 0 => true | _ => false) | _ => false)
  | _, _, _, _ => false
theorem byteT_spec {T U E : TypeId} (h : byteT P T U E = true) : P.underlying T = some (.slice E) ∧ P.underlying U = some .string ∧ P.underlying E = some (.int .u8) ∧ ∃ i, P.info? E = some i ∧ i.size = 1 ∧ i.bytes = 1 ∧ i.zero = some (.int .u8 0) := by
  unfold byteT at h
  split at h
  · rename_i E' i h1 h2 h3 h4
    simp only [Bool.and_eq_true] at h
    obtain ⟨⟨⟨e1, e2⟩, e3⟩, e4⟩ := h
    obtain rfl := Nat.eq_of_beq_eq_true e1
    refine ⟨h1, h2, h3, i, h4, Nat.eq_of_beq_eq_true e2, Nat.eq_of_beq_eq_true e3, ?_⟩
    split at e4
    · rename_i z hz
      split at e4
      · rw [hz]; rfl
      · cases e4
    · cases e4
  · cases h
theorem run_appop2 {a : Act} {w w' : World} {v' : Value} {x y : Operand} {T U : TypeId} (h : (Builtin.append_ #[T, U] ty #[a.eval x, a.eval y]).run P w = .ok v' w') :
    (execOp a.eval ⟨some d, .call { callee := .builtin .append, args := #[x, y], argTypes := #[T, U] }, ty, pos, after, gd⟩).run P w = .ok (.value v') w' := by
  simp only [execOp, resolve, invoke, builtin, Sem.run_bind, Sem.run_pure, Result.andThen_ok, List.map_toArray, List.map_cons, List.map_nil, h]
/-- append of a text's bytes. -/
theorem x_append_str {T U E : TypeId} {x y : Operand} {xs : List Int} {b : ByteArray} {d1 : Bool} {k : Nat} (k' : Nat) (hN : Nat.blt d N = true)
    (h : evo s.t x = some (.one (.own k))) (h2 : evo s.t y = some (.one (.c (.string b)))) (hl : lkl s.l k = some (.arr E (intE .u8) xs d1))
    (hT : byteT P T U E = true) (hk : lk s.l k' = none) (hi : noId k' s.ids = true) (hbnd : xs.length + b.size ≤ 1000000000) :
    Stp P N ⟨some d, .call { callee := .builtin .append, args := #[x, y], argTypes := #[T, U] }, ty, pos, after, gd⟩ s ⟨(d, .one (.own k')) :: s.t, (k', some (.arr E (intE .u8) (xs ++ strBytes b) d1)) :: (gones [k] ++ s.l)⟩
      ⟨rdo x (.one (.own k)) ++ rdo y (.one (.c (.string b))), [(k, .arr E (intE .u8) xs d1)], [(d, .one (.own k'))], (k', some (.arr E (intE .u8) (xs ++ strBytes b) d1)) :: gones [k], [k']⟩ := by
  refine ⟨fun K g s' a w hp r => ?_, ⟨two_rd h h2, by simp [hl], fun j hj => by simp at hj; subst hj; exact ⟨hk, noId_of hi⟩⟩, by simp [Cert.upd]⟩
  obtain ⟨p1, p2, p3⟩ := hp
  have e1 : CellR g s'.l w (a.eval x) (.own k) := eval_ok r (evs_of h) fun p hp => p1 p (List.mem_append_left _ hp)
  have e2 : a.eval y = .string b := (eval_ok r (evs_of h2) fun p hp => p1 p (List.mem_append_right _ hp) : CellR g s'.l w (a.eval y) (.c (.string b))).1
  have hl' : lkl s'.l k = some (.arr E (intE .u8) xs d1) := p2 (k, .arr E (intE .u8) xs d1) (by simp)
  replace e1 := e1 _ _ _ _ _ hl'
  obtain ⟨n1, n2⟩ := p3 k' (by simp)
  obtain ⟨hu, hus, he, ti, hti, t1, t2, t3⟩ := byteT_spec hT
  obtain ⟨cells, b1, r1, f1, i1, F1, ob1⟩ := (r.mem.arr k _ _ _ _ _ hl').row
  obtain ⟨v', w', q1, q2, q3, q4⟩ := run_app_str (P := P) w T U ty E ti hu hus hti t3 t1 t2 _ _ _ r1 b hbnd
  have hgone : ∀ i ∈ [k], ∃ (α : Type) (T : TypeId) (e : Enc α) (xs : List α) (d : Bool), lkl s'.l i = some (.arr T e xs d) := fun i hi => by
    simp at hi
    subst hi
    exact ⟨Int, E, intE .u8, xs, d1, hl'⟩
  have hb1 : b1 = [] := FR.nofp (e := intE .u8) (fun w cs y b h => h.2.2) f1
  subst hb1
  obtain ⟨g', s1, s2, s3, s4, s5, s6⟩ := app_lay (w' := w') r.mem n1 (fun h => n2 (List.mem_append_right _ h)) (js := [k]) (List.mem_cons_self ..) hgone (E := E) (e := intE .u8) (xs := xs) (ys := strBytes b) (d := d1) f1 (FR.bytes (w := w) b.data.toList)
    (fun b hb => by cases hb) ob1 (by rw [strBytes_len]; exact q2) q3 q4 (fun _ => ⟨List.nodup_nil, fun b hb => by cases hb⟩)
  unfold Oper.wp
  rw [run_appop2 (by rw [e1, e2]; exact q1), Oper.upon_value]
  refine ⟨g', r.next (blt_lt hN) s4 s5 q3.size (fun j hj => s6 j fun e => n2 (e ▸ hj)) (fun β U e2 ys dd hc => ?_) s2, s3 K⟩
  exact s1.symm
/-- New blocks that nobody writes. -/
def Gh.more (g : Gh) (w w' : World) : Gh := { g with I := fun b => g.I b ∨ (w.heap.size ≤ b ∧ b < w'.heap.size) }
theorem MemR.grow {g : Gh} {l : Locs} {w w' : World} (m : MemR g l w) (hk : ∀ b, b < w.heap.size → w'.heap[b]? = w.heap[b]?) (hs : w.heap.size ≤ w'.heap.size) : MemR (g.more w w') l w' where
  ilt := fun b hb => hb.elim (fun h => Nat.lt_of_lt_of_le (m.ilt b h) hs) fun h => h.2
  box := fun k cs hl => by
    obtain ⟨vs, t, h1, h2, h3⟩ := m.box k cs hl
    have hlt : g.ρ k < w.heap.size := (Array.getElem?_eq_some_iff.1 h1).1
    refine ⟨vs, t, (hk _ hlt).trans h1, h2.mono fun a b _ hr => CellR.step (fun b hb => hk b (m.ilt b hb)) (fun _ h => .inl h) hs (fun _ _ => okK.same rfl rfl rfl) hr, fun h => h.elim h3 fun h => ?_⟩
    have h4 : w.heap.size ≤ g.ρ k := h.1
    omega
  arr := fun k α T e xs d hl => by
    rcases m.arr k α T e xs d hl with h | ⟨cap, vs, bss, h1, h2, h3, h4, h5, h6, h7, h8, h9⟩
    · exact .inl h
    · have hlt : g.ρ k < w.heap.size := (Array.getElem?_eq_some_iff.1 h4).1
      refine .inr ⟨cap, vs, bss, h1, h2, h3, (hk _ hlt).trans h4, h5, h6.keep (hk _ hlt) (fun b hb => hk b (m.ilt b (h7 b hb))) hs, fun b hb => .inl (h7 b hb), fun h => h.elim h8 fun h => ?_, h9⟩
      have h10 : w.heap.size ≤ g.ρ k := h.1
      omega
  dis := fun j k b b' h1 h2 h3 h4 h5 => m.dis j k b b' h1 h2 h3 (by cases b <;> exact h4) (by cases b' <;> exact h5)
  fr := fun k α T e xs hl => by
    obtain ⟨h1, h2⟩ := m.fr k α T e xs hl
    refine ⟨h1, fun b hb => ⟨.inl (h2 b hb).1, ?_⟩⟩
    obtain ⟨c, t, h⟩ := (h2 b hb).2
    exact ⟨c, t, (hk b (m.ilt b (h2 b hb).1)).trans h⟩
  fd := m.fd
/-- The bytes of a text, in new memory that nobody writes. -/
theorem x_bytes {T U E : TypeId} {x : Operand} {b : ByteArray} (hN : Nat.blt d N = true) (h : evo s.t x = some (.one (.c (.string b)))) (hT : byteT P T U E = true) :
    Stp P N ⟨some d, .convert U T x, ty, pos, after, gd⟩ s ⟨(d, .one (.sl (intE .u8) (strBytes b))) :: s.t, s.l⟩ ⟨rdo x (.one (.c (.string b))), [], [(d, .one (.sl (intE .u8) (strBytes b)))], [], []⟩ := by
  refine ⟨fun K g s' a w hp r => ?_, ⟨rdo_of h, by simp, fun j hj => by cases hj⟩, rfl⟩
  obtain ⟨p1, p2, p3⟩ := hp
  obtain ⟨e2, hwf⟩ : CellR g s'.l w (a.eval x) (.c (.string b)) := eval_ok r (evs_of h) p1
  have hsz : b.size ≤ maxLen := hwf
  obtain ⟨hu, hus, he, ti, hti, t1, t2, t3⟩ := byteT_spec hT
  have hrun := Lib.run_convert_string_bytes (P := P) w U T E b hus hu he
  have hold := Lib.bytesWorld_at_old w E b
  have hnew := Lib.bytesWorld_at_new w E b
  have hsize := Lib.bytesWorld_size w E b
  have hcap := grownCap_ge w b.size 0 E
  have hcm : grownCap w b.size 0 E ≤ maxLen := grownCap_le_maxLen w b.size 0 E hsz
  have hcell := Lib.bytesWorld_cell w E b
  have hos : (Lib.bytesWorld w E b).os = w.os ∧ (Lib.bytesWorld w E b).tape = w.tape ∧ (Lib.bytesWorld w E b).output = w.output := by
    refine ⟨?_, ?_, ?_⟩ <;> simp [Lib.bytesWorld, World.freeze, World.alloc, World.drew, -World.alloc_eq, -World.drew_eq]
  generalize Lib.bytesWorld w E b = w' at *
  clear hnew
  generalize grownCap w b.size 0 E = cp at *
  have hs : w.heap.size ≤ w'.heap.size := by omega
  have m' := r.mem.grow hold hs
  unfold Oper.wp
  have hrun' : (execOp a.eval ⟨some d, .convert U T x, ty, pos, after, gd⟩).run P w = .ok (.value (.slice (some ⟨w.heap.size, 0, none⟩) b.size cp)) w' := by
    simp only [execOp, e2, Sem.run_bind, hrun, Result.andThen_ok]; rfl
  rw [hrun', Oper.upon_value]
  have hI : ∀ c, g.I c → w'.heap[c]? = w.heap[c]? := fun c hc => hold c (r.mem.ilt c hc)
  refine ⟨g.more w w', r.next (blt_lt hN) hI (fun _ h => .inl h) hs (fun _ _ => okK.same rfl rfl rfl) ?_ m', ⟨hos.1, hos.2.1, hos.2.2, hs, fun c hc _ => hold c hc, fun _ h => .inl h, fun c hc => hc.elim .inl fun h => .inr (.inl h.1), fun c hc => ?_, fun k _ hk => ⟨hk, okK.same rfl rfl rfl, fun cs h => ⟨cs, h⟩⟩⟩⟩
  · show CellR (g.more w w') s'.l w' _ (.sl (intE .u8) (strBytes b))
    by_cases hb : strBytes b = []
    · have h0 : b.size = 0 := by rw [← strBytes_len, hb]; rfl
      rw [hb, h0]
      exact ⟨_, _, _, [], rfl, ⟨rfl, Nat.zero_le _, by omega, (fun h => by cases h), .inl ⟨rfl, rfl⟩⟩, fun _ hc => by cases hc⟩
    · refine ⟨_, _, _, w.heap.size :: (List.replicate b.size []).flatten, rfl, SliceRep.mk (by rw [strBytes_len]) hcap hcm hb (by omega) ⟨by simp [strBytes_len], fun i x c hx hc => ?_⟩, fun c hc => ?_⟩
      · obtain ⟨hi, rfl⟩ := List.getElem?_eq_some_iff.1 hx
        rw [List.getElem?_replicate] at hc
        split at hc
        · cases hc
          refine ⟨[.int .u8 (strBytes b)[i]], ⟨rfl, ?_, rfl⟩, fun j u hu => ?_⟩
          · simp only [strBytes, List.getElem_map]; exact u8_fine _
          · cases j with
            | zero =>
              cases hu
              have hi' : i < b.size := by rw [← strBytes_len]; exact hi
              have := hcell i hi'
              have e3 : 0 + i * (intE .u8).size + 0 = i := by show 0 + i * 1 + 0 = i; omega
              rw [e3, this]
              simp [strBytes, List.getD, hi']
            | succ j => cases hu
        · cases hc
      · right
        rcases List.mem_cons.1 hc with rfl | hc
        · exact ⟨Nat.le_refl _, by omega⟩
        · simp at hc
  · obtain ⟨k, blk, hk, h2⟩ := hc
    exact .inl ⟨k, blk, hk, by cases blk <;> exact h2⟩
end ops
end Go.Proofs.Ytibhoanjglfaoaa

/- A contract that takes arrays and leaves others, under other numbers. -/
namespace Go.Proofs.Ytibhoanjglfaoaa
open Go.RowKit
set_option linter.unusedVariables false

theorem all2_unren {r : Nat → Nat} {l L : Locs} {g : Gh} {w : World} (hL : LeL r l L) : ∀ {vs : List Value} {xs : List AVal}, All2 (VR1 g l w) vs (xs.map (AVal.ren1 r)) → All2 (VR1 (g.ren r) L w) vs xs
  | [], [], _ => trivial
  | v :: vs, x :: xs, h => ⟨VR1.unren hL h.1, all2_unren hL h.2⟩
  | [], _ :: _, h => by cases h
  | _ :: _, [], h => by cases h
/-- A contract that takes the blocks L: what becomes of them is not told. -/
structure AT (P : Program) (f : FuncId) (args : List AVal) (L : Locs) (res : AVal) (L' : Locs) : Prop where
  fn : Callable P f
  run : ∀ (g : Gh) (w : World) (cargs : Array Value), MemR g L w → All2 (VR1 g L w) cargs.toList args →
    Calls P f cargs w fun e w' => ∃ v g', e = .returned v ∧ MemR g' L' w' ∧ VR g' L' w' v res ∧ Step [] g L w g' L' w'
section body
variable {P : Program} {N : Nat} {f : FuncId} {fn : Func} {c : Code} {args : List AVal} {L L' : Locs}
theorem AT_of {res : AVal} {T : Tmps} (hf : P.funcs[f]? = some fn) (hb : fn.body = some c) (hn : (fn.name == "runtime.NumGoroutine") = false) (hN : fn.ntmps = N) (hA : Nat.ble args.length N = true)
    (hr : ∀ (g : Gh) (a : Act) (w : World), Rep N g ⟨T, L'⟩ a w → ∃ v, (results fn a.tmps).run P w = .ok v w ∧ VR g L' w v res)
    (h : AW P N [] c (RetS [] T L') (RetQ [] T L') ⟨args0 args 0, L⟩) : AT P f args L res L' := by
  refine ⟨⟨fn, c, hf, hb, hn⟩, fun g w cargs m ha => ?_⟩
  subst hN
  have R := entry_rep m ha (Nat.le_of_ble_eq_true hA)
  refine calls_of_wp hf hb (Go.wp_mono (h g _ w R) ?_)
  rintro e a1 w1 ⟨g1, s1, R1, hs, hR⟩
  have fin : RetS [] T L' s1 → a1.defers = [] ∧ ∃ v, (results fn a1.tmps).run P w1 = .ok v w1 ∧ ∃ v' g', Ending.returned v = .returned v' ∧ MemR g' L' w1 ∧ VR g' L' w1 v' res ∧ Step [] g L w g' L' w1 := by
    rintro ⟨r, hle⟩
    have R2 := R1.le hle
    obtain ⟨v, h1, h2⟩ := hr _ a1 w1 R2
    exact ⟨R1.defers, v, h1, v, _, rfl, R2.mem, h2, hs.trans m R1.mem (Step.unren hle.l hle.k)⟩
  cases e with
  | normal => exact fin hR
  | ret => exact fin hR
  | exit id => exact hR
  | goto l => exact hR
  | panic ch => exact hR.elim
  | outgrown => exact hR.elim
theorem AT_body1 {r : Nat} {x : AVal} (hf : P.funcs[f]? = some fn) (hb : fn.body = some c) (hn : (fn.name == "runtime.NumGoroutine") = false) (hN : fn.ntmps = N) (hA : Nat.ble args.length N = true) (hr : fn.results = #[.tmp r])
    (h : AW P N [] c (RetS [] [(r, x)] L') (RetQ [] [(r, x)] L') ⟨args0 args 0, L⟩) : AT P f args L x L' :=
  AT_of hf hb hn hN hA (fun g a w R => ⟨_, results_tmp hr _ _ _, R.tmp r x lk_cons_self⟩) h
end body
/-- The lent blocks l are all gone behind the call. -/
theorem AT.lend {P : Program} {f : FuncId} {args : List AVal} {L L' l l' : Locs} {res' : AVal} (r s : Nat → Nat) (h : AT P f args L (res'.ren s) L') (hL : LeL r l L) (hi : injL r (keys L) = true) (hL' : LeL s L' l') (hi' : injL s (keys l') = true)
    (hg : ∀ k ∈ keys l, lk l' k = some none) (hb : ∀ k cs, lkl l k ≠ some (.box cs)) : AC P f (args.map (AVal.ren1 r)) l res' l' :=
  ⟨h.fn, fun g w cargs m ha => (h.run (g.ren r) w cargs (m.unren hL hi) (all2_unren hL ha)).mono (by
    rintro e w' ⟨v, g1, rfl, m1, hv, hs⟩
    have m0 := m.unren hL hi
    have A : Step [] g l w (g.ren r) L w := Step.unren hL trivial
    have B : Step [] (g.ren r) L w g1 L' w' := hs
    have C : Step [] g1 L' w' (g1.ren s) l' w' := Step.unren hL' trivial
    have T := (A.trans m m0 B).trans m m1 C
    refine ⟨v, g1.ren s, rfl, m1.unren hL' hi', VR.unren hL' hv, { T with base := fun k hk hn => ?_ }⟩
    have h1 := hg k hk
    have h2 : lkl l' k = none := by unfold lkl; rw [h1]
    exact ⟨by rw [h1]; simp, okK.gone h2, fun cs hc => absurd hc (hb k cs)⟩)⟩
/-- One array is taken, one is left. -/
theorem AT.lend1 {P : Program} {f : FuncId} {rest : List AVal} {α β : Type} {T U : TypeId} {e : Enc α} {e' : Enc β} {xs : List α} {ys : List β} {d d' : Bool}
    (h : AT P f (.one (.own 0) :: rest) [(0, some (.arr T e xs d))] (.one (.own 1)) [(1, some (.arr U e' ys d'))]) (a c : Nat) (hac : Nat.beq a c = false) (hrest : ∀ r, rest.map (AVal.ren1 r) = rest) :
    AC P f (.one (.own a) :: rest) [(a, some (.arr T e xs d))] (.one (.own c)) [(a, none), (c, some (.arr U e' ys d'))] := by
  have hne : a ≠ c := fun h => by rw [h, Nat.beq_refl] at hac; cases hac
  have hs : (fun k => bif Nat.beq k a then 0 else 1) c = 1 := by
    show (bif Nat.beq c a then 0 else 1) = 1
    have : Nat.beq c a = false := by
      cases e : Nat.beq c a
      · rfl
      · exact absurd (Nat.eq_of_beq_eq_true e).symm hne
    rw [this]; rfl
  have := AT.lend (res' := .one (.own c)) (l := [(a, some (.arr T e xs d))]) (l' := [(a, none), (c, some (.arr U e' ys d'))]) (fun _ => a) (fun k => bif Nat.beq k a then 0 else 1) (L := [(0, some (.arr T e xs d))]) (L' := [(1, some (.arr U e' ys d'))])
    (by show AT P f _ _ (.one (.own _)) _; rw [hs]; exact h) ⟨⟨.arr T e xs d, by simp [lkl, lk], (BLe.rf : BLe (.arr T e xs d) (.arr T e xs d))⟩, trivial⟩ (by simp [injL, keys]) ⟨⟨_, by rw [hs]; rfl, BLe.rf⟩, trivial⟩ (by
      have h2 : Nat.beq c a = false := by
        cases e : Nat.beq c a
        · rfl
        · exact absurd (Nat.eq_of_beq_eq_true e).symm hne
      simp [injL, keys, h2]
      rfl) (fun k hk => by simp [keys] at hk; subst hk; simp [lk]) (fun k cs hc => by
        cases hq : Nat.beq a k <;> simp [lkl, lk, hq] at hc)
  rw [List.map_cons, hrest] at this
  exact this
end Go.Proofs.Ytibhoanjglfaoaa

/- A delta that fits a store, in plain words. -/
namespace Go.Proofs.Ytibhoanjglfaoaa
open Go.RowKit
set_option linter.unusedVariables false

theorem relOk_vals2 {a : Relt} (h : relOk a = true) : ∀ r ∈ a.rows, ∀ v ∈ r, valOk v = true := fun r hr v hv => by
  obtain ⟨j, hj, rfl⟩ := List.getElem_of_mem hr
  exact (relOk_sorted h).1 j hj v hv
section
variable {s : Storet} {l : List Changet} {k : Nat} (hk : k < l.length)
end
end Go.Proofs.Ytibhoanjglfaoaa

/- Plain laws on relations that are copied, marked, counted. -/
namespace Go.Proofs.Ytibhoanjglfaoaa
open Go.RowKit
set_option linter.unusedVariables false

end Go.Proofs.Ytibhoanjglfaoaa

/- Copies of relations, deltas turned back, deltas between stores, in plain words. -/
namespace Go.Proofs.Ytibhoanjglfaoaa
open Go.RowKit
set_option linter.unusedVariables false

end Go.Proofs.Ytibhoanjglfaoaa

/- RelPick, RelDrop in plain words. -/
namespace Go.Proofs.Ytibhoanjglfaoaa
open Go.RowKit
set_option linter.unusedVariables false

theorem relOk_parts {r : Relt} (h : relOk r = true) : GoodTo r.rows r.arity r.rows.length ∧ 0 ≤ r.arity ∧ r.arity ≤ 6 ∧ r.rows.length ≤ 300 := by
  simp only [relOk, Bool.and_eq_true, decide_eq_true_eq] at h
  exact ⟨relRows_good h.1, h.2.1.1, h.2.1.2, h.2.2⟩
theorem GoodTo.len {rows : List (List Val)} {ar : Int} {k j : Nat} (h : GoodTo rows ar k) (hj : j < rows.length) (hjk : j < k) : (rows[j].length : Int) = ar := by
  have := h j hj hjk
  cases j with
  | zero => simp only [rowAt, Bool.and_eq_true, beq_iff_eq] at this; exact this.2
  | succ j => simp only [rowAt, Bool.and_eq_true, beq_iff_eq] at this; exact this.1.2
theorem relOk_ar {r : Relt} (h : relOk r = true) {k : Nat} (hk : k < r.rows.length) : (r.rows[k].length : Int) = r.arity := (relOk_parts h).1.len hk hk
end Go.Proofs.Ytibhoanjglfaoaa

/- Numbers and texts ars bytes, in plain words. -/
namespace Go.Proofs.Ytibhoanjglfaoaa
open Go.RowKit
set_option linter.unusedVariables false

/-- The bytes of n, the highest first, but for the last j of size. -/
def putTo (n : Int) (size j : Nat) : List Int := (List.range (size - j)).map fun q => n / 256 ^ (size - 1 - q) % 256
def putB (n : Int) (size : Nat) : List Int := putTo n size 0
theorem putTo_start {n : Int} {size : Nat} : putTo n size size = [] := by simp [putTo]
theorem putTo_more {n : Int} {size j : Nat} (h : j < size) : putTo n size (j + 1) ++ [n / 256 ^ j % 256] = putTo n size j := by
  unfold putTo
  rw [show size - j = size - (j + 1) + 1 by omega, List.range_succ, List.map_append, List.map_cons, List.map_nil, show size - 1 - (size - (j + 1)) = j by omega]
theorem putTo_len {n : Int} {size j : Nat} : (putTo n size j).length = size - j := by simp [putTo]
theorem putB_len {n : Int} {size : Nat} : (putB n size).length = size := by simp [putB, putTo]
theorem shr8 {m : Int} {i : Nat} (h0 : 0 ≤ m) (hi : i ≤ 6) : m.fdiv (2 ^ (min (8 * (i : Int)).toNat IntKind.i64.bits)) = m / 256 ^ i := by
  have e : (2 : Int) ^ (min (8 * (i : Int)).toNat IntKind.i64.bits) = 256 ^ i := by
    have h : i = 0 ∨ i = 1 ∨ i = 2 ∨ i = 3 ∨ i = 4 ∨ i = 5 ∨ i = 6 := by omega
    rcases h with rfl | rfl | rfl | rfl | rfl | rfl | rfl <;> rfl
  rw [e, Int.fdiv_eq_ediv_of_nonneg _ (Int.pow_nonneg (by omega))]
theorem div256_in {m : Int} {i : Nat} (h0 : 0 ≤ m) : 0 ≤ m / 256 ^ i ∧ m / 256 ^ i ≤ m :=
  ⟨Int.ediv_nonneg h0 (Int.pow_nonneg (by omega)), Int.ediv_le_self _ h0⟩
theorem wf64i {m : Int} (h0 : 0 ≤ m) (h1 : m ≤ 9223372036854775807) : (Lit.int .i64 m).wf = true := by
  simp only [Lit.wf, Bool.and_eq_true, decide_eq_true_eq]
  have a : IntKind.i64.min = -9223372036854775808 := rfl
  have b : IntKind.i64.max = 9223372036854775807 := rfl
  rw [a, b]; omega
theorem wrap8 (m : Int) : IntKind.u8.wrap m = m % 256 := rfl
theorem wrap8_id {m : Int} (h0 : 0 ≤ m) (h1 : m < 256) : IntKind.u8.wrap m = m := by rw [wrap8]; omega
theorem texts_eq {a b : ByteArray} (h : a.data.toList = b.data.toList) : a = b := by
  obtain ⟨⟨a⟩⟩ := a
  obtain ⟨⟨b⟩⟩ := b
  simp at h; rw [h]
def valBytes (v : Val) : List Int := if (v.s == (⟨#[]⟩ : ByteArray)) = true then [0] ++ putB v.n 6 else [(v.s.size : Int)] ++ strBytes v.s
theorem valBytes_num {v : Val} (h : (v.s == (⟨#[]⟩ : ByteArray)) = true) : valBytes v = [0] ++ putB v.n 6 := by simp [valBytes, h]
theorem valBytes_word {v : Val} (h : (v.s == (⟨#[]⟩ : ByteArray)) = false) : valBytes v = [(v.s.size : Int)] ++ strBytes v.s := by simp [valBytes, h]
theorem valOk_in {v : Val} (h : valOk v = true) : 0 ≤ v.n ∧ v.n ≤ 281474976710655 ∧ v.s.size ≤ 12 := by
  unfold valOk at h
  split at h
  · rename_i he
    have : v.s.size = 0 := by
      rw [ByteArray.toList_eq] at he
      have : v.s.data.toList = [] := by simpa using he
      have h2 := congrArg List.length this
      rw [Array.length_toList] at h2
      exact h2
    simp only [numB, decide_eq_true_eq] at h
    exact ⟨h.1, h.2, by omega⟩
  · simp only [Bool.and_eq_true, beq_iff_eq, wordB, shortB, decide_eq_true_eq] at h
    exact ⟨by omega, by omega, by omega⟩
theorem valBytes_len {v : Val} (h : valOk v = true) : (valBytes v).length ≤ 13 := by
  have := valOk_in h
  unfold valBytes; split
  · simp [putB_len]
  · simp [strBytes_len]; omega
def flatTo {α : Type} (f : α → List Int) (xs : List α) (k : Nat) : List Int := (xs.take k).flatMap f
theorem flatTo_zero {α : Type} {f : α → List Int} {xs : List α} : flatTo f xs 0 = [] := rfl
theorem flatTo_more {α : Type} {f : α → List Int} {xs : List α} {k : Nat} (hk : k < xs.length) : flatTo f xs k ++ f xs[k] = flatTo f xs (k + 1) := by
  unfold flatTo; rw [List.take_succ_eq_append_getElem hk, List.flatMap_append]; simp
theorem flatTo_all {α : Type} {f : α → List Int} {xs : List α} {k : Nat} (hk : xs.length ≤ k) : flatTo f xs k = xs.flatMap f := by unfold flatTo; rw [List.take_of_length_le hk]
theorem flatTo_len {α : Type} {f : α → List Int} {xs : List α} {M k : Nat} (h : ∀ x ∈ xs, (f x).length ≤ M) : (flatTo f xs k).length ≤ M * xs.length := by
  have : ∀ (ys : List α), (∀ x ∈ ys, (f x).length ≤ M) → (ys.flatMap f).length ≤ M * ys.length := by
    intro ys
    induction ys with
    | nil => simp
    | cons y ys ih =>
      intro h
      have h1 := h y (by simp)
      have h2 := ih fun x hx => h x (by simp [hx])
      simp only [List.flatMap_cons, List.length_append, List.length_cons, Nat.mul_succ]; omega
  have h1 := this (xs.take k) fun x hx => h x (List.mem_of_mem_take hx)
  have h2 : (xs.take k).length ≤ xs.length := by simp; omega
  exact Nat.le_trans h1 (Nat.mul_le_mul_left _ h2)
def rowBytes (r : List Val) : List Int := r.flatMap valBytes
def namedBytes (x : Namedt) : List Int := [(x.name.size : Int)] ++ strBytes x.name ++ [x.rel.arity] ++ putB x.rel.rows.length 2 ++ x.rel.rows.flatMap rowBytes
def storeB (s : Storet) : List Int := [(s.rels.length : Int)] ++ s.rels.flatMap namedBytes
def storeBytes (s : Storet) : List Int × Bool := if storeOk s = true then (if 60000 < (storeB s).length then ([], false) else (storeB s, true)) else ([], false)
theorem storeBytes_no {s : Storet} (h : storeOk s = false) : storeBytes s = ([], false) := by simp [storeBytes, h]
theorem storeBytes_big {s : Storet} (h : storeOk s = true) (hs : 60000 < ((storeB s).length : Int)) : storeBytes s = ([], false) := by
  have : 60000 < (storeB s).length := by omega
  simp [storeBytes, h, this]
theorem storeBytes_ok {s : Storet} (h : storeOk s = true) (hs : ¬ 60000 < ((storeB s).length : Int)) : storeBytes s = (storeB s, true) := by
  have : ¬ 60000 < (storeB s).length := by omega
  simp [storeBytes, h, this]
theorem storeOk_word {s : Storet} (h : storeOk s = true) {k : Nat} (hk : k < s.rels.length) : s.rels[k].name.size ≤ 12 := by
  simp only [storeOk, Bool.and_eq_true] at h
  have := everyB_get h.1 hk
  simp only [namedAt, Bool.and_eq_true, wordB, shortB, decide_eq_true_eq] at this
  omega
theorem relOk_small {r : Relt} (h : relOk r = true) : 0 ≤ r.arity ∧ r.arity ≤ 6 ∧ r.rows.length ≤ 300 ∧ ∀ row ∈ r.rows, row.length ≤ 6 := by
  have hp := relOk_parts h
  refine ⟨hp.2.1, hp.2.2.1, hp.2.2.2, fun row hr => ?_⟩
  obtain ⟨j, hj, rfl⟩ := List.getElem_of_mem hr
  have := relOk_ar h hj
  omega
theorem vals_len {r : Relt} (h : relOk r = true) {row : List Val} (hr : row ∈ r.rows) (k : Nat) : (flatTo valBytes row k).length ≤ 78 := by
  have h1 := flatTo_len (f := valBytes) (xs := row) (M := 13) (k := k) fun v hv => valBytes_len (relOk_vals2 h row hr v hv)
  have := (relOk_small h).2.2.2 row hr
  omega
theorem rowBytes_len {r : Relt} (h : relOk r = true) {row : List Val} (hr : row ∈ r.rows) : (rowBytes row).length ≤ 78 := by
  have := vals_len h hr row.length
  rw [flatTo_all (Nat.le_refl _)] at this; exact this
theorem rows_len {r : Relt} (h : relOk r = true) (k : Nat) : (flatTo rowBytes r.rows k).length ≤ 23400 := by
  have h1 := flatTo_len (f := rowBytes) (xs := r.rows) (M := 78) (k := k) fun row hr => rowBytes_len h hr
  have := (relOk_small h).2.2.1
  omega
theorem namedBytes_len {x : Namedt} (h : relOk x.rel = true) (hw : x.name.size ≤ 12) : (namedBytes x).length ≤ 23420 := by
  have h1 := rows_len h x.rel.rows.length
  rw [flatTo_all (Nat.le_refl _)] at h1
  simp only [namedBytes, List.length_append, List.length_cons, List.length_nil, strBytes_len, putB_len]
  omega
theorem names_len {s : Storet} (h : storeOk s = true) (k : Nat) : (flatTo namedBytes s.rels k).length ≤ 562080 := by
  have h1 := flatTo_len (f := namedBytes) (xs := s.rels) (M := 23420) (k := k) fun x hx => by
    obtain ⟨j, hj, rfl⟩ := List.getElem_of_mem hx
    exact namedBytes_len (storeOk_rel h hj) (storeOk_word h hj)
  have := storeOk_max h
  omega
theorem storeB_to {s : Storet} {k : Nat} (hk : s.rels.length ≤ k) : [(s.rels.length : Int)] ++ flatTo namedBytes s.rels k = storeB s := by
  unfold storeB; rw [flatTo_all hk]
theorem p256_in {k : Nat} (h : k ≤ 6) : 1 ≤ (256 : Int) ^ k ∧ (256 : Int) ^ k ≤ 281474976710656 := by
  have : k = 0 ∨ k = 1 ∨ k = 2 ∨ k = 3 ∨ k = 4 ∨ k = 5 ∨ k = 6 := by omega
  rcases this with rfl | rfl | rfl | rfl | rfl | rfl | rfl <;> decide
theorem quo256 {n : Int} {m : Nat} (h0 : 0 ≤ n) (h1 : n ≤ 9223372036854775807) : IntKind.i64.wrap ((n / 256 ^ m).tdiv 256) = n / 256 ^ (m + 1) := by
  have h2 := div256_in (i := m) h0
  rw [Int.tdiv_eq_ediv_of_nonneg h2.1, Int.ediv_ediv_of_nonneg (Int.pow_nonneg (by omega)), ← Int.pow_succ]
  have h3 : 0 ≤ n / 256 ^ m.succ ∧ n / 256 ^ m.succ ≤ n := div256_in (i := m + 1) h0
  exact IntWalk.i64_in _ (by omega)
theorem rem256 {n : Int} {m : Nat} (h0 : 0 ≤ n) : (n / 256 ^ m).tmod 256 = n / 256 ^ m % 256 := Int.tmod_eq_emod_of_nonneg (div256_in h0).1
theorem mod256_in (m : Int) : 0 ≤ m % 256 ∧ m % 256 < 256 := by omega
theorem putB_two (n : Int) : putB n 2 = [n / 256 % 256, n % 256] := by simp [putB, putTo, List.range_succ]
theorem putB_small {n : Int} (h0 : 0 ≤ n) (h1 : n < 65536) : putB n 2 = [n / 256, n % 256] := by
  rw [putB_two, show n / 256 % 256 = n / 256 by omega]
theorem valBytes_num2 {v : Val} (h : (v.s == (⟨#[]⟩ : ByteArray)) = true) : valBytes v = [(v.s.size : Int)] ++ putB v.n 6 := by
  have e : v.s = ⟨#[]⟩ := by
    rw [beq_toListBytes, ByteArray.toList_eq, ByteArray.toList_eq] at h
    exact texts_eq (by simpa using h)
  rw [valBytes_num h, e]; rfl
theorem storeBytes_len (s : Storet) : (storeBytes s).1.length ≤ 60000 := by
  unfold storeBytes; split
  · split
    · simp
    · simp only; omega
  · simp
end Go.Proofs.Ytibhoanjglfaoaa

/- Parts of slices and of texts; texts made of bytes; own arrays that are given up to be read alone. -/
namespace Go.Proofs.Ytibhoanjglfaoaa
open Go.RowKit
set_option linter.unusedVariables false

theorem run_sliceOf {P : Program} {T E n : Nat} (hT : sliceT P T = some (E, n)) (w : World) (a : Option Addr) (len cap : Nat) {lo hi : Option Value} {l h : Nat} (hlo : (lo = none ∧ l = 0) ∨ ∃ k, lo = some (.int k (l : Int))) (hhi : (hi = none ∧ h = len) ∨ ∃ k, hi = some (.int k (h : Int)))
    (h1 : l ≤ h) (h2 : h ≤ cap) : (Instr.sliceAt T (.slice a len cap) lo hi none).run P w = .ok (.slice (if cap = l then a else a.map (·.add (l * n))) (h - l) (cap - l)) w := by
  obtain ⟨hu, ii, hii, rfl⟩ := sliceT_spec hT
  have e1 : (0 : Int) ≤ (l : Int) ∧ (l : Int) ≤ (h : Int) := by omega
  have e2 : (0 : Int) ≤ (h : Int) ∧ (h : Int) ≤ (cap : Int) := by omega
  rcases hlo with ⟨rfl, rfl⟩ | ⟨k, rfl⟩ <;> rcases hhi with ⟨rfl, rfl⟩ | ⟨k', rfl⟩ <;>
    simp [Instr.sliceAt, Instr.slice, run_underlying hu, Instr.sliceBounds, run_sliceBound, sizeOf, typeInfo, *]
theorem part_drop {α : Type} {xs : List α} {l : Nat} : (xs.drop l).take (xs.length - l) = xs.drop l := List.take_of_length_le (by simp)
/-- A bound of a part: an operand, or the usual one. -/
inductive OB (t : Tmps) (dv : Nat) : Option Operand → List (Nat × AVal) → Nat → Prop
  | no : OB t dv none [] dv
  | yes {o : Operand} {k : IntKind} {v : Int} {l : Nat} (h : evo t o = some (.one (.c (.int k v)))) (hv : v = (l : Int)) : OB t dv (some o) (rdo o (.one (.c (.int k v)))) l
theorem OB.rd {t : Tmps} {dv : Nat} {o : Option Operand} {rd : List (Nat × AVal)} {l : Nat} (h : OB t dv o rd l) : ∀ p ∈ rd, lk t p.1 = some p.2 := by
  cases h with
  | no => intro p hp; cases hp
  | yes h hv => exact rdo_of h
theorem OB.ev {N : Nat} {t : Tmps} {dv : Nat} {o : Option Operand} {rd : List (Nat × AVal)} {l : Nat} (h : OB t dv o rd l) {g : Gh} {s : St} {a : Act} {w : World} (r : Rep N g s a w) (hr : ∀ p ∈ rd, lk s.t p.1 = some p.2) :
    (o.map a.eval = none ∧ l = dv) ∨ ∃ k, o.map a.eval = some (.int k (l : Int)) := by
  cases h with
  | no => exact .inl ⟨rfl, rfl⟩
  | yes h hv =>
    have e4 := (eval_ok r (evs_of h) hr : CellR g s.l w _ (.c _)).1
    subst hv
    exact .inr ⟨_, congrArg some e4⟩
section ops
variable {P : Program} {N : Nat} {s : St} {d : Nat} {ty : TypeId} {pos : String} {after : Array Edge} {gd : Option (Nat × Bool)}
theorem x_slice {α : Type} {e : Enc α} {xs ys : List α} {T E n l h : Nat} {x : Operand} {lo hi : Option Operand} {rl rh : List (Nat × AVal)} (hN : Nat.blt d N = true) (hx : evo s.t x = some (.one (.sl e xs))) (hT : sliceT P T = some (E, n)) (hz : e.size = n) (ho : OB s.t 0 lo rl l) (hh : OB s.t xs.length hi rh h)
    (h1 : l ≤ h) (h2 : h ≤ xs.length) (hy : (xs.drop l).take (h - l) = ys) :
    Stp P N ⟨some d, .slice T x lo hi none, ty, pos, after, gd⟩ s ⟨(d, .one (.sl e ys)) :: s.t, s.l⟩ ⟨rdo x (.one (.sl e xs)) ++ (rl ++ rh), [], [(d, .one (.sl e ys))], [], []⟩ :=
  Stp.pure rfl hN (fun p hp => by rcases List.mem_append.1 hp with hp | hp; exact rdo_of hx p hp; rcases List.mem_append.1 hp with hp | hp; exact ho.rd p hp; exact hh.rd p hp) (by simp) fun g s' a w ht hl' r => by
    obtain ⟨ad, m, cap, bs, e1, e2, e3⟩ : CellR g s'.l w (a.eval x) (.sl e xs) := eval_ok r (evs_of hx) fun p hp => ht p (List.mem_append_left _ hp)
    have q1 := ho.ev r fun p hp => ht p (List.mem_append_right _ (List.mem_append_left _ hp))
    have q2 := hh.ev r fun p hp => ht p (List.mem_append_right _ (List.mem_append_right _ hp))
    have q2' : (hi.map a.eval = none ∧ h = m) ∨ ∃ k, hi.map a.eval = some (.int k (h : Int)) := by rw [e2.1]; exact q2
    have hrun := run_sliceOf hT w ad m cap q1 q2' h1 (by have := e2.1; have := e2.2.1; omega)
    obtain ⟨bs', p1, p2⟩ := e2.part h1 h2
    subst hz; subst hy
    exact ⟨_, by simp only [execOp, e1, Sem.run_bind, Option.map_none, hrun, Result.andThen_ok, Sem.run_pure], _, _, _, bs', rfl, p1, fun b hb => e3 b (p2 b hb)⟩
/-- The text of bytes. -/
def bytesStr (xs : List Int) : ByteArray := ⟨(xs.map fun n => UInt8.ofNat n.toNat).toArray⟩
theorem bytesStr_size (xs : List Int) : (bytesStr xs).size = xs.length := by
  show ((xs.map fun n => UInt8.ofNat n.toNat).toArray).size = xs.length
  simp
theorem u8_back {n : Int} (h : (Lit.int .u8 n).wf = true) : ((UInt8.ofNat n.toNat).toNat : Int) = n := by
  simp only [Lit.wf, Bool.and_eq_true, decide_eq_true_eq] at h
  have h1 : IntKind.u8.min = 0 := rfl
  have h2 : IntKind.u8.max = 255 := rfl
  rw [h1, h2] at h
  have : (UInt8.ofNat n.toNat).toNat = n.toNat % 256 := by simp
  rw [this]; omega
theorem run_tostr {P : Program} {T U E : TypeId} (hT : byteT P T U E = true) {w : World} {a : Option Addr} {n cap : Nat} {xs : List Int} {bs : List Nat} (h : SliceRep (intE .u8) w a n cap xs bs) : (convert T U (.slice a n cap)).run P w = .ok (.string (bytesStr xs)) w := by
  obtain ⟨hu, hus, he, _⟩ := byteT_spec hT
  obtain ⟨rfl, g1, g2, g3, g4⟩ := h
  have back : ∀ a, (∀ j (hj : j < xs.length), (Lit.int .u8 xs[j]).wf = true ∧ w.cell? (a.add j) = some (.int .u8 xs[j])) → (convert T U (.slice (some a) xs.length cap)).run P w = .ok (.string (bytesStr xs)) w := fun a hc => by
    have := run_convert_bytes_back (P := P) w T U E a cap (xs.map fun n => UInt8.ofNat n.toNat) hu he hus (fun j hj => by
      have hj' : j < xs.length := by simpa using hj
      rw [(hc j hj').2]
      simp only [List.getElem_map, u8_back (hc j hj').1])
    rw [List.length_map] at this
    exact this
  rcases g4 with ⟨rfl, _⟩ | ⟨g, off, bss, hne, rfl, hg, rfl, hE⟩
  · cases a with
    | none => exact Lib.run_convert_nil_bytes w T U E cap hu he hus
    | some a => exact back a fun j hj => by simp at hj
  · refine back _ fun j hj => ?_
    obtain ⟨cs, ⟨rfl, q1, _⟩, q2⟩ := hE.2 j xs[j] (bss[j]'(by rw [hE.1]; exact hj)) (List.getElem?_eq_getElem hj) (List.getElem?_eq_getElem _)
    have := q2 0 _ rfl
    rw [addr_add]
    refine ⟨q1, ?_⟩
    have e3 : off + j * (intE .u8).size + 0 = off + j := by show off + j * 1 + 0 = off + j; omega
    rwa [e3] at this
theorem x_tostr {T U E : TypeId} {x : Operand} {xs : List Int} (hN : Nat.blt d N = true) (h : evo s.t x = some (.one (.sl (intE .u8) xs))) (hT : byteT P T U E = true) :
    Stp P N ⟨some d, .convert T U x, ty, pos, after, gd⟩ s ⟨(d, .one (.c (.string (bytesStr xs)))) :: s.t, s.l⟩ ⟨rdo x (.one (.sl (intE .u8) xs)), [], [(d, .one (.c (.string (bytesStr xs))))], [], []⟩ :=
  Stp.pure rfl hN (rdo_of h) (by simp) fun g s' a w ht hl' r => by
    obtain ⟨ad, m, cap, bs, e1, e2, e3⟩ : CellR g s'.l w (a.eval x) (.sl (intE .u8) xs) := eval_ok r (evs_of h) ht
    exact ⟨_, by simp only [execOp, e1, Sem.run_bind, run_tostr hT e2, Result.andThen_ok, Sem.run_pure], rfl, by show (bytesStr xs).size ≤ maxLen; rw [bytesStr_size, ← e2.1]; have := e2.2.1; have := e2.2.2.1; omega⟩
end ops
/-! ### An own array is given up: nobody writes it any more -/
def Gh.shut (g : Gh) (k : Nat) : Gh := { g with I := fun b => g.I b ∨ (g.hd k ≠ .slice none 0 0 ∧ b = g.ρ k) }
section shut
variable {g : Gh} {l : Locs} {w : World}
variable {P : Program} {N : Nat} {K : List Nat} {Kn : St → Prop} {Q : Exit → St → Prop} {s : St}
end shut
end Go.Proofs.Ytibhoanjglfaoaa

/- Numbers copied into a part of an own array; nil ars an array that is taken; numbers in memory are not too great. -/
namespace Go.Proofs.Ytibhoanjglfaoaa
open Go.RowKit
set_option linter.unusedVariables false
set_option linter.unusedSimpArgs false

section ops
variable {P : Program} {N : Nat} {s : St} {d : Nat} {ty : TypeId} {pos : String} {after : Array Edge} {gd : Option (Nat × Bool)}
end ops
/-- A contract that takes an array takes nil, too. -/
theorem AT.nil {P : Program} {f : FuncId} {rest : List AVal} {α β : Type} {T U : TypeId} {e : Enc α} {e' : Enc β} {ys : List β} {d' : Bool}
    (h : AT P f (.one (.own 0) :: rest) [(0, some (.arr T e [] true))] (.one (.own 1)) [(1, some (.arr U e' ys d'))]) (hrest : rest.flatMap AVal.ids1 = []) (c : Nat) :
    AC P f (.one (.c (.slice none 0 0)) :: rest) [] (.one (.own c)) [(c, some (.arr U e' ys d'))] := by
  refine ⟨h.fn, fun g w cargs m ha => ?_⟩
  obtain ⟨g', q1, q2, q3, q4, q5⟩ := nil_new m (k := 0) rfl (by simp [Locs.ids]) α T e
  have ha' : All2 (VR1 g' [(0, some (.arr (α := α) T e [] true))] w) cargs.toList (.one (.own 0) :: rest) := by
    generalize cargs.toList = vs at ha
    cases vs with
    | nil => exact ha
    | cons v vs =>
      refine ⟨fun β U e2 ys dd hc => by rw [q1]; exact ha.1.1, ha.2.mono fun a b hb hr => VR1.step (fun _ _ => rfl) q4 (Nat.le_refl _) (fun k hk => ?_) hr⟩
      have : k ∈ rest.flatMap AVal.ids1 := List.mem_flatMap.2 ⟨b, hb, hk⟩
      rw [hrest] at this; cases this
  refine (h.run g' w cargs q2 ha').mono ?_
  rintro r w' ⟨v, g1, rfl, m1, hv, hs⟩
  have hle : LeL (fun _ => 1) [(1, some (.arr U e' ys d'))] [(c, some (.arr U e' ys d'))] := ⟨⟨_, rfl, BLe.rf⟩, trivial⟩
  have T1 := ((q3 []).trans m q2 hs).trans m m1 (Step.unren hle trivial)
  exact ⟨v, g1.ren _, rfl, m1.unren hle (by simp [injL, keys]), VR.unren (x := .one (.own c)) hle hv, T1⟩
end Go.Proofs.Ytibhoanjglfaoaa

/- Smaller numbers of two; pointers that are not nil; bytes in memory are bytes. -/
namespace Go.Proofs.Ytibhoanjglfaoaa
open Go.RowKit
set_option linter.unusedVariables false
section ops
variable {P : Program} {N : Nat} {s : St} {d : Nat} {ty : TypeId} {pos : String} {after : Array Edge} {gd : Option (Nat × Bool)}
theorem x_min {T U : TypeId} {x y : Operand} {k k' : IntKind} {m n r : Int} (hN : Nat.blt d N = true) (h : evo s.t x = some (.one (.c (.int k m)))) (h2 : evo s.t y = some (.one (.c (.int k' n)))) (hr : (if n < m then n else m) = r) (hw : (Lit.int k r).wf = true) :
    Stp P N ⟨some d, .call { callee := .builtin .min, args := #[x, y], argTypes := #[T, U] }, ty, pos, after, gd⟩ s ⟨(d, .one (.c (.int k r))) :: s.t, s.l⟩ ⟨rdo x (.one (.c (.int k m))) ++ rdo y (.one (.c (.int k' n))), [], [(d, .one (.c (.int k r)))], [], []⟩ :=
  Stp.pure rfl hN (two_rd h h2) (by simp) fun g s' a w ht hl' rp => by
    obtain ⟨⟨e1, w1⟩, e2, w2⟩ := two_c rp (evs_of h) (evs_of h2) ht
    refine ⟨.int k r, ?_, rfl, hw⟩
    simp only [execOp, resolve, invoke, builtin, Sem.run_bind, Sem.run_pure, Result.andThen_ok, List.map_toArray, List.map_cons, List.map_nil, e1, e2, run_min_int2, hr]
theorem x_nilc {x : Operand} {k off : Nat} {cs : List Cell} (hN : Nat.blt d N = true) (h : evo s.t x = some (.one (.ptr k off))) (hk : lkl s.l k = some (.box cs)) :
    Stp P N ⟨some d, .nilCheck x, ty, pos, after, gd⟩ s ⟨(d, .one (.ptr k off)) :: s.t, s.l⟩ ⟨rdo x (.one (.ptr k off)), [(k, .box cs)], [(d, .one (.ptr k off))], [], []⟩ :=
  Stp.pure rfl hN (rdo_of h) (by simpa using hk) fun g s' a w ht hl' r => by
    have hk' : lkl s'.l k = some (.box cs) := hl' (k, .box cs) (by simp)
    have hv : a.eval x = .pointer (some ⟨g.ρ k, off, none⟩) := (eval_ok r (evs_of h) ht : CellR g s'.l w _ (.ptr k off)) cs hk'
    exact ⟨_, by simp only [execOp, hv, Sem.run_pure], fun cs' hc => rfl⟩
end ops
theorem byte_wf {x : Int} (h : (Lit.int .u8 x).wf = true) : 0 ≤ x ∧ x ≤ 255 := by
  simp only [Lit.wf, Bool.and_eq_true, decide_eq_true_eq] at h
  exact h
theorem SliceRep.bytes {w : World} {a : Option Addr} {n cap : Nat} {xs : List Int} {bs : List Nat} (h : SliceRep (intE .u8) w a n cap xs bs) : ∀ x ∈ xs, 0 ≤ x ∧ x ≤ 255 := fun x hx => by
  obtain ⟨j, hj, rfl⟩ := List.getElem_of_mem hx
  obtain ⟨gb, o, cs, b, _, f1, _⟩ := h.get hj
  exact byte_wf f1.2.1
theorem AW_slbyte {P : Program} {N : Nat} {K : List Nat} {c : Code} {Kn : St → Prop} {Q : Exit → St → Prop} {s : St} {xs : List Int} (t : Nat) (h : lk s.t t = some (.one (.sl (intE .u8) xs))) (hA : (∀ x ∈ xs, 0 ≤ x ∧ x ≤ 255) → AW P N K c Kn Q s) : AW P N K c Kn Q s := fun g a w r => by
  obtain ⟨a0, n, cap, bs, _, h1, _⟩ : CellR g s.l w (a.tmps.getD t undef) (.sl (intE .u8) xs) := r.tmp t _ h
  exact hA h1.bytes g a w r
theorem bytesStr_inj {xs ys : List Int} (hx : ∀ x ∈ xs, 0 ≤ x ∧ x ≤ 255) (hy : ∀ x ∈ ys, 0 ≤ x ∧ x ≤ 255) (h : bytesStr xs = bytesStr ys) : xs = ys := by
  have h1 : (xs.map fun n => UInt8.ofNat n.toNat) = ys.map fun n => UInt8.ofNat n.toNat := by
    have := congrArg (fun b : ByteArray => b.data.toList) h
    simpa [bytesStr] using this
  have h2 := congrArg (List.map fun b : UInt8 => (b.toNat : Int)) h1
  rw [List.map_map, List.map_map] at h2
  have key : ∀ zs : List Int, (∀ x ∈ zs, 0 ≤ x ∧ x ≤ 255) → zs.map ((fun b : UInt8 => (b.toNat : Int)) ∘ fun n : Int => UInt8.ofNat n.toNat) = zs := fun zs hz => by
    conv => rhs; rw [← List.map_id zs]
    apply List.map_congr_left
    intro x hxz
    have := hz x hxz
    simp
    omega
  rwa [key xs hx, key ys hy] at h2
theorem bytesStr_beq {xs ys : List Int} (hx : ∀ x ∈ xs, 0 ≤ x ∧ x ≤ 255) (hy : ∀ x ∈ ys, 0 ≤ x ∧ x ≤ 255) : (bytesStr xs == bytesStr ys) = decide (xs = ys) := by
  by_cases h : xs = ys
  · subst h
    rw [beq_toListBytes, decide_eq_true rfl]; simp
  · rw [decide_eq_false h]
    cases hb : bytesStr xs == bytesStr ys
    · rfl
    · exfalso
      rw [beq_toListBytes, ByteArray.toList_eq, ByteArray.toList_eq] at hb
      have h2 : (bytesStr xs).data.toList = (bytesStr ys).data.toList := by simpa using hb
      refine h (bytesStr_inj hx hy ?_)
      generalize bytesStr xs = a at *
      generalize bytesStr ys = b at *
      obtain ⟨⟨a⟩⟩ := a
      obtain ⟨⟨b⟩⟩ := b
      simp at h2; rw [h2]
end Go.Proofs.Ytibhoanjglfaoaa

/- Bytes read again, in plain words. -/
namespace Go.Proofs.Ytibhoanjglfaoaa
open Go.RowKit
set_option linter.unusedVariables false
set_option linter.unusedSimpArgs false

/-- The number in bytes. -/
def bign (l : List Int) : Int := l.foldl (fun a x => 256 * a + x % 256) 0
theorem bign_snoc (l : List Int) (x : Int) : bign (l ++ [x]) = 256 * bign l + x % 256 := by simp [bign]
theorem bign_fold (l : List Int) : ∀ a : Int, l.foldl (fun a x => 256 * a + x % 256) a = a * 256 ^ l.length + bign l := by
  induction l with
  | nil => intro a; simp [bign]
  | cons x l ih =>
    intro a
    have h1 := ih (256 * a + x % 256)
    have h2 := ih (256 * 0 + x % 256)
    simp only [List.foldl_cons, List.length_cons, bign] at *
    rw [h1, h2, Int.pow_succ]
    grind
theorem bign_cons (x : Int) (l : List Int) : bign (x :: l) = x % 256 * 256 ^ l.length + bign l := by
  have := bign_fold l (256 * 0 + x % 256)
  show l.foldl _ (256 * 0 + x % 256) = _
  rw [this]; simp
theorem bign_in (l : List Int) : 0 ≤ bign l ∧ bign l < 256 ^ l.length := by
  induction l with
  | nil => simp [bign]
  | cons x l ih =>
    have hp : (0 : Int) < 256 ^ l.length := Int.pow_pos (by omega)
    have h0 : 0 ≤ x % 256 := by omega
    have h1 : x % 256 ≤ 255 := by omega
    have h2 := Int.mul_le_mul_of_nonneg_right h1 (Int.le_of_lt hp)
    have h3 := Int.mul_nonneg h0 (Int.le_of_lt hp)
    rw [bign_cons, List.length_cons, Int.pow_succ]
    generalize x % 256 * 256 ^ l.length = y at *
    omega
theorem bign_le {l : List Int} {n : Nat} (h : l.length ≤ n) (hn : n ≤ 6) : 0 ≤ bign l ∧ bign l < 281474976710656 := by
  have h1 := bign_in l
  have h2 := p256_in (k := l.length) (by omega)
  omega
theorem putB_succ (n : Int) (s : Nat) : putB n (s + 1) = n / 256 ^ s % 256 :: putB n s := by
  unfold putB putTo
  rw [Nat.sub_zero, Nat.sub_zero, List.range_succ_eq_map, List.map_cons, List.map_map]
  congr 1
  apply List.map_congr_left
  intro q hq
  simp only [Function.comp, Nat.succ_eq_add_one]
  rw [show s + 1 - 1 - (q + 1) = s - 1 - q by omega]
theorem bign_putB (n : Int) (h0 : 0 ≤ n) : ∀ s : Nat, bign (putB n s) = n % 256 ^ s
  | 0 => by simp [putB, putTo, bign]
  | s + 1 => by
    rw [putB_succ, bign_cons, bign_putB n h0 s, putB_len]
    have hp : (0 : Int) < 256 ^ s := Int.pow_pos (by omega)
    have e1 : n / 256 ^ s % 256 % 256 = n / 256 ^ s % 256 := by omega
    rw [e1, Int.pow_succ]
    have e2 := Int.emod_add_mul_ediv n (256 ^ s)
    have e3 := Int.emod_add_mul_ediv (n / 256 ^ s) 256
    have e4 := Int.emod_add_mul_ediv n (256 ^ s * 256)
    have e5 : n / (256 ^ s * 256) = n / 256 ^ s / 256 := (Int.ediv_ediv_of_nonneg (Int.le_of_lt hp)).symm
    rw [e5] at e4
    generalize n / 256 ^ s / 256 = d at *
    generalize n / 256 ^ s % 256 = c at *
    generalize n / 256 ^ s = b at *
    generalize (256 : Int) ^ s = P at *
    grind
theorem bign_put {n : Int} {s : Nat} (h0 : 0 ≤ n) (h1 : n < 256 ^ s) : bign (putB n s) = n := by
  rw [bign_putB n h0, Int.emod_eq_of_lt h0 h1]

/-! ### From the front -/
def takeI (xs : List Int) (n : Int) : Int × List Int := if (xs.length : Int) < n then (0, []) else (bign (xs.take n.toNat), xs.drop n.toNat)
def wordI (xs : List Int) (n : Int) : ByteArray × List Int := if (xs.length : Int) < n then (⟨#[]⟩, []) else (bytesStr (xs.take n.toNat), xs.drop n.toNat)
theorem takeI_no {xs : List Int} {n : Int} (h : (xs.length : Int) < n) : takeI xs n = (0, []) := if_pos h
theorem takeI_ok {xs : List Int} {n : Int} (h : ¬ (xs.length : Int) < n) : takeI xs n = (bign (xs.take n.toNat), xs.drop n.toNat) := if_neg h
theorem wordI_no {xs : List Int} {n : Int} (h : (xs.length : Int) < n) : wordI xs n = (⟨#[]⟩, []) := if_pos h
theorem wordI_ok {xs : List Int} {n : Int} (h : ¬ (xs.length : Int) < n) : wordI xs n = (bytesStr (xs.take n.toNat), xs.drop n.toNat) := if_neg h
theorem takeI_in {xs : List Int} {n : Int} (h1 : n ≤ 6) : 0 ≤ (takeI xs n).1 ∧ (takeI xs n).1 < 281474976710656 := by
  unfold takeI; split
  · simp
  · exact bign_le (n := n.toNat) (by simp; omega) (by omega)
theorem takeI_one {xs : List Int} : (takeI xs 1).1 ≤ 255 := by
  unfold takeI; split
  · simp
  · have := (bign_in (xs.take (1 : Int).toNat)).2
    have hl : (xs.take (1 : Int).toNat).length ≤ 1 := by simp; omega
    have : (256 : Int) ^ (xs.take (1 : Int).toNat).length ≤ 256 := by
      rcases Nat.le_one_iff_eq_zero_or_eq_one.1 hl with h | h <;> rw [h] <;> decide
    omega
theorem takeI_put {n : Int} {s : Nat} {r : List Int} (h0 : 0 ≤ n) (h1 : n < 256 ^ s) : takeI (putB n s ++ r) s = (n, r) := by
  rw [takeI_ok (by rw [List.length_append, putB_len]; omega), Int.toNat_natCast]
  have : s = (putB n s).length := putB_len.symm
  rw [List.take_append_of_le_length (by omega), List.drop_append_of_le_length (by omega)]
  rw [List.take_of_length_le (by omega), List.drop_eq_nil_of_le (by omega), bign_put h0 h1, List.nil_append]
theorem takeI_byte {n : Int} {r : List Int} (h0 : 0 ≤ n) (h1 : n < 256) : takeI ([n] ++ r) 1 = (n, r) := by
  rw [takeI_ok (by simp; omega)]
  simp [bign]; omega
theorem bytesStr_str (s : ByteArray) : bytesStr (strBytes s) = s := by
  apply texts_eq
  show ((strBytes s).map fun n => UInt8.ofNat n.toNat).toArray.toList = _
  simp only [strBytes, List.map_map]
  conv => rhs; rw [← List.map_id s.data.toList]
  apply List.map_congr_left
  intro x _
  simp
theorem wordI_str {s : ByteArray} {r : List Int} : wordI (strBytes s ++ r) (s.size : Int) = (s, r) := by
  have hl := strBytes_len s
  rw [wordI_ok (by rw [List.length_append, hl]; omega), Int.toNat_natCast, ← hl, List.take_left, List.drop_left, bytesStr_str]
def valI (xs : List Int) : Val × List Int := if (takeI xs 1).1 = 0 then (⟨(takeI (takeI xs 1).2 6).1, ⟨#[]⟩⟩, (takeI (takeI xs 1).2 6).2) else (⟨0, (wordI (takeI xs 1).2 (takeI xs 1).1).1⟩, (wordI (takeI xs 1).2 (takeI xs 1).1).2)
theorem valI_num {xs : List Int} (h : (takeI xs 1).1 = 0) : valI xs = (⟨(takeI (takeI xs 1).2 6).1, ⟨#[]⟩⟩, (takeI (takeI xs 1).2 6).2) := if_pos h
theorem valI_word {xs : List Int} (h : ¬ (takeI xs 1).1 = 0) : valI xs = (⟨0, (wordI (takeI xs 1).2 (takeI xs 1).1).1⟩, (wordI (takeI xs 1).2 (takeI xs 1).1).2) := if_neg h
/-- What is read so many times. -/
def iterG {σ α : Type} (f : σ → α × σ) : Nat → σ → List α × σ
  | 0, s => ([], s)
  | k + 1, s => ((iterG f k s).1 ++ [(f (iterG f k s).2).1], (f (iterG f k s).2).2)
theorem iterG_len {σ α : Type} {f : σ → α × σ} : ∀ {k : Nat} {s : σ}, (iterG f k s).1.length = k
  | 0, s => rfl
  | k + 1, s => by simp [iterG, iterG_len (k := k)]
theorem iterG_front {σ α : Type} {f : σ → α × σ} : ∀ {k : Nat} {s : σ}, iterG f (k + 1) s = ((f s).1 :: (iterG f k (f s).2).1, (iterG f k (f s).2).2)
  | 0, s => rfl
  | k + 1, s => by
    show ((iterG f (k + 1) s).1 ++ [(f (iterG f (k + 1) s).2).1], (f (iterG f (k + 1) s).2).2) = _
    rw [iterG_front (k := k)]
    rfl
theorem iterG_read {σ α β : Type} {f : σ → α × σ} (w : List β → σ) (g : α → List β) : ∀ {xs : List α} {r : List β}, (∀ x ∈ xs, ∀ r, f (w (g x ++ r)) = (x, w r)) → iterG f xs.length (w (xs.flatMap g ++ r)) = (xs, w r)
  | [], r, _ => rfl
  | x :: xs, r, h => by
    rw [List.length_cons, iterG_front, List.flatMap_cons, List.append_assoc, h x (by simp), iterG_read w g fun y hy => h y (by simp [hy])]
theorem valI_read {v : Val} (h : valOk v = true) (r : List Int) : valI (valBytes v ++ r) = (v, r) := by
  have hv := valOk_in h
  by_cases hs : (v.s == (⟨#[]⟩ : ByteArray)) = true
  · have e : v.s = ⟨#[]⟩ := by
      rw [beq_toListBytes, ByteArray.toList_eq, ByteArray.toList_eq] at hs
      exact texts_eq (by simpa using hs)
    rw [valBytes_num hs, List.append_assoc, valI_num (by rw [takeI_byte (by omega) (by omega)])]
    rw [takeI_byte (by omega) (by omega)]
    simp only
    rw [show (6 : Int) = ((6 : Nat) : Int) from rfl, takeI_put (s := 6) (by omega) (by have e6 : (256 : Int) ^ 6 = 281474976710656 := rfl; omega)]
    obtain ⟨n, s⟩ := v
    simp at e; rw [e]
  · rw [Bool.not_eq_true] at hs
    have hne : v.s.size ≠ 0 := fun h0 => by
      have : v.s.data.toList = [] := List.eq_nil_of_length_eq_zero (by rw [Array.length_toList]; exact h0)
      rw [beq_toListBytes, ByteArray.toList_eq, ByteArray.toList_eq, this] at hs
      simp at hs
    have hn : v.n = 0 := by
      unfold valOk at h
      split at h
      · rename_i he
        rw [ByteArray.toList_eq] at he
        have := congrArg List.length (by simpa using he : v.s.data.toList = [])
        rw [Array.length_toList] at this
        exact absurd this hne
      · simp only [Bool.and_eq_true, beq_iff_eq] at h; exact h.1
    have e1 := takeI_byte (n := (v.s.size : Int)) (r := strBytes v.s ++ r) (by omega) (by omega)
    rw [valBytes_word hs, List.append_assoc, valI_word (by rw [e1]; simp only; omega), e1]
    simp only
    rw [wordI_str]
    obtain ⟨n, s⟩ := v
    simp at hn; rw [hn]
def rowI (a : Nat) (xs : List Int) : List Val × List Int := iterG valI a xs
def nmA (r : List Int) : Int × List Int := takeI r 1
def nmB (r : List Int) : ByteArray × List Int := wordI (nmA r).2 (nmA r).1
def nmC (r : List Int) : Int × List Int := takeI (nmB r).2 1
def nmD (r : List Int) : Int × List Int := takeI (nmC r).2 2
def nmE (r : List Int) : List (List Val) × List Int := iterG (rowI (min (nmC r).1 6).toNat) (min (nmD r).1 300).toNat (nmD r).2
def namedI (r : List Int) : Namedt × List Int := (⟨(nmB r).1, ⟨(nmC r).1, (nmE r).1⟩⟩, (nmE r).2)
def storeI (b : List Int) : Storet := ⟨(iterG namedI (min (takeI b 1).1 24).toNat (takeI b 1).2).1⟩
theorem namedI_read {x : Namedt} (h : relOk x.rel = true) (hw : x.name.size ≤ 12) (r : List Int) : namedI (namedBytes x ++ r) = (x, r) := by
  have hr := relOk_small h
  unfold namedBytes
  simp only [List.append_assoc]
  generalize hz : ([(x.name.size : Int)] ++ (strBytes x.name ++ ([x.rel.arity] ++ (putB (x.rel.rows.length : Int) 2 ++ (x.rel.rows.flatMap rowBytes ++ r))))) = z
  have eA : nmA z = ((x.name.size : Int), strBytes x.name ++ ([x.rel.arity] ++ (putB (x.rel.rows.length : Int) 2 ++ (x.rel.rows.flatMap rowBytes ++ r)))) := by
    rw [← hz]; exact takeI_byte (by omega) (by omega)
  have eB : nmB z = (x.name, [x.rel.arity] ++ (putB (x.rel.rows.length : Int) 2 ++ (x.rel.rows.flatMap rowBytes ++ r))) := by
    unfold nmB; rw [eA]; exact wordI_str
  have eC : nmC z = (x.rel.arity, putB (x.rel.rows.length : Int) 2 ++ (x.rel.rows.flatMap rowBytes ++ r)) := by
    unfold nmC; rw [eB]; exact takeI_byte (by omega) (by omega)
  have eD : nmD z = ((x.rel.rows.length : Int), x.rel.rows.flatMap rowBytes ++ r) := by
    unfold nmD; rw [eC]; exact takeI_put (s := 2) (by omega) (by have e2 : (256 : Int) ^ 2 = 65536 := rfl; omega)
  have eE : nmE z = (x.rel.rows, r) := by
    unfold nmE; rw [eC, eD]
    simp only
    rw [show (min (x.rel.rows.length : Int) 300).toNat = x.rel.rows.length by omega]
    refine iterG_read (fun q => q) rowBytes fun row hrow q => ?_
    obtain ⟨j, hj, rfl⟩ := List.getElem_of_mem hrow
    have ha := relOk_ar h hj
    have e : (min x.rel.arity 6).toNat = x.rel.rows[j].length := by omega
    rw [e]
    exact iterG_read (fun q => q) valBytes fun v hv q => valI_read (relOk_vals2 h _ (List.getElem_mem _) v hv) q
  unfold namedI
  rw [eB, eC, eE]
theorem storeI_read {s : Storet} (h : storeOk s = true) : storeI (storeB s) = s := by
  have hm := storeOk_max h
  unfold storeI storeB
  rw [takeI_byte (by omega) (by omega)]
  simp only
  rw [show (min (s.rels.length : Int) 24).toNat = s.rels.length by omega]
  have := iterG_read (f := namedI) (fun q => q) namedBytes (xs := s.rels) (r := []) fun x hx q => by
    obtain ⟨j, hj, rfl⟩ := List.getElem_of_mem hx
    exact namedI_read (storeOk_rel h hj) (storeOk_word h hj) q
  rw [List.append_nil] at this
  rw [this]
def storeRead (b : List Int) : Storet × Bool := if storeBytes (storeI b) = (b, true) then (storeI b, true) else (⟨[]⟩, false)
theorem storeBytes_read {s : Storet} {b : List Int} (h : storeBytes s = (b, true)) : storeI b = s ∧ storeOk s = true ∧ b = storeB s := by
  unfold storeBytes at h
  split at h
  · rename_i hok
    split at h
    · cases h
    · cases h
      exact ⟨storeI_read hok, hok, rfl⟩
  · cases h
theorem storeRead_yes {b : List Int} {s : Storet} (h : storeBytes s = (b, true)) : storeRead b = (s, true) := by
  have e := (storeBytes_read h).1
  unfold storeRead
  rw [e, if_pos h]
theorem storeRead_no {b : List Int} (h : ¬ storeBytes (storeI b) = (b, true)) : storeRead b = (⟨[]⟩, false) := if_neg h
theorem bign_next {l : List Int} {k : Nat} (hk : k < l.length) (hx : 0 ≤ l[k] ∧ l[k] ≤ 255) : bign (l.take (k + 1)) = 256 * bign (l.take k) + l[k] := by
  rw [List.take_succ_eq_append_getElem hk, bign_snoc]; omega
theorem iterG_all {σ α : Type} {f : σ → α × σ} (p : α → Prop) (h : ∀ s, p (f s).1) : ∀ {k : Nat} {s : σ}, ∀ x ∈ (iterG f k s).1, p x
  | 0, s, x, hx => by cases hx
  | k + 1, s, x, hx => by
    rcases List.mem_append.1 hx with hx | hx
    · exact iterG_all p h x hx
    · rw [List.mem_singleton.1 hx]; exact h _
theorem iterG_step {α : Type} {f : Int → α × Int} {M : Nat} (h : ∀ z, 0 ≤ z → z ≤ (f z).2 ∧ (f z).2 ≤ z + M) : ∀ {k : Nat} {z : Int}, 0 ≤ z → z ≤ (iterG f k z).2 ∧ (iterG f k z).2 ≤ z + M * k
  | 0, z, _ => by simp [iterG]
  | k + 1, z, hz => by
    have h1 := iterG_step h (k := k) hz
    have h2 := h (iterG f k z).2 (by omega)
    show z ≤ (f (iterG f k z).2).2 ∧ (f (iterG f k z).2).2 ≤ z + M * ((k + 1 : Nat) : Int)
    have : (M : Int) * ((k + 1 : Nat) : Int) = M * k + M := by push_cast; rw [Int.mul_add, Int.mul_one]
    omega
theorem wordI_size {xs : List Int} {n : Int} (h : n ≤ 255) : (wordI xs n).1.size ≤ 255 := by
  unfold wordI; split
  · exact Nat.zero_le _
  · rw [bytesStr_size]; simp; omega
theorem valI_small (r : List Int) : smallValue (valI r).1 := by
  show (valI r).1.s.size ≤ 1048576
  unfold valI; split
  · exact Nat.zero_le _
  · have := wordI_size (xs := (takeI r 1).2) (n := (takeI r 1).1) takeI_one
    simp only; omega
theorem rowI_small {a : Nat} (h : a ≤ 1048576) (s : List Int) : smallRow (rowI a s).1 := by
  refine ⟨by unfold rowI; rw [iterG_len]; exact h, ?_⟩
  exact iterG_all (fun v => smallValue v) valI_small
theorem namedI_small (r : List Int) : smallNamed (namedI r).1 := by
  refine ⟨?_, ?_, ?_⟩
  · show (wordI (nmA r).2 (nmA r).1).1.size ≤ 1048576
    have := wordI_size (xs := (nmA r).2) (n := (nmA r).1) takeI_one
    omega
  · show (nmE r).1.length ≤ 1048576
    unfold nmE; rw [iterG_len]; omega
  · show ∀ y ∈ (nmE r).1, smallRow y
    exact iterG_all (fun row => smallRow row) (fun s => rowI_small (by omega) s)
theorem storeI_small (b : List Int) : smallStore (storeI b) := by
  refine ⟨?_, iterG_all (fun x => smallNamed x) namedI_small⟩
  show (iterG namedI _ _).1.length ≤ 1048576
  rw [iterG_len]; omega
/-! ### At a place -/
def getS (b : List Int) (z n : Int) : Int := if z + n ≤ (b.length : Int) then bign ((b.drop z.toNat).take n.toNat) else 0
def wordS (b : List Int) (z n : Int) : ByteArray := if z + n ≤ (b.length : Int) then bytesStr ((b.drop z.toNat).take n.toNat) else ⟨#[]⟩
theorem getS_take {b : List Int} {z n : Int} (h0 : 0 ≤ z) (hn : 0 ≤ n) (h : z ≤ (b.length : Int)) : getS b z n = (takeI (b.drop z.toNat) n).1 := by
  unfold getS takeI
  rw [List.length_drop]
  split
  · rw [if_neg (by omega)]
  · rw [if_pos (by omega)]
theorem getS_in {b : List Int} {z n : Int} (h1 : n ≤ 6) : 0 ≤ getS b z n ∧ getS b z n < 281474976710656 := by
  unfold getS; split
  · exact bign_le (n := n.toNat) (by simp; omega) (by omega)
  · omega
theorem bign_short {l : List Int} {n : Nat} (h : l.length ≤ n) (hn : n ≤ 2) : bign l < 65536 ∧ (n ≤ 1 → bign l < 256) := by
  have h1 := (bign_in l).2
  have h2 : l.length = 0 ∨ l.length = 1 ∨ l.length = 2 := by omega
  rcases h2 with h2 | h2 | h2 <;> rw [h2] at h1
  · have e : (256 : Int) ^ 0 = 1 := rfl
    omega
  · have e : (256 : Int) ^ 1 = 256 := rfl
    omega
  · have e : (256 : Int) ^ 2 = 65536 := rfl
    exact ⟨by omega, fun h => by omega⟩
theorem getS_one {b : List Int} {z : Int} : getS b z 1 ≤ 255 := by
  unfold getS; split
  · have := (bign_short (l := (b.drop z.toNat).take (1 : Int).toNat) (n := 1) (by simp; omega) (by omega)).2 (by omega); omega
  · omega
theorem getS_two {b : List Int} {z : Int} : getS b z 2 ≤ 65535 := by
  unfold getS; split
  · have := (bign_short (l := (b.drop z.toNat).take (2 : Int).toNat) (n := 2) (by simp; omega) (by omega)).1; omega
  · omega
theorem getS_at {b : List Int} {z : Int} (h0 : 0 ≤ z) (hk : z.toNat < b.length) (hb : ∀ x ∈ b, 0 ≤ x ∧ x ≤ 255) : b[z.toNat] = getS b z 1 := by
  unfold getS
  have e : (b.drop z.toNat).take (1 : Int).toNat = [b[z.toNat]] := by rw [List.drop_eq_getElem_cons hk]; rfl
  rw [if_pos (by omega), e]
  have := hb _ (List.getElem_mem hk)
  simp [bign]; omega
def valS (b : List Int) (z : Int) : Val × Int := if getS b z 1 = 0 then (⟨getS b (z + 1) 6, ⟨#[]⟩⟩, z + 1 + 6) else (⟨0, wordS b (z + 1) (getS b z 1)⟩, z + 1 + getS b z 1)
theorem valS_num {b : List Int} {z : Int} (h : getS b z 1 = 0) : valS b z = (⟨getS b (z + 1) 6, ⟨#[]⟩⟩, z + 1 + 6) := if_pos h
theorem valS_word {b : List Int} {z : Int} (h : ¬ getS b z 1 = 0) : valS b z = (⟨0, wordS b (z + 1) (getS b z 1)⟩, z + 1 + getS b z 1) := if_neg h
theorem valS_step {b : List Int} (z : Int) (hz : 0 ≤ z) : z ≤ (valS b z).2 ∧ (valS b z).2 ≤ z + ((256 : Nat) : Int) := by
  have h1 := getS_one (b := b) (z := z)
  have h2 := getS_in (b := b) (z := z) (n := 1) (by omega)
  unfold valS; split <;> simp only <;> omega
def rowS (b : List Int) (a : Nat) (z : Int) : List Val × Int := iterG (valS b) a z
def nsA (b : List Int) (z : Int) : Int := z + 1 + getS b z 1
def nsE (b : List Int) (z : Int) : List (List Val) × Int := iterG (rowS b (min (getS b (nsA b z) 1) 7).toNat) (min (getS b (nsA b z + 1) 2) 301).toNat (nsA b z + 3)
def namedS (b : List Int) (z : Int) : Namedt × Int := (⟨wordS b (z + 1) (getS b z 1), ⟨getS b (nsA b z) 1, (nsE b z).1⟩⟩, (nsE b z).2)
theorem rowS_step {b : List Int} {a : Nat} (ha : a ≤ 7) (z : Int) (hz : 0 ≤ z) : z ≤ (rowS b a z).2 ∧ (rowS b a z).2 ≤ z + ((1792 : Nat) : Int) := by
  have := iterG_step (f := valS b) (M := 256) (fun z hz => valS_step z hz) (k := a) hz
  unfold rowS; omega
theorem namedS_step {b : List Int} (z : Int) (hz : 0 ≤ z) : z ≤ (namedS b z).2 ∧ (namedS b z).2 ≤ z + ((539651 : Nat) : Int) := by
  have h1 := getS_one (b := b) (z := z)
  have h2 := getS_in (b := b) (z := z) (n := 1) (by omega)
  have := iterG_step (f := rowS b (min (getS b (nsA b z) 1) 7).toNat) (M := 1792) (fun z hz => rowS_step (by omega) z hz) (k := (min (getS b (nsA b z + 1) 2) 301).toNat) (z := nsA b z + 3) (by unfold nsA; omega)
  show z ≤ (nsE b z).2 ∧ (nsE b z).2 ≤ _
  unfold nsE
  have e : nsA b z = z + 1 + getS b z 1 := rfl
  omega
section
variable {b : List Int}
/-- From place z on there lies r. -/
def Lies (b : List Int) (z : Int) (r : List Int) : Prop := 0 ≤ z ∧ z ≤ (b.length : Int) ∧ b.drop z.toNat = r
theorem Lies.take {z : Int} {n : Int} {s : Nat} {r : List Int} (h : Lies b z (putB n s ++ r)) (h0 : 0 ≤ n) (h1 : n < 256 ^ s) : getS b z s = n ∧ Lies b (z + s) r := by
  have h2 := takeI_put (r := r) h0 h1
  have hl := congrArg List.length h.2.2
  rw [List.length_drop, List.length_append, putB_len] at hl
  refine ⟨by rw [getS_take h.1 (by omega) h.2.1, h.2.2, h2], by have := h.1; omega, by have := h.1; have := h.2.1; omega, ?_⟩
  have e : (z + (s : Int)).toNat = z.toNat + s := by have := h.1; omega
  rw [e, ← List.drop_drop, h.2.2]
  have : s = (putB n s).length := putB_len.symm
  conv => lhs; rw [this]
  rw [putB_len]
  exact List.drop_left' putB_len
theorem Lies.byte {z n : Int} {r : List Int} (h : Lies b z ([n] ++ r)) (h0 : 0 ≤ n) (h1 : n < 256) : getS b z 1 = n ∧ Lies b (z + 1) r := by
  have e : putB n 1 = [n] := by
    have : putB n 1 = [n % 256] := by simp [putB, putTo, List.range_succ]
    rw [this, show n % 256 = n by omega]
  rw [← e] at h
  exact h.take (s := 1) h0 h1
theorem Lies.word {z : Int} {s : ByteArray} {r : List Int} (h : Lies b z (strBytes s ++ r)) : wordS b z (s.size : Int) = s ∧ Lies b (z + s.size) r := by
  have hl := congrArg List.length h.2.2
  rw [List.length_drop, List.length_append, strBytes_len] at hl
  have := h.1
  have := h.2.1
  have hs := strBytes_len s
  refine ⟨?_, by omega, by omega, ?_⟩
  · unfold wordS
    rw [if_pos (by omega), h.2.2, Int.toNat_natCast, ← hs, List.take_left, bytesStr_str]
  · rw [show (z + (s.size : Int)).toNat = z.toNat + s.size by omega, ← List.drop_drop, h.2.2, ← hs, List.drop_left]
theorem iterG_lies {α : Type} {f : Int → α × Int} (g : α → List Int) : ∀ {xs : List α} {r : List Int} {z : Int}, (∀ x ∈ xs, ∀ r z, Lies b z (g x ++ r) → (f z).1 = x ∧ Lies b (f z).2 r) → Lies b z (xs.flatMap g ++ r) → (iterG f xs.length z).1 = xs ∧ Lies b (iterG f xs.length z).2 r
  | [], r, z, _, hz => ⟨rfl, hz⟩
  | x :: xs, r, z, h, hz => by
    rw [List.flatMap_cons, List.append_assoc] at hz
    obtain ⟨h1, h2⟩ := h x (by simp) _ z hz
    obtain ⟨h3, h4⟩ := iterG_lies g (fun y hy => h y (by simp [hy])) h2
    rw [List.length_cons, iterG_front]
    exact ⟨by simp only; rw [h1, h3], h4⟩
theorem valS_lies {v : Val} (h : valOk v = true) {r : List Int} {z : Int} (hz : Lies b z (valBytes v ++ r)) : (valS b z).1 = v ∧ Lies b (valS b z).2 r := by
  have hv := valOk_in h
  by_cases hs : (v.s == (⟨#[]⟩ : ByteArray)) = true
  · have e : v.s = ⟨#[]⟩ := by
      rw [beq_toListBytes, ByteArray.toList_eq, ByteArray.toList_eq] at hs
      exact texts_eq (by simpa using hs)
    rw [valBytes_num hs, List.append_assoc] at hz
    obtain ⟨h1, h2⟩ := hz.byte (by omega) (by omega)
    obtain ⟨h3, h4⟩ := h2.take (s := 6) (by omega) (by have e6 : (256 : Int) ^ 6 = 281474976710656 := rfl; omega)
    rw [valS_num h1]
    refine ⟨?_, h4⟩
    obtain ⟨n, s⟩ := v
    simp only at h3 e ⊢
    rw [show ((6 : Nat) : Int) = 6 from rfl] at h3
    rw [h3, e]
  · rw [Bool.not_eq_true] at hs
    have hne : v.s.size ≠ 0 := fun h0 => by
      have : v.s.data.toList = [] := List.eq_nil_of_length_eq_zero (by rw [Array.length_toList]; exact h0)
      rw [beq_toListBytes, ByteArray.toList_eq, ByteArray.toList_eq, this] at hs
      simp at hs
    have hn : v.n = 0 := by
      unfold valOk at h
      split at h
      · rename_i he
        rw [ByteArray.toList_eq] at he
        have := congrArg List.length (by simpa using he : v.s.data.toList = [])
        rw [Array.length_toList] at this
        exact absurd this hne
      · simp only [Bool.and_eq_true, beq_iff_eq] at h; exact h.1
    rw [valBytes_word hs, List.append_assoc] at hz
    obtain ⟨h1, h2⟩ := hz.byte (by omega) (by omega)
    obtain ⟨h3, h4⟩ := h2.word
    rw [valS_word (by rw [h1]; omega), h1]
    refine ⟨?_, h4⟩
    obtain ⟨n, s⟩ := v
    simp only at h3 hn ⊢
    rw [h3, hn]
theorem namedS_lies {x : Namedt} (h : relOk x.rel = true) (hw : x.name.size ≤ 12) {r : List Int} {z : Int} (hz : Lies b z (namedBytes x ++ r)) : (namedS b z).1 = x ∧ Lies b (namedS b z).2 r := by
  have hr := relOk_small h
  unfold namedBytes at hz
  simp only [List.append_assoc] at hz
  obtain ⟨a1, a2⟩ := hz.byte (by omega) (by omega)
  obtain ⟨b1, b2⟩ := a2.word
  obtain ⟨c1, c2⟩ := b2.byte (by omega) (by omega)
  obtain ⟨d1, d2⟩ := c2.take (s := 2) (by omega) (by have e2 : (256 : Int) ^ 2 = 65536 := rfl; omega)
  have eA : nsA b z = z + 1 + (x.name.size : Int) := by unfold nsA; rw [a1]
  rw [← eA] at c1 d1 d2
  rw [show ((2 : Nat) : Int) = 2 from rfl] at d1
  rw [show nsA b z + 1 + ((2 : Nat) : Int) = nsA b z + 3 by omega] at d2
  have eE : (nsE b z).1 = x.rel.rows ∧ Lies b (nsE b z).2 r := by
    unfold nsE; rw [c1, d1]
    rw [show (min (x.rel.rows.length : Int) 301).toNat = x.rel.rows.length by omega]
    refine iterG_lies rowBytes (fun row hrow q z hz => ?_) d2
    obtain ⟨j, hj, rfl⟩ := List.getElem_of_mem hrow
    have ha := relOk_ar h hj
    have e : (min x.rel.arity 7).toNat = x.rel.rows[j].length := by omega
    rw [e]
    exact iterG_lies valBytes (fun v hv q z hz => valS_lies (relOk_vals2 h _ (List.getElem_mem _) v hv) hz) hz
  refine ⟨?_, eE.2⟩
  unfold namedS
  rw [a1, b1, c1, eE.1]
end
theorem wordS_size {b : List Int} {z n : Int} (h : n ≤ 255) : (wordS b z n).size ≤ 255 := by
  unfold wordS; split
  · rw [bytesStr_size]; simp; omega
  · exact Nat.zero_le _
theorem valS_small (b : List Int) (z : Int) : smallValue (valS b z).1 := by
  show (valS b z).1.s.size ≤ 1048576
  unfold valS; split
  · exact Nat.zero_le _
  · have := wordS_size (b := b) (z := z + 1) (n := getS b z 1) getS_one
    simp only; omega
theorem rowS_small {b : List Int} {a : Nat} (h : a ≤ 1048576) (s : Int) : smallRow (rowS b a s).1 := by
  refine ⟨by unfold rowS; rw [iterG_len]; exact h, ?_⟩
  exact iterG_all (fun v => smallValue v) (valS_small b)
theorem namedS_small (b : List Int) (z : Int) : smallNamed (namedS b z).1 := by
  refine ⟨?_, ?_, ?_⟩
  · show (wordS b (z + 1) (getS b z 1)).size ≤ 1048576
    have := wordS_size (b := b) (z := z + 1) (n := getS b z 1) getS_one
    omega
  · show (nsE b z).1.length ≤ 1048576
    unfold nsE; rw [iterG_len]; omega
  · show ∀ y ∈ (nsE b z).1, smallRow y
    exact iterG_all (fun row => smallRow row) (fun s => rowS_small (by omega) s)
theorem storeS_small (b : List Int) {k : Nat} (hk : k ≤ 255) : smallStore ⟨(iterG (namedS b) k 1).1⟩ := by
  refine ⟨?_, iterG_all (fun x => smallNamed x) (namedS_small b)⟩
  show (iterG (namedS b) k 1).1.length ≤ 1048576
  rw [iterG_len]; omega
/-- What the reference has read where it stops. -/
theorem storeS_read {s : Storet} (h : storeOk s = true) : ∀ k, k ≤ s.rels.length → (iterG (namedS (storeB s)) k 1).1 = s.rels.take k ∧ Lies (storeB s) (iterG (namedS (storeB s)) k 1).2 ((s.rels.drop k).flatMap namedBytes)
  | 0, _ => ⟨rfl, show Lies (storeB s) 1 _ from ⟨by omega, by simp only [storeB, List.length_append, List.length_cons, List.length_nil]; omega, by simp [storeB]⟩⟩
  | k + 1, hk => by
    obtain ⟨h1, h2⟩ := storeS_read h k (by omega)
    rw [List.drop_eq_getElem_cons (by omega), List.flatMap_cons] at h2
    obtain ⟨h3, h4⟩ := namedS_lies (storeOk_rel h (by omega)) (storeOk_word h (by omega)) h2
    refine ⟨?_, h4⟩
    show (iterG (namedS (storeB s)) k 1).1 ++ [(namedS (storeB s) (iterG (namedS (storeB s)) k 1).2).1] = _
    rw [h1, h3, List.take_succ_eq_append_getElem (by omega)]
theorem storeRead_noS {b : List Int} {k : Nat} (hb : 1 ≤ b.length) (hb8 : ∀ x ∈ b, 0 ≤ x ∧ x ≤ 255) (hk : (k : Int) ≤ getS b 0 1) (hend : ¬ (k : Int) < getS b 0 1 ∨ ¬ (iterG (namedS b) k 1).2 < (b.length : Int))
    (h : ¬ storeBytes ⟨(iterG (namedS b) k 1).1⟩ = (b, true)) : storeRead b = (⟨[]⟩, false) := by
  refine storeRead_no fun e => h ?_
  obtain ⟨_, hok, hB⟩ := storeBytes_read e
  generalize storeI b = s at *
  subst hB
  have hg : getS (storeB s) 0 1 = (s.rels.length : Int) := by
    have hm := storeOk_max hok
    have hL : Lies (storeB s) 0 ([(s.rels.length : Int)] ++ s.rels.flatMap namedBytes) := ⟨by omega, by omega, rfl⟩
    exact (hL.byte (by omega) (by omega)).1
  rw [hg] at hk hend
  obtain ⟨h1, h2⟩ := storeS_read hok k (by omega)
  have hkk : k = s.rels.length := by
    rcases Nat.lt_or_ge k s.rels.length with hlt | hge
    · exfalso
      rcases hend with h3 | h3
      · omega
      · have hl := congrArg List.length h2.2.2
        rw [List.drop_eq_getElem_cons hlt, List.flatMap_cons, List.length_append, List.length_drop] at hl
        have : 1 ≤ (namedBytes s.rels[k]).length := by simp only [namedBytes, List.length_append, List.length_cons, List.length_nil]; omega
        have := h2.1
        omega
    · omega
  rw [h1, hkk, List.take_length]
  exact e
theorem storeRead_len {b : List Int} (h : b.length < 1 ∨ 60000 < b.length) : storeRead b = (⟨[]⟩, false) := storeRead_no fun e => by
  have h2 := (storeBytes_read e).2.2
  have h3 := storeBytes_len (storeI b)
  rw [e] at h3
  simp only at h3
  have : 1 ≤ b.length := by rw [h2]; simp [storeB]
  omega
end Go.Proofs.Ytibhoanjglfaoaa

/- Relations (printed by walk.py) -/
namespace Go.Proofs.Ytibhoanjglfaoaa
open Go.RowKit
set_option linter.unusedVariables false
set_option linter.unusedSimpArgs false
set_option maxRecDepth 100000

set_option maxHeartbeats 4000000 in
theorem upToI_c (n m : Int) : AC Try.prog 108 [.one (.c (.int .i64 n)), .one (.c (.int .i64 m))] [] (.one (.c (.bool (upToB n m)))) [] := by
  refine AC_body1 Try.func108 rfl rfl Try.ntmps108 rfl Try.results108 ?_
  refine AW_seq ?_
  refine AW_region ?_
  refine AL_p (x_assign rfl rfl) ?_
  refine AL_nil ?_
  refine AW_seq ?_
  refine AW_region ?_
  refine AL_p (x_move rfl rfl) ?_
  refine AL_b (x_geq rfl rfl rfl) (fun b6 h6 => ?_)
  refine AL_p (x_move rfl rfl) ?_
  cases b6
  rotate_left
  · try simp only [decide_eq_true_eq, decide_eq_false_iff_not, Bool.not_eq_true, Bool.not_eq_false, Bool.not_eq_true', Bool.not_eq_false', beq_iff_eq, bne_iff_ne, beq_eq_false_iff_ne, bne_eq_false_iff_eq, Int.not_lt, Int.not_le, ge_iff_le, gt_iff_lt] at h6
    refine AL_g rfl rfl (x_move rfl rfl) ?_
    refine AL_g rfl rfl (x_move rfl rfl) ?_
    refine AL_gb rfl rfl (x_leq rfl rfl rfl) (fun b10 h10 => ?_)
    refine AL_p (x_pickT rfl rfl rfl) ?_
    refine AL_p (x_assign rfl rfl) ?_
    refine AL_nil ?_
    refine AW_ret ?_
    cases b10
    rotate_left
    · try simp only [decide_eq_true_eq, decide_eq_false_iff_not, Bool.not_eq_true, Bool.not_eq_false, Bool.not_eq_true', Bool.not_eq_false', beq_iff_eq, bne_iff_ne, beq_eq_false_iff_ne, bne_eq_false_iff_eq, Int.not_lt, Int.not_le, ge_iff_le, gt_iff_lt] at h10
      exact ⟨rn [], ⟨⟨⟨_, rfl, vle_bool (by first | exact (decide_eq_true (by omega)).symm | exact (decide_eq_false (by omega)).symm)⟩, trivial⟩, trivial, trivial, rfl⟩⟩
    · try simp only [decide_eq_true_eq, decide_eq_false_iff_not, Bool.not_eq_true, Bool.not_eq_false, Bool.not_eq_true', Bool.not_eq_false', beq_iff_eq, bne_iff_ne, beq_eq_false_iff_ne, bne_eq_false_iff_eq, Int.not_lt, Int.not_le, ge_iff_le, gt_iff_lt] at h10
      exact ⟨rn [], ⟨⟨⟨_, rfl, vle_bool (by first | exact (decide_eq_true (by omega)).symm | exact (decide_eq_false (by omega)).symm)⟩, trivial⟩, trivial, trivial, rfl⟩⟩
  · try simp only [decide_eq_true_eq, decide_eq_false_iff_not, Bool.not_eq_true, Bool.not_eq_false, Bool.not_eq_true', Bool.not_eq_false', beq_iff_eq, bne_iff_ne, beq_eq_false_iff_ne, bne_eq_false_iff_eq, Int.not_lt, Int.not_le, ge_iff_le, gt_iff_lt] at h6
    refine AL_o rfl rfl rfl rfl ?_
    refine AL_o rfl rfl rfl rfl ?_
    refine AL_o rfl rfl rfl rfl ?_
    refine AL_p (x_pickF rfl rfl rfl) ?_
    refine AL_p (x_assign rfl rfl) ?_
    refine AL_nil ?_
    refine AW_ret ?_
    exact ⟨rn [], ⟨⟨⟨_, rfl, vle_bool (by first | exact (decide_eq_true (by omega)).symm | exact (decide_eq_false (by omega)).symm)⟩, trivial⟩, trivial, trivial, rfl⟩⟩

set_option maxHeartbeats 4000000 in
theorem relOkS_c (r : Relt) (hl : r.rows.length ≤ 1048576) : AC Try.prog 58 [.agg (relC r)] [] (.one (.c (.bool (relOk r)))) [] := by
  refine AC_body1 Try.func58 rfl rfl Try.ntmps58 rfl Try.results58 ?_
  refine AW_seq ?_
  refine AW_region ?_
  refine AL_p (x_box 100 rfl rfl rfl rfl rfl rfl rfl) ?_
  refine AL_p (x_assign rfl rfl) ?_
  refine AL_nil ?_
  refine AW_seq ?_
  refine AW_seq ?_
  refine AW_region ?_
  refine AL_p (x_field (off := 0) (o' := 0) rfl rfl rfl (by kernel_rfl) rfl) ?_
  refine AL_p (x_load1 rfl rfl rfl (by kernel_rfl) rfl) ?_
  refine AL_b (x_lss rfl rfl rfl) (fun b6 h6 => ?_)
  refine AL_p (x_move rfl rfl) ?_
  cases b6
  rotate_left
  · try simp only [decide_eq_true_eq, decide_eq_false_iff_not, Bool.not_eq_true, Bool.not_eq_false, Bool.not_eq_true', Bool.not_eq_false', beq_iff_eq, bne_iff_ne, beq_eq_false_iff_ne, bne_eq_false_iff_eq, Int.not_lt, Int.not_le, ge_iff_le, gt_iff_lt] at h6
    refine AL_o rfl rfl rfl rfl ?_
    refine AL_o rfl rfl rfl rfl ?_
    refine AL_o rfl rfl rfl rfl ?_
    refine AL_p (x_pickT rfl rfl rfl) ?_
    refine AL_p (x_move rfl rfl) ?_
    refine AL_o rfl rfl rfl rfl ?_
    refine AL_o rfl rfl rfl rfl ?_
    refine AL_o rfl rfl rfl rfl ?_
    refine AL_o rfl rfl rfl rfl ?_
    refine AL_p (x_pickT rfl rfl rfl) ?_
    refine AL_nil ?_
    refine AW_condT rfl ?_
    refine AW_seq ?_
    refine AW_region ?_
    refine AL_p (x_assign rfl rfl) ?_
    refine AL_nil ?_
    refine AW_ret ?_
    exact ⟨rn [], ⟨⟨⟨_, rfl, vle_bool (by first | exact (relOk_range (by omega)).symm | exact (relOk_bad (k := k) (by omega) (rowAt_len (by omega) (by omega))).symm | exact (relOk_bad (k := k) (by omega) (rowAt_row (by omega) h40)).symm | exact (relOk_bad (k := k) (by omega) (rowAt_order (by omega) (by omega) (by rw [← rowOrder_lt hprev h40]; exact h58))).symm | exact (relOk_good hs (by omega) (by omega) (by omega) (by omega)).symm)⟩, trivial⟩, trivial, trivial, rfl⟩⟩
  · try simp only [decide_eq_true_eq, decide_eq_false_iff_not, Bool.not_eq_true, Bool.not_eq_false, Bool.not_eq_true', Bool.not_eq_false', beq_iff_eq, bne_iff_ne, beq_eq_false_iff_ne, bne_eq_false_iff_eq, Int.not_lt, Int.not_le, ge_iff_le, gt_iff_lt] at h6
    refine AL_g rfl rfl (x_field (off := 0) (o' := 0) rfl rfl rfl (by kernel_rfl) rfl) ?_
    refine AL_g rfl rfl (x_load1 rfl rfl rfl (by kernel_rfl) rfl) ?_
    refine AL_gb rfl rfl (x_gtr rfl rfl rfl) (fun b10 h10 => ?_)
    refine AL_p (x_pickF rfl rfl rfl) ?_
    refine AL_p (x_move rfl rfl) ?_
    cases b10
    rotate_left
    · try simp only [decide_eq_true_eq, decide_eq_false_iff_not, Bool.not_eq_true, Bool.not_eq_false, Bool.not_eq_true', Bool.not_eq_false', beq_iff_eq, bne_iff_ne, beq_eq_false_iff_ne, bne_eq_false_iff_eq, Int.not_lt, Int.not_le, ge_iff_le, gt_iff_lt] at h10
      refine AL_o rfl rfl rfl rfl ?_
      refine AL_o rfl rfl rfl rfl ?_
      refine AL_o rfl rfl rfl rfl ?_
      refine AL_o rfl rfl rfl rfl ?_
      refine AL_p (x_pickT rfl rfl rfl) ?_
      refine AL_nil ?_
      refine AW_condT rfl ?_
      refine AW_seq ?_
      refine AW_region ?_
      refine AL_p (x_assign rfl rfl) ?_
      refine AL_nil ?_
      refine AW_ret ?_
      exact ⟨rn [], ⟨⟨⟨_, rfl, vle_bool (by first | exact (relOk_range (by omega)).symm | exact (relOk_bad (k := k) (by omega) (rowAt_len (by omega) (by omega))).symm | exact (relOk_bad (k := k) (by omega) (rowAt_row (by omega) h40)).symm | exact (relOk_bad (k := k) (by omega) (rowAt_order (by omega) (by omega) (by rw [← rowOrder_lt hprev h40]; exact h58))).symm | exact (relOk_good hs (by omega) (by omega) (by omega) (by omega)).symm)⟩, trivial⟩, trivial, trivial, rfl⟩⟩
    · try simp only [decide_eq_true_eq, decide_eq_false_iff_not, Bool.not_eq_true, Bool.not_eq_false, Bool.not_eq_true', Bool.not_eq_false', beq_iff_eq, bne_iff_ne, beq_eq_false_iff_ne, bne_eq_false_iff_eq, Int.not_lt, Int.not_le, ge_iff_le, gt_iff_lt] at h10
      refine AL_g rfl rfl (x_field (off := 1) (o' := 1) rfl rfl rfl (by kernel_rfl) rfl) ?_
      refine AL_g rfl rfl (x_load1 rfl rfl rfl (by kernel_rfl) rfl) ?_
      refine AL_g rfl rfl (x_len (E := 92) (n := 1) rfl rfl (by kernel_rfl)) ?_
      refine AL_gb rfl rfl (x_gtr rfl rfl rfl) (fun b16 h16 => ?_)
      refine AL_p (x_pickF rfl rfl rfl) ?_
      refine AL_nil ?_
      cases b16
      rotate_left
      · try simp only [decide_eq_true_eq, decide_eq_false_iff_not, Bool.not_eq_true, Bool.not_eq_false, Bool.not_eq_true', Bool.not_eq_false', beq_iff_eq, bne_iff_ne, beq_eq_false_iff_ne, bne_eq_false_iff_eq, Int.not_lt, Int.not_le, ge_iff_le, gt_iff_lt] at h16
        refine AW_condT rfl ?_
        refine AW_seq ?_
        refine AW_region ?_
        refine AL_p (x_assign rfl rfl) ?_
        refine AL_nil ?_
        refine AW_ret ?_
        exact ⟨rn [], ⟨⟨⟨_, rfl, vle_bool (by first | exact (relOk_range (by omega)).symm | exact (relOk_bad (k := k) (by omega) (rowAt_len (by omega) (by omega))).symm | exact (relOk_bad (k := k) (by omega) (rowAt_row (by omega) h40)).symm | exact (relOk_bad (k := k) (by omega) (rowAt_order (by omega) (by omega) (by rw [← rowOrder_lt hprev h40]; exact h58))).symm | exact (relOk_good hs (by omega) (by omega) (by omega) (by omega)).symm)⟩, trivial⟩, trivial, trivial, rfl⟩⟩
      · try simp only [decide_eq_true_eq, decide_eq_false_iff_not, Bool.not_eq_true, Bool.not_eq_false, Bool.not_eq_true', Bool.not_eq_false', beq_iff_eq, bne_iff_ne, beq_eq_false_iff_ne, bne_eq_false_iff_eq, Int.not_lt, Int.not_le, ge_iff_le, gt_iff_lt] at h16
        refine AW_condF rfl ?_
        refine AW_skip ?_
        refine AW_seq ?_
        refine AW_seq ?_
        refine AW_region ?_
        refine AL_p (x_field (off := 1) (o' := 1) rfl rfl rfl (by kernel_rfl) rfl) ?_
        refine AL_p (x_load1 rfl rfl rfl (by kernel_rfl) rfl) ?_
        refine AL_p (x_len (E := 92) (n := 1) rfl rfl (by kernel_rfl)) ?_
        refine AL_p (x_move rfl rfl) ?_
        refine AL_nil ?_
        refine AW_block ?_
        refine AW_loop2 (ι := {q : Nat // q ≤ r.rows.length ∧ GoodTo r.rows r.arity q}) (fun p => [(21, .one (.c (.int .i64 ((p.1) : Int))))]) (fun p => []) [1, 20] [100] (fun p => r.rows.length - (p.1)) ⟨0, ⟨by omega, .zero⟩⟩ (rn []) ?_ ?_
        exact ⟨by (repeat refine ⟨⟨_, rfl, by first | exact VLe.rf | exact vle_int (by dsimp only; omega)⟩, ?_⟩); exact trivial, by (repeat refine ⟨⟨_, rfl, by first | exact BLe.rf | exact BLe.box AllC.rf | exact BLe.arr (by exact rfl)⟩, ?_⟩); exact trivial, by repeat (first | exact trivial | refine ⟨⟨rfl, by first | (left; intro h; cases h) | (right; rfl), fun _ h => ⟨_, h⟩⟩, ?_⟩), rfl⟩
        rintro ⟨k, hinv⟩
        dsimp only
        obtain ⟨hk, hs⟩ := hinv
        refine AW_seq ?_
        refine AW_region ?_
        refine AL_b (x_lss rfl rfl rfl) (fun b22 h22 => ?_)
        refine AL_nil ?_
        refine AW_seq ?_
        cases b22
        rotate_left
        · try simp only [decide_eq_true_eq, decide_eq_false_iff_not, Bool.not_eq_true, Bool.not_eq_false, Bool.not_eq_true', Bool.not_eq_false', beq_iff_eq, bne_iff_ne, beq_eq_false_iff_ne, bne_eq_false_iff_eq, Int.not_lt, Int.not_le, ge_iff_le, gt_iff_lt] at h22
          refine AW_condT rfl ?_
          refine AW_skip ?_
          refine AW_seq ?_
          refine AW_block ?_
          refine AW_seq ?_
          refine AW_region ?_
          refine AL_p (x_move rfl rfl) ?_
          refine AL_p (x_assign rfl rfl) ?_
          refine AL_nil ?_
          refine AW_seq ?_
          refine AW_seq ?_
          refine AW_draw rfl ?_
          refine AL_p (x_field (off := 1) (o' := 1) rfl rfl rfl (by kernel_rfl) rfl) ?_
          refine AL_p (x_load1 rfl rfl rfl (by kernel_rfl) rfl) ?_
          refine AL_p (x_move rfl rfl) ?_
          refine AL_p (x_index (E := 92) (n := 1) rfl rfl rfl (by kernel_rfl) rfl rfl (by omega)) ?_
          refine AL_p (x_efield (off := 0) (o' := 0) rfl rfl (by kernel_rfl) rfl) ?_
          refine AL_p (x_eload1 rfl rfl (by kernel_rfl) rfl) ?_
          refine AL_p (x_len (E := 94) (n := 2) rfl rfl (by kernel_rfl)) ?_
          refine AL_p (x_field (off := 0) (o' := 0) rfl rfl rfl (by kernel_rfl) rfl) ?_
          refine AL_p (x_load1 rfl rfl rfl (by kernel_rfl) rfl) ?_
          refine AL_b (x_neq rfl rfl rfl) (fun b33 h33 => ?_)
          refine AL_p (x_move rfl rfl) ?_
          cases b33
          rotate_left
          · try simp only [decide_eq_true_eq, decide_eq_false_iff_not, Bool.not_eq_true, Bool.not_eq_false, Bool.not_eq_true', Bool.not_eq_false', beq_iff_eq, bne_iff_ne, beq_eq_false_iff_ne, bne_eq_false_iff_eq, Int.not_lt, Int.not_le, ge_iff_le, gt_iff_lt] at h33
            refine AL_o rfl rfl rfl rfl ?_
            refine AL_o rfl rfl rfl rfl ?_
            refine AL_o rfl rfl rfl rfl ?_
            refine AL_o rfl rfl rfl rfl ?_
            refine AL_o rfl rfl rfl rfl ?_
            refine AL_o rfl rfl rfl rfl ?_
            refine AL_o rfl rfl rfl rfl ?_
            refine AL_p (x_pickT rfl rfl rfl) ?_
            refine AL_nild (by kernel_rfl) ?_
            refine AW_condT rfl ?_
            refine AW_seq ?_
            refine AW_region ?_
            refine AL_p (x_assign rfl rfl) ?_
            refine AL_nil ?_
            refine AW_ret (BQ_ret (BQ_ret ?_))
            exact ⟨rn [], ⟨⟨⟨_, rfl, vle_bool (by first | exact (relOk_range (by omega)).symm | exact (relOk_bad (k := k) (by omega) (rowAt_len (by omega) (by omega))).symm | exact (relOk_bad (k := k) (by omega) (rowAt_row (by omega) h40)).symm | exact (relOk_bad (k := k) (by omega) (rowAt_order (by omega) (by omega) (by rw [← rowOrder_lt hprev h40]; exact h58))).symm | exact (relOk_good hs (by omega) (by omega) (by omega) (by omega)).symm)⟩, trivial⟩, trivial, trivial, rfl⟩⟩
          · try simp only [decide_eq_true_eq, decide_eq_false_iff_not, Bool.not_eq_true, Bool.not_eq_false, Bool.not_eq_true', Bool.not_eq_false', beq_iff_eq, bne_iff_ne, beq_eq_false_iff_ne, bne_eq_false_iff_eq, Int.not_lt, Int.not_le, ge_iff_le, gt_iff_lt] at h33
            refine AL_g rfl rfl (x_field (off := 1) (o' := 1) rfl rfl rfl (by kernel_rfl) rfl) ?_
            refine AL_g rfl rfl (x_load1 rfl rfl rfl (by kernel_rfl) rfl) ?_
            refine AL_g rfl rfl (x_move rfl rfl) ?_
            refine AL_g rfl rfl (x_index (E := 92) (n := 1) rfl rfl rfl (by kernel_rfl) rfl rfl (by omega)) ?_
            refine AL_g rfl rfl (x_eloadW (n := 1) rfl rfl (by kernel_rfl) rfl) ?_
            refine AL_gb rfl rfl (x_call0 rfl rfl rfl (rowOkS_c _) rfl rfl) (fun b40 h40 => ?_)
            refine AL_g rfl rfl (x_not rfl rfl) ?_
            refine AL_p (x_pickF rfl rfl rfl) ?_
            refine AL_nild (by kernel_rfl) ?_
            cases b40
            rotate_left
            · try simp only [decide_eq_true_eq, decide_eq_false_iff_not, Bool.not_eq_true, Bool.not_eq_false, Bool.not_eq_true', Bool.not_eq_false', beq_iff_eq, bne_iff_ne, beq_eq_false_iff_ne, bne_eq_false_iff_eq, Int.not_lt, Int.not_le, ge_iff_le, gt_iff_lt] at h40
              refine AW_condF rfl ?_
              refine AW_skip ?_
              refine AW_seq ?_
              refine AW_draw rfl ?_
              refine AL_p (x_move rfl rfl) ?_
              refine AL_b (x_gtr rfl rfl rfl) (fun b44 h44 => ?_)
              refine AL_p (x_move rfl rfl) ?_
              cases b44
              rotate_left
              · try simp only [decide_eq_true_eq, decide_eq_false_iff_not, Bool.not_eq_true, Bool.not_eq_false, Bool.not_eq_true', Bool.not_eq_false', beq_iff_eq, bne_iff_ne, beq_eq_false_iff_ne, bne_eq_false_iff_eq, Int.not_lt, Int.not_le, ge_iff_le, gt_iff_lt] at h44
                refine AL_g rfl rfl (x_field (off := 1) (o' := 1) rfl rfl rfl (by kernel_rfl) rfl) ?_
                refine AL_g rfl rfl (x_load1 rfl rfl rfl (by kernel_rfl) rfl) ?_
                refine AL_g rfl rfl (x_move rfl rfl) ?_
                refine AL_g rfl rfl (x_sub rfl rfl rfl (IntWalk.i64_in _ (by omega))) ?_
                refine AL_g rfl rfl (x_index (E := 92) (n := 1) rfl rfl rfl (by kernel_rfl) rfl (k := k - 1) (by omega) (by omega)) ?_
                refine AL_g rfl rfl (x_eloadW (n := 1) rfl rfl (by kernel_rfl) rfl) ?_
                refine AL_g rfl rfl (x_field (off := 1) (o' := 1) rfl rfl rfl (by kernel_rfl) rfl) ?_
                refine AL_g rfl rfl (x_load1 rfl rfl rfl (by kernel_rfl) rfl) ?_
                refine AL_g rfl rfl (x_move rfl rfl) ?_
                refine AL_g rfl rfl (x_index (E := 92) (n := 1) rfl rfl rfl (by kernel_rfl) rfl rfl (by omega)) ?_
                refine AL_g rfl rfl (x_eloadW (n := 1) rfl rfl (by kernel_rfl) rfl) ?_
                refine AL_g rfl rfl (x_call0 rfl rfl rfl (rowOrderS_c _ _) rfl rfl) ?_
                refine AL_gb rfl rfl (x_neq rfl rfl rfl) (fun b58 h58 => ?_)
                refine AL_p (x_pickT rfl rfl rfl) ?_
                refine AL_nild (by kernel_rfl) ?_
                cases b58
                rotate_left
                · try simp only [decide_eq_true_eq, decide_eq_false_iff_not, Bool.not_eq_true, Bool.not_eq_false, Bool.not_eq_true', Bool.not_eq_false', beq_iff_eq, bne_iff_ne, beq_eq_false_iff_ne, bne_eq_false_iff_eq, Int.not_lt, Int.not_le, ge_iff_le, gt_iff_lt] at h58
                  have hprev := hs.row (j := k - 1) (by omega) (by omega)
                  refine AW_condT rfl ?_
                  refine AW_seq ?_
                  refine AW_region ?_
                  refine AL_p (x_assign rfl rfl) ?_
                  refine AL_nil ?_
                  refine AW_ret (BQ_ret (BQ_ret ?_))
                  exact ⟨rn [], ⟨⟨⟨_, rfl, vle_bool (by first | exact (relOk_range (by omega)).symm | exact (relOk_bad (k := k) (by omega) (rowAt_len (by omega) (by omega))).symm | exact (relOk_bad (k := k) (by omega) (rowAt_row (by omega) h40)).symm | exact (relOk_bad (k := k) (by omega) (rowAt_order (by omega) (by omega) (by rw [← rowOrder_lt hprev h40]; exact h58))).symm | exact (relOk_good hs (by omega) (by omega) (by omega) (by omega)).symm)⟩, trivial⟩, trivial, trivial, rfl⟩⟩
                · try simp only [decide_eq_true_eq, decide_eq_false_iff_not, Bool.not_eq_true, Bool.not_eq_false, Bool.not_eq_true', Bool.not_eq_false', beq_iff_eq, bne_iff_ne, beq_eq_false_iff_ne, bne_eq_false_iff_eq, Int.not_lt, Int.not_le, ge_iff_le, gt_iff_lt] at h58
                  have hprev := hs.row (j := k - 1) (by omega) (by omega)
                  have hat := rowAt_next (ar := r.arity) (k := k) (by omega) (by omega) h40 (by omega) ((rowOrder_lt hprev h40).1 h58)
                  refine AW_condF rfl ?_
                  refine AW_skip ?_
                  refine AW_region ?_
                  refine AL_p (x_add rfl rfl rfl (IntWalk.i64_in _ (by omega))) ?_
                  refine AL_p (x_move rfl rfl) ?_
                  refine AL_nil ?_
                  refine ⟨⟨k + 1, ⟨by omega, hs.succ (by omega) hat⟩⟩, rn [], ?_, by dsimp only; omega⟩
                  exact ⟨by (repeat refine ⟨⟨_, rfl, by first | exact VLe.rf | exact vle_int (by dsimp only; omega)⟩, ?_⟩); exact trivial, by (repeat refine ⟨⟨_, rfl, by first | exact BLe.rf | exact BLe.box AllC.rf | exact BLe.arr (by exact rfl)⟩, ?_⟩); exact trivial, by repeat (first | exact trivial | refine ⟨⟨rfl, by first | (left; intro h; cases h) | (right; rfl), fun _ h => ⟨_, h⟩⟩, ?_⟩), rfl⟩
              · try simp only [decide_eq_true_eq, decide_eq_false_iff_not, Bool.not_eq_true, Bool.not_eq_false, Bool.not_eq_true', Bool.not_eq_false', beq_iff_eq, bne_iff_ne, beq_eq_false_iff_ne, bne_eq_false_iff_eq, Int.not_lt, Int.not_le, ge_iff_le, gt_iff_lt] at h44
                have hat := rowAt_first (ar := r.arity) (k := k) (by omega) (by omega) h40 (by omega)
                refine AL_o rfl rfl rfl rfl ?_
                refine AL_o rfl rfl rfl rfl ?_
                refine AL_o rfl rfl rfl rfl ?_
                refine AL_o rfl rfl rfl rfl ?_
                refine AL_o rfl rfl rfl rfl ?_
                refine AL_o rfl rfl rfl rfl ?_
                refine AL_o rfl rfl rfl rfl ?_
                refine AL_o rfl rfl rfl rfl ?_
                refine AL_o rfl rfl rfl rfl ?_
                refine AL_o rfl rfl rfl rfl ?_
                refine AL_o rfl rfl rfl rfl ?_
                refine AL_o rfl rfl rfl rfl ?_
                refine AL_o rfl rfl rfl rfl ?_
                refine AL_p (x_pickF rfl rfl rfl) ?_
                refine AL_nild (by kernel_rfl) ?_
                refine AW_condF rfl ?_
                refine AW_skip ?_
                refine AW_region ?_
                refine AL_p (x_add rfl rfl rfl (IntWalk.i64_in _ (by omega))) ?_
                refine AL_p (x_move rfl rfl) ?_
                refine AL_nil ?_
                refine ⟨⟨k + 1, ⟨by omega, hs.succ (by omega) hat⟩⟩, rn [], ?_, by dsimp only; omega⟩
                exact ⟨by (repeat refine ⟨⟨_, rfl, by first | exact VLe.rf | exact vle_int (by dsimp only; omega)⟩, ?_⟩); exact trivial, by (repeat refine ⟨⟨_, rfl, by first | exact BLe.rf | exact BLe.box AllC.rf | exact BLe.arr (by exact rfl)⟩, ?_⟩); exact trivial, by repeat (first | exact trivial | refine ⟨⟨rfl, by first | (left; intro h; cases h) | (right; rfl), fun _ h => ⟨_, h⟩⟩, ?_⟩), rfl⟩
            · try simp only [decide_eq_true_eq, decide_eq_false_iff_not, Bool.not_eq_true, Bool.not_eq_false, Bool.not_eq_true', Bool.not_eq_false', beq_iff_eq, bne_iff_ne, beq_eq_false_iff_ne, bne_eq_false_iff_eq, Int.not_lt, Int.not_le, ge_iff_le, gt_iff_lt] at h40
              refine AW_condT rfl ?_
              refine AW_seq ?_
              refine AW_region ?_
              refine AL_p (x_assign rfl rfl) ?_
              refine AL_nil ?_
              refine AW_ret (BQ_ret (BQ_ret ?_))
              exact ⟨rn [], ⟨⟨⟨_, rfl, vle_bool (by first | exact (relOk_range (by omega)).symm | exact (relOk_bad (k := k) (by omega) (rowAt_len (by omega) (by omega))).symm | exact (relOk_bad (k := k) (by omega) (rowAt_row (by omega) h40)).symm | exact (relOk_bad (k := k) (by omega) (rowAt_order (by omega) (by omega) (by rw [← rowOrder_lt hprev h40]; exact h58))).symm | exact (relOk_good hs (by omega) (by omega) (by omega) (by omega)).symm)⟩, trivial⟩, trivial, trivial, rfl⟩⟩
        · try simp only [decide_eq_true_eq, decide_eq_false_iff_not, Bool.not_eq_true, Bool.not_eq_false, Bool.not_eq_true', Bool.not_eq_false', beq_iff_eq, bne_iff_ne, beq_eq_false_iff_ne, bne_eq_false_iff_eq, Int.not_lt, Int.not_le, ge_iff_le, gt_iff_lt] at h22
          refine AW_condF rfl ?_
          refine AW_exit (BQ_hit ?_)
          refine AW_seq ?_
          refine AW_region ?_
          refine AL_p (x_assign rfl rfl) ?_
          refine AL_nil ?_
          refine AW_ret ?_
          exact ⟨rn [], ⟨⟨⟨_, rfl, vle_bool (by first | exact (relOk_range (by omega)).symm | exact (relOk_bad (k := k) (by omega) (rowAt_len (by omega) (by omega))).symm | exact (relOk_bad (k := k) (by omega) (rowAt_row (by omega) h40)).symm | exact (relOk_bad (k := k) (by omega) (rowAt_order (by omega) (by omega) (by rw [← rowOrder_lt hprev h40]; exact h58))).symm | exact (relOk_good hs (by omega) (by omega) (by omega) (by omega)).symm)⟩, trivial⟩, trivial, trivial, rfl⟩⟩

set_option maxHeartbeats 4000000 in
theorem relOkI_c (r : Relt) (hl : r.rows.length ≤ 1048576) : AC Try.prog 62 [.agg (relC r)] [] (.one (.c (.bool (relOk r)))) [] := by
  refine AC_body1 Try.func62 rfl rfl Try.ntmps62 rfl Try.results62 ?_
  refine AW_seq ?_
  refine AW_region ?_
  refine AL_p (x_box 100 rfl rfl rfl rfl rfl rfl rfl) ?_
  refine AL_p (x_assign rfl rfl) ?_
  refine AL_nil ?_
  refine AW_seq ?_
  refine AW_seq ?_
  refine AW_region ?_
  refine AL_p (x_field (off := 1) (o' := 1) rfl rfl rfl (by kernel_rfl) rfl) ?_
  refine AL_p (x_load1 rfl rfl rfl (by kernel_rfl) rfl) ?_
  refine AL_p (x_len (E := 92) (n := 1) rfl rfl (by kernel_rfl)) ?_
  refine AL_p (x_move rfl rfl) ?_
  refine AL_nil ?_
  refine AW_block ?_
  refine AW_loop2 (ι := {q : Nat // q ≤ r.rows.length ∧ GoodTo r.rows r.arity q}) (fun p => [(8, .one (.c (.int .i64 ((p.1) : Int))))]) (fun p => []) [1, 6, 7] [100] (fun p => r.rows.length - (p.1)) ⟨0, ⟨by omega, .zero⟩⟩ (rn []) ?_ ?_
  exact ⟨by (repeat refine ⟨⟨_, rfl, by first | exact VLe.rf | exact vle_int (by dsimp only; omega)⟩, ?_⟩); exact trivial, by (repeat refine ⟨⟨_, rfl, by first | exact BLe.rf | exact BLe.box AllC.rf | exact BLe.arr (by exact rfl)⟩, ?_⟩); exact trivial, by repeat (first | exact trivial | refine ⟨⟨rfl, by first | (left; intro h; cases h) | (right; rfl), fun _ h => ⟨_, h⟩⟩, ?_⟩), rfl⟩
  rintro ⟨k, hinv⟩
  dsimp only
  obtain ⟨hk, hs⟩ := hinv
  refine AW_seq ?_
  refine AW_region ?_
  refine AL_b (x_lss rfl rfl rfl) (fun b9 h9 => ?_)
  refine AL_nil ?_
  refine AW_seq ?_
  cases b9
  rotate_left
  · try simp only [decide_eq_true_eq, decide_eq_false_iff_not, Bool.not_eq_true, Bool.not_eq_false, Bool.not_eq_true', Bool.not_eq_false', beq_iff_eq, bne_iff_ne, beq_eq_false_iff_ne, bne_eq_false_iff_eq, Int.not_lt, Int.not_le, ge_iff_le, gt_iff_lt] at h9
    refine AW_condT rfl ?_
    refine AW_skip ?_
    refine AW_seq ?_
    refine AW_block ?_
    refine AW_seq ?_
    refine AW_region ?_
    refine AL_p (x_move rfl rfl) ?_
    refine AL_p (x_index (E := 92) (n := 1) rfl rfl rfl (by kernel_rfl) rfl rfl (by omega)) ?_
    refine AL_p (x_eloadW (n := 1) rfl rfl (by kernel_rfl) rfl) ?_
    refine AL_p (x_alloc (z := .agg #[.slice none 0 0]) 101 rfl (by kernel_rfl) rfl rfl rfl rfl) ?_
    refine AL_p (x_assign rfl rfl) ?_
    refine AL_p (x_store (n := 1) rfl rfl rfl rfl (by kernel_rfl) rfl rfl rfl) ?_
    refine AL_nil ?_
    refine AW_seq ?_
    refine AW_draw rfl ?_
    refine AL_p (x_loadN (n := 1) rfl rfl rfl (by kernel_rfl) rfl rfl) ?_
    refine AL_b (x_call0 rfl rfl rfl (rowOkI_c _) rfl rfl) (fun b14 h14 => ?_)
    refine AL_p (x_not rfl rfl) ?_
    refine AL_p (x_move rfl rfl) ?_
    cases b14
    rotate_left
    · try simp only [decide_eq_true_eq, decide_eq_false_iff_not, Bool.not_eq_true, Bool.not_eq_false, Bool.not_eq_true', Bool.not_eq_false', beq_iff_eq, bne_iff_ne, beq_eq_false_iff_ne, bne_eq_false_iff_eq, Int.not_lt, Int.not_le, ge_iff_le, gt_iff_lt] at h14
      refine AL_g rfl rfl (x_field (off := 0) (o' := 0) rfl rfl rfl (by kernel_rfl) rfl) ?_
      refine AL_g rfl rfl (x_load1 rfl rfl rfl (by kernel_rfl) rfl) ?_
      refine AL_g rfl rfl (x_len (E := 94) (n := 2) rfl rfl (by kernel_rfl)) ?_
      refine AL_g rfl rfl (x_field (off := 0) (o' := 0) rfl rfl rfl (by kernel_rfl) rfl) ?_
      refine AL_g rfl rfl (x_load1 rfl rfl rfl (by kernel_rfl) rfl) ?_
      refine AL_gb rfl rfl (x_neq rfl rfl rfl) (fun b22 h22 => ?_)
      refine AL_p (x_pickF rfl rfl rfl) ?_
      refine AL_p (x_move rfl rfl) ?_
      cases b22
      rotate_left
      · try simp only [decide_eq_true_eq, decide_eq_false_iff_not, Bool.not_eq_true, Bool.not_eq_false, Bool.not_eq_true', Bool.not_eq_false', beq_iff_eq, bne_iff_ne, beq_eq_false_iff_ne, bne_eq_false_iff_eq, Int.not_lt, Int.not_le, ge_iff_le, gt_iff_lt] at h22
        refine AL_o rfl rfl rfl rfl ?_
        refine AL_o rfl rfl rfl rfl ?_
        refine AL_o rfl rfl rfl rfl ?_
        refine AL_u rfl rfl rfl ?_
        refine AL_u rfl rfl rfl ?_
        refine AL_u rfl rfl rfl ?_
        refine AL_u rfl rfl rfl ?_
        refine AL_u rfl rfl rfl ?_
        refine AL_u rfl rfl rfl ?_
        refine AL_u rfl rfl rfl ?_
        refine AL_u rfl rfl rfl ?_
        refine AL_u rfl rfl rfl ?_
        refine AL_o rfl rfl rfl rfl ?_
        refine AL_p (x_pickT rfl rfl rfl) ?_
        refine AL_nild (by kernel_rfl) ?_
        refine AW_condT rfl ?_
        refine AW_seq ?_
        refine AW_region ?_
        refine AL_p (x_assign rfl rfl) ?_
        refine AL_nil ?_
        refine AW_ret (BQ_ret (BQ_ret ?_))
        exact ⟨rn [], ⟨⟨⟨_, rfl, vle_bool (by first | exact (relOk_bad (k := k) (by omega) (rowAt_row (by omega) h14)).symm | exact (relOk_bad (k := k) (by omega) (rowAt_len (by omega) h22)).symm | exact (relOk_bad (k := k) (by omega) (rowAt_order (by omega) (by omega) (by omega))).symm | exact (relOk_good hs (by omega) (upToB_iff.1 h42).1 (upToB_iff.1 h42).2 (by omega)).symm | exact (relOk_range (by omega)).symm | exact (relOk_range (upToB_not h42 (by omega))).symm)⟩, trivial⟩, trivial, trivial, rfl⟩⟩
      · try simp only [decide_eq_true_eq, decide_eq_false_iff_not, Bool.not_eq_true, Bool.not_eq_false, Bool.not_eq_true', Bool.not_eq_false', beq_iff_eq, bne_iff_ne, beq_eq_false_iff_ne, bne_eq_false_iff_eq, Int.not_lt, Int.not_le, ge_iff_le, gt_iff_lt] at h22
        refine AL_g rfl rfl (x_move rfl rfl) ?_
        refine AL_gb rfl rfl (x_gtr rfl rfl rfl) (fun b26 h26 => ?_)
        refine AL_g rfl rfl (x_move rfl rfl) ?_
        cases b26
        rotate_left
        · try simp only [decide_eq_true_eq, decide_eq_false_iff_not, Bool.not_eq_true, Bool.not_eq_false, Bool.not_eq_true', Bool.not_eq_false', beq_iff_eq, bne_iff_ne, beq_eq_false_iff_ne, bne_eq_false_iff_eq, Int.not_lt, Int.not_le, ge_iff_le, gt_iff_lt] at h26
          refine AL_g rfl rfl (x_field (off := 1) (o' := 1) rfl rfl rfl (by kernel_rfl) rfl) ?_
          refine AL_g rfl rfl (x_load1 rfl rfl rfl (by kernel_rfl) rfl) ?_
          refine AL_g rfl rfl (x_move rfl rfl) ?_
          refine AL_g rfl rfl (x_sub rfl rfl rfl (IntWalk.i64_in _ (by omega))) ?_
          refine AL_g rfl rfl (x_index (E := 92) (n := 1) rfl rfl rfl (by kernel_rfl) rfl (k := k - 1) (by omega) (by omega)) ?_
          refine AL_g rfl rfl (x_eloadW (n := 1) rfl rfl (by kernel_rfl) rfl) ?_
          refine AL_g rfl rfl (x_loadN (n := 1) rfl rfl rfl (by kernel_rfl) rfl rfl) ?_
          refine AL_g rfl rfl (x_call0 rfl rfl rfl (byRow_c _ _ (rowOk_vals (hs.row (by omega) (by omega))) (rowOk_vals h14)) rfl rfl) ?_
          refine AL_gb rfl rfl (x_geq rfl rfl rfl) (fun b36 h36 => ?_)
          refine AL_g rfl rfl (x_pickT rfl rfl rfl) ?_
          refine AL_p (x_pickF rfl rfl rfl) ?_
          refine AL_nild (by kernel_rfl) ?_
          cases b36
          rotate_left
          · try simp only [decide_eq_true_eq, decide_eq_false_iff_not, Bool.not_eq_true, Bool.not_eq_false, Bool.not_eq_true', Bool.not_eq_false', beq_iff_eq, bne_iff_ne, beq_eq_false_iff_ne, bne_eq_false_iff_eq, Int.not_lt, Int.not_le, ge_iff_le, gt_iff_lt] at h36
            refine AW_condT rfl ?_
            refine AW_seq ?_
            refine AW_region ?_
            refine AL_p (x_assign rfl rfl) ?_
            refine AL_nil ?_
            refine AW_ret (BQ_ret (BQ_ret ?_))
            exact ⟨rn [], ⟨⟨⟨_, rfl, vle_bool (by first | exact (relOk_bad (k := k) (by omega) (rowAt_row (by omega) h14)).symm | exact (relOk_bad (k := k) (by omega) (rowAt_len (by omega) h22)).symm | exact (relOk_bad (k := k) (by omega) (rowAt_order (by omega) (by omega) (by omega))).symm | exact (relOk_good hs (by omega) (upToB_iff.1 h42).1 (upToB_iff.1 h42).2 (by omega)).symm | exact (relOk_range (by omega)).symm | exact (relOk_range (upToB_not h42 (by omega))).symm)⟩, trivial⟩, trivial, trivial, rfl⟩⟩
          · try simp only [decide_eq_true_eq, decide_eq_false_iff_not, Bool.not_eq_true, Bool.not_eq_false, Bool.not_eq_true', Bool.not_eq_false', beq_iff_eq, bne_iff_ne, beq_eq_false_iff_ne, bne_eq_false_iff_eq, Int.not_lt, Int.not_le, ge_iff_le, gt_iff_lt] at h36
            have hat := rowAt_next (ar := r.arity) (k := k) (by omega) (by omega) h14 (by omega) (by omega)
            refine AW_condF rfl ?_
            refine AW_skip ?_
            refine AW_region ?_
            refine AL_p (x_add rfl rfl rfl (IntWalk.i64_in _ (by omega))) ?_
            refine AL_p (x_move rfl rfl) ?_
            refine AL_nil ?_
            refine ⟨⟨k + 1, ⟨by omega, hs.succ (by omega) hat⟩⟩, rn [], ?_, by dsimp only; omega⟩
            exact ⟨by (repeat refine ⟨⟨_, rfl, by first | exact VLe.rf | exact vle_int (by dsimp only; omega)⟩, ?_⟩); exact trivial, by (repeat refine ⟨⟨_, rfl, by first | exact BLe.rf | exact BLe.box AllC.rf | exact BLe.arr (by exact rfl)⟩, ?_⟩); exact trivial, by repeat (first | exact trivial | refine ⟨⟨rfl, by first | (left; intro h; cases h) | (right; rfl), fun _ h => ⟨_, h⟩⟩, ?_⟩), rfl⟩
        · try simp only [decide_eq_true_eq, decide_eq_false_iff_not, Bool.not_eq_true, Bool.not_eq_false, Bool.not_eq_true', Bool.not_eq_false', beq_iff_eq, bne_iff_ne, beq_eq_false_iff_ne, bne_eq_false_iff_eq, Int.not_lt, Int.not_le, ge_iff_le, gt_iff_lt] at h26
          have hat := rowAt_first (ar := r.arity) (k := k) (by omega) (by omega) h14 (by omega)
          refine AL_o rfl rfl rfl rfl ?_
          refine AL_o rfl rfl rfl rfl ?_
          refine AL_o rfl rfl rfl rfl ?_
          refine AL_o rfl rfl rfl rfl ?_
          refine AL_o rfl rfl rfl rfl ?_
          refine AL_o rfl rfl rfl rfl ?_
          refine AL_o rfl rfl rfl rfl ?_
          refine AL_o rfl rfl rfl rfl ?_
          refine AL_o rfl rfl rfl rfl ?_
          refine AL_g rfl rfl (x_pickF rfl rfl rfl) ?_
          refine AL_p (x_pickF rfl rfl rfl) ?_
          refine AL_nild (by kernel_rfl) ?_
          refine AW_condF rfl ?_
          refine AW_skip ?_
          refine AW_region ?_
          refine AL_p (x_add rfl rfl rfl (IntWalk.i64_in _ (by omega))) ?_
          refine AL_p (x_move rfl rfl) ?_
          refine AL_nil ?_
          refine ⟨⟨k + 1, ⟨by omega, hs.succ (by omega) hat⟩⟩, rn [], ?_, by dsimp only; omega⟩
          exact ⟨by (repeat refine ⟨⟨_, rfl, by first | exact VLe.rf | exact vle_int (by dsimp only; omega)⟩, ?_⟩); exact trivial, by (repeat refine ⟨⟨_, rfl, by first | exact BLe.rf | exact BLe.box AllC.rf | exact BLe.arr (by exact rfl)⟩, ?_⟩); exact trivial, by repeat (first | exact trivial | refine ⟨⟨rfl, by first | (left; intro h; cases h) | (right; rfl), fun _ h => ⟨_, h⟩⟩, ?_⟩), rfl⟩
    · try simp only [decide_eq_true_eq, decide_eq_false_iff_not, Bool.not_eq_true, Bool.not_eq_false, Bool.not_eq_true', Bool.not_eq_false', beq_iff_eq, bne_iff_ne, beq_eq_false_iff_ne, bne_eq_false_iff_eq, Int.not_lt, Int.not_le, ge_iff_le, gt_iff_lt] at h14
      refine AL_o rfl rfl rfl rfl ?_
      refine AL_o rfl rfl rfl rfl ?_
      refine AL_o rfl rfl rfl rfl ?_
      refine AL_o rfl rfl rfl rfl ?_
      refine AL_o rfl rfl rfl rfl ?_
      refine AL_o rfl rfl rfl rfl ?_
      refine AL_p (x_pickT rfl rfl rfl) ?_
      refine AL_p (x_move rfl rfl) ?_
      refine AL_o rfl rfl rfl rfl ?_
      refine AL_o rfl rfl rfl rfl ?_
      refine AL_o rfl rfl rfl rfl ?_
      refine AL_u rfl rfl rfl ?_
      refine AL_u rfl rfl rfl ?_
      refine AL_u rfl rfl rfl ?_
      refine AL_u rfl rfl rfl ?_
      refine AL_u rfl rfl rfl ?_
      refine AL_u rfl rfl rfl ?_
      refine AL_u rfl rfl rfl ?_
      refine AL_u rfl rfl rfl ?_
      refine AL_u rfl rfl rfl ?_
      refine AL_o rfl rfl rfl rfl ?_
      refine AL_p (x_pickT rfl rfl rfl) ?_
      refine AL_nild (by kernel_rfl) ?_
      refine AW_condT rfl ?_
      refine AW_seq ?_
      refine AW_region ?_
      refine AL_p (x_assign rfl rfl) ?_
      refine AL_nil ?_
      refine AW_ret (BQ_ret (BQ_ret ?_))
      exact ⟨rn [], ⟨⟨⟨_, rfl, vle_bool (by first | exact (relOk_bad (k := k) (by omega) (rowAt_row (by omega) h14)).symm | exact (relOk_bad (k := k) (by omega) (rowAt_len (by omega) h22)).symm | exact (relOk_bad (k := k) (by omega) (rowAt_order (by omega) (by omega) (by omega))).symm | exact (relOk_good hs (by omega) (upToB_iff.1 h42).1 (upToB_iff.1 h42).2 (by omega)).symm | exact (relOk_range (by omega)).symm | exact (relOk_range (upToB_not h42 (by omega))).symm)⟩, trivial⟩, trivial, trivial, rfl⟩⟩
  · try simp only [decide_eq_true_eq, decide_eq_false_iff_not, Bool.not_eq_true, Bool.not_eq_false, Bool.not_eq_true', Bool.not_eq_false', beq_iff_eq, bne_iff_ne, beq_eq_false_iff_ne, bne_eq_false_iff_eq, Int.not_lt, Int.not_le, ge_iff_le, gt_iff_lt] at h9
    refine AW_condF rfl ?_
    refine AW_exit (BQ_hit ?_)
    refine AW_seq ?_
    refine AW_region ?_
    refine AL_p (x_field (off := 0) (o' := 0) rfl rfl rfl (by kernel_rfl) rfl) ?_
    refine AL_p (x_load1 rfl rfl rfl (by kernel_rfl) rfl) ?_
    refine AL_b (x_call0 rfl rfl rfl (upToI_c _ _) rfl rfl) (fun b42 h42 => ?_)
    refine AL_p (x_move rfl rfl) ?_
    cases b42
    rotate_left
    · try simp only [decide_eq_true_eq, decide_eq_false_iff_not, Bool.not_eq_true, Bool.not_eq_false, Bool.not_eq_true', Bool.not_eq_false', beq_iff_eq, bne_iff_ne, beq_eq_false_iff_ne, bne_eq_false_iff_eq, Int.not_lt, Int.not_le, ge_iff_le, gt_iff_lt] at h42
      refine AL_g rfl rfl (x_field (off := 1) (o' := 1) rfl rfl rfl (by kernel_rfl) rfl) ?_
      refine AL_g rfl rfl (x_load1 rfl rfl rfl (by kernel_rfl) rfl) ?_
      refine AL_g rfl rfl (x_len (E := 92) (n := 1) rfl rfl (by kernel_rfl)) ?_
      refine AL_gb rfl rfl (x_leq rfl rfl rfl) (fun b47 h47 => ?_)
      refine AL_p (x_pickT rfl rfl rfl) ?_
      refine AL_p (x_assign rfl rfl) ?_
      refine AL_nil ?_
      refine AW_ret ?_
      cases b47
      rotate_left
      · try simp only [decide_eq_true_eq, decide_eq_false_iff_not, Bool.not_eq_true, Bool.not_eq_false, Bool.not_eq_true', Bool.not_eq_false', beq_iff_eq, bne_iff_ne, beq_eq_false_iff_ne, bne_eq_false_iff_eq, Int.not_lt, Int.not_le, ge_iff_le, gt_iff_lt] at h47
        exact ⟨rn [], ⟨⟨⟨_, rfl, vle_bool (by first | exact (relOk_bad (k := k) (by omega) (rowAt_row (by omega) h14)).symm | exact (relOk_bad (k := k) (by omega) (rowAt_len (by omega) h22)).symm | exact (relOk_bad (k := k) (by omega) (rowAt_order (by omega) (by omega) (by omega))).symm | exact (relOk_good hs (by omega) (upToB_iff.1 h42).1 (upToB_iff.1 h42).2 (by omega)).symm | exact (relOk_range (by omega)).symm | exact (relOk_range (upToB_not h42 (by omega))).symm)⟩, trivial⟩, trivial, trivial, rfl⟩⟩
      · try simp only [decide_eq_true_eq, decide_eq_false_iff_not, Bool.not_eq_true, Bool.not_eq_false, Bool.not_eq_true', Bool.not_eq_false', beq_iff_eq, bne_iff_ne, beq_eq_false_iff_ne, bne_eq_false_iff_eq, Int.not_lt, Int.not_le, ge_iff_le, gt_iff_lt] at h47
        exact ⟨rn [], ⟨⟨⟨_, rfl, vle_bool (by first | exact (relOk_bad (k := k) (by omega) (rowAt_row (by omega) h14)).symm | exact (relOk_bad (k := k) (by omega) (rowAt_len (by omega) h22)).symm | exact (relOk_bad (k := k) (by omega) (rowAt_order (by omega) (by omega) (by omega))).symm | exact (relOk_good hs (by omega) (upToB_iff.1 h42).1 (upToB_iff.1 h42).2 (by omega)).symm | exact (relOk_range (by omega)).symm | exact (relOk_range (upToB_not h42 (by omega))).symm)⟩, trivial⟩, trivial, trivial, rfl⟩⟩
    · try simp only [decide_eq_true_eq, decide_eq_false_iff_not, Bool.not_eq_true, Bool.not_eq_false, Bool.not_eq_true', Bool.not_eq_false', beq_iff_eq, bne_iff_ne, beq_eq_false_iff_ne, bne_eq_false_iff_eq, Int.not_lt, Int.not_le, ge_iff_le, gt_iff_lt] at h42
      refine AL_o rfl rfl rfl rfl ?_
      refine AL_o rfl rfl rfl rfl ?_
      refine AL_o rfl rfl rfl rfl ?_
      refine AL_o rfl rfl rfl rfl ?_
      refine AL_p (x_pickF rfl rfl rfl) ?_
      refine AL_p (x_assign rfl rfl) ?_
      refine AL_nil ?_
      refine AW_ret ?_
      exact ⟨rn [], ⟨⟨⟨_, rfl, vle_bool (by first | exact (relOk_bad (k := k) (by omega) (rowAt_row (by omega) h14)).symm | exact (relOk_bad (k := k) (by omega) (rowAt_len (by omega) h22)).symm | exact (relOk_bad (k := k) (by omega) (rowAt_order (by omega) (by omega) (by omega))).symm | exact (relOk_good hs (by omega) (upToB_iff.1 h42).1 (upToB_iff.1 h42).2 (by omega)).symm | exact (relOk_range (by omega)).symm | exact (relOk_range (upToB_not h42 (by omega))).symm)⟩, trivial⟩, trivial, trivial, rfl⟩⟩
end Go.Proofs.Ytibhoanjglfaoaa

/- Like relations (printed by walk.py) -/
namespace Go.Proofs.Ytibhoanjglfaoaa
open Go.RowKit
set_option linter.unusedVariables false
set_option linter.unusedSimpArgs false
set_option maxRecDepth 100000

end Go.Proofs.Ytibhoanjglfaoaa

/- Stores (printed by walk.py) -/
namespace Go.Proofs.Ytibhoanjglfaoaa
open Go.RowKit
set_option linter.unusedVariables false
set_option linter.unusedSimpArgs false
set_option maxRecDepth 100000

set_option maxHeartbeats 4000000 in
theorem storeOkS_c (s : Storet) (hs : smallStore s) : AC Try.prog 45 [.agg (storeC s)] [] (.one (.c (.bool (storeOk s)))) [] := by
  refine AC_body1 Try.func45 rfl rfl Try.ntmps45 rfl Try.results45 ?_
  refine AW_seq ?_
  refine AW_region ?_
  refine AL_p (x_box 100 rfl rfl rfl rfl rfl rfl rfl) ?_
  refine AL_p (x_assign rfl rfl) ?_
  refine AL_nil ?_
  refine AW_seq ?_
  refine AW_seq ?_
  refine AW_region ?_
  refine AL_p (x_field (off := 0) (o' := 0) rfl rfl rfl (by kernel_rfl) rfl) ?_
  refine AL_p (x_load1 rfl rfl rfl (by kernel_rfl) rfl) ?_
  refine AL_p (x_len (E := 89) (n := 3) rfl rfl (by kernel_rfl)) ?_
  refine AL_b (x_gtr rfl rfl rfl) (fun b7 h7 => ?_)
  refine AL_nil ?_
  cases b7
  rotate_left
  · try simp only [decide_eq_true_eq, decide_eq_false_iff_not, Bool.not_eq_true, Bool.not_eq_false, Bool.not_eq_true', Bool.not_eq_false', beq_iff_eq, bne_iff_ne, beq_eq_false_iff_ne, bne_eq_false_iff_eq, Int.not_lt, Int.not_le, ge_iff_le, gt_iff_lt] at h7
    refine AW_condT rfl ?_
    refine AW_seq ?_
    refine AW_region ?_
    refine AL_p (x_assign rfl rfl) ?_
    refine AL_nil ?_
    refine AW_ret ?_
    exact ⟨rn [], ⟨⟨⟨_, rfl, vle_bool (by first | exact (storeOk_len (by omega)).symm | exact (storeOk_bad (k := k) (by omega) (namedAt_word (by omega) h20)).symm | exact (storeOk_bad (k := k) (by omega) (namedAt_rel (by omega) h29)).symm | exact (storeOk_bad (k := k) (by omega) (namedAt_order (by omega) (by omega) h49)).symm | exact (storeOk_good hA (by omega) (by omega)).symm | exact (storeOk_good hA (by omega) (by simpa using h43)).symm | exact (storeOk_len (by omega)).symm)⟩, trivial⟩, trivial, trivial, rfl⟩⟩
  · try simp only [decide_eq_true_eq, decide_eq_false_iff_not, Bool.not_eq_true, Bool.not_eq_false, Bool.not_eq_true', Bool.not_eq_false', beq_iff_eq, bne_iff_ne, beq_eq_false_iff_ne, bne_eq_false_iff_eq, Int.not_lt, Int.not_le, ge_iff_le, gt_iff_lt] at h7
    refine AW_condF rfl ?_
    refine AW_skip ?_
    refine AW_seq ?_
    refine AW_seq ?_
    refine AW_region ?_
    refine AL_p (x_field (off := 0) (o' := 0) rfl rfl rfl (by kernel_rfl) rfl) ?_
    refine AL_p (x_load1 rfl rfl rfl (by kernel_rfl) rfl) ?_
    refine AL_p (x_len (E := 89) (n := 3) rfl rfl (by kernel_rfl)) ?_
    refine AL_p (x_move rfl rfl) ?_
    refine AL_nil ?_
    refine AW_block ?_
    refine AW_loop2 (ι := {q : Nat // q ≤ s.rels.length ∧ AllAt (namedAt s.rels) q}) (fun p => [(11, .one (.c (.int .i64 ((p.1) : Int))))]) (fun p => []) [1, 10] [100] (fun p => s.rels.length - (p.1)) ⟨0, ⟨by have := hs.1; omega, .zero⟩⟩ (rn []) ?_ ?_
    exact ⟨by (repeat refine ⟨⟨_, rfl, by first | exact VLe.rf | exact vle_int (by dsimp only; omega)⟩, ?_⟩); exact trivial, by (repeat refine ⟨⟨_, rfl, by first | exact BLe.rf | exact BLe.box AllC.rf | exact BLe.arr (by exact rfl)⟩, ?_⟩); exact trivial, by repeat (first | exact trivial | refine ⟨⟨rfl, by first | (left; intro h; cases h) | (right; rfl), fun _ h => ⟨_, h⟩⟩, ?_⟩), rfl⟩
    rintro ⟨k, hinv⟩
    dsimp only
    obtain ⟨hk, hA⟩ := hinv
    have hl := hs.1
    refine AW_seq ?_
    refine AW_region ?_
    refine AL_b (x_lss rfl rfl rfl) (fun b12 h12 => ?_)
    refine AL_nil ?_
    refine AW_seq ?_
    cases b12
    rotate_left
    · try simp only [decide_eq_true_eq, decide_eq_false_iff_not, Bool.not_eq_true, Bool.not_eq_false, Bool.not_eq_true', Bool.not_eq_false', beq_iff_eq, bne_iff_ne, beq_eq_false_iff_ne, bne_eq_false_iff_eq, Int.not_lt, Int.not_le, ge_iff_le, gt_iff_lt] at h12
      refine AW_condT rfl ?_
      refine AW_skip ?_
      refine AW_seq ?_
      refine AW_block ?_
      refine AW_seq ?_
      refine AW_region ?_
      refine AL_p (x_move rfl rfl) ?_
      refine AL_p (x_assign rfl rfl) ?_
      refine AL_nil ?_
      refine AW_seq ?_
      refine AW_draw rfl ?_
      refine AL_p (x_field (off := 0) (o' := 0) rfl rfl rfl (by kernel_rfl) rfl) ?_
      refine AL_p (x_load1 rfl rfl rfl (by kernel_rfl) rfl) ?_
      refine AL_p (x_move rfl rfl) ?_
      refine AL_p (x_index (E := 89) (n := 3) rfl rfl rfl (by kernel_rfl) rfl (k := k) (by omega) (by omega)) ?_
      refine AL_p (x_efield (off := 0) (o' := 0) rfl rfl (by kernel_rfl) rfl) ?_
      refine AL_p (x_eload1 rfl rfl (by kernel_rfl) rfl) ?_
      refine AL_b (x_call0 rfl rfl rfl (wordOkS_c _) rfl rfl) (fun b20 h20 => ?_)
      refine AL_p (x_not rfl rfl) ?_
      refine AL_p (x_move rfl rfl) ?_
      cases b20
      rotate_left
      · try simp only [decide_eq_true_eq, decide_eq_false_iff_not, Bool.not_eq_true, Bool.not_eq_false, Bool.not_eq_true', Bool.not_eq_false', beq_iff_eq, bne_iff_ne, beq_eq_false_iff_ne, bne_eq_false_iff_eq, Int.not_lt, Int.not_le, ge_iff_le, gt_iff_lt] at h20
        refine AL_g rfl rfl (x_field (off := 0) (o' := 0) rfl rfl rfl (by kernel_rfl) rfl) ?_
        refine AL_g rfl rfl (x_load1 rfl rfl rfl (by kernel_rfl) rfl) ?_
        refine AL_g rfl rfl (x_move rfl rfl) ?_
        refine AL_g rfl rfl (x_index (E := 89) (n := 3) rfl rfl rfl (by kernel_rfl) rfl (k := k) (by omega) (by omega)) ?_
        refine AL_g rfl rfl (x_efield (off := 1) (o' := 1) rfl rfl (by kernel_rfl) rfl) ?_
        refine AL_g rfl rfl (x_eloadN (n := 2) rfl rfl (by kernel_rfl) rfl rfl) ?_
        refine AL_gb rfl rfl (x_call0 rfl rfl rfl (relOkS_c _ (hs.2 _ (List.getElem_mem _)).2.1) rfl rfl) (fun b29 h29 => ?_)
        refine AL_g rfl rfl (x_not rfl rfl) ?_
        refine AL_p (x_pickF rfl rfl rfl) ?_
        refine AL_p (x_move rfl rfl) ?_
        cases b29
        rotate_left
        · try simp only [decide_eq_true_eq, decide_eq_false_iff_not, Bool.not_eq_true, Bool.not_eq_false, Bool.not_eq_true', Bool.not_eq_false', beq_iff_eq, bne_iff_ne, beq_eq_false_iff_ne, bne_eq_false_iff_eq, Int.not_lt, Int.not_le, ge_iff_le, gt_iff_lt] at h29
          refine AL_g rfl rfl (x_move rfl rfl) ?_
          refine AL_gb rfl rfl (x_gtr rfl rfl rfl) (fun b34 h34 => ?_)
          refine AL_g rfl rfl (x_move rfl rfl) ?_
          cases b34
          rotate_left
          · try simp only [decide_eq_true_eq, decide_eq_false_iff_not, Bool.not_eq_true, Bool.not_eq_false, Bool.not_eq_true', Bool.not_eq_false', beq_iff_eq, bne_iff_ne, beq_eq_false_iff_ne, bne_eq_false_iff_eq, Int.not_lt, Int.not_le, ge_iff_le, gt_iff_lt] at h34
            refine AL_g rfl rfl (x_field (off := 0) (o' := 0) rfl rfl rfl (by kernel_rfl) rfl) ?_
            refine AL_g rfl rfl (x_load1 rfl rfl rfl (by kernel_rfl) rfl) ?_
            refine AL_g rfl rfl (x_move rfl rfl) ?_
            refine AL_g rfl rfl (x_sub rfl rfl rfl (IntWalk.i64_in _ (by omega))) ?_
            refine AL_g rfl rfl (x_index (E := 89) (n := 3) rfl rfl rfl (by kernel_rfl) rfl (k := k - 1) (by omega) (by omega)) ?_
            refine AL_g rfl rfl (x_efield (off := 0) (o' := 0) rfl rfl (by kernel_rfl) rfl) ?_
            refine AL_g rfl rfl (x_eload1 rfl rfl (by kernel_rfl) rfl) ?_
            refine AL_g rfl rfl (x_field (off := 0) (o' := 0) rfl rfl rfl (by kernel_rfl) rfl) ?_
            refine AL_g rfl rfl (x_load1 rfl rfl rfl (by kernel_rfl) rfl) ?_
            refine AL_g rfl rfl (x_move rfl rfl) ?_
            refine AL_g rfl rfl (x_index (E := 89) (n := 3) rfl rfl rfl (by kernel_rfl) rfl (k := k) (by omega) (by omega)) ?_
            refine AL_g rfl rfl (x_efield (off := 0) (o' := 0) rfl rfl (by kernel_rfl) rfl) ?_
            refine AL_g rfl rfl (x_eload1 rfl rfl (by kernel_rfl) rfl) ?_
            refine AL_gb rfl rfl (x_sgeq rfl rfl rfl) (fun b49 h49 => ?_)
            refine AL_g rfl rfl (x_pickT rfl rfl rfl) ?_
            refine AL_p (x_pickF rfl rfl rfl) ?_
            refine AL_nild (by kernel_rfl) ?_
            cases b49
            rotate_left
            · try simp only [decide_eq_true_eq, decide_eq_false_iff_not, Bool.not_eq_true, Bool.not_eq_false, Bool.not_eq_true', Bool.not_eq_false', beq_iff_eq, bne_iff_ne, beq_eq_false_iff_ne, bne_eq_false_iff_eq, Int.not_lt, Int.not_le, ge_iff_le, gt_iff_lt] at h49
              refine AW_condT rfl ?_
              refine AW_seq ?_
              refine AW_region ?_
              refine AL_p (x_assign rfl rfl) ?_
              refine AL_nil ?_
              refine AW_ret (BQ_ret (BQ_ret ?_))
              exact ⟨rn [], ⟨⟨⟨_, rfl, vle_bool (by first | exact (storeOk_len (by omega)).symm | exact (storeOk_bad (k := k) (by omega) (namedAt_word (by omega) h20)).symm | exact (storeOk_bad (k := k) (by omega) (namedAt_rel (by omega) h29)).symm | exact (storeOk_bad (k := k) (by omega) (namedAt_order (by omega) (by omega) h49)).symm | exact (storeOk_good hA (by omega) (by omega)).symm | exact (storeOk_good hA (by omega) (by simpa using h43)).symm | exact (storeOk_len (by omega)).symm)⟩, trivial⟩, trivial, trivial, rfl⟩⟩
            · try simp only [decide_eq_true_eq, decide_eq_false_iff_not, Bool.not_eq_true, Bool.not_eq_false, Bool.not_eq_true', Bool.not_eq_false', beq_iff_eq, bne_iff_ne, beq_eq_false_iff_ne, bne_eq_false_iff_eq, Int.not_lt, Int.not_le, ge_iff_le, gt_iff_lt] at h49
              have hat := namedAt_next (l := s.rels) (k := k) (by omega) h20 h29 h49
              refine AW_condF rfl ?_
              refine AW_skip ?_
              refine AW_region ?_
              refine AL_p (x_add rfl rfl rfl (IntWalk.i64_in _ (by omega))) ?_
              refine AL_p (x_move rfl rfl) ?_
              refine AL_nil ?_
              refine ⟨⟨k + 1, ⟨by omega, hA.succ (by omega) hat⟩⟩, rn [], ?_, by dsimp only; omega⟩
              exact ⟨by (repeat refine ⟨⟨_, rfl, by first | exact VLe.rf | exact vle_int (by dsimp only; omega)⟩, ?_⟩); exact trivial, by (repeat refine ⟨⟨_, rfl, by first | exact BLe.rf | exact BLe.box AllC.rf | exact BLe.arr (by exact rfl)⟩, ?_⟩); exact trivial, by repeat (first | exact trivial | refine ⟨⟨rfl, by first | (left; intro h; cases h) | (right; rfl), fun _ h => ⟨_, h⟩⟩, ?_⟩), rfl⟩
          · try simp only [decide_eq_true_eq, decide_eq_false_iff_not, Bool.not_eq_true, Bool.not_eq_false, Bool.not_eq_true', Bool.not_eq_false', beq_iff_eq, bne_iff_ne, beq_eq_false_iff_ne, bne_eq_false_iff_eq, Int.not_lt, Int.not_le, ge_iff_le, gt_iff_lt] at h34
            have hat := namedAt_first (l := s.rels) (k := k) (by omega) (by omega) h20 h29
            refine AL_o rfl rfl rfl rfl ?_
            refine AL_o rfl rfl rfl rfl ?_
            refine AL_o rfl rfl rfl rfl ?_
            refine AL_o rfl rfl rfl rfl ?_
            refine AL_o rfl rfl rfl rfl ?_
            refine AL_o rfl rfl rfl rfl ?_
            refine AL_o rfl rfl rfl rfl ?_
            refine AL_o rfl rfl rfl rfl ?_
            refine AL_o rfl rfl rfl rfl ?_
            refine AL_o rfl rfl rfl rfl ?_
            refine AL_o rfl rfl rfl rfl ?_
            refine AL_o rfl rfl rfl rfl ?_
            refine AL_o rfl rfl rfl rfl ?_
            refine AL_o rfl rfl rfl rfl ?_
            refine AL_g rfl rfl (x_pickF rfl rfl rfl) ?_
            refine AL_p (x_pickF rfl rfl rfl) ?_
            refine AL_nild (by kernel_rfl) ?_
            refine AW_condF rfl ?_
            refine AW_skip ?_
            refine AW_region ?_
            refine AL_p (x_add rfl rfl rfl (IntWalk.i64_in _ (by omega))) ?_
            refine AL_p (x_move rfl rfl) ?_
            refine AL_nil ?_
            refine ⟨⟨k + 1, ⟨by omega, hA.succ (by omega) hat⟩⟩, rn [], ?_, by dsimp only; omega⟩
            exact ⟨by (repeat refine ⟨⟨_, rfl, by first | exact VLe.rf | exact vle_int (by dsimp only; omega)⟩, ?_⟩); exact trivial, by (repeat refine ⟨⟨_, rfl, by first | exact BLe.rf | exact BLe.box AllC.rf | exact BLe.arr (by exact rfl)⟩, ?_⟩); exact trivial, by repeat (first | exact trivial | refine ⟨⟨rfl, by first | (left; intro h; cases h) | (right; rfl), fun _ h => ⟨_, h⟩⟩, ?_⟩), rfl⟩
        · try simp only [decide_eq_true_eq, decide_eq_false_iff_not, Bool.not_eq_true, Bool.not_eq_false, Bool.not_eq_true', Bool.not_eq_false', beq_iff_eq, bne_iff_ne, beq_eq_false_iff_ne, bne_eq_false_iff_eq, Int.not_lt, Int.not_le, ge_iff_le, gt_iff_lt] at h29
          refine AL_o rfl rfl rfl rfl ?_
          refine AL_o rfl rfl rfl rfl ?_
          refine AL_o rfl rfl rfl rfl ?_
          refine AL_u rfl rfl rfl ?_
          refine AL_u rfl rfl rfl ?_
          refine AL_u rfl rfl rfl ?_
          refine AL_u rfl rfl rfl ?_
          refine AL_u rfl rfl rfl ?_
          refine AL_u rfl rfl rfl ?_
          refine AL_u rfl rfl rfl ?_
          refine AL_u rfl rfl rfl ?_
          refine AL_u rfl rfl rfl ?_
          refine AL_u rfl rfl rfl ?_
          refine AL_u rfl rfl rfl ?_
          refine AL_u rfl rfl rfl ?_
          refine AL_u rfl rfl rfl ?_
          refine AL_u rfl rfl rfl ?_
          refine AL_o rfl rfl rfl rfl ?_
          refine AL_p (x_pickT rfl rfl rfl) ?_
          refine AL_nild (by kernel_rfl) ?_
          refine AW_condT rfl ?_
          refine AW_seq ?_
          refine AW_region ?_
          refine AL_p (x_assign rfl rfl) ?_
          refine AL_nil ?_
          refine AW_ret (BQ_ret (BQ_ret ?_))
          exact ⟨rn [], ⟨⟨⟨_, rfl, vle_bool (by first | exact (storeOk_len (by omega)).symm | exact (storeOk_bad (k := k) (by omega) (namedAt_word (by omega) h20)).symm | exact (storeOk_bad (k := k) (by omega) (namedAt_rel (by omega) h29)).symm | exact (storeOk_bad (k := k) (by omega) (namedAt_order (by omega) (by omega) h49)).symm | exact (storeOk_good hA (by omega) (by omega)).symm | exact (storeOk_good hA (by omega) (by simpa using h43)).symm | exact (storeOk_len (by omega)).symm)⟩, trivial⟩, trivial, trivial, rfl⟩⟩
      · try simp only [decide_eq_true_eq, decide_eq_false_iff_not, Bool.not_eq_true, Bool.not_eq_false, Bool.not_eq_true', Bool.not_eq_false', beq_iff_eq, bne_iff_ne, beq_eq_false_iff_ne, bne_eq_false_iff_eq, Int.not_lt, Int.not_le, ge_iff_le, gt_iff_lt] at h20
        refine AL_o rfl rfl rfl rfl ?_
        refine AL_o rfl rfl rfl rfl ?_
        refine AL_o rfl rfl rfl rfl ?_
        refine AL_o rfl rfl rfl rfl ?_
        refine AL_o rfl rfl rfl rfl ?_
        refine AL_o rfl rfl rfl rfl ?_
        refine AL_o rfl rfl rfl rfl ?_
        refine AL_o rfl rfl rfl rfl ?_
        refine AL_p (x_pickT rfl rfl rfl) ?_
        refine AL_p (x_move rfl rfl) ?_
        refine AL_o rfl rfl rfl rfl ?_
        refine AL_o rfl rfl rfl rfl ?_
        refine AL_o rfl rfl rfl rfl ?_
        refine AL_u rfl rfl rfl ?_
        refine AL_u rfl rfl rfl ?_
        refine AL_u rfl rfl rfl ?_
        refine AL_u rfl rfl rfl ?_
        refine AL_u rfl rfl rfl ?_
        refine AL_u rfl rfl rfl ?_
        refine AL_u rfl rfl rfl ?_
        refine AL_u rfl rfl rfl ?_
        refine AL_u rfl rfl rfl ?_
        refine AL_u rfl rfl rfl ?_
        refine AL_u rfl rfl rfl ?_
        refine AL_u rfl rfl rfl ?_
        refine AL_u rfl rfl rfl ?_
        refine AL_u rfl rfl rfl ?_
        refine AL_o rfl rfl rfl rfl ?_
        refine AL_p (x_pickT rfl rfl rfl) ?_
        refine AL_nild (by kernel_rfl) ?_
        refine AW_condT rfl ?_
        refine AW_seq ?_
        refine AW_region ?_
        refine AL_p (x_assign rfl rfl) ?_
        refine AL_nil ?_
        refine AW_ret (BQ_ret (BQ_ret ?_))
        exact ⟨rn [], ⟨⟨⟨_, rfl, vle_bool (by first | exact (storeOk_len (by omega)).symm | exact (storeOk_bad (k := k) (by omega) (namedAt_word (by omega) h20)).symm | exact (storeOk_bad (k := k) (by omega) (namedAt_rel (by omega) h29)).symm | exact (storeOk_bad (k := k) (by omega) (namedAt_order (by omega) (by omega) h49)).symm | exact (storeOk_good hA (by omega) (by omega)).symm | exact (storeOk_good hA (by omega) (by simpa using h43)).symm | exact (storeOk_len (by omega)).symm)⟩, trivial⟩, trivial, trivial, rfl⟩⟩
    · try simp only [decide_eq_true_eq, decide_eq_false_iff_not, Bool.not_eq_true, Bool.not_eq_false, Bool.not_eq_true', Bool.not_eq_false', beq_iff_eq, bne_iff_ne, beq_eq_false_iff_ne, bne_eq_false_iff_eq, Int.not_lt, Int.not_le, ge_iff_le, gt_iff_lt] at h12
      refine AW_condF rfl ?_
      refine AW_exit (BQ_hit ?_)
      refine AW_seq ?_
      refine AW_region ?_
      refine AL_p (x_assign rfl rfl) ?_
      refine AL_nil ?_
      refine AW_ret ?_
      exact ⟨rn [], ⟨⟨⟨_, rfl, vle_bool (by first | exact (storeOk_len (by omega)).symm | exact (storeOk_bad (k := k) (by omega) (namedAt_word (by omega) h20)).symm | exact (storeOk_bad (k := k) (by omega) (namedAt_rel (by omega) h29)).symm | exact (storeOk_bad (k := k) (by omega) (namedAt_order (by omega) (by omega) h49)).symm | exact (storeOk_good hA (by omega) (by omega)).symm | exact (storeOk_good hA (by omega) (by simpa using h43)).symm | exact (storeOk_len (by omega)).symm)⟩, trivial⟩, trivial, trivial, rfl⟩⟩

set_option maxHeartbeats 4000000 in
theorem storeOkI_c (s : Storet) (hs : smallStore s) : AC Try.prog 50 [.agg (storeC s)] [] (.one (.c (.bool (storeOk s)))) [] := by
  refine AC_body1 Try.func50 rfl rfl Try.ntmps50 rfl Try.results50 ?_
  refine AW_seq ?_
  refine AW_region ?_
  refine AL_p (x_box 100 rfl rfl rfl rfl rfl rfl rfl) ?_
  refine AL_p (x_assign rfl rfl) ?_
  refine AL_nil ?_
  refine AW_seq ?_
  refine AW_seq ?_
  refine AW_region ?_
  refine AL_p (x_field (off := 0) (o' := 0) rfl rfl rfl (by kernel_rfl) rfl) ?_
  refine AL_p (x_load1 rfl rfl rfl (by kernel_rfl) rfl) ?_
  refine AL_p (x_len (E := 89) (n := 3) rfl rfl (by kernel_rfl)) ?_
  refine AL_p (x_move rfl rfl) ?_
  refine AL_nil ?_
  refine AW_block ?_
  refine AW_loop2 (ι := {q : Nat // q ≤ s.rels.length ∧ AllAt (namedAt s.rels) q}) (fun p => [(8, .one (.c (.int .i64 ((p.1) : Int))))]) (fun p => []) [1, 6, 7] [100] (fun p => s.rels.length - (p.1)) ⟨0, ⟨by have := hs.1; omega, .zero⟩⟩ (rn []) ?_ ?_
  exact ⟨by (repeat refine ⟨⟨_, rfl, by first | exact VLe.rf | exact vle_int (by dsimp only; omega)⟩, ?_⟩); exact trivial, by (repeat refine ⟨⟨_, rfl, by first | exact BLe.rf | exact BLe.box AllC.rf | exact BLe.arr (by exact rfl)⟩, ?_⟩); exact trivial, by repeat (first | exact trivial | refine ⟨⟨rfl, by first | (left; intro h; cases h) | (right; rfl), fun _ h => ⟨_, h⟩⟩, ?_⟩), rfl⟩
  rintro ⟨k, hinv⟩
  dsimp only
  obtain ⟨hk, hA⟩ := hinv
  have hl := hs.1
  refine AW_seq ?_
  refine AW_region ?_
  refine AL_b (x_lss rfl rfl rfl) (fun b9 h9 => ?_)
  refine AL_nil ?_
  refine AW_seq ?_
  cases b9
  rotate_left
  · try simp only [decide_eq_true_eq, decide_eq_false_iff_not, Bool.not_eq_true, Bool.not_eq_false, Bool.not_eq_true', Bool.not_eq_false', beq_iff_eq, bne_iff_ne, beq_eq_false_iff_ne, bne_eq_false_iff_eq, Int.not_lt, Int.not_le, ge_iff_le, gt_iff_lt] at h9
    refine AW_condT rfl ?_
    refine AW_skip ?_
    refine AW_seq ?_
    refine AW_block ?_
    refine AW_seq ?_
    refine AW_region ?_
    refine AL_p (x_move rfl rfl) ?_
    refine AL_p (x_index (E := 89) (n := 3) rfl rfl rfl (by kernel_rfl) rfl (k := k) (by omega) (by omega)) ?_
    refine AL_p (x_eloadW (n := 3) rfl rfl (by kernel_rfl) rfl) ?_
    refine AL_p (x_alloc (z := .agg #[.string ⟨#[]⟩, .int .i64 0, .slice none 0 0]) 101 rfl (by kernel_rfl) rfl rfl rfl rfl) ?_
    refine AL_p (x_assign rfl rfl) ?_
    refine AL_p (x_store (n := 3) rfl rfl rfl rfl (by kernel_rfl) rfl rfl rfl) ?_
    refine AL_nil ?_
    refine AW_seq ?_
    refine AW_draw rfl ?_
    refine AL_p (x_field (off := 0) (o' := 0) rfl rfl rfl (by kernel_rfl) rfl) ?_
    refine AL_p (x_load1 rfl rfl rfl (by kernel_rfl) rfl) ?_
    refine AL_b (x_call0 rfl rfl rfl (wordOkI_c _) rfl rfl) (fun b15 h15 => ?_)
    refine AL_p (x_not rfl rfl) ?_
    refine AL_p (x_move rfl rfl) ?_
    cases b15
    rotate_left
    · try simp only [decide_eq_true_eq, decide_eq_false_iff_not, Bool.not_eq_true, Bool.not_eq_false, Bool.not_eq_true', Bool.not_eq_false', beq_iff_eq, bne_iff_ne, beq_eq_false_iff_ne, bne_eq_false_iff_eq, Int.not_lt, Int.not_le, ge_iff_le, gt_iff_lt] at h15
      refine AL_g rfl rfl (x_field (off := 1) (o' := 1) rfl rfl rfl (by kernel_rfl) rfl) ?_
      refine AL_g rfl rfl (x_loadN (n := 2) rfl rfl rfl (by kernel_rfl) rfl rfl) ?_
      refine AL_gb rfl rfl (x_call0 rfl rfl rfl (relOkI_c _ (hs.2 _ (List.getElem_mem _)).2.1) rfl rfl) (fun b20 h20 => ?_)
      refine AL_g rfl rfl (x_not rfl rfl) ?_
      refine AL_p (x_pickF rfl rfl rfl) ?_
      refine AL_p (x_move rfl rfl) ?_
      cases b20
      rotate_left
      · try simp only [decide_eq_true_eq, decide_eq_false_iff_not, Bool.not_eq_true, Bool.not_eq_false, Bool.not_eq_true', Bool.not_eq_false', beq_iff_eq, bne_iff_ne, beq_eq_false_iff_ne, bne_eq_false_iff_eq, Int.not_lt, Int.not_le, ge_iff_le, gt_iff_lt] at h20
        refine AL_g rfl rfl (x_move rfl rfl) ?_
        refine AL_gb rfl rfl (x_gtr rfl rfl rfl) (fun b25 h25 => ?_)
        refine AL_g rfl rfl (x_move rfl rfl) ?_
        cases b25
        rotate_left
        · try simp only [decide_eq_true_eq, decide_eq_false_iff_not, Bool.not_eq_true, Bool.not_eq_false, Bool.not_eq_true', Bool.not_eq_false', beq_iff_eq, bne_iff_ne, beq_eq_false_iff_ne, bne_eq_false_iff_eq, Int.not_lt, Int.not_le, ge_iff_le, gt_iff_lt] at h25
          refine AL_g rfl rfl (x_field (off := 0) (o' := 0) rfl rfl rfl (by kernel_rfl) rfl) ?_
          refine AL_g rfl rfl (x_load1 rfl rfl rfl (by kernel_rfl) rfl) ?_
          refine AL_g rfl rfl (x_move rfl rfl) ?_
          refine AL_g rfl rfl (x_sub rfl rfl rfl (IntWalk.i64_in _ (by omega))) ?_
          refine AL_g rfl rfl (x_index (E := 89) (n := 3) rfl rfl rfl (by kernel_rfl) rfl (k := k - 1) (by omega) (by omega)) ?_
          refine AL_g rfl rfl (x_efield (off := 0) (o' := 0) rfl rfl (by kernel_rfl) rfl) ?_
          refine AL_g rfl rfl (x_eload1 rfl rfl (by kernel_rfl) rfl) ?_
          refine AL_g rfl rfl (x_field (off := 0) (o' := 0) rfl rfl rfl (by kernel_rfl) rfl) ?_
          refine AL_g rfl rfl (x_load1 rfl rfl rfl (by kernel_rfl) rfl) ?_
          refine AL_gb rfl rfl (x_sgeq rfl rfl rfl) (fun b36 h36 => ?_)
          refine AL_g rfl rfl (x_pickT rfl rfl rfl) ?_
          refine AL_p (x_pickF rfl rfl rfl) ?_
          refine AL_nild (by kernel_rfl) ?_
          cases b36
          rotate_left
          · try simp only [decide_eq_true_eq, decide_eq_false_iff_not, Bool.not_eq_true, Bool.not_eq_false, Bool.not_eq_true', Bool.not_eq_false', beq_iff_eq, bne_iff_ne, beq_eq_false_iff_ne, bne_eq_false_iff_eq, Int.not_lt, Int.not_le, ge_iff_le, gt_iff_lt] at h36
            refine AW_condT rfl ?_
            refine AW_seq ?_
            refine AW_region ?_
            refine AL_p (x_assign rfl rfl) ?_
            refine AL_nil ?_
            refine AW_ret (BQ_ret (BQ_ret ?_))
            exact ⟨rn [], ⟨⟨⟨_, rfl, vle_bool (by first | exact (storeOk_len (by omega)).symm | exact (storeOk_bad (k := k) (by omega) (namedAt_word (by omega) h15)).symm | exact (storeOk_bad (k := k) (by omega) (namedAt_rel (by omega) h20)).symm | exact (storeOk_bad (k := k) (by omega) (namedAt_order (by omega) (by omega) h36)).symm | exact (storeOk_good hA (by omega) (by omega)).symm | exact (storeOk_good hA (by omega) (by simpa using h43)).symm | exact (storeOk_len (by omega)).symm)⟩, trivial⟩, trivial, trivial, rfl⟩⟩
          · try simp only [decide_eq_true_eq, decide_eq_false_iff_not, Bool.not_eq_true, Bool.not_eq_false, Bool.not_eq_true', Bool.not_eq_false', beq_iff_eq, bne_iff_ne, beq_eq_false_iff_ne, bne_eq_false_iff_eq, Int.not_lt, Int.not_le, ge_iff_le, gt_iff_lt] at h36
            have hat := namedAt_next (l := s.rels) (k := k) (by omega) h15 h20 h36
            refine AW_condF rfl ?_
            refine AW_skip ?_
            refine AW_region ?_
            refine AL_p (x_add rfl rfl rfl (IntWalk.i64_in _ (by omega))) ?_
            refine AL_p (x_move rfl rfl) ?_
            refine AL_nil ?_
            refine ⟨⟨k + 1, ⟨by omega, hA.succ (by omega) hat⟩⟩, rn [], ?_, by dsimp only; omega⟩
            exact ⟨by (repeat refine ⟨⟨_, rfl, by first | exact VLe.rf | exact vle_int (by dsimp only; omega)⟩, ?_⟩); exact trivial, by (repeat refine ⟨⟨_, rfl, by first | exact BLe.rf | exact BLe.box AllC.rf | exact BLe.arr (by exact rfl)⟩, ?_⟩); exact trivial, by repeat (first | exact trivial | refine ⟨⟨rfl, by first | (left; intro h; cases h) | (right; rfl), fun _ h => ⟨_, h⟩⟩, ?_⟩), rfl⟩
        · try simp only [decide_eq_true_eq, decide_eq_false_iff_not, Bool.not_eq_true, Bool.not_eq_false, Bool.not_eq_true', Bool.not_eq_false', beq_iff_eq, bne_iff_ne, beq_eq_false_iff_ne, bne_eq_false_iff_eq, Int.not_lt, Int.not_le, ge_iff_le, gt_iff_lt] at h25
          have hat := namedAt_first (l := s.rels) (k := k) (by omega) (by omega) h15 h20
          refine AL_o rfl rfl rfl rfl ?_
          refine AL_o rfl rfl rfl rfl ?_
          refine AL_o rfl rfl rfl rfl ?_
          refine AL_o rfl rfl rfl rfl ?_
          refine AL_o rfl rfl rfl rfl ?_
          refine AL_o rfl rfl rfl rfl ?_
          refine AL_o rfl rfl rfl rfl ?_
          refine AL_o rfl rfl rfl rfl ?_
          refine AL_o rfl rfl rfl rfl ?_
          refine AL_o rfl rfl rfl rfl ?_
          refine AL_g rfl rfl (x_pickF rfl rfl rfl) ?_
          refine AL_p (x_pickF rfl rfl rfl) ?_
          refine AL_nild (by kernel_rfl) ?_
          refine AW_condF rfl ?_
          refine AW_skip ?_
          refine AW_region ?_
          refine AL_p (x_add rfl rfl rfl (IntWalk.i64_in _ (by omega))) ?_
          refine AL_p (x_move rfl rfl) ?_
          refine AL_nil ?_
          refine ⟨⟨k + 1, ⟨by omega, hA.succ (by omega) hat⟩⟩, rn [], ?_, by dsimp only; omega⟩
          exact ⟨by (repeat refine ⟨⟨_, rfl, by first | exact VLe.rf | exact vle_int (by dsimp only; omega)⟩, ?_⟩); exact trivial, by (repeat refine ⟨⟨_, rfl, by first | exact BLe.rf | exact BLe.box AllC.rf | exact BLe.arr (by exact rfl)⟩, ?_⟩); exact trivial, by repeat (first | exact trivial | refine ⟨⟨rfl, by first | (left; intro h; cases h) | (right; rfl), fun _ h => ⟨_, h⟩⟩, ?_⟩), rfl⟩
      · try simp only [decide_eq_true_eq, decide_eq_false_iff_not, Bool.not_eq_true, Bool.not_eq_false, Bool.not_eq_true', Bool.not_eq_false', beq_iff_eq, bne_iff_ne, beq_eq_false_iff_ne, bne_eq_false_iff_eq, Int.not_lt, Int.not_le, ge_iff_le, gt_iff_lt] at h20
        refine AL_o rfl rfl rfl rfl ?_
        refine AL_o rfl rfl rfl rfl ?_
        refine AL_o rfl rfl rfl rfl ?_
        refine AL_u rfl rfl rfl ?_
        refine AL_u rfl rfl rfl ?_
        refine AL_u rfl rfl rfl ?_
        refine AL_u rfl rfl rfl ?_
        refine AL_u rfl rfl rfl ?_
        refine AL_u rfl rfl rfl ?_
        refine AL_u rfl rfl rfl ?_
        refine AL_u rfl rfl rfl ?_
        refine AL_u rfl rfl rfl ?_
        refine AL_u rfl rfl rfl ?_
        refine AL_o rfl rfl rfl rfl ?_
        refine AL_p (x_pickT rfl rfl rfl) ?_
        refine AL_nild (by kernel_rfl) ?_
        refine AW_condT rfl ?_
        refine AW_seq ?_
        refine AW_region ?_
        refine AL_p (x_assign rfl rfl) ?_
        refine AL_nil ?_
        refine AW_ret (BQ_ret (BQ_ret ?_))
        exact ⟨rn [], ⟨⟨⟨_, rfl, vle_bool (by first | exact (storeOk_len (by omega)).symm | exact (storeOk_bad (k := k) (by omega) (namedAt_word (by omega) h15)).symm | exact (storeOk_bad (k := k) (by omega) (namedAt_rel (by omega) h20)).symm | exact (storeOk_bad (k := k) (by omega) (namedAt_order (by omega) (by omega) h36)).symm | exact (storeOk_good hA (by omega) (by omega)).symm | exact (storeOk_good hA (by omega) (by simpa using h43)).symm | exact (storeOk_len (by omega)).symm)⟩, trivial⟩, trivial, trivial, rfl⟩⟩
    · try simp only [decide_eq_true_eq, decide_eq_false_iff_not, Bool.not_eq_true, Bool.not_eq_false, Bool.not_eq_true', Bool.not_eq_false', beq_iff_eq, bne_iff_ne, beq_eq_false_iff_ne, bne_eq_false_iff_eq, Int.not_lt, Int.not_le, ge_iff_le, gt_iff_lt] at h15
      refine AL_o rfl rfl rfl rfl ?_
      refine AL_o rfl rfl rfl rfl ?_
      refine AL_o rfl rfl rfl rfl ?_
      refine AL_o rfl rfl rfl rfl ?_
      refine AL_p (x_pickT rfl rfl rfl) ?_
      refine AL_p (x_move rfl rfl) ?_
      refine AL_o rfl rfl rfl rfl ?_
      refine AL_o rfl rfl rfl rfl ?_
      refine AL_o rfl rfl rfl rfl ?_
      refine AL_u rfl rfl rfl ?_
      refine AL_u rfl rfl rfl ?_
      refine AL_u rfl rfl rfl ?_
      refine AL_u rfl rfl rfl ?_
      refine AL_u rfl rfl rfl ?_
      refine AL_u rfl rfl rfl ?_
      refine AL_u rfl rfl rfl ?_
      refine AL_u rfl rfl rfl ?_
      refine AL_u rfl rfl rfl ?_
      refine AL_u rfl rfl rfl ?_
      refine AL_o rfl rfl rfl rfl ?_
      refine AL_p (x_pickT rfl rfl rfl) ?_
      refine AL_nild (by kernel_rfl) ?_
      refine AW_condT rfl ?_
      refine AW_seq ?_
      refine AW_region ?_
      refine AL_p (x_assign rfl rfl) ?_
      refine AL_nil ?_
      refine AW_ret (BQ_ret (BQ_ret ?_))
      exact ⟨rn [], ⟨⟨⟨_, rfl, vle_bool (by first | exact (storeOk_len (by omega)).symm | exact (storeOk_bad (k := k) (by omega) (namedAt_word (by omega) h15)).symm | exact (storeOk_bad (k := k) (by omega) (namedAt_rel (by omega) h20)).symm | exact (storeOk_bad (k := k) (by omega) (namedAt_order (by omega) (by omega) h36)).symm | exact (storeOk_good hA (by omega) (by omega)).symm | exact (storeOk_good hA (by omega) (by simpa using h43)).symm | exact (storeOk_len (by omega)).symm)⟩, trivial⟩, trivial, trivial, rfl⟩⟩
  · try simp only [decide_eq_true_eq, decide_eq_false_iff_not, Bool.not_eq_true, Bool.not_eq_false, Bool.not_eq_true', Bool.not_eq_false', beq_iff_eq, bne_iff_ne, beq_eq_false_iff_ne, bne_eq_false_iff_eq, Int.not_lt, Int.not_le, ge_iff_le, gt_iff_lt] at h9
    refine AW_condF rfl ?_
    refine AW_exit (BQ_hit ?_)
    refine AW_seq ?_
    refine AW_region ?_
    refine AL_p (x_field (off := 0) (o' := 0) rfl rfl rfl (by kernel_rfl) rfl) ?_
    refine AL_p (x_load1 rfl rfl rfl (by kernel_rfl) rfl) ?_
    refine AL_p (x_len (E := 89) (n := 3) rfl rfl (by kernel_rfl)) ?_
    refine AL_b (x_leq rfl rfl rfl) (fun b43 h43 => ?_)
    refine AL_p (x_assign rfl rfl) ?_
    refine AL_nil ?_
    refine AW_ret ?_
    cases b43
    rotate_left
    · try simp only [decide_eq_true_eq, decide_eq_false_iff_not, Bool.not_eq_true, Bool.not_eq_false, Bool.not_eq_true', Bool.not_eq_false', beq_iff_eq, bne_iff_ne, beq_eq_false_iff_ne, bne_eq_false_iff_eq, Int.not_lt, Int.not_le, ge_iff_le, gt_iff_lt] at h43
      exact ⟨rn [], ⟨⟨⟨_, rfl, vle_bool (by first | exact (storeOk_len (by omega)).symm | exact (storeOk_bad (k := k) (by omega) (namedAt_word (by omega) h15)).symm | exact (storeOk_bad (k := k) (by omega) (namedAt_rel (by omega) h20)).symm | exact (storeOk_bad (k := k) (by omega) (namedAt_order (by omega) (by omega) h36)).symm | exact (storeOk_good hA (by omega) (by omega)).symm | exact (storeOk_good hA (by omega) (by simpa using h43)).symm | exact (storeOk_len (by omega)).symm)⟩, trivial⟩, trivial, trivial, rfl⟩⟩
    · try simp only [decide_eq_true_eq, decide_eq_false_iff_not, Bool.not_eq_true, Bool.not_eq_false, Bool.not_eq_true', Bool.not_eq_false', beq_iff_eq, bne_iff_ne, beq_eq_false_iff_ne, bne_eq_false_iff_eq, Int.not_lt, Int.not_le, ge_iff_le, gt_iff_lt] at h43
      exact ⟨rn [], ⟨⟨⟨_, rfl, vle_bool (by first | exact (storeOk_len (by omega)).symm | exact (storeOk_bad (k := k) (by omega) (namedAt_word (by omega) h15)).symm | exact (storeOk_bad (k := k) (by omega) (namedAt_rel (by omega) h20)).symm | exact (storeOk_bad (k := k) (by omega) (namedAt_order (by omega) (by omega) h36)).symm | exact (storeOk_good hA (by omega) (by omega)).symm | exact (storeOk_good hA (by omega) (by simpa using h43)).symm | exact (storeOk_len (by omega)).symm)⟩, trivial⟩, trivial, trivial, rfl⟩⟩

end Go.Proofs.Ytibhoanjglfaoaa

/- Lemmas of the walks, part 5. -/
import Derived.Test.YtfdpigafekohgaaE14
/- Messages that are well formed (printed by walk.py) -/
namespace Go.Proofs.Ytfdpigafekohgaa
open Go.RowKit
set_option linter.unusedVariables false
set_option linter.unusedSimpArgs false
set_option maxRecDepth 100000

set_option maxHeartbeats 4000000 in
theorem actsS_c (l : List Actt) : AC Try.prog 123 [.one (.sl actE l)] [] (.one (.c (.bool (actsB l)))) [] := by
  refine AC_body1 Try.func123 rfl rfl Try.ntmps123 rfl Try.results123 ?_
  refine AW_slmax 0 rfl (fun hm0 => ?_)
  refine AW_seq ?_
  refine AW_region ?_
  refine AL_p (x_assign rfl rfl) ?_
  refine AL_nil ?_
  refine AW_seq ?_
  refine AW_seq ?_
  refine AW_region ?_
  refine AL_p (x_move rfl rfl) ?_
  refine AL_p (x_len (E := 114) (n := 3) rfl rfl (by kernel_rfl)) ?_
  refine AL_b (x_gtr rfl rfl rfl) (fun b8 h8 => ?_)
  refine AL_nil ?_
  cases b8
  rotate_left
  · try simp only [decide_eq_true_eq, decide_eq_false_iff_not, Bool.not_eq_true, Bool.not_eq_false, Bool.not_eq_true', Bool.not_eq_false', beq_iff_eq, bne_iff_ne, beq_eq_false_iff_ne, bne_eq_false_iff_eq, Int.not_lt, Int.not_le, ge_iff_le, gt_iff_lt] at h8
    refine AW_condT rfl ?_
    refine AW_seq ?_
    refine AW_region ?_
    refine AL_p (x_assign rfl rfl) ?_
    refine AL_nil ?_
    refine AW_ret ?_
    exact ⟨rn [], ⟨⟨⟨_, rfl, vle_bool (by first | exact (actsB_bad (k := k) (by omega) (by unfold actB; first | (rw [decide_eq_true_eq]; omega) | (rw [decide_eq_false_iff_not]; omega))).symm | exact (actsB_good hA (by omega) (by omega)).symm | exact (actsB_len (by omega)).symm)⟩, trivial⟩, trivial, trivial, rfl⟩⟩
  · try simp only [decide_eq_true_eq, decide_eq_false_iff_not, Bool.not_eq_true, Bool.not_eq_false, Bool.not_eq_true', Bool.not_eq_false', beq_iff_eq, bne_iff_ne, beq_eq_false_iff_ne, bne_eq_false_iff_eq, Int.not_lt, Int.not_le, ge_iff_le, gt_iff_lt] at h8
    refine AW_condF rfl ?_
    refine AW_skip ?_
    refine AW_seq ?_
    refine AW_seq ?_
    refine AW_region ?_
    refine AL_p (x_move rfl rfl) ?_
    refine AL_p (x_len (E := 114) (n := 3) rfl rfl (by kernel_rfl)) ?_
    refine AL_p (x_move rfl rfl) ?_
    refine AL_nil ?_
    refine AW_block ?_
    refine AW_loop2 (ι := {q : Nat // q ≤ l.length ∧ AllAt (fun q (hk : q < l.length) => actB l[q]) q}) (fun p => [(11, .one (.c (.int .i64 ((p.1) : Int))))]) (fun p => []) [9, 10] [] (fun p => l.length - (p.1)) ⟨0, ⟨by omega, .zero⟩⟩ (rn []) ?_ ?_
    exact ⟨by (repeat refine ⟨⟨_, rfl, by first | exact VLe.rf | exact vle_int (by dsimp only; omega)⟩, ?_⟩); exact trivial, by (repeat refine ⟨⟨_, rfl, by first | exact BLe.rf | exact BLe.box AllC.rf | exact BLe.arr (by exact rfl)⟩, ?_⟩); exact trivial, by repeat (first | exact trivial | refine ⟨⟨rfl, by first | (left; intro h; cases h) | (right; rfl), fun _ h => ⟨_, h⟩⟩, ?_⟩), rfl⟩
    rintro ⟨k, hinv⟩
    dsimp only
    have hk := hinv.1
    have hA := hinv.2
    refine AW_seq ?_
    refine AW_region ?_
    refine AL_b (x_lss rfl rfl rfl) (fun b12 h12 => ?_)
    refine AL_nil ?_
    refine AW_seq ?_
    cases b12
    rotate_left
    · try simp only [decide_eq_true_eq, decide_eq_false_iff_not, Bool.not_eq_true, Bool.not_eq_false, Bool.not_eq_true', Bool.not_eq_false', beq_iff_eq, bne_iff_ne, beq_eq_false_iff_ne, bne_eq_false_iff_eq, Int.not_lt, Int.not_le, ge_iff_le, gt_iff_lt] at h12
      refine AW_condT rfl ?_
      refine AW_skip ?_
      refine AW_seq ?_
      refine AW_block ?_
      refine AW_seq ?_
      refine AW_region ?_
      refine AL_p (x_index (E := 114) (n := 3) rfl rfl rfl (by kernel_rfl) rfl (k := k) (by omega) (by omega)) ?_
      refine AL_p (x_eloadW (n := 3) rfl rfl (by kernel_rfl) rfl) ?_
      refine AL_p (x_alloc (z := .agg #[.int .i64 0, .int .i64 0, .int .i64 0]) 100 rfl (by kernel_rfl) rfl rfl rfl rfl) ?_
      refine AL_p (x_store (n := 3) rfl rfl rfl rfl (by kernel_rfl) rfl rfl rfl) ?_
      refine AL_nil ?_
      refine AW_seq ?_
      refine AW_region ?_
      refine AL_p (x_field (off := 1) (o' := 1) rfl rfl rfl (by kernel_rfl) rfl) ?_
      refine AL_p (x_load1 rfl rfl rfl (by kernel_rfl) rfl) ?_
      refine AL_b (x_eql rfl rfl rfl) (fun b17 h17 => ?_)
      refine AL_p (x_move rfl rfl) ?_
      cases b17
      rotate_left
      · try simp only [decide_eq_true_eq, decide_eq_false_iff_not, Bool.not_eq_true, Bool.not_eq_false, Bool.not_eq_true', Bool.not_eq_false', beq_iff_eq, bne_iff_ne, beq_eq_false_iff_ne, bne_eq_false_iff_eq, Int.not_lt, Int.not_le, ge_iff_le, gt_iff_lt] at h17
        refine AL_g rfl rfl (x_field (off := 2) (o' := 2) rfl rfl rfl (by kernel_rfl) rfl) ?_
        refine AL_g rfl rfl (x_load1 rfl rfl rfl (by kernel_rfl) rfl) ?_
        refine AL_gb rfl rfl (x_eql rfl rfl rfl) (fun b21 h21 => ?_)
        refine AL_p (x_pickT rfl rfl rfl) ?_
        refine AL_p (x_assign rfl rfl) ?_
        refine AL_nil ?_
        refine AW_seq ?_
        refine AW_seq ?_
        refine AW_region ?_
        refine AL_p (x_field (off := 0) (o' := 0) rfl rfl rfl (by kernel_rfl) rfl) ?_
        refine AL_p (x_load1 rfl rfl rfl (by kernel_rfl) rfl) ?_
        refine AL_b (x_eql rfl rfl rfl) (fun b25 h25 => ?_)
        refine AL_nil ?_
        cases b25
        rotate_left
        · try simp only [decide_eq_true_eq, decide_eq_false_iff_not, Bool.not_eq_true, Bool.not_eq_false, Bool.not_eq_true', Bool.not_eq_false', beq_iff_eq, bne_iff_ne, beq_eq_false_iff_ne, bne_eq_false_iff_eq, Int.not_lt, Int.not_le, ge_iff_le, gt_iff_lt] at h25
          refine AW_condT rfl ?_
          refine AW_region ?_
          refine AL_p (x_field (off := 1) (o' := 1) rfl rfl rfl (by kernel_rfl) rfl) ?_
          refine AL_p (x_load1 rfl rfl rfl (by kernel_rfl) rfl) ?_
          refine AL_b (x_geq rfl rfl rfl) (fun b28 h28 => ?_)
          refine AL_p (x_move rfl rfl) ?_
          cases b28
          rotate_left
          · try simp only [decide_eq_true_eq, decide_eq_false_iff_not, Bool.not_eq_true, Bool.not_eq_false, Bool.not_eq_true', Bool.not_eq_false', beq_iff_eq, bne_iff_ne, beq_eq_false_iff_ne, bne_eq_false_iff_eq, Int.not_lt, Int.not_le, ge_iff_le, gt_iff_lt] at h28
            refine AL_g rfl rfl (x_field (off := 1) (o' := 1) rfl rfl rfl (by kernel_rfl) rfl) ?_
            refine AL_g rfl rfl (x_load1 rfl rfl rfl (by kernel_rfl) rfl) ?_
            refine AL_gb rfl rfl (x_leq rfl rfl rfl) (fun b32 h32 => ?_)
            refine AL_p (x_pickT rfl rfl rfl) ?_
            refine AL_p (x_move rfl rfl) ?_
            cases b32
            rotate_left
            · try simp only [decide_eq_true_eq, decide_eq_false_iff_not, Bool.not_eq_true, Bool.not_eq_false, Bool.not_eq_true', Bool.not_eq_false', beq_iff_eq, bne_iff_ne, beq_eq_false_iff_ne, bne_eq_false_iff_eq, Int.not_lt, Int.not_le, ge_iff_le, gt_iff_lt] at h32
              refine AL_g rfl rfl (x_field (off := 2) (o' := 2) rfl rfl rfl (by kernel_rfl) rfl) ?_
              refine AL_g rfl rfl (x_load1 rfl rfl rfl (by kernel_rfl) rfl) ?_
              refine AL_gb rfl rfl (x_eql rfl rfl rfl) (fun b37 h37 => ?_)
              refine AL_p (x_pickT rfl rfl rfl) ?_
              refine AL_p (x_assign rfl rfl) ?_
              refine AL_nil ?_
              refine AW_seq ?_
              refine AW_seq ?_
              refine AW_region ?_
              refine AL_p (x_field (off := 0) (o' := 0) rfl rfl rfl (by kernel_rfl) rfl) ?_
              refine AL_p (x_load1 rfl rfl rfl (by kernel_rfl) rfl) ?_
              refine AL_b (x_eql rfl rfl rfl) (fun b41 h41 => ?_)
              refine AL_nil ?_
              cases b41
              rotate_left
              · try simp only [decide_eq_true_eq, decide_eq_false_iff_not, Bool.not_eq_true, Bool.not_eq_false, Bool.not_eq_true', Bool.not_eq_false', beq_iff_eq, bne_iff_ne, beq_eq_false_iff_ne, bne_eq_false_iff_eq, Int.not_lt, Int.not_le, ge_iff_le, gt_iff_lt] at h41
                refine AW_condT rfl ?_
                refine AW_region ?_
                refine AL_p (x_field (off := 1) (o' := 1) rfl rfl rfl (by kernel_rfl) rfl) ?_
                refine AL_p (x_load1 rfl rfl rfl (by kernel_rfl) rfl) ?_
                refine AL_b (x_eql rfl rfl rfl) (fun b44 h44 => ?_)
                refine AL_p (x_move rfl rfl) ?_
                cases b44
                rotate_left
                · try simp only [decide_eq_true_eq, decide_eq_false_iff_not, Bool.not_eq_true, Bool.not_eq_false, Bool.not_eq_true', Bool.not_eq_false', beq_iff_eq, bne_iff_ne, beq_eq_false_iff_ne, bne_eq_false_iff_eq, Int.not_lt, Int.not_le, ge_iff_le, gt_iff_lt] at h44
                  refine AL_o rfl rfl rfl rfl ?_
                  refine AL_o rfl rfl rfl rfl ?_
                  refine AL_o rfl rfl rfl rfl ?_
                  refine AL_p (x_pickT rfl rfl rfl) ?_
                  refine AL_p (x_move rfl rfl) ?_
                  refine AL_g rfl rfl (x_field (off := 2) (o' := 2) rfl rfl rfl (by kernel_rfl) rfl) ?_
                  refine AL_g rfl rfl (x_load1 rfl rfl rfl (by kernel_rfl) rfl) ?_
                  refine AL_gb rfl rfl (x_call0 rfl rfl rfl (numS_c _) rfl rfl) (fun b53 h53 => ?_)
                  refine AL_p (x_pickT rfl rfl rfl) ?_
                  refine AL_p (x_assign rfl rfl) ?_
                  refine AL_nil ?_
                  refine AW_seq ?_
                  refine AW_region ?_
                  refine AL_p (x_move rfl rfl) ?_
                  refine AL_p (x_not rfl rfl) ?_
                  refine AL_p (x_move rfl rfl) ?_
                  cases b53
                  rotate_left
                  · try simp only [decide_eq_true_eq, decide_eq_false_iff_not, Bool.not_eq_true, Bool.not_eq_false, Bool.not_eq_true', Bool.not_eq_false', beq_iff_eq, bne_iff_ne, beq_eq_false_iff_ne, bne_eq_false_iff_eq, Int.not_lt, Int.not_le, ge_iff_le, gt_iff_lt] at h53
                    refine AL_g rfl rfl (x_field (off := 0) (o' := 0) rfl rfl rfl (by kernel_rfl) rfl) ?_
                    refine AL_g rfl rfl (x_load1 rfl rfl rfl (by kernel_rfl) rfl) ?_
                    refine AL_gb rfl rfl (x_lss rfl rfl rfl) (fun b60 h60 => ?_)
                    refine AL_p (x_pickF rfl rfl rfl) ?_
                    refine AL_p (x_move rfl rfl) ?_
                    cases b60
                    rotate_left
                    · try simp only [decide_eq_true_eq, decide_eq_false_iff_not, Bool.not_eq_true, Bool.not_eq_false, Bool.not_eq_true', Bool.not_eq_false', beq_iff_eq, bne_iff_ne, beq_eq_false_iff_ne, bne_eq_false_iff_eq, Int.not_lt, Int.not_le, ge_iff_le, gt_iff_lt] at h60
                      refine AL_o rfl rfl rfl rfl ?_
                      refine AL_o rfl rfl rfl rfl ?_
                      refine AL_o rfl rfl rfl rfl ?_
                      refine AL_p (x_pickT rfl rfl rfl) ?_
                      refine AL_nil ?_
                      refine AW_condT rfl ?_
                      refine AW_seq ?_
                      refine AW_region ?_
                      refine AL_p (x_assign rfl rfl) ?_
                      refine AL_nil ?_
                      refine AW_ret (BQ_ret (BQ_ret ?_))
                      exact ⟨rn [], ⟨⟨⟨_, rfl, vle_bool (by first | exact (actsB_bad (k := k) (by omega) (by unfold actB; first | (rw [decide_eq_true_eq]; omega) | (rw [decide_eq_false_iff_not]; omega))).symm | exact (actsB_good hA (by omega) (by omega)).symm | exact (actsB_len (by omega)).symm)⟩, trivial⟩, trivial, trivial, rfl⟩⟩
                    · try simp only [decide_eq_true_eq, decide_eq_false_iff_not, Bool.not_eq_true, Bool.not_eq_false, Bool.not_eq_true', Bool.not_eq_false', beq_iff_eq, bne_iff_ne, beq_eq_false_iff_ne, bne_eq_false_iff_eq, Int.not_lt, Int.not_le, ge_iff_le, gt_iff_lt] at h60
                      refine AL_g rfl rfl (x_field (off := 0) (o' := 0) rfl rfl rfl (by kernel_rfl) rfl) ?_
                      refine AL_g rfl rfl (x_load1 rfl rfl rfl (by kernel_rfl) rfl) ?_
                      refine AL_gb rfl rfl (x_gtr rfl rfl rfl) (fun b65 h65 => ?_)
                      refine AL_p (x_pickF rfl rfl rfl) ?_
                      refine AL_nil ?_
                      cases b65
                      rotate_left
                      · try simp only [decide_eq_true_eq, decide_eq_false_iff_not, Bool.not_eq_true, Bool.not_eq_false, Bool.not_eq_true', Bool.not_eq_false', beq_iff_eq, bne_iff_ne, beq_eq_false_iff_ne, bne_eq_false_iff_eq, Int.not_lt, Int.not_le, ge_iff_le, gt_iff_lt] at h65
                        refine AW_condT rfl ?_
                        refine AW_seq ?_
                        refine AW_region ?_
                        refine AL_p (x_assign rfl rfl) ?_
                        refine AL_nil ?_
                        refine AW_ret (BQ_ret (BQ_ret ?_))
                        exact ⟨rn [], ⟨⟨⟨_, rfl, vle_bool (by first | exact (actsB_bad (k := k) (by omega) (by unfold actB; first | (rw [decide_eq_true_eq]; omega) | (rw [decide_eq_false_iff_not]; omega))).symm | exact (actsB_good hA (by omega) (by omega)).symm | exact (actsB_len (by omega)).symm)⟩, trivial⟩, trivial, trivial, rfl⟩⟩
                      · try simp only [decide_eq_true_eq, decide_eq_false_iff_not, Bool.not_eq_true, Bool.not_eq_false, Bool.not_eq_true', Bool.not_eq_false', beq_iff_eq, bne_iff_ne, beq_eq_false_iff_ne, bne_eq_false_iff_eq, Int.not_lt, Int.not_le, ge_iff_le, gt_iff_lt] at h65
                        refine AW_condF rfl ?_
                        refine AW_skip ?_
                        refine AW_region ?_
                        refine AL_p (x_add rfl rfl rfl (IntWalk.i64_in _ (by omega))) ?_
                        refine AL_p (x_move rfl rfl) ?_
                        refine AL_nil ?_
                        refine ⟨⟨k + 1, ⟨by omega, hA.succ (by omega) (by unfold actB; first | (rw [decide_eq_true_eq]; omega) | (rw [decide_eq_false_iff_not]; omega))⟩⟩, rn [], ?_, by dsimp only; omega⟩
                        exact ⟨by (repeat refine ⟨⟨_, rfl, by first | exact VLe.rf | exact vle_int (by dsimp only; omega)⟩, ?_⟩); exact trivial, by (repeat refine ⟨⟨_, rfl, by first | exact BLe.rf | exact BLe.box AllC.rf | exact BLe.arr (by exact rfl)⟩, ?_⟩); exact trivial, by repeat (first | exact trivial | refine ⟨⟨rfl, by first | (left; intro h; cases h) | (right; rfl), fun _ h => ⟨_, h⟩⟩, ?_⟩), rfl⟩
                  · try simp only [decide_eq_true_eq, decide_eq_false_iff_not, Bool.not_eq_true, Bool.not_eq_false, Bool.not_eq_true', Bool.not_eq_false', beq_iff_eq, bne_iff_ne, beq_eq_false_iff_ne, bne_eq_false_iff_eq, Int.not_lt, Int.not_le, ge_iff_le, gt_iff_lt] at h53
                    refine AL_o rfl rfl rfl rfl ?_
                    refine AL_o rfl rfl rfl rfl ?_
                    refine AL_o rfl rfl rfl rfl ?_
                    refine AL_p (x_pickT rfl rfl rfl) ?_
                    refine AL_p (x_move rfl rfl) ?_
                    refine AL_o rfl rfl rfl rfl ?_
                    refine AL_o rfl rfl rfl rfl ?_
                    refine AL_o rfl rfl rfl rfl ?_
                    refine AL_p (x_pickT rfl rfl rfl) ?_
                    refine AL_nil ?_
                    refine AW_condT rfl ?_
                    refine AW_seq ?_
                    refine AW_region ?_
                    refine AL_p (x_assign rfl rfl) ?_
                    refine AL_nil ?_
                    refine AW_ret (BQ_ret (BQ_ret ?_))
                    exact ⟨rn [], ⟨⟨⟨_, rfl, vle_bool (by first | exact (actsB_bad (k := k) (by omega) (by unfold actB; first | (rw [decide_eq_true_eq]; omega) | (rw [decide_eq_false_iff_not]; omega))).symm | exact (actsB_good hA (by omega) (by omega)).symm | exact (actsB_len (by omega)).symm)⟩, trivial⟩, trivial, trivial, rfl⟩⟩
                · try simp only [decide_eq_true_eq, decide_eq_false_iff_not, Bool.not_eq_true, Bool.not_eq_false, Bool.not_eq_true', Bool.not_eq_false', beq_iff_eq, bne_iff_ne, beq_eq_false_iff_ne, bne_eq_false_iff_eq, Int.not_lt, Int.not_le, ge_iff_le, gt_iff_lt] at h44
                  refine AL_g rfl rfl (x_field (off := 1) (o' := 1) rfl rfl rfl (by kernel_rfl) rfl) ?_
                  refine AL_g rfl rfl (x_load1 rfl rfl rfl (by kernel_rfl) rfl) ?_
                  refine AL_gb rfl rfl (x_eql rfl rfl rfl) (fun b48 h48 => ?_)
                  refine AL_p (x_pickF rfl rfl rfl) ?_
                  refine AL_p (x_move rfl rfl) ?_
                  cases b48
                  rotate_left
                  · try simp only [decide_eq_true_eq, decide_eq_false_iff_not, Bool.not_eq_true, Bool.not_eq_false, Bool.not_eq_true', Bool.not_eq_false', beq_iff_eq, bne_iff_ne, beq_eq_false_iff_ne, bne_eq_false_iff_eq, Int.not_lt, Int.not_le, ge_iff_le, gt_iff_lt] at h48
                    refine AL_g rfl rfl (x_field (off := 2) (o' := 2) rfl rfl rfl (by kernel_rfl) rfl) ?_
                    refine AL_g rfl rfl (x_load1 rfl rfl rfl (by kernel_rfl) rfl) ?_
                    refine AL_gb rfl rfl (x_call0 rfl rfl rfl (numS_c _) rfl rfl) (fun b53 h53 => ?_)
                    refine AL_p (x_pickT rfl rfl rfl) ?_
                    refine AL_p (x_assign rfl rfl) ?_
                    refine AL_nil ?_
                    refine AW_seq ?_
                    refine AW_region ?_
                    refine AL_p (x_move rfl rfl) ?_
                    refine AL_p (x_not rfl rfl) ?_
                    refine AL_p (x_move rfl rfl) ?_
                    cases b53
                    rotate_left
                    · try simp only [decide_eq_true_eq, decide_eq_false_iff_not, Bool.not_eq_true, Bool.not_eq_false, Bool.not_eq_true', Bool.not_eq_false', beq_iff_eq, bne_iff_ne, beq_eq_false_iff_ne, bne_eq_false_iff_eq, Int.not_lt, Int.not_le, ge_iff_le, gt_iff_lt] at h53
                      refine AL_g rfl rfl (x_field (off := 0) (o' := 0) rfl rfl rfl (by kernel_rfl) rfl) ?_
                      refine AL_g rfl rfl (x_load1 rfl rfl rfl (by kernel_rfl) rfl) ?_
                      refine AL_gb rfl rfl (x_lss rfl rfl rfl) (fun b60 h60 => ?_)
                      refine AL_p (x_pickF rfl rfl rfl) ?_
                      refine AL_p (x_move rfl rfl) ?_
                      cases b60
                      rotate_left
                      · try simp only [decide_eq_true_eq, decide_eq_false_iff_not, Bool.not_eq_true, Bool.not_eq_false, Bool.not_eq_true', Bool.not_eq_false', beq_iff_eq, bne_iff_ne, beq_eq_false_iff_ne, bne_eq_false_iff_eq, Int.not_lt, Int.not_le, ge_iff_le, gt_iff_lt] at h60
                        refine AL_o rfl rfl rfl rfl ?_
                        refine AL_o rfl rfl rfl rfl ?_
                        refine AL_o rfl rfl rfl rfl ?_
                        refine AL_p (x_pickT rfl rfl rfl) ?_
                        refine AL_nil ?_
                        refine AW_condT rfl ?_
                        refine AW_seq ?_
                        refine AW_region ?_
                        refine AL_p (x_assign rfl rfl) ?_
                        refine AL_nil ?_
                        refine AW_ret (BQ_ret (BQ_ret ?_))
                        exact ⟨rn [], ⟨⟨⟨_, rfl, vle_bool (by first | exact (actsB_bad (k := k) (by omega) (by unfold actB; first | (rw [decide_eq_true_eq]; omega) | (rw [decide_eq_false_iff_not]; omega))).symm | exact (actsB_good hA (by omega) (by omega)).symm | exact (actsB_len (by omega)).symm)⟩, trivial⟩, trivial, trivial, rfl⟩⟩
                      · try simp only [decide_eq_true_eq, decide_eq_false_iff_not, Bool.not_eq_true, Bool.not_eq_false, Bool.not_eq_true', Bool.not_eq_false', beq_iff_eq, bne_iff_ne, beq_eq_false_iff_ne, bne_eq_false_iff_eq, Int.not_lt, Int.not_le, ge_iff_le, gt_iff_lt] at h60
                        refine AL_g rfl rfl (x_field (off := 0) (o' := 0) rfl rfl rfl (by kernel_rfl) rfl) ?_
                        refine AL_g rfl rfl (x_load1 rfl rfl rfl (by kernel_rfl) rfl) ?_
                        refine AL_gb rfl rfl (x_gtr rfl rfl rfl) (fun b65 h65 => ?_)
                        refine AL_p (x_pickF rfl rfl rfl) ?_
                        refine AL_nil ?_
                        cases b65
                        rotate_left
                        · try simp only [decide_eq_true_eq, decide_eq_false_iff_not, Bool.not_eq_true, Bool.not_eq_false, Bool.not_eq_true', Bool.not_eq_false', beq_iff_eq, bne_iff_ne, beq_eq_false_iff_ne, bne_eq_false_iff_eq, Int.not_lt, Int.not_le, ge_iff_le, gt_iff_lt] at h65
                          refine AW_condT rfl ?_
                          refine AW_seq ?_
                          refine AW_region ?_
                          refine AL_p (x_assign rfl rfl) ?_
                          refine AL_nil ?_
                          refine AW_ret (BQ_ret (BQ_ret ?_))
                          exact ⟨rn [], ⟨⟨⟨_, rfl, vle_bool (by first | exact (actsB_bad (k := k) (by omega) (by unfold actB; first | (rw [decide_eq_true_eq]; omega) | (rw [decide_eq_false_iff_not]; omega))).symm | exact (actsB_good hA (by omega) (by omega)).symm | exact (actsB_len (by omega)).symm)⟩, trivial⟩, trivial, trivial, rfl⟩⟩
                        · try simp only [decide_eq_true_eq, decide_eq_false_iff_not, Bool.not_eq_true, Bool.not_eq_false, Bool.not_eq_true', Bool.not_eq_false', beq_iff_eq, bne_iff_ne, beq_eq_false_iff_ne, bne_eq_false_iff_eq, Int.not_lt, Int.not_le, ge_iff_le, gt_iff_lt] at h65
                          refine AW_condF rfl ?_
                          refine AW_skip ?_
                          refine AW_region ?_
                          refine AL_p (x_add rfl rfl rfl (IntWalk.i64_in _ (by omega))) ?_
                          refine AL_p (x_move rfl rfl) ?_
                          refine AL_nil ?_
                          refine ⟨⟨k + 1, ⟨by omega, hA.succ (by omega) (by unfold actB; first | (rw [decide_eq_true_eq]; omega) | (rw [decide_eq_false_iff_not]; omega))⟩⟩, rn [], ?_, by dsimp only; omega⟩
                          exact ⟨by (repeat refine ⟨⟨_, rfl, by first | exact VLe.rf | exact vle_int (by dsimp only; omega)⟩, ?_⟩); exact trivial, by (repeat refine ⟨⟨_, rfl, by first | exact BLe.rf | exact BLe.box AllC.rf | exact BLe.arr (by exact rfl)⟩, ?_⟩); exact trivial, by repeat (first | exact trivial | refine ⟨⟨rfl, by first | (left; intro h; cases h) | (right; rfl), fun _ h => ⟨_, h⟩⟩, ?_⟩), rfl⟩
                    · try simp only [decide_eq_true_eq, decide_eq_false_iff_not, Bool.not_eq_true, Bool.not_eq_false, Bool.not_eq_true', Bool.not_eq_false', beq_iff_eq, bne_iff_ne, beq_eq_false_iff_ne, bne_eq_false_iff_eq, Int.not_lt, Int.not_le, ge_iff_le, gt_iff_lt] at h53
                      refine AL_o rfl rfl rfl rfl ?_
                      refine AL_o rfl rfl rfl rfl ?_
                      refine AL_o rfl rfl rfl rfl ?_
                      refine AL_p (x_pickT rfl rfl rfl) ?_
                      refine AL_p (x_move rfl rfl) ?_
                      refine AL_o rfl rfl rfl rfl ?_
                      refine AL_o rfl rfl rfl rfl ?_
                      refine AL_o rfl rfl rfl rfl ?_
                      refine AL_p (x_pickT rfl rfl rfl) ?_
                      refine AL_nil ?_
                      refine AW_condT rfl ?_
                      refine AW_seq ?_
                      refine AW_region ?_
                      refine AL_p (x_assign rfl rfl) ?_
                      refine AL_nil ?_
                      refine AW_ret (BQ_ret (BQ_ret ?_))
                      exact ⟨rn [], ⟨⟨⟨_, rfl, vle_bool (by first | exact (actsB_bad (k := k) (by omega) (by unfold actB; first | (rw [decide_eq_true_eq]; omega) | (rw [decide_eq_false_iff_not]; omega))).symm | exact (actsB_good hA (by omega) (by omega)).symm | exact (actsB_len (by omega)).symm)⟩, trivial⟩, trivial, trivial, rfl⟩⟩
                  · try simp only [decide_eq_true_eq, decide_eq_false_iff_not, Bool.not_eq_true, Bool.not_eq_false, Bool.not_eq_true', Bool.not_eq_false', beq_iff_eq, bne_iff_ne, beq_eq_false_iff_ne, bne_eq_false_iff_eq, Int.not_lt, Int.not_le, ge_iff_le, gt_iff_lt] at h48
                    refine AL_o rfl rfl rfl rfl ?_
                    refine AL_o rfl rfl rfl rfl ?_
                    refine AL_o rfl rfl rfl rfl ?_
                    refine AL_p (x_pickF rfl rfl rfl) ?_
                    refine AL_p (x_assign rfl rfl) ?_
                    refine AL_nil ?_
                    refine AW_seq ?_
                    refine AW_region ?_
                    refine AL_p (x_move rfl rfl) ?_
                    refine AL_p (x_not rfl rfl) ?_
                    refine AL_p (x_move rfl rfl) ?_
                    refine AL_o rfl rfl rfl rfl ?_
                    refine AL_o rfl rfl rfl rfl ?_
                    refine AL_o rfl rfl rfl rfl ?_
                    refine AL_p (x_pickT rfl rfl rfl) ?_
                    refine AL_p (x_move rfl rfl) ?_
                    refine AL_o rfl rfl rfl rfl ?_
                    refine AL_o rfl rfl rfl rfl ?_
                    refine AL_o rfl rfl rfl rfl ?_
                    refine AL_p (x_pickT rfl rfl rfl) ?_
                    refine AL_nil ?_
                    refine AW_condT rfl ?_
                    refine AW_seq ?_
                    refine AW_region ?_
                    refine AL_p (x_assign rfl rfl) ?_
                    refine AL_nil ?_
                    refine AW_ret (BQ_ret (BQ_ret ?_))
                    exact ⟨rn [], ⟨⟨⟨_, rfl, vle_bool (by first | exact (actsB_bad (k := k) (by omega) (by unfold actB; first | (rw [decide_eq_true_eq]; omega) | (rw [decide_eq_false_iff_not]; omega))).symm | exact (actsB_good hA (by omega) (by omega)).symm | exact (actsB_len (by omega)).symm)⟩, trivial⟩, trivial, trivial, rfl⟩⟩
              · try simp only [decide_eq_true_eq, decide_eq_false_iff_not, Bool.not_eq_true, Bool.not_eq_false, Bool.not_eq_true', Bool.not_eq_false', beq_iff_eq, bne_iff_ne, beq_eq_false_iff_ne, bne_eq_false_iff_eq, Int.not_lt, Int.not_le, ge_iff_le, gt_iff_lt] at h41
                refine AW_condF rfl ?_
                refine AW_skip ?_
                refine AW_seq ?_
                refine AW_region ?_
                refine AL_p (x_move rfl rfl) ?_
                refine AL_p (x_not rfl rfl) ?_
                refine AL_p (x_move rfl rfl) ?_
                cases b37
                rotate_left
                · try simp only [decide_eq_true_eq, decide_eq_false_iff_not, Bool.not_eq_true, Bool.not_eq_false, Bool.not_eq_true', Bool.not_eq_false', beq_iff_eq, bne_iff_ne, beq_eq_false_iff_ne, bne_eq_false_iff_eq, Int.not_lt, Int.not_le, ge_iff_le, gt_iff_lt] at h37
                  refine AL_g rfl rfl (x_field (off := 0) (o' := 0) rfl rfl rfl (by kernel_rfl) rfl) ?_
                  refine AL_g rfl rfl (x_load1 rfl rfl rfl (by kernel_rfl) rfl) ?_
                  refine AL_gb rfl rfl (x_lss rfl rfl rfl) (fun b60 h60 => ?_)
                  refine AL_p (x_pickF rfl rfl rfl) ?_
                  refine AL_p (x_move rfl rfl) ?_
                  cases b60
                  rotate_left
                  · try simp only [decide_eq_true_eq, decide_eq_false_iff_not, Bool.not_eq_true, Bool.not_eq_false, Bool.not_eq_true', Bool.not_eq_false', beq_iff_eq, bne_iff_ne, beq_eq_false_iff_ne, bne_eq_false_iff_eq, Int.not_lt, Int.not_le, ge_iff_le, gt_iff_lt] at h60
                    refine AL_o rfl rfl rfl rfl ?_
                    refine AL_o rfl rfl rfl rfl ?_
                    refine AL_o rfl rfl rfl rfl ?_
                    refine AL_p (x_pickT rfl rfl rfl) ?_
                    refine AL_nil ?_
                    refine AW_condT rfl ?_
                    refine AW_seq ?_
                    refine AW_region ?_
                    refine AL_p (x_assign rfl rfl) ?_
                    refine AL_nil ?_
                    refine AW_ret (BQ_ret (BQ_ret ?_))
                    exact ⟨rn [], ⟨⟨⟨_, rfl, vle_bool (by first | exact (actsB_bad (k := k) (by omega) (by unfold actB; first | (rw [decide_eq_true_eq]; omega) | (rw [decide_eq_false_iff_not]; omega))).symm | exact (actsB_good hA (by omega) (by omega)).symm | exact (actsB_len (by omega)).symm)⟩, trivial⟩, trivial, trivial, rfl⟩⟩
                  · try simp only [decide_eq_true_eq, decide_eq_false_iff_not, Bool.not_eq_true, Bool.not_eq_false, Bool.not_eq_true', Bool.not_eq_false', beq_iff_eq, bne_iff_ne, beq_eq_false_iff_ne, bne_eq_false_iff_eq, Int.not_lt, Int.not_le, ge_iff_le, gt_iff_lt] at h60
                    refine AL_g rfl rfl (x_field (off := 0) (o' := 0) rfl rfl rfl (by kernel_rfl) rfl) ?_
                    refine AL_g rfl rfl (x_load1 rfl rfl rfl (by kernel_rfl) rfl) ?_
                    refine AL_gb rfl rfl (x_gtr rfl rfl rfl) (fun b65 h65 => ?_)
                    refine AL_p (x_pickF rfl rfl rfl) ?_
                    refine AL_nil ?_
                    cases b65
                    rotate_left
                    · try simp only [decide_eq_true_eq, decide_eq_false_iff_not, Bool.not_eq_true, Bool.not_eq_false, Bool.not_eq_true', Bool.not_eq_false', beq_iff_eq, bne_iff_ne, beq_eq_false_iff_ne, bne_eq_false_iff_eq, Int.not_lt, Int.not_le, ge_iff_le, gt_iff_lt] at h65
                      refine AW_condT rfl ?_
                      refine AW_seq ?_
                      refine AW_region ?_
                      refine AL_p (x_assign rfl rfl) ?_
                      refine AL_nil ?_
                      refine AW_ret (BQ_ret (BQ_ret ?_))
                      exact ⟨rn [], ⟨⟨⟨_, rfl, vle_bool (by first | exact (actsB_bad (k := k) (by omega) (by unfold actB; first | (rw [decide_eq_true_eq]; omega) | (rw [decide_eq_false_iff_not]; omega))).symm | exact (actsB_good hA (by omega) (by omega)).symm | exact (actsB_len (by omega)).symm)⟩, trivial⟩, trivial, trivial, rfl⟩⟩
                    · try simp only [decide_eq_true_eq, decide_eq_false_iff_not, Bool.not_eq_true, Bool.not_eq_false, Bool.not_eq_true', Bool.not_eq_false', beq_iff_eq, bne_iff_ne, beq_eq_false_iff_ne, bne_eq_false_iff_eq, Int.not_lt, Int.not_le, ge_iff_le, gt_iff_lt] at h65
                      refine AW_condF rfl ?_
                      refine AW_skip ?_
                      refine AW_region ?_
                      refine AL_p (x_add rfl rfl rfl (IntWalk.i64_in _ (by omega))) ?_
                      refine AL_p (x_move rfl rfl) ?_
                      refine AL_nil ?_
                      refine ⟨⟨k + 1, ⟨by omega, hA.succ (by omega) (by unfold actB; first | (rw [decide_eq_true_eq]; omega) | (rw [decide_eq_false_iff_not]; omega))⟩⟩, rn [], ?_, by dsimp only; omega⟩
                      exact ⟨by (repeat refine ⟨⟨_, rfl, by first | exact VLe.rf | exact vle_int (by dsimp only; omega)⟩, ?_⟩); exact trivial, by (repeat refine ⟨⟨_, rfl, by first | exact BLe.rf | exact BLe.box AllC.rf | exact BLe.arr (by exact rfl)⟩, ?_⟩); exact trivial, by repeat (first | exact trivial | refine ⟨⟨rfl, by first | (left; intro h; cases h) | (right; rfl), fun _ h => ⟨_, h⟩⟩, ?_⟩), rfl⟩
                · try simp only [decide_eq_true_eq, decide_eq_false_iff_not, Bool.not_eq_true, Bool.not_eq_false, Bool.not_eq_true', Bool.not_eq_false', beq_iff_eq, bne_iff_ne, beq_eq_false_iff_ne, bne_eq_false_iff_eq, Int.not_lt, Int.not_le, ge_iff_le, gt_iff_lt] at h37
                  refine AL_o rfl rfl rfl rfl ?_
                  refine AL_o rfl rfl rfl rfl ?_
                  refine AL_o rfl rfl rfl rfl ?_
                  refine AL_p (x_pickT rfl rfl rfl) ?_
                  refine AL_p (x_move rfl rfl) ?_
                  refine AL_o rfl rfl rfl rfl ?_
                  refine AL_o rfl rfl rfl rfl ?_
                  refine AL_o rfl rfl rfl rfl ?_
                  refine AL_p (x_pickT rfl rfl rfl) ?_
                  refine AL_nil ?_
                  refine AW_condT rfl ?_
                  refine AW_seq ?_
                  refine AW_region ?_
                  refine AL_p (x_assign rfl rfl) ?_
                  refine AL_nil ?_
                  refine AW_ret (BQ_ret (BQ_ret ?_))
                  exact ⟨rn [], ⟨⟨⟨_, rfl, vle_bool (by first | exact (actsB_bad (k := k) (by omega) (by unfold actB; first | (rw [decide_eq_true_eq]; omega) | (rw [decide_eq_false_iff_not]; omega))).symm | exact (actsB_good hA (by omega) (by omega)).symm | exact (actsB_len (by omega)).symm)⟩, trivial⟩, trivial, trivial, rfl⟩⟩
            · try simp only [decide_eq_true_eq, decide_eq_false_iff_not, Bool.not_eq_true, Bool.not_eq_false, Bool.not_eq_true', Bool.not_eq_false', beq_iff_eq, bne_iff_ne, beq_eq_false_iff_ne, bne_eq_false_iff_eq, Int.not_lt, Int.not_le, ge_iff_le, gt_iff_lt] at h32
              refine AL_o rfl rfl rfl rfl ?_
              refine AL_o rfl rfl rfl rfl ?_
              refine AL_o rfl rfl rfl rfl ?_
              refine AL_p (x_pickF rfl rfl rfl) ?_
              refine AL_p (x_assign rfl rfl) ?_
              refine AL_nil ?_
              refine AW_seq ?_
              refine AW_seq ?_
              refine AW_region ?_
              refine AL_p (x_field (off := 0) (o' := 0) rfl rfl rfl (by kernel_rfl) rfl) ?_
              refine AL_p (x_load1 rfl rfl rfl (by kernel_rfl) rfl) ?_
              refine AL_b (x_eql rfl rfl rfl) (fun b41 h41 => ?_)
              refine AL_nil ?_
              cases b41
              rotate_left
              · try simp only [decide_eq_true_eq, decide_eq_false_iff_not, Bool.not_eq_true, Bool.not_eq_false, Bool.not_eq_true', Bool.not_eq_false', beq_iff_eq, bne_iff_ne, beq_eq_false_iff_ne, bne_eq_false_iff_eq, Int.not_lt, Int.not_le, ge_iff_le, gt_iff_lt] at h41
                refine AW_condT rfl ?_
                refine AW_region ?_
                refine AL_p (x_field (off := 1) (o' := 1) rfl rfl rfl (by kernel_rfl) rfl) ?_
                refine AL_p (x_load1 rfl rfl rfl (by kernel_rfl) rfl) ?_
                refine AL_b (x_eql rfl rfl rfl) (fun b44 h44 => ?_)
                refine AL_p (x_move rfl rfl) ?_
                cases b44
                rotate_left
                · try simp only [decide_eq_true_eq, decide_eq_false_iff_not, Bool.not_eq_true, Bool.not_eq_false, Bool.not_eq_true', Bool.not_eq_false', beq_iff_eq, bne_iff_ne, beq_eq_false_iff_ne, bne_eq_false_iff_eq, Int.not_lt, Int.not_le, ge_iff_le, gt_iff_lt] at h44
                  refine AL_o rfl rfl rfl rfl ?_
                  refine AL_o rfl rfl rfl rfl ?_
                  refine AL_o rfl rfl rfl rfl ?_
                  refine AL_p (x_pickT rfl rfl rfl) ?_
                  refine AL_p (x_move rfl rfl) ?_
                  refine AL_g rfl rfl (x_field (off := 2) (o' := 2) rfl rfl rfl (by kernel_rfl) rfl) ?_
                  refine AL_g rfl rfl (x_load1 rfl rfl rfl (by kernel_rfl) rfl) ?_
                  refine AL_gb rfl rfl (x_call0 rfl rfl rfl (numS_c _) rfl rfl) (fun b53 h53 => ?_)
                  refine AL_p (x_pickT rfl rfl rfl) ?_
                  refine AL_p (x_assign rfl rfl) ?_
                  refine AL_nil ?_
                  refine AW_seq ?_
                  refine AW_region ?_
                  refine AL_p (x_move rfl rfl) ?_
                  refine AL_p (x_not rfl rfl) ?_
                  refine AL_p (x_move rfl rfl) ?_
                  cases b53
                  rotate_left
                  · try simp only [decide_eq_true_eq, decide_eq_false_iff_not, Bool.not_eq_true, Bool.not_eq_false, Bool.not_eq_true', Bool.not_eq_false', beq_iff_eq, bne_iff_ne, beq_eq_false_iff_ne, bne_eq_false_iff_eq, Int.not_lt, Int.not_le, ge_iff_le, gt_iff_lt] at h53
                    refine AL_g rfl rfl (x_field (off := 0) (o' := 0) rfl rfl rfl (by kernel_rfl) rfl) ?_
                    refine AL_g rfl rfl (x_load1 rfl rfl rfl (by kernel_rfl) rfl) ?_
                    refine AL_gb rfl rfl (x_lss rfl rfl rfl) (fun b60 h60 => ?_)
                    refine AL_p (x_pickF rfl rfl rfl) ?_
                    refine AL_p (x_move rfl rfl) ?_
                    cases b60
                    rotate_left
                    · try simp only [decide_eq_true_eq, decide_eq_false_iff_not, Bool.not_eq_true, Bool.not_eq_false, Bool.not_eq_true', Bool.not_eq_false', beq_iff_eq, bne_iff_ne, beq_eq_false_iff_ne, bne_eq_false_iff_eq, Int.not_lt, Int.not_le, ge_iff_le, gt_iff_lt] at h60
                      refine AL_o rfl rfl rfl rfl ?_
                      refine AL_o rfl rfl rfl rfl ?_
                      refine AL_o rfl rfl rfl rfl ?_
                      refine AL_p (x_pickT rfl rfl rfl) ?_
                      refine AL_nil ?_
                      refine AW_condT rfl ?_
                      refine AW_seq ?_
                      refine AW_region ?_
                      refine AL_p (x_assign rfl rfl) ?_
                      refine AL_nil ?_
                      refine AW_ret (BQ_ret (BQ_ret ?_))
                      exact ⟨rn [], ⟨⟨⟨_, rfl, vle_bool (by first | exact (actsB_bad (k := k) (by omega) (by unfold actB; first | (rw [decide_eq_true_eq]; omega) | (rw [decide_eq_false_iff_not]; omega))).symm | exact (actsB_good hA (by omega) (by omega)).symm | exact (actsB_len (by omega)).symm)⟩, trivial⟩, trivial, trivial, rfl⟩⟩
                    · try simp only [decide_eq_true_eq, decide_eq_false_iff_not, Bool.not_eq_true, Bool.not_eq_false, Bool.not_eq_true', Bool.not_eq_false', beq_iff_eq, bne_iff_ne, beq_eq_false_iff_ne, bne_eq_false_iff_eq, Int.not_lt, Int.not_le, ge_iff_le, gt_iff_lt] at h60
                      refine AL_g rfl rfl (x_field (off := 0) (o' := 0) rfl rfl rfl (by kernel_rfl) rfl) ?_
                      refine AL_g rfl rfl (x_load1 rfl rfl rfl (by kernel_rfl) rfl) ?_
                      refine AL_gb rfl rfl (x_gtr rfl rfl rfl) (fun b65 h65 => ?_)
                      refine AL_p (x_pickF rfl rfl rfl) ?_
                      refine AL_nil ?_
                      cases b65
                      rotate_left
                      · try simp only [decide_eq_true_eq, decide_eq_false_iff_not, Bool.not_eq_true, Bool.not_eq_false, Bool.not_eq_true', Bool.not_eq_false', beq_iff_eq, bne_iff_ne, beq_eq_false_iff_ne, bne_eq_false_iff_eq, Int.not_lt, Int.not_le, ge_iff_le, gt_iff_lt] at h65
                        refine AW_condT rfl ?_
                        refine AW_seq ?_
                        refine AW_region ?_
                        refine AL_p (x_assign rfl rfl) ?_
                        refine AL_nil ?_
                        refine AW_ret (BQ_ret (BQ_ret ?_))
                        exact ⟨rn [], ⟨⟨⟨_, rfl, vle_bool (by first | exact (actsB_bad (k := k) (by omega) (by unfold actB; first | (rw [decide_eq_true_eq]; omega) | (rw [decide_eq_false_iff_not]; omega))).symm | exact (actsB_good hA (by omega) (by omega)).symm | exact (actsB_len (by omega)).symm)⟩, trivial⟩, trivial, trivial, rfl⟩⟩
                      · try simp only [decide_eq_true_eq, decide_eq_false_iff_not, Bool.not_eq_true, Bool.not_eq_false, Bool.not_eq_true', Bool.not_eq_false', beq_iff_eq, bne_iff_ne, beq_eq_false_iff_ne, bne_eq_false_iff_eq, Int.not_lt, Int.not_le, ge_iff_le, gt_iff_lt] at h65
                        refine AW_condF rfl ?_
                        refine AW_skip ?_
                        refine AW_region ?_
                        refine AL_p (x_add rfl rfl rfl (IntWalk.i64_in _ (by omega))) ?_
                        refine AL_p (x_move rfl rfl) ?_
                        refine AL_nil ?_
                        refine ⟨⟨k + 1, ⟨by omega, hA.succ (by omega) (by unfold actB; first | (rw [decide_eq_true_eq]; omega) | (rw [decide_eq_false_iff_not]; omega))⟩⟩, rn [], ?_, by dsimp only; omega⟩
                        exact ⟨by (repeat refine ⟨⟨_, rfl, by first | exact VLe.rf | exact vle_int (by dsimp only; omega)⟩, ?_⟩); exact trivial, by (repeat refine ⟨⟨_, rfl, by first | exact BLe.rf | exact BLe.box AllC.rf | exact BLe.arr (by exact rfl)⟩, ?_⟩); exact trivial, by repeat (first | exact trivial | refine ⟨⟨rfl, by first | (left; intro h; cases h) | (right; rfl), fun _ h => ⟨_, h⟩⟩, ?_⟩), rfl⟩
                  · try simp only [decide_eq_true_eq, decide_eq_false_iff_not, Bool.not_eq_true, Bool.not_eq_false, Bool.not_eq_true', Bool.not_eq_false', beq_iff_eq, bne_iff_ne, beq_eq_false_iff_ne, bne_eq_false_iff_eq, Int.not_lt, Int.not_le, ge_iff_le, gt_iff_lt] at h53
                    refine AL_o rfl rfl rfl rfl ?_
                    refine AL_o rfl rfl rfl rfl ?_
                    refine AL_o rfl rfl rfl rfl ?_
                    refine AL_p (x_pickT rfl rfl rfl) ?_
                    refine AL_p (x_move rfl rfl) ?_
                    refine AL_o rfl rfl rfl rfl ?_
                    refine AL_o rfl rfl rfl rfl ?_
                    refine AL_o rfl rfl rfl rfl ?_
                    refine AL_p (x_pickT rfl rfl rfl) ?_
                    refine AL_nil ?_
                    refine AW_condT rfl ?_
                    refine AW_seq ?_
                    refine AW_region ?_
                    refine AL_p (x_assign rfl rfl) ?_
                    refine AL_nil ?_
                    refine AW_ret (BQ_ret (BQ_ret ?_))
                    exact ⟨rn [], ⟨⟨⟨_, rfl, vle_bool (by first | exact (actsB_bad (k := k) (by omega) (by unfold actB; first | (rw [decide_eq_true_eq]; omega) | (rw [decide_eq_false_iff_not]; omega))).symm | exact (actsB_good hA (by omega) (by omega)).symm | exact (actsB_len (by omega)).symm)⟩, trivial⟩, trivial, trivial, rfl⟩⟩
                · try simp only [decide_eq_true_eq, decide_eq_false_iff_not, Bool.not_eq_true, Bool.not_eq_false, Bool.not_eq_true', Bool.not_eq_false', beq_iff_eq, bne_iff_ne, beq_eq_false_iff_ne, bne_eq_false_iff_eq, Int.not_lt, Int.not_le, ge_iff_le, gt_iff_lt] at h44
                  refine AL_g rfl rfl (x_field (off := 1) (o' := 1) rfl rfl rfl (by kernel_rfl) rfl) ?_
                  refine AL_g rfl rfl (x_load1 rfl rfl rfl (by kernel_rfl) rfl) ?_
                  refine AL_gb rfl rfl (x_eql rfl rfl rfl) (fun b48 h48 => ?_)
                  refine AL_p (x_pickF rfl rfl rfl) ?_
                  refine AL_p (x_move rfl rfl) ?_
                  cases b48
                  rotate_left
                  · try simp only [decide_eq_true_eq, decide_eq_false_iff_not, Bool.not_eq_true, Bool.not_eq_false, Bool.not_eq_true', Bool.not_eq_false', beq_iff_eq, bne_iff_ne, beq_eq_false_iff_ne, bne_eq_false_iff_eq, Int.not_lt, Int.not_le, ge_iff_le, gt_iff_lt] at h48
                    refine AL_g rfl rfl (x_field (off := 2) (o' := 2) rfl rfl rfl (by kernel_rfl) rfl) ?_
                    refine AL_g rfl rfl (x_load1 rfl rfl rfl (by kernel_rfl) rfl) ?_
                    refine AL_gb rfl rfl (x_call0 rfl rfl rfl (numS_c _) rfl rfl) (fun b53 h53 => ?_)
                    refine AL_p (x_pickT rfl rfl rfl) ?_
                    refine AL_p (x_assign rfl rfl) ?_
                    refine AL_nil ?_
                    refine AW_seq ?_
                    refine AW_region ?_
                    refine AL_p (x_move rfl rfl) ?_
                    refine AL_p (x_not rfl rfl) ?_
                    refine AL_p (x_move rfl rfl) ?_
                    cases b53
                    rotate_left
                    · try simp only [decide_eq_true_eq, decide_eq_false_iff_not, Bool.not_eq_true, Bool.not_eq_false, Bool.not_eq_true', Bool.not_eq_false', beq_iff_eq, bne_iff_ne, beq_eq_false_iff_ne, bne_eq_false_iff_eq, Int.not_lt, Int.not_le, ge_iff_le, gt_iff_lt] at h53
                      refine AL_g rfl rfl (x_field (off := 0) (o' := 0) rfl rfl rfl (by kernel_rfl) rfl) ?_
                      refine AL_g rfl rfl (x_load1 rfl rfl rfl (by kernel_rfl) rfl) ?_
                      refine AL_gb rfl rfl (x_lss rfl rfl rfl) (fun b60 h60 => ?_)
                      refine AL_p (x_pickF rfl rfl rfl) ?_
                      refine AL_p (x_move rfl rfl) ?_
                      cases b60
                      rotate_left
                      · try simp only [decide_eq_true_eq, decide_eq_false_iff_not, Bool.not_eq_true, Bool.not_eq_false, Bool.not_eq_true', Bool.not_eq_false', beq_iff_eq, bne_iff_ne, beq_eq_false_iff_ne, bne_eq_false_iff_eq, Int.not_lt, Int.not_le, ge_iff_le, gt_iff_lt] at h60
                        refine AL_o rfl rfl rfl rfl ?_
                        refine AL_o rfl rfl rfl rfl ?_
                        refine AL_o rfl rfl rfl rfl ?_
                        refine AL_p (x_pickT rfl rfl rfl) ?_
                        refine AL_nil ?_
                        refine AW_condT rfl ?_
                        refine AW_seq ?_
                        refine AW_region ?_
                        refine AL_p (x_assign rfl rfl) ?_
                        refine AL_nil ?_
                        refine AW_ret (BQ_ret (BQ_ret ?_))
                        exact ⟨rn [], ⟨⟨⟨_, rfl, vle_bool (by first | exact (actsB_bad (k := k) (by omega) (by unfold actB; first | (rw [decide_eq_true_eq]; omega) | (rw [decide_eq_false_iff_not]; omega))).symm | exact (actsB_good hA (by omega) (by omega)).symm | exact (actsB_len (by omega)).symm)⟩, trivial⟩, trivial, trivial, rfl⟩⟩
                      · try simp only [decide_eq_true_eq, decide_eq_false_iff_not, Bool.not_eq_true, Bool.not_eq_false, Bool.not_eq_true', Bool.not_eq_false', beq_iff_eq, bne_iff_ne, beq_eq_false_iff_ne, bne_eq_false_iff_eq, Int.not_lt, Int.not_le, ge_iff_le, gt_iff_lt] at h60
                        refine AL_g rfl rfl (x_field (off := 0) (o' := 0) rfl rfl rfl (by kernel_rfl) rfl) ?_
                        refine AL_g rfl rfl (x_load1 rfl rfl rfl (by kernel_rfl) rfl) ?_
                        refine AL_gb rfl rfl (x_gtr rfl rfl rfl) (fun b65 h65 => ?_)
                        refine AL_p (x_pickF rfl rfl rfl) ?_
                        refine AL_nil ?_
                        cases b65
                        rotate_left
                        · try simp only [decide_eq_true_eq, decide_eq_false_iff_not, Bool.not_eq_true, Bool.not_eq_false, Bool.not_eq_true', Bool.not_eq_false', beq_iff_eq, bne_iff_ne, beq_eq_false_iff_ne, bne_eq_false_iff_eq, Int.not_lt, Int.not_le, ge_iff_le, gt_iff_lt] at h65
                          refine AW_condT rfl ?_
                          refine AW_seq ?_
                          refine AW_region ?_
                          refine AL_p (x_assign rfl rfl) ?_
                          refine AL_nil ?_
                          refine AW_ret (BQ_ret (BQ_ret ?_))
                          exact ⟨rn [], ⟨⟨⟨_, rfl, vle_bool (by first | exact (actsB_bad (k := k) (by omega) (by unfold actB; first | (rw [decide_eq_true_eq]; omega) | (rw [decide_eq_false_iff_not]; omega))).symm | exact (actsB_good hA (by omega) (by omega)).symm | exact (actsB_len (by omega)).symm)⟩, trivial⟩, trivial, trivial, rfl⟩⟩
                        · try simp only [decide_eq_true_eq, decide_eq_false_iff_not, Bool.not_eq_true, Bool.not_eq_false, Bool.not_eq_true', Bool.not_eq_false', beq_iff_eq, bne_iff_ne, beq_eq_false_iff_ne, bne_eq_false_iff_eq, Int.not_lt, Int.not_le, ge_iff_le, gt_iff_lt] at h65
                          refine AW_condF rfl ?_
                          refine AW_skip ?_
                          refine AW_region ?_
                          refine AL_p (x_add rfl rfl rfl (IntWalk.i64_in _ (by omega))) ?_
                          refine AL_p (x_move rfl rfl) ?_
                          refine AL_nil ?_
                          refine ⟨⟨k + 1, ⟨by omega, hA.succ (by omega) (by unfold actB; first | (rw [decide_eq_true_eq]; omega) | (rw [decide_eq_false_iff_not]; omega))⟩⟩, rn [], ?_, by dsimp only; omega⟩
                          exact ⟨by (repeat refine ⟨⟨_, rfl, by first | exact VLe.rf | exact vle_int (by dsimp only; omega)⟩, ?_⟩); exact trivial, by (repeat refine ⟨⟨_, rfl, by first | exact BLe.rf | exact BLe.box AllC.rf | exact BLe.arr (by exact rfl)⟩, ?_⟩); exact trivial, by repeat (first | exact trivial | refine ⟨⟨rfl, by first | (left; intro h; cases h) | (right; rfl), fun _ h => ⟨_, h⟩⟩, ?_⟩), rfl⟩
                    · try simp only [decide_eq_true_eq, decide_eq_false_iff_not, Bool.not_eq_true, Bool.not_eq_false, Bool.not_eq_true', Bool.not_eq_false', beq_iff_eq, bne_iff_ne, beq_eq_false_iff_ne, bne_eq_false_iff_eq, Int.not_lt, Int.not_le, ge_iff_le, gt_iff_lt] at h53
                      refine AL_o rfl rfl rfl rfl ?_
                      refine AL_o rfl rfl rfl rfl ?_
                      refine AL_o rfl rfl rfl rfl ?_
                      refine AL_p (x_pickT rfl rfl rfl) ?_
                      refine AL_p (x_move rfl rfl) ?_
                      refine AL_o rfl rfl rfl rfl ?_
                      refine AL_o rfl rfl rfl rfl ?_
                      refine AL_o rfl rfl rfl rfl ?_
                      refine AL_p (x_pickT rfl rfl rfl) ?_
                      refine AL_nil ?_
                      refine AW_condT rfl ?_
                      refine AW_seq ?_
                      refine AW_region ?_
                      refine AL_p (x_assign rfl rfl) ?_
                      refine AL_nil ?_
                      refine AW_ret (BQ_ret (BQ_ret ?_))
                      exact ⟨rn [], ⟨⟨⟨_, rfl, vle_bool (by first | exact (actsB_bad (k := k) (by omega) (by unfold actB; first | (rw [decide_eq_true_eq]; omega) | (rw [decide_eq_false_iff_not]; omega))).symm | exact (actsB_good hA (by omega) (by omega)).symm | exact (actsB_len (by omega)).symm)⟩, trivial⟩, trivial, trivial, rfl⟩⟩
                  · try simp only [decide_eq_true_eq, decide_eq_false_iff_not, Bool.not_eq_true, Bool.not_eq_false, Bool.not_eq_true', Bool.not_eq_false', beq_iff_eq, bne_iff_ne, beq_eq_false_iff_ne, bne_eq_false_iff_eq, Int.not_lt, Int.not_le, ge_iff_le, gt_iff_lt] at h48
                    refine AL_o rfl rfl rfl rfl ?_
                    refine AL_o rfl rfl rfl rfl ?_
                    refine AL_o rfl rfl rfl rfl ?_
                    refine AL_p (x_pickF rfl rfl rfl) ?_
                    refine AL_p (x_assign rfl rfl) ?_
                    refine AL_nil ?_
                    refine AW_seq ?_
                    refine AW_region ?_
                    refine AL_p (x_move rfl rfl) ?_
                    refine AL_p (x_not rfl rfl) ?_
                    refine AL_p (x_move rfl rfl) ?_
                    refine AL_o rfl rfl rfl rfl ?_
                    refine AL_o rfl rfl rfl rfl ?_
                    refine AL_o rfl rfl rfl rfl ?_
                    refine AL_p (x_pickT rfl rfl rfl) ?_
                    refine AL_p (x_move rfl rfl) ?_
                    refine AL_o rfl rfl rfl rfl ?_
                    refine AL_o rfl rfl rfl rfl ?_
                    refine AL_o rfl rfl rfl rfl ?_
                    refine AL_p (x_pickT rfl rfl rfl) ?_
                    refine AL_nil ?_
                    refine AW_condT rfl ?_
                    refine AW_seq ?_
                    refine AW_region ?_
                    refine AL_p (x_assign rfl rfl) ?_
                    refine AL_nil ?_
                    refine AW_ret (BQ_ret (BQ_ret ?_))
                    exact ⟨rn [], ⟨⟨⟨_, rfl, vle_bool (by first | exact (actsB_bad (k := k) (by omega) (by unfold actB; first | (rw [decide_eq_true_eq]; omega) | (rw [decide_eq_false_iff_not]; omega))).symm | exact (actsB_good hA (by omega) (by omega)).symm | exact (actsB_len (by omega)).symm)⟩, trivial⟩, trivial, trivial, rfl⟩⟩
              · try simp only [decide_eq_true_eq, decide_eq_false_iff_not, Bool.not_eq_true, Bool.not_eq_false, Bool.not_eq_true', Bool.not_eq_false', beq_iff_eq, bne_iff_ne, beq_eq_false_iff_ne, bne_eq_false_iff_eq, Int.not_lt, Int.not_le, ge_iff_le, gt_iff_lt] at h41
                refine AW_condF rfl ?_
                refine AW_skip ?_
                refine AW_seq ?_
                refine AW_region ?_
                refine AL_p (x_move rfl rfl) ?_
                refine AL_p (x_not rfl rfl) ?_
                refine AL_p (x_move rfl rfl) ?_
                refine AL_o rfl rfl rfl rfl ?_
                refine AL_o rfl rfl rfl rfl ?_
                refine AL_o rfl rfl rfl rfl ?_
                refine AL_p (x_pickT rfl rfl rfl) ?_
                refine AL_p (x_move rfl rfl) ?_
                refine AL_o rfl rfl rfl rfl ?_
                refine AL_o rfl rfl rfl rfl ?_
                refine AL_o rfl rfl rfl rfl ?_
                refine AL_p (x_pickT rfl rfl rfl) ?_
                refine AL_nil ?_
                refine AW_condT rfl ?_
                refine AW_seq ?_
                refine AW_region ?_
                refine AL_p (x_assign rfl rfl) ?_
                refine AL_nil ?_
                refine AW_ret (BQ_ret (BQ_ret ?_))
                exact ⟨rn [], ⟨⟨⟨_, rfl, vle_bool (by first | exact (actsB_bad (k := k) (by omega) (by unfold actB; first | (rw [decide_eq_true_eq]; omega) | (rw [decide_eq_false_iff_not]; omega))).symm | exact (actsB_good hA (by omega) (by omega)).symm | exact (actsB_len (by omega)).symm)⟩, trivial⟩, trivial, trivial, rfl⟩⟩
          · try simp only [decide_eq_true_eq, decide_eq_false_iff_not, Bool.not_eq_true, Bool.not_eq_false, Bool.not_eq_true', Bool.not_eq_false', beq_iff_eq, bne_iff_ne, beq_eq_false_iff_ne, bne_eq_false_iff_eq, Int.not_lt, Int.not_le, ge_iff_le, gt_iff_lt] at h28
            refine AL_o rfl rfl rfl rfl ?_
            refine AL_o rfl rfl rfl rfl ?_
            refine AL_o rfl rfl rfl rfl ?_
            refine AL_p (x_pickF rfl rfl rfl) ?_
            refine AL_p (x_move rfl rfl) ?_
            refine AL_o rfl rfl rfl rfl ?_
            refine AL_o rfl rfl rfl rfl ?_
            refine AL_o rfl rfl rfl rfl ?_
            refine AL_p (x_pickF rfl rfl rfl) ?_
            refine AL_p (x_assign rfl rfl) ?_
            refine AL_nil ?_
            refine AW_seq ?_
            refine AW_seq ?_
            refine AW_region ?_
            refine AL_p (x_field (off := 0) (o' := 0) rfl rfl rfl (by kernel_rfl) rfl) ?_
            refine AL_p (x_load1 rfl rfl rfl (by kernel_rfl) rfl) ?_
            refine AL_b (x_eql rfl rfl rfl) (fun b41 h41 => ?_)
            refine AL_nil ?_
            cases b41
            rotate_left
            · try simp only [decide_eq_true_eq, decide_eq_false_iff_not, Bool.not_eq_true, Bool.not_eq_false, Bool.not_eq_true', Bool.not_eq_false', beq_iff_eq, bne_iff_ne, beq_eq_false_iff_ne, bne_eq_false_iff_eq, Int.not_lt, Int.not_le, ge_iff_le, gt_iff_lt] at h41
              refine AW_condT rfl ?_
              refine AW_region ?_
              refine AL_p (x_field (off := 1) (o' := 1) rfl rfl rfl (by kernel_rfl) rfl) ?_
              refine AL_p (x_load1 rfl rfl rfl (by kernel_rfl) rfl) ?_
              refine AL_b (x_eql rfl rfl rfl) (fun b44 h44 => ?_)
              refine AL_p (x_move rfl rfl) ?_
              cases b44
              rotate_left
              · try simp only [decide_eq_true_eq, decide_eq_false_iff_not, Bool.not_eq_true, Bool.not_eq_false, Bool.not_eq_true', Bool.not_eq_false', beq_iff_eq, bne_iff_ne, beq_eq_false_iff_ne, bne_eq_false_iff_eq, Int.not_lt, Int.not_le, ge_iff_le, gt_iff_lt] at h44
                refine AL_o rfl rfl rfl rfl ?_
                refine AL_o rfl rfl rfl rfl ?_
                refine AL_o rfl rfl rfl rfl ?_
                refine AL_p (x_pickT rfl rfl rfl) ?_
                refine AL_p (x_move rfl rfl) ?_
                refine AL_g rfl rfl (x_field (off := 2) (o' := 2) rfl rfl rfl (by kernel_rfl) rfl) ?_
                refine AL_g rfl rfl (x_load1 rfl rfl rfl (by kernel_rfl) rfl) ?_
                refine AL_gb rfl rfl (x_call0 rfl rfl rfl (numS_c _) rfl rfl) (fun b53 h53 => ?_)
                refine AL_p (x_pickT rfl rfl rfl) ?_
                refine AL_p (x_assign rfl rfl) ?_
                refine AL_nil ?_
                refine AW_seq ?_
                refine AW_region ?_
                refine AL_p (x_move rfl rfl) ?_
                refine AL_p (x_not rfl rfl) ?_
                refine AL_p (x_move rfl rfl) ?_
                cases b53
                rotate_left
                · try simp only [decide_eq_true_eq, decide_eq_false_iff_not, Bool.not_eq_true, Bool.not_eq_false, Bool.not_eq_true', Bool.not_eq_false', beq_iff_eq, bne_iff_ne, beq_eq_false_iff_ne, bne_eq_false_iff_eq, Int.not_lt, Int.not_le, ge_iff_le, gt_iff_lt] at h53
                  refine AL_g rfl rfl (x_field (off := 0) (o' := 0) rfl rfl rfl (by kernel_rfl) rfl) ?_
                  refine AL_g rfl rfl (x_load1 rfl rfl rfl (by kernel_rfl) rfl) ?_
                  refine AL_gb rfl rfl (x_lss rfl rfl rfl) (fun b60 h60 => ?_)
                  refine AL_p (x_pickF rfl rfl rfl) ?_
                  refine AL_p (x_move rfl rfl) ?_
                  cases b60
                  rotate_left
                  · try simp only [decide_eq_true_eq, decide_eq_false_iff_not, Bool.not_eq_true, Bool.not_eq_false, Bool.not_eq_true', Bool.not_eq_false', beq_iff_eq, bne_iff_ne, beq_eq_false_iff_ne, bne_eq_false_iff_eq, Int.not_lt, Int.not_le, ge_iff_le, gt_iff_lt] at h60
                    refine AL_o rfl rfl rfl rfl ?_
                    refine AL_o rfl rfl rfl rfl ?_
                    refine AL_o rfl rfl rfl rfl ?_
                    refine AL_p (x_pickT rfl rfl rfl) ?_
                    refine AL_nil ?_
                    refine AW_condT rfl ?_
                    refine AW_seq ?_
                    refine AW_region ?_
                    refine AL_p (x_assign rfl rfl) ?_
                    refine AL_nil ?_
                    refine AW_ret (BQ_ret (BQ_ret ?_))
                    exact ⟨rn [], ⟨⟨⟨_, rfl, vle_bool (by first | exact (actsB_bad (k := k) (by omega) (by unfold actB; first | (rw [decide_eq_true_eq]; omega) | (rw [decide_eq_false_iff_not]; omega))).symm | exact (actsB_good hA (by omega) (by omega)).symm | exact (actsB_len (by omega)).symm)⟩, trivial⟩, trivial, trivial, rfl⟩⟩
                  · try simp only [decide_eq_true_eq, decide_eq_false_iff_not, Bool.not_eq_true, Bool.not_eq_false, Bool.not_eq_true', Bool.not_eq_false', beq_iff_eq, bne_iff_ne, beq_eq_false_iff_ne, bne_eq_false_iff_eq, Int.not_lt, Int.not_le, ge_iff_le, gt_iff_lt] at h60
                    refine AL_g rfl rfl (x_field (off := 0) (o' := 0) rfl rfl rfl (by kernel_rfl) rfl) ?_
                    refine AL_g rfl rfl (x_load1 rfl rfl rfl (by kernel_rfl) rfl) ?_
                    refine AL_gb rfl rfl (x_gtr rfl rfl rfl) (fun b65 h65 => ?_)
                    refine AL_p (x_pickF rfl rfl rfl) ?_
                    refine AL_nil ?_
                    cases b65
                    rotate_left
                    · try simp only [decide_eq_true_eq, decide_eq_false_iff_not, Bool.not_eq_true, Bool.not_eq_false, Bool.not_eq_true', Bool.not_eq_false', beq_iff_eq, bne_iff_ne, beq_eq_false_iff_ne, bne_eq_false_iff_eq, Int.not_lt, Int.not_le, ge_iff_le, gt_iff_lt] at h65
                      refine AW_condT rfl ?_
                      refine AW_seq ?_
                      refine AW_region ?_
                      refine AL_p (x_assign rfl rfl) ?_
                      refine AL_nil ?_
                      refine AW_ret (BQ_ret (BQ_ret ?_))
                      exact ⟨rn [], ⟨⟨⟨_, rfl, vle_bool (by first | exact (actsB_bad (k := k) (by omega) (by unfold actB; first | (rw [decide_eq_true_eq]; omega) | (rw [decide_eq_false_iff_not]; omega))).symm | exact (actsB_good hA (by omega) (by omega)).symm | exact (actsB_len (by omega)).symm)⟩, trivial⟩, trivial, trivial, rfl⟩⟩
                    · try simp only [decide_eq_true_eq, decide_eq_false_iff_not, Bool.not_eq_true, Bool.not_eq_false, Bool.not_eq_true', Bool.not_eq_false', beq_iff_eq, bne_iff_ne, beq_eq_false_iff_ne, bne_eq_false_iff_eq, Int.not_lt, Int.not_le, ge_iff_le, gt_iff_lt] at h65
                      refine AW_condF rfl ?_
                      refine AW_skip ?_
                      refine AW_region ?_
                      refine AL_p (x_add rfl rfl rfl (IntWalk.i64_in _ (by omega))) ?_
                      refine AL_p (x_move rfl rfl) ?_
                      refine AL_nil ?_
                      refine ⟨⟨k + 1, ⟨by omega, hA.succ (by omega) (by unfold actB; first | (rw [decide_eq_true_eq]; omega) | (rw [decide_eq_false_iff_not]; omega))⟩⟩, rn [], ?_, by dsimp only; omega⟩
                      exact ⟨by (repeat refine ⟨⟨_, rfl, by first | exact VLe.rf | exact vle_int (by dsimp only; omega)⟩, ?_⟩); exact trivial, by (repeat refine ⟨⟨_, rfl, by first | exact BLe.rf | exact BLe.box AllC.rf | exact BLe.arr (by exact rfl)⟩, ?_⟩); exact trivial, by repeat (first | exact trivial | refine ⟨⟨rfl, by first | (left; intro h; cases h) | (right; rfl), fun _ h => ⟨_, h⟩⟩, ?_⟩), rfl⟩
                · try simp only [decide_eq_true_eq, decide_eq_false_iff_not, Bool.not_eq_true, Bool.not_eq_false, Bool.not_eq_true', Bool.not_eq_false', beq_iff_eq, bne_iff_ne, beq_eq_false_iff_ne, bne_eq_false_iff_eq, Int.not_lt, Int.not_le, ge_iff_le, gt_iff_lt] at h53
                  refine AL_o rfl rfl rfl rfl ?_
                  refine AL_o rfl rfl rfl rfl ?_
                  refine AL_o rfl rfl rfl rfl ?_
                  refine AL_p (x_pickT rfl rfl rfl) ?_
                  refine AL_p (x_move rfl rfl) ?_
                  refine AL_o rfl rfl rfl rfl ?_
                  refine AL_o rfl rfl rfl rfl ?_
                  refine AL_o rfl rfl rfl rfl ?_
                  refine AL_p (x_pickT rfl rfl rfl) ?_
                  refine AL_nil ?_
                  refine AW_condT rfl ?_
                  refine AW_seq ?_
                  refine AW_region ?_
                  refine AL_p (x_assign rfl rfl) ?_
                  refine AL_nil ?_
                  refine AW_ret (BQ_ret (BQ_ret ?_))
                  exact ⟨rn [], ⟨⟨⟨_, rfl, vle_bool (by first | exact (actsB_bad (k := k) (by omega) (by unfold actB; first | (rw [decide_eq_true_eq]; omega) | (rw [decide_eq_false_iff_not]; omega))).symm | exact (actsB_good hA (by omega) (by omega)).symm | exact (actsB_len (by omega)).symm)⟩, trivial⟩, trivial, trivial, rfl⟩⟩
              · try simp only [decide_eq_true_eq, decide_eq_false_iff_not, Bool.not_eq_true, Bool.not_eq_false, Bool.not_eq_true', Bool.not_eq_false', beq_iff_eq, bne_iff_ne, beq_eq_false_iff_ne, bne_eq_false_iff_eq, Int.not_lt, Int.not_le, ge_iff_le, gt_iff_lt] at h44
                refine AL_g rfl rfl (x_field (off := 1) (o' := 1) rfl rfl rfl (by kernel_rfl) rfl) ?_
                refine AL_g rfl rfl (x_load1 rfl rfl rfl (by kernel_rfl) rfl) ?_
                refine AL_gb rfl rfl (x_eql rfl rfl rfl) (fun b48 h48 => ?_)
                refine AL_p (x_pickF rfl rfl rfl) ?_
                refine AL_p (x_move rfl rfl) ?_
                cases b48
                rotate_left
                · try simp only [decide_eq_true_eq, decide_eq_false_iff_not, Bool.not_eq_true, Bool.not_eq_false, Bool.not_eq_true', Bool.not_eq_false', beq_iff_eq, bne_iff_ne, beq_eq_false_iff_ne, bne_eq_false_iff_eq, Int.not_lt, Int.not_le, ge_iff_le, gt_iff_lt] at h48
                  refine AL_g rfl rfl (x_field (off := 2) (o' := 2) rfl rfl rfl (by kernel_rfl) rfl) ?_
                  refine AL_g rfl rfl (x_load1 rfl rfl rfl (by kernel_rfl) rfl) ?_
                  refine AL_gb rfl rfl (x_call0 rfl rfl rfl (numS_c _) rfl rfl) (fun b53 h53 => ?_)
                  refine AL_p (x_pickT rfl rfl rfl) ?_
                  refine AL_p (x_assign rfl rfl) ?_
                  refine AL_nil ?_
                  refine AW_seq ?_
                  refine AW_region ?_
                  refine AL_p (x_move rfl rfl) ?_
                  refine AL_p (x_not rfl rfl) ?_
                  refine AL_p (x_move rfl rfl) ?_
                  cases b53
                  rotate_left
                  · try simp only [decide_eq_true_eq, decide_eq_false_iff_not, Bool.not_eq_true, Bool.not_eq_false, Bool.not_eq_true', Bool.not_eq_false', beq_iff_eq, bne_iff_ne, beq_eq_false_iff_ne, bne_eq_false_iff_eq, Int.not_lt, Int.not_le, ge_iff_le, gt_iff_lt] at h53
                    refine AL_g rfl rfl (x_field (off := 0) (o' := 0) rfl rfl rfl (by kernel_rfl) rfl) ?_
                    refine AL_g rfl rfl (x_load1 rfl rfl rfl (by kernel_rfl) rfl) ?_
                    refine AL_gb rfl rfl (x_lss rfl rfl rfl) (fun b60 h60 => ?_)
                    refine AL_p (x_pickF rfl rfl rfl) ?_
                    refine AL_p (x_move rfl rfl) ?_
                    cases b60
                    rotate_left
                    · try simp only [decide_eq_true_eq, decide_eq_false_iff_not, Bool.not_eq_true, Bool.not_eq_false, Bool.not_eq_true', Bool.not_eq_false', beq_iff_eq, bne_iff_ne, beq_eq_false_iff_ne, bne_eq_false_iff_eq, Int.not_lt, Int.not_le, ge_iff_le, gt_iff_lt] at h60
                      refine AL_o rfl rfl rfl rfl ?_
                      refine AL_o rfl rfl rfl rfl ?_
                      refine AL_o rfl rfl rfl rfl ?_
                      refine AL_p (x_pickT rfl rfl rfl) ?_
                      refine AL_nil ?_
                      refine AW_condT rfl ?_
                      refine AW_seq ?_
                      refine AW_region ?_
                      refine AL_p (x_assign rfl rfl) ?_
                      refine AL_nil ?_
                      refine AW_ret (BQ_ret (BQ_ret ?_))
                      exact ⟨rn [], ⟨⟨⟨_, rfl, vle_bool (by first | exact (actsB_bad (k := k) (by omega) (by unfold actB; first | (rw [decide_eq_true_eq]; omega) | (rw [decide_eq_false_iff_not]; omega))).symm | exact (actsB_good hA (by omega) (by omega)).symm | exact (actsB_len (by omega)).symm)⟩, trivial⟩, trivial, trivial, rfl⟩⟩
                    · try simp only [decide_eq_true_eq, decide_eq_false_iff_not, Bool.not_eq_true, Bool.not_eq_false, Bool.not_eq_true', Bool.not_eq_false', beq_iff_eq, bne_iff_ne, beq_eq_false_iff_ne, bne_eq_false_iff_eq, Int.not_lt, Int.not_le, ge_iff_le, gt_iff_lt] at h60
                      refine AL_g rfl rfl (x_field (off := 0) (o' := 0) rfl rfl rfl (by kernel_rfl) rfl) ?_
                      refine AL_g rfl rfl (x_load1 rfl rfl rfl (by kernel_rfl) rfl) ?_
                      refine AL_gb rfl rfl (x_gtr rfl rfl rfl) (fun b65 h65 => ?_)
                      refine AL_p (x_pickF rfl rfl rfl) ?_
                      refine AL_nil ?_
                      cases b65
                      rotate_left
                      · try simp only [decide_eq_true_eq, decide_eq_false_iff_not, Bool.not_eq_true, Bool.not_eq_false, Bool.not_eq_true', Bool.not_eq_false', beq_iff_eq, bne_iff_ne, beq_eq_false_iff_ne, bne_eq_false_iff_eq, Int.not_lt, Int.not_le, ge_iff_le, gt_iff_lt] at h65
                        refine AW_condT rfl ?_
                        refine AW_seq ?_
                        refine AW_region ?_
                        refine AL_p (x_assign rfl rfl) ?_
                        refine AL_nil ?_
                        refine AW_ret (BQ_ret (BQ_ret ?_))
                        exact ⟨rn [], ⟨⟨⟨_, rfl, vle_bool (by first | exact (actsB_bad (k := k) (by omega) (by unfold actB; first | (rw [decide_eq_true_eq]; omega) | (rw [decide_eq_false_iff_not]; omega))).symm | exact (actsB_good hA (by omega) (by omega)).symm | exact (actsB_len (by omega)).symm)⟩, trivial⟩, trivial, trivial, rfl⟩⟩
                      · try simp only [decide_eq_true_eq, decide_eq_false_iff_not, Bool.not_eq_true, Bool.not_eq_false, Bool.not_eq_true', Bool.not_eq_false', beq_iff_eq, bne_iff_ne, beq_eq_false_iff_ne, bne_eq_false_iff_eq, Int.not_lt, Int.not_le, ge_iff_le, gt_iff_lt] at h65
                        refine AW_condF rfl ?_
                        refine AW_skip ?_
                        refine AW_region ?_
                        refine AL_p (x_add rfl rfl rfl (IntWalk.i64_in _ (by omega))) ?_
                        refine AL_p (x_move rfl rfl) ?_
                        refine AL_nil ?_
                        refine ⟨⟨k + 1, ⟨by omega, hA.succ (by omega) (by unfold actB; first | (rw [decide_eq_true_eq]; omega) | (rw [decide_eq_false_iff_not]; omega))⟩⟩, rn [], ?_, by dsimp only; omega⟩
                        exact ⟨by (repeat refine ⟨⟨_, rfl, by first | exact VLe.rf | exact vle_int (by dsimp only; omega)⟩, ?_⟩); exact trivial, by (repeat refine ⟨⟨_, rfl, by first | exact BLe.rf | exact BLe.box AllC.rf | exact BLe.arr (by exact rfl)⟩, ?_⟩); exact trivial, by repeat (first | exact trivial | refine ⟨⟨rfl, by first | (left; intro h; cases h) | (right; rfl), fun _ h => ⟨_, h⟩⟩, ?_⟩), rfl⟩
                  · try simp only [decide_eq_true_eq, decide_eq_false_iff_not, Bool.not_eq_true, Bool.not_eq_false, Bool.not_eq_true', Bool.not_eq_false', beq_iff_eq, bne_iff_ne, beq_eq_false_iff_ne, bne_eq_false_iff_eq, Int.not_lt, Int.not_le, ge_iff_le, gt_iff_lt] at h53
                    refine AL_o rfl rfl rfl rfl ?_
                    refine AL_o rfl rfl rfl rfl ?_
                    refine AL_o rfl rfl rfl rfl ?_
                    refine AL_p (x_pickT rfl rfl rfl) ?_
                    refine AL_p (x_move rfl rfl) ?_
                    refine AL_o rfl rfl rfl rfl ?_
                    refine AL_o rfl rfl rfl rfl ?_
                    refine AL_o rfl rfl rfl rfl ?_
                    refine AL_p (x_pickT rfl rfl rfl) ?_
                    refine AL_nil ?_
                    refine AW_condT rfl ?_
                    refine AW_seq ?_
                    refine AW_region ?_
                    refine AL_p (x_assign rfl rfl) ?_
                    refine AL_nil ?_
                    refine AW_ret (BQ_ret (BQ_ret ?_))
                    exact ⟨rn [], ⟨⟨⟨_, rfl, vle_bool (by first | exact (actsB_bad (k := k) (by omega) (by unfold actB; first | (rw [decide_eq_true_eq]; omega) | (rw [decide_eq_false_iff_not]; omega))).symm | exact (actsB_good hA (by omega) (by omega)).symm | exact (actsB_len (by omega)).symm)⟩, trivial⟩, trivial, trivial, rfl⟩⟩
                · try simp only [decide_eq_true_eq, decide_eq_false_iff_not, Bool.not_eq_true, Bool.not_eq_false, Bool.not_eq_true', Bool.not_eq_false', beq_iff_eq, bne_iff_ne, beq_eq_false_iff_ne, bne_eq_false_iff_eq, Int.not_lt, Int.not_le, ge_iff_le, gt_iff_lt] at h48
                  refine AL_o rfl rfl rfl rfl ?_
                  refine AL_o rfl rfl rfl rfl ?_
                  refine AL_o rfl rfl rfl rfl ?_
                  refine AL_p (x_pickF rfl rfl rfl) ?_
                  refine AL_p (x_assign rfl rfl) ?_
                  refine AL_nil ?_
                  refine AW_seq ?_
                  refine AW_region ?_
                  refine AL_p (x_move rfl rfl) ?_
                  refine AL_p (x_not rfl rfl) ?_
                  refine AL_p (x_move rfl rfl) ?_
                  refine AL_o rfl rfl rfl rfl ?_
                  refine AL_o rfl rfl rfl rfl ?_
                  refine AL_o rfl rfl rfl rfl ?_
                  refine AL_p (x_pickT rfl rfl rfl) ?_
                  refine AL_p (x_move rfl rfl) ?_
                  refine AL_o rfl rfl rfl rfl ?_
                  refine AL_o rfl rfl rfl rfl ?_
                  refine AL_o rfl rfl rfl rfl ?_
                  refine AL_p (x_pickT rfl rfl rfl) ?_
                  refine AL_nil ?_
                  refine AW_condT rfl ?_
                  refine AW_seq ?_
                  refine AW_region ?_
                  refine AL_p (x_assign rfl rfl) ?_
                  refine AL_nil ?_
                  refine AW_ret (BQ_ret (BQ_ret ?_))
                  exact ⟨rn [], ⟨⟨⟨_, rfl, vle_bool (by first | exact (actsB_bad (k := k) (by omega) (by unfold actB; first | (rw [decide_eq_true_eq]; omega) | (rw [decide_eq_false_iff_not]; omega))).symm | exact (actsB_good hA (by omega) (by omega)).symm | exact (actsB_len (by omega)).symm)⟩, trivial⟩, trivial, trivial, rfl⟩⟩
            · try simp only [decide_eq_true_eq, decide_eq_false_iff_not, Bool.not_eq_true, Bool.not_eq_false, Bool.not_eq_true', Bool.not_eq_false', beq_iff_eq, bne_iff_ne, beq_eq_false_iff_ne, bne_eq_false_iff_eq, Int.not_lt, Int.not_le, ge_iff_le, gt_iff_lt] at h41
              refine AW_condF rfl ?_
              refine AW_skip ?_
              refine AW_seq ?_
              refine AW_region ?_
              refine AL_p (x_move rfl rfl) ?_
              refine AL_p (x_not rfl rfl) ?_
              refine AL_p (x_move rfl rfl) ?_
              refine AL_o rfl rfl rfl rfl ?_
              refine AL_o rfl rfl rfl rfl ?_
              refine AL_o rfl rfl rfl rfl ?_
              refine AL_p (x_pickT rfl rfl rfl) ?_
              refine AL_p (x_move rfl rfl) ?_
              refine AL_o rfl rfl rfl rfl ?_
              refine AL_o rfl rfl rfl rfl ?_
              refine AL_o rfl rfl rfl rfl ?_
              refine AL_p (x_pickT rfl rfl rfl) ?_
              refine AL_nil ?_
              refine AW_condT rfl ?_
              refine AW_seq ?_
              refine AW_region ?_
              refine AL_p (x_assign rfl rfl) ?_
              refine AL_nil ?_
              refine AW_ret (BQ_ret (BQ_ret ?_))
              exact ⟨rn [], ⟨⟨⟨_, rfl, vle_bool (by first | exact (actsB_bad (k := k) (by omega) (by unfold actB; first | (rw [decide_eq_true_eq]; omega) | (rw [decide_eq_false_iff_not]; omega))).symm | exact (actsB_good hA (by omega) (by omega)).symm | exact (actsB_len (by omega)).symm)⟩, trivial⟩, trivial, trivial, rfl⟩⟩
        · try simp only [decide_eq_true_eq, decide_eq_false_iff_not, Bool.not_eq_true, Bool.not_eq_false, Bool.not_eq_true', Bool.not_eq_false', beq_iff_eq, bne_iff_ne, beq_eq_false_iff_ne, bne_eq_false_iff_eq, Int.not_lt, Int.not_le, ge_iff_le, gt_iff_lt] at h25
          refine AW_condF rfl ?_
          refine AW_skip ?_
          refine AW_seq ?_
          refine AW_seq ?_
          refine AW_region ?_
          refine AL_p (x_field (off := 0) (o' := 0) rfl rfl rfl (by kernel_rfl) rfl) ?_
          refine AL_p (x_load1 rfl rfl rfl (by kernel_rfl) rfl) ?_
          refine AL_b (x_eql rfl rfl rfl) (fun b41 h41 => ?_)
          refine AL_nil ?_
          cases b41
          rotate_left
          · try simp only [decide_eq_true_eq, decide_eq_false_iff_not, Bool.not_eq_true, Bool.not_eq_false, Bool.not_eq_true', Bool.not_eq_false', beq_iff_eq, bne_iff_ne, beq_eq_false_iff_ne, bne_eq_false_iff_eq, Int.not_lt, Int.not_le, ge_iff_le, gt_iff_lt] at h41
            refine AW_condT rfl ?_
            refine AW_region ?_
            refine AL_p (x_field (off := 1) (o' := 1) rfl rfl rfl (by kernel_rfl) rfl) ?_
            refine AL_p (x_load1 rfl rfl rfl (by kernel_rfl) rfl) ?_
            refine AL_b (x_eql rfl rfl rfl) (fun b44 h44 => ?_)
            refine AL_p (x_move rfl rfl) ?_
            cases b44
            rotate_left
            · try simp only [decide_eq_true_eq, decide_eq_false_iff_not, Bool.not_eq_true, Bool.not_eq_false, Bool.not_eq_true', Bool.not_eq_false', beq_iff_eq, bne_iff_ne, beq_eq_false_iff_ne, bne_eq_false_iff_eq, Int.not_lt, Int.not_le, ge_iff_le, gt_iff_lt] at h44
              refine AL_o rfl rfl rfl rfl ?_
              refine AL_o rfl rfl rfl rfl ?_
              refine AL_o rfl rfl rfl rfl ?_
              refine AL_p (x_pickT rfl rfl rfl) ?_
              refine AL_p (x_move rfl rfl) ?_
              refine AL_g rfl rfl (x_field (off := 2) (o' := 2) rfl rfl rfl (by kernel_rfl) rfl) ?_
              refine AL_g rfl rfl (x_load1 rfl rfl rfl (by kernel_rfl) rfl) ?_
              refine AL_gb rfl rfl (x_call0 rfl rfl rfl (numS_c _) rfl rfl) (fun b53 h53 => ?_)
              refine AL_p (x_pickT rfl rfl rfl) ?_
              refine AL_p (x_assign rfl rfl) ?_
              refine AL_nil ?_
              refine AW_seq ?_
              refine AW_region ?_
              refine AL_p (x_move rfl rfl) ?_
              refine AL_p (x_not rfl rfl) ?_
              refine AL_p (x_move rfl rfl) ?_
              cases b53
              rotate_left
              · try simp only [decide_eq_true_eq, decide_eq_false_iff_not, Bool.not_eq_true, Bool.not_eq_false, Bool.not_eq_true', Bool.not_eq_false', beq_iff_eq, bne_iff_ne, beq_eq_false_iff_ne, bne_eq_false_iff_eq, Int.not_lt, Int.not_le, ge_iff_le, gt_iff_lt] at h53
                refine AL_g rfl rfl (x_field (off := 0) (o' := 0) rfl rfl rfl (by kernel_rfl) rfl) ?_
                refine AL_g rfl rfl (x_load1 rfl rfl rfl (by kernel_rfl) rfl) ?_
                refine AL_gb rfl rfl (x_lss rfl rfl rfl) (fun b60 h60 => ?_)
                refine AL_p (x_pickF rfl rfl rfl) ?_
                refine AL_p (x_move rfl rfl) ?_
                cases b60
                rotate_left
                · try simp only [decide_eq_true_eq, decide_eq_false_iff_not, Bool.not_eq_true, Bool.not_eq_false, Bool.not_eq_true', Bool.not_eq_false', beq_iff_eq, bne_iff_ne, beq_eq_false_iff_ne, bne_eq_false_iff_eq, Int.not_lt, Int.not_le, ge_iff_le, gt_iff_lt] at h60
                  refine AL_o rfl rfl rfl rfl ?_
                  refine AL_o rfl rfl rfl rfl ?_
                  refine AL_o rfl rfl rfl rfl ?_
                  refine AL_p (x_pickT rfl rfl rfl) ?_
                  refine AL_nil ?_
                  refine AW_condT rfl ?_
                  refine AW_seq ?_
                  refine AW_region ?_
                  refine AL_p (x_assign rfl rfl) ?_
                  refine AL_nil ?_
                  refine AW_ret (BQ_ret (BQ_ret ?_))
                  exact ⟨rn [], ⟨⟨⟨_, rfl, vle_bool (by first | exact (actsB_bad (k := k) (by omega) (by unfold actB; first | (rw [decide_eq_true_eq]; omega) | (rw [decide_eq_false_iff_not]; omega))).symm | exact (actsB_good hA (by omega) (by omega)).symm | exact (actsB_len (by omega)).symm)⟩, trivial⟩, trivial, trivial, rfl⟩⟩
                · try simp only [decide_eq_true_eq, decide_eq_false_iff_not, Bool.not_eq_true, Bool.not_eq_false, Bool.not_eq_true', Bool.not_eq_false', beq_iff_eq, bne_iff_ne, beq_eq_false_iff_ne, bne_eq_false_iff_eq, Int.not_lt, Int.not_le, ge_iff_le, gt_iff_lt] at h60
                  refine AL_g rfl rfl (x_field (off := 0) (o' := 0) rfl rfl rfl (by kernel_rfl) rfl) ?_
                  refine AL_g rfl rfl (x_load1 rfl rfl rfl (by kernel_rfl) rfl) ?_
                  refine AL_gb rfl rfl (x_gtr rfl rfl rfl) (fun b65 h65 => ?_)
                  refine AL_p (x_pickF rfl rfl rfl) ?_
                  refine AL_nil ?_
                  cases b65
                  rotate_left
                  · try simp only [decide_eq_true_eq, decide_eq_false_iff_not, Bool.not_eq_true, Bool.not_eq_false, Bool.not_eq_true', Bool.not_eq_false', beq_iff_eq, bne_iff_ne, beq_eq_false_iff_ne, bne_eq_false_iff_eq, Int.not_lt, Int.not_le, ge_iff_le, gt_iff_lt] at h65
                    refine AW_condT rfl ?_
                    refine AW_seq ?_
                    refine AW_region ?_
                    refine AL_p (x_assign rfl rfl) ?_
                    refine AL_nil ?_
                    refine AW_ret (BQ_ret (BQ_ret ?_))
                    exact ⟨rn [], ⟨⟨⟨_, rfl, vle_bool (by first | exact (actsB_bad (k := k) (by omega) (by unfold actB; first | (rw [decide_eq_true_eq]; omega) | (rw [decide_eq_false_iff_not]; omega))).symm | exact (actsB_good hA (by omega) (by omega)).symm | exact (actsB_len (by omega)).symm)⟩, trivial⟩, trivial, trivial, rfl⟩⟩
                  · try simp only [decide_eq_true_eq, decide_eq_false_iff_not, Bool.not_eq_true, Bool.not_eq_false, Bool.not_eq_true', Bool.not_eq_false', beq_iff_eq, bne_iff_ne, beq_eq_false_iff_ne, bne_eq_false_iff_eq, Int.not_lt, Int.not_le, ge_iff_le, gt_iff_lt] at h65
                    refine AW_condF rfl ?_
                    refine AW_skip ?_
                    refine AW_region ?_
                    refine AL_p (x_add rfl rfl rfl (IntWalk.i64_in _ (by omega))) ?_
                    refine AL_p (x_move rfl rfl) ?_
                    refine AL_nil ?_
                    refine ⟨⟨k + 1, ⟨by omega, hA.succ (by omega) (by unfold actB; first | (rw [decide_eq_true_eq]; omega) | (rw [decide_eq_false_iff_not]; omega))⟩⟩, rn [], ?_, by dsimp only; omega⟩
                    exact ⟨by (repeat refine ⟨⟨_, rfl, by first | exact VLe.rf | exact vle_int (by dsimp only; omega)⟩, ?_⟩); exact trivial, by (repeat refine ⟨⟨_, rfl, by first | exact BLe.rf | exact BLe.box AllC.rf | exact BLe.arr (by exact rfl)⟩, ?_⟩); exact trivial, by repeat (first | exact trivial | refine ⟨⟨rfl, by first | (left; intro h; cases h) | (right; rfl), fun _ h => ⟨_, h⟩⟩, ?_⟩), rfl⟩
              · try simp only [decide_eq_true_eq, decide_eq_false_iff_not, Bool.not_eq_true, Bool.not_eq_false, Bool.not_eq_true', Bool.not_eq_false', beq_iff_eq, bne_iff_ne, beq_eq_false_iff_ne, bne_eq_false_iff_eq, Int.not_lt, Int.not_le, ge_iff_le, gt_iff_lt] at h53
                refine AL_o rfl rfl rfl rfl ?_
                refine AL_o rfl rfl rfl rfl ?_
                refine AL_o rfl rfl rfl rfl ?_
                refine AL_p (x_pickT rfl rfl rfl) ?_
                refine AL_p (x_move rfl rfl) ?_
                refine AL_o rfl rfl rfl rfl ?_
                refine AL_o rfl rfl rfl rfl ?_
                refine AL_o rfl rfl rfl rfl ?_
                refine AL_p (x_pickT rfl rfl rfl) ?_
                refine AL_nil ?_
                refine AW_condT rfl ?_
                refine AW_seq ?_
                refine AW_region ?_
                refine AL_p (x_assign rfl rfl) ?_
                refine AL_nil ?_
                refine AW_ret (BQ_ret (BQ_ret ?_))
                exact ⟨rn [], ⟨⟨⟨_, rfl, vle_bool (by first | exact (actsB_bad (k := k) (by omega) (by unfold actB; first | (rw [decide_eq_true_eq]; omega) | (rw [decide_eq_false_iff_not]; omega))).symm | exact (actsB_good hA (by omega) (by omega)).symm | exact (actsB_len (by omega)).symm)⟩, trivial⟩, trivial, trivial, rfl⟩⟩
            · try simp only [decide_eq_true_eq, decide_eq_false_iff_not, Bool.not_eq_true, Bool.not_eq_false, Bool.not_eq_true', Bool.not_eq_false', beq_iff_eq, bne_iff_ne, beq_eq_false_iff_ne, bne_eq_false_iff_eq, Int.not_lt, Int.not_le, ge_iff_le, gt_iff_lt] at h44
              refine AL_g rfl rfl (x_field (off := 1) (o' := 1) rfl rfl rfl (by kernel_rfl) rfl) ?_
              refine AL_g rfl rfl (x_load1 rfl rfl rfl (by kernel_rfl) rfl) ?_
              refine AL_gb rfl rfl (x_eql rfl rfl rfl) (fun b48 h48 => ?_)
              refine AL_p (x_pickF rfl rfl rfl) ?_
              refine AL_p (x_move rfl rfl) ?_
              cases b48
              rotate_left
              · try simp only [decide_eq_true_eq, decide_eq_false_iff_not, Bool.not_eq_true, Bool.not_eq_false, Bool.not_eq_true', Bool.not_eq_false', beq_iff_eq, bne_iff_ne, beq_eq_false_iff_ne, bne_eq_false_iff_eq, Int.not_lt, Int.not_le, ge_iff_le, gt_iff_lt] at h48
                refine AL_g rfl rfl (x_field (off := 2) (o' := 2) rfl rfl rfl (by kernel_rfl) rfl) ?_
                refine AL_g rfl rfl (x_load1 rfl rfl rfl (by kernel_rfl) rfl) ?_
                refine AL_gb rfl rfl (x_call0 rfl rfl rfl (numS_c _) rfl rfl) (fun b53 h53 => ?_)
                refine AL_p (x_pickT rfl rfl rfl) ?_
                refine AL_p (x_assign rfl rfl) ?_
                refine AL_nil ?_
                refine AW_seq ?_
                refine AW_region ?_
                refine AL_p (x_move rfl rfl) ?_
                refine AL_p (x_not rfl rfl) ?_
                refine AL_p (x_move rfl rfl) ?_
                cases b53
                rotate_left
                · try simp only [decide_eq_true_eq, decide_eq_false_iff_not, Bool.not_eq_true, Bool.not_eq_false, Bool.not_eq_true', Bool.not_eq_false', beq_iff_eq, bne_iff_ne, beq_eq_false_iff_ne, bne_eq_false_iff_eq, Int.not_lt, Int.not_le, ge_iff_le, gt_iff_lt] at h53
                  refine AL_g rfl rfl (x_field (off := 0) (o' := 0) rfl rfl rfl (by kernel_rfl) rfl) ?_
                  refine AL_g rfl rfl (x_load1 rfl rfl rfl (by kernel_rfl) rfl) ?_
                  refine AL_gb rfl rfl (x_lss rfl rfl rfl) (fun b60 h60 => ?_)
                  refine AL_p (x_pickF rfl rfl rfl) ?_
                  refine AL_p (x_move rfl rfl) ?_
                  cases b60
                  rotate_left
                  · try simp only [decide_eq_true_eq, decide_eq_false_iff_not, Bool.not_eq_true, Bool.not_eq_false, Bool.not_eq_true', Bool.not_eq_false', beq_iff_eq, bne_iff_ne, beq_eq_false_iff_ne, bne_eq_false_iff_eq, Int.not_lt, Int.not_le, ge_iff_le, gt_iff_lt] at h60
                    refine AL_o rfl rfl rfl rfl ?_
                    refine AL_o rfl rfl rfl rfl ?_
                    refine AL_o rfl rfl rfl rfl ?_
                    refine AL_p (x_pickT rfl rfl rfl) ?_
                    refine AL_nil ?_
                    refine AW_condT rfl ?_
                    refine AW_seq ?_
                    refine AW_region ?_
                    refine AL_p (x_assign rfl rfl) ?_
                    refine AL_nil ?_
                    refine AW_ret (BQ_ret (BQ_ret ?_))
                    exact ⟨rn [], ⟨⟨⟨_, rfl, vle_bool (by first | exact (actsB_bad (k := k) (by omega) (by unfold actB; first | (rw [decide_eq_true_eq]; omega) | (rw [decide_eq_false_iff_not]; omega))).symm | exact (actsB_good hA (by omega) (by omega)).symm | exact (actsB_len (by omega)).symm)⟩, trivial⟩, trivial, trivial, rfl⟩⟩
                  · try simp only [decide_eq_true_eq, decide_eq_false_iff_not, Bool.not_eq_true, Bool.not_eq_false, Bool.not_eq_true', Bool.not_eq_false', beq_iff_eq, bne_iff_ne, beq_eq_false_iff_ne, bne_eq_false_iff_eq, Int.not_lt, Int.not_le, ge_iff_le, gt_iff_lt] at h60
                    refine AL_g rfl rfl (x_field (off := 0) (o' := 0) rfl rfl rfl (by kernel_rfl) rfl) ?_
                    refine AL_g rfl rfl (x_load1 rfl rfl rfl (by kernel_rfl) rfl) ?_
                    refine AL_gb rfl rfl (x_gtr rfl rfl rfl) (fun b65 h65 => ?_)
                    refine AL_p (x_pickF rfl rfl rfl) ?_
                    refine AL_nil ?_
                    cases b65
                    rotate_left
                    · try simp only [decide_eq_true_eq, decide_eq_false_iff_not, Bool.not_eq_true, Bool.not_eq_false, Bool.not_eq_true', Bool.not_eq_false', beq_iff_eq, bne_iff_ne, beq_eq_false_iff_ne, bne_eq_false_iff_eq, Int.not_lt, Int.not_le, ge_iff_le, gt_iff_lt] at h65
                      refine AW_condT rfl ?_
                      refine AW_seq ?_
                      refine AW_region ?_
                      refine AL_p (x_assign rfl rfl) ?_
                      refine AL_nil ?_
                      refine AW_ret (BQ_ret (BQ_ret ?_))
                      exact ⟨rn [], ⟨⟨⟨_, rfl, vle_bool (by first | exact (actsB_bad (k := k) (by omega) (by unfold actB; first | (rw [decide_eq_true_eq]; omega) | (rw [decide_eq_false_iff_not]; omega))).symm | exact (actsB_good hA (by omega) (by omega)).symm | exact (actsB_len (by omega)).symm)⟩, trivial⟩, trivial, trivial, rfl⟩⟩
                    · try simp only [decide_eq_true_eq, decide_eq_false_iff_not, Bool.not_eq_true, Bool.not_eq_false, Bool.not_eq_true', Bool.not_eq_false', beq_iff_eq, bne_iff_ne, beq_eq_false_iff_ne, bne_eq_false_iff_eq, Int.not_lt, Int.not_le, ge_iff_le, gt_iff_lt] at h65
                      refine AW_condF rfl ?_
                      refine AW_skip ?_
                      refine AW_region ?_
                      refine AL_p (x_add rfl rfl rfl (IntWalk.i64_in _ (by omega))) ?_
                      refine AL_p (x_move rfl rfl) ?_
                      refine AL_nil ?_
                      refine ⟨⟨k + 1, ⟨by omega, hA.succ (by omega) (by unfold actB; first | (rw [decide_eq_true_eq]; omega) | (rw [decide_eq_false_iff_not]; omega))⟩⟩, rn [], ?_, by dsimp only; omega⟩
                      exact ⟨by (repeat refine ⟨⟨_, rfl, by first | exact VLe.rf | exact vle_int (by dsimp only; omega)⟩, ?_⟩); exact trivial, by (repeat refine ⟨⟨_, rfl, by first | exact BLe.rf | exact BLe.box AllC.rf | exact BLe.arr (by exact rfl)⟩, ?_⟩); exact trivial, by repeat (first | exact trivial | refine ⟨⟨rfl, by first | (left; intro h; cases h) | (right; rfl), fun _ h => ⟨_, h⟩⟩, ?_⟩), rfl⟩
                · try simp only [decide_eq_true_eq, decide_eq_false_iff_not, Bool.not_eq_true, Bool.not_eq_false, Bool.not_eq_true', Bool.not_eq_false', beq_iff_eq, bne_iff_ne, beq_eq_false_iff_ne, bne_eq_false_iff_eq, Int.not_lt, Int.not_le, ge_iff_le, gt_iff_lt] at h53
                  refine AL_o rfl rfl rfl rfl ?_
                  refine AL_o rfl rfl rfl rfl ?_
                  refine AL_o rfl rfl rfl rfl ?_
                  refine AL_p (x_pickT rfl rfl rfl) ?_
                  refine AL_p (x_move rfl rfl) ?_
                  refine AL_o rfl rfl rfl rfl ?_
                  refine AL_o rfl rfl rfl rfl ?_
                  refine AL_o rfl rfl rfl rfl ?_
                  refine AL_p (x_pickT rfl rfl rfl) ?_
                  refine AL_nil ?_
                  refine AW_condT rfl ?_
                  refine AW_seq ?_
                  refine AW_region ?_
                  refine AL_p (x_assign rfl rfl) ?_
                  refine AL_nil ?_
                  refine AW_ret (BQ_ret (BQ_ret ?_))
                  exact ⟨rn [], ⟨⟨⟨_, rfl, vle_bool (by first | exact (actsB_bad (k := k) (by omega) (by unfold actB; first | (rw [decide_eq_true_eq]; omega) | (rw [decide_eq_false_iff_not]; omega))).symm | exact (actsB_good hA (by omega) (by omega)).symm | exact (actsB_len (by omega)).symm)⟩, trivial⟩, trivial, trivial, rfl⟩⟩
              · try simp only [decide_eq_true_eq, decide_eq_false_iff_not, Bool.not_eq_true, Bool.not_eq_false, Bool.not_eq_true', Bool.not_eq_false', beq_iff_eq, bne_iff_ne, beq_eq_false_iff_ne, bne_eq_false_iff_eq, Int.not_lt, Int.not_le, ge_iff_le, gt_iff_lt] at h48
                refine AL_o rfl rfl rfl rfl ?_
                refine AL_o rfl rfl rfl rfl ?_
                refine AL_o rfl rfl rfl rfl ?_
                refine AL_p (x_pickF rfl rfl rfl) ?_
                refine AL_p (x_assign rfl rfl) ?_
                refine AL_nil ?_
                refine AW_seq ?_
                refine AW_region ?_
                refine AL_p (x_move rfl rfl) ?_
                refine AL_p (x_not rfl rfl) ?_
                refine AL_p (x_move rfl rfl) ?_
                refine AL_o rfl rfl rfl rfl ?_
                refine AL_o rfl rfl rfl rfl ?_
                refine AL_o rfl rfl rfl rfl ?_
                refine AL_p (x_pickT rfl rfl rfl) ?_
                refine AL_p (x_move rfl rfl) ?_
                refine AL_o rfl rfl rfl rfl ?_
                refine AL_o rfl rfl rfl rfl ?_
                refine AL_o rfl rfl rfl rfl ?_
                refine AL_p (x_pickT rfl rfl rfl) ?_
                refine AL_nil ?_
                refine AW_condT rfl ?_
                refine AW_seq ?_
                refine AW_region ?_
                refine AL_p (x_assign rfl rfl) ?_
                refine AL_nil ?_
                refine AW_ret (BQ_ret (BQ_ret ?_))
                exact ⟨rn [], ⟨⟨⟨_, rfl, vle_bool (by first | exact (actsB_bad (k := k) (by omega) (by unfold actB; first | (rw [decide_eq_true_eq]; omega) | (rw [decide_eq_false_iff_not]; omega))).symm | exact (actsB_good hA (by omega) (by omega)).symm | exact (actsB_len (by omega)).symm)⟩, trivial⟩, trivial, trivial, rfl⟩⟩
          · try simp only [decide_eq_true_eq, decide_eq_false_iff_not, Bool.not_eq_true, Bool.not_eq_false, Bool.not_eq_true', Bool.not_eq_false', beq_iff_eq, bne_iff_ne, beq_eq_false_iff_ne, bne_eq_false_iff_eq, Int.not_lt, Int.not_le, ge_iff_le, gt_iff_lt] at h41
            refine AW_condF rfl ?_
            refine AW_skip ?_
            refine AW_seq ?_
            refine AW_region ?_
            refine AL_p (x_move rfl rfl) ?_
            refine AL_p (x_not rfl rfl) ?_
            refine AL_p (x_move rfl rfl) ?_
            cases b21
            rotate_left
            · try simp only [decide_eq_true_eq, decide_eq_false_iff_not, Bool.not_eq_true, Bool.not_eq_false, Bool.not_eq_true', Bool.not_eq_false', beq_iff_eq, bne_iff_ne, beq_eq_false_iff_ne, bne_eq_false_iff_eq, Int.not_lt, Int.not_le, ge_iff_le, gt_iff_lt] at h21
              refine AL_g rfl rfl (x_field (off := 0) (o' := 0) rfl rfl rfl (by kernel_rfl) rfl) ?_
              refine AL_g rfl rfl (x_load1 rfl rfl rfl (by kernel_rfl) rfl) ?_
              refine AL_gb rfl rfl (x_lss rfl rfl rfl) (fun b60 h60 => ?_)
              refine AL_p (x_pickF rfl rfl rfl) ?_
              refine AL_p (x_move rfl rfl) ?_
              cases b60
              rotate_left
              · try simp only [decide_eq_true_eq, decide_eq_false_iff_not, Bool.not_eq_true, Bool.not_eq_false, Bool.not_eq_true', Bool.not_eq_false', beq_iff_eq, bne_iff_ne, beq_eq_false_iff_ne, bne_eq_false_iff_eq, Int.not_lt, Int.not_le, ge_iff_le, gt_iff_lt] at h60
                refine AL_o rfl rfl rfl rfl ?_
                refine AL_o rfl rfl rfl rfl ?_
                refine AL_o rfl rfl rfl rfl ?_
                refine AL_p (x_pickT rfl rfl rfl) ?_
                refine AL_nil ?_
                refine AW_condT rfl ?_
                refine AW_seq ?_
                refine AW_region ?_
                refine AL_p (x_assign rfl rfl) ?_
                refine AL_nil ?_
                refine AW_ret (BQ_ret (BQ_ret ?_))
                exact ⟨rn [], ⟨⟨⟨_, rfl, vle_bool (by first | exact (actsB_bad (k := k) (by omega) (by unfold actB; first | (rw [decide_eq_true_eq]; omega) | (rw [decide_eq_false_iff_not]; omega))).symm | exact (actsB_good hA (by omega) (by omega)).symm | exact (actsB_len (by omega)).symm)⟩, trivial⟩, trivial, trivial, rfl⟩⟩
              · try simp only [decide_eq_true_eq, decide_eq_false_iff_not, Bool.not_eq_true, Bool.not_eq_false, Bool.not_eq_true', Bool.not_eq_false', beq_iff_eq, bne_iff_ne, beq_eq_false_iff_ne, bne_eq_false_iff_eq, Int.not_lt, Int.not_le, ge_iff_le, gt_iff_lt] at h60
                refine AL_g rfl rfl (x_field (off := 0) (o' := 0) rfl rfl rfl (by kernel_rfl) rfl) ?_
                refine AL_g rfl rfl (x_load1 rfl rfl rfl (by kernel_rfl) rfl) ?_
                refine AL_gb rfl rfl (x_gtr rfl rfl rfl) (fun b65 h65 => ?_)
                refine AL_p (x_pickF rfl rfl rfl) ?_
                refine AL_nil ?_
                cases b65
                rotate_left
                · try simp only [decide_eq_true_eq, decide_eq_false_iff_not, Bool.not_eq_true, Bool.not_eq_false, Bool.not_eq_true', Bool.not_eq_false', beq_iff_eq, bne_iff_ne, beq_eq_false_iff_ne, bne_eq_false_iff_eq, Int.not_lt, Int.not_le, ge_iff_le, gt_iff_lt] at h65
                  refine AW_condT rfl ?_
                  refine AW_seq ?_
                  refine AW_region ?_
                  refine AL_p (x_assign rfl rfl) ?_
                  refine AL_nil ?_
                  refine AW_ret (BQ_ret (BQ_ret ?_))
                  exact ⟨rn [], ⟨⟨⟨_, rfl, vle_bool (by first | exact (actsB_bad (k := k) (by omega) (by unfold actB; first | (rw [decide_eq_true_eq]; omega) | (rw [decide_eq_false_iff_not]; omega))).symm | exact (actsB_good hA (by omega) (by omega)).symm | exact (actsB_len (by omega)).symm)⟩, trivial⟩, trivial, trivial, rfl⟩⟩
                · try simp only [decide_eq_true_eq, decide_eq_false_iff_not, Bool.not_eq_true, Bool.not_eq_false, Bool.not_eq_true', Bool.not_eq_false', beq_iff_eq, bne_iff_ne, beq_eq_false_iff_ne, bne_eq_false_iff_eq, Int.not_lt, Int.not_le, ge_iff_le, gt_iff_lt] at h65
                  refine AW_condF rfl ?_
                  refine AW_skip ?_
                  refine AW_region ?_
                  refine AL_p (x_add rfl rfl rfl (IntWalk.i64_in _ (by omega))) ?_
                  refine AL_p (x_move rfl rfl) ?_
                  refine AL_nil ?_
                  refine ⟨⟨k + 1, ⟨by omega, hA.succ (by omega) (by unfold actB; first | (rw [decide_eq_true_eq]; omega) | (rw [decide_eq_false_iff_not]; omega))⟩⟩, rn [], ?_, by dsimp only; omega⟩
                  exact ⟨by (repeat refine ⟨⟨_, rfl, by first | exact VLe.rf | exact vle_int (by dsimp only; omega)⟩, ?_⟩); exact trivial, by (repeat refine ⟨⟨_, rfl, by first | exact BLe.rf | exact BLe.box AllC.rf | exact BLe.arr (by exact rfl)⟩, ?_⟩); exact trivial, by repeat (first | exact trivial | refine ⟨⟨rfl, by first | (left; intro h; cases h) | (right; rfl), fun _ h => ⟨_, h⟩⟩, ?_⟩), rfl⟩
            · try simp only [decide_eq_true_eq, decide_eq_false_iff_not, Bool.not_eq_true, Bool.not_eq_false, Bool.not_eq_true', Bool.not_eq_false', beq_iff_eq, bne_iff_ne, beq_eq_false_iff_ne, bne_eq_false_iff_eq, Int.not_lt, Int.not_le, ge_iff_le, gt_iff_lt] at h21
              refine AL_o rfl rfl rfl rfl ?_
              refine AL_o rfl rfl rfl rfl ?_
              refine AL_o rfl rfl rfl rfl ?_
              refine AL_p (x_pickT rfl rfl rfl) ?_
              refine AL_p (x_move rfl rfl) ?_
              refine AL_o rfl rfl rfl rfl ?_
              refine AL_o rfl rfl rfl rfl ?_
              refine AL_o rfl rfl rfl rfl ?_
              refine AL_p (x_pickT rfl rfl rfl) ?_
              refine AL_nil ?_
              refine AW_condT rfl ?_
              refine AW_seq ?_
              refine AW_region ?_
              refine AL_p (x_assign rfl rfl) ?_
              refine AL_nil ?_
              refine AW_ret (BQ_ret (BQ_ret ?_))
              exact ⟨rn [], ⟨⟨⟨_, rfl, vle_bool (by first | exact (actsB_bad (k := k) (by omega) (by unfold actB; first | (rw [decide_eq_true_eq]; omega) | (rw [decide_eq_false_iff_not]; omega))).symm | exact (actsB_good hA (by omega) (by omega)).symm | exact (actsB_len (by omega)).symm)⟩, trivial⟩, trivial, trivial, rfl⟩⟩
      · try simp only [decide_eq_true_eq, decide_eq_false_iff_not, Bool.not_eq_true, Bool.not_eq_false, Bool.not_eq_true', Bool.not_eq_false', beq_iff_eq, bne_iff_ne, beq_eq_false_iff_ne, bne_eq_false_iff_eq, Int.not_lt, Int.not_le, ge_iff_le, gt_iff_lt] at h17
        refine AL_o rfl rfl rfl rfl ?_
        refine AL_o rfl rfl rfl rfl ?_
        refine AL_o rfl rfl rfl rfl ?_
        refine AL_p (x_pickF rfl rfl rfl) ?_
        refine AL_p (x_assign rfl rfl) ?_
        refine AL_nil ?_
        refine AW_seq ?_
        refine AW_seq ?_
        refine AW_region ?_
        refine AL_p (x_field (off := 0) (o' := 0) rfl rfl rfl (by kernel_rfl) rfl) ?_
        refine AL_p (x_load1 rfl rfl rfl (by kernel_rfl) rfl) ?_
        refine AL_b (x_eql rfl rfl rfl) (fun b25 h25 => ?_)
        refine AL_nil ?_
        cases b25
        rotate_left
        · try simp only [decide_eq_true_eq, decide_eq_false_iff_not, Bool.not_eq_true, Bool.not_eq_false, Bool.not_eq_true', Bool.not_eq_false', beq_iff_eq, bne_iff_ne, beq_eq_false_iff_ne, bne_eq_false_iff_eq, Int.not_lt, Int.not_le, ge_iff_le, gt_iff_lt] at h25
          refine AW_condT rfl ?_
          refine AW_region ?_
          refine AL_p (x_field (off := 1) (o' := 1) rfl rfl rfl (by kernel_rfl) rfl) ?_
          refine AL_p (x_load1 rfl rfl rfl (by kernel_rfl) rfl) ?_
          refine AL_b (x_geq rfl rfl rfl) (fun b28 h28 => ?_)
          refine AL_p (x_move rfl rfl) ?_
          cases b28
          rotate_left
          · try simp only [decide_eq_true_eq, decide_eq_false_iff_not, Bool.not_eq_true, Bool.not_eq_false, Bool.not_eq_true', Bool.not_eq_false', beq_iff_eq, bne_iff_ne, beq_eq_false_iff_ne, bne_eq_false_iff_eq, Int.not_lt, Int.not_le, ge_iff_le, gt_iff_lt] at h28
            refine AL_g rfl rfl (x_field (off := 1) (o' := 1) rfl rfl rfl (by kernel_rfl) rfl) ?_
            refine AL_g rfl rfl (x_load1 rfl rfl rfl (by kernel_rfl) rfl) ?_
            refine AL_gb rfl rfl (x_leq rfl rfl rfl) (fun b32 h32 => ?_)
            refine AL_p (x_pickT rfl rfl rfl) ?_
            refine AL_p (x_move rfl rfl) ?_
            cases b32
            rotate_left
            · try simp only [decide_eq_true_eq, decide_eq_false_iff_not, Bool.not_eq_true, Bool.not_eq_false, Bool.not_eq_true', Bool.not_eq_false', beq_iff_eq, bne_iff_ne, beq_eq_false_iff_ne, bne_eq_false_iff_eq, Int.not_lt, Int.not_le, ge_iff_le, gt_iff_lt] at h32
              refine AL_g rfl rfl (x_field (off := 2) (o' := 2) rfl rfl rfl (by kernel_rfl) rfl) ?_
              refine AL_g rfl rfl (x_load1 rfl rfl rfl (by kernel_rfl) rfl) ?_
              refine AL_gb rfl rfl (x_eql rfl rfl rfl) (fun b37 h37 => ?_)
              refine AL_p (x_pickT rfl rfl rfl) ?_
              refine AL_p (x_assign rfl rfl) ?_
              refine AL_nil ?_
              refine AW_seq ?_
              refine AW_seq ?_
              refine AW_region ?_
              refine AL_p (x_field (off := 0) (o' := 0) rfl rfl rfl (by kernel_rfl) rfl) ?_
              refine AL_p (x_load1 rfl rfl rfl (by kernel_rfl) rfl) ?_
              refine AL_b (x_eql rfl rfl rfl) (fun b41 h41 => ?_)
              refine AL_nil ?_
              cases b41
              rotate_left
              · try simp only [decide_eq_true_eq, decide_eq_false_iff_not, Bool.not_eq_true, Bool.not_eq_false, Bool.not_eq_true', Bool.not_eq_false', beq_iff_eq, bne_iff_ne, beq_eq_false_iff_ne, bne_eq_false_iff_eq, Int.not_lt, Int.not_le, ge_iff_le, gt_iff_lt] at h41
                refine AW_condT rfl ?_
                refine AW_region ?_
                refine AL_p (x_field (off := 1) (o' := 1) rfl rfl rfl (by kernel_rfl) rfl) ?_
                refine AL_p (x_load1 rfl rfl rfl (by kernel_rfl) rfl) ?_
                refine AL_b (x_eql rfl rfl rfl) (fun b44 h44 => ?_)
                refine AL_p (x_move rfl rfl) ?_
                cases b44
                rotate_left
                · try simp only [decide_eq_true_eq, decide_eq_false_iff_not, Bool.not_eq_true, Bool.not_eq_false, Bool.not_eq_true', Bool.not_eq_false', beq_iff_eq, bne_iff_ne, beq_eq_false_iff_ne, bne_eq_false_iff_eq, Int.not_lt, Int.not_le, ge_iff_le, gt_iff_lt] at h44
                  refine AL_o rfl rfl rfl rfl ?_
                  refine AL_o rfl rfl rfl rfl ?_
                  refine AL_o rfl rfl rfl rfl ?_
                  refine AL_p (x_pickT rfl rfl rfl) ?_
                  refine AL_p (x_move rfl rfl) ?_
                  refine AL_g rfl rfl (x_field (off := 2) (o' := 2) rfl rfl rfl (by kernel_rfl) rfl) ?_
                  refine AL_g rfl rfl (x_load1 rfl rfl rfl (by kernel_rfl) rfl) ?_
                  refine AL_gb rfl rfl (x_call0 rfl rfl rfl (numS_c _) rfl rfl) (fun b53 h53 => ?_)
                  refine AL_p (x_pickT rfl rfl rfl) ?_
                  refine AL_p (x_assign rfl rfl) ?_
                  refine AL_nil ?_
                  refine AW_seq ?_
                  refine AW_region ?_
                  refine AL_p (x_move rfl rfl) ?_
                  refine AL_p (x_not rfl rfl) ?_
                  refine AL_p (x_move rfl rfl) ?_
                  cases b53
                  rotate_left
                  · try simp only [decide_eq_true_eq, decide_eq_false_iff_not, Bool.not_eq_true, Bool.not_eq_false, Bool.not_eq_true', Bool.not_eq_false', beq_iff_eq, bne_iff_ne, beq_eq_false_iff_ne, bne_eq_false_iff_eq, Int.not_lt, Int.not_le, ge_iff_le, gt_iff_lt] at h53
                    refine AL_g rfl rfl (x_field (off := 0) (o' := 0) rfl rfl rfl (by kernel_rfl) rfl) ?_
                    refine AL_g rfl rfl (x_load1 rfl rfl rfl (by kernel_rfl) rfl) ?_
                    refine AL_gb rfl rfl (x_lss rfl rfl rfl) (fun b60 h60 => ?_)
                    refine AL_p (x_pickF rfl rfl rfl) ?_
                    refine AL_p (x_move rfl rfl) ?_
                    cases b60
                    rotate_left
                    · try simp only [decide_eq_true_eq, decide_eq_false_iff_not, Bool.not_eq_true, Bool.not_eq_false, Bool.not_eq_true', Bool.not_eq_false', beq_iff_eq, bne_iff_ne, beq_eq_false_iff_ne, bne_eq_false_iff_eq, Int.not_lt, Int.not_le, ge_iff_le, gt_iff_lt] at h60
                      refine AL_o rfl rfl rfl rfl ?_
                      refine AL_o rfl rfl rfl rfl ?_
                      refine AL_o rfl rfl rfl rfl ?_
                      refine AL_p (x_pickT rfl rfl rfl) ?_
                      refine AL_nil ?_
                      refine AW_condT rfl ?_
                      refine AW_seq ?_
                      refine AW_region ?_
                      refine AL_p (x_assign rfl rfl) ?_
                      refine AL_nil ?_
                      refine AW_ret (BQ_ret (BQ_ret ?_))
                      exact ⟨rn [], ⟨⟨⟨_, rfl, vle_bool (by first | exact (actsB_bad (k := k) (by omega) (by unfold actB; first | (rw [decide_eq_true_eq]; omega) | (rw [decide_eq_false_iff_not]; omega))).symm | exact (actsB_good hA (by omega) (by omega)).symm | exact (actsB_len (by omega)).symm)⟩, trivial⟩, trivial, trivial, rfl⟩⟩
                    · try simp only [decide_eq_true_eq, decide_eq_false_iff_not, Bool.not_eq_true, Bool.not_eq_false, Bool.not_eq_true', Bool.not_eq_false', beq_iff_eq, bne_iff_ne, beq_eq_false_iff_ne, bne_eq_false_iff_eq, Int.not_lt, Int.not_le, ge_iff_le, gt_iff_lt] at h60
                      refine AL_g rfl rfl (x_field (off := 0) (o' := 0) rfl rfl rfl (by kernel_rfl) rfl) ?_
                      refine AL_g rfl rfl (x_load1 rfl rfl rfl (by kernel_rfl) rfl) ?_
                      refine AL_gb rfl rfl (x_gtr rfl rfl rfl) (fun b65 h65 => ?_)
                      refine AL_p (x_pickF rfl rfl rfl) ?_
                      refine AL_nil ?_
                      cases b65
                      rotate_left
                      · try simp only [decide_eq_true_eq, decide_eq_false_iff_not, Bool.not_eq_true, Bool.not_eq_false, Bool.not_eq_true', Bool.not_eq_false', beq_iff_eq, bne_iff_ne, beq_eq_false_iff_ne, bne_eq_false_iff_eq, Int.not_lt, Int.not_le, ge_iff_le, gt_iff_lt] at h65
                        refine AW_condT rfl ?_
                        refine AW_seq ?_
                        refine AW_region ?_
                        refine AL_p (x_assign rfl rfl) ?_
                        refine AL_nil ?_
                        refine AW_ret (BQ_ret (BQ_ret ?_))
                        exact ⟨rn [], ⟨⟨⟨_, rfl, vle_bool (by first | exact (actsB_bad (k := k) (by omega) (by unfold actB; first | (rw [decide_eq_true_eq]; omega) | (rw [decide_eq_false_iff_not]; omega))).symm | exact (actsB_good hA (by omega) (by omega)).symm | exact (actsB_len (by omega)).symm)⟩, trivial⟩, trivial, trivial, rfl⟩⟩
                      · try simp only [decide_eq_true_eq, decide_eq_false_iff_not, Bool.not_eq_true, Bool.not_eq_false, Bool.not_eq_true', Bool.not_eq_false', beq_iff_eq, bne_iff_ne, beq_eq_false_iff_ne, bne_eq_false_iff_eq, Int.not_lt, Int.not_le, ge_iff_le, gt_iff_lt] at h65
                        refine AW_condF rfl ?_
                        refine AW_skip ?_
                        refine AW_region ?_
                        refine AL_p (x_add rfl rfl rfl (IntWalk.i64_in _ (by omega))) ?_
                        refine AL_p (x_move rfl rfl) ?_
                        refine AL_nil ?_
                        refine ⟨⟨k + 1, ⟨by omega, hA.succ (by omega) (by unfold actB; first | (rw [decide_eq_true_eq]; omega) | (rw [decide_eq_false_iff_not]; omega))⟩⟩, rn [], ?_, by dsimp only; omega⟩
                        exact ⟨by (repeat refine ⟨⟨_, rfl, by first | exact VLe.rf | exact vle_int (by dsimp only; omega)⟩, ?_⟩); exact trivial, by (repeat refine ⟨⟨_, rfl, by first | exact BLe.rf | exact BLe.box AllC.rf | exact BLe.arr (by exact rfl)⟩, ?_⟩); exact trivial, by repeat (first | exact trivial | refine ⟨⟨rfl, by first | (left; intro h; cases h) | (right; rfl), fun _ h => ⟨_, h⟩⟩, ?_⟩), rfl⟩
                  · try simp only [decide_eq_true_eq, decide_eq_false_iff_not, Bool.not_eq_true, Bool.not_eq_false, Bool.not_eq_true', Bool.not_eq_false', beq_iff_eq, bne_iff_ne, beq_eq_false_iff_ne, bne_eq_false_iff_eq, Int.not_lt, Int.not_le, ge_iff_le, gt_iff_lt] at h53
                    refine AL_o rfl rfl rfl rfl ?_
                    refine AL_o rfl rfl rfl rfl ?_
                    refine AL_o rfl rfl rfl rfl ?_
                    refine AL_p (x_pickT rfl rfl rfl) ?_
                    refine AL_p (x_move rfl rfl) ?_
                    refine AL_o rfl rfl rfl rfl ?_
                    refine AL_o rfl rfl rfl rfl ?_
                    refine AL_o rfl rfl rfl rfl ?_
                    refine AL_p (x_pickT rfl rfl rfl) ?_
                    refine AL_nil ?_
                    refine AW_condT rfl ?_
                    refine AW_seq ?_
                    refine AW_region ?_
                    refine AL_p (x_assign rfl rfl) ?_
                    refine AL_nil ?_
                    refine AW_ret (BQ_ret (BQ_ret ?_))
                    exact ⟨rn [], ⟨⟨⟨_, rfl, vle_bool (by first | exact (actsB_bad (k := k) (by omega) (by unfold actB; first | (rw [decide_eq_true_eq]; omega) | (rw [decide_eq_false_iff_not]; omega))).symm | exact (actsB_good hA (by omega) (by omega)).symm | exact (actsB_len (by omega)).symm)⟩, trivial⟩, trivial, trivial, rfl⟩⟩
                · try simp only [decide_eq_true_eq, decide_eq_false_iff_not, Bool.not_eq_true, Bool.not_eq_false, Bool.not_eq_true', Bool.not_eq_false', beq_iff_eq, bne_iff_ne, beq_eq_false_iff_ne, bne_eq_false_iff_eq, Int.not_lt, Int.not_le, ge_iff_le, gt_iff_lt] at h44
                  refine AL_g rfl rfl (x_field (off := 1) (o' := 1) rfl rfl rfl (by kernel_rfl) rfl) ?_
                  refine AL_g rfl rfl (x_load1 rfl rfl rfl (by kernel_rfl) rfl) ?_
                  refine AL_gb rfl rfl (x_eql rfl rfl rfl) (fun b48 h48 => ?_)
                  refine AL_p (x_pickF rfl rfl rfl) ?_
                  refine AL_p (x_move rfl rfl) ?_
                  cases b48
                  rotate_left
                  · try simp only [decide_eq_true_eq, decide_eq_false_iff_not, Bool.not_eq_true, Bool.not_eq_false, Bool.not_eq_true', Bool.not_eq_false', beq_iff_eq, bne_iff_ne, beq_eq_false_iff_ne, bne_eq_false_iff_eq, Int.not_lt, Int.not_le, ge_iff_le, gt_iff_lt] at h48
                    refine AL_g rfl rfl (x_field (off := 2) (o' := 2) rfl rfl rfl (by kernel_rfl) rfl) ?_
                    refine AL_g rfl rfl (x_load1 rfl rfl rfl (by kernel_rfl) rfl) ?_
                    refine AL_gb rfl rfl (x_call0 rfl rfl rfl (numS_c _) rfl rfl) (fun b53 h53 => ?_)
                    refine AL_p (x_pickT rfl rfl rfl) ?_
                    refine AL_p (x_assign rfl rfl) ?_
                    refine AL_nil ?_
                    refine AW_seq ?_
                    refine AW_region ?_
                    refine AL_p (x_move rfl rfl) ?_
                    refine AL_p (x_not rfl rfl) ?_
                    refine AL_p (x_move rfl rfl) ?_
                    cases b53
                    rotate_left
                    · try simp only [decide_eq_true_eq, decide_eq_false_iff_not, Bool.not_eq_true, Bool.not_eq_false, Bool.not_eq_true', Bool.not_eq_false', beq_iff_eq, bne_iff_ne, beq_eq_false_iff_ne, bne_eq_false_iff_eq, Int.not_lt, Int.not_le, ge_iff_le, gt_iff_lt] at h53
                      refine AL_g rfl rfl (x_field (off := 0) (o' := 0) rfl rfl rfl (by kernel_rfl) rfl) ?_
                      refine AL_g rfl rfl (x_load1 rfl rfl rfl (by kernel_rfl) rfl) ?_
                      refine AL_gb rfl rfl (x_lss rfl rfl rfl) (fun b60 h60 => ?_)
                      refine AL_p (x_pickF rfl rfl rfl) ?_
                      refine AL_p (x_move rfl rfl) ?_
                      cases b60
                      rotate_left
                      · try simp only [decide_eq_true_eq, decide_eq_false_iff_not, Bool.not_eq_true, Bool.not_eq_false, Bool.not_eq_true', Bool.not_eq_false', beq_iff_eq, bne_iff_ne, beq_eq_false_iff_ne, bne_eq_false_iff_eq, Int.not_lt, Int.not_le, ge_iff_le, gt_iff_lt] at h60
                        refine AL_o rfl rfl rfl rfl ?_
                        refine AL_o rfl rfl rfl rfl ?_
                        refine AL_o rfl rfl rfl rfl ?_
                        refine AL_p (x_pickT rfl rfl rfl) ?_
                        refine AL_nil ?_
                        refine AW_condT rfl ?_
                        refine AW_seq ?_
                        refine AW_region ?_
                        refine AL_p (x_assign rfl rfl) ?_
                        refine AL_nil ?_
                        refine AW_ret (BQ_ret (BQ_ret ?_))
                        exact ⟨rn [], ⟨⟨⟨_, rfl, vle_bool (by first | exact (actsB_bad (k := k) (by omega) (by unfold actB; first | (rw [decide_eq_true_eq]; omega) | (rw [decide_eq_false_iff_not]; omega))).symm | exact (actsB_good hA (by omega) (by omega)).symm | exact (actsB_len (by omega)).symm)⟩, trivial⟩, trivial, trivial, rfl⟩⟩
                      · try simp only [decide_eq_true_eq, decide_eq_false_iff_not, Bool.not_eq_true, Bool.not_eq_false, Bool.not_eq_true', Bool.not_eq_false', beq_iff_eq, bne_iff_ne, beq_eq_false_iff_ne, bne_eq_false_iff_eq, Int.not_lt, Int.not_le, ge_iff_le, gt_iff_lt] at h60
                        refine AL_g rfl rfl (x_field (off := 0) (o' := 0) rfl rfl rfl (by kernel_rfl) rfl) ?_
                        refine AL_g rfl rfl (x_load1 rfl rfl rfl (by kernel_rfl) rfl) ?_
                        refine AL_gb rfl rfl (x_gtr rfl rfl rfl) (fun b65 h65 => ?_)
                        refine AL_p (x_pickF rfl rfl rfl) ?_
                        refine AL_nil ?_
                        cases b65
                        rotate_left
                        · try simp only [decide_eq_true_eq, decide_eq_false_iff_not, Bool.not_eq_true, Bool.not_eq_false, Bool.not_eq_true', Bool.not_eq_false', beq_iff_eq, bne_iff_ne, beq_eq_false_iff_ne, bne_eq_false_iff_eq, Int.not_lt, Int.not_le, ge_iff_le, gt_iff_lt] at h65
                          refine AW_condT rfl ?_
                          refine AW_seq ?_
                          refine AW_region ?_
                          refine AL_p (x_assign rfl rfl) ?_
                          refine AL_nil ?_
                          refine AW_ret (BQ_ret (BQ_ret ?_))
                          exact ⟨rn [], ⟨⟨⟨_, rfl, vle_bool (by first | exact (actsB_bad (k := k) (by omega) (by unfold actB; first | (rw [decide_eq_true_eq]; omega) | (rw [decide_eq_false_iff_not]; omega))).symm | exact (actsB_good hA (by omega) (by omega)).symm | exact (actsB_len (by omega)).symm)⟩, trivial⟩, trivial, trivial, rfl⟩⟩
                        · try simp only [decide_eq_true_eq, decide_eq_false_iff_not, Bool.not_eq_true, Bool.not_eq_false, Bool.not_eq_true', Bool.not_eq_false', beq_iff_eq, bne_iff_ne, beq_eq_false_iff_ne, bne_eq_false_iff_eq, Int.not_lt, Int.not_le, ge_iff_le, gt_iff_lt] at h65
                          refine AW_condF rfl ?_
                          refine AW_skip ?_
                          refine AW_region ?_
                          refine AL_p (x_add rfl rfl rfl (IntWalk.i64_in _ (by omega))) ?_
                          refine AL_p (x_move rfl rfl) ?_
                          refine AL_nil ?_
                          refine ⟨⟨k + 1, ⟨by omega, hA.succ (by omega) (by unfold actB; first | (rw [decide_eq_true_eq]; omega) | (rw [decide_eq_false_iff_not]; omega))⟩⟩, rn [], ?_, by dsimp only; omega⟩
                          exact ⟨by (repeat refine ⟨⟨_, rfl, by first | exact VLe.rf | exact vle_int (by dsimp only; omega)⟩, ?_⟩); exact trivial, by (repeat refine ⟨⟨_, rfl, by first | exact BLe.rf | exact BLe.box AllC.rf | exact BLe.arr (by exact rfl)⟩, ?_⟩); exact trivial, by repeat (first | exact trivial | refine ⟨⟨rfl, by first | (left; intro h; cases h) | (right; rfl), fun _ h => ⟨_, h⟩⟩, ?_⟩), rfl⟩
                    · try simp only [decide_eq_true_eq, decide_eq_false_iff_not, Bool.not_eq_true, Bool.not_eq_false, Bool.not_eq_true', Bool.not_eq_false', beq_iff_eq, bne_iff_ne, beq_eq_false_iff_ne, bne_eq_false_iff_eq, Int.not_lt, Int.not_le, ge_iff_le, gt_iff_lt] at h53
                      refine AL_o rfl rfl rfl rfl ?_
                      refine AL_o rfl rfl rfl rfl ?_
                      refine AL_o rfl rfl rfl rfl ?_
                      refine AL_p (x_pickT rfl rfl rfl) ?_
                      refine AL_p (x_move rfl rfl) ?_
                      refine AL_o rfl rfl rfl rfl ?_
                      refine AL_o rfl rfl rfl rfl ?_
                      refine AL_o rfl rfl rfl rfl ?_
                      refine AL_p (x_pickT rfl rfl rfl) ?_
                      refine AL_nil ?_
                      refine AW_condT rfl ?_
                      refine AW_seq ?_
                      refine AW_region ?_
                      refine AL_p (x_assign rfl rfl) ?_
                      refine AL_nil ?_
                      refine AW_ret (BQ_ret (BQ_ret ?_))
                      exact ⟨rn [], ⟨⟨⟨_, rfl, vle_bool (by first | exact (actsB_bad (k := k) (by omega) (by unfold actB; first | (rw [decide_eq_true_eq]; omega) | (rw [decide_eq_false_iff_not]; omega))).symm | exact (actsB_good hA (by omega) (by omega)).symm | exact (actsB_len (by omega)).symm)⟩, trivial⟩, trivial, trivial, rfl⟩⟩
                  · try simp only [decide_eq_true_eq, decide_eq_false_iff_not, Bool.not_eq_true, Bool.not_eq_false, Bool.not_eq_true', Bool.not_eq_false', beq_iff_eq, bne_iff_ne, beq_eq_false_iff_ne, bne_eq_false_iff_eq, Int.not_lt, Int.not_le, ge_iff_le, gt_iff_lt] at h48
                    refine AL_o rfl rfl rfl rfl ?_
                    refine AL_o rfl rfl rfl rfl ?_
                    refine AL_o rfl rfl rfl rfl ?_
                    refine AL_p (x_pickF rfl rfl rfl) ?_
                    refine AL_p (x_assign rfl rfl) ?_
                    refine AL_nil ?_
                    refine AW_seq ?_
                    refine AW_region ?_
                    refine AL_p (x_move rfl rfl) ?_
                    refine AL_p (x_not rfl rfl) ?_
                    refine AL_p (x_move rfl rfl) ?_
                    refine AL_o rfl rfl rfl rfl ?_
                    refine AL_o rfl rfl rfl rfl ?_
                    refine AL_o rfl rfl rfl rfl ?_
                    refine AL_p (x_pickT rfl rfl rfl) ?_
                    refine AL_p (x_move rfl rfl) ?_
                    refine AL_o rfl rfl rfl rfl ?_
                    refine AL_o rfl rfl rfl rfl ?_
                    refine AL_o rfl rfl rfl rfl ?_
                    refine AL_p (x_pickT rfl rfl rfl) ?_
                    refine AL_nil ?_
                    refine AW_condT rfl ?_
                    refine AW_seq ?_
                    refine AW_region ?_
                    refine AL_p (x_assign rfl rfl) ?_
                    refine AL_nil ?_
                    refine AW_ret (BQ_ret (BQ_ret ?_))
                    exact ⟨rn [], ⟨⟨⟨_, rfl, vle_bool (by first | exact (actsB_bad (k := k) (by omega) (by unfold actB; first | (rw [decide_eq_true_eq]; omega) | (rw [decide_eq_false_iff_not]; omega))).symm | exact (actsB_good hA (by omega) (by omega)).symm | exact (actsB_len (by omega)).symm)⟩, trivial⟩, trivial, trivial, rfl⟩⟩
              · try simp only [decide_eq_true_eq, decide_eq_false_iff_not, Bool.not_eq_true, Bool.not_eq_false, Bool.not_eq_true', Bool.not_eq_false', beq_iff_eq, bne_iff_ne, beq_eq_false_iff_ne, bne_eq_false_iff_eq, Int.not_lt, Int.not_le, ge_iff_le, gt_iff_lt] at h41
                refine AW_condF rfl ?_
                refine AW_skip ?_
                refine AW_seq ?_
                refine AW_region ?_
                refine AL_p (x_move rfl rfl) ?_
                refine AL_p (x_not rfl rfl) ?_
                refine AL_p (x_move rfl rfl) ?_
                cases b37
                rotate_left
                · try simp only [decide_eq_true_eq, decide_eq_false_iff_not, Bool.not_eq_true, Bool.not_eq_false, Bool.not_eq_true', Bool.not_eq_false', beq_iff_eq, bne_iff_ne, beq_eq_false_iff_ne, bne_eq_false_iff_eq, Int.not_lt, Int.not_le, ge_iff_le, gt_iff_lt] at h37
                  refine AL_g rfl rfl (x_field (off := 0) (o' := 0) rfl rfl rfl (by kernel_rfl) rfl) ?_
                  refine AL_g rfl rfl (x_load1 rfl rfl rfl (by kernel_rfl) rfl) ?_
                  refine AL_gb rfl rfl (x_lss rfl rfl rfl) (fun b60 h60 => ?_)
                  refine AL_p (x_pickF rfl rfl rfl) ?_
                  refine AL_p (x_move rfl rfl) ?_
                  cases b60
                  rotate_left
                  · try simp only [decide_eq_true_eq, decide_eq_false_iff_not, Bool.not_eq_true, Bool.not_eq_false, Bool.not_eq_true', Bool.not_eq_false', beq_iff_eq, bne_iff_ne, beq_eq_false_iff_ne, bne_eq_false_iff_eq, Int.not_lt, Int.not_le, ge_iff_le, gt_iff_lt] at h60
                    refine AL_o rfl rfl rfl rfl ?_
                    refine AL_o rfl rfl rfl rfl ?_
                    refine AL_o rfl rfl rfl rfl ?_
                    refine AL_p (x_pickT rfl rfl rfl) ?_
                    refine AL_nil ?_
                    refine AW_condT rfl ?_
                    refine AW_seq ?_
                    refine AW_region ?_
                    refine AL_p (x_assign rfl rfl) ?_
                    refine AL_nil ?_
                    refine AW_ret (BQ_ret (BQ_ret ?_))
                    exact ⟨rn [], ⟨⟨⟨_, rfl, vle_bool (by first | exact (actsB_bad (k := k) (by omega) (by unfold actB; first | (rw [decide_eq_true_eq]; omega) | (rw [decide_eq_false_iff_not]; omega))).symm | exact (actsB_good hA (by omega) (by omega)).symm | exact (actsB_len (by omega)).symm)⟩, trivial⟩, trivial, trivial, rfl⟩⟩
                  · try simp only [decide_eq_true_eq, decide_eq_false_iff_not, Bool.not_eq_true, Bool.not_eq_false, Bool.not_eq_true', Bool.not_eq_false', beq_iff_eq, bne_iff_ne, beq_eq_false_iff_ne, bne_eq_false_iff_eq, Int.not_lt, Int.not_le, ge_iff_le, gt_iff_lt] at h60
                    refine AL_g rfl rfl (x_field (off := 0) (o' := 0) rfl rfl rfl (by kernel_rfl) rfl) ?_
                    refine AL_g rfl rfl (x_load1 rfl rfl rfl (by kernel_rfl) rfl) ?_
                    refine AL_gb rfl rfl (x_gtr rfl rfl rfl) (fun b65 h65 => ?_)
                    refine AL_p (x_pickF rfl rfl rfl) ?_
                    refine AL_nil ?_
                    cases b65
                    rotate_left
                    · try simp only [decide_eq_true_eq, decide_eq_false_iff_not, Bool.not_eq_true, Bool.not_eq_false, Bool.not_eq_true', Bool.not_eq_false', beq_iff_eq, bne_iff_ne, beq_eq_false_iff_ne, bne_eq_false_iff_eq, Int.not_lt, Int.not_le, ge_iff_le, gt_iff_lt] at h65
                      refine AW_condT rfl ?_
                      refine AW_seq ?_
                      refine AW_region ?_
                      refine AL_p (x_assign rfl rfl) ?_
                      refine AL_nil ?_
                      refine AW_ret (BQ_ret (BQ_ret ?_))
                      exact ⟨rn [], ⟨⟨⟨_, rfl, vle_bool (by first | exact (actsB_bad (k := k) (by omega) (by unfold actB; first | (rw [decide_eq_true_eq]; omega) | (rw [decide_eq_false_iff_not]; omega))).symm | exact (actsB_good hA (by omega) (by omega)).symm | exact (actsB_len (by omega)).symm)⟩, trivial⟩, trivial, trivial, rfl⟩⟩
                    · try simp only [decide_eq_true_eq, decide_eq_false_iff_not, Bool.not_eq_true, Bool.not_eq_false, Bool.not_eq_true', Bool.not_eq_false', beq_iff_eq, bne_iff_ne, beq_eq_false_iff_ne, bne_eq_false_iff_eq, Int.not_lt, Int.not_le, ge_iff_le, gt_iff_lt] at h65
                      refine AW_condF rfl ?_
                      refine AW_skip ?_
                      refine AW_region ?_
                      refine AL_p (x_add rfl rfl rfl (IntWalk.i64_in _ (by omega))) ?_
                      refine AL_p (x_move rfl rfl) ?_
                      refine AL_nil ?_
                      refine ⟨⟨k + 1, ⟨by omega, hA.succ (by omega) (by unfold actB; first | (rw [decide_eq_true_eq]; omega) | (rw [decide_eq_false_iff_not]; omega))⟩⟩, rn [], ?_, by dsimp only; omega⟩
                      exact ⟨by (repeat refine ⟨⟨_, rfl, by first | exact VLe.rf | exact vle_int (by dsimp only; omega)⟩, ?_⟩); exact trivial, by (repeat refine ⟨⟨_, rfl, by first | exact BLe.rf | exact BLe.box AllC.rf | exact BLe.arr (by exact rfl)⟩, ?_⟩); exact trivial, by repeat (first | exact trivial | refine ⟨⟨rfl, by first | (left; intro h; cases h) | (right; rfl), fun _ h => ⟨_, h⟩⟩, ?_⟩), rfl⟩
                · try simp only [decide_eq_true_eq, decide_eq_false_iff_not, Bool.not_eq_true, Bool.not_eq_false, Bool.not_eq_true', Bool.not_eq_false', beq_iff_eq, bne_iff_ne, beq_eq_false_iff_ne, bne_eq_false_iff_eq, Int.not_lt, Int.not_le, ge_iff_le, gt_iff_lt] at h37
                  refine AL_o rfl rfl rfl rfl ?_
                  refine AL_o rfl rfl rfl rfl ?_
                  refine AL_o rfl rfl rfl rfl ?_
                  refine AL_p (x_pickT rfl rfl rfl) ?_
                  refine AL_p (x_move rfl rfl) ?_
                  refine AL_o rfl rfl rfl rfl ?_
                  refine AL_o rfl rfl rfl rfl ?_
                  refine AL_o rfl rfl rfl rfl ?_
                  refine AL_p (x_pickT rfl rfl rfl) ?_
                  refine AL_nil ?_
                  refine AW_condT rfl ?_
                  refine AW_seq ?_
                  refine AW_region ?_
                  refine AL_p (x_assign rfl rfl) ?_
                  refine AL_nil ?_
                  refine AW_ret (BQ_ret (BQ_ret ?_))
                  exact ⟨rn [], ⟨⟨⟨_, rfl, vle_bool (by first | exact (actsB_bad (k := k) (by omega) (by unfold actB; first | (rw [decide_eq_true_eq]; omega) | (rw [decide_eq_false_iff_not]; omega))).symm | exact (actsB_good hA (by omega) (by omega)).symm | exact (actsB_len (by omega)).symm)⟩, trivial⟩, trivial, trivial, rfl⟩⟩
            · try simp only [decide_eq_true_eq, decide_eq_false_iff_not, Bool.not_eq_true, Bool.not_eq_false, Bool.not_eq_true', Bool.not_eq_false', beq_iff_eq, bne_iff_ne, beq_eq_false_iff_ne, bne_eq_false_iff_eq, Int.not_lt, Int.not_le, ge_iff_le, gt_iff_lt] at h32
              refine AL_o rfl rfl rfl rfl ?_
              refine AL_o rfl rfl rfl rfl ?_
              refine AL_o rfl rfl rfl rfl ?_
              refine AL_p (x_pickF rfl rfl rfl) ?_
              refine AL_p (x_assign rfl rfl) ?_
              refine AL_nil ?_
              refine AW_seq ?_
              refine AW_seq ?_
              refine AW_region ?_
              refine AL_p (x_field (off := 0) (o' := 0) rfl rfl rfl (by kernel_rfl) rfl) ?_
              refine AL_p (x_load1 rfl rfl rfl (by kernel_rfl) rfl) ?_
              refine AL_b (x_eql rfl rfl rfl) (fun b41 h41 => ?_)
              refine AL_nil ?_
              cases b41
              rotate_left
              · try simp only [decide_eq_true_eq, decide_eq_false_iff_not, Bool.not_eq_true, Bool.not_eq_false, Bool.not_eq_true', Bool.not_eq_false', beq_iff_eq, bne_iff_ne, beq_eq_false_iff_ne, bne_eq_false_iff_eq, Int.not_lt, Int.not_le, ge_iff_le, gt_iff_lt] at h41
                refine AW_condT rfl ?_
                refine AW_region ?_
                refine AL_p (x_field (off := 1) (o' := 1) rfl rfl rfl (by kernel_rfl) rfl) ?_
                refine AL_p (x_load1 rfl rfl rfl (by kernel_rfl) rfl) ?_
                refine AL_b (x_eql rfl rfl rfl) (fun b44 h44 => ?_)
                refine AL_p (x_move rfl rfl) ?_
                cases b44
                rotate_left
                · try simp only [decide_eq_true_eq, decide_eq_false_iff_not, Bool.not_eq_true, Bool.not_eq_false, Bool.not_eq_true', Bool.not_eq_false', beq_iff_eq, bne_iff_ne, beq_eq_false_iff_ne, bne_eq_false_iff_eq, Int.not_lt, Int.not_le, ge_iff_le, gt_iff_lt] at h44
                  refine AL_o rfl rfl rfl rfl ?_
                  refine AL_o rfl rfl rfl rfl ?_
                  refine AL_o rfl rfl rfl rfl ?_
                  refine AL_p (x_pickT rfl rfl rfl) ?_
                  refine AL_p (x_move rfl rfl) ?_
                  refine AL_g rfl rfl (x_field (off := 2) (o' := 2) rfl rfl rfl (by kernel_rfl) rfl) ?_
                  refine AL_g rfl rfl (x_load1 rfl rfl rfl (by kernel_rfl) rfl) ?_
                  refine AL_gb rfl rfl (x_call0 rfl rfl rfl (numS_c _) rfl rfl) (fun b53 h53 => ?_)
                  refine AL_p (x_pickT rfl rfl rfl) ?_
                  refine AL_p (x_assign rfl rfl) ?_
                  refine AL_nil ?_
                  refine AW_seq ?_
                  refine AW_region ?_
                  refine AL_p (x_move rfl rfl) ?_
                  refine AL_p (x_not rfl rfl) ?_
                  refine AL_p (x_move rfl rfl) ?_
                  cases b53
                  rotate_left
                  · try simp only [decide_eq_true_eq, decide_eq_false_iff_not, Bool.not_eq_true, Bool.not_eq_false, Bool.not_eq_true', Bool.not_eq_false', beq_iff_eq, bne_iff_ne, beq_eq_false_iff_ne, bne_eq_false_iff_eq, Int.not_lt, Int.not_le, ge_iff_le, gt_iff_lt] at h53
                    refine AL_g rfl rfl (x_field (off := 0) (o' := 0) rfl rfl rfl (by kernel_rfl) rfl) ?_
                    refine AL_g rfl rfl (x_load1 rfl rfl rfl (by kernel_rfl) rfl) ?_
                    refine AL_gb rfl rfl (x_lss rfl rfl rfl) (fun b60 h60 => ?_)
                    refine AL_p (x_pickF rfl rfl rfl) ?_
                    refine AL_p (x_move rfl rfl) ?_
                    cases b60
                    rotate_left
                    · try simp only [decide_eq_true_eq, decide_eq_false_iff_not, Bool.not_eq_true, Bool.not_eq_false, Bool.not_eq_true', Bool.not_eq_false', beq_iff_eq, bne_iff_ne, beq_eq_false_iff_ne, bne_eq_false_iff_eq, Int.not_lt, Int.not_le, ge_iff_le, gt_iff_lt] at h60
                      refine AL_o rfl rfl rfl rfl ?_
                      refine AL_o rfl rfl rfl rfl ?_
                      refine AL_o rfl rfl rfl rfl ?_
                      refine AL_p (x_pickT rfl rfl rfl) ?_
                      refine AL_nil ?_
                      refine AW_condT rfl ?_
                      refine AW_seq ?_
                      refine AW_region ?_
                      refine AL_p (x_assign rfl rfl) ?_
                      refine AL_nil ?_
                      refine AW_ret (BQ_ret (BQ_ret ?_))
                      exact ⟨rn [], ⟨⟨⟨_, rfl, vle_bool (by first | exact (actsB_bad (k := k) (by omega) (by unfold actB; first | (rw [decide_eq_true_eq]; omega) | (rw [decide_eq_false_iff_not]; omega))).symm | exact (actsB_good hA (by omega) (by omega)).symm | exact (actsB_len (by omega)).symm)⟩, trivial⟩, trivial, trivial, rfl⟩⟩
                    · try simp only [decide_eq_true_eq, decide_eq_false_iff_not, Bool.not_eq_true, Bool.not_eq_false, Bool.not_eq_true', Bool.not_eq_false', beq_iff_eq, bne_iff_ne, beq_eq_false_iff_ne, bne_eq_false_iff_eq, Int.not_lt, Int.not_le, ge_iff_le, gt_iff_lt] at h60
                      refine AL_g rfl rfl (x_field (off := 0) (o' := 0) rfl rfl rfl (by kernel_rfl) rfl) ?_
                      refine AL_g rfl rfl (x_load1 rfl rfl rfl (by kernel_rfl) rfl) ?_
                      refine AL_gb rfl rfl (x_gtr rfl rfl rfl) (fun b65 h65 => ?_)
                      refine AL_p (x_pickF rfl rfl rfl) ?_
                      refine AL_nil ?_
                      cases b65
                      rotate_left
                      · try simp only [decide_eq_true_eq, decide_eq_false_iff_not, Bool.not_eq_true, Bool.not_eq_false, Bool.not_eq_true', Bool.not_eq_false', beq_iff_eq, bne_iff_ne, beq_eq_false_iff_ne, bne_eq_false_iff_eq, Int.not_lt, Int.not_le, ge_iff_le, gt_iff_lt] at h65
                        refine AW_condT rfl ?_
                        refine AW_seq ?_
                        refine AW_region ?_
                        refine AL_p (x_assign rfl rfl) ?_
                        refine AL_nil ?_
                        refine AW_ret (BQ_ret (BQ_ret ?_))
                        exact ⟨rn [], ⟨⟨⟨_, rfl, vle_bool (by first | exact (actsB_bad (k := k) (by omega) (by unfold actB; first | (rw [decide_eq_true_eq]; omega) | (rw [decide_eq_false_iff_not]; omega))).symm | exact (actsB_good hA (by omega) (by omega)).symm | exact (actsB_len (by omega)).symm)⟩, trivial⟩, trivial, trivial, rfl⟩⟩
                      · try simp only [decide_eq_true_eq, decide_eq_false_iff_not, Bool.not_eq_true, Bool.not_eq_false, Bool.not_eq_true', Bool.not_eq_false', beq_iff_eq, bne_iff_ne, beq_eq_false_iff_ne, bne_eq_false_iff_eq, Int.not_lt, Int.not_le, ge_iff_le, gt_iff_lt] at h65
                        refine AW_condF rfl ?_
                        refine AW_skip ?_
                        refine AW_region ?_
                        refine AL_p (x_add rfl rfl rfl (IntWalk.i64_in _ (by omega))) ?_
                        refine AL_p (x_move rfl rfl) ?_
                        refine AL_nil ?_
                        refine ⟨⟨k + 1, ⟨by omega, hA.succ (by omega) (by unfold actB; first | (rw [decide_eq_true_eq]; omega) | (rw [decide_eq_false_iff_not]; omega))⟩⟩, rn [], ?_, by dsimp only; omega⟩
                        exact ⟨by (repeat refine ⟨⟨_, rfl, by first | exact VLe.rf | exact vle_int (by dsimp only; omega)⟩, ?_⟩); exact trivial, by (repeat refine ⟨⟨_, rfl, by first | exact BLe.rf | exact BLe.box AllC.rf | exact BLe.arr (by exact rfl)⟩, ?_⟩); exact trivial, by repeat (first | exact trivial | refine ⟨⟨rfl, by first | (left; intro h; cases h) | (right; rfl), fun _ h => ⟨_, h⟩⟩, ?_⟩), rfl⟩
                  · try simp only [decide_eq_true_eq, decide_eq_false_iff_not, Bool.not_eq_true, Bool.not_eq_false, Bool.not_eq_true', Bool.not_eq_false', beq_iff_eq, bne_iff_ne, beq_eq_false_iff_ne, bne_eq_false_iff_eq, Int.not_lt, Int.not_le, ge_iff_le, gt_iff_lt] at h53
                    refine AL_o rfl rfl rfl rfl ?_
                    refine AL_o rfl rfl rfl rfl ?_
                    refine AL_o rfl rfl rfl rfl ?_
                    refine AL_p (x_pickT rfl rfl rfl) ?_
                    refine AL_p (x_move rfl rfl) ?_
                    refine AL_o rfl rfl rfl rfl ?_
                    refine AL_o rfl rfl rfl rfl ?_
                    refine AL_o rfl rfl rfl rfl ?_
                    refine AL_p (x_pickT rfl rfl rfl) ?_
                    refine AL_nil ?_
                    refine AW_condT rfl ?_
                    refine AW_seq ?_
                    refine AW_region ?_
                    refine AL_p (x_assign rfl rfl) ?_
                    refine AL_nil ?_
                    refine AW_ret (BQ_ret (BQ_ret ?_))
                    exact ⟨rn [], ⟨⟨⟨_, rfl, vle_bool (by first | exact (actsB_bad (k := k) (by omega) (by unfold actB; first | (rw [decide_eq_true_eq]; omega) | (rw [decide_eq_false_iff_not]; omega))).symm | exact (actsB_good hA (by omega) (by omega)).symm | exact (actsB_len (by omega)).symm)⟩, trivial⟩, trivial, trivial, rfl⟩⟩
                · try simp only [decide_eq_true_eq, decide_eq_false_iff_not, Bool.not_eq_true, Bool.not_eq_false, Bool.not_eq_true', Bool.not_eq_false', beq_iff_eq, bne_iff_ne, beq_eq_false_iff_ne, bne_eq_false_iff_eq, Int.not_lt, Int.not_le, ge_iff_le, gt_iff_lt] at h44
                  refine AL_g rfl rfl (x_field (off := 1) (o' := 1) rfl rfl rfl (by kernel_rfl) rfl) ?_
                  refine AL_g rfl rfl (x_load1 rfl rfl rfl (by kernel_rfl) rfl) ?_
                  refine AL_gb rfl rfl (x_eql rfl rfl rfl) (fun b48 h48 => ?_)
                  refine AL_p (x_pickF rfl rfl rfl) ?_
                  refine AL_p (x_move rfl rfl) ?_
                  cases b48
                  rotate_left
                  · try simp only [decide_eq_true_eq, decide_eq_false_iff_not, Bool.not_eq_true, Bool.not_eq_false, Bool.not_eq_true', Bool.not_eq_false', beq_iff_eq, bne_iff_ne, beq_eq_false_iff_ne, bne_eq_false_iff_eq, Int.not_lt, Int.not_le, ge_iff_le, gt_iff_lt] at h48
                    refine AL_g rfl rfl (x_field (off := 2) (o' := 2) rfl rfl rfl (by kernel_rfl) rfl) ?_
                    refine AL_g rfl rfl (x_load1 rfl rfl rfl (by kernel_rfl) rfl) ?_
                    refine AL_gb rfl rfl (x_call0 rfl rfl rfl (numS_c _) rfl rfl) (fun b53 h53 => ?_)
                    refine AL_p (x_pickT rfl rfl rfl) ?_
                    refine AL_p (x_assign rfl rfl) ?_
                    refine AL_nil ?_
                    refine AW_seq ?_
                    refine AW_region ?_
                    refine AL_p (x_move rfl rfl) ?_
                    refine AL_p (x_not rfl rfl) ?_
                    refine AL_p (x_move rfl rfl) ?_
                    cases b53
                    rotate_left
                    · try simp only [decide_eq_true_eq, decide_eq_false_iff_not, Bool.not_eq_true, Bool.not_eq_false, Bool.not_eq_true', Bool.not_eq_false', beq_iff_eq, bne_iff_ne, beq_eq_false_iff_ne, bne_eq_false_iff_eq, Int.not_lt, Int.not_le, ge_iff_le, gt_iff_lt] at h53
                      refine AL_g rfl rfl (x_field (off := 0) (o' := 0) rfl rfl rfl (by kernel_rfl) rfl) ?_
                      refine AL_g rfl rfl (x_load1 rfl rfl rfl (by kernel_rfl) rfl) ?_
                      refine AL_gb rfl rfl (x_lss rfl rfl rfl) (fun b60 h60 => ?_)
                      refine AL_p (x_pickF rfl rfl rfl) ?_
                      refine AL_p (x_move rfl rfl) ?_
                      cases b60
                      rotate_left
                      · try simp only [decide_eq_true_eq, decide_eq_false_iff_not, Bool.not_eq_true, Bool.not_eq_false, Bool.not_eq_true', Bool.not_eq_false', beq_iff_eq, bne_iff_ne, beq_eq_false_iff_ne, bne_eq_false_iff_eq, Int.not_lt, Int.not_le, ge_iff_le, gt_iff_lt] at h60
                        refine AL_o rfl rfl rfl rfl ?_
                        refine AL_o rfl rfl rfl rfl ?_
                        refine AL_o rfl rfl rfl rfl ?_
                        refine AL_p (x_pickT rfl rfl rfl) ?_
                        refine AL_nil ?_
                        refine AW_condT rfl ?_
                        refine AW_seq ?_
                        refine AW_region ?_
                        refine AL_p (x_assign rfl rfl) ?_
                        refine AL_nil ?_
                        refine AW_ret (BQ_ret (BQ_ret ?_))
                        exact ⟨rn [], ⟨⟨⟨_, rfl, vle_bool (by first | exact (actsB_bad (k := k) (by omega) (by unfold actB; first | (rw [decide_eq_true_eq]; omega) | (rw [decide_eq_false_iff_not]; omega))).symm | exact (actsB_good hA (by omega) (by omega)).symm | exact (actsB_len (by omega)).symm)⟩, trivial⟩, trivial, trivial, rfl⟩⟩
                      · try simp only [decide_eq_true_eq, decide_eq_false_iff_not, Bool.not_eq_true, Bool.not_eq_false, Bool.not_eq_true', Bool.not_eq_false', beq_iff_eq, bne_iff_ne, beq_eq_false_iff_ne, bne_eq_false_iff_eq, Int.not_lt, Int.not_le, ge_iff_le, gt_iff_lt] at h60
                        refine AL_g rfl rfl (x_field (off := 0) (o' := 0) rfl rfl rfl (by kernel_rfl) rfl) ?_
                        refine AL_g rfl rfl (x_load1 rfl rfl rfl (by kernel_rfl) rfl) ?_
                        refine AL_gb rfl rfl (x_gtr rfl rfl rfl) (fun b65 h65 => ?_)
                        refine AL_p (x_pickF rfl rfl rfl) ?_
                        refine AL_nil ?_
                        cases b65
                        rotate_left
                        · try simp only [decide_eq_true_eq, decide_eq_false_iff_not, Bool.not_eq_true, Bool.not_eq_false, Bool.not_eq_true', Bool.not_eq_false', beq_iff_eq, bne_iff_ne, beq_eq_false_iff_ne, bne_eq_false_iff_eq, Int.not_lt, Int.not_le, ge_iff_le, gt_iff_lt] at h65
                          refine AW_condT rfl ?_
                          refine AW_seq ?_
                          refine AW_region ?_
                          refine AL_p (x_assign rfl rfl) ?_
                          refine AL_nil ?_
                          refine AW_ret (BQ_ret (BQ_ret ?_))
                          exact ⟨rn [], ⟨⟨⟨_, rfl, vle_bool (by first | exact (actsB_bad (k := k) (by omega) (by unfold actB; first | (rw [decide_eq_true_eq]; omega) | (rw [decide_eq_false_iff_not]; omega))).symm | exact (actsB_good hA (by omega) (by omega)).symm | exact (actsB_len (by omega)).symm)⟩, trivial⟩, trivial, trivial, rfl⟩⟩
                        · try simp only [decide_eq_true_eq, decide_eq_false_iff_not, Bool.not_eq_true, Bool.not_eq_false, Bool.not_eq_true', Bool.not_eq_false', beq_iff_eq, bne_iff_ne, beq_eq_false_iff_ne, bne_eq_false_iff_eq, Int.not_lt, Int.not_le, ge_iff_le, gt_iff_lt] at h65
                          refine AW_condF rfl ?_
                          refine AW_skip ?_
                          refine AW_region ?_
                          refine AL_p (x_add rfl rfl rfl (IntWalk.i64_in _ (by omega))) ?_
                          refine AL_p (x_move rfl rfl) ?_
                          refine AL_nil ?_
                          refine ⟨⟨k + 1, ⟨by omega, hA.succ (by omega) (by unfold actB; first | (rw [decide_eq_true_eq]; omega) | (rw [decide_eq_false_iff_not]; omega))⟩⟩, rn [], ?_, by dsimp only; omega⟩
                          exact ⟨by (repeat refine ⟨⟨_, rfl, by first | exact VLe.rf | exact vle_int (by dsimp only; omega)⟩, ?_⟩); exact trivial, by (repeat refine ⟨⟨_, rfl, by first | exact BLe.rf | exact BLe.box AllC.rf | exact BLe.arr (by exact rfl)⟩, ?_⟩); exact trivial, by repeat (first | exact trivial | refine ⟨⟨rfl, by first | (left; intro h; cases h) | (right; rfl), fun _ h => ⟨_, h⟩⟩, ?_⟩), rfl⟩
                    · try simp only [decide_eq_true_eq, decide_eq_false_iff_not, Bool.not_eq_true, Bool.not_eq_false, Bool.not_eq_true', Bool.not_eq_false', beq_iff_eq, bne_iff_ne, beq_eq_false_iff_ne, bne_eq_false_iff_eq, Int.not_lt, Int.not_le, ge_iff_le, gt_iff_lt] at h53
                      refine AL_o rfl rfl rfl rfl ?_
                      refine AL_o rfl rfl rfl rfl ?_
                      refine AL_o rfl rfl rfl rfl ?_
                      refine AL_p (x_pickT rfl rfl rfl) ?_
                      refine AL_p (x_move rfl rfl) ?_
                      refine AL_o rfl rfl rfl rfl ?_
                      refine AL_o rfl rfl rfl rfl ?_
                      refine AL_o rfl rfl rfl rfl ?_
                      refine AL_p (x_pickT rfl rfl rfl) ?_
                      refine AL_nil ?_
                      refine AW_condT rfl ?_
                      refine AW_seq ?_
                      refine AW_region ?_
                      refine AL_p (x_assign rfl rfl) ?_
                      refine AL_nil ?_
                      refine AW_ret (BQ_ret (BQ_ret ?_))
                      exact ⟨rn [], ⟨⟨⟨_, rfl, vle_bool (by first | exact (actsB_bad (k := k) (by omega) (by unfold actB; first | (rw [decide_eq_true_eq]; omega) | (rw [decide_eq_false_iff_not]; omega))).symm | exact (actsB_good hA (by omega) (by omega)).symm | exact (actsB_len (by omega)).symm)⟩, trivial⟩, trivial, trivial, rfl⟩⟩
                  · try simp only [decide_eq_true_eq, decide_eq_false_iff_not, Bool.not_eq_true, Bool.not_eq_false, Bool.not_eq_true', Bool.not_eq_false', beq_iff_eq, bne_iff_ne, beq_eq_false_iff_ne, bne_eq_false_iff_eq, Int.not_lt, Int.not_le, ge_iff_le, gt_iff_lt] at h48
                    refine AL_o rfl rfl rfl rfl ?_
                    refine AL_o rfl rfl rfl rfl ?_
                    refine AL_o rfl rfl rfl rfl ?_
                    refine AL_p (x_pickF rfl rfl rfl) ?_
                    refine AL_p (x_assign rfl rfl) ?_
                    refine AL_nil ?_
                    refine AW_seq ?_
                    refine AW_region ?_
                    refine AL_p (x_move rfl rfl) ?_
                    refine AL_p (x_not rfl rfl) ?_
                    refine AL_p (x_move rfl rfl) ?_
                    refine AL_o rfl rfl rfl rfl ?_
                    refine AL_o rfl rfl rfl rfl ?_
                    refine AL_o rfl rfl rfl rfl ?_
                    refine AL_p (x_pickT rfl rfl rfl) ?_
                    refine AL_p (x_move rfl rfl) ?_
                    refine AL_o rfl rfl rfl rfl ?_
                    refine AL_o rfl rfl rfl rfl ?_
                    refine AL_o rfl rfl rfl rfl ?_
                    refine AL_p (x_pickT rfl rfl rfl) ?_
                    refine AL_nil ?_
                    refine AW_condT rfl ?_
                    refine AW_seq ?_
                    refine AW_region ?_
                    refine AL_p (x_assign rfl rfl) ?_
                    refine AL_nil ?_
                    refine AW_ret (BQ_ret (BQ_ret ?_))
                    exact ⟨rn [], ⟨⟨⟨_, rfl, vle_bool (by first | exact (actsB_bad (k := k) (by omega) (by unfold actB; first | (rw [decide_eq_true_eq]; omega) | (rw [decide_eq_false_iff_not]; omega))).symm | exact (actsB_good hA (by omega) (by omega)).symm | exact (actsB_len (by omega)).symm)⟩, trivial⟩, trivial, trivial, rfl⟩⟩
              · try simp only [decide_eq_true_eq, decide_eq_false_iff_not, Bool.not_eq_true, Bool.not_eq_false, Bool.not_eq_true', Bool.not_eq_false', beq_iff_eq, bne_iff_ne, beq_eq_false_iff_ne, bne_eq_false_iff_eq, Int.not_lt, Int.not_le, ge_iff_le, gt_iff_lt] at h41
                refine AW_condF rfl ?_
                refine AW_skip ?_
                refine AW_seq ?_
                refine AW_region ?_
                refine AL_p (x_move rfl rfl) ?_
                refine AL_p (x_not rfl rfl) ?_
                refine AL_p (x_move rfl rfl) ?_
                refine AL_o rfl rfl rfl rfl ?_
                refine AL_o rfl rfl rfl rfl ?_
                refine AL_o rfl rfl rfl rfl ?_
                refine AL_p (x_pickT rfl rfl rfl) ?_
                refine AL_p (x_move rfl rfl) ?_
                refine AL_o rfl rfl rfl rfl ?_
                refine AL_o rfl rfl rfl rfl ?_
                refine AL_o rfl rfl rfl rfl ?_
                refine AL_p (x_pickT rfl rfl rfl) ?_
                refine AL_nil ?_
                refine AW_condT rfl ?_
                refine AW_seq ?_
                refine AW_region ?_
                refine AL_p (x_assign rfl rfl) ?_
                refine AL_nil ?_
                refine AW_ret (BQ_ret (BQ_ret ?_))
                exact ⟨rn [], ⟨⟨⟨_, rfl, vle_bool (by first | exact (actsB_bad (k := k) (by omega) (by unfold actB; first | (rw [decide_eq_true_eq]; omega) | (rw [decide_eq_false_iff_not]; omega))).symm | exact (actsB_good hA (by omega) (by omega)).symm | exact (actsB_len (by omega)).symm)⟩, trivial⟩, trivial, trivial, rfl⟩⟩
          · try simp only [decide_eq_true_eq, decide_eq_false_iff_not, Bool.not_eq_true, Bool.not_eq_false, Bool.not_eq_true', Bool.not_eq_false', beq_iff_eq, bne_iff_ne, beq_eq_false_iff_ne, bne_eq_false_iff_eq, Int.not_lt, Int.not_le, ge_iff_le, gt_iff_lt] at h28
            refine AL_o rfl rfl rfl rfl ?_
            refine AL_o rfl rfl rfl rfl ?_
            refine AL_o rfl rfl rfl rfl ?_
            refine AL_p (x_pickF rfl rfl rfl) ?_
            refine AL_p (x_move rfl rfl) ?_
            refine AL_o rfl rfl rfl rfl ?_
            refine AL_o rfl rfl rfl rfl ?_
            refine AL_o rfl rfl rfl rfl ?_
            refine AL_p (x_pickF rfl rfl rfl) ?_
            refine AL_p (x_assign rfl rfl) ?_
            refine AL_nil ?_
            refine AW_seq ?_
            refine AW_seq ?_
            refine AW_region ?_
            refine AL_p (x_field (off := 0) (o' := 0) rfl rfl rfl (by kernel_rfl) rfl) ?_
            refine AL_p (x_load1 rfl rfl rfl (by kernel_rfl) rfl) ?_
            refine AL_b (x_eql rfl rfl rfl) (fun b41 h41 => ?_)
            refine AL_nil ?_
            cases b41
            rotate_left
            · try simp only [decide_eq_true_eq, decide_eq_false_iff_not, Bool.not_eq_true, Bool.not_eq_false, Bool.not_eq_true', Bool.not_eq_false', beq_iff_eq, bne_iff_ne, beq_eq_false_iff_ne, bne_eq_false_iff_eq, Int.not_lt, Int.not_le, ge_iff_le, gt_iff_lt] at h41
              refine AW_condT rfl ?_
              refine AW_region ?_
              refine AL_p (x_field (off := 1) (o' := 1) rfl rfl rfl (by kernel_rfl) rfl) ?_
              refine AL_p (x_load1 rfl rfl rfl (by kernel_rfl) rfl) ?_
              refine AL_b (x_eql rfl rfl rfl) (fun b44 h44 => ?_)
              refine AL_p (x_move rfl rfl) ?_
              cases b44
              rotate_left
              · try simp only [decide_eq_true_eq, decide_eq_false_iff_not, Bool.not_eq_true, Bool.not_eq_false, Bool.not_eq_true', Bool.not_eq_false', beq_iff_eq, bne_iff_ne, beq_eq_false_iff_ne, bne_eq_false_iff_eq, Int.not_lt, Int.not_le, ge_iff_le, gt_iff_lt] at h44
                refine AL_o rfl rfl rfl rfl ?_
                refine AL_o rfl rfl rfl rfl ?_
                refine AL_o rfl rfl rfl rfl ?_
                refine AL_p (x_pickT rfl rfl rfl) ?_
                refine AL_p (x_move rfl rfl) ?_
                refine AL_g rfl rfl (x_field (off := 2) (o' := 2) rfl rfl rfl (by kernel_rfl) rfl) ?_
                refine AL_g rfl rfl (x_load1 rfl rfl rfl (by kernel_rfl) rfl) ?_
                refine AL_gb rfl rfl (x_call0 rfl rfl rfl (numS_c _) rfl rfl) (fun b53 h53 => ?_)
                refine AL_p (x_pickT rfl rfl rfl) ?_
                refine AL_p (x_assign rfl rfl) ?_
                refine AL_nil ?_
                refine AW_seq ?_
                refine AW_region ?_
                refine AL_p (x_move rfl rfl) ?_
                refine AL_p (x_not rfl rfl) ?_
                refine AL_p (x_move rfl rfl) ?_
                cases b53
                rotate_left
                · try simp only [decide_eq_true_eq, decide_eq_false_iff_not, Bool.not_eq_true, Bool.not_eq_false, Bool.not_eq_true', Bool.not_eq_false', beq_iff_eq, bne_iff_ne, beq_eq_false_iff_ne, bne_eq_false_iff_eq, Int.not_lt, Int.not_le, ge_iff_le, gt_iff_lt] at h53
                  refine AL_g rfl rfl (x_field (off := 0) (o' := 0) rfl rfl rfl (by kernel_rfl) rfl) ?_
                  refine AL_g rfl rfl (x_load1 rfl rfl rfl (by kernel_rfl) rfl) ?_
                  refine AL_gb rfl rfl (x_lss rfl rfl rfl) (fun b60 h60 => ?_)
                  refine AL_p (x_pickF rfl rfl rfl) ?_
                  refine AL_p (x_move rfl rfl) ?_
                  cases b60
                  rotate_left
                  · try simp only [decide_eq_true_eq, decide_eq_false_iff_not, Bool.not_eq_true, Bool.not_eq_false, Bool.not_eq_true', Bool.not_eq_false', beq_iff_eq, bne_iff_ne, beq_eq_false_iff_ne, bne_eq_false_iff_eq, Int.not_lt, Int.not_le, ge_iff_le, gt_iff_lt] at h60
                    refine AL_o rfl rfl rfl rfl ?_
                    refine AL_o rfl rfl rfl rfl ?_
                    refine AL_o rfl rfl rfl rfl ?_
                    refine AL_p (x_pickT rfl rfl rfl) ?_
                    refine AL_nil ?_
                    refine AW_condT rfl ?_
                    refine AW_seq ?_
                    refine AW_region ?_
                    refine AL_p (x_assign rfl rfl) ?_
                    refine AL_nil ?_
                    refine AW_ret (BQ_ret (BQ_ret ?_))
                    exact ⟨rn [], ⟨⟨⟨_, rfl, vle_bool (by first | exact (actsB_bad (k := k) (by omega) (by unfold actB; first | (rw [decide_eq_true_eq]; omega) | (rw [decide_eq_false_iff_not]; omega))).symm | exact (actsB_good hA (by omega) (by omega)).symm | exact (actsB_len (by omega)).symm)⟩, trivial⟩, trivial, trivial, rfl⟩⟩
                  · try simp only [decide_eq_true_eq, decide_eq_false_iff_not, Bool.not_eq_true, Bool.not_eq_false, Bool.not_eq_true', Bool.not_eq_false', beq_iff_eq, bne_iff_ne, beq_eq_false_iff_ne, bne_eq_false_iff_eq, Int.not_lt, Int.not_le, ge_iff_le, gt_iff_lt] at h60
                    refine AL_g rfl rfl (x_field (off := 0) (o' := 0) rfl rfl rfl (by kernel_rfl) rfl) ?_
                    refine AL_g rfl rfl (x_load1 rfl rfl rfl (by kernel_rfl) rfl) ?_
                    refine AL_gb rfl rfl (x_gtr rfl rfl rfl) (fun b65 h65 => ?_)
                    refine AL_p (x_pickF rfl rfl rfl) ?_
                    refine AL_nil ?_
                    cases b65
                    rotate_left
                    · try simp only [decide_eq_true_eq, decide_eq_false_iff_not, Bool.not_eq_true, Bool.not_eq_false, Bool.not_eq_true', Bool.not_eq_false', beq_iff_eq, bne_iff_ne, beq_eq_false_iff_ne, bne_eq_false_iff_eq, Int.not_lt, Int.not_le, ge_iff_le, gt_iff_lt] at h65
                      refine AW_condT rfl ?_
                      refine AW_seq ?_
                      refine AW_region ?_
                      refine AL_p (x_assign rfl rfl) ?_
                      refine AL_nil ?_
                      refine AW_ret (BQ_ret (BQ_ret ?_))
                      exact ⟨rn [], ⟨⟨⟨_, rfl, vle_bool (by first | exact (actsB_bad (k := k) (by omega) (by unfold actB; first | (rw [decide_eq_true_eq]; omega) | (rw [decide_eq_false_iff_not]; omega))).symm | exact (actsB_good hA (by omega) (by omega)).symm | exact (actsB_len (by omega)).symm)⟩, trivial⟩, trivial, trivial, rfl⟩⟩
                    · try simp only [decide_eq_true_eq, decide_eq_false_iff_not, Bool.not_eq_true, Bool.not_eq_false, Bool.not_eq_true', Bool.not_eq_false', beq_iff_eq, bne_iff_ne, beq_eq_false_iff_ne, bne_eq_false_iff_eq, Int.not_lt, Int.not_le, ge_iff_le, gt_iff_lt] at h65
                      refine AW_condF rfl ?_
                      refine AW_skip ?_
                      refine AW_region ?_
                      refine AL_p (x_add rfl rfl rfl (IntWalk.i64_in _ (by omega))) ?_
                      refine AL_p (x_move rfl rfl) ?_
                      refine AL_nil ?_
                      refine ⟨⟨k + 1, ⟨by omega, hA.succ (by omega) (by unfold actB; first | (rw [decide_eq_true_eq]; omega) | (rw [decide_eq_false_iff_not]; omega))⟩⟩, rn [], ?_, by dsimp only; omega⟩
                      exact ⟨by (repeat refine ⟨⟨_, rfl, by first | exact VLe.rf | exact vle_int (by dsimp only; omega)⟩, ?_⟩); exact trivial, by (repeat refine ⟨⟨_, rfl, by first | exact BLe.rf | exact BLe.box AllC.rf | exact BLe.arr (by exact rfl)⟩, ?_⟩); exact trivial, by repeat (first | exact trivial | refine ⟨⟨rfl, by first | (left; intro h; cases h) | (right; rfl), fun _ h => ⟨_, h⟩⟩, ?_⟩), rfl⟩
                · try simp only [decide_eq_true_eq, decide_eq_false_iff_not, Bool.not_eq_true, Bool.not_eq_false, Bool.not_eq_true', Bool.not_eq_false', beq_iff_eq, bne_iff_ne, beq_eq_false_iff_ne, bne_eq_false_iff_eq, Int.not_lt, Int.not_le, ge_iff_le, gt_iff_lt] at h53
                  refine AL_o rfl rfl rfl rfl ?_
                  refine AL_o rfl rfl rfl rfl ?_
                  refine AL_o rfl rfl rfl rfl ?_
                  refine AL_p (x_pickT rfl rfl rfl) ?_
                  refine AL_p (x_move rfl rfl) ?_
                  refine AL_o rfl rfl rfl rfl ?_
                  refine AL_o rfl rfl rfl rfl ?_
                  refine AL_o rfl rfl rfl rfl ?_
                  refine AL_p (x_pickT rfl rfl rfl) ?_
                  refine AL_nil ?_
                  refine AW_condT rfl ?_
                  refine AW_seq ?_
                  refine AW_region ?_
                  refine AL_p (x_assign rfl rfl) ?_
                  refine AL_nil ?_
                  refine AW_ret (BQ_ret (BQ_ret ?_))
                  exact ⟨rn [], ⟨⟨⟨_, rfl, vle_bool (by first | exact (actsB_bad (k := k) (by omega) (by unfold actB; first | (rw [decide_eq_true_eq]; omega) | (rw [decide_eq_false_iff_not]; omega))).symm | exact (actsB_good hA (by omega) (by omega)).symm | exact (actsB_len (by omega)).symm)⟩, trivial⟩, trivial, trivial, rfl⟩⟩
              · try simp only [decide_eq_true_eq, decide_eq_false_iff_not, Bool.not_eq_true, Bool.not_eq_false, Bool.not_eq_true', Bool.not_eq_false', beq_iff_eq, bne_iff_ne, beq_eq_false_iff_ne, bne_eq_false_iff_eq, Int.not_lt, Int.not_le, ge_iff_le, gt_iff_lt] at h44
                refine AL_g rfl rfl (x_field (off := 1) (o' := 1) rfl rfl rfl (by kernel_rfl) rfl) ?_
                refine AL_g rfl rfl (x_load1 rfl rfl rfl (by kernel_rfl) rfl) ?_
                refine AL_gb rfl rfl (x_eql rfl rfl rfl) (fun b48 h48 => ?_)
                refine AL_p (x_pickF rfl rfl rfl) ?_
                refine AL_p (x_move rfl rfl) ?_
                cases b48
                rotate_left
                · try simp only [decide_eq_true_eq, decide_eq_false_iff_not, Bool.not_eq_true, Bool.not_eq_false, Bool.not_eq_true', Bool.not_eq_false', beq_iff_eq, bne_iff_ne, beq_eq_false_iff_ne, bne_eq_false_iff_eq, Int.not_lt, Int.not_le, ge_iff_le, gt_iff_lt] at h48
                  refine AL_g rfl rfl (x_field (off := 2) (o' := 2) rfl rfl rfl (by kernel_rfl) rfl) ?_
                  refine AL_g rfl rfl (x_load1 rfl rfl rfl (by kernel_rfl) rfl) ?_
                  refine AL_gb rfl rfl (x_call0 rfl rfl rfl (numS_c _) rfl rfl) (fun b53 h53 => ?_)
                  refine AL_p (x_pickT rfl rfl rfl) ?_
                  refine AL_p (x_assign rfl rfl) ?_
                  refine AL_nil ?_
                  refine AW_seq ?_
                  refine AW_region ?_
                  refine AL_p (x_move rfl rfl) ?_
                  refine AL_p (x_not rfl rfl) ?_
                  refine AL_p (x_move rfl rfl) ?_
                  cases b53
                  rotate_left
                  · try simp only [decide_eq_true_eq, decide_eq_false_iff_not, Bool.not_eq_true, Bool.not_eq_false, Bool.not_eq_true', Bool.not_eq_false', beq_iff_eq, bne_iff_ne, beq_eq_false_iff_ne, bne_eq_false_iff_eq, Int.not_lt, Int.not_le, ge_iff_le, gt_iff_lt] at h53
                    refine AL_g rfl rfl (x_field (off := 0) (o' := 0) rfl rfl rfl (by kernel_rfl) rfl) ?_
                    refine AL_g rfl rfl (x_load1 rfl rfl rfl (by kernel_rfl) rfl) ?_
                    refine AL_gb rfl rfl (x_lss rfl rfl rfl) (fun b60 h60 => ?_)
                    refine AL_p (x_pickF rfl rfl rfl) ?_
                    refine AL_p (x_move rfl rfl) ?_
                    cases b60
                    rotate_left
                    · try simp only [decide_eq_true_eq, decide_eq_false_iff_not, Bool.not_eq_true, Bool.not_eq_false, Bool.not_eq_true', Bool.not_eq_false', beq_iff_eq, bne_iff_ne, beq_eq_false_iff_ne, bne_eq_false_iff_eq, Int.not_lt, Int.not_le, ge_iff_le, gt_iff_lt] at h60
                      refine AL_o rfl rfl rfl rfl ?_
                      refine AL_o rfl rfl rfl rfl ?_
                      refine AL_o rfl rfl rfl rfl ?_
                      refine AL_p (x_pickT rfl rfl rfl) ?_
                      refine AL_nil ?_
                      refine AW_condT rfl ?_
                      refine AW_seq ?_
                      refine AW_region ?_
                      refine AL_p (x_assign rfl rfl) ?_
                      refine AL_nil ?_
                      refine AW_ret (BQ_ret (BQ_ret ?_))
                      exact ⟨rn [], ⟨⟨⟨_, rfl, vle_bool (by first | exact (actsB_bad (k := k) (by omega) (by unfold actB; first | (rw [decide_eq_true_eq]; omega) | (rw [decide_eq_false_iff_not]; omega))).symm | exact (actsB_good hA (by omega) (by omega)).symm | exact (actsB_len (by omega)).symm)⟩, trivial⟩, trivial, trivial, rfl⟩⟩
                    · try simp only [decide_eq_true_eq, decide_eq_false_iff_not, Bool.not_eq_true, Bool.not_eq_false, Bool.not_eq_true', Bool.not_eq_false', beq_iff_eq, bne_iff_ne, beq_eq_false_iff_ne, bne_eq_false_iff_eq, Int.not_lt, Int.not_le, ge_iff_le, gt_iff_lt] at h60
                      refine AL_g rfl rfl (x_field (off := 0) (o' := 0) rfl rfl rfl (by kernel_rfl) rfl) ?_
                      refine AL_g rfl rfl (x_load1 rfl rfl rfl (by kernel_rfl) rfl) ?_
                      refine AL_gb rfl rfl (x_gtr rfl rfl rfl) (fun b65 h65 => ?_)
                      refine AL_p (x_pickF rfl rfl rfl) ?_
                      refine AL_nil ?_
                      cases b65
                      rotate_left
                      · try simp only [decide_eq_true_eq, decide_eq_false_iff_not, Bool.not_eq_true, Bool.not_eq_false, Bool.not_eq_true', Bool.not_eq_false', beq_iff_eq, bne_iff_ne, beq_eq_false_iff_ne, bne_eq_false_iff_eq, Int.not_lt, Int.not_le, ge_iff_le, gt_iff_lt] at h65
                        refine AW_condT rfl ?_
                        refine AW_seq ?_
                        refine AW_region ?_
                        refine AL_p (x_assign rfl rfl) ?_
                        refine AL_nil ?_
                        refine AW_ret (BQ_ret (BQ_ret ?_))
                        exact ⟨rn [], ⟨⟨⟨_, rfl, vle_bool (by first | exact (actsB_bad (k := k) (by omega) (by unfold actB; first | (rw [decide_eq_true_eq]; omega) | (rw [decide_eq_false_iff_not]; omega))).symm | exact (actsB_good hA (by omega) (by omega)).symm | exact (actsB_len (by omega)).symm)⟩, trivial⟩, trivial, trivial, rfl⟩⟩
                      · try simp only [decide_eq_true_eq, decide_eq_false_iff_not, Bool.not_eq_true, Bool.not_eq_false, Bool.not_eq_true', Bool.not_eq_false', beq_iff_eq, bne_iff_ne, beq_eq_false_iff_ne, bne_eq_false_iff_eq, Int.not_lt, Int.not_le, ge_iff_le, gt_iff_lt] at h65
                        refine AW_condF rfl ?_
                        refine AW_skip ?_
                        refine AW_region ?_
                        refine AL_p (x_add rfl rfl rfl (IntWalk.i64_in _ (by omega))) ?_
                        refine AL_p (x_move rfl rfl) ?_
                        refine AL_nil ?_
                        refine ⟨⟨k + 1, ⟨by omega, hA.succ (by omega) (by unfold actB; first | (rw [decide_eq_true_eq]; omega) | (rw [decide_eq_false_iff_not]; omega))⟩⟩, rn [], ?_, by dsimp only; omega⟩
                        exact ⟨by (repeat refine ⟨⟨_, rfl, by first | exact VLe.rf | exact vle_int (by dsimp only; omega)⟩, ?_⟩); exact trivial, by (repeat refine ⟨⟨_, rfl, by first | exact BLe.rf | exact BLe.box AllC.rf | exact BLe.arr (by exact rfl)⟩, ?_⟩); exact trivial, by repeat (first | exact trivial | refine ⟨⟨rfl, by first | (left; intro h; cases h) | (right; rfl), fun _ h => ⟨_, h⟩⟩, ?_⟩), rfl⟩
                  · try simp only [decide_eq_true_eq, decide_eq_false_iff_not, Bool.not_eq_true, Bool.not_eq_false, Bool.not_eq_true', Bool.not_eq_false', beq_iff_eq, bne_iff_ne, beq_eq_false_iff_ne, bne_eq_false_iff_eq, Int.not_lt, Int.not_le, ge_iff_le, gt_iff_lt] at h53
                    refine AL_o rfl rfl rfl rfl ?_
                    refine AL_o rfl rfl rfl rfl ?_
                    refine AL_o rfl rfl rfl rfl ?_
                    refine AL_p (x_pickT rfl rfl rfl) ?_
                    refine AL_p (x_move rfl rfl) ?_
                    refine AL_o rfl rfl rfl rfl ?_
                    refine AL_o rfl rfl rfl rfl ?_
                    refine AL_o rfl rfl rfl rfl ?_
                    refine AL_p (x_pickT rfl rfl rfl) ?_
                    refine AL_nil ?_
                    refine AW_condT rfl ?_
                    refine AW_seq ?_
                    refine AW_region ?_
                    refine AL_p (x_assign rfl rfl) ?_
                    refine AL_nil ?_
                    refine AW_ret (BQ_ret (BQ_ret ?_))
                    exact ⟨rn [], ⟨⟨⟨_, rfl, vle_bool (by first | exact (actsB_bad (k := k) (by omega) (by unfold actB; first | (rw [decide_eq_true_eq]; omega) | (rw [decide_eq_false_iff_not]; omega))).symm | exact (actsB_good hA (by omega) (by omega)).symm | exact (actsB_len (by omega)).symm)⟩, trivial⟩, trivial, trivial, rfl⟩⟩
                · try simp only [decide_eq_true_eq, decide_eq_false_iff_not, Bool.not_eq_true, Bool.not_eq_false, Bool.not_eq_true', Bool.not_eq_false', beq_iff_eq, bne_iff_ne, beq_eq_false_iff_ne, bne_eq_false_iff_eq, Int.not_lt, Int.not_le, ge_iff_le, gt_iff_lt] at h48
                  refine AL_o rfl rfl rfl rfl ?_
                  refine AL_o rfl rfl rfl rfl ?_
                  refine AL_o rfl rfl rfl rfl ?_
                  refine AL_p (x_pickF rfl rfl rfl) ?_
                  refine AL_p (x_assign rfl rfl) ?_
                  refine AL_nil ?_
                  refine AW_seq ?_
                  refine AW_region ?_
                  refine AL_p (x_move rfl rfl) ?_
                  refine AL_p (x_not rfl rfl) ?_
                  refine AL_p (x_move rfl rfl) ?_
                  refine AL_o rfl rfl rfl rfl ?_
                  refine AL_o rfl rfl rfl rfl ?_
                  refine AL_o rfl rfl rfl rfl ?_
                  refine AL_p (x_pickT rfl rfl rfl) ?_
                  refine AL_p (x_move rfl rfl) ?_
                  refine AL_o rfl rfl rfl rfl ?_
                  refine AL_o rfl rfl rfl rfl ?_
                  refine AL_o rfl rfl rfl rfl ?_
                  refine AL_p (x_pickT rfl rfl rfl) ?_
                  refine AL_nil ?_
                  refine AW_condT rfl ?_
                  refine AW_seq ?_
                  refine AW_region ?_
                  refine AL_p (x_assign rfl rfl) ?_
                  refine AL_nil ?_
                  refine AW_ret (BQ_ret (BQ_ret ?_))
                  exact ⟨rn [], ⟨⟨⟨_, rfl, vle_bool (by first | exact (actsB_bad (k := k) (by omega) (by unfold actB; first | (rw [decide_eq_true_eq]; omega) | (rw [decide_eq_false_iff_not]; omega))).symm | exact (actsB_good hA (by omega) (by omega)).symm | exact (actsB_len (by omega)).symm)⟩, trivial⟩, trivial, trivial, rfl⟩⟩
            · try simp only [decide_eq_true_eq, decide_eq_false_iff_not, Bool.not_eq_true, Bool.not_eq_false, Bool.not_eq_true', Bool.not_eq_false', beq_iff_eq, bne_iff_ne, beq_eq_false_iff_ne, bne_eq_false_iff_eq, Int.not_lt, Int.not_le, ge_iff_le, gt_iff_lt] at h41
              refine AW_condF rfl ?_
              refine AW_skip ?_
              refine AW_seq ?_
              refine AW_region ?_
              refine AL_p (x_move rfl rfl) ?_
              refine AL_p (x_not rfl rfl) ?_
              refine AL_p (x_move rfl rfl) ?_
              refine AL_o rfl rfl rfl rfl ?_
              refine AL_o rfl rfl rfl rfl ?_
              refine AL_o rfl rfl rfl rfl ?_
              refine AL_p (x_pickT rfl rfl rfl) ?_
              refine AL_p (x_move rfl rfl) ?_
              refine AL_o rfl rfl rfl rfl ?_
              refine AL_o rfl rfl rfl rfl ?_
              refine AL_o rfl rfl rfl rfl ?_
              refine AL_p (x_pickT rfl rfl rfl) ?_
              refine AL_nil ?_
              refine AW_condT rfl ?_
              refine AW_seq ?_
              refine AW_region ?_
              refine AL_p (x_assign rfl rfl) ?_
              refine AL_nil ?_
              refine AW_ret (BQ_ret (BQ_ret ?_))
              exact ⟨rn [], ⟨⟨⟨_, rfl, vle_bool (by first | exact (actsB_bad (k := k) (by omega) (by unfold actB; first | (rw [decide_eq_true_eq]; omega) | (rw [decide_eq_false_iff_not]; omega))).symm | exact (actsB_good hA (by omega) (by omega)).symm | exact (actsB_len (by omega)).symm)⟩, trivial⟩, trivial, trivial, rfl⟩⟩
        · try simp only [decide_eq_true_eq, decide_eq_false_iff_not, Bool.not_eq_true, Bool.not_eq_false, Bool.not_eq_true', Bool.not_eq_false', beq_iff_eq, bne_iff_ne, beq_eq_false_iff_ne, bne_eq_false_iff_eq, Int.not_lt, Int.not_le, ge_iff_le, gt_iff_lt] at h25
          refine AW_condF rfl ?_
          refine AW_skip ?_
          refine AW_seq ?_
          refine AW_seq ?_
          refine AW_region ?_
          refine AL_p (x_field (off := 0) (o' := 0) rfl rfl rfl (by kernel_rfl) rfl) ?_
          refine AL_p (x_load1 rfl rfl rfl (by kernel_rfl) rfl) ?_
          refine AL_b (x_eql rfl rfl rfl) (fun b41 h41 => ?_)
          refine AL_nil ?_
          cases b41
          rotate_left
          · try simp only [decide_eq_true_eq, decide_eq_false_iff_not, Bool.not_eq_true, Bool.not_eq_false, Bool.not_eq_true', Bool.not_eq_false', beq_iff_eq, bne_iff_ne, beq_eq_false_iff_ne, bne_eq_false_iff_eq, Int.not_lt, Int.not_le, ge_iff_le, gt_iff_lt] at h41
            refine AW_condT rfl ?_
            refine AW_region ?_
            refine AL_p (x_field (off := 1) (o' := 1) rfl rfl rfl (by kernel_rfl) rfl) ?_
            refine AL_p (x_load1 rfl rfl rfl (by kernel_rfl) rfl) ?_
            refine AL_b (x_eql rfl rfl rfl) (fun b44 h44 => ?_)
            refine AL_p (x_move rfl rfl) ?_
            cases b44
            rotate_left
            · try simp only [decide_eq_true_eq, decide_eq_false_iff_not, Bool.not_eq_true, Bool.not_eq_false, Bool.not_eq_true', Bool.not_eq_false', beq_iff_eq, bne_iff_ne, beq_eq_false_iff_ne, bne_eq_false_iff_eq, Int.not_lt, Int.not_le, ge_iff_le, gt_iff_lt] at h44
              refine AL_o rfl rfl rfl rfl ?_
              refine AL_o rfl rfl rfl rfl ?_
              refine AL_o rfl rfl rfl rfl ?_
              refine AL_p (x_pickT rfl rfl rfl) ?_
              refine AL_p (x_move rfl rfl) ?_
              refine AL_g rfl rfl (x_field (off := 2) (o' := 2) rfl rfl rfl (by kernel_rfl) rfl) ?_
              refine AL_g rfl rfl (x_load1 rfl rfl rfl (by kernel_rfl) rfl) ?_
              refine AL_gb rfl rfl (x_call0 rfl rfl rfl (numS_c _) rfl rfl) (fun b53 h53 => ?_)
              refine AL_p (x_pickT rfl rfl rfl) ?_
              refine AL_p (x_assign rfl rfl) ?_
              refine AL_nil ?_
              refine AW_seq ?_
              refine AW_region ?_
              refine AL_p (x_move rfl rfl) ?_
              refine AL_p (x_not rfl rfl) ?_
              refine AL_p (x_move rfl rfl) ?_
              cases b53
              rotate_left
              · try simp only [decide_eq_true_eq, decide_eq_false_iff_not, Bool.not_eq_true, Bool.not_eq_false, Bool.not_eq_true', Bool.not_eq_false', beq_iff_eq, bne_iff_ne, beq_eq_false_iff_ne, bne_eq_false_iff_eq, Int.not_lt, Int.not_le, ge_iff_le, gt_iff_lt] at h53
                refine AL_g rfl rfl (x_field (off := 0) (o' := 0) rfl rfl rfl (by kernel_rfl) rfl) ?_
                refine AL_g rfl rfl (x_load1 rfl rfl rfl (by kernel_rfl) rfl) ?_
                refine AL_gb rfl rfl (x_lss rfl rfl rfl) (fun b60 h60 => ?_)
                refine AL_p (x_pickF rfl rfl rfl) ?_
                refine AL_p (x_move rfl rfl) ?_
                cases b60
                rotate_left
                · try simp only [decide_eq_true_eq, decide_eq_false_iff_not, Bool.not_eq_true, Bool.not_eq_false, Bool.not_eq_true', Bool.not_eq_false', beq_iff_eq, bne_iff_ne, beq_eq_false_iff_ne, bne_eq_false_iff_eq, Int.not_lt, Int.not_le, ge_iff_le, gt_iff_lt] at h60
                  refine AL_o rfl rfl rfl rfl ?_
                  refine AL_o rfl rfl rfl rfl ?_
                  refine AL_o rfl rfl rfl rfl ?_
                  refine AL_p (x_pickT rfl rfl rfl) ?_
                  refine AL_nil ?_
                  refine AW_condT rfl ?_
                  refine AW_seq ?_
                  refine AW_region ?_
                  refine AL_p (x_assign rfl rfl) ?_
                  refine AL_nil ?_
                  refine AW_ret (BQ_ret (BQ_ret ?_))
                  exact ⟨rn [], ⟨⟨⟨_, rfl, vle_bool (by first | exact (actsB_bad (k := k) (by omega) (by unfold actB; first | (rw [decide_eq_true_eq]; omega) | (rw [decide_eq_false_iff_not]; omega))).symm | exact (actsB_good hA (by omega) (by omega)).symm | exact (actsB_len (by omega)).symm)⟩, trivial⟩, trivial, trivial, rfl⟩⟩
                · try simp only [decide_eq_true_eq, decide_eq_false_iff_not, Bool.not_eq_true, Bool.not_eq_false, Bool.not_eq_true', Bool.not_eq_false', beq_iff_eq, bne_iff_ne, beq_eq_false_iff_ne, bne_eq_false_iff_eq, Int.not_lt, Int.not_le, ge_iff_le, gt_iff_lt] at h60
                  refine AL_g rfl rfl (x_field (off := 0) (o' := 0) rfl rfl rfl (by kernel_rfl) rfl) ?_
                  refine AL_g rfl rfl (x_load1 rfl rfl rfl (by kernel_rfl) rfl) ?_
                  refine AL_gb rfl rfl (x_gtr rfl rfl rfl) (fun b65 h65 => ?_)
                  refine AL_p (x_pickF rfl rfl rfl) ?_
                  refine AL_nil ?_
                  cases b65
                  rotate_left
                  · try simp only [decide_eq_true_eq, decide_eq_false_iff_not, Bool.not_eq_true, Bool.not_eq_false, Bool.not_eq_true', Bool.not_eq_false', beq_iff_eq, bne_iff_ne, beq_eq_false_iff_ne, bne_eq_false_iff_eq, Int.not_lt, Int.not_le, ge_iff_le, gt_iff_lt] at h65
                    refine AW_condT rfl ?_
                    refine AW_seq ?_
                    refine AW_region ?_
                    refine AL_p (x_assign rfl rfl) ?_
                    refine AL_nil ?_
                    refine AW_ret (BQ_ret (BQ_ret ?_))
                    exact ⟨rn [], ⟨⟨⟨_, rfl, vle_bool (by first | exact (actsB_bad (k := k) (by omega) (by unfold actB; first | (rw [decide_eq_true_eq]; omega) | (rw [decide_eq_false_iff_not]; omega))).symm | exact (actsB_good hA (by omega) (by omega)).symm | exact (actsB_len (by omega)).symm)⟩, trivial⟩, trivial, trivial, rfl⟩⟩
                  · try simp only [decide_eq_true_eq, decide_eq_false_iff_not, Bool.not_eq_true, Bool.not_eq_false, Bool.not_eq_true', Bool.not_eq_false', beq_iff_eq, bne_iff_ne, beq_eq_false_iff_ne, bne_eq_false_iff_eq, Int.not_lt, Int.not_le, ge_iff_le, gt_iff_lt] at h65
                    refine AW_condF rfl ?_
                    refine AW_skip ?_
                    refine AW_region ?_
                    refine AL_p (x_add rfl rfl rfl (IntWalk.i64_in _ (by omega))) ?_
                    refine AL_p (x_move rfl rfl) ?_
                    refine AL_nil ?_
                    refine ⟨⟨k + 1, ⟨by omega, hA.succ (by omega) (by unfold actB; first | (rw [decide_eq_true_eq]; omega) | (rw [decide_eq_false_iff_not]; omega))⟩⟩, rn [], ?_, by dsimp only; omega⟩
                    exact ⟨by (repeat refine ⟨⟨_, rfl, by first | exact VLe.rf | exact vle_int (by dsimp only; omega)⟩, ?_⟩); exact trivial, by (repeat refine ⟨⟨_, rfl, by first | exact BLe.rf | exact BLe.box AllC.rf | exact BLe.arr (by exact rfl)⟩, ?_⟩); exact trivial, by repeat (first | exact trivial | refine ⟨⟨rfl, by first | (left; intro h; cases h) | (right; rfl), fun _ h => ⟨_, h⟩⟩, ?_⟩), rfl⟩
              · try simp only [decide_eq_true_eq, decide_eq_false_iff_not, Bool.not_eq_true, Bool.not_eq_false, Bool.not_eq_true', Bool.not_eq_false', beq_iff_eq, bne_iff_ne, beq_eq_false_iff_ne, bne_eq_false_iff_eq, Int.not_lt, Int.not_le, ge_iff_le, gt_iff_lt] at h53
                refine AL_o rfl rfl rfl rfl ?_
                refine AL_o rfl rfl rfl rfl ?_
                refine AL_o rfl rfl rfl rfl ?_
                refine AL_p (x_pickT rfl rfl rfl) ?_
                refine AL_p (x_move rfl rfl) ?_
                refine AL_o rfl rfl rfl rfl ?_
                refine AL_o rfl rfl rfl rfl ?_
                refine AL_o rfl rfl rfl rfl ?_
                refine AL_p (x_pickT rfl rfl rfl) ?_
                refine AL_nil ?_
                refine AW_condT rfl ?_
                refine AW_seq ?_
                refine AW_region ?_
                refine AL_p (x_assign rfl rfl) ?_
                refine AL_nil ?_
                refine AW_ret (BQ_ret (BQ_ret ?_))
                exact ⟨rn [], ⟨⟨⟨_, rfl, vle_bool (by first | exact (actsB_bad (k := k) (by omega) (by unfold actB; first | (rw [decide_eq_true_eq]; omega) | (rw [decide_eq_false_iff_not]; omega))).symm | exact (actsB_good hA (by omega) (by omega)).symm | exact (actsB_len (by omega)).symm)⟩, trivial⟩, trivial, trivial, rfl⟩⟩
            · try simp only [decide_eq_true_eq, decide_eq_false_iff_not, Bool.not_eq_true, Bool.not_eq_false, Bool.not_eq_true', Bool.not_eq_false', beq_iff_eq, bne_iff_ne, beq_eq_false_iff_ne, bne_eq_false_iff_eq, Int.not_lt, Int.not_le, ge_iff_le, gt_iff_lt] at h44
              refine AL_g rfl rfl (x_field (off := 1) (o' := 1) rfl rfl rfl (by kernel_rfl) rfl) ?_
              refine AL_g rfl rfl (x_load1 rfl rfl rfl (by kernel_rfl) rfl) ?_
              refine AL_gb rfl rfl (x_eql rfl rfl rfl) (fun b48 h48 => ?_)
              refine AL_p (x_pickF rfl rfl rfl) ?_
              refine AL_p (x_move rfl rfl) ?_
              cases b48
              rotate_left
              · try simp only [decide_eq_true_eq, decide_eq_false_iff_not, Bool.not_eq_true, Bool.not_eq_false, Bool.not_eq_true', Bool.not_eq_false', beq_iff_eq, bne_iff_ne, beq_eq_false_iff_ne, bne_eq_false_iff_eq, Int.not_lt, Int.not_le, ge_iff_le, gt_iff_lt] at h48
                refine AL_g rfl rfl (x_field (off := 2) (o' := 2) rfl rfl rfl (by kernel_rfl) rfl) ?_
                refine AL_g rfl rfl (x_load1 rfl rfl rfl (by kernel_rfl) rfl) ?_
                refine AL_gb rfl rfl (x_call0 rfl rfl rfl (numS_c _) rfl rfl) (fun b53 h53 => ?_)
                refine AL_p (x_pickT rfl rfl rfl) ?_
                refine AL_p (x_assign rfl rfl) ?_
                refine AL_nil ?_
                refine AW_seq ?_
                refine AW_region ?_
                refine AL_p (x_move rfl rfl) ?_
                refine AL_p (x_not rfl rfl) ?_
                refine AL_p (x_move rfl rfl) ?_
                cases b53
                rotate_left
                · try simp only [decide_eq_true_eq, decide_eq_false_iff_not, Bool.not_eq_true, Bool.not_eq_false, Bool.not_eq_true', Bool.not_eq_false', beq_iff_eq, bne_iff_ne, beq_eq_false_iff_ne, bne_eq_false_iff_eq, Int.not_lt, Int.not_le, ge_iff_le, gt_iff_lt] at h53
                  refine AL_g rfl rfl (x_field (off := 0) (o' := 0) rfl rfl rfl (by kernel_rfl) rfl) ?_
                  refine AL_g rfl rfl (x_load1 rfl rfl rfl (by kernel_rfl) rfl) ?_
                  refine AL_gb rfl rfl (x_lss rfl rfl rfl) (fun b60 h60 => ?_)
                  refine AL_p (x_pickF rfl rfl rfl) ?_
                  refine AL_p (x_move rfl rfl) ?_
                  cases b60
                  rotate_left
                  · try simp only [decide_eq_true_eq, decide_eq_false_iff_not, Bool.not_eq_true, Bool.not_eq_false, Bool.not_eq_true', Bool.not_eq_false', beq_iff_eq, bne_iff_ne, beq_eq_false_iff_ne, bne_eq_false_iff_eq, Int.not_lt, Int.not_le, ge_iff_le, gt_iff_lt] at h60
                    refine AL_o rfl rfl rfl rfl ?_
                    refine AL_o rfl rfl rfl rfl ?_
                    refine AL_o rfl rfl rfl rfl ?_
                    refine AL_p (x_pickT rfl rfl rfl) ?_
                    refine AL_nil ?_
                    refine AW_condT rfl ?_
                    refine AW_seq ?_
                    refine AW_region ?_
                    refine AL_p (x_assign rfl rfl) ?_
                    refine AL_nil ?_
                    refine AW_ret (BQ_ret (BQ_ret ?_))
                    exact ⟨rn [], ⟨⟨⟨_, rfl, vle_bool (by first | exact (actsB_bad (k := k) (by omega) (by unfold actB; first | (rw [decide_eq_true_eq]; omega) | (rw [decide_eq_false_iff_not]; omega))).symm | exact (actsB_good hA (by omega) (by omega)).symm | exact (actsB_len (by omega)).symm)⟩, trivial⟩, trivial, trivial, rfl⟩⟩
                  · try simp only [decide_eq_true_eq, decide_eq_false_iff_not, Bool.not_eq_true, Bool.not_eq_false, Bool.not_eq_true', Bool.not_eq_false', beq_iff_eq, bne_iff_ne, beq_eq_false_iff_ne, bne_eq_false_iff_eq, Int.not_lt, Int.not_le, ge_iff_le, gt_iff_lt] at h60
                    refine AL_g rfl rfl (x_field (off := 0) (o' := 0) rfl rfl rfl (by kernel_rfl) rfl) ?_
                    refine AL_g rfl rfl (x_load1 rfl rfl rfl (by kernel_rfl) rfl) ?_
                    refine AL_gb rfl rfl (x_gtr rfl rfl rfl) (fun b65 h65 => ?_)
                    refine AL_p (x_pickF rfl rfl rfl) ?_
                    refine AL_nil ?_
                    cases b65
                    rotate_left
                    · try simp only [decide_eq_true_eq, decide_eq_false_iff_not, Bool.not_eq_true, Bool.not_eq_false, Bool.not_eq_true', Bool.not_eq_false', beq_iff_eq, bne_iff_ne, beq_eq_false_iff_ne, bne_eq_false_iff_eq, Int.not_lt, Int.not_le, ge_iff_le, gt_iff_lt] at h65
                      refine AW_condT rfl ?_
                      refine AW_seq ?_
                      refine AW_region ?_
                      refine AL_p (x_assign rfl rfl) ?_
                      refine AL_nil ?_
                      refine AW_ret (BQ_ret (BQ_ret ?_))
                      exact ⟨rn [], ⟨⟨⟨_, rfl, vle_bool (by first | exact (actsB_bad (k := k) (by omega) (by unfold actB; first | (rw [decide_eq_true_eq]; omega) | (rw [decide_eq_false_iff_not]; omega))).symm | exact (actsB_good hA (by omega) (by omega)).symm | exact (actsB_len (by omega)).symm)⟩, trivial⟩, trivial, trivial, rfl⟩⟩
                    · try simp only [decide_eq_true_eq, decide_eq_false_iff_not, Bool.not_eq_true, Bool.not_eq_false, Bool.not_eq_true', Bool.not_eq_false', beq_iff_eq, bne_iff_ne, beq_eq_false_iff_ne, bne_eq_false_iff_eq, Int.not_lt, Int.not_le, ge_iff_le, gt_iff_lt] at h65
                      refine AW_condF rfl ?_
                      refine AW_skip ?_
                      refine AW_region ?_
                      refine AL_p (x_add rfl rfl rfl (IntWalk.i64_in _ (by omega))) ?_
                      refine AL_p (x_move rfl rfl) ?_
                      refine AL_nil ?_
                      refine ⟨⟨k + 1, ⟨by omega, hA.succ (by omega) (by unfold actB; first | (rw [decide_eq_true_eq]; omega) | (rw [decide_eq_false_iff_not]; omega))⟩⟩, rn [], ?_, by dsimp only; omega⟩
                      exact ⟨by (repeat refine ⟨⟨_, rfl, by first | exact VLe.rf | exact vle_int (by dsimp only; omega)⟩, ?_⟩); exact trivial, by (repeat refine ⟨⟨_, rfl, by first | exact BLe.rf | exact BLe.box AllC.rf | exact BLe.arr (by exact rfl)⟩, ?_⟩); exact trivial, by repeat (first | exact trivial | refine ⟨⟨rfl, by first | (left; intro h; cases h) | (right; rfl), fun _ h => ⟨_, h⟩⟩, ?_⟩), rfl⟩
                · try simp only [decide_eq_true_eq, decide_eq_false_iff_not, Bool.not_eq_true, Bool.not_eq_false, Bool.not_eq_true', Bool.not_eq_false', beq_iff_eq, bne_iff_ne, beq_eq_false_iff_ne, bne_eq_false_iff_eq, Int.not_lt, Int.not_le, ge_iff_le, gt_iff_lt] at h53
                  refine AL_o rfl rfl rfl rfl ?_
                  refine AL_o rfl rfl rfl rfl ?_
                  refine AL_o rfl rfl rfl rfl ?_
                  refine AL_p (x_pickT rfl rfl rfl) ?_
                  refine AL_p (x_move rfl rfl) ?_
                  refine AL_o rfl rfl rfl rfl ?_
                  refine AL_o rfl rfl rfl rfl ?_
                  refine AL_o rfl rfl rfl rfl ?_
                  refine AL_p (x_pickT rfl rfl rfl) ?_
                  refine AL_nil ?_
                  refine AW_condT rfl ?_
                  refine AW_seq ?_
                  refine AW_region ?_
                  refine AL_p (x_assign rfl rfl) ?_
                  refine AL_nil ?_
                  refine AW_ret (BQ_ret (BQ_ret ?_))
                  exact ⟨rn [], ⟨⟨⟨_, rfl, vle_bool (by first | exact (actsB_bad (k := k) (by omega) (by unfold actB; first | (rw [decide_eq_true_eq]; omega) | (rw [decide_eq_false_iff_not]; omega))).symm | exact (actsB_good hA (by omega) (by omega)).symm | exact (actsB_len (by omega)).symm)⟩, trivial⟩, trivial, trivial, rfl⟩⟩
              · try simp only [decide_eq_true_eq, decide_eq_false_iff_not, Bool.not_eq_true, Bool.not_eq_false, Bool.not_eq_true', Bool.not_eq_false', beq_iff_eq, bne_iff_ne, beq_eq_false_iff_ne, bne_eq_false_iff_eq, Int.not_lt, Int.not_le, ge_iff_le, gt_iff_lt] at h48
                refine AL_o rfl rfl rfl rfl ?_
                refine AL_o rfl rfl rfl rfl ?_
                refine AL_o rfl rfl rfl rfl ?_
                refine AL_p (x_pickF rfl rfl rfl) ?_
                refine AL_p (x_assign rfl rfl) ?_
                refine AL_nil ?_
                refine AW_seq ?_
                refine AW_region ?_
                refine AL_p (x_move rfl rfl) ?_
                refine AL_p (x_not rfl rfl) ?_
                refine AL_p (x_move rfl rfl) ?_
                refine AL_o rfl rfl rfl rfl ?_
                refine AL_o rfl rfl rfl rfl ?_
                refine AL_o rfl rfl rfl rfl ?_
                refine AL_p (x_pickT rfl rfl rfl) ?_
                refine AL_p (x_move rfl rfl) ?_
                refine AL_o rfl rfl rfl rfl ?_
                refine AL_o rfl rfl rfl rfl ?_
                refine AL_o rfl rfl rfl rfl ?_
                refine AL_p (x_pickT rfl rfl rfl) ?_
                refine AL_nil ?_
                refine AW_condT rfl ?_
                refine AW_seq ?_
                refine AW_region ?_
                refine AL_p (x_assign rfl rfl) ?_
                refine AL_nil ?_
                refine AW_ret (BQ_ret (BQ_ret ?_))
                exact ⟨rn [], ⟨⟨⟨_, rfl, vle_bool (by first | exact (actsB_bad (k := k) (by omega) (by unfold actB; first | (rw [decide_eq_true_eq]; omega) | (rw [decide_eq_false_iff_not]; omega))).symm | exact (actsB_good hA (by omega) (by omega)).symm | exact (actsB_len (by omega)).symm)⟩, trivial⟩, trivial, trivial, rfl⟩⟩
          · try simp only [decide_eq_true_eq, decide_eq_false_iff_not, Bool.not_eq_true, Bool.not_eq_false, Bool.not_eq_true', Bool.not_eq_false', beq_iff_eq, bne_iff_ne, beq_eq_false_iff_ne, bne_eq_false_iff_eq, Int.not_lt, Int.not_le, ge_iff_le, gt_iff_lt] at h41
            refine AW_condF rfl ?_
            refine AW_skip ?_
            refine AW_seq ?_
            refine AW_region ?_
            refine AL_p (x_move rfl rfl) ?_
            refine AL_p (x_not rfl rfl) ?_
            refine AL_p (x_move rfl rfl) ?_
            refine AL_o rfl rfl rfl rfl ?_
            refine AL_o rfl rfl rfl rfl ?_
            refine AL_o rfl rfl rfl rfl ?_
            refine AL_p (x_pickT rfl rfl rfl) ?_
            refine AL_p (x_move rfl rfl) ?_
            refine AL_o rfl rfl rfl rfl ?_
            refine AL_o rfl rfl rfl rfl ?_
            refine AL_o rfl rfl rfl rfl ?_
            refine AL_p (x_pickT rfl rfl rfl) ?_
            refine AL_nil ?_
            refine AW_condT rfl ?_
            refine AW_seq ?_
            refine AW_region ?_
            refine AL_p (x_assign rfl rfl) ?_
            refine AL_nil ?_
            refine AW_ret (BQ_ret (BQ_ret ?_))
            exact ⟨rn [], ⟨⟨⟨_, rfl, vle_bool (by first | exact (actsB_bad (k := k) (by omega) (by unfold actB; first | (rw [decide_eq_true_eq]; omega) | (rw [decide_eq_false_iff_not]; omega))).symm | exact (actsB_good hA (by omega) (by omega)).symm | exact (actsB_len (by omega)).symm)⟩, trivial⟩, trivial, trivial, rfl⟩⟩
    · try simp only [decide_eq_true_eq, decide_eq_false_iff_not, Bool.not_eq_true, Bool.not_eq_false, Bool.not_eq_true', Bool.not_eq_false', beq_iff_eq, bne_iff_ne, beq_eq_false_iff_ne, bne_eq_false_iff_eq, Int.not_lt, Int.not_le, ge_iff_le, gt_iff_lt] at h12
      refine AW_condF rfl ?_
      refine AW_exit (BQ_hit ?_)
      refine AW_seq ?_
      refine AW_region ?_
      refine AL_p (x_assign rfl rfl) ?_
      refine AL_nil ?_
      refine AW_ret ?_
      exact ⟨rn [], ⟨⟨⟨_, rfl, vle_bool (by first | exact (actsB_bad (k := k) (by omega) (by unfold actB; first | (rw [decide_eq_true_eq]; omega) | (rw [decide_eq_false_iff_not]; omega))).symm | exact (actsB_good hA (by omega) (by omega)).symm | exact (actsB_len (by omega)).symm)⟩, trivial⟩, trivial, trivial, rfl⟩⟩

set_option maxHeartbeats 4000000 in
theorem blank_c (m : Matcht) : AC Try.prog 69 [.agg [.sl (intE .i64) m.v, .sl (intE .i64) m.m]] [] (.one (.c (.bool (decide (m.v.length = 0 ∧ m.m.length = 0))))) [] := by
  refine AC_body1 Try.func69 rfl rfl Try.ntmps69 rfl Try.results69 ?_
  refine AW_aggmax 0 0 rfl rfl (fun hm0_0 => ?_)
  refine AW_aggmax 0 1 rfl rfl (fun hm0_1 => ?_)
  refine AW_seq ?_
  refine AW_region ?_
  refine AL_p (x_box 100 rfl rfl rfl rfl rfl rfl rfl) ?_
  refine AL_p (x_assign rfl rfl) ?_
  refine AL_nil ?_
  refine AW_seq ?_
  refine AW_region ?_
  refine AL_p (x_field (off := 0) (o' := 0) rfl rfl rfl (by kernel_rfl) rfl) ?_
  refine AL_p (x_load1 rfl rfl rfl (by kernel_rfl) rfl) ?_
  refine AL_p (x_len (E := 3) (n := 1) rfl rfl (by kernel_rfl)) ?_
  refine AL_b (x_eql rfl rfl rfl) (fun b6 h6 => ?_)
  refine AL_p (x_move rfl rfl) ?_
  cases b6
  rotate_left
  · try simp only [decide_eq_true_eq, decide_eq_false_iff_not, Bool.not_eq_true, Bool.not_eq_false, Bool.not_eq_true', Bool.not_eq_false', beq_iff_eq, bne_iff_ne, beq_eq_false_iff_ne, bne_eq_false_iff_eq, Int.not_lt, Int.not_le, ge_iff_le, gt_iff_lt] at h6
    refine AL_g rfl rfl (x_field (off := 1) (o' := 1) rfl rfl rfl (by kernel_rfl) rfl) ?_
    refine AL_g rfl rfl (x_load1 rfl rfl rfl (by kernel_rfl) rfl) ?_
    refine AL_g rfl rfl (x_len (E := 3) (n := 1) rfl rfl (by kernel_rfl)) ?_
    refine AL_gb rfl rfl (x_eql rfl rfl rfl) (fun b11 h11 => ?_)
    refine AL_p (x_pickT rfl rfl rfl) ?_
    refine AL_p (x_assign rfl rfl) ?_
    refine AL_nil ?_
    refine AW_ret ?_
    cases b11
    rotate_left
    · try simp only [decide_eq_true_eq, decide_eq_false_iff_not, Bool.not_eq_true, Bool.not_eq_false, Bool.not_eq_true', Bool.not_eq_false', beq_iff_eq, bne_iff_ne, beq_eq_false_iff_ne, bne_eq_false_iff_eq, Int.not_lt, Int.not_le, ge_iff_le, gt_iff_lt] at h11
      exact ⟨rn [], ⟨⟨⟨_, rfl, vle_bool (by (symm; first | (rw [decide_eq_true_eq]; omega) | (rw [decide_eq_false_iff_not]; omega)))⟩, trivial⟩, trivial, trivial, rfl⟩⟩
    · try simp only [decide_eq_true_eq, decide_eq_false_iff_not, Bool.not_eq_true, Bool.not_eq_false, Bool.not_eq_true', Bool.not_eq_false', beq_iff_eq, bne_iff_ne, beq_eq_false_iff_ne, bne_eq_false_iff_eq, Int.not_lt, Int.not_le, ge_iff_le, gt_iff_lt] at h11
      exact ⟨rn [], ⟨⟨⟨_, rfl, vle_bool (by (symm; first | (rw [decide_eq_true_eq]; omega) | (rw [decide_eq_false_iff_not]; omega)))⟩, trivial⟩, trivial, trivial, rfl⟩⟩
  · try simp only [decide_eq_true_eq, decide_eq_false_iff_not, Bool.not_eq_true, Bool.not_eq_false, Bool.not_eq_true', Bool.not_eq_false', beq_iff_eq, bne_iff_ne, beq_eq_false_iff_ne, bne_eq_false_iff_eq, Int.not_lt, Int.not_le, ge_iff_le, gt_iff_lt] at h6
    refine AL_o rfl rfl rfl rfl ?_
    refine AL_o rfl rfl rfl rfl ?_
    refine AL_o rfl rfl rfl rfl ?_
    refine AL_o rfl rfl rfl rfl ?_
    refine AL_p (x_pickF rfl rfl rfl) ?_
    refine AL_p (x_assign rfl rfl) ?_
    refine AL_nil ?_
    refine AW_ret ?_
    exact ⟨rn [], ⟨⟨⟨_, rfl, vle_bool (by (symm; first | (rw [decide_eq_true_eq]; omega) | (rw [decide_eq_false_iff_not]; omega)))⟩, trivial⟩, trivial, trivial, rfl⟩⟩

set_option maxHeartbeats 4000000 in
theorem entryI_c (ep pr hits : Int) (m : Matcht) (l : List Actt) : AC Try.prog 70 [.agg [.c (.int .i64 ep), .c (.int .i64 pr), .sl (intE .i64) m.v, .sl (intE .i64) m.m, .sl actE l, .c (.int .i64 hits)]] [] (.one (.c (.bool (entryB ep pr hits m l)))) [] := by
  refine AC_body1 Try.func70 rfl rfl Try.ntmps70 rfl Try.results70 ?_
  refine AW_seq ?_
  refine AW_region ?_
  refine AL_p (x_box 100 rfl rfl rfl rfl rfl rfl rfl) ?_
  refine AL_p (x_assign rfl rfl) ?_
  refine AL_nil ?_
  refine AW_seq ?_
  refine AW_region ?_
  refine AL_p (x_field (off := 0) (o' := 0) rfl rfl rfl (by kernel_rfl) rfl) ?_
  refine AL_p (x_load1 rfl rfl rfl (by kernel_rfl) rfl) ?_
  refine AL_b (x_call0 rfl rfl rfl (upToI_c _ _) rfl rfl) (fun b5 h5 => ?_)
  refine AL_p (x_move rfl rfl) ?_
  cases b5
  rotate_left
  · try simp only [decide_eq_true_eq, decide_eq_false_iff_not, Bool.not_eq_true, Bool.not_eq_false, Bool.not_eq_true', Bool.not_eq_false', beq_iff_eq, bne_iff_ne, beq_eq_false_iff_ne, bne_eq_false_iff_eq, Int.not_lt, Int.not_le, ge_iff_le, gt_iff_lt] at h5
    refine AL_g rfl rfl (x_field (off := 1) (o' := 1) rfl rfl rfl (by kernel_rfl) rfl) ?_
    refine AL_g rfl rfl (x_load1 rfl rfl rfl (by kernel_rfl) rfl) ?_
    refine AL_gb rfl rfl (x_call0 rfl rfl rfl (upToI_c _ _) rfl rfl) (fun b9 h9 => ?_)
    refine AL_p (x_pickT rfl rfl rfl) ?_
    refine AL_p (x_move rfl rfl) ?_
    cases b9
    rotate_left
    · try simp only [decide_eq_true_eq, decide_eq_false_iff_not, Bool.not_eq_true, Bool.not_eq_false, Bool.not_eq_true', Bool.not_eq_false', beq_iff_eq, bne_iff_ne, beq_eq_false_iff_ne, bne_eq_false_iff_eq, Int.not_lt, Int.not_le, ge_iff_le, gt_iff_lt] at h9
      refine AL_g rfl rfl (x_field (off := 5) (o' := 5) rfl rfl rfl (by kernel_rfl) rfl) ?_
      refine AL_g rfl rfl (x_load1 rfl rfl rfl (by kernel_rfl) rfl) ?_
      refine AL_gb rfl rfl (x_call0 rfl rfl rfl (upToI_c _ _) rfl rfl) (fun b14 h14 => ?_)
      refine AL_p (x_pickT rfl rfl rfl) ?_
      refine AL_p (x_move rfl rfl) ?_
      cases b14
      rotate_left
      · try simp only [decide_eq_true_eq, decide_eq_false_iff_not, Bool.not_eq_true, Bool.not_eq_false, Bool.not_eq_true', Bool.not_eq_false', beq_iff_eq, bne_iff_ne, beq_eq_false_iff_ne, bne_eq_false_iff_eq, Int.not_lt, Int.not_le, ge_iff_le, gt_iff_lt] at h14
        refine AL_g rfl rfl (x_field (off := 2) (o' := 2) rfl rfl rfl (by kernel_rfl) rfl) ?_
        refine AL_g rfl rfl (x_loadN (n := 2) rfl rfl rfl (by kernel_rfl) rfl rfl) ?_
        refine AL_gb rfl rfl (x_call0 rfl rfl rfl (matchI_c m) rfl rfl) (fun b19 h19 => ?_)
        refine AL_p (x_pickT rfl rfl rfl) ?_
        refine AL_p (x_move rfl rfl) ?_
        cases b19
        rotate_left
        · try simp only [decide_eq_true_eq, decide_eq_false_iff_not, Bool.not_eq_true, Bool.not_eq_false, Bool.not_eq_true', Bool.not_eq_false', beq_iff_eq, bne_iff_ne, beq_eq_false_iff_ne, bne_eq_false_iff_eq, Int.not_lt, Int.not_le, ge_iff_le, gt_iff_lt] at h19
          refine AL_g rfl rfl (x_field (off := 4) (o' := 4) rfl rfl rfl (by kernel_rfl) rfl) ?_
          refine AL_g rfl rfl (x_load1 rfl rfl rfl (by kernel_rfl) rfl) ?_
          refine AL_gb rfl rfl (x_call0 rfl rfl rfl (actsI_c l) rfl rfl) (fun b24 h24 => ?_)
          refine AL_p (x_pickT rfl rfl rfl) ?_
          refine AL_p (x_assign rfl rfl) ?_
          refine AL_nil ?_
          refine AW_ret ?_
          cases b24
          rotate_left
          · try simp only [decide_eq_true_eq, decide_eq_false_iff_not, Bool.not_eq_true, Bool.not_eq_false, Bool.not_eq_true', Bool.not_eq_false', beq_iff_eq, bne_iff_ne, beq_eq_false_iff_ne, bne_eq_false_iff_eq, Int.not_lt, Int.not_le, ge_iff_le, gt_iff_lt] at h24
            exact ⟨rn [], ⟨⟨⟨_, rfl, vle_bool (by grind [entryB, upToB])⟩, trivial⟩, trivial, trivial, rfl⟩⟩
          · try simp only [decide_eq_true_eq, decide_eq_false_iff_not, Bool.not_eq_true, Bool.not_eq_false, Bool.not_eq_true', Bool.not_eq_false', beq_iff_eq, bne_iff_ne, beq_eq_false_iff_ne, bne_eq_false_iff_eq, Int.not_lt, Int.not_le, ge_iff_le, gt_iff_lt] at h24
            exact ⟨rn [], ⟨⟨⟨_, rfl, vle_bool (by grind [entryB, upToB])⟩, trivial⟩, trivial, trivial, rfl⟩⟩
        · try simp only [decide_eq_true_eq, decide_eq_false_iff_not, Bool.not_eq_true, Bool.not_eq_false, Bool.not_eq_true', Bool.not_eq_false', beq_iff_eq, bne_iff_ne, beq_eq_false_iff_ne, bne_eq_false_iff_eq, Int.not_lt, Int.not_le, ge_iff_le, gt_iff_lt] at h19
          refine AL_o rfl rfl rfl rfl ?_
          refine AL_o rfl rfl rfl rfl ?_
          refine AL_o rfl rfl rfl rfl ?_
          refine AL_p (x_pickF rfl rfl rfl) ?_
          refine AL_p (x_assign rfl rfl) ?_
          refine AL_nil ?_
          refine AW_ret ?_
          exact ⟨rn [], ⟨⟨⟨_, rfl, vle_bool (by grind [entryB, upToB])⟩, trivial⟩, trivial, trivial, rfl⟩⟩
      · try simp only [decide_eq_true_eq, decide_eq_false_iff_not, Bool.not_eq_true, Bool.not_eq_false, Bool.not_eq_true', Bool.not_eq_false', beq_iff_eq, bne_iff_ne, beq_eq_false_iff_ne, bne_eq_false_iff_eq, Int.not_lt, Int.not_le, ge_iff_le, gt_iff_lt] at h14
        refine AL_o rfl rfl rfl rfl ?_
        refine AL_o rfl rfl rfl rfl ?_
        refine AL_o rfl rfl rfl rfl ?_
        refine AL_p (x_pickF rfl rfl rfl) ?_
        refine AL_p (x_move rfl rfl) ?_
        refine AL_o rfl rfl rfl rfl ?_
        refine AL_o rfl rfl rfl rfl ?_
        refine AL_o rfl rfl rfl rfl ?_
        refine AL_p (x_pickF rfl rfl rfl) ?_
        refine AL_p (x_assign rfl rfl) ?_
        refine AL_nil ?_
        refine AW_ret ?_
        exact ⟨rn [], ⟨⟨⟨_, rfl, vle_bool (by grind [entryB, upToB])⟩, trivial⟩, trivial, trivial, rfl⟩⟩
    · try simp only [decide_eq_true_eq, decide_eq_false_iff_not, Bool.not_eq_true, Bool.not_eq_false, Bool.not_eq_true', Bool.not_eq_false', beq_iff_eq, bne_iff_ne, beq_eq_false_iff_ne, bne_eq_false_iff_eq, Int.not_lt, Int.not_le, ge_iff_le, gt_iff_lt] at h9
      refine AL_o rfl rfl rfl rfl ?_
      refine AL_o rfl rfl rfl rfl ?_
      refine AL_o rfl rfl rfl rfl ?_
      refine AL_p (x_pickF rfl rfl rfl) ?_
      refine AL_p (x_move rfl rfl) ?_
      refine AL_o rfl rfl rfl rfl ?_
      refine AL_o rfl rfl rfl rfl ?_
      refine AL_o rfl rfl rfl rfl ?_
      refine AL_p (x_pickF rfl rfl rfl) ?_
      refine AL_p (x_move rfl rfl) ?_
      refine AL_o rfl rfl rfl rfl ?_
      refine AL_o rfl rfl rfl rfl ?_
      refine AL_o rfl rfl rfl rfl ?_
      refine AL_p (x_pickF rfl rfl rfl) ?_
      refine AL_p (x_assign rfl rfl) ?_
      refine AL_nil ?_
      refine AW_ret ?_
      exact ⟨rn [], ⟨⟨⟨_, rfl, vle_bool (by grind [entryB, upToB])⟩, trivial⟩, trivial, trivial, rfl⟩⟩
  · try simp only [decide_eq_true_eq, decide_eq_false_iff_not, Bool.not_eq_true, Bool.not_eq_false, Bool.not_eq_true', Bool.not_eq_false', beq_iff_eq, bne_iff_ne, beq_eq_false_iff_ne, bne_eq_false_iff_eq, Int.not_lt, Int.not_le, ge_iff_le, gt_iff_lt] at h5
    refine AL_o rfl rfl rfl rfl ?_
    refine AL_o rfl rfl rfl rfl ?_
    refine AL_o rfl rfl rfl rfl ?_
    refine AL_p (x_pickF rfl rfl rfl) ?_
    refine AL_p (x_move rfl rfl) ?_
    refine AL_o rfl rfl rfl rfl ?_
    refine AL_o rfl rfl rfl rfl ?_
    refine AL_o rfl rfl rfl rfl ?_
    refine AL_p (x_pickF rfl rfl rfl) ?_
    refine AL_p (x_move rfl rfl) ?_
    refine AL_o rfl rfl rfl rfl ?_
    refine AL_o rfl rfl rfl rfl ?_
    refine AL_o rfl rfl rfl rfl ?_
    refine AL_p (x_pickF rfl rfl rfl) ?_
    refine AL_p (x_move rfl rfl) ?_
    refine AL_o rfl rfl rfl rfl ?_
    refine AL_o rfl rfl rfl rfl ?_
    refine AL_o rfl rfl rfl rfl ?_
    refine AL_p (x_pickF rfl rfl rfl) ?_
    refine AL_p (x_assign rfl rfl) ?_
    refine AL_nil ?_
    refine AW_ret ?_
    exact ⟨rn [], ⟨⟨⟨_, rfl, vle_bool (by grind [entryB, upToB])⟩, trivial⟩, trivial, trivial, rfl⟩⟩

set_option maxHeartbeats 4000000 in
theorem entryS_c (ep pr hits : Int) (m : Matcht) (l : List Actt) : AC Try.prog 64 [.agg [.c (.int .i64 ep), .c (.int .i64 pr), .sl (intE .i64) m.v, .sl (intE .i64) m.m, .sl actE l, .c (.int .i64 hits)]] [] (.one (.c (.bool (entryB ep pr hits m l)))) [] := by
  refine AC_body1 Try.func64 rfl rfl Try.ntmps64 rfl Try.results64 ?_
  refine AW_seq ?_
  refine AW_region ?_
  refine AL_p (x_box 100 rfl rfl rfl rfl rfl rfl rfl) ?_
  refine AL_p (x_assign rfl rfl) ?_
  refine AL_nil ?_
  refine AW_seq ?_
  refine AW_seq ?_
  refine AW_region ?_
  refine AL_p (x_field (off := 0) (o' := 0) rfl rfl rfl (by kernel_rfl) rfl) ?_
  refine AL_p (x_load1 rfl rfl rfl (by kernel_rfl) rfl) ?_
  refine AL_b (x_lss rfl rfl rfl) (fun b5 h5 => ?_)
  refine AL_p (x_move rfl rfl) ?_
  cases b5
  rotate_left
  · try simp only [decide_eq_true_eq, decide_eq_false_iff_not, Bool.not_eq_true, Bool.not_eq_false, Bool.not_eq_true', Bool.not_eq_false', beq_iff_eq, bne_iff_ne, beq_eq_false_iff_ne, bne_eq_false_iff_eq, Int.not_lt, Int.not_le, ge_iff_le, gt_iff_lt] at h5
    refine AL_o rfl rfl rfl rfl ?_
    refine AL_o rfl rfl rfl rfl ?_
    refine AL_o rfl rfl rfl rfl ?_
    refine AL_p (x_pickT rfl rfl rfl) ?_
    refine AL_p (x_move rfl rfl) ?_
    refine AL_o rfl rfl rfl rfl ?_
    refine AL_o rfl rfl rfl rfl ?_
    refine AL_o rfl rfl rfl rfl ?_
    refine AL_p (x_pickT rfl rfl rfl) ?_
    refine AL_p (x_move rfl rfl) ?_
    refine AL_o rfl rfl rfl rfl ?_
    refine AL_o rfl rfl rfl rfl ?_
    refine AL_o rfl rfl rfl rfl ?_
    refine AL_p (x_pickT rfl rfl rfl) ?_
    refine AL_p (x_move rfl rfl) ?_
    refine AL_o rfl rfl rfl rfl ?_
    refine AL_o rfl rfl rfl rfl ?_
    refine AL_o rfl rfl rfl rfl ?_
    refine AL_p (x_pickT rfl rfl rfl) ?_
    refine AL_p (x_move rfl rfl) ?_
    refine AL_o rfl rfl rfl rfl ?_
    refine AL_o rfl rfl rfl rfl ?_
    refine AL_o rfl rfl rfl rfl ?_
    refine AL_p (x_pickT rfl rfl rfl) ?_
    refine AL_nil ?_
    refine AW_condT rfl ?_
    refine AW_seq ?_
    refine AW_region ?_
    refine AL_p (x_assign rfl rfl) ?_
    refine AL_nil ?_
    refine AW_ret ?_
    exact ⟨rn [], ⟨⟨⟨_, rfl, vle_bool (by grind [entryB, upToB])⟩, trivial⟩, trivial, trivial, rfl⟩⟩
  · try simp only [decide_eq_true_eq, decide_eq_false_iff_not, Bool.not_eq_true, Bool.not_eq_false, Bool.not_eq_true', Bool.not_eq_false', beq_iff_eq, bne_iff_ne, beq_eq_false_iff_ne, bne_eq_false_iff_eq, Int.not_lt, Int.not_le, ge_iff_le, gt_iff_lt] at h5
    refine AL_g rfl rfl (x_field (off := 0) (o' := 0) rfl rfl rfl (by kernel_rfl) rfl) ?_
    refine AL_g rfl rfl (x_load1 rfl rfl rfl (by kernel_rfl) rfl) ?_
    refine AL_gb rfl rfl (x_gtr rfl rfl rfl) (fun b9 h9 => ?_)
    refine AL_p (x_pickF rfl rfl rfl) ?_
    refine AL_p (x_move rfl rfl) ?_
    cases b9
    rotate_left
    · try simp only [decide_eq_true_eq, decide_eq_false_iff_not, Bool.not_eq_true, Bool.not_eq_false, Bool.not_eq_true', Bool.not_eq_false', beq_iff_eq, bne_iff_ne, beq_eq_false_iff_ne, bne_eq_false_iff_eq, Int.not_lt, Int.not_le, ge_iff_le, gt_iff_lt] at h9
      refine AL_o rfl rfl rfl rfl ?_
      refine AL_o rfl rfl rfl rfl ?_
      refine AL_o rfl rfl rfl rfl ?_
      refine AL_p (x_pickT rfl rfl rfl) ?_
      refine AL_p (x_move rfl rfl) ?_
      refine AL_o rfl rfl rfl rfl ?_
      refine AL_o rfl rfl rfl rfl ?_
      refine AL_o rfl rfl rfl rfl ?_
      refine AL_p (x_pickT rfl rfl rfl) ?_
      refine AL_p (x_move rfl rfl) ?_
      refine AL_o rfl rfl rfl rfl ?_
      refine AL_o rfl rfl rfl rfl ?_
      refine AL_o rfl rfl rfl rfl ?_
      refine AL_p (x_pickT rfl rfl rfl) ?_
      refine AL_p (x_move rfl rfl) ?_
      refine AL_o rfl rfl rfl rfl ?_
      refine AL_o rfl rfl rfl rfl ?_
      refine AL_o rfl rfl rfl rfl ?_
      refine AL_p (x_pickT rfl rfl rfl) ?_
      refine AL_nil ?_
      refine AW_condT rfl ?_
      refine AW_seq ?_
      refine AW_region ?_
      refine AL_p (x_assign rfl rfl) ?_
      refine AL_nil ?_
      refine AW_ret ?_
      exact ⟨rn [], ⟨⟨⟨_, rfl, vle_bool (by grind [entryB, upToB])⟩, trivial⟩, trivial, trivial, rfl⟩⟩
    · try simp only [decide_eq_true_eq, decide_eq_false_iff_not, Bool.not_eq_true, Bool.not_eq_false, Bool.not_eq_true', Bool.not_eq_false', beq_iff_eq, bne_iff_ne, beq_eq_false_iff_ne, bne_eq_false_iff_eq, Int.not_lt, Int.not_le, ge_iff_le, gt_iff_lt] at h9
      refine AL_g rfl rfl (x_field (off := 1) (o' := 1) rfl rfl rfl (by kernel_rfl) rfl) ?_
      refine AL_g rfl rfl (x_load1 rfl rfl rfl (by kernel_rfl) rfl) ?_
      refine AL_gb rfl rfl (x_lss rfl rfl rfl) (fun b14 h14 => ?_)
      refine AL_p (x_pickF rfl rfl rfl) ?_
      refine AL_p (x_move rfl rfl) ?_
      cases b14
      rotate_left
      · try simp only [decide_eq_true_eq, decide_eq_false_iff_not, Bool.not_eq_true, Bool.not_eq_false, Bool.not_eq_true', Bool.not_eq_false', beq_iff_eq, bne_iff_ne, beq_eq_false_iff_ne, bne_eq_false_iff_eq, Int.not_lt, Int.not_le, ge_iff_le, gt_iff_lt] at h14
        refine AL_o rfl rfl rfl rfl ?_
        refine AL_o rfl rfl rfl rfl ?_
        refine AL_o rfl rfl rfl rfl ?_
        refine AL_p (x_pickT rfl rfl rfl) ?_
        refine AL_p (x_move rfl rfl) ?_
        refine AL_o rfl rfl rfl rfl ?_
        refine AL_o rfl rfl rfl rfl ?_
        refine AL_o rfl rfl rfl rfl ?_
        refine AL_p (x_pickT rfl rfl rfl) ?_
        refine AL_p (x_move rfl rfl) ?_
        refine AL_o rfl rfl rfl rfl ?_
        refine AL_o rfl rfl rfl rfl ?_
        refine AL_o rfl rfl rfl rfl ?_
        refine AL_p (x_pickT rfl rfl rfl) ?_
        refine AL_nil ?_
        refine AW_condT rfl ?_
        refine AW_seq ?_
        refine AW_region ?_
        refine AL_p (x_assign rfl rfl) ?_
        refine AL_nil ?_
        refine AW_ret ?_
        exact ⟨rn [], ⟨⟨⟨_, rfl, vle_bool (by grind [entryB, upToB])⟩, trivial⟩, trivial, trivial, rfl⟩⟩
      · try simp only [decide_eq_true_eq, decide_eq_false_iff_not, Bool.not_eq_true, Bool.not_eq_false, Bool.not_eq_true', Bool.not_eq_false', beq_iff_eq, bne_iff_ne, beq_eq_false_iff_ne, bne_eq_false_iff_eq, Int.not_lt, Int.not_le, ge_iff_le, gt_iff_lt] at h14
        refine AL_g rfl rfl (x_field (off := 1) (o' := 1) rfl rfl rfl (by kernel_rfl) rfl) ?_
        refine AL_g rfl rfl (x_load1 rfl rfl rfl (by kernel_rfl) rfl) ?_
        refine AL_gb rfl rfl (x_gtr rfl rfl rfl) (fun b19 h19 => ?_)
        refine AL_p (x_pickF rfl rfl rfl) ?_
        refine AL_p (x_move rfl rfl) ?_
        cases b19
        rotate_left
        · try simp only [decide_eq_true_eq, decide_eq_false_iff_not, Bool.not_eq_true, Bool.not_eq_false, Bool.not_eq_true', Bool.not_eq_false', beq_iff_eq, bne_iff_ne, beq_eq_false_iff_ne, bne_eq_false_iff_eq, Int.not_lt, Int.not_le, ge_iff_le, gt_iff_lt] at h19
          refine AL_o rfl rfl rfl rfl ?_
          refine AL_o rfl rfl rfl rfl ?_
          refine AL_o rfl rfl rfl rfl ?_
          refine AL_p (x_pickT rfl rfl rfl) ?_
          refine AL_p (x_move rfl rfl) ?_
          refine AL_o rfl rfl rfl rfl ?_
          refine AL_o rfl rfl rfl rfl ?_
          refine AL_o rfl rfl rfl rfl ?_
          refine AL_p (x_pickT rfl rfl rfl) ?_
          refine AL_nil ?_
          refine AW_condT rfl ?_
          refine AW_seq ?_
          refine AW_region ?_
          refine AL_p (x_assign rfl rfl) ?_
          refine AL_nil ?_
          refine AW_ret ?_
          exact ⟨rn [], ⟨⟨⟨_, rfl, vle_bool (by grind [entryB, upToB])⟩, trivial⟩, trivial, trivial, rfl⟩⟩
        · try simp only [decide_eq_true_eq, decide_eq_false_iff_not, Bool.not_eq_true, Bool.not_eq_false, Bool.not_eq_true', Bool.not_eq_false', beq_iff_eq, bne_iff_ne, beq_eq_false_iff_ne, bne_eq_false_iff_eq, Int.not_lt, Int.not_le, ge_iff_le, gt_iff_lt] at h19
          refine AL_g rfl rfl (x_field (off := 5) (o' := 5) rfl rfl rfl (by kernel_rfl) rfl) ?_
          refine AL_g rfl rfl (x_load1 rfl rfl rfl (by kernel_rfl) rfl) ?_
          refine AL_gb rfl rfl (x_lss rfl rfl rfl) (fun b24 h24 => ?_)
          refine AL_p (x_pickF rfl rfl rfl) ?_
          refine AL_p (x_move rfl rfl) ?_
          cases b24
          rotate_left
          · try simp only [decide_eq_true_eq, decide_eq_false_iff_not, Bool.not_eq_true, Bool.not_eq_false, Bool.not_eq_true', Bool.not_eq_false', beq_iff_eq, bne_iff_ne, beq_eq_false_iff_ne, bne_eq_false_iff_eq, Int.not_lt, Int.not_le, ge_iff_le, gt_iff_lt] at h24
            refine AL_o rfl rfl rfl rfl ?_
            refine AL_o rfl rfl rfl rfl ?_
            refine AL_o rfl rfl rfl rfl ?_
            refine AL_p (x_pickT rfl rfl rfl) ?_
            refine AL_nil ?_
            refine AW_condT rfl ?_
            refine AW_seq ?_
            refine AW_region ?_
            refine AL_p (x_assign rfl rfl) ?_
            refine AL_nil ?_
            refine AW_ret ?_
            exact ⟨rn [], ⟨⟨⟨_, rfl, vle_bool (by grind [entryB, upToB])⟩, trivial⟩, trivial, trivial, rfl⟩⟩
          · try simp only [decide_eq_true_eq, decide_eq_false_iff_not, Bool.not_eq_true, Bool.not_eq_false, Bool.not_eq_true', Bool.not_eq_false', beq_iff_eq, bne_iff_ne, beq_eq_false_iff_ne, bne_eq_false_iff_eq, Int.not_lt, Int.not_le, ge_iff_le, gt_iff_lt] at h24
            refine AL_g rfl rfl (x_field (off := 5) (o' := 5) rfl rfl rfl (by kernel_rfl) rfl) ?_
            refine AL_g rfl rfl (x_load1 rfl rfl rfl (by kernel_rfl) rfl) ?_
            refine AL_gb rfl rfl (x_gtr rfl rfl rfl) (fun b29 h29 => ?_)
            refine AL_p (x_pickF rfl rfl rfl) ?_
            refine AL_nil ?_
            cases b29
            rotate_left
            · try simp only [decide_eq_true_eq, decide_eq_false_iff_not, Bool.not_eq_true, Bool.not_eq_false, Bool.not_eq_true', Bool.not_eq_false', beq_iff_eq, bne_iff_ne, beq_eq_false_iff_ne, bne_eq_false_iff_eq, Int.not_lt, Int.not_le, ge_iff_le, gt_iff_lt] at h29
              refine AW_condT rfl ?_
              refine AW_seq ?_
              refine AW_region ?_
              refine AL_p (x_assign rfl rfl) ?_
              refine AL_nil ?_
              refine AW_ret ?_
              exact ⟨rn [], ⟨⟨⟨_, rfl, vle_bool (by grind [entryB, upToB])⟩, trivial⟩, trivial, trivial, rfl⟩⟩
            · try simp only [decide_eq_true_eq, decide_eq_false_iff_not, Bool.not_eq_true, Bool.not_eq_false, Bool.not_eq_true', Bool.not_eq_false', beq_iff_eq, bne_iff_ne, beq_eq_false_iff_ne, bne_eq_false_iff_eq, Int.not_lt, Int.not_le, ge_iff_le, gt_iff_lt] at h29
              refine AW_condF rfl ?_
              refine AW_skip ?_
              refine AW_seq ?_
              refine AW_region ?_
              refine AL_p (x_field (off := 2) (o' := 2) rfl rfl rfl (by kernel_rfl) rfl) ?_
              refine AL_p (x_loadN (n := 2) rfl rfl rfl (by kernel_rfl) rfl rfl) ?_
              refine AL_b (x_call0 rfl rfl rfl (matchS_c m) rfl rfl) (fun b33 h33 => ?_)
              refine AL_p (x_move rfl rfl) ?_
              cases b33
              rotate_left
              · try simp only [decide_eq_true_eq, decide_eq_false_iff_not, Bool.not_eq_true, Bool.not_eq_false, Bool.not_eq_true', Bool.not_eq_false', beq_iff_eq, bne_iff_ne, beq_eq_false_iff_ne, bne_eq_false_iff_eq, Int.not_lt, Int.not_le, ge_iff_le, gt_iff_lt] at h33
                refine AL_g rfl rfl (x_field (off := 4) (o' := 4) rfl rfl rfl (by kernel_rfl) rfl) ?_
                refine AL_g rfl rfl (x_load1 rfl rfl rfl (by kernel_rfl) rfl) ?_
                refine AL_gb rfl rfl (x_call0 rfl rfl rfl (actsS_c l) rfl rfl) (fun b37 h37 => ?_)
                refine AL_p (x_pickT rfl rfl rfl) ?_
                refine AL_p (x_assign rfl rfl) ?_
                refine AL_nil ?_
                refine AW_ret ?_
                cases b37
                rotate_left
                · try simp only [decide_eq_true_eq, decide_eq_false_iff_not, Bool.not_eq_true, Bool.not_eq_false, Bool.not_eq_true', Bool.not_eq_false', beq_iff_eq, bne_iff_ne, beq_eq_false_iff_ne, bne_eq_false_iff_eq, Int.not_lt, Int.not_le, ge_iff_le, gt_iff_lt] at h37
                  exact ⟨rn [], ⟨⟨⟨_, rfl, vle_bool (by grind [entryB, upToB])⟩, trivial⟩, trivial, trivial, rfl⟩⟩
                · try simp only [decide_eq_true_eq, decide_eq_false_iff_not, Bool.not_eq_true, Bool.not_eq_false, Bool.not_eq_true', Bool.not_eq_false', beq_iff_eq, bne_iff_ne, beq_eq_false_iff_ne, bne_eq_false_iff_eq, Int.not_lt, Int.not_le, ge_iff_le, gt_iff_lt] at h37
                  exact ⟨rn [], ⟨⟨⟨_, rfl, vle_bool (by grind [entryB, upToB])⟩, trivial⟩, trivial, trivial, rfl⟩⟩
              · try simp only [decide_eq_true_eq, decide_eq_false_iff_not, Bool.not_eq_true, Bool.not_eq_false, Bool.not_eq_true', Bool.not_eq_false', beq_iff_eq, bne_iff_ne, beq_eq_false_iff_ne, bne_eq_false_iff_eq, Int.not_lt, Int.not_le, ge_iff_le, gt_iff_lt] at h33
                refine AL_o rfl rfl rfl rfl ?_
                refine AL_o rfl rfl rfl rfl ?_
                refine AL_o rfl rfl rfl rfl ?_
                refine AL_p (x_pickF rfl rfl rfl) ?_
                refine AL_p (x_assign rfl rfl) ?_
                refine AL_nil ?_
                refine AW_ret ?_
                exact ⟨rn [], ⟨⟨⟨_, rfl, vle_bool (by grind [entryB, upToB])⟩, trivial⟩, trivial, trivial, rfl⟩⟩


end Go.Proofs.Ytfdpigafekohgaa

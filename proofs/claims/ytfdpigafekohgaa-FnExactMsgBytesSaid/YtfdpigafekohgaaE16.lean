/- Lemmas of the walks, part 6. -/
import Derived.Test.YtfdpigafekohgaaE15
/- Messages that are well formed (printed by walk.py) -/
namespace Go.Proofs.Ytfdpigafekohgaa
open Go.RowKit
set_option linter.unusedVariables false
set_option linter.unusedSimpArgs false
set_option maxRecDepth 100000

set_option maxHeartbeats 4000000 in
theorem msgS_c (m : Msgt) : AC Try.prog 23 [.agg (msgC m)] [] (.one (.c (.bool (msgB m)))) [] := by
  refine AC_body1 Try.func23 rfl rfl Try.ntmps23 rfl Try.results23 ?_
  refine AW_aggmax 0 5 rfl rfl (fun hm0_5 => ?_)
  refine AW_aggmax 0 6 rfl rfl (fun hm0_6 => ?_)
  refine AW_aggmax 0 7 rfl rfl (fun hm0_7 => ?_)
  refine AW_aggmax 0 9 rfl rfl (fun hm0_9 => ?_)
  refine AW_seq ?_
  refine AW_region ?_
  refine AL_p (x_box 100 rfl rfl rfl rfl rfl rfl rfl) ?_
  refine AL_p (x_assign rfl rfl) ?_
  refine AL_nil ?_
  refine AW_seq ?_
  refine AW_seq ?_
  refine AW_region ?_
  refine AL_p (x_field (off := 1) (o' := 1) rfl rfl rfl (by kernel_rfl) rfl) ?_
  refine AL_p (x_load1 rfl rfl rfl (by kernel_rfl) rfl) ?_
  refine AL_b (x_lss rfl rfl rfl) (fun b5 h5 => ?_)
  refine AL_p (x_move rfl rfl) ?_
  cases b5
  rotate_left
  · try simp only [decide_eq_true_eq, decide_eq_false_iff_not, Bool.not_eq_true, Bool.not_eq_false, Bool.not_eq_true', Bool.not_eq_false', beq_iff_eq, bne_iff_ne, beq_eq_false_iff_ne, bne_eq_false_iff_eq, Int.not_lt, Int.not_le, ge_iff_le, gt_iff_lt] at h5
    refine AL_o rfl rfl rfl rfl ?_
    refine AL_o rfl rfl rfl rfl ?_
    refine AL_o rfl rfl rfl rfl ?_
    refine AL_p (x_pickT rfl rfl rfl) ?_
    refine AL_p (x_move rfl rfl) ?_
    refine AL_o rfl rfl rfl rfl ?_
    refine AL_o rfl rfl rfl rfl ?_
    refine AL_o rfl rfl rfl rfl ?_
    refine AL_p (x_pickT rfl rfl rfl) ?_
    refine AL_p (x_move rfl rfl) ?_
    refine AL_o rfl rfl rfl rfl ?_
    refine AL_o rfl rfl rfl rfl ?_
    refine AL_o rfl rfl rfl rfl ?_
    refine AL_p (x_pickT rfl rfl rfl) ?_
    refine AL_nil ?_
    refine AW_condT rfl ?_
    refine AW_seq ?_
    refine AW_region ?_
    refine AL_p (x_assign rfl rfl) ?_
    refine AL_nil ?_
    refine AW_ret ?_
    exact ⟨rn [], ⟨⟨⟨_, rfl, vle_bool (by grind [msgB, noAddB, noNoteB, upToB, entryB])⟩, trivial⟩, trivial, trivial, rfl⟩⟩
  · try simp only [decide_eq_true_eq, decide_eq_false_iff_not, Bool.not_eq_true, Bool.not_eq_false, Bool.not_eq_true', Bool.not_eq_false', beq_iff_eq, bne_iff_ne, beq_eq_false_iff_ne, bne_eq_false_iff_eq, Int.not_lt, Int.not_le, ge_iff_le, gt_iff_lt] at h5
    refine AL_g rfl rfl (x_field (off := 1) (o' := 1) rfl rfl rfl (by kernel_rfl) rfl) ?_
    refine AL_g rfl rfl (x_load1 rfl rfl rfl (by kernel_rfl) rfl) ?_
    refine AL_gb rfl rfl (x_gtr rfl rfl rfl) (fun b9 h9 => ?_)
    refine AL_p (x_pickF rfl rfl rfl) ?_
    refine AL_p (x_move rfl rfl) ?_
    cases b9
    rotate_left
    · try simp only [decide_eq_true_eq, decide_eq_false_iff_not, Bool.not_eq_true, Bool.not_eq_false, Bool.not_eq_true', Bool.not_eq_false', beq_iff_eq, bne_iff_ne, beq_eq_false_iff_ne, bne_eq_false_iff_eq, Int.not_lt, Int.not_le, ge_iff_le, gt_iff_lt] at h9
      refine AL_o rfl rfl rfl rfl ?_
      refine AL_o rfl rfl rfl rfl ?_
      refine AL_o rfl rfl rfl rfl ?_
      refine AL_p (x_pickT rfl rfl rfl) ?_
      refine AL_p (x_move rfl rfl) ?_
      refine AL_o rfl rfl rfl rfl ?_
      refine AL_o rfl rfl rfl rfl ?_
      refine AL_o rfl rfl rfl rfl ?_
      refine AL_p (x_pickT rfl rfl rfl) ?_
      refine AL_nil ?_
      refine AW_condT rfl ?_
      refine AW_seq ?_
      refine AW_region ?_
      refine AL_p (x_assign rfl rfl) ?_
      refine AL_nil ?_
      refine AW_ret ?_
      exact ⟨rn [], ⟨⟨⟨_, rfl, vle_bool (by grind [msgB, noAddB, noNoteB, upToB, entryB])⟩, trivial⟩, trivial, trivial, rfl⟩⟩
    · try simp only [decide_eq_true_eq, decide_eq_false_iff_not, Bool.not_eq_true, Bool.not_eq_false, Bool.not_eq_true', Bool.not_eq_false', beq_iff_eq, bne_iff_ne, beq_eq_false_iff_ne, bne_eq_false_iff_eq, Int.not_lt, Int.not_le, ge_iff_le, gt_iff_lt] at h9
      refine AL_g rfl rfl (x_field (off := 2) (o' := 2) rfl rfl rfl (by kernel_rfl) rfl) ?_
      refine AL_g rfl rfl (x_load1 rfl rfl rfl (by kernel_rfl) rfl) ?_
      refine AL_gb rfl rfl (x_lss rfl rfl rfl) (fun b14 h14 => ?_)
      refine AL_p (x_pickF rfl rfl rfl) ?_
      refine AL_p (x_move rfl rfl) ?_
      cases b14
      rotate_left
      · try simp only [decide_eq_true_eq, decide_eq_false_iff_not, Bool.not_eq_true, Bool.not_eq_false, Bool.not_eq_true', Bool.not_eq_false', beq_iff_eq, bne_iff_ne, beq_eq_false_iff_ne, bne_eq_false_iff_eq, Int.not_lt, Int.not_le, ge_iff_le, gt_iff_lt] at h14
        refine AL_o rfl rfl rfl rfl ?_
        refine AL_o rfl rfl rfl rfl ?_
        refine AL_o rfl rfl rfl rfl ?_
        refine AL_p (x_pickT rfl rfl rfl) ?_
        refine AL_nil ?_
        refine AW_condT rfl ?_
        refine AW_seq ?_
        refine AW_region ?_
        refine AL_p (x_assign rfl rfl) ?_
        refine AL_nil ?_
        refine AW_ret ?_
        exact ⟨rn [], ⟨⟨⟨_, rfl, vle_bool (by grind [msgB, noAddB, noNoteB, upToB, entryB])⟩, trivial⟩, trivial, trivial, rfl⟩⟩
      · try simp only [decide_eq_true_eq, decide_eq_false_iff_not, Bool.not_eq_true, Bool.not_eq_false, Bool.not_eq_true', Bool.not_eq_false', beq_iff_eq, bne_iff_ne, beq_eq_false_iff_ne, bne_eq_false_iff_eq, Int.not_lt, Int.not_le, ge_iff_le, gt_iff_lt] at h14
        refine AL_g rfl rfl (x_field (off := 2) (o' := 2) rfl rfl rfl (by kernel_rfl) rfl) ?_
        refine AL_g rfl rfl (x_load1 rfl rfl rfl (by kernel_rfl) rfl) ?_
        refine AL_gb rfl rfl (x_gtr rfl rfl rfl) (fun b19 h19 => ?_)
        refine AL_p (x_pickF rfl rfl rfl) ?_
        refine AL_nil ?_
        cases b19
        rotate_left
        · try simp only [decide_eq_true_eq, decide_eq_false_iff_not, Bool.not_eq_true, Bool.not_eq_false, Bool.not_eq_true', Bool.not_eq_false', beq_iff_eq, bne_iff_ne, beq_eq_false_iff_ne, bne_eq_false_iff_eq, Int.not_lt, Int.not_le, ge_iff_le, gt_iff_lt] at h19
          refine AW_condT rfl ?_
          refine AW_seq ?_
          refine AW_region ?_
          refine AL_p (x_assign rfl rfl) ?_
          refine AL_nil ?_
          refine AW_ret ?_
          exact ⟨rn [], ⟨⟨⟨_, rfl, vle_bool (by grind [msgB, noAddB, noNoteB, upToB, entryB])⟩, trivial⟩, trivial, trivial, rfl⟩⟩
        · try simp only [decide_eq_true_eq, decide_eq_false_iff_not, Bool.not_eq_true, Bool.not_eq_false, Bool.not_eq_true', Bool.not_eq_false', beq_iff_eq, bne_iff_ne, beq_eq_false_iff_ne, bne_eq_false_iff_eq, Int.not_lt, Int.not_le, ge_iff_le, gt_iff_lt] at h19
          refine AW_condF rfl ?_
          refine AW_skip ?_
          refine AW_seq ?_
          refine AW_seq ?_
          refine AW_region ?_
          refine AL_p (x_field (off := 0) (o' := 0) rfl rfl rfl (by kernel_rfl) rfl) ?_
          refine AL_p (x_load1 rfl rfl rfl (by kernel_rfl) rfl) ?_
          refine AL_b (x_lss rfl rfl rfl) (fun b23 h23 => ?_)
          refine AL_p (x_move rfl rfl) ?_
          cases b23
          rotate_left
          · try simp only [decide_eq_true_eq, decide_eq_false_iff_not, Bool.not_eq_true, Bool.not_eq_false, Bool.not_eq_true', Bool.not_eq_false', beq_iff_eq, bne_iff_ne, beq_eq_false_iff_ne, bne_eq_false_iff_eq, Int.not_lt, Int.not_le, ge_iff_le, gt_iff_lt] at h23
            refine AL_o rfl rfl rfl rfl ?_
            refine AL_o rfl rfl rfl rfl ?_
            refine AL_o rfl rfl rfl rfl ?_
            refine AL_p (x_pickT rfl rfl rfl) ?_
            refine AL_nil ?_
            refine AW_condT rfl ?_
            refine AW_seq ?_
            refine AW_region ?_
            refine AL_p (x_assign rfl rfl) ?_
            refine AL_nil ?_
            refine AW_ret ?_
            exact ⟨rn [], ⟨⟨⟨_, rfl, vle_bool (by grind [msgB, noAddB, noNoteB, upToB, entryB])⟩, trivial⟩, trivial, trivial, rfl⟩⟩
          · try simp only [decide_eq_true_eq, decide_eq_false_iff_not, Bool.not_eq_true, Bool.not_eq_false, Bool.not_eq_true', Bool.not_eq_false', beq_iff_eq, bne_iff_ne, beq_eq_false_iff_ne, bne_eq_false_iff_eq, Int.not_lt, Int.not_le, ge_iff_le, gt_iff_lt] at h23
            refine AL_g rfl rfl (x_field (off := 0) (o' := 0) rfl rfl rfl (by kernel_rfl) rfl) ?_
            refine AL_g rfl rfl (x_load1 rfl rfl rfl (by kernel_rfl) rfl) ?_
            refine AL_gb rfl rfl (x_gtr rfl rfl rfl) (fun b27 h27 => ?_)
            refine AL_p (x_pickF rfl rfl rfl) ?_
            refine AL_nil ?_
            cases b27
            rotate_left
            · try simp only [decide_eq_true_eq, decide_eq_false_iff_not, Bool.not_eq_true, Bool.not_eq_false, Bool.not_eq_true', Bool.not_eq_false', beq_iff_eq, bne_iff_ne, beq_eq_false_iff_ne, bne_eq_false_iff_eq, Int.not_lt, Int.not_le, ge_iff_le, gt_iff_lt] at h27
              refine AW_condT rfl ?_
              refine AW_seq ?_
              refine AW_region ?_
              refine AL_p (x_assign rfl rfl) ?_
              refine AL_nil ?_
              refine AW_ret ?_
              exact ⟨rn [], ⟨⟨⟨_, rfl, vle_bool (by grind [msgB, noAddB, noNoteB, upToB, entryB])⟩, trivial⟩, trivial, trivial, rfl⟩⟩
            · try simp only [decide_eq_true_eq, decide_eq_false_iff_not, Bool.not_eq_true, Bool.not_eq_false, Bool.not_eq_true', Bool.not_eq_false', beq_iff_eq, bne_iff_ne, beq_eq_false_iff_ne, bne_eq_false_iff_eq, Int.not_lt, Int.not_le, ge_iff_le, gt_iff_lt] at h27
              refine AW_condF rfl ?_
              refine AW_skip ?_
              refine AW_seq ?_
              refine AW_seq ?_
              refine AW_region ?_
              refine AL_p (x_field (off := 0) (o' := 0) rfl rfl rfl (by kernel_rfl) rfl) ?_
              refine AL_p (x_load1 rfl rfl rfl (by kernel_rfl) rfl) ?_
              refine AL_b (x_eql rfl rfl rfl) (fun b31 h31 => ?_)
              refine AL_nil ?_
              cases b31
              rotate_left
              · try simp only [decide_eq_true_eq, decide_eq_false_iff_not, Bool.not_eq_true, Bool.not_eq_false, Bool.not_eq_true', Bool.not_eq_false', beq_iff_eq, bne_iff_ne, beq_eq_false_iff_ne, bne_eq_false_iff_eq, Int.not_lt, Int.not_le, ge_iff_le, gt_iff_lt] at h31
                refine AW_condT rfl ?_
                refine AW_seq ?_
                refine AW_region ?_
                refine AL_p (x_field (off := 3) (o' := 3) rfl rfl rfl (by kernel_rfl) rfl) ?_
                refine AL_p (x_load1 rfl rfl rfl (by kernel_rfl) rfl) ?_
                refine AL_p (x_field (off := 4) (o' := 4) rfl rfl rfl (by kernel_rfl) rfl) ?_
                refine AL_p (x_load1 rfl rfl rfl (by kernel_rfl) rfl) ?_
                refine AL_p (x_field (off := 5) (o' := 5) rfl rfl rfl (by kernel_rfl) rfl) ?_
                refine AL_p (x_loadN (n := 2) rfl rfl rfl (by kernel_rfl) rfl rfl) ?_
                refine AL_p (x_field (off := 7) (o' := 7) rfl rfl rfl (by kernel_rfl) rfl) ?_
                refine AL_p (x_load1 rfl rfl rfl (by kernel_rfl) rfl) ?_
                refine AL_p (x_build (zs := [.int .i64 0, .int .i64 0, .slice none 0 0, .slice none 0 0, .slice none 0 0, .int .i64 0]) (places := [(0, 1), (1, 1), (2, 2), (4, 1), (5, 1)]) rfl (by kernel_rfl) rfl rfl rfl rfl rfl) ?_
                refine AL_b (x_call0 rfl rfl rfl (entryS_c _ _ 0 m.mat m.acts) rfl rfl) (fun b41 h41 => ?_)
                refine AL_p (x_not rfl rfl) ?_
                refine AL_nil ?_
                cases b41
                rotate_left
                · try simp only [decide_eq_true_eq, decide_eq_false_iff_not, Bool.not_eq_true, Bool.not_eq_false, Bool.not_eq_true', Bool.not_eq_false', beq_iff_eq, bne_iff_ne, beq_eq_false_iff_ne, bne_eq_false_iff_eq, Int.not_lt, Int.not_le, ge_iff_le, gt_iff_lt] at h41
                  refine AW_condF rfl ?_
                  refine AW_skip ?_
                  refine AW_seq ?_
                  refine AW_seq ?_
                  refine AW_region ?_
                  refine AL_p (x_field (off := 0) (o' := 0) rfl rfl rfl (by kernel_rfl) rfl) ?_
                  refine AL_p (x_load1 rfl rfl rfl (by kernel_rfl) rfl) ?_
                  refine AL_b (x_neq rfl rfl rfl) (fun b68 h68 => ?_)
                  refine AL_p (x_move rfl rfl) ?_
                  cases b68
                  rotate_left
                  · try simp only [decide_eq_true_eq, decide_eq_false_iff_not, Bool.not_eq_true, Bool.not_eq_false, Bool.not_eq_true', Bool.not_eq_false', beq_iff_eq, bne_iff_ne, beq_eq_false_iff_ne, bne_eq_false_iff_eq, Int.not_lt, Int.not_le, ge_iff_le, gt_iff_lt] at h68
                    refine AL_g rfl rfl (x_field (off := 0) (o' := 0) rfl rfl rfl (by kernel_rfl) rfl) ?_
                    refine AL_g rfl rfl (x_load1 rfl rfl rfl (by kernel_rfl) rfl) ?_
                    refine AL_gb rfl rfl (x_neq rfl rfl rfl) (fun b72 h72 => ?_)
                    refine AL_p (x_pickT rfl rfl rfl) ?_
                    refine AL_p (x_move rfl rfl) ?_
                    cases b72
                    rotate_left
                    · try simp only [decide_eq_true_eq, decide_eq_false_iff_not, Bool.not_eq_true, Bool.not_eq_false, Bool.not_eq_true', Bool.not_eq_false', beq_iff_eq, bne_iff_ne, beq_eq_false_iff_ne, bne_eq_false_iff_eq, Int.not_lt, Int.not_le, ge_iff_le, gt_iff_lt] at h72
                      refine AL_g rfl rfl (x_field (off := 3) (o' := 3) rfl rfl rfl (by kernel_rfl) rfl) ?_
                      refine AL_g rfl rfl (x_load1 rfl rfl rfl (by kernel_rfl) rfl) ?_
                      refine AL_gb rfl rfl (x_neq rfl rfl rfl) (fun b77 h77 => ?_)
                      refine AL_p (x_pickT rfl rfl rfl) ?_
                      refine AL_nil ?_
                      cases b77
                      rotate_left
                      · try simp only [decide_eq_true_eq, decide_eq_false_iff_not, Bool.not_eq_true, Bool.not_eq_false, Bool.not_eq_true', Bool.not_eq_false', beq_iff_eq, bne_iff_ne, beq_eq_false_iff_ne, bne_eq_false_iff_eq, Int.not_lt, Int.not_le, ge_iff_le, gt_iff_lt] at h77
                        refine AW_condT rfl ?_
                        refine AW_seq ?_
                        refine AW_region ?_
                        refine AL_p (x_assign rfl rfl) ?_
                        refine AL_nil ?_
                        refine AW_ret ?_
                        exact ⟨rn [], ⟨⟨⟨_, rfl, vle_bool (by grind [msgB, noAddB, noNoteB, upToB, entryB])⟩, trivial⟩, trivial, trivial, rfl⟩⟩
                      · try simp only [decide_eq_true_eq, decide_eq_false_iff_not, Bool.not_eq_true, Bool.not_eq_false, Bool.not_eq_true', Bool.not_eq_false', beq_iff_eq, bne_iff_ne, beq_eq_false_iff_ne, bne_eq_false_iff_eq, Int.not_lt, Int.not_le, ge_iff_le, gt_iff_lt] at h77
                        refine AW_condF rfl ?_
                        refine AW_skip ?_
                        refine AW_seq ?_
                        refine AW_seq ?_
                        refine AW_region ?_
                        refine AL_p (x_field (off := 3) (o' := 3) rfl rfl rfl (by kernel_rfl) rfl) ?_
                        refine AL_p (x_load1 rfl rfl rfl (by kernel_rfl) rfl) ?_
                        refine AL_b (x_lss rfl rfl rfl) (fun b81 h81 => ?_)
                        refine AL_p (x_move rfl rfl) ?_
                        cases b81
                        rotate_left
                        · try simp only [decide_eq_true_eq, decide_eq_false_iff_not, Bool.not_eq_true, Bool.not_eq_false, Bool.not_eq_true', Bool.not_eq_false', beq_iff_eq, bne_iff_ne, beq_eq_false_iff_ne, bne_eq_false_iff_eq, Int.not_lt, Int.not_le, ge_iff_le, gt_iff_lt] at h81
                          refine AL_o rfl rfl rfl rfl ?_
                          refine AL_o rfl rfl rfl rfl ?_
                          refine AL_o rfl rfl rfl rfl ?_
                          refine AL_p (x_pickT rfl rfl rfl) ?_
                          refine AL_nil ?_
                          refine AW_condT rfl ?_
                          refine AW_seq ?_
                          refine AW_region ?_
                          refine AL_p (x_assign rfl rfl) ?_
                          refine AL_nil ?_
                          refine AW_ret ?_
                          exact ⟨rn [], ⟨⟨⟨_, rfl, vle_bool (by grind [msgB, noAddB, noNoteB, upToB, entryB])⟩, trivial⟩, trivial, trivial, rfl⟩⟩
                        · try simp only [decide_eq_true_eq, decide_eq_false_iff_not, Bool.not_eq_true, Bool.not_eq_false, Bool.not_eq_true', Bool.not_eq_false', beq_iff_eq, bne_iff_ne, beq_eq_false_iff_ne, bne_eq_false_iff_eq, Int.not_lt, Int.not_le, ge_iff_le, gt_iff_lt] at h81
                          refine AL_g rfl rfl (x_field (off := 3) (o' := 3) rfl rfl rfl (by kernel_rfl) rfl) ?_
                          refine AL_g rfl rfl (x_load1 rfl rfl rfl (by kernel_rfl) rfl) ?_
                          refine AL_gb rfl rfl (x_gtr rfl rfl rfl) (fun b85 h85 => ?_)
                          refine AL_p (x_pickF rfl rfl rfl) ?_
                          refine AL_nil ?_
                          cases b85
                          rotate_left
                          · try simp only [decide_eq_true_eq, decide_eq_false_iff_not, Bool.not_eq_true, Bool.not_eq_false, Bool.not_eq_true', Bool.not_eq_false', beq_iff_eq, bne_iff_ne, beq_eq_false_iff_ne, bne_eq_false_iff_eq, Int.not_lt, Int.not_le, ge_iff_le, gt_iff_lt] at h85
                            refine AW_condT rfl ?_
                            refine AW_seq ?_
                            refine AW_region ?_
                            refine AL_p (x_assign rfl rfl) ?_
                            refine AL_nil ?_
                            refine AW_ret ?_
                            exact ⟨rn [], ⟨⟨⟨_, rfl, vle_bool (by grind [msgB, noAddB, noNoteB, upToB, entryB])⟩, trivial⟩, trivial, trivial, rfl⟩⟩
                          · try simp only [decide_eq_true_eq, decide_eq_false_iff_not, Bool.not_eq_true, Bool.not_eq_false, Bool.not_eq_true', Bool.not_eq_false', beq_iff_eq, bne_iff_ne, beq_eq_false_iff_ne, bne_eq_false_iff_eq, Int.not_lt, Int.not_le, ge_iff_le, gt_iff_lt] at h85
                            refine AW_condF rfl ?_
                            refine AW_skip ?_
                            refine AW_seq ?_
                            refine AW_seq ?_
                            refine AW_region ?_
                            refine AL_p (x_field (off := 0) (o' := 0) rfl rfl rfl (by kernel_rfl) rfl) ?_
                            refine AL_p (x_load1 rfl rfl rfl (by kernel_rfl) rfl) ?_
                            refine AL_b (x_eql rfl rfl rfl) (fun b89 h89 => ?_)
                            refine AL_nil ?_
                            cases b89
                            rotate_left
                            · try simp only [decide_eq_true_eq, decide_eq_false_iff_not, Bool.not_eq_true, Bool.not_eq_false, Bool.not_eq_true', Bool.not_eq_false', beq_iff_eq, bne_iff_ne, beq_eq_false_iff_ne, bne_eq_false_iff_eq, Int.not_lt, Int.not_le, ge_iff_le, gt_iff_lt] at h89
                              refine AW_condT rfl ?_
                              refine AW_seq ?_
                              refine AW_region ?_
                              refine AL_p (x_field (off := 9) (o' := 9) rfl rfl rfl (by kernel_rfl) rfl) ?_
                              refine AL_p (x_loadN (n := 1) rfl rfl rfl (by kernel_rfl) rfl rfl) ?_
                              refine AL_b (x_call0 rfl rfl rfl (headS_c _) rfl rfl) (fun b92 h92 => ?_)
                              refine AL_p (x_assign rfl rfl) ?_
                              refine AL_nil ?_
                              refine AW_ret ?_
                              cases b92
                              rotate_left
                              · try simp only [decide_eq_true_eq, decide_eq_false_iff_not, Bool.not_eq_true, Bool.not_eq_false, Bool.not_eq_true', Bool.not_eq_false', beq_iff_eq, bne_iff_ne, beq_eq_false_iff_ne, bne_eq_false_iff_eq, Int.not_lt, Int.not_le, ge_iff_le, gt_iff_lt] at h92
                                exact ⟨rn [], ⟨⟨⟨_, rfl, vle_bool (by grind [msgB, noAddB, noNoteB, upToB, entryB])⟩, trivial⟩, trivial, trivial, rfl⟩⟩
                              · try simp only [decide_eq_true_eq, decide_eq_false_iff_not, Bool.not_eq_true, Bool.not_eq_false, Bool.not_eq_true', Bool.not_eq_false', beq_iff_eq, bne_iff_ne, beq_eq_false_iff_ne, bne_eq_false_iff_eq, Int.not_lt, Int.not_le, ge_iff_le, gt_iff_lt] at h92
                                exact ⟨rn [], ⟨⟨⟨_, rfl, vle_bool (by grind [msgB, noAddB, noNoteB, upToB, entryB])⟩, trivial⟩, trivial, trivial, rfl⟩⟩
                            · try simp only [decide_eq_true_eq, decide_eq_false_iff_not, Bool.not_eq_true, Bool.not_eq_false, Bool.not_eq_true', Bool.not_eq_false', beq_iff_eq, bne_iff_ne, beq_eq_false_iff_ne, bne_eq_false_iff_eq, Int.not_lt, Int.not_le, ge_iff_le, gt_iff_lt] at h89
                              refine AW_condF rfl ?_
                              refine AW_skip ?_
                              refine AW_seq ?_
                              refine AW_region ?_
                              refine AL_p (x_field (off := 8) (o' := 8) rfl rfl rfl (by kernel_rfl) rfl) ?_
                              refine AL_b (x_load1 rfl rfl rfl (by kernel_rfl) rfl) (fun b94 h94 => ?_)
                              refine AL_p (x_not rfl rfl) ?_
                              refine AL_p (x_move rfl rfl) ?_
                              cases b94
                              rotate_left
                              · try simp only [decide_eq_true_eq, decide_eq_false_iff_not, Bool.not_eq_true, Bool.not_eq_false, Bool.not_eq_true', Bool.not_eq_false', beq_iff_eq, bne_iff_ne, beq_eq_false_iff_ne, bne_eq_false_iff_eq, Int.not_lt, Int.not_le, ge_iff_le, gt_iff_lt] at h94
                                refine AL_o rfl rfl rfl rfl ?_
                                refine AL_o rfl rfl rfl rfl ?_
                                refine AL_o rfl rfl rfl rfl ?_
                                refine AL_o rfl rfl rfl rfl ?_
                                refine AL_o rfl rfl rfl rfl ?_
                                refine AL_p (x_pickF rfl rfl rfl) ?_
                                refine AL_p (x_assign rfl rfl) ?_
                                refine AL_nil ?_
                                refine AW_ret ?_
                                exact ⟨rn [], ⟨⟨⟨_, rfl, vle_bool (by grind [msgB, noAddB, noNoteB, upToB, entryB])⟩, trivial⟩, trivial, trivial, rfl⟩⟩
                              · try simp only [decide_eq_true_eq, decide_eq_false_iff_not, Bool.not_eq_true, Bool.not_eq_false, Bool.not_eq_true', Bool.not_eq_false', beq_iff_eq, bne_iff_ne, beq_eq_false_iff_ne, bne_eq_false_iff_eq, Int.not_lt, Int.not_le, ge_iff_le, gt_iff_lt] at h94
                                refine AL_g rfl rfl (x_field (off := 9) (o' := 9) rfl rfl rfl (by kernel_rfl) rfl) ?_
                                refine AL_g rfl rfl (x_field (off := 0) (o' := 9) rfl rfl rfl (by kernel_rfl) rfl) ?_
                                refine AL_g rfl rfl (x_load1 rfl rfl rfl (by kernel_rfl) rfl) ?_
                                refine AL_g rfl rfl (x_len (E := 3) (n := 1) rfl rfl (by kernel_rfl)) ?_
                                refine AL_gb rfl rfl (x_eql rfl rfl rfl) (fun b101 h101 => ?_)
                                refine AL_p (x_pickT rfl rfl rfl) ?_
                                refine AL_p (x_assign rfl rfl) ?_
                                refine AL_nil ?_
                                refine AW_ret ?_
                                cases b101
                                rotate_left
                                · try simp only [decide_eq_true_eq, decide_eq_false_iff_not, Bool.not_eq_true, Bool.not_eq_false, Bool.not_eq_true', Bool.not_eq_false', beq_iff_eq, bne_iff_ne, beq_eq_false_iff_ne, bne_eq_false_iff_eq, Int.not_lt, Int.not_le, ge_iff_le, gt_iff_lt] at h101
                                  exact ⟨rn [], ⟨⟨⟨_, rfl, vle_bool (by grind [msgB, noAddB, noNoteB, upToB, entryB])⟩, trivial⟩, trivial, trivial, rfl⟩⟩
                                · try simp only [decide_eq_true_eq, decide_eq_false_iff_not, Bool.not_eq_true, Bool.not_eq_false, Bool.not_eq_true', Bool.not_eq_false', beq_iff_eq, bne_iff_ne, beq_eq_false_iff_ne, bne_eq_false_iff_eq, Int.not_lt, Int.not_le, ge_iff_le, gt_iff_lt] at h101
                                  exact ⟨rn [], ⟨⟨⟨_, rfl, vle_bool (by grind [msgB, noAddB, noNoteB, upToB, entryB])⟩, trivial⟩, trivial, trivial, rfl⟩⟩
                    · try simp only [decide_eq_true_eq, decide_eq_false_iff_not, Bool.not_eq_true, Bool.not_eq_false, Bool.not_eq_true', Bool.not_eq_false', beq_iff_eq, bne_iff_ne, beq_eq_false_iff_ne, bne_eq_false_iff_eq, Int.not_lt, Int.not_le, ge_iff_le, gt_iff_lt] at h72
                      refine AL_o rfl rfl rfl rfl ?_
                      refine AL_o rfl rfl rfl rfl ?_
                      refine AL_o rfl rfl rfl rfl ?_
                      refine AL_p (x_pickF rfl rfl rfl) ?_
                      refine AL_nil ?_
                      refine AW_condF rfl ?_
                      refine AW_skip ?_
                      refine AW_seq ?_
                      refine AW_seq ?_
                      refine AW_region ?_
                      refine AL_p (x_field (off := 3) (o' := 3) rfl rfl rfl (by kernel_rfl) rfl) ?_
                      refine AL_p (x_load1 rfl rfl rfl (by kernel_rfl) rfl) ?_
                      refine AL_b (x_lss rfl rfl rfl) (fun b81 h81 => ?_)
                      refine AL_p (x_move rfl rfl) ?_
                      cases b81
                      rotate_left
                      · try simp only [decide_eq_true_eq, decide_eq_false_iff_not, Bool.not_eq_true, Bool.not_eq_false, Bool.not_eq_true', Bool.not_eq_false', beq_iff_eq, bne_iff_ne, beq_eq_false_iff_ne, bne_eq_false_iff_eq, Int.not_lt, Int.not_le, ge_iff_le, gt_iff_lt] at h81
                        refine AL_o rfl rfl rfl rfl ?_
                        refine AL_o rfl rfl rfl rfl ?_
                        refine AL_o rfl rfl rfl rfl ?_
                        refine AL_p (x_pickT rfl rfl rfl) ?_
                        refine AL_nil ?_
                        refine AW_condT rfl ?_
                        refine AW_seq ?_
                        refine AW_region ?_
                        refine AL_p (x_assign rfl rfl) ?_
                        refine AL_nil ?_
                        refine AW_ret ?_
                        exact ⟨rn [], ⟨⟨⟨_, rfl, vle_bool (by grind [msgB, noAddB, noNoteB, upToB, entryB])⟩, trivial⟩, trivial, trivial, rfl⟩⟩
                      · try simp only [decide_eq_true_eq, decide_eq_false_iff_not, Bool.not_eq_true, Bool.not_eq_false, Bool.not_eq_true', Bool.not_eq_false', beq_iff_eq, bne_iff_ne, beq_eq_false_iff_ne, bne_eq_false_iff_eq, Int.not_lt, Int.not_le, ge_iff_le, gt_iff_lt] at h81
                        refine AL_g rfl rfl (x_field (off := 3) (o' := 3) rfl rfl rfl (by kernel_rfl) rfl) ?_
                        refine AL_g rfl rfl (x_load1 rfl rfl rfl (by kernel_rfl) rfl) ?_
                        refine AL_gb rfl rfl (x_gtr rfl rfl rfl) (fun b85 h85 => ?_)
                        refine AL_p (x_pickF rfl rfl rfl) ?_
                        refine AL_nil ?_
                        cases b85
                        rotate_left
                        · try simp only [decide_eq_true_eq, decide_eq_false_iff_not, Bool.not_eq_true, Bool.not_eq_false, Bool.not_eq_true', Bool.not_eq_false', beq_iff_eq, bne_iff_ne, beq_eq_false_iff_ne, bne_eq_false_iff_eq, Int.not_lt, Int.not_le, ge_iff_le, gt_iff_lt] at h85
                          refine AW_condT rfl ?_
                          refine AW_seq ?_
                          refine AW_region ?_
                          refine AL_p (x_assign rfl rfl) ?_
                          refine AL_nil ?_
                          refine AW_ret ?_
                          exact ⟨rn [], ⟨⟨⟨_, rfl, vle_bool (by grind [msgB, noAddB, noNoteB, upToB, entryB])⟩, trivial⟩, trivial, trivial, rfl⟩⟩
                        · try simp only [decide_eq_true_eq, decide_eq_false_iff_not, Bool.not_eq_true, Bool.not_eq_false, Bool.not_eq_true', Bool.not_eq_false', beq_iff_eq, bne_iff_ne, beq_eq_false_iff_ne, bne_eq_false_iff_eq, Int.not_lt, Int.not_le, ge_iff_le, gt_iff_lt] at h85
                          refine AW_condF rfl ?_
                          refine AW_skip ?_
                          refine AW_seq ?_
                          refine AW_seq ?_
                          refine AW_region ?_
                          refine AL_p (x_field (off := 0) (o' := 0) rfl rfl rfl (by kernel_rfl) rfl) ?_
                          refine AL_p (x_load1 rfl rfl rfl (by kernel_rfl) rfl) ?_
                          refine AL_b (x_eql rfl rfl rfl) (fun b89 h89 => ?_)
                          refine AL_nil ?_
                          cases b89
                          rotate_left
                          · try simp only [decide_eq_true_eq, decide_eq_false_iff_not, Bool.not_eq_true, Bool.not_eq_false, Bool.not_eq_true', Bool.not_eq_false', beq_iff_eq, bne_iff_ne, beq_eq_false_iff_ne, bne_eq_false_iff_eq, Int.not_lt, Int.not_le, ge_iff_le, gt_iff_lt] at h89
                            refine AW_condT rfl ?_
                            refine AW_seq ?_
                            refine AW_region ?_
                            refine AL_p (x_field (off := 9) (o' := 9) rfl rfl rfl (by kernel_rfl) rfl) ?_
                            refine AL_p (x_loadN (n := 1) rfl rfl rfl (by kernel_rfl) rfl rfl) ?_
                            refine AL_b (x_call0 rfl rfl rfl (headS_c _) rfl rfl) (fun b92 h92 => ?_)
                            refine AL_p (x_assign rfl rfl) ?_
                            refine AL_nil ?_
                            refine AW_ret ?_
                            cases b92
                            rotate_left
                            · try simp only [decide_eq_true_eq, decide_eq_false_iff_not, Bool.not_eq_true, Bool.not_eq_false, Bool.not_eq_true', Bool.not_eq_false', beq_iff_eq, bne_iff_ne, beq_eq_false_iff_ne, bne_eq_false_iff_eq, Int.not_lt, Int.not_le, ge_iff_le, gt_iff_lt] at h92
                              exact ⟨rn [], ⟨⟨⟨_, rfl, vle_bool (by grind [msgB, noAddB, noNoteB, upToB, entryB])⟩, trivial⟩, trivial, trivial, rfl⟩⟩
                            · try simp only [decide_eq_true_eq, decide_eq_false_iff_not, Bool.not_eq_true, Bool.not_eq_false, Bool.not_eq_true', Bool.not_eq_false', beq_iff_eq, bne_iff_ne, beq_eq_false_iff_ne, bne_eq_false_iff_eq, Int.not_lt, Int.not_le, ge_iff_le, gt_iff_lt] at h92
                              exact ⟨rn [], ⟨⟨⟨_, rfl, vle_bool (by grind [msgB, noAddB, noNoteB, upToB, entryB])⟩, trivial⟩, trivial, trivial, rfl⟩⟩
                          · try simp only [decide_eq_true_eq, decide_eq_false_iff_not, Bool.not_eq_true, Bool.not_eq_false, Bool.not_eq_true', Bool.not_eq_false', beq_iff_eq, bne_iff_ne, beq_eq_false_iff_ne, bne_eq_false_iff_eq, Int.not_lt, Int.not_le, ge_iff_le, gt_iff_lt] at h89
                            refine AW_condF rfl ?_
                            refine AW_skip ?_
                            refine AW_seq ?_
                            refine AW_region ?_
                            refine AL_p (x_field (off := 8) (o' := 8) rfl rfl rfl (by kernel_rfl) rfl) ?_
                            refine AL_b (x_load1 rfl rfl rfl (by kernel_rfl) rfl) (fun b94 h94 => ?_)
                            refine AL_p (x_not rfl rfl) ?_
                            refine AL_p (x_move rfl rfl) ?_
                            cases b94
                            rotate_left
                            · try simp only [decide_eq_true_eq, decide_eq_false_iff_not, Bool.not_eq_true, Bool.not_eq_false, Bool.not_eq_true', Bool.not_eq_false', beq_iff_eq, bne_iff_ne, beq_eq_false_iff_ne, bne_eq_false_iff_eq, Int.not_lt, Int.not_le, ge_iff_le, gt_iff_lt] at h94
                              refine AL_o rfl rfl rfl rfl ?_
                              refine AL_o rfl rfl rfl rfl ?_
                              refine AL_o rfl rfl rfl rfl ?_
                              refine AL_o rfl rfl rfl rfl ?_
                              refine AL_o rfl rfl rfl rfl ?_
                              refine AL_p (x_pickF rfl rfl rfl) ?_
                              refine AL_p (x_assign rfl rfl) ?_
                              refine AL_nil ?_
                              refine AW_ret ?_
                              exact ⟨rn [], ⟨⟨⟨_, rfl, vle_bool (by grind [msgB, noAddB, noNoteB, upToB, entryB])⟩, trivial⟩, trivial, trivial, rfl⟩⟩
                            · try simp only [decide_eq_true_eq, decide_eq_false_iff_not, Bool.not_eq_true, Bool.not_eq_false, Bool.not_eq_true', Bool.not_eq_false', beq_iff_eq, bne_iff_ne, beq_eq_false_iff_ne, bne_eq_false_iff_eq, Int.not_lt, Int.not_le, ge_iff_le, gt_iff_lt] at h94
                              refine AL_g rfl rfl (x_field (off := 9) (o' := 9) rfl rfl rfl (by kernel_rfl) rfl) ?_
                              refine AL_g rfl rfl (x_field (off := 0) (o' := 9) rfl rfl rfl (by kernel_rfl) rfl) ?_
                              refine AL_g rfl rfl (x_load1 rfl rfl rfl (by kernel_rfl) rfl) ?_
                              refine AL_g rfl rfl (x_len (E := 3) (n := 1) rfl rfl (by kernel_rfl)) ?_
                              refine AL_gb rfl rfl (x_eql rfl rfl rfl) (fun b101 h101 => ?_)
                              refine AL_p (x_pickT rfl rfl rfl) ?_
                              refine AL_p (x_assign rfl rfl) ?_
                              refine AL_nil ?_
                              refine AW_ret ?_
                              cases b101
                              rotate_left
                              · try simp only [decide_eq_true_eq, decide_eq_false_iff_not, Bool.not_eq_true, Bool.not_eq_false, Bool.not_eq_true', Bool.not_eq_false', beq_iff_eq, bne_iff_ne, beq_eq_false_iff_ne, bne_eq_false_iff_eq, Int.not_lt, Int.not_le, ge_iff_le, gt_iff_lt] at h101
                                exact ⟨rn [], ⟨⟨⟨_, rfl, vle_bool (by grind [msgB, noAddB, noNoteB, upToB, entryB])⟩, trivial⟩, trivial, trivial, rfl⟩⟩
                              · try simp only [decide_eq_true_eq, decide_eq_false_iff_not, Bool.not_eq_true, Bool.not_eq_false, Bool.not_eq_true', Bool.not_eq_false', beq_iff_eq, bne_iff_ne, beq_eq_false_iff_ne, bne_eq_false_iff_eq, Int.not_lt, Int.not_le, ge_iff_le, gt_iff_lt] at h101
                                exact ⟨rn [], ⟨⟨⟨_, rfl, vle_bool (by grind [msgB, noAddB, noNoteB, upToB, entryB])⟩, trivial⟩, trivial, trivial, rfl⟩⟩
                  · try simp only [decide_eq_true_eq, decide_eq_false_iff_not, Bool.not_eq_true, Bool.not_eq_false, Bool.not_eq_true', Bool.not_eq_false', beq_iff_eq, bne_iff_ne, beq_eq_false_iff_ne, bne_eq_false_iff_eq, Int.not_lt, Int.not_le, ge_iff_le, gt_iff_lt] at h68
                    refine AL_o rfl rfl rfl rfl ?_
                    refine AL_o rfl rfl rfl rfl ?_
                    refine AL_o rfl rfl rfl rfl ?_
                    refine AL_p (x_pickF rfl rfl rfl) ?_
                    refine AL_p (x_move rfl rfl) ?_
                    refine AL_o rfl rfl rfl rfl ?_
                    refine AL_o rfl rfl rfl rfl ?_
                    refine AL_o rfl rfl rfl rfl ?_
                    refine AL_p (x_pickF rfl rfl rfl) ?_
                    refine AL_nil ?_
                    refine AW_condF rfl ?_
                    refine AW_skip ?_
                    refine AW_seq ?_
                    refine AW_seq ?_
                    refine AW_region ?_
                    refine AL_p (x_field (off := 3) (o' := 3) rfl rfl rfl (by kernel_rfl) rfl) ?_
                    refine AL_p (x_load1 rfl rfl rfl (by kernel_rfl) rfl) ?_
                    refine AL_b (x_lss rfl rfl rfl) (fun b81 h81 => ?_)
                    refine AL_p (x_move rfl rfl) ?_
                    cases b81
                    rotate_left
                    · try simp only [decide_eq_true_eq, decide_eq_false_iff_not, Bool.not_eq_true, Bool.not_eq_false, Bool.not_eq_true', Bool.not_eq_false', beq_iff_eq, bne_iff_ne, beq_eq_false_iff_ne, bne_eq_false_iff_eq, Int.not_lt, Int.not_le, ge_iff_le, gt_iff_lt] at h81
                      refine AL_o rfl rfl rfl rfl ?_
                      refine AL_o rfl rfl rfl rfl ?_
                      refine AL_o rfl rfl rfl rfl ?_
                      refine AL_p (x_pickT rfl rfl rfl) ?_
                      refine AL_nil ?_
                      refine AW_condT rfl ?_
                      refine AW_seq ?_
                      refine AW_region ?_
                      refine AL_p (x_assign rfl rfl) ?_
                      refine AL_nil ?_
                      refine AW_ret ?_
                      exact ⟨rn [], ⟨⟨⟨_, rfl, vle_bool (by grind [msgB, noAddB, noNoteB, upToB, entryB])⟩, trivial⟩, trivial, trivial, rfl⟩⟩
                    · try simp only [decide_eq_true_eq, decide_eq_false_iff_not, Bool.not_eq_true, Bool.not_eq_false, Bool.not_eq_true', Bool.not_eq_false', beq_iff_eq, bne_iff_ne, beq_eq_false_iff_ne, bne_eq_false_iff_eq, Int.not_lt, Int.not_le, ge_iff_le, gt_iff_lt] at h81
                      refine AL_g rfl rfl (x_field (off := 3) (o' := 3) rfl rfl rfl (by kernel_rfl) rfl) ?_
                      refine AL_g rfl rfl (x_load1 rfl rfl rfl (by kernel_rfl) rfl) ?_
                      refine AL_gb rfl rfl (x_gtr rfl rfl rfl) (fun b85 h85 => ?_)
                      refine AL_p (x_pickF rfl rfl rfl) ?_
                      refine AL_nil ?_
                      cases b85
                      rotate_left
                      · try simp only [decide_eq_true_eq, decide_eq_false_iff_not, Bool.not_eq_true, Bool.not_eq_false, Bool.not_eq_true', Bool.not_eq_false', beq_iff_eq, bne_iff_ne, beq_eq_false_iff_ne, bne_eq_false_iff_eq, Int.not_lt, Int.not_le, ge_iff_le, gt_iff_lt] at h85
                        refine AW_condT rfl ?_
                        refine AW_seq ?_
                        refine AW_region ?_
                        refine AL_p (x_assign rfl rfl) ?_
                        refine AL_nil ?_
                        refine AW_ret ?_
                        exact ⟨rn [], ⟨⟨⟨_, rfl, vle_bool (by grind [msgB, noAddB, noNoteB, upToB, entryB])⟩, trivial⟩, trivial, trivial, rfl⟩⟩
                      · try simp only [decide_eq_true_eq, decide_eq_false_iff_not, Bool.not_eq_true, Bool.not_eq_false, Bool.not_eq_true', Bool.not_eq_false', beq_iff_eq, bne_iff_ne, beq_eq_false_iff_ne, bne_eq_false_iff_eq, Int.not_lt, Int.not_le, ge_iff_le, gt_iff_lt] at h85
                        refine AW_condF rfl ?_
                        refine AW_skip ?_
                        refine AW_seq ?_
                        refine AW_seq ?_
                        refine AW_region ?_
                        refine AL_p (x_field (off := 0) (o' := 0) rfl rfl rfl (by kernel_rfl) rfl) ?_
                        refine AL_p (x_load1 rfl rfl rfl (by kernel_rfl) rfl) ?_
                        refine AL_b (x_eql rfl rfl rfl) (fun b89 h89 => ?_)
                        refine AL_nil ?_
                        cases b89
                        rotate_left
                        · try simp only [decide_eq_true_eq, decide_eq_false_iff_not, Bool.not_eq_true, Bool.not_eq_false, Bool.not_eq_true', Bool.not_eq_false', beq_iff_eq, bne_iff_ne, beq_eq_false_iff_ne, bne_eq_false_iff_eq, Int.not_lt, Int.not_le, ge_iff_le, gt_iff_lt] at h89
                          refine AW_condT rfl ?_
                          refine AW_seq ?_
                          refine AW_region ?_
                          refine AL_p (x_field (off := 9) (o' := 9) rfl rfl rfl (by kernel_rfl) rfl) ?_
                          refine AL_p (x_loadN (n := 1) rfl rfl rfl (by kernel_rfl) rfl rfl) ?_
                          refine AL_b (x_call0 rfl rfl rfl (headS_c _) rfl rfl) (fun b92 h92 => ?_)
                          refine AL_p (x_assign rfl rfl) ?_
                          refine AL_nil ?_
                          refine AW_ret ?_
                          cases b92
                          rotate_left
                          · try simp only [decide_eq_true_eq, decide_eq_false_iff_not, Bool.not_eq_true, Bool.not_eq_false, Bool.not_eq_true', Bool.not_eq_false', beq_iff_eq, bne_iff_ne, beq_eq_false_iff_ne, bne_eq_false_iff_eq, Int.not_lt, Int.not_le, ge_iff_le, gt_iff_lt] at h92
                            exact ⟨rn [], ⟨⟨⟨_, rfl, vle_bool (by grind [msgB, noAddB, noNoteB, upToB, entryB])⟩, trivial⟩, trivial, trivial, rfl⟩⟩
                          · try simp only [decide_eq_true_eq, decide_eq_false_iff_not, Bool.not_eq_true, Bool.not_eq_false, Bool.not_eq_true', Bool.not_eq_false', beq_iff_eq, bne_iff_ne, beq_eq_false_iff_ne, bne_eq_false_iff_eq, Int.not_lt, Int.not_le, ge_iff_le, gt_iff_lt] at h92
                            exact ⟨rn [], ⟨⟨⟨_, rfl, vle_bool (by grind [msgB, noAddB, noNoteB, upToB, entryB])⟩, trivial⟩, trivial, trivial, rfl⟩⟩
                        · try simp only [decide_eq_true_eq, decide_eq_false_iff_not, Bool.not_eq_true, Bool.not_eq_false, Bool.not_eq_true', Bool.not_eq_false', beq_iff_eq, bne_iff_ne, beq_eq_false_iff_ne, bne_eq_false_iff_eq, Int.not_lt, Int.not_le, ge_iff_le, gt_iff_lt] at h89
                          refine AW_condF rfl ?_
                          refine AW_skip ?_
                          refine AW_seq ?_
                          refine AW_region ?_
                          refine AL_p (x_field (off := 8) (o' := 8) rfl rfl rfl (by kernel_rfl) rfl) ?_
                          refine AL_b (x_load1 rfl rfl rfl (by kernel_rfl) rfl) (fun b94 h94 => ?_)
                          refine AL_p (x_not rfl rfl) ?_
                          refine AL_p (x_move rfl rfl) ?_
                          cases b94
                          rotate_left
                          · try simp only [decide_eq_true_eq, decide_eq_false_iff_not, Bool.not_eq_true, Bool.not_eq_false, Bool.not_eq_true', Bool.not_eq_false', beq_iff_eq, bne_iff_ne, beq_eq_false_iff_ne, bne_eq_false_iff_eq, Int.not_lt, Int.not_le, ge_iff_le, gt_iff_lt] at h94
                            refine AL_o rfl rfl rfl rfl ?_
                            refine AL_o rfl rfl rfl rfl ?_
                            refine AL_o rfl rfl rfl rfl ?_
                            refine AL_o rfl rfl rfl rfl ?_
                            refine AL_o rfl rfl rfl rfl ?_
                            refine AL_p (x_pickF rfl rfl rfl) ?_
                            refine AL_p (x_assign rfl rfl) ?_
                            refine AL_nil ?_
                            refine AW_ret ?_
                            exact ⟨rn [], ⟨⟨⟨_, rfl, vle_bool (by grind [msgB, noAddB, noNoteB, upToB, entryB])⟩, trivial⟩, trivial, trivial, rfl⟩⟩
                          · try simp only [decide_eq_true_eq, decide_eq_false_iff_not, Bool.not_eq_true, Bool.not_eq_false, Bool.not_eq_true', Bool.not_eq_false', beq_iff_eq, bne_iff_ne, beq_eq_false_iff_ne, bne_eq_false_iff_eq, Int.not_lt, Int.not_le, ge_iff_le, gt_iff_lt] at h94
                            refine AL_g rfl rfl (x_field (off := 9) (o' := 9) rfl rfl rfl (by kernel_rfl) rfl) ?_
                            refine AL_g rfl rfl (x_field (off := 0) (o' := 9) rfl rfl rfl (by kernel_rfl) rfl) ?_
                            refine AL_g rfl rfl (x_load1 rfl rfl rfl (by kernel_rfl) rfl) ?_
                            refine AL_g rfl rfl (x_len (E := 3) (n := 1) rfl rfl (by kernel_rfl)) ?_
                            refine AL_gb rfl rfl (x_eql rfl rfl rfl) (fun b101 h101 => ?_)
                            refine AL_p (x_pickT rfl rfl rfl) ?_
                            refine AL_p (x_assign rfl rfl) ?_
                            refine AL_nil ?_
                            refine AW_ret ?_
                            cases b101
                            rotate_left
                            · try simp only [decide_eq_true_eq, decide_eq_false_iff_not, Bool.not_eq_true, Bool.not_eq_false, Bool.not_eq_true', Bool.not_eq_false', beq_iff_eq, bne_iff_ne, beq_eq_false_iff_ne, bne_eq_false_iff_eq, Int.not_lt, Int.not_le, ge_iff_le, gt_iff_lt] at h101
                              exact ⟨rn [], ⟨⟨⟨_, rfl, vle_bool (by grind [msgB, noAddB, noNoteB, upToB, entryB])⟩, trivial⟩, trivial, trivial, rfl⟩⟩
                            · try simp only [decide_eq_true_eq, decide_eq_false_iff_not, Bool.not_eq_true, Bool.not_eq_false, Bool.not_eq_true', Bool.not_eq_false', beq_iff_eq, bne_iff_ne, beq_eq_false_iff_ne, bne_eq_false_iff_eq, Int.not_lt, Int.not_le, ge_iff_le, gt_iff_lt] at h101
                              exact ⟨rn [], ⟨⟨⟨_, rfl, vle_bool (by grind [msgB, noAddB, noNoteB, upToB, entryB])⟩, trivial⟩, trivial, trivial, rfl⟩⟩
                · try simp only [decide_eq_true_eq, decide_eq_false_iff_not, Bool.not_eq_true, Bool.not_eq_false, Bool.not_eq_true', Bool.not_eq_false', beq_iff_eq, bne_iff_ne, beq_eq_false_iff_ne, bne_eq_false_iff_eq, Int.not_lt, Int.not_le, ge_iff_le, gt_iff_lt] at h41
                  refine AW_condT rfl ?_
                  refine AW_seq ?_
                  refine AW_region ?_
                  refine AL_p (x_assign rfl rfl) ?_
                  refine AL_nil ?_
                  refine AW_ret ?_
                  exact ⟨rn [], ⟨⟨⟨_, rfl, vle_bool (by grind [msgB, noAddB, noNoteB, upToB, entryB])⟩, trivial⟩, trivial, trivial, rfl⟩⟩
              · try simp only [decide_eq_true_eq, decide_eq_false_iff_not, Bool.not_eq_true, Bool.not_eq_false, Bool.not_eq_true', Bool.not_eq_false', beq_iff_eq, bne_iff_ne, beq_eq_false_iff_ne, bne_eq_false_iff_eq, Int.not_lt, Int.not_le, ge_iff_le, gt_iff_lt] at h31
                refine AW_condF rfl ?_
                refine AW_seq ?_
                refine AW_region ?_
                refine AL_p (x_field (off := 4) (o' := 4) rfl rfl rfl (by kernel_rfl) rfl) ?_
                refine AL_p (x_load1 rfl rfl rfl (by kernel_rfl) rfl) ?_
                refine AL_b (x_neq rfl rfl rfl) (fun b45 h45 => ?_)
                refine AL_p (x_move rfl rfl) ?_
                cases b45
                rotate_left
                · try simp only [decide_eq_true_eq, decide_eq_false_iff_not, Bool.not_eq_true, Bool.not_eq_false, Bool.not_eq_true', Bool.not_eq_false', beq_iff_eq, bne_iff_ne, beq_eq_false_iff_ne, bne_eq_false_iff_eq, Int.not_lt, Int.not_le, ge_iff_le, gt_iff_lt] at h45
                  refine AL_o rfl rfl rfl rfl ?_
                  refine AL_o rfl rfl rfl rfl ?_
                  refine AL_o rfl rfl rfl rfl ?_
                  refine AL_o rfl rfl rfl rfl ?_
                  refine AL_o rfl rfl rfl rfl ?_
                  refine AL_p (x_pickT rfl rfl rfl) ?_
                  refine AL_p (x_move rfl rfl) ?_
                  refine AL_o rfl rfl rfl rfl ?_
                  refine AL_o rfl rfl rfl rfl ?_
                  refine AL_o rfl rfl rfl rfl ?_
                  refine AL_o rfl rfl rfl rfl ?_
                  refine AL_o rfl rfl rfl rfl ?_
                  refine AL_p (x_pickT rfl rfl rfl) ?_
                  refine AL_p (x_move rfl rfl) ?_
                  refine AL_o rfl rfl rfl rfl ?_
                  refine AL_o rfl rfl rfl rfl ?_
                  refine AL_o rfl rfl rfl rfl ?_
                  refine AL_o rfl rfl rfl rfl ?_
                  refine AL_p (x_pickT rfl rfl rfl) ?_
                  refine AL_nil ?_
                  refine AW_condT rfl ?_
                  refine AW_seq ?_
                  refine AW_region ?_
                  refine AL_p (x_assign rfl rfl) ?_
                  refine AL_nil ?_
                  refine AW_ret ?_
                  exact ⟨rn [], ⟨⟨⟨_, rfl, vle_bool (by grind [msgB, noAddB, noNoteB, upToB, entryB])⟩, trivial⟩, trivial, trivial, rfl⟩⟩
                · try simp only [decide_eq_true_eq, decide_eq_false_iff_not, Bool.not_eq_true, Bool.not_eq_false, Bool.not_eq_true', Bool.not_eq_false', beq_iff_eq, bne_iff_ne, beq_eq_false_iff_ne, bne_eq_false_iff_eq, Int.not_lt, Int.not_le, ge_iff_le, gt_iff_lt] at h45
                  refine AL_g rfl rfl (x_field (off := 5) (o' := 5) rfl rfl rfl (by kernel_rfl) rfl) ?_
                  refine AL_g rfl rfl (x_field (off := 0) (o' := 5) rfl rfl rfl (by kernel_rfl) rfl) ?_
                  refine AL_g rfl rfl (x_load1 rfl rfl rfl (by kernel_rfl) rfl) ?_
                  refine AL_g rfl rfl (x_len (E := 3) (n := 1) rfl rfl (by kernel_rfl)) ?_
                  refine AL_gb rfl rfl (x_gtr rfl rfl rfl) (fun b51 h51 => ?_)
                  refine AL_p (x_pickF rfl rfl rfl) ?_
                  refine AL_p (x_move rfl rfl) ?_
                  cases b51
                  rotate_left
                  · try simp only [decide_eq_true_eq, decide_eq_false_iff_not, Bool.not_eq_true, Bool.not_eq_false, Bool.not_eq_true', Bool.not_eq_false', beq_iff_eq, bne_iff_ne, beq_eq_false_iff_ne, bne_eq_false_iff_eq, Int.not_lt, Int.not_le, ge_iff_le, gt_iff_lt] at h51
                    refine AL_o rfl rfl rfl rfl ?_
                    refine AL_o rfl rfl rfl rfl ?_
                    refine AL_o rfl rfl rfl rfl ?_
                    refine AL_o rfl rfl rfl rfl ?_
                    refine AL_o rfl rfl rfl rfl ?_
                    refine AL_p (x_pickT rfl rfl rfl) ?_
                    refine AL_p (x_move rfl rfl) ?_
                    refine AL_o rfl rfl rfl rfl ?_
                    refine AL_o rfl rfl rfl rfl ?_
                    refine AL_o rfl rfl rfl rfl ?_
                    refine AL_o rfl rfl rfl rfl ?_
                    refine AL_p (x_pickT rfl rfl rfl) ?_
                    refine AL_nil ?_
                    refine AW_condT rfl ?_
                    refine AW_seq ?_
                    refine AW_region ?_
                    refine AL_p (x_assign rfl rfl) ?_
                    refine AL_nil ?_
                    refine AW_ret ?_
                    exact ⟨rn [], ⟨⟨⟨_, rfl, vle_bool (by grind [msgB, noAddB, noNoteB, upToB, entryB])⟩, trivial⟩, trivial, trivial, rfl⟩⟩
                  · try simp only [decide_eq_true_eq, decide_eq_false_iff_not, Bool.not_eq_true, Bool.not_eq_false, Bool.not_eq_true', Bool.not_eq_false', beq_iff_eq, bne_iff_ne, beq_eq_false_iff_ne, bne_eq_false_iff_eq, Int.not_lt, Int.not_le, ge_iff_le, gt_iff_lt] at h51
                    refine AL_g rfl rfl (x_field (off := 5) (o' := 5) rfl rfl rfl (by kernel_rfl) rfl) ?_
                    refine AL_g rfl rfl (x_field (off := 1) (o' := 6) rfl rfl rfl (by kernel_rfl) rfl) ?_
                    refine AL_g rfl rfl (x_load1 rfl rfl rfl (by kernel_rfl) rfl) ?_
                    refine AL_g rfl rfl (x_len (E := 3) (n := 1) rfl rfl (by kernel_rfl)) ?_
                    refine AL_gb rfl rfl (x_gtr rfl rfl rfl) (fun b58 h58 => ?_)
                    refine AL_p (x_pickF rfl rfl rfl) ?_
                    refine AL_p (x_move rfl rfl) ?_
                    cases b58
                    rotate_left
                    · try simp only [decide_eq_true_eq, decide_eq_false_iff_not, Bool.not_eq_true, Bool.not_eq_false, Bool.not_eq_true', Bool.not_eq_false', beq_iff_eq, bne_iff_ne, beq_eq_false_iff_ne, bne_eq_false_iff_eq, Int.not_lt, Int.not_le, ge_iff_le, gt_iff_lt] at h58
                      refine AL_o rfl rfl rfl rfl ?_
                      refine AL_o rfl rfl rfl rfl ?_
                      refine AL_o rfl rfl rfl rfl ?_
                      refine AL_o rfl rfl rfl rfl ?_
                      refine AL_p (x_pickT rfl rfl rfl) ?_
                      refine AL_nil ?_
                      refine AW_condT rfl ?_
                      refine AW_seq ?_
                      refine AW_region ?_
                      refine AL_p (x_assign rfl rfl) ?_
                      refine AL_nil ?_
                      refine AW_ret ?_
                      exact ⟨rn [], ⟨⟨⟨_, rfl, vle_bool (by grind [msgB, noAddB, noNoteB, upToB, entryB])⟩, trivial⟩, trivial, trivial, rfl⟩⟩
                    · try simp only [decide_eq_true_eq, decide_eq_false_iff_not, Bool.not_eq_true, Bool.not_eq_false, Bool.not_eq_true', Bool.not_eq_false', beq_iff_eq, bne_iff_ne, beq_eq_false_iff_ne, bne_eq_false_iff_eq, Int.not_lt, Int.not_le, ge_iff_le, gt_iff_lt] at h58
                      refine AL_g rfl rfl (x_field (off := 7) (o' := 7) rfl rfl rfl (by kernel_rfl) rfl) ?_
                      refine AL_g rfl rfl (x_load1 rfl rfl rfl (by kernel_rfl) rfl) ?_
                      refine AL_g rfl rfl (x_len (E := 114) (n := 3) rfl rfl (by kernel_rfl)) ?_
                      refine AL_gb rfl rfl (x_gtr rfl rfl rfl) (fun b64 h64 => ?_)
                      refine AL_p (x_pickF rfl rfl rfl) ?_
                      refine AL_nil ?_
                      cases b64
                      rotate_left
                      · try simp only [decide_eq_true_eq, decide_eq_false_iff_not, Bool.not_eq_true, Bool.not_eq_false, Bool.not_eq_true', Bool.not_eq_false', beq_iff_eq, bne_iff_ne, beq_eq_false_iff_ne, bne_eq_false_iff_eq, Int.not_lt, Int.not_le, ge_iff_le, gt_iff_lt] at h64
                        refine AW_condT rfl ?_
                        refine AW_seq ?_
                        refine AW_region ?_
                        refine AL_p (x_assign rfl rfl) ?_
                        refine AL_nil ?_
                        refine AW_ret ?_
                        exact ⟨rn [], ⟨⟨⟨_, rfl, vle_bool (by grind [msgB, noAddB, noNoteB, upToB, entryB])⟩, trivial⟩, trivial, trivial, rfl⟩⟩
                      · try simp only [decide_eq_true_eq, decide_eq_false_iff_not, Bool.not_eq_true, Bool.not_eq_false, Bool.not_eq_true', Bool.not_eq_false', beq_iff_eq, bne_iff_ne, beq_eq_false_iff_ne, bne_eq_false_iff_eq, Int.not_lt, Int.not_le, ge_iff_le, gt_iff_lt] at h64
                        refine AW_condF rfl ?_
                        refine AW_skip ?_
                        refine AW_seq ?_
                        refine AW_seq ?_
                        refine AW_region ?_
                        refine AL_p (x_field (off := 0) (o' := 0) rfl rfl rfl (by kernel_rfl) rfl) ?_
                        refine AL_p (x_load1 rfl rfl rfl (by kernel_rfl) rfl) ?_
                        refine AL_b (x_neq rfl rfl rfl) (fun b68 h68 => ?_)
                        refine AL_p (x_move rfl rfl) ?_
                        cases b68
                        rotate_left
                        · try simp only [decide_eq_true_eq, decide_eq_false_iff_not, Bool.not_eq_true, Bool.not_eq_false, Bool.not_eq_true', Bool.not_eq_false', beq_iff_eq, bne_iff_ne, beq_eq_false_iff_ne, bne_eq_false_iff_eq, Int.not_lt, Int.not_le, ge_iff_le, gt_iff_lt] at h68
                          refine AL_g rfl rfl (x_field (off := 0) (o' := 0) rfl rfl rfl (by kernel_rfl) rfl) ?_
                          refine AL_g rfl rfl (x_load1 rfl rfl rfl (by kernel_rfl) rfl) ?_
                          refine AL_gb rfl rfl (x_neq rfl rfl rfl) (fun b72 h72 => ?_)
                          refine AL_p (x_pickT rfl rfl rfl) ?_
                          refine AL_p (x_move rfl rfl) ?_
                          cases b72
                          rotate_left
                          · try simp only [decide_eq_true_eq, decide_eq_false_iff_not, Bool.not_eq_true, Bool.not_eq_false, Bool.not_eq_true', Bool.not_eq_false', beq_iff_eq, bne_iff_ne, beq_eq_false_iff_ne, bne_eq_false_iff_eq, Int.not_lt, Int.not_le, ge_iff_le, gt_iff_lt] at h72
                            refine AL_g rfl rfl (x_field (off := 3) (o' := 3) rfl rfl rfl (by kernel_rfl) rfl) ?_
                            refine AL_g rfl rfl (x_load1 rfl rfl rfl (by kernel_rfl) rfl) ?_
                            refine AL_gb rfl rfl (x_neq rfl rfl rfl) (fun b77 h77 => ?_)
                            refine AL_p (x_pickT rfl rfl rfl) ?_
                            refine AL_nil ?_
                            cases b77
                            rotate_left
                            · try simp only [decide_eq_true_eq, decide_eq_false_iff_not, Bool.not_eq_true, Bool.not_eq_false, Bool.not_eq_true', Bool.not_eq_false', beq_iff_eq, bne_iff_ne, beq_eq_false_iff_ne, bne_eq_false_iff_eq, Int.not_lt, Int.not_le, ge_iff_le, gt_iff_lt] at h77
                              refine AW_condT rfl ?_
                              refine AW_seq ?_
                              refine AW_region ?_
                              refine AL_p (x_assign rfl rfl) ?_
                              refine AL_nil ?_
                              refine AW_ret ?_
                              exact ⟨rn [], ⟨⟨⟨_, rfl, vle_bool (by grind [msgB, noAddB, noNoteB, upToB, entryB])⟩, trivial⟩, trivial, trivial, rfl⟩⟩
                            · try simp only [decide_eq_true_eq, decide_eq_false_iff_not, Bool.not_eq_true, Bool.not_eq_false, Bool.not_eq_true', Bool.not_eq_false', beq_iff_eq, bne_iff_ne, beq_eq_false_iff_ne, bne_eq_false_iff_eq, Int.not_lt, Int.not_le, ge_iff_le, gt_iff_lt] at h77
                              refine AW_condF rfl ?_
                              refine AW_skip ?_
                              refine AW_seq ?_
                              refine AW_seq ?_
                              refine AW_region ?_
                              refine AL_p (x_field (off := 3) (o' := 3) rfl rfl rfl (by kernel_rfl) rfl) ?_
                              refine AL_p (x_load1 rfl rfl rfl (by kernel_rfl) rfl) ?_
                              refine AL_b (x_lss rfl rfl rfl) (fun b81 h81 => ?_)
                              refine AL_p (x_move rfl rfl) ?_
                              cases b81
                              rotate_left
                              · try simp only [decide_eq_true_eq, decide_eq_false_iff_not, Bool.not_eq_true, Bool.not_eq_false, Bool.not_eq_true', Bool.not_eq_false', beq_iff_eq, bne_iff_ne, beq_eq_false_iff_ne, bne_eq_false_iff_eq, Int.not_lt, Int.not_le, ge_iff_le, gt_iff_lt] at h81
                                refine AL_o rfl rfl rfl rfl ?_
                                refine AL_o rfl rfl rfl rfl ?_
                                refine AL_o rfl rfl rfl rfl ?_
                                refine AL_p (x_pickT rfl rfl rfl) ?_
                                refine AL_nil ?_
                                refine AW_condT rfl ?_
                                refine AW_seq ?_
                                refine AW_region ?_
                                refine AL_p (x_assign rfl rfl) ?_
                                refine AL_nil ?_
                                refine AW_ret ?_
                                exact ⟨rn [], ⟨⟨⟨_, rfl, vle_bool (by grind [msgB, noAddB, noNoteB, upToB, entryB])⟩, trivial⟩, trivial, trivial, rfl⟩⟩
                              · try simp only [decide_eq_true_eq, decide_eq_false_iff_not, Bool.not_eq_true, Bool.not_eq_false, Bool.not_eq_true', Bool.not_eq_false', beq_iff_eq, bne_iff_ne, beq_eq_false_iff_ne, bne_eq_false_iff_eq, Int.not_lt, Int.not_le, ge_iff_le, gt_iff_lt] at h81
                                refine AL_g rfl rfl (x_field (off := 3) (o' := 3) rfl rfl rfl (by kernel_rfl) rfl) ?_
                                refine AL_g rfl rfl (x_load1 rfl rfl rfl (by kernel_rfl) rfl) ?_
                                refine AL_gb rfl rfl (x_gtr rfl rfl rfl) (fun b85 h85 => ?_)
                                refine AL_p (x_pickF rfl rfl rfl) ?_
                                refine AL_nil ?_
                                cases b85
                                rotate_left
                                · try simp only [decide_eq_true_eq, decide_eq_false_iff_not, Bool.not_eq_true, Bool.not_eq_false, Bool.not_eq_true', Bool.not_eq_false', beq_iff_eq, bne_iff_ne, beq_eq_false_iff_ne, bne_eq_false_iff_eq, Int.not_lt, Int.not_le, ge_iff_le, gt_iff_lt] at h85
                                  refine AW_condT rfl ?_
                                  refine AW_seq ?_
                                  refine AW_region ?_
                                  refine AL_p (x_assign rfl rfl) ?_
                                  refine AL_nil ?_
                                  refine AW_ret ?_
                                  exact ⟨rn [], ⟨⟨⟨_, rfl, vle_bool (by grind [msgB, noAddB, noNoteB, upToB, entryB])⟩, trivial⟩, trivial, trivial, rfl⟩⟩
                                · try simp only [decide_eq_true_eq, decide_eq_false_iff_not, Bool.not_eq_true, Bool.not_eq_false, Bool.not_eq_true', Bool.not_eq_false', beq_iff_eq, bne_iff_ne, beq_eq_false_iff_ne, bne_eq_false_iff_eq, Int.not_lt, Int.not_le, ge_iff_le, gt_iff_lt] at h85
                                  refine AW_condF rfl ?_
                                  refine AW_skip ?_
                                  refine AW_seq ?_
                                  refine AW_seq ?_
                                  refine AW_region ?_
                                  refine AL_p (x_field (off := 0) (o' := 0) rfl rfl rfl (by kernel_rfl) rfl) ?_
                                  refine AL_p (x_load1 rfl rfl rfl (by kernel_rfl) rfl) ?_
                                  refine AL_b (x_eql rfl rfl rfl) (fun b89 h89 => ?_)
                                  refine AL_nil ?_
                                  cases b89
                                  rotate_left
                                  · try simp only [decide_eq_true_eq, decide_eq_false_iff_not, Bool.not_eq_true, Bool.not_eq_false, Bool.not_eq_true', Bool.not_eq_false', beq_iff_eq, bne_iff_ne, beq_eq_false_iff_ne, bne_eq_false_iff_eq, Int.not_lt, Int.not_le, ge_iff_le, gt_iff_lt] at h89
                                    refine AW_condT rfl ?_
                                    refine AW_seq ?_
                                    refine AW_region ?_
                                    refine AL_p (x_field (off := 9) (o' := 9) rfl rfl rfl (by kernel_rfl) rfl) ?_
                                    refine AL_p (x_loadN (n := 1) rfl rfl rfl (by kernel_rfl) rfl rfl) ?_
                                    refine AL_b (x_call0 rfl rfl rfl (headS_c _) rfl rfl) (fun b92 h92 => ?_)
                                    refine AL_p (x_assign rfl rfl) ?_
                                    refine AL_nil ?_
                                    refine AW_ret ?_
                                    cases b92
                                    rotate_left
                                    · try simp only [decide_eq_true_eq, decide_eq_false_iff_not, Bool.not_eq_true, Bool.not_eq_false, Bool.not_eq_true', Bool.not_eq_false', beq_iff_eq, bne_iff_ne, beq_eq_false_iff_ne, bne_eq_false_iff_eq, Int.not_lt, Int.not_le, ge_iff_le, gt_iff_lt] at h92
                                      exact ⟨rn [], ⟨⟨⟨_, rfl, vle_bool (by grind [msgB, noAddB, noNoteB, upToB, entryB])⟩, trivial⟩, trivial, trivial, rfl⟩⟩
                                    · try simp only [decide_eq_true_eq, decide_eq_false_iff_not, Bool.not_eq_true, Bool.not_eq_false, Bool.not_eq_true', Bool.not_eq_false', beq_iff_eq, bne_iff_ne, beq_eq_false_iff_ne, bne_eq_false_iff_eq, Int.not_lt, Int.not_le, ge_iff_le, gt_iff_lt] at h92
                                      exact ⟨rn [], ⟨⟨⟨_, rfl, vle_bool (by grind [msgB, noAddB, noNoteB, upToB, entryB])⟩, trivial⟩, trivial, trivial, rfl⟩⟩
                                  · try simp only [decide_eq_true_eq, decide_eq_false_iff_not, Bool.not_eq_true, Bool.not_eq_false, Bool.not_eq_true', Bool.not_eq_false', beq_iff_eq, bne_iff_ne, beq_eq_false_iff_ne, bne_eq_false_iff_eq, Int.not_lt, Int.not_le, ge_iff_le, gt_iff_lt] at h89
                                    refine AW_condF rfl ?_
                                    refine AW_skip ?_
                                    refine AW_seq ?_
                                    refine AW_region ?_
                                    refine AL_p (x_field (off := 8) (o' := 8) rfl rfl rfl (by kernel_rfl) rfl) ?_
                                    refine AL_b (x_load1 rfl rfl rfl (by kernel_rfl) rfl) (fun b94 h94 => ?_)
                                    refine AL_p (x_not rfl rfl) ?_
                                    refine AL_p (x_move rfl rfl) ?_
                                    cases b94
                                    rotate_left
                                    · try simp only [decide_eq_true_eq, decide_eq_false_iff_not, Bool.not_eq_true, Bool.not_eq_false, Bool.not_eq_true', Bool.not_eq_false', beq_iff_eq, bne_iff_ne, beq_eq_false_iff_ne, bne_eq_false_iff_eq, Int.not_lt, Int.not_le, ge_iff_le, gt_iff_lt] at h94
                                      refine AL_o rfl rfl rfl rfl ?_
                                      refine AL_o rfl rfl rfl rfl ?_
                                      refine AL_o rfl rfl rfl rfl ?_
                                      refine AL_o rfl rfl rfl rfl ?_
                                      refine AL_o rfl rfl rfl rfl ?_
                                      refine AL_p (x_pickF rfl rfl rfl) ?_
                                      refine AL_p (x_assign rfl rfl) ?_
                                      refine AL_nil ?_
                                      refine AW_ret ?_
                                      exact ⟨rn [], ⟨⟨⟨_, rfl, vle_bool (by grind [msgB, noAddB, noNoteB, upToB, entryB])⟩, trivial⟩, trivial, trivial, rfl⟩⟩
                                    · try simp only [decide_eq_true_eq, decide_eq_false_iff_not, Bool.not_eq_true, Bool.not_eq_false, Bool.not_eq_true', Bool.not_eq_false', beq_iff_eq, bne_iff_ne, beq_eq_false_iff_ne, bne_eq_false_iff_eq, Int.not_lt, Int.not_le, ge_iff_le, gt_iff_lt] at h94
                                      refine AL_g rfl rfl (x_field (off := 9) (o' := 9) rfl rfl rfl (by kernel_rfl) rfl) ?_
                                      refine AL_g rfl rfl (x_field (off := 0) (o' := 9) rfl rfl rfl (by kernel_rfl) rfl) ?_
                                      refine AL_g rfl rfl (x_load1 rfl rfl rfl (by kernel_rfl) rfl) ?_
                                      refine AL_g rfl rfl (x_len (E := 3) (n := 1) rfl rfl (by kernel_rfl)) ?_
                                      refine AL_gb rfl rfl (x_eql rfl rfl rfl) (fun b101 h101 => ?_)
                                      refine AL_p (x_pickT rfl rfl rfl) ?_
                                      refine AL_p (x_assign rfl rfl) ?_
                                      refine AL_nil ?_
                                      refine AW_ret ?_
                                      cases b101
                                      rotate_left
                                      · try simp only [decide_eq_true_eq, decide_eq_false_iff_not, Bool.not_eq_true, Bool.not_eq_false, Bool.not_eq_true', Bool.not_eq_false', beq_iff_eq, bne_iff_ne, beq_eq_false_iff_ne, bne_eq_false_iff_eq, Int.not_lt, Int.not_le, ge_iff_le, gt_iff_lt] at h101
                                        exact ⟨rn [], ⟨⟨⟨_, rfl, vle_bool (by grind [msgB, noAddB, noNoteB, upToB, entryB])⟩, trivial⟩, trivial, trivial, rfl⟩⟩
                                      · try simp only [decide_eq_true_eq, decide_eq_false_iff_not, Bool.not_eq_true, Bool.not_eq_false, Bool.not_eq_true', Bool.not_eq_false', beq_iff_eq, bne_iff_ne, beq_eq_false_iff_ne, bne_eq_false_iff_eq, Int.not_lt, Int.not_le, ge_iff_le, gt_iff_lt] at h101
                                        exact ⟨rn [], ⟨⟨⟨_, rfl, vle_bool (by grind [msgB, noAddB, noNoteB, upToB, entryB])⟩, trivial⟩, trivial, trivial, rfl⟩⟩
                          · try simp only [decide_eq_true_eq, decide_eq_false_iff_not, Bool.not_eq_true, Bool.not_eq_false, Bool.not_eq_true', Bool.not_eq_false', beq_iff_eq, bne_iff_ne, beq_eq_false_iff_ne, bne_eq_false_iff_eq, Int.not_lt, Int.not_le, ge_iff_le, gt_iff_lt] at h72
                            refine AL_o rfl rfl rfl rfl ?_
                            refine AL_o rfl rfl rfl rfl ?_
                            refine AL_o rfl rfl rfl rfl ?_
                            refine AL_p (x_pickF rfl rfl rfl) ?_
                            refine AL_nil ?_
                            refine AW_condF rfl ?_
                            refine AW_skip ?_
                            refine AW_seq ?_
                            refine AW_seq ?_
                            refine AW_region ?_
                            refine AL_p (x_field (off := 3) (o' := 3) rfl rfl rfl (by kernel_rfl) rfl) ?_
                            refine AL_p (x_load1 rfl rfl rfl (by kernel_rfl) rfl) ?_
                            refine AL_b (x_lss rfl rfl rfl) (fun b81 h81 => ?_)
                            refine AL_p (x_move rfl rfl) ?_
                            cases b81
                            rotate_left
                            · try simp only [decide_eq_true_eq, decide_eq_false_iff_not, Bool.not_eq_true, Bool.not_eq_false, Bool.not_eq_true', Bool.not_eq_false', beq_iff_eq, bne_iff_ne, beq_eq_false_iff_ne, bne_eq_false_iff_eq, Int.not_lt, Int.not_le, ge_iff_le, gt_iff_lt] at h81
                              refine AL_o rfl rfl rfl rfl ?_
                              refine AL_o rfl rfl rfl rfl ?_
                              refine AL_o rfl rfl rfl rfl ?_
                              refine AL_p (x_pickT rfl rfl rfl) ?_
                              refine AL_nil ?_
                              refine AW_condT rfl ?_
                              refine AW_seq ?_
                              refine AW_region ?_
                              refine AL_p (x_assign rfl rfl) ?_
                              refine AL_nil ?_
                              refine AW_ret ?_
                              exact ⟨rn [], ⟨⟨⟨_, rfl, vle_bool (by grind [msgB, noAddB, noNoteB, upToB, entryB])⟩, trivial⟩, trivial, trivial, rfl⟩⟩
                            · try simp only [decide_eq_true_eq, decide_eq_false_iff_not, Bool.not_eq_true, Bool.not_eq_false, Bool.not_eq_true', Bool.not_eq_false', beq_iff_eq, bne_iff_ne, beq_eq_false_iff_ne, bne_eq_false_iff_eq, Int.not_lt, Int.not_le, ge_iff_le, gt_iff_lt] at h81
                              refine AL_g rfl rfl (x_field (off := 3) (o' := 3) rfl rfl rfl (by kernel_rfl) rfl) ?_
                              refine AL_g rfl rfl (x_load1 rfl rfl rfl (by kernel_rfl) rfl) ?_
                              refine AL_gb rfl rfl (x_gtr rfl rfl rfl) (fun b85 h85 => ?_)
                              refine AL_p (x_pickF rfl rfl rfl) ?_
                              refine AL_nil ?_
                              cases b85
                              rotate_left
                              · try simp only [decide_eq_true_eq, decide_eq_false_iff_not, Bool.not_eq_true, Bool.not_eq_false, Bool.not_eq_true', Bool.not_eq_false', beq_iff_eq, bne_iff_ne, beq_eq_false_iff_ne, bne_eq_false_iff_eq, Int.not_lt, Int.not_le, ge_iff_le, gt_iff_lt] at h85
                                refine AW_condT rfl ?_
                                refine AW_seq ?_
                                refine AW_region ?_
                                refine AL_p (x_assign rfl rfl) ?_
                                refine AL_nil ?_
                                refine AW_ret ?_
                                exact ⟨rn [], ⟨⟨⟨_, rfl, vle_bool (by grind [msgB, noAddB, noNoteB, upToB, entryB])⟩, trivial⟩, trivial, trivial, rfl⟩⟩
                              · try simp only [decide_eq_true_eq, decide_eq_false_iff_not, Bool.not_eq_true, Bool.not_eq_false, Bool.not_eq_true', Bool.not_eq_false', beq_iff_eq, bne_iff_ne, beq_eq_false_iff_ne, bne_eq_false_iff_eq, Int.not_lt, Int.not_le, ge_iff_le, gt_iff_lt] at h85
                                refine AW_condF rfl ?_
                                refine AW_skip ?_
                                refine AW_seq ?_
                                refine AW_seq ?_
                                refine AW_region ?_
                                refine AL_p (x_field (off := 0) (o' := 0) rfl rfl rfl (by kernel_rfl) rfl) ?_
                                refine AL_p (x_load1 rfl rfl rfl (by kernel_rfl) rfl) ?_
                                refine AL_b (x_eql rfl rfl rfl) (fun b89 h89 => ?_)
                                refine AL_nil ?_
                                cases b89
                                rotate_left
                                · try simp only [decide_eq_true_eq, decide_eq_false_iff_not, Bool.not_eq_true, Bool.not_eq_false, Bool.not_eq_true', Bool.not_eq_false', beq_iff_eq, bne_iff_ne, beq_eq_false_iff_ne, bne_eq_false_iff_eq, Int.not_lt, Int.not_le, ge_iff_le, gt_iff_lt] at h89
                                  refine AW_condT rfl ?_
                                  refine AW_seq ?_
                                  refine AW_region ?_
                                  refine AL_p (x_field (off := 9) (o' := 9) rfl rfl rfl (by kernel_rfl) rfl) ?_
                                  refine AL_p (x_loadN (n := 1) rfl rfl rfl (by kernel_rfl) rfl rfl) ?_
                                  refine AL_b (x_call0 rfl rfl rfl (headS_c _) rfl rfl) (fun b92 h92 => ?_)
                                  refine AL_p (x_assign rfl rfl) ?_
                                  refine AL_nil ?_
                                  refine AW_ret ?_
                                  cases b92
                                  rotate_left
                                  · try simp only [decide_eq_true_eq, decide_eq_false_iff_not, Bool.not_eq_true, Bool.not_eq_false, Bool.not_eq_true', Bool.not_eq_false', beq_iff_eq, bne_iff_ne, beq_eq_false_iff_ne, bne_eq_false_iff_eq, Int.not_lt, Int.not_le, ge_iff_le, gt_iff_lt] at h92
                                    exact ⟨rn [], ⟨⟨⟨_, rfl, vle_bool (by grind [msgB, noAddB, noNoteB, upToB, entryB])⟩, trivial⟩, trivial, trivial, rfl⟩⟩
                                  · try simp only [decide_eq_true_eq, decide_eq_false_iff_not, Bool.not_eq_true, Bool.not_eq_false, Bool.not_eq_true', Bool.not_eq_false', beq_iff_eq, bne_iff_ne, beq_eq_false_iff_ne, bne_eq_false_iff_eq, Int.not_lt, Int.not_le, ge_iff_le, gt_iff_lt] at h92
                                    exact ⟨rn [], ⟨⟨⟨_, rfl, vle_bool (by grind [msgB, noAddB, noNoteB, upToB, entryB])⟩, trivial⟩, trivial, trivial, rfl⟩⟩
                                · try simp only [decide_eq_true_eq, decide_eq_false_iff_not, Bool.not_eq_true, Bool.not_eq_false, Bool.not_eq_true', Bool.not_eq_false', beq_iff_eq, bne_iff_ne, beq_eq_false_iff_ne, bne_eq_false_iff_eq, Int.not_lt, Int.not_le, ge_iff_le, gt_iff_lt] at h89
                                  refine AW_condF rfl ?_
                                  refine AW_skip ?_
                                  refine AW_seq ?_
                                  refine AW_region ?_
                                  refine AL_p (x_field (off := 8) (o' := 8) rfl rfl rfl (by kernel_rfl) rfl) ?_
                                  refine AL_b (x_load1 rfl rfl rfl (by kernel_rfl) rfl) (fun b94 h94 => ?_)
                                  refine AL_p (x_not rfl rfl) ?_
                                  refine AL_p (x_move rfl rfl) ?_
                                  cases b94
                                  rotate_left
                                  · try simp only [decide_eq_true_eq, decide_eq_false_iff_not, Bool.not_eq_true, Bool.not_eq_false, Bool.not_eq_true', Bool.not_eq_false', beq_iff_eq, bne_iff_ne, beq_eq_false_iff_ne, bne_eq_false_iff_eq, Int.not_lt, Int.not_le, ge_iff_le, gt_iff_lt] at h94
                                    refine AL_o rfl rfl rfl rfl ?_
                                    refine AL_o rfl rfl rfl rfl ?_
                                    refine AL_o rfl rfl rfl rfl ?_
                                    refine AL_o rfl rfl rfl rfl ?_
                                    refine AL_o rfl rfl rfl rfl ?_
                                    refine AL_p (x_pickF rfl rfl rfl) ?_
                                    refine AL_p (x_assign rfl rfl) ?_
                                    refine AL_nil ?_
                                    refine AW_ret ?_
                                    exact ⟨rn [], ⟨⟨⟨_, rfl, vle_bool (by grind [msgB, noAddB, noNoteB, upToB, entryB])⟩, trivial⟩, trivial, trivial, rfl⟩⟩
                                  · try simp only [decide_eq_true_eq, decide_eq_false_iff_not, Bool.not_eq_true, Bool.not_eq_false, Bool.not_eq_true', Bool.not_eq_false', beq_iff_eq, bne_iff_ne, beq_eq_false_iff_ne, bne_eq_false_iff_eq, Int.not_lt, Int.not_le, ge_iff_le, gt_iff_lt] at h94
                                    refine AL_g rfl rfl (x_field (off := 9) (o' := 9) rfl rfl rfl (by kernel_rfl) rfl) ?_
                                    refine AL_g rfl rfl (x_field (off := 0) (o' := 9) rfl rfl rfl (by kernel_rfl) rfl) ?_
                                    refine AL_g rfl rfl (x_load1 rfl rfl rfl (by kernel_rfl) rfl) ?_
                                    refine AL_g rfl rfl (x_len (E := 3) (n := 1) rfl rfl (by kernel_rfl)) ?_
                                    refine AL_gb rfl rfl (x_eql rfl rfl rfl) (fun b101 h101 => ?_)
                                    refine AL_p (x_pickT rfl rfl rfl) ?_
                                    refine AL_p (x_assign rfl rfl) ?_
                                    refine AL_nil ?_
                                    refine AW_ret ?_
                                    cases b101
                                    rotate_left
                                    · try simp only [decide_eq_true_eq, decide_eq_false_iff_not, Bool.not_eq_true, Bool.not_eq_false, Bool.not_eq_true', Bool.not_eq_false', beq_iff_eq, bne_iff_ne, beq_eq_false_iff_ne, bne_eq_false_iff_eq, Int.not_lt, Int.not_le, ge_iff_le, gt_iff_lt] at h101
                                      exact ⟨rn [], ⟨⟨⟨_, rfl, vle_bool (by grind [msgB, noAddB, noNoteB, upToB, entryB])⟩, trivial⟩, trivial, trivial, rfl⟩⟩
                                    · try simp only [decide_eq_true_eq, decide_eq_false_iff_not, Bool.not_eq_true, Bool.not_eq_false, Bool.not_eq_true', Bool.not_eq_false', beq_iff_eq, bne_iff_ne, beq_eq_false_iff_ne, bne_eq_false_iff_eq, Int.not_lt, Int.not_le, ge_iff_le, gt_iff_lt] at h101
                                      exact ⟨rn [], ⟨⟨⟨_, rfl, vle_bool (by grind [msgB, noAddB, noNoteB, upToB, entryB])⟩, trivial⟩, trivial, trivial, rfl⟩⟩
                        · try simp only [decide_eq_true_eq, decide_eq_false_iff_not, Bool.not_eq_true, Bool.not_eq_false, Bool.not_eq_true', Bool.not_eq_false', beq_iff_eq, bne_iff_ne, beq_eq_false_iff_ne, bne_eq_false_iff_eq, Int.not_lt, Int.not_le, ge_iff_le, gt_iff_lt] at h68
                          refine AL_o rfl rfl rfl rfl ?_
                          refine AL_o rfl rfl rfl rfl ?_
                          refine AL_o rfl rfl rfl rfl ?_
                          refine AL_p (x_pickF rfl rfl rfl) ?_
                          refine AL_p (x_move rfl rfl) ?_
                          refine AL_o rfl rfl rfl rfl ?_
                          refine AL_o rfl rfl rfl rfl ?_
                          refine AL_o rfl rfl rfl rfl ?_
                          refine AL_p (x_pickF rfl rfl rfl) ?_
                          refine AL_nil ?_
                          refine AW_condF rfl ?_
                          refine AW_skip ?_
                          refine AW_seq ?_
                          refine AW_seq ?_
                          refine AW_region ?_
                          refine AL_p (x_field (off := 3) (o' := 3) rfl rfl rfl (by kernel_rfl) rfl) ?_
                          refine AL_p (x_load1 rfl rfl rfl (by kernel_rfl) rfl) ?_
                          refine AL_b (x_lss rfl rfl rfl) (fun b81 h81 => ?_)
                          refine AL_p (x_move rfl rfl) ?_
                          cases b81
                          rotate_left
                          · try simp only [decide_eq_true_eq, decide_eq_false_iff_not, Bool.not_eq_true, Bool.not_eq_false, Bool.not_eq_true', Bool.not_eq_false', beq_iff_eq, bne_iff_ne, beq_eq_false_iff_ne, bne_eq_false_iff_eq, Int.not_lt, Int.not_le, ge_iff_le, gt_iff_lt] at h81
                            refine AL_o rfl rfl rfl rfl ?_
                            refine AL_o rfl rfl rfl rfl ?_
                            refine AL_o rfl rfl rfl rfl ?_
                            refine AL_p (x_pickT rfl rfl rfl) ?_
                            refine AL_nil ?_
                            refine AW_condT rfl ?_
                            refine AW_seq ?_
                            refine AW_region ?_
                            refine AL_p (x_assign rfl rfl) ?_
                            refine AL_nil ?_
                            refine AW_ret ?_
                            exact ⟨rn [], ⟨⟨⟨_, rfl, vle_bool (by grind [msgB, noAddB, noNoteB, upToB, entryB])⟩, trivial⟩, trivial, trivial, rfl⟩⟩
                          · try simp only [decide_eq_true_eq, decide_eq_false_iff_not, Bool.not_eq_true, Bool.not_eq_false, Bool.not_eq_true', Bool.not_eq_false', beq_iff_eq, bne_iff_ne, beq_eq_false_iff_ne, bne_eq_false_iff_eq, Int.not_lt, Int.not_le, ge_iff_le, gt_iff_lt] at h81
                            refine AL_g rfl rfl (x_field (off := 3) (o' := 3) rfl rfl rfl (by kernel_rfl) rfl) ?_
                            refine AL_g rfl rfl (x_load1 rfl rfl rfl (by kernel_rfl) rfl) ?_
                            refine AL_gb rfl rfl (x_gtr rfl rfl rfl) (fun b85 h85 => ?_)
                            refine AL_p (x_pickF rfl rfl rfl) ?_
                            refine AL_nil ?_
                            cases b85
                            rotate_left
                            · try simp only [decide_eq_true_eq, decide_eq_false_iff_not, Bool.not_eq_true, Bool.not_eq_false, Bool.not_eq_true', Bool.not_eq_false', beq_iff_eq, bne_iff_ne, beq_eq_false_iff_ne, bne_eq_false_iff_eq, Int.not_lt, Int.not_le, ge_iff_le, gt_iff_lt] at h85
                              refine AW_condT rfl ?_
                              refine AW_seq ?_
                              refine AW_region ?_
                              refine AL_p (x_assign rfl rfl) ?_
                              refine AL_nil ?_
                              refine AW_ret ?_
                              exact ⟨rn [], ⟨⟨⟨_, rfl, vle_bool (by grind [msgB, noAddB, noNoteB, upToB, entryB])⟩, trivial⟩, trivial, trivial, rfl⟩⟩
                            · try simp only [decide_eq_true_eq, decide_eq_false_iff_not, Bool.not_eq_true, Bool.not_eq_false, Bool.not_eq_true', Bool.not_eq_false', beq_iff_eq, bne_iff_ne, beq_eq_false_iff_ne, bne_eq_false_iff_eq, Int.not_lt, Int.not_le, ge_iff_le, gt_iff_lt] at h85
                              refine AW_condF rfl ?_
                              refine AW_skip ?_
                              refine AW_seq ?_
                              refine AW_seq ?_
                              refine AW_region ?_
                              refine AL_p (x_field (off := 0) (o' := 0) rfl rfl rfl (by kernel_rfl) rfl) ?_
                              refine AL_p (x_load1 rfl rfl rfl (by kernel_rfl) rfl) ?_
                              refine AL_b (x_eql rfl rfl rfl) (fun b89 h89 => ?_)
                              refine AL_nil ?_
                              cases b89
                              rotate_left
                              · try simp only [decide_eq_true_eq, decide_eq_false_iff_not, Bool.not_eq_true, Bool.not_eq_false, Bool.not_eq_true', Bool.not_eq_false', beq_iff_eq, bne_iff_ne, beq_eq_false_iff_ne, bne_eq_false_iff_eq, Int.not_lt, Int.not_le, ge_iff_le, gt_iff_lt] at h89
                                refine AW_condT rfl ?_
                                refine AW_seq ?_
                                refine AW_region ?_
                                refine AL_p (x_field (off := 9) (o' := 9) rfl rfl rfl (by kernel_rfl) rfl) ?_
                                refine AL_p (x_loadN (n := 1) rfl rfl rfl (by kernel_rfl) rfl rfl) ?_
                                refine AL_b (x_call0 rfl rfl rfl (headS_c _) rfl rfl) (fun b92 h92 => ?_)
                                refine AL_p (x_assign rfl rfl) ?_
                                refine AL_nil ?_
                                refine AW_ret ?_
                                cases b92
                                rotate_left
                                · try simp only [decide_eq_true_eq, decide_eq_false_iff_not, Bool.not_eq_true, Bool.not_eq_false, Bool.not_eq_true', Bool.not_eq_false', beq_iff_eq, bne_iff_ne, beq_eq_false_iff_ne, bne_eq_false_iff_eq, Int.not_lt, Int.not_le, ge_iff_le, gt_iff_lt] at h92
                                  exact ⟨rn [], ⟨⟨⟨_, rfl, vle_bool (by grind [msgB, noAddB, noNoteB, upToB, entryB])⟩, trivial⟩, trivial, trivial, rfl⟩⟩
                                · try simp only [decide_eq_true_eq, decide_eq_false_iff_not, Bool.not_eq_true, Bool.not_eq_false, Bool.not_eq_true', Bool.not_eq_false', beq_iff_eq, bne_iff_ne, beq_eq_false_iff_ne, bne_eq_false_iff_eq, Int.not_lt, Int.not_le, ge_iff_le, gt_iff_lt] at h92
                                  exact ⟨rn [], ⟨⟨⟨_, rfl, vle_bool (by grind [msgB, noAddB, noNoteB, upToB, entryB])⟩, trivial⟩, trivial, trivial, rfl⟩⟩
                              · try simp only [decide_eq_true_eq, decide_eq_false_iff_not, Bool.not_eq_true, Bool.not_eq_false, Bool.not_eq_true', Bool.not_eq_false', beq_iff_eq, bne_iff_ne, beq_eq_false_iff_ne, bne_eq_false_iff_eq, Int.not_lt, Int.not_le, ge_iff_le, gt_iff_lt] at h89
                                refine AW_condF rfl ?_
                                refine AW_skip ?_
                                refine AW_seq ?_
                                refine AW_region ?_
                                refine AL_p (x_field (off := 8) (o' := 8) rfl rfl rfl (by kernel_rfl) rfl) ?_
                                refine AL_b (x_load1 rfl rfl rfl (by kernel_rfl) rfl) (fun b94 h94 => ?_)
                                refine AL_p (x_not rfl rfl) ?_
                                refine AL_p (x_move rfl rfl) ?_
                                cases b94
                                rotate_left
                                · try simp only [decide_eq_true_eq, decide_eq_false_iff_not, Bool.not_eq_true, Bool.not_eq_false, Bool.not_eq_true', Bool.not_eq_false', beq_iff_eq, bne_iff_ne, beq_eq_false_iff_ne, bne_eq_false_iff_eq, Int.not_lt, Int.not_le, ge_iff_le, gt_iff_lt] at h94
                                  refine AL_o rfl rfl rfl rfl ?_
                                  refine AL_o rfl rfl rfl rfl ?_
                                  refine AL_o rfl rfl rfl rfl ?_
                                  refine AL_o rfl rfl rfl rfl ?_
                                  refine AL_o rfl rfl rfl rfl ?_
                                  refine AL_p (x_pickF rfl rfl rfl) ?_
                                  refine AL_p (x_assign rfl rfl) ?_
                                  refine AL_nil ?_
                                  refine AW_ret ?_
                                  exact ⟨rn [], ⟨⟨⟨_, rfl, vle_bool (by grind [msgB, noAddB, noNoteB, upToB, entryB])⟩, trivial⟩, trivial, trivial, rfl⟩⟩
                                · try simp only [decide_eq_true_eq, decide_eq_false_iff_not, Bool.not_eq_true, Bool.not_eq_false, Bool.not_eq_true', Bool.not_eq_false', beq_iff_eq, bne_iff_ne, beq_eq_false_iff_ne, bne_eq_false_iff_eq, Int.not_lt, Int.not_le, ge_iff_le, gt_iff_lt] at h94
                                  refine AL_g rfl rfl (x_field (off := 9) (o' := 9) rfl rfl rfl (by kernel_rfl) rfl) ?_
                                  refine AL_g rfl rfl (x_field (off := 0) (o' := 9) rfl rfl rfl (by kernel_rfl) rfl) ?_
                                  refine AL_g rfl rfl (x_load1 rfl rfl rfl (by kernel_rfl) rfl) ?_
                                  refine AL_g rfl rfl (x_len (E := 3) (n := 1) rfl rfl (by kernel_rfl)) ?_
                                  refine AL_gb rfl rfl (x_eql rfl rfl rfl) (fun b101 h101 => ?_)
                                  refine AL_p (x_pickT rfl rfl rfl) ?_
                                  refine AL_p (x_assign rfl rfl) ?_
                                  refine AL_nil ?_
                                  refine AW_ret ?_
                                  cases b101
                                  rotate_left
                                  · try simp only [decide_eq_true_eq, decide_eq_false_iff_not, Bool.not_eq_true, Bool.not_eq_false, Bool.not_eq_true', Bool.not_eq_false', beq_iff_eq, bne_iff_ne, beq_eq_false_iff_ne, bne_eq_false_iff_eq, Int.not_lt, Int.not_le, ge_iff_le, gt_iff_lt] at h101
                                    exact ⟨rn [], ⟨⟨⟨_, rfl, vle_bool (by grind [msgB, noAddB, noNoteB, upToB, entryB])⟩, trivial⟩, trivial, trivial, rfl⟩⟩
                                  · try simp only [decide_eq_true_eq, decide_eq_false_iff_not, Bool.not_eq_true, Bool.not_eq_false, Bool.not_eq_true', Bool.not_eq_false', beq_iff_eq, bne_iff_ne, beq_eq_false_iff_ne, bne_eq_false_iff_eq, Int.not_lt, Int.not_le, ge_iff_le, gt_iff_lt] at h101
                                    exact ⟨rn [], ⟨⟨⟨_, rfl, vle_bool (by grind [msgB, noAddB, noNoteB, upToB, entryB])⟩, trivial⟩, trivial, trivial, rfl⟩⟩

set_option maxHeartbeats 4000000 in
theorem msgI_c (m : Msgt) : AC Try.prog 25 [.agg (msgC m)] [] (.one (.c (.bool (msgB m)))) [] := by
  refine AC_body1 Try.func25 rfl rfl Try.ntmps25 rfl Try.results25 ?_
  refine AW_aggmax 0 5 rfl rfl (fun hm0_5 => ?_)
  refine AW_aggmax 0 6 rfl rfl (fun hm0_6 => ?_)
  refine AW_aggmax 0 7 rfl rfl (fun hm0_7 => ?_)
  refine AW_aggmax 0 9 rfl rfl (fun hm0_9 => ?_)
  refine AW_seq ?_
  refine AW_region ?_
  refine AL_p (x_box 100 rfl rfl rfl rfl rfl rfl rfl) ?_
  refine AL_p (x_assign rfl rfl) ?_
  refine AL_nil ?_
  refine AW_seq ?_
  refine AW_seq ?_
  refine AW_region ?_
  refine AL_p (x_field (off := 1) (o' := 1) rfl rfl rfl (by kernel_rfl) rfl) ?_
  refine AL_p (x_load1 rfl rfl rfl (by kernel_rfl) rfl) ?_
  refine AL_b (x_call0 rfl rfl rfl (upToI_c _ _) rfl rfl) (fun b7 h7 => ?_)
  refine AL_p (x_not rfl rfl) ?_
  refine AL_p (x_move rfl rfl) ?_
  cases b7
  rotate_left
  · try simp only [decide_eq_true_eq, decide_eq_false_iff_not, Bool.not_eq_true, Bool.not_eq_false, Bool.not_eq_true', Bool.not_eq_false', beq_iff_eq, bne_iff_ne, beq_eq_false_iff_ne, bne_eq_false_iff_eq, Int.not_lt, Int.not_le, ge_iff_le, gt_iff_lt] at h7
    refine AL_g rfl rfl (x_field (off := 2) (o' := 2) rfl rfl rfl (by kernel_rfl) rfl) ?_
    refine AL_g rfl rfl (x_load1 rfl rfl rfl (by kernel_rfl) rfl) ?_
    refine AL_gb rfl rfl (x_call0 rfl rfl rfl (upToI_c _ _) rfl rfl) (fun b12 h12 => ?_)
    refine AL_g rfl rfl (x_not rfl rfl) ?_
    refine AL_p (x_pickF rfl rfl rfl) ?_
    refine AL_nil ?_
    cases b12
    rotate_left
    · try simp only [decide_eq_true_eq, decide_eq_false_iff_not, Bool.not_eq_true, Bool.not_eq_false, Bool.not_eq_true', Bool.not_eq_false', beq_iff_eq, bne_iff_ne, beq_eq_false_iff_ne, bne_eq_false_iff_eq, Int.not_lt, Int.not_le, ge_iff_le, gt_iff_lt] at h12
      refine AW_condF rfl ?_
      refine AW_skip ?_
      refine AW_seq ?_
      refine AW_region ?_
      refine AL_p (x_field (off := 4) (o' := 4) rfl rfl rfl (by kernel_rfl) rfl) ?_
      refine AL_p (x_load1 rfl rfl rfl (by kernel_rfl) rfl) ?_
      refine AL_b (x_eql rfl rfl rfl) (fun b17 h17 => ?_)
      refine AL_p (x_move rfl rfl) ?_
      cases b17
      rotate_left
      · try simp only [decide_eq_true_eq, decide_eq_false_iff_not, Bool.not_eq_true, Bool.not_eq_false, Bool.not_eq_true', Bool.not_eq_false', beq_iff_eq, bne_iff_ne, beq_eq_false_iff_ne, bne_eq_false_iff_eq, Int.not_lt, Int.not_le, ge_iff_le, gt_iff_lt] at h17
        refine AL_g rfl rfl (x_field (off := 5) (o' := 5) rfl rfl rfl (by kernel_rfl) rfl) ?_
        refine AL_g rfl rfl (x_loadN (n := 2) rfl rfl rfl (by kernel_rfl) rfl rfl) ?_
        refine AL_gb rfl rfl (x_call0 rfl rfl rfl (blank_c m.mat) rfl rfl) (fun b21 h21 => ?_)
        refine AL_p (x_pickT rfl rfl rfl) ?_
        refine AL_p (x_move rfl rfl) ?_
        cases b21
        rotate_left
        · try simp only [decide_eq_true_eq, decide_eq_false_iff_not, Bool.not_eq_true, Bool.not_eq_false, Bool.not_eq_true', Bool.not_eq_false', beq_iff_eq, bne_iff_ne, beq_eq_false_iff_ne, bne_eq_false_iff_eq, Int.not_lt, Int.not_le, ge_iff_le, gt_iff_lt] at h21
          refine AL_g rfl rfl (x_field (off := 7) (o' := 7) rfl rfl rfl (by kernel_rfl) rfl) ?_
          refine AL_g rfl rfl (x_load1 rfl rfl rfl (by kernel_rfl) rfl) ?_
          refine AL_g rfl rfl (x_len (E := 114) (n := 3) rfl rfl (by kernel_rfl)) ?_
          refine AL_gb rfl rfl (x_eql rfl rfl rfl) (fun b27 h27 => ?_)
          refine AL_p (x_pickT rfl rfl rfl) ?_
          refine AL_p (x_assign rfl rfl) ?_
          refine AL_nil ?_
          refine AW_seq ?_
          refine AW_region ?_
          refine AL_p (x_field (off := 8) (o' := 8) rfl rfl rfl (by kernel_rfl) rfl) ?_
          refine AL_b (x_load1 rfl rfl rfl (by kernel_rfl) rfl) (fun b30 h30 => ?_)
          refine AL_p (x_not rfl rfl) ?_
          refine AL_p (x_move rfl rfl) ?_
          cases b30
          rotate_left
          · try simp only [decide_eq_true_eq, decide_eq_false_iff_not, Bool.not_eq_true, Bool.not_eq_false, Bool.not_eq_true', Bool.not_eq_false', beq_iff_eq, bne_iff_ne, beq_eq_false_iff_ne, bne_eq_false_iff_eq, Int.not_lt, Int.not_le, ge_iff_le, gt_iff_lt] at h30
            refine AL_o rfl rfl rfl rfl ?_
            refine AL_o rfl rfl rfl rfl ?_
            refine AL_o rfl rfl rfl rfl ?_
            refine AL_o rfl rfl rfl rfl ?_
            refine AL_o rfl rfl rfl rfl ?_
            refine AL_p (x_pickF rfl rfl rfl) ?_
            refine AL_p (x_assign rfl rfl) ?_
            refine AL_nil ?_
            refine AW_seq ?_
            refine AW_seq ?_
            refine AW_region ?_
            refine AL_p (x_field (off := 0) (o' := 0) rfl rfl rfl (by kernel_rfl) rfl) ?_
            refine AL_p (x_load1 rfl rfl rfl (by kernel_rfl) rfl) ?_
            refine AL_nil ?_
            refine AW_block ?_
            refine AW_seq ?_
            refine AW_seq ?_
            refine AW_region ?_
            refine AL_b (x_eql rfl rfl rfl) (fun b42 h42 => ?_)
            refine AL_p (x_assign rfl rfl) ?_
            refine AL_nil ?_
            cases b42
            rotate_left
            · try simp only [decide_eq_true_eq, decide_eq_false_iff_not, Bool.not_eq_true, Bool.not_eq_false, Bool.not_eq_true', Bool.not_eq_false', beq_iff_eq, bne_iff_ne, beq_eq_false_iff_ne, bne_eq_false_iff_eq, Int.not_lt, Int.not_le, ge_iff_le, gt_iff_lt] at h42
              refine AW_condT rfl ?_
              refine AW_skip ?_
              refine AW_condT rfl ?_
              refine AW_seq ?_
              refine AW_region ?_
              refine AL_p (x_field (off := 3) (o' := 3) rfl rfl rfl (by kernel_rfl) rfl) ?_
              refine AL_p (x_load1 rfl rfl rfl (by kernel_rfl) rfl) ?_
              refine AL_b (x_eql rfl rfl rfl) (fun b47 h47 => ?_)
              refine AL_p (x_move rfl rfl) ?_
              cases b47
              rotate_left
              · try simp only [decide_eq_true_eq, decide_eq_false_iff_not, Bool.not_eq_true, Bool.not_eq_false, Bool.not_eq_true', Bool.not_eq_false', beq_iff_eq, bne_iff_ne, beq_eq_false_iff_ne, bne_eq_false_iff_eq, Int.not_lt, Int.not_le, ge_iff_le, gt_iff_lt] at h47
                refine AL_g rfl rfl (x_move rfl rfl) ?_
                refine AL_p (x_pickT rfl rfl rfl) ?_
                refine AL_p (x_move rfl rfl) ?_
                cases b27
                rotate_left
                · try simp only [decide_eq_true_eq, decide_eq_false_iff_not, Bool.not_eq_true, Bool.not_eq_false, Bool.not_eq_true', Bool.not_eq_false', beq_iff_eq, bne_iff_ne, beq_eq_false_iff_ne, bne_eq_false_iff_eq, Int.not_lt, Int.not_le, ge_iff_le, gt_iff_lt] at h27
                  refine AL_g rfl rfl (x_move rfl rfl) ?_
                  refine AL_p (x_pickT rfl rfl rfl) ?_
                  refine AL_p (x_assign rfl rfl) ?_
                  refine AL_nil ?_
                  refine AW_ret (BQ_ret ?_)
                  exact ⟨rn [], ⟨⟨⟨_, rfl, vle_bool (by grind [msgB, noAddB, noNoteB, upToB, entryB])⟩, trivial⟩, trivial, trivial, rfl⟩⟩
                · try simp only [decide_eq_true_eq, decide_eq_false_iff_not, Bool.not_eq_true, Bool.not_eq_false, Bool.not_eq_true', Bool.not_eq_false', beq_iff_eq, bne_iff_ne, beq_eq_false_iff_ne, bne_eq_false_iff_eq, Int.not_lt, Int.not_le, ge_iff_le, gt_iff_lt] at h27
                  refine AL_o rfl rfl rfl rfl ?_
                  refine AL_p (x_pickF rfl rfl rfl) ?_
                  refine AL_p (x_assign rfl rfl) ?_
                  refine AL_nil ?_
                  refine AW_ret (BQ_ret ?_)
                  exact ⟨rn [], ⟨⟨⟨_, rfl, vle_bool (by grind [msgB, noAddB, noNoteB, upToB, entryB])⟩, trivial⟩, trivial, trivial, rfl⟩⟩
              · try simp only [decide_eq_true_eq, decide_eq_false_iff_not, Bool.not_eq_true, Bool.not_eq_false, Bool.not_eq_true', Bool.not_eq_false', beq_iff_eq, bne_iff_ne, beq_eq_false_iff_ne, bne_eq_false_iff_eq, Int.not_lt, Int.not_le, ge_iff_le, gt_iff_lt] at h47
                refine AL_o rfl rfl rfl rfl ?_
                refine AL_p (x_pickF rfl rfl rfl) ?_
                refine AL_p (x_move rfl rfl) ?_
                refine AL_o rfl rfl rfl rfl ?_
                refine AL_p (x_pickF rfl rfl rfl) ?_
                refine AL_p (x_assign rfl rfl) ?_
                refine AL_nil ?_
                refine AW_ret (BQ_ret ?_)
                exact ⟨rn [], ⟨⟨⟨_, rfl, vle_bool (by grind [msgB, noAddB, noNoteB, upToB, entryB])⟩, trivial⟩, trivial, trivial, rfl⟩⟩
            · try simp only [decide_eq_true_eq, decide_eq_false_iff_not, Bool.not_eq_true, Bool.not_eq_false, Bool.not_eq_true', Bool.not_eq_false', beq_iff_eq, bne_iff_ne, beq_eq_false_iff_ne, bne_eq_false_iff_eq, Int.not_lt, Int.not_le, ge_iff_le, gt_iff_lt] at h42
              refine AW_condF rfl ?_
              refine AW_seq ?_
              refine AW_region ?_
              refine AL_b (x_eql rfl rfl rfl) (fun b43 h43 => ?_)
              refine AL_p (x_assign rfl rfl) ?_
              refine AL_nil ?_
              cases b43
              rotate_left
              · try simp only [decide_eq_true_eq, decide_eq_false_iff_not, Bool.not_eq_true, Bool.not_eq_false, Bool.not_eq_true', Bool.not_eq_false', beq_iff_eq, bne_iff_ne, beq_eq_false_iff_ne, bne_eq_false_iff_eq, Int.not_lt, Int.not_le, ge_iff_le, gt_iff_lt] at h43
                refine AW_condT rfl ?_
                refine AW_skip ?_
                refine AW_condT rfl ?_
                refine AW_seq ?_
                refine AW_region ?_
                refine AL_p (x_field (off := 3) (o' := 3) rfl rfl rfl (by kernel_rfl) rfl) ?_
                refine AL_p (x_load1 rfl rfl rfl (by kernel_rfl) rfl) ?_
                refine AL_b (x_eql rfl rfl rfl) (fun b47 h47 => ?_)
                refine AL_p (x_move rfl rfl) ?_
                cases b47
                rotate_left
                · try simp only [decide_eq_true_eq, decide_eq_false_iff_not, Bool.not_eq_true, Bool.not_eq_false, Bool.not_eq_true', Bool.not_eq_false', beq_iff_eq, bne_iff_ne, beq_eq_false_iff_ne, bne_eq_false_iff_eq, Int.not_lt, Int.not_le, ge_iff_le, gt_iff_lt] at h47
                  refine AL_g rfl rfl (x_move rfl rfl) ?_
                  refine AL_p (x_pickT rfl rfl rfl) ?_
                  refine AL_p (x_move rfl rfl) ?_
                  cases b27
                  rotate_left
                  · try simp only [decide_eq_true_eq, decide_eq_false_iff_not, Bool.not_eq_true, Bool.not_eq_false, Bool.not_eq_true', Bool.not_eq_false', beq_iff_eq, bne_iff_ne, beq_eq_false_iff_ne, bne_eq_false_iff_eq, Int.not_lt, Int.not_le, ge_iff_le, gt_iff_lt] at h27
                    refine AL_g rfl rfl (x_move rfl rfl) ?_
                    refine AL_p (x_pickT rfl rfl rfl) ?_
                    refine AL_p (x_assign rfl rfl) ?_
                    refine AL_nil ?_
                    refine AW_ret (BQ_ret ?_)
                    exact ⟨rn [], ⟨⟨⟨_, rfl, vle_bool (by grind [msgB, noAddB, noNoteB, upToB, entryB])⟩, trivial⟩, trivial, trivial, rfl⟩⟩
                  · try simp only [decide_eq_true_eq, decide_eq_false_iff_not, Bool.not_eq_true, Bool.not_eq_false, Bool.not_eq_true', Bool.not_eq_false', beq_iff_eq, bne_iff_ne, beq_eq_false_iff_ne, bne_eq_false_iff_eq, Int.not_lt, Int.not_le, ge_iff_le, gt_iff_lt] at h27
                    refine AL_o rfl rfl rfl rfl ?_
                    refine AL_p (x_pickF rfl rfl rfl) ?_
                    refine AL_p (x_assign rfl rfl) ?_
                    refine AL_nil ?_
                    refine AW_ret (BQ_ret ?_)
                    exact ⟨rn [], ⟨⟨⟨_, rfl, vle_bool (by grind [msgB, noAddB, noNoteB, upToB, entryB])⟩, trivial⟩, trivial, trivial, rfl⟩⟩
                · try simp only [decide_eq_true_eq, decide_eq_false_iff_not, Bool.not_eq_true, Bool.not_eq_false, Bool.not_eq_true', Bool.not_eq_false', beq_iff_eq, bne_iff_ne, beq_eq_false_iff_ne, bne_eq_false_iff_eq, Int.not_lt, Int.not_le, ge_iff_le, gt_iff_lt] at h47
                  refine AL_o rfl rfl rfl rfl ?_
                  refine AL_p (x_pickF rfl rfl rfl) ?_
                  refine AL_p (x_move rfl rfl) ?_
                  refine AL_o rfl rfl rfl rfl ?_
                  refine AL_p (x_pickF rfl rfl rfl) ?_
                  refine AL_p (x_assign rfl rfl) ?_
                  refine AL_nil ?_
                  refine AW_ret (BQ_ret ?_)
                  exact ⟨rn [], ⟨⟨⟨_, rfl, vle_bool (by grind [msgB, noAddB, noNoteB, upToB, entryB])⟩, trivial⟩, trivial, trivial, rfl⟩⟩
              · try simp only [decide_eq_true_eq, decide_eq_false_iff_not, Bool.not_eq_true, Bool.not_eq_false, Bool.not_eq_true', Bool.not_eq_false', beq_iff_eq, bne_iff_ne, beq_eq_false_iff_ne, bne_eq_false_iff_eq, Int.not_lt, Int.not_le, ge_iff_le, gt_iff_lt] at h43
                refine AW_condF rfl ?_
                refine AW_region ?_
                refine AL_b (x_eql rfl rfl rfl) (fun b44 h44 => ?_)
                refine AL_p (x_assign rfl rfl) ?_
                refine AL_nil ?_
                cases b44
                rotate_left
                · try simp only [decide_eq_true_eq, decide_eq_false_iff_not, Bool.not_eq_true, Bool.not_eq_false, Bool.not_eq_true', Bool.not_eq_false', beq_iff_eq, bne_iff_ne, beq_eq_false_iff_ne, bne_eq_false_iff_eq, Int.not_lt, Int.not_le, ge_iff_le, gt_iff_lt] at h44
                  refine AW_condT rfl ?_
                  refine AW_seq ?_
                  refine AW_region ?_
                  refine AL_p (x_field (off := 3) (o' := 3) rfl rfl rfl (by kernel_rfl) rfl) ?_
                  refine AL_p (x_load1 rfl rfl rfl (by kernel_rfl) rfl) ?_
                  refine AL_b (x_eql rfl rfl rfl) (fun b47 h47 => ?_)
                  refine AL_p (x_move rfl rfl) ?_
                  cases b47
                  rotate_left
                  · try simp only [decide_eq_true_eq, decide_eq_false_iff_not, Bool.not_eq_true, Bool.not_eq_false, Bool.not_eq_true', Bool.not_eq_false', beq_iff_eq, bne_iff_ne, beq_eq_false_iff_ne, bne_eq_false_iff_eq, Int.not_lt, Int.not_le, ge_iff_le, gt_iff_lt] at h47
                    refine AL_g rfl rfl (x_move rfl rfl) ?_
                    refine AL_p (x_pickT rfl rfl rfl) ?_
                    refine AL_p (x_move rfl rfl) ?_
                    cases b27
                    rotate_left
                    · try simp only [decide_eq_true_eq, decide_eq_false_iff_not, Bool.not_eq_true, Bool.not_eq_false, Bool.not_eq_true', Bool.not_eq_false', beq_iff_eq, bne_iff_ne, beq_eq_false_iff_ne, bne_eq_false_iff_eq, Int.not_lt, Int.not_le, ge_iff_le, gt_iff_lt] at h27
                      refine AL_g rfl rfl (x_move rfl rfl) ?_
                      refine AL_p (x_pickT rfl rfl rfl) ?_
                      refine AL_p (x_assign rfl rfl) ?_
                      refine AL_nil ?_
                      refine AW_ret (BQ_ret ?_)
                      exact ⟨rn [], ⟨⟨⟨_, rfl, vle_bool (by grind [msgB, noAddB, noNoteB, upToB, entryB])⟩, trivial⟩, trivial, trivial, rfl⟩⟩
                    · try simp only [decide_eq_true_eq, decide_eq_false_iff_not, Bool.not_eq_true, Bool.not_eq_false, Bool.not_eq_true', Bool.not_eq_false', beq_iff_eq, bne_iff_ne, beq_eq_false_iff_ne, bne_eq_false_iff_eq, Int.not_lt, Int.not_le, ge_iff_le, gt_iff_lt] at h27
                      refine AL_o rfl rfl rfl rfl ?_
                      refine AL_p (x_pickF rfl rfl rfl) ?_
                      refine AL_p (x_assign rfl rfl) ?_
                      refine AL_nil ?_
                      refine AW_ret (BQ_ret ?_)
                      exact ⟨rn [], ⟨⟨⟨_, rfl, vle_bool (by grind [msgB, noAddB, noNoteB, upToB, entryB])⟩, trivial⟩, trivial, trivial, rfl⟩⟩
                  · try simp only [decide_eq_true_eq, decide_eq_false_iff_not, Bool.not_eq_true, Bool.not_eq_false, Bool.not_eq_true', Bool.not_eq_false', beq_iff_eq, bne_iff_ne, beq_eq_false_iff_ne, bne_eq_false_iff_eq, Int.not_lt, Int.not_le, ge_iff_le, gt_iff_lt] at h47
                    refine AL_o rfl rfl rfl rfl ?_
                    refine AL_p (x_pickF rfl rfl rfl) ?_
                    refine AL_p (x_move rfl rfl) ?_
                    refine AL_o rfl rfl rfl rfl ?_
                    refine AL_p (x_pickF rfl rfl rfl) ?_
                    refine AL_p (x_assign rfl rfl) ?_
                    refine AL_nil ?_
                    refine AW_ret (BQ_ret ?_)
                    exact ⟨rn [], ⟨⟨⟨_, rfl, vle_bool (by grind [msgB, noAddB, noNoteB, upToB, entryB])⟩, trivial⟩, trivial, trivial, rfl⟩⟩
                · try simp only [decide_eq_true_eq, decide_eq_false_iff_not, Bool.not_eq_true, Bool.not_eq_false, Bool.not_eq_true', Bool.not_eq_false', beq_iff_eq, bne_iff_ne, beq_eq_false_iff_ne, bne_eq_false_iff_eq, Int.not_lt, Int.not_le, ge_iff_le, gt_iff_lt] at h44
                  refine AW_condF rfl ?_
                  refine AW_seq ?_
                  refine AW_region ?_
                  refine AL_b (x_eql rfl rfl rfl) (fun b55 h55 => ?_)
                  refine AL_p (x_assign rfl rfl) ?_
                  refine AL_nil ?_
                  cases b55
                  rotate_left
                  · try simp only [decide_eq_true_eq, decide_eq_false_iff_not, Bool.not_eq_true, Bool.not_eq_false, Bool.not_eq_true', Bool.not_eq_false', beq_iff_eq, bne_iff_ne, beq_eq_false_iff_ne, bne_eq_false_iff_eq, Int.not_lt, Int.not_le, ge_iff_le, gt_iff_lt] at h55
                    refine AW_condT rfl ?_
                    refine AW_seq ?_
                    refine AW_region ?_
                    refine AL_p (x_field (off := 3) (o' := 3) rfl rfl rfl (by kernel_rfl) rfl) ?_
                    refine AL_p (x_load1 rfl rfl rfl (by kernel_rfl) rfl) ?_
                    refine AL_p (x_field (off := 4) (o' := 4) rfl rfl rfl (by kernel_rfl) rfl) ?_
                    refine AL_p (x_load1 rfl rfl rfl (by kernel_rfl) rfl) ?_
                    refine AL_p (x_field (off := 5) (o' := 5) rfl rfl rfl (by kernel_rfl) rfl) ?_
                    refine AL_p (x_loadN (n := 2) rfl rfl rfl (by kernel_rfl) rfl rfl) ?_
                    refine AL_p (x_field (off := 7) (o' := 7) rfl rfl rfl (by kernel_rfl) rfl) ?_
                    refine AL_p (x_load1 rfl rfl rfl (by kernel_rfl) rfl) ?_
                    refine AL_p (x_build (zs := [.int .i64 0, .int .i64 0, .slice none 0 0, .slice none 0 0, .slice none 0 0, .int .i64 0]) (places := [(0, 1), (1, 1), (2, 2), (4, 1), (5, 1)]) rfl (by kernel_rfl) rfl rfl rfl rfl rfl) ?_
                    refine AL_b (x_call0 rfl rfl rfl (entryI_c _ _ 0 m.mat m.acts) rfl rfl) (fun b65 h65 => ?_)
                    refine AL_p (x_move rfl rfl) ?_
                    cases b65
                    rotate_left
                    · try simp only [decide_eq_true_eq, decide_eq_false_iff_not, Bool.not_eq_true, Bool.not_eq_false, Bool.not_eq_true', Bool.not_eq_false', beq_iff_eq, bne_iff_ne, beq_eq_false_iff_ne, bne_eq_false_iff_eq, Int.not_lt, Int.not_le, ge_iff_le, gt_iff_lt] at h65
                      refine AL_g rfl rfl (x_move rfl rfl) ?_
                      refine AL_p (x_pickT rfl rfl rfl) ?_
                      refine AL_p (x_assign rfl rfl) ?_
                      refine AL_nil ?_
                      refine AW_ret (BQ_ret ?_)
                      exact ⟨rn [], ⟨⟨⟨_, rfl, vle_bool (by grind [msgB, noAddB, noNoteB, upToB, entryB])⟩, trivial⟩, trivial, trivial, rfl⟩⟩
                    · try simp only [decide_eq_true_eq, decide_eq_false_iff_not, Bool.not_eq_true, Bool.not_eq_false, Bool.not_eq_true', Bool.not_eq_false', beq_iff_eq, bne_iff_ne, beq_eq_false_iff_ne, bne_eq_false_iff_eq, Int.not_lt, Int.not_le, ge_iff_le, gt_iff_lt] at h65
                      refine AL_o rfl rfl rfl rfl ?_
                      refine AL_p (x_pickF rfl rfl rfl) ?_
                      refine AL_p (x_assign rfl rfl) ?_
                      refine AL_nil ?_
                      refine AW_ret (BQ_ret ?_)
                      exact ⟨rn [], ⟨⟨⟨_, rfl, vle_bool (by grind [msgB, noAddB, noNoteB, upToB, entryB])⟩, trivial⟩, trivial, trivial, rfl⟩⟩
                  · try simp only [decide_eq_true_eq, decide_eq_false_iff_not, Bool.not_eq_true, Bool.not_eq_false, Bool.not_eq_true', Bool.not_eq_false', beq_iff_eq, bne_iff_ne, beq_eq_false_iff_ne, bne_eq_false_iff_eq, Int.not_lt, Int.not_le, ge_iff_le, gt_iff_lt] at h55
                    refine AW_condF rfl ?_
                    refine AW_seq ?_
                    refine AW_region ?_
                    refine AL_b (x_eql rfl rfl rfl) (fun b70 h70 => ?_)
                    refine AL_p (x_assign rfl rfl) ?_
                    refine AL_nil ?_
                    cases b70
                    rotate_left
                    · try simp only [decide_eq_true_eq, decide_eq_false_iff_not, Bool.not_eq_true, Bool.not_eq_false, Bool.not_eq_true', Bool.not_eq_false', beq_iff_eq, bne_iff_ne, beq_eq_false_iff_ne, bne_eq_false_iff_eq, Int.not_lt, Int.not_le, ge_iff_le, gt_iff_lt] at h70
                      refine AW_condT rfl ?_
                      refine AW_seq ?_
                      refine AW_region ?_
                      refine AL_p (x_field (off := 3) (o' := 3) rfl rfl rfl (by kernel_rfl) rfl) ?_
                      refine AL_p (x_load1 rfl rfl rfl (by kernel_rfl) rfl) ?_
                      refine AL_b (x_call0 rfl rfl rfl (upToI_c _ _) rfl rfl) (fun b73 h73 => ?_)
                      refine AL_p (x_move rfl rfl) ?_
                      cases b73
                      rotate_left
                      · try simp only [decide_eq_true_eq, decide_eq_false_iff_not, Bool.not_eq_true, Bool.not_eq_false, Bool.not_eq_true', Bool.not_eq_false', beq_iff_eq, bne_iff_ne, beq_eq_false_iff_ne, bne_eq_false_iff_eq, Int.not_lt, Int.not_le, ge_iff_le, gt_iff_lt] at h73
                        refine AL_g rfl rfl (x_move rfl rfl) ?_
                        refine AL_p (x_pickT rfl rfl rfl) ?_
                        refine AL_p (x_move rfl rfl) ?_
                        cases b27
                        rotate_left
                        · try simp only [decide_eq_true_eq, decide_eq_false_iff_not, Bool.not_eq_true, Bool.not_eq_false, Bool.not_eq_true', Bool.not_eq_false', beq_iff_eq, bne_iff_ne, beq_eq_false_iff_ne, bne_eq_false_iff_eq, Int.not_lt, Int.not_le, ge_iff_le, gt_iff_lt] at h27
                          refine AL_g rfl rfl (x_move rfl rfl) ?_
                          refine AL_p (x_pickT rfl rfl rfl) ?_
                          refine AL_p (x_assign rfl rfl) ?_
                          refine AL_nil ?_
                          refine AW_ret (BQ_ret ?_)
                          exact ⟨rn [], ⟨⟨⟨_, rfl, vle_bool (by grind [msgB, noAddB, noNoteB, upToB, entryB])⟩, trivial⟩, trivial, trivial, rfl⟩⟩
                        · try simp only [decide_eq_true_eq, decide_eq_false_iff_not, Bool.not_eq_true, Bool.not_eq_false, Bool.not_eq_true', Bool.not_eq_false', beq_iff_eq, bne_iff_ne, beq_eq_false_iff_ne, bne_eq_false_iff_eq, Int.not_lt, Int.not_le, ge_iff_le, gt_iff_lt] at h27
                          refine AL_o rfl rfl rfl rfl ?_
                          refine AL_p (x_pickF rfl rfl rfl) ?_
                          refine AL_p (x_assign rfl rfl) ?_
                          refine AL_nil ?_
                          refine AW_ret (BQ_ret ?_)
                          exact ⟨rn [], ⟨⟨⟨_, rfl, vle_bool (by grind [msgB, noAddB, noNoteB, upToB, entryB])⟩, trivial⟩, trivial, trivial, rfl⟩⟩
                      · try simp only [decide_eq_true_eq, decide_eq_false_iff_not, Bool.not_eq_true, Bool.not_eq_false, Bool.not_eq_true', Bool.not_eq_false', beq_iff_eq, bne_iff_ne, beq_eq_false_iff_ne, bne_eq_false_iff_eq, Int.not_lt, Int.not_le, ge_iff_le, gt_iff_lt] at h73
                        refine AL_o rfl rfl rfl rfl ?_
                        refine AL_p (x_pickF rfl rfl rfl) ?_
                        refine AL_p (x_move rfl rfl) ?_
                        refine AL_o rfl rfl rfl rfl ?_
                        refine AL_p (x_pickF rfl rfl rfl) ?_
                        refine AL_p (x_assign rfl rfl) ?_
                        refine AL_nil ?_
                        refine AW_ret (BQ_ret ?_)
                        exact ⟨rn [], ⟨⟨⟨_, rfl, vle_bool (by grind [msgB, noAddB, noNoteB, upToB, entryB])⟩, trivial⟩, trivial, trivial, rfl⟩⟩
                    · try simp only [decide_eq_true_eq, decide_eq_false_iff_not, Bool.not_eq_true, Bool.not_eq_false, Bool.not_eq_true', Bool.not_eq_false', beq_iff_eq, bne_iff_ne, beq_eq_false_iff_ne, bne_eq_false_iff_eq, Int.not_lt, Int.not_le, ge_iff_le, gt_iff_lt] at h70
                      refine AW_condF rfl ?_
                      refine AW_seq ?_
                      refine AW_region ?_
                      refine AL_b (x_eql rfl rfl rfl) (fun b81 h81 => ?_)
                      refine AL_p (x_assign rfl rfl) ?_
                      refine AL_nil ?_
                      cases b81
                      rotate_left
                      · try simp only [decide_eq_true_eq, decide_eq_false_iff_not, Bool.not_eq_true, Bool.not_eq_false, Bool.not_eq_true', Bool.not_eq_false', beq_iff_eq, bne_iff_ne, beq_eq_false_iff_ne, bne_eq_false_iff_eq, Int.not_lt, Int.not_le, ge_iff_le, gt_iff_lt] at h81
                        refine AW_condT rfl ?_
                        refine AW_seq ?_
                        refine AW_region ?_
                        refine AL_p (x_field (off := 3) (o' := 3) rfl rfl rfl (by kernel_rfl) rfl) ?_
                        refine AL_p (x_load1 rfl rfl rfl (by kernel_rfl) rfl) ?_
                        refine AL_b (x_eql rfl rfl rfl) (fun b84 h84 => ?_)
                        refine AL_p (x_move rfl rfl) ?_
                        cases b84
                        rotate_left
                        · try simp only [decide_eq_true_eq, decide_eq_false_iff_not, Bool.not_eq_true, Bool.not_eq_false, Bool.not_eq_true', Bool.not_eq_false', beq_iff_eq, bne_iff_ne, beq_eq_false_iff_ne, bne_eq_false_iff_eq, Int.not_lt, Int.not_le, ge_iff_le, gt_iff_lt] at h84
                          refine AL_g rfl rfl (x_move rfl rfl) ?_
                          refine AL_p (x_pickT rfl rfl rfl) ?_
                          refine AL_p (x_move rfl rfl) ?_
                          cases b27
                          rotate_left
                          · try simp only [decide_eq_true_eq, decide_eq_false_iff_not, Bool.not_eq_true, Bool.not_eq_false, Bool.not_eq_true', Bool.not_eq_false', beq_iff_eq, bne_iff_ne, beq_eq_false_iff_ne, bne_eq_false_iff_eq, Int.not_lt, Int.not_le, ge_iff_le, gt_iff_lt] at h27
                            refine AL_g rfl rfl (x_field (off := 9) (o' := 9) rfl rfl rfl (by kernel_rfl) rfl) ?_
                            refine AL_g rfl rfl (x_loadN (n := 1) rfl rfl rfl (by kernel_rfl) rfl rfl) ?_
                            refine AL_gb rfl rfl (x_call0 rfl rfl rfl (headI_c _) rfl rfl) (fun b91 h91 => ?_)
                            refine AL_p (x_pickT rfl rfl rfl) ?_
                            refine AL_p (x_assign rfl rfl) ?_
                            refine AL_nil ?_
                            refine AW_ret (BQ_ret ?_)
                            cases b91
                            rotate_left
                            · try simp only [decide_eq_true_eq, decide_eq_false_iff_not, Bool.not_eq_true, Bool.not_eq_false, Bool.not_eq_true', Bool.not_eq_false', beq_iff_eq, bne_iff_ne, beq_eq_false_iff_ne, bne_eq_false_iff_eq, Int.not_lt, Int.not_le, ge_iff_le, gt_iff_lt] at h91
                              exact ⟨rn [], ⟨⟨⟨_, rfl, vle_bool (by grind [msgB, noAddB, noNoteB, upToB, entryB])⟩, trivial⟩, trivial, trivial, rfl⟩⟩
                            · try simp only [decide_eq_true_eq, decide_eq_false_iff_not, Bool.not_eq_true, Bool.not_eq_false, Bool.not_eq_true', Bool.not_eq_false', beq_iff_eq, bne_iff_ne, beq_eq_false_iff_ne, bne_eq_false_iff_eq, Int.not_lt, Int.not_le, ge_iff_le, gt_iff_lt] at h91
                              exact ⟨rn [], ⟨⟨⟨_, rfl, vle_bool (by grind [msgB, noAddB, noNoteB, upToB, entryB])⟩, trivial⟩, trivial, trivial, rfl⟩⟩
                          · try simp only [decide_eq_true_eq, decide_eq_false_iff_not, Bool.not_eq_true, Bool.not_eq_false, Bool.not_eq_true', Bool.not_eq_false', beq_iff_eq, bne_iff_ne, beq_eq_false_iff_ne, bne_eq_false_iff_eq, Int.not_lt, Int.not_le, ge_iff_le, gt_iff_lt] at h27
                            refine AL_o rfl rfl rfl rfl ?_
                            refine AL_o rfl rfl rfl rfl ?_
                            refine AL_o rfl rfl rfl rfl ?_
                            refine AL_p (x_pickF rfl rfl rfl) ?_
                            refine AL_p (x_assign rfl rfl) ?_
                            refine AL_nil ?_
                            refine AW_ret (BQ_ret ?_)
                            exact ⟨rn [], ⟨⟨⟨_, rfl, vle_bool (by grind [msgB, noAddB, noNoteB, upToB, entryB])⟩, trivial⟩, trivial, trivial, rfl⟩⟩
                        · try simp only [decide_eq_true_eq, decide_eq_false_iff_not, Bool.not_eq_true, Bool.not_eq_false, Bool.not_eq_true', Bool.not_eq_false', beq_iff_eq, bne_iff_ne, beq_eq_false_iff_ne, bne_eq_false_iff_eq, Int.not_lt, Int.not_le, ge_iff_le, gt_iff_lt] at h84
                          refine AL_o rfl rfl rfl rfl ?_
                          refine AL_p (x_pickF rfl rfl rfl) ?_
                          refine AL_p (x_move rfl rfl) ?_
                          refine AL_o rfl rfl rfl rfl ?_
                          refine AL_o rfl rfl rfl rfl ?_
                          refine AL_o rfl rfl rfl rfl ?_
                          refine AL_p (x_pickF rfl rfl rfl) ?_
                          refine AL_p (x_assign rfl rfl) ?_
                          refine AL_nil ?_
                          refine AW_ret (BQ_ret ?_)
                          exact ⟨rn [], ⟨⟨⟨_, rfl, vle_bool (by grind [msgB, noAddB, noNoteB, upToB, entryB])⟩, trivial⟩, trivial, trivial, rfl⟩⟩
                      · try simp only [decide_eq_true_eq, decide_eq_false_iff_not, Bool.not_eq_true, Bool.not_eq_false, Bool.not_eq_true', Bool.not_eq_false', beq_iff_eq, bne_iff_ne, beq_eq_false_iff_ne, bne_eq_false_iff_eq, Int.not_lt, Int.not_le, ge_iff_le, gt_iff_lt] at h81
                        refine AW_condF rfl ?_
                        refine AW_skip ?_
                        refine AW_seq ?_
                        refine AW_region ?_
                        refine AL_p (x_assign rfl rfl) ?_
                        refine AL_nil ?_
                        refine AW_ret ?_
                        exact ⟨rn [], ⟨⟨⟨_, rfl, vle_bool (by grind [msgB, noAddB, noNoteB, upToB, entryB])⟩, trivial⟩, trivial, trivial, rfl⟩⟩
          · try simp only [decide_eq_true_eq, decide_eq_false_iff_not, Bool.not_eq_true, Bool.not_eq_false, Bool.not_eq_true', Bool.not_eq_false', beq_iff_eq, bne_iff_ne, beq_eq_false_iff_ne, bne_eq_false_iff_eq, Int.not_lt, Int.not_le, ge_iff_le, gt_iff_lt] at h30
            refine AL_g rfl rfl (x_field (off := 9) (o' := 9) rfl rfl rfl (by kernel_rfl) rfl) ?_
            refine AL_g rfl rfl (x_field (off := 0) (o' := 9) rfl rfl rfl (by kernel_rfl) rfl) ?_
            refine AL_g rfl rfl (x_load1 rfl rfl rfl (by kernel_rfl) rfl) ?_
            refine AL_g rfl rfl (x_len (E := 3) (n := 1) rfl rfl (by kernel_rfl)) ?_
            refine AL_gb rfl rfl (x_eql rfl rfl rfl) (fun b37 h37 => ?_)
            refine AL_p (x_pickT rfl rfl rfl) ?_
            refine AL_p (x_assign rfl rfl) ?_
            refine AL_nil ?_
            refine AW_seq ?_
            refine AW_seq ?_
            refine AW_region ?_
            refine AL_p (x_field (off := 0) (o' := 0) rfl rfl rfl (by kernel_rfl) rfl) ?_
            refine AL_p (x_load1 rfl rfl rfl (by kernel_rfl) rfl) ?_
            refine AL_nil ?_
            refine AW_block ?_
            refine AW_seq ?_
            refine AW_seq ?_
            refine AW_region ?_
            refine AL_b (x_eql rfl rfl rfl) (fun b42 h42 => ?_)
            refine AL_p (x_assign rfl rfl) ?_
            refine AL_nil ?_
            cases b42
            rotate_left
            · try simp only [decide_eq_true_eq, decide_eq_false_iff_not, Bool.not_eq_true, Bool.not_eq_false, Bool.not_eq_true', Bool.not_eq_false', beq_iff_eq, bne_iff_ne, beq_eq_false_iff_ne, bne_eq_false_iff_eq, Int.not_lt, Int.not_le, ge_iff_le, gt_iff_lt] at h42
              refine AW_condT rfl ?_
              refine AW_skip ?_
              refine AW_condT rfl ?_
              refine AW_seq ?_
              refine AW_region ?_
              refine AL_p (x_field (off := 3) (o' := 3) rfl rfl rfl (by kernel_rfl) rfl) ?_
              refine AL_p (x_load1 rfl rfl rfl (by kernel_rfl) rfl) ?_
              refine AL_b (x_eql rfl rfl rfl) (fun b47 h47 => ?_)
              refine AL_p (x_move rfl rfl) ?_
              cases b47
              rotate_left
              · try simp only [decide_eq_true_eq, decide_eq_false_iff_not, Bool.not_eq_true, Bool.not_eq_false, Bool.not_eq_true', Bool.not_eq_false', beq_iff_eq, bne_iff_ne, beq_eq_false_iff_ne, bne_eq_false_iff_eq, Int.not_lt, Int.not_le, ge_iff_le, gt_iff_lt] at h47
                refine AL_g rfl rfl (x_move rfl rfl) ?_
                refine AL_p (x_pickT rfl rfl rfl) ?_
                refine AL_p (x_move rfl rfl) ?_
                cases b27
                rotate_left
                · try simp only [decide_eq_true_eq, decide_eq_false_iff_not, Bool.not_eq_true, Bool.not_eq_false, Bool.not_eq_true', Bool.not_eq_false', beq_iff_eq, bne_iff_ne, beq_eq_false_iff_ne, bne_eq_false_iff_eq, Int.not_lt, Int.not_le, ge_iff_le, gt_iff_lt] at h27
                  refine AL_g rfl rfl (x_move rfl rfl) ?_
                  refine AL_p (x_pickT rfl rfl rfl) ?_
                  refine AL_p (x_assign rfl rfl) ?_
                  refine AL_nil ?_
                  refine AW_ret (BQ_ret ?_)
                  cases b37
                  rotate_left
                  · try simp only [decide_eq_true_eq, decide_eq_false_iff_not, Bool.not_eq_true, Bool.not_eq_false, Bool.not_eq_true', Bool.not_eq_false', beq_iff_eq, bne_iff_ne, beq_eq_false_iff_ne, bne_eq_false_iff_eq, Int.not_lt, Int.not_le, ge_iff_le, gt_iff_lt] at h37
                    exact ⟨rn [], ⟨⟨⟨_, rfl, vle_bool (by grind [msgB, noAddB, noNoteB, upToB, entryB])⟩, trivial⟩, trivial, trivial, rfl⟩⟩
                  · try simp only [decide_eq_true_eq, decide_eq_false_iff_not, Bool.not_eq_true, Bool.not_eq_false, Bool.not_eq_true', Bool.not_eq_false', beq_iff_eq, bne_iff_ne, beq_eq_false_iff_ne, bne_eq_false_iff_eq, Int.not_lt, Int.not_le, ge_iff_le, gt_iff_lt] at h37
                    exact ⟨rn [], ⟨⟨⟨_, rfl, vle_bool (by grind [msgB, noAddB, noNoteB, upToB, entryB])⟩, trivial⟩, trivial, trivial, rfl⟩⟩
                · try simp only [decide_eq_true_eq, decide_eq_false_iff_not, Bool.not_eq_true, Bool.not_eq_false, Bool.not_eq_true', Bool.not_eq_false', beq_iff_eq, bne_iff_ne, beq_eq_false_iff_ne, bne_eq_false_iff_eq, Int.not_lt, Int.not_le, ge_iff_le, gt_iff_lt] at h27
                  refine AL_o rfl rfl rfl rfl ?_
                  refine AL_p (x_pickF rfl rfl rfl) ?_
                  refine AL_p (x_assign rfl rfl) ?_
                  refine AL_nil ?_
                  refine AW_ret (BQ_ret ?_)
                  exact ⟨rn [], ⟨⟨⟨_, rfl, vle_bool (by grind [msgB, noAddB, noNoteB, upToB, entryB])⟩, trivial⟩, trivial, trivial, rfl⟩⟩
              · try simp only [decide_eq_true_eq, decide_eq_false_iff_not, Bool.not_eq_true, Bool.not_eq_false, Bool.not_eq_true', Bool.not_eq_false', beq_iff_eq, bne_iff_ne, beq_eq_false_iff_ne, bne_eq_false_iff_eq, Int.not_lt, Int.not_le, ge_iff_le, gt_iff_lt] at h47
                refine AL_o rfl rfl rfl rfl ?_
                refine AL_p (x_pickF rfl rfl rfl) ?_
                refine AL_p (x_move rfl rfl) ?_
                refine AL_o rfl rfl rfl rfl ?_
                refine AL_p (x_pickF rfl rfl rfl) ?_
                refine AL_p (x_assign rfl rfl) ?_
                refine AL_nil ?_
                refine AW_ret (BQ_ret ?_)
                exact ⟨rn [], ⟨⟨⟨_, rfl, vle_bool (by grind [msgB, noAddB, noNoteB, upToB, entryB])⟩, trivial⟩, trivial, trivial, rfl⟩⟩
            · try simp only [decide_eq_true_eq, decide_eq_false_iff_not, Bool.not_eq_true, Bool.not_eq_false, Bool.not_eq_true', Bool.not_eq_false', beq_iff_eq, bne_iff_ne, beq_eq_false_iff_ne, bne_eq_false_iff_eq, Int.not_lt, Int.not_le, ge_iff_le, gt_iff_lt] at h42
              refine AW_condF rfl ?_
              refine AW_seq ?_
              refine AW_region ?_
              refine AL_b (x_eql rfl rfl rfl) (fun b43 h43 => ?_)
              refine AL_p (x_assign rfl rfl) ?_
              refine AL_nil ?_
              cases b43
              rotate_left
              · try simp only [decide_eq_true_eq, decide_eq_false_iff_not, Bool.not_eq_true, Bool.not_eq_false, Bool.not_eq_true', Bool.not_eq_false', beq_iff_eq, bne_iff_ne, beq_eq_false_iff_ne, bne_eq_false_iff_eq, Int.not_lt, Int.not_le, ge_iff_le, gt_iff_lt] at h43
                refine AW_condT rfl ?_
                refine AW_skip ?_
                refine AW_condT rfl ?_
                refine AW_seq ?_
                refine AW_region ?_
                refine AL_p (x_field (off := 3) (o' := 3) rfl rfl rfl (by kernel_rfl) rfl) ?_
                refine AL_p (x_load1 rfl rfl rfl (by kernel_rfl) rfl) ?_
                refine AL_b (x_eql rfl rfl rfl) (fun b47 h47 => ?_)
                refine AL_p (x_move rfl rfl) ?_
                cases b47
                rotate_left
                · try simp only [decide_eq_true_eq, decide_eq_false_iff_not, Bool.not_eq_true, Bool.not_eq_false, Bool.not_eq_true', Bool.not_eq_false', beq_iff_eq, bne_iff_ne, beq_eq_false_iff_ne, bne_eq_false_iff_eq, Int.not_lt, Int.not_le, ge_iff_le, gt_iff_lt] at h47
                  refine AL_g rfl rfl (x_move rfl rfl) ?_
                  refine AL_p (x_pickT rfl rfl rfl) ?_
                  refine AL_p (x_move rfl rfl) ?_
                  cases b27
                  rotate_left
                  · try simp only [decide_eq_true_eq, decide_eq_false_iff_not, Bool.not_eq_true, Bool.not_eq_false, Bool.not_eq_true', Bool.not_eq_false', beq_iff_eq, bne_iff_ne, beq_eq_false_iff_ne, bne_eq_false_iff_eq, Int.not_lt, Int.not_le, ge_iff_le, gt_iff_lt] at h27
                    refine AL_g rfl rfl (x_move rfl rfl) ?_
                    refine AL_p (x_pickT rfl rfl rfl) ?_
                    refine AL_p (x_assign rfl rfl) ?_
                    refine AL_nil ?_
                    refine AW_ret (BQ_ret ?_)
                    cases b37
                    rotate_left
                    · try simp only [decide_eq_true_eq, decide_eq_false_iff_not, Bool.not_eq_true, Bool.not_eq_false, Bool.not_eq_true', Bool.not_eq_false', beq_iff_eq, bne_iff_ne, beq_eq_false_iff_ne, bne_eq_false_iff_eq, Int.not_lt, Int.not_le, ge_iff_le, gt_iff_lt] at h37
                      exact ⟨rn [], ⟨⟨⟨_, rfl, vle_bool (by grind [msgB, noAddB, noNoteB, upToB, entryB])⟩, trivial⟩, trivial, trivial, rfl⟩⟩
                    · try simp only [decide_eq_true_eq, decide_eq_false_iff_not, Bool.not_eq_true, Bool.not_eq_false, Bool.not_eq_true', Bool.not_eq_false', beq_iff_eq, bne_iff_ne, beq_eq_false_iff_ne, bne_eq_false_iff_eq, Int.not_lt, Int.not_le, ge_iff_le, gt_iff_lt] at h37
                      exact ⟨rn [], ⟨⟨⟨_, rfl, vle_bool (by grind [msgB, noAddB, noNoteB, upToB, entryB])⟩, trivial⟩, trivial, trivial, rfl⟩⟩
                  · try simp only [decide_eq_true_eq, decide_eq_false_iff_not, Bool.not_eq_true, Bool.not_eq_false, Bool.not_eq_true', Bool.not_eq_false', beq_iff_eq, bne_iff_ne, beq_eq_false_iff_ne, bne_eq_false_iff_eq, Int.not_lt, Int.not_le, ge_iff_le, gt_iff_lt] at h27
                    refine AL_o rfl rfl rfl rfl ?_
                    refine AL_p (x_pickF rfl rfl rfl) ?_
                    refine AL_p (x_assign rfl rfl) ?_
                    refine AL_nil ?_
                    refine AW_ret (BQ_ret ?_)
                    exact ⟨rn [], ⟨⟨⟨_, rfl, vle_bool (by grind [msgB, noAddB, noNoteB, upToB, entryB])⟩, trivial⟩, trivial, trivial, rfl⟩⟩
                · try simp only [decide_eq_true_eq, decide_eq_false_iff_not, Bool.not_eq_true, Bool.not_eq_false, Bool.not_eq_true', Bool.not_eq_false', beq_iff_eq, bne_iff_ne, beq_eq_false_iff_ne, bne_eq_false_iff_eq, Int.not_lt, Int.not_le, ge_iff_le, gt_iff_lt] at h47
                  refine AL_o rfl rfl rfl rfl ?_
                  refine AL_p (x_pickF rfl rfl rfl) ?_
                  refine AL_p (x_move rfl rfl) ?_
                  refine AL_o rfl rfl rfl rfl ?_
                  refine AL_p (x_pickF rfl rfl rfl) ?_
                  refine AL_p (x_assign rfl rfl) ?_
                  refine AL_nil ?_
                  refine AW_ret (BQ_ret ?_)
                  exact ⟨rn [], ⟨⟨⟨_, rfl, vle_bool (by grind [msgB, noAddB, noNoteB, upToB, entryB])⟩, trivial⟩, trivial, trivial, rfl⟩⟩
              · try simp only [decide_eq_true_eq, decide_eq_false_iff_not, Bool.not_eq_true, Bool.not_eq_false, Bool.not_eq_true', Bool.not_eq_false', beq_iff_eq, bne_iff_ne, beq_eq_false_iff_ne, bne_eq_false_iff_eq, Int.not_lt, Int.not_le, ge_iff_le, gt_iff_lt] at h43
                refine AW_condF rfl ?_
                refine AW_region ?_
                refine AL_b (x_eql rfl rfl rfl) (fun b44 h44 => ?_)
                refine AL_p (x_assign rfl rfl) ?_
                refine AL_nil ?_
                cases b44
                rotate_left
                · try simp only [decide_eq_true_eq, decide_eq_false_iff_not, Bool.not_eq_true, Bool.not_eq_false, Bool.not_eq_true', Bool.not_eq_false', beq_iff_eq, bne_iff_ne, beq_eq_false_iff_ne, bne_eq_false_iff_eq, Int.not_lt, Int.not_le, ge_iff_le, gt_iff_lt] at h44
                  refine AW_condT rfl ?_
                  refine AW_seq ?_
                  refine AW_region ?_
                  refine AL_p (x_field (off := 3) (o' := 3) rfl rfl rfl (by kernel_rfl) rfl) ?_
                  refine AL_p (x_load1 rfl rfl rfl (by kernel_rfl) rfl) ?_
                  refine AL_b (x_eql rfl rfl rfl) (fun b47 h47 => ?_)
                  refine AL_p (x_move rfl rfl) ?_
                  cases b47
                  rotate_left
                  · try simp only [decide_eq_true_eq, decide_eq_false_iff_not, Bool.not_eq_true, Bool.not_eq_false, Bool.not_eq_true', Bool.not_eq_false', beq_iff_eq, bne_iff_ne, beq_eq_false_iff_ne, bne_eq_false_iff_eq, Int.not_lt, Int.not_le, ge_iff_le, gt_iff_lt] at h47
                    refine AL_g rfl rfl (x_move rfl rfl) ?_
                    refine AL_p (x_pickT rfl rfl rfl) ?_
                    refine AL_p (x_move rfl rfl) ?_
                    cases b27
                    rotate_left
                    · try simp only [decide_eq_true_eq, decide_eq_false_iff_not, Bool.not_eq_true, Bool.not_eq_false, Bool.not_eq_true', Bool.not_eq_false', beq_iff_eq, bne_iff_ne, beq_eq_false_iff_ne, bne_eq_false_iff_eq, Int.not_lt, Int.not_le, ge_iff_le, gt_iff_lt] at h27
                      refine AL_g rfl rfl (x_move rfl rfl) ?_
                      refine AL_p (x_pickT rfl rfl rfl) ?_
                      refine AL_p (x_assign rfl rfl) ?_
                      refine AL_nil ?_
                      refine AW_ret (BQ_ret ?_)
                      cases b37
                      rotate_left
                      · try simp only [decide_eq_true_eq, decide_eq_false_iff_not, Bool.not_eq_true, Bool.not_eq_false, Bool.not_eq_true', Bool.not_eq_false', beq_iff_eq, bne_iff_ne, beq_eq_false_iff_ne, bne_eq_false_iff_eq, Int.not_lt, Int.not_le, ge_iff_le, gt_iff_lt] at h37
                        exact ⟨rn [], ⟨⟨⟨_, rfl, vle_bool (by grind [msgB, noAddB, noNoteB, upToB, entryB])⟩, trivial⟩, trivial, trivial, rfl⟩⟩
                      · try simp only [decide_eq_true_eq, decide_eq_false_iff_not, Bool.not_eq_true, Bool.not_eq_false, Bool.not_eq_true', Bool.not_eq_false', beq_iff_eq, bne_iff_ne, beq_eq_false_iff_ne, bne_eq_false_iff_eq, Int.not_lt, Int.not_le, ge_iff_le, gt_iff_lt] at h37
                        exact ⟨rn [], ⟨⟨⟨_, rfl, vle_bool (by grind [msgB, noAddB, noNoteB, upToB, entryB])⟩, trivial⟩, trivial, trivial, rfl⟩⟩
                    · try simp only [decide_eq_true_eq, decide_eq_false_iff_not, Bool.not_eq_true, Bool.not_eq_false, Bool.not_eq_true', Bool.not_eq_false', beq_iff_eq, bne_iff_ne, beq_eq_false_iff_ne, bne_eq_false_iff_eq, Int.not_lt, Int.not_le, ge_iff_le, gt_iff_lt] at h27
                      refine AL_o rfl rfl rfl rfl ?_
                      refine AL_p (x_pickF rfl rfl rfl) ?_
                      refine AL_p (x_assign rfl rfl) ?_
                      refine AL_nil ?_
                      refine AW_ret (BQ_ret ?_)
                      exact ⟨rn [], ⟨⟨⟨_, rfl, vle_bool (by grind [msgB, noAddB, noNoteB, upToB, entryB])⟩, trivial⟩, trivial, trivial, rfl⟩⟩
                  · try simp only [decide_eq_true_eq, decide_eq_false_iff_not, Bool.not_eq_true, Bool.not_eq_false, Bool.not_eq_true', Bool.not_eq_false', beq_iff_eq, bne_iff_ne, beq_eq_false_iff_ne, bne_eq_false_iff_eq, Int.not_lt, Int.not_le, ge_iff_le, gt_iff_lt] at h47
                    refine AL_o rfl rfl rfl rfl ?_
                    refine AL_p (x_pickF rfl rfl rfl) ?_
                    refine AL_p (x_move rfl rfl) ?_
                    refine AL_o rfl rfl rfl rfl ?_
                    refine AL_p (x_pickF rfl rfl rfl) ?_
                    refine AL_p (x_assign rfl rfl) ?_
                    refine AL_nil ?_
                    refine AW_ret (BQ_ret ?_)
                    exact ⟨rn [], ⟨⟨⟨_, rfl, vle_bool (by grind [msgB, noAddB, noNoteB, upToB, entryB])⟩, trivial⟩, trivial, trivial, rfl⟩⟩
                · try simp only [decide_eq_true_eq, decide_eq_false_iff_not, Bool.not_eq_true, Bool.not_eq_false, Bool.not_eq_true', Bool.not_eq_false', beq_iff_eq, bne_iff_ne, beq_eq_false_iff_ne, bne_eq_false_iff_eq, Int.not_lt, Int.not_le, ge_iff_le, gt_iff_lt] at h44
                  refine AW_condF rfl ?_
                  refine AW_seq ?_
                  refine AW_region ?_
                  refine AL_b (x_eql rfl rfl rfl) (fun b55 h55 => ?_)
                  refine AL_p (x_assign rfl rfl) ?_
                  refine AL_nil ?_
                  cases b55
                  rotate_left
                  · try simp only [decide_eq_true_eq, decide_eq_false_iff_not, Bool.not_eq_true, Bool.not_eq_false, Bool.not_eq_true', Bool.not_eq_false', beq_iff_eq, bne_iff_ne, beq_eq_false_iff_ne, bne_eq_false_iff_eq, Int.not_lt, Int.not_le, ge_iff_le, gt_iff_lt] at h55
                    refine AW_condT rfl ?_
                    refine AW_seq ?_
                    refine AW_region ?_
                    refine AL_p (x_field (off := 3) (o' := 3) rfl rfl rfl (by kernel_rfl) rfl) ?_
                    refine AL_p (x_load1 rfl rfl rfl (by kernel_rfl) rfl) ?_
                    refine AL_p (x_field (off := 4) (o' := 4) rfl rfl rfl (by kernel_rfl) rfl) ?_
                    refine AL_p (x_load1 rfl rfl rfl (by kernel_rfl) rfl) ?_
                    refine AL_p (x_field (off := 5) (o' := 5) rfl rfl rfl (by kernel_rfl) rfl) ?_
                    refine AL_p (x_loadN (n := 2) rfl rfl rfl (by kernel_rfl) rfl rfl) ?_
                    refine AL_p (x_field (off := 7) (o' := 7) rfl rfl rfl (by kernel_rfl) rfl) ?_
                    refine AL_p (x_load1 rfl rfl rfl (by kernel_rfl) rfl) ?_
                    refine AL_p (x_build (zs := [.int .i64 0, .int .i64 0, .slice none 0 0, .slice none 0 0, .slice none 0 0, .int .i64 0]) (places := [(0, 1), (1, 1), (2, 2), (4, 1), (5, 1)]) rfl (by kernel_rfl) rfl rfl rfl rfl rfl) ?_
                    refine AL_b (x_call0 rfl rfl rfl (entryI_c _ _ 0 m.mat m.acts) rfl rfl) (fun b65 h65 => ?_)
                    refine AL_p (x_move rfl rfl) ?_
                    cases b65
                    rotate_left
                    · try simp only [decide_eq_true_eq, decide_eq_false_iff_not, Bool.not_eq_true, Bool.not_eq_false, Bool.not_eq_true', Bool.not_eq_false', beq_iff_eq, bne_iff_ne, beq_eq_false_iff_ne, bne_eq_false_iff_eq, Int.not_lt, Int.not_le, ge_iff_le, gt_iff_lt] at h65
                      refine AL_g rfl rfl (x_move rfl rfl) ?_
                      refine AL_p (x_pickT rfl rfl rfl) ?_
                      refine AL_p (x_assign rfl rfl) ?_
                      refine AL_nil ?_
                      refine AW_ret (BQ_ret ?_)
                      cases b37
                      rotate_left
                      · try simp only [decide_eq_true_eq, decide_eq_false_iff_not, Bool.not_eq_true, Bool.not_eq_false, Bool.not_eq_true', Bool.not_eq_false', beq_iff_eq, bne_iff_ne, beq_eq_false_iff_ne, bne_eq_false_iff_eq, Int.not_lt, Int.not_le, ge_iff_le, gt_iff_lt] at h37
                        exact ⟨rn [], ⟨⟨⟨_, rfl, vle_bool (by grind [msgB, noAddB, noNoteB, upToB, entryB])⟩, trivial⟩, trivial, trivial, rfl⟩⟩
                      · try simp only [decide_eq_true_eq, decide_eq_false_iff_not, Bool.not_eq_true, Bool.not_eq_false, Bool.not_eq_true', Bool.not_eq_false', beq_iff_eq, bne_iff_ne, beq_eq_false_iff_ne, bne_eq_false_iff_eq, Int.not_lt, Int.not_le, ge_iff_le, gt_iff_lt] at h37
                        exact ⟨rn [], ⟨⟨⟨_, rfl, vle_bool (by grind [msgB, noAddB, noNoteB, upToB, entryB])⟩, trivial⟩, trivial, trivial, rfl⟩⟩
                    · try simp only [decide_eq_true_eq, decide_eq_false_iff_not, Bool.not_eq_true, Bool.not_eq_false, Bool.not_eq_true', Bool.not_eq_false', beq_iff_eq, bne_iff_ne, beq_eq_false_iff_ne, bne_eq_false_iff_eq, Int.not_lt, Int.not_le, ge_iff_le, gt_iff_lt] at h65
                      refine AL_o rfl rfl rfl rfl ?_
                      refine AL_p (x_pickF rfl rfl rfl) ?_
                      refine AL_p (x_assign rfl rfl) ?_
                      refine AL_nil ?_
                      refine AW_ret (BQ_ret ?_)
                      exact ⟨rn [], ⟨⟨⟨_, rfl, vle_bool (by grind [msgB, noAddB, noNoteB, upToB, entryB])⟩, trivial⟩, trivial, trivial, rfl⟩⟩
                  · try simp only [decide_eq_true_eq, decide_eq_false_iff_not, Bool.not_eq_true, Bool.not_eq_false, Bool.not_eq_true', Bool.not_eq_false', beq_iff_eq, bne_iff_ne, beq_eq_false_iff_ne, bne_eq_false_iff_eq, Int.not_lt, Int.not_le, ge_iff_le, gt_iff_lt] at h55
                    refine AW_condF rfl ?_
                    refine AW_seq ?_
                    refine AW_region ?_
                    refine AL_b (x_eql rfl rfl rfl) (fun b70 h70 => ?_)
                    refine AL_p (x_assign rfl rfl) ?_
                    refine AL_nil ?_
                    cases b70
                    rotate_left
                    · try simp only [decide_eq_true_eq, decide_eq_false_iff_not, Bool.not_eq_true, Bool.not_eq_false, Bool.not_eq_true', Bool.not_eq_false', beq_iff_eq, bne_iff_ne, beq_eq_false_iff_ne, bne_eq_false_iff_eq, Int.not_lt, Int.not_le, ge_iff_le, gt_iff_lt] at h70
                      refine AW_condT rfl ?_
                      refine AW_seq ?_
                      refine AW_region ?_
                      refine AL_p (x_field (off := 3) (o' := 3) rfl rfl rfl (by kernel_rfl) rfl) ?_
                      refine AL_p (x_load1 rfl rfl rfl (by kernel_rfl) rfl) ?_
                      refine AL_b (x_call0 rfl rfl rfl (upToI_c _ _) rfl rfl) (fun b73 h73 => ?_)
                      refine AL_p (x_move rfl rfl) ?_
                      cases b73
                      rotate_left
                      · try simp only [decide_eq_true_eq, decide_eq_false_iff_not, Bool.not_eq_true, Bool.not_eq_false, Bool.not_eq_true', Bool.not_eq_false', beq_iff_eq, bne_iff_ne, beq_eq_false_iff_ne, bne_eq_false_iff_eq, Int.not_lt, Int.not_le, ge_iff_le, gt_iff_lt] at h73
                        refine AL_g rfl rfl (x_move rfl rfl) ?_
                        refine AL_p (x_pickT rfl rfl rfl) ?_
                        refine AL_p (x_move rfl rfl) ?_
                        cases b27
                        rotate_left
                        · try simp only [decide_eq_true_eq, decide_eq_false_iff_not, Bool.not_eq_true, Bool.not_eq_false, Bool.not_eq_true', Bool.not_eq_false', beq_iff_eq, bne_iff_ne, beq_eq_false_iff_ne, bne_eq_false_iff_eq, Int.not_lt, Int.not_le, ge_iff_le, gt_iff_lt] at h27
                          refine AL_g rfl rfl (x_move rfl rfl) ?_
                          refine AL_p (x_pickT rfl rfl rfl) ?_
                          refine AL_p (x_assign rfl rfl) ?_
                          refine AL_nil ?_
                          refine AW_ret (BQ_ret ?_)
                          cases b37
                          rotate_left
                          · try simp only [decide_eq_true_eq, decide_eq_false_iff_not, Bool.not_eq_true, Bool.not_eq_false, Bool.not_eq_true', Bool.not_eq_false', beq_iff_eq, bne_iff_ne, beq_eq_false_iff_ne, bne_eq_false_iff_eq, Int.not_lt, Int.not_le, ge_iff_le, gt_iff_lt] at h37
                            exact ⟨rn [], ⟨⟨⟨_, rfl, vle_bool (by grind [msgB, noAddB, noNoteB, upToB, entryB])⟩, trivial⟩, trivial, trivial, rfl⟩⟩
                          · try simp only [decide_eq_true_eq, decide_eq_false_iff_not, Bool.not_eq_true, Bool.not_eq_false, Bool.not_eq_true', Bool.not_eq_false', beq_iff_eq, bne_iff_ne, beq_eq_false_iff_ne, bne_eq_false_iff_eq, Int.not_lt, Int.not_le, ge_iff_le, gt_iff_lt] at h37
                            exact ⟨rn [], ⟨⟨⟨_, rfl, vle_bool (by grind [msgB, noAddB, noNoteB, upToB, entryB])⟩, trivial⟩, trivial, trivial, rfl⟩⟩
                        · try simp only [decide_eq_true_eq, decide_eq_false_iff_not, Bool.not_eq_true, Bool.not_eq_false, Bool.not_eq_true', Bool.not_eq_false', beq_iff_eq, bne_iff_ne, beq_eq_false_iff_ne, bne_eq_false_iff_eq, Int.not_lt, Int.not_le, ge_iff_le, gt_iff_lt] at h27
                          refine AL_o rfl rfl rfl rfl ?_
                          refine AL_p (x_pickF rfl rfl rfl) ?_
                          refine AL_p (x_assign rfl rfl) ?_
                          refine AL_nil ?_
                          refine AW_ret (BQ_ret ?_)
                          exact ⟨rn [], ⟨⟨⟨_, rfl, vle_bool (by grind [msgB, noAddB, noNoteB, upToB, entryB])⟩, trivial⟩, trivial, trivial, rfl⟩⟩
                      · try simp only [decide_eq_true_eq, decide_eq_false_iff_not, Bool.not_eq_true, Bool.not_eq_false, Bool.not_eq_true', Bool.not_eq_false', beq_iff_eq, bne_iff_ne, beq_eq_false_iff_ne, bne_eq_false_iff_eq, Int.not_lt, Int.not_le, ge_iff_le, gt_iff_lt] at h73
                        refine AL_o rfl rfl rfl rfl ?_
                        refine AL_p (x_pickF rfl rfl rfl) ?_
                        refine AL_p (x_move rfl rfl) ?_
                        refine AL_o rfl rfl rfl rfl ?_
                        refine AL_p (x_pickF rfl rfl rfl) ?_
                        refine AL_p (x_assign rfl rfl) ?_
                        refine AL_nil ?_
                        refine AW_ret (BQ_ret ?_)
                        exact ⟨rn [], ⟨⟨⟨_, rfl, vle_bool (by grind [msgB, noAddB, noNoteB, upToB, entryB])⟩, trivial⟩, trivial, trivial, rfl⟩⟩
                    · try simp only [decide_eq_true_eq, decide_eq_false_iff_not, Bool.not_eq_true, Bool.not_eq_false, Bool.not_eq_true', Bool.not_eq_false', beq_iff_eq, bne_iff_ne, beq_eq_false_iff_ne, bne_eq_false_iff_eq, Int.not_lt, Int.not_le, ge_iff_le, gt_iff_lt] at h70
                      refine AW_condF rfl ?_
                      refine AW_seq ?_
                      refine AW_region ?_
                      refine AL_b (x_eql rfl rfl rfl) (fun b81 h81 => ?_)
                      refine AL_p (x_assign rfl rfl) ?_
                      refine AL_nil ?_
                      cases b81
                      rotate_left
                      · try simp only [decide_eq_true_eq, decide_eq_false_iff_not, Bool.not_eq_true, Bool.not_eq_false, Bool.not_eq_true', Bool.not_eq_false', beq_iff_eq, bne_iff_ne, beq_eq_false_iff_ne, bne_eq_false_iff_eq, Int.not_lt, Int.not_le, ge_iff_le, gt_iff_lt] at h81
                        refine AW_condT rfl ?_
                        refine AW_seq ?_
                        refine AW_region ?_
                        refine AL_p (x_field (off := 3) (o' := 3) rfl rfl rfl (by kernel_rfl) rfl) ?_
                        refine AL_p (x_load1 rfl rfl rfl (by kernel_rfl) rfl) ?_
                        refine AL_b (x_eql rfl rfl rfl) (fun b84 h84 => ?_)
                        refine AL_p (x_move rfl rfl) ?_
                        cases b84
                        rotate_left
                        · try simp only [decide_eq_true_eq, decide_eq_false_iff_not, Bool.not_eq_true, Bool.not_eq_false, Bool.not_eq_true', Bool.not_eq_false', beq_iff_eq, bne_iff_ne, beq_eq_false_iff_ne, bne_eq_false_iff_eq, Int.not_lt, Int.not_le, ge_iff_le, gt_iff_lt] at h84
                          refine AL_g rfl rfl (x_move rfl rfl) ?_
                          refine AL_p (x_pickT rfl rfl rfl) ?_
                          refine AL_p (x_move rfl rfl) ?_
                          cases b27
                          rotate_left
                          · try simp only [decide_eq_true_eq, decide_eq_false_iff_not, Bool.not_eq_true, Bool.not_eq_false, Bool.not_eq_true', Bool.not_eq_false', beq_iff_eq, bne_iff_ne, beq_eq_false_iff_ne, bne_eq_false_iff_eq, Int.not_lt, Int.not_le, ge_iff_le, gt_iff_lt] at h27
                            refine AL_g rfl rfl (x_field (off := 9) (o' := 9) rfl rfl rfl (by kernel_rfl) rfl) ?_
                            refine AL_g rfl rfl (x_loadN (n := 1) rfl rfl rfl (by kernel_rfl) rfl rfl) ?_
                            refine AL_gb rfl rfl (x_call0 rfl rfl rfl (headI_c _) rfl rfl) (fun b91 h91 => ?_)
                            refine AL_p (x_pickT rfl rfl rfl) ?_
                            refine AL_p (x_assign rfl rfl) ?_
                            refine AL_nil ?_
                            refine AW_ret (BQ_ret ?_)
                            cases b91
                            rotate_left
                            · try simp only [decide_eq_true_eq, decide_eq_false_iff_not, Bool.not_eq_true, Bool.not_eq_false, Bool.not_eq_true', Bool.not_eq_false', beq_iff_eq, bne_iff_ne, beq_eq_false_iff_ne, bne_eq_false_iff_eq, Int.not_lt, Int.not_le, ge_iff_le, gt_iff_lt] at h91
                              exact ⟨rn [], ⟨⟨⟨_, rfl, vle_bool (by grind [msgB, noAddB, noNoteB, upToB, entryB])⟩, trivial⟩, trivial, trivial, rfl⟩⟩
                            · try simp only [decide_eq_true_eq, decide_eq_false_iff_not, Bool.not_eq_true, Bool.not_eq_false, Bool.not_eq_true', Bool.not_eq_false', beq_iff_eq, bne_iff_ne, beq_eq_false_iff_ne, bne_eq_false_iff_eq, Int.not_lt, Int.not_le, ge_iff_le, gt_iff_lt] at h91
                              exact ⟨rn [], ⟨⟨⟨_, rfl, vle_bool (by grind [msgB, noAddB, noNoteB, upToB, entryB])⟩, trivial⟩, trivial, trivial, rfl⟩⟩
                          · try simp only [decide_eq_true_eq, decide_eq_false_iff_not, Bool.not_eq_true, Bool.not_eq_false, Bool.not_eq_true', Bool.not_eq_false', beq_iff_eq, bne_iff_ne, beq_eq_false_iff_ne, bne_eq_false_iff_eq, Int.not_lt, Int.not_le, ge_iff_le, gt_iff_lt] at h27
                            refine AL_o rfl rfl rfl rfl ?_
                            refine AL_o rfl rfl rfl rfl ?_
                            refine AL_o rfl rfl rfl rfl ?_
                            refine AL_p (x_pickF rfl rfl rfl) ?_
                            refine AL_p (x_assign rfl rfl) ?_
                            refine AL_nil ?_
                            refine AW_ret (BQ_ret ?_)
                            exact ⟨rn [], ⟨⟨⟨_, rfl, vle_bool (by grind [msgB, noAddB, noNoteB, upToB, entryB])⟩, trivial⟩, trivial, trivial, rfl⟩⟩
                        · try simp only [decide_eq_true_eq, decide_eq_false_iff_not, Bool.not_eq_true, Bool.not_eq_false, Bool.not_eq_true', Bool.not_eq_false', beq_iff_eq, bne_iff_ne, beq_eq_false_iff_ne, bne_eq_false_iff_eq, Int.not_lt, Int.not_le, ge_iff_le, gt_iff_lt] at h84
                          refine AL_o rfl rfl rfl rfl ?_
                          refine AL_p (x_pickF rfl rfl rfl) ?_
                          refine AL_p (x_move rfl rfl) ?_
                          refine AL_o rfl rfl rfl rfl ?_
                          refine AL_o rfl rfl rfl rfl ?_
                          refine AL_o rfl rfl rfl rfl ?_
                          refine AL_p (x_pickF rfl rfl rfl) ?_
                          refine AL_p (x_assign rfl rfl) ?_
                          refine AL_nil ?_
                          refine AW_ret (BQ_ret ?_)
                          exact ⟨rn [], ⟨⟨⟨_, rfl, vle_bool (by grind [msgB, noAddB, noNoteB, upToB, entryB])⟩, trivial⟩, trivial, trivial, rfl⟩⟩
                      · try simp only [decide_eq_true_eq, decide_eq_false_iff_not, Bool.not_eq_true, Bool.not_eq_false, Bool.not_eq_true', Bool.not_eq_false', beq_iff_eq, bne_iff_ne, beq_eq_false_iff_ne, bne_eq_false_iff_eq, Int.not_lt, Int.not_le, ge_iff_le, gt_iff_lt] at h81
                        refine AW_condF rfl ?_
                        refine AW_skip ?_
                        refine AW_seq ?_
                        refine AW_region ?_
                        refine AL_p (x_assign rfl rfl) ?_
                        refine AL_nil ?_
                        refine AW_ret ?_
                        exact ⟨rn [], ⟨⟨⟨_, rfl, vle_bool (by grind [msgB, noAddB, noNoteB, upToB, entryB])⟩, trivial⟩, trivial, trivial, rfl⟩⟩
        · try simp only [decide_eq_true_eq, decide_eq_false_iff_not, Bool.not_eq_true, Bool.not_eq_false, Bool.not_eq_true', Bool.not_eq_false', beq_iff_eq, bne_iff_ne, beq_eq_false_iff_ne, bne_eq_false_iff_eq, Int.not_lt, Int.not_le, ge_iff_le, gt_iff_lt] at h21
          refine AL_o rfl rfl rfl rfl ?_
          refine AL_o rfl rfl rfl rfl ?_
          refine AL_o rfl rfl rfl rfl ?_
          refine AL_o rfl rfl rfl rfl ?_
          refine AL_p (x_pickF rfl rfl rfl) ?_
          refine AL_p (x_assign rfl rfl) ?_
          refine AL_nil ?_
          refine AW_seq ?_
          refine AW_region ?_
          refine AL_p (x_field (off := 8) (o' := 8) rfl rfl rfl (by kernel_rfl) rfl) ?_
          refine AL_b (x_load1 rfl rfl rfl (by kernel_rfl) rfl) (fun b30 h30 => ?_)
          refine AL_p (x_not rfl rfl) ?_
          refine AL_p (x_move rfl rfl) ?_
          cases b30
          rotate_left
          · try simp only [decide_eq_true_eq, decide_eq_false_iff_not, Bool.not_eq_true, Bool.not_eq_false, Bool.not_eq_true', Bool.not_eq_false', beq_iff_eq, bne_iff_ne, beq_eq_false_iff_ne, bne_eq_false_iff_eq, Int.not_lt, Int.not_le, ge_iff_le, gt_iff_lt] at h30
            refine AL_o rfl rfl rfl rfl ?_
            refine AL_o rfl rfl rfl rfl ?_
            refine AL_o rfl rfl rfl rfl ?_
            refine AL_o rfl rfl rfl rfl ?_
            refine AL_o rfl rfl rfl rfl ?_
            refine AL_p (x_pickF rfl rfl rfl) ?_
            refine AL_p (x_assign rfl rfl) ?_
            refine AL_nil ?_
            refine AW_seq ?_
            refine AW_seq ?_
            refine AW_region ?_
            refine AL_p (x_field (off := 0) (o' := 0) rfl rfl rfl (by kernel_rfl) rfl) ?_
            refine AL_p (x_load1 rfl rfl rfl (by kernel_rfl) rfl) ?_
            refine AL_nil ?_
            refine AW_block ?_
            refine AW_seq ?_
            refine AW_seq ?_
            refine AW_region ?_
            refine AL_b (x_eql rfl rfl rfl) (fun b42 h42 => ?_)
            refine AL_p (x_assign rfl rfl) ?_
            refine AL_nil ?_
            cases b42
            rotate_left
            · try simp only [decide_eq_true_eq, decide_eq_false_iff_not, Bool.not_eq_true, Bool.not_eq_false, Bool.not_eq_true', Bool.not_eq_false', beq_iff_eq, bne_iff_ne, beq_eq_false_iff_ne, bne_eq_false_iff_eq, Int.not_lt, Int.not_le, ge_iff_le, gt_iff_lt] at h42
              refine AW_condT rfl ?_
              refine AW_skip ?_
              refine AW_condT rfl ?_
              refine AW_seq ?_
              refine AW_region ?_
              refine AL_p (x_field (off := 3) (o' := 3) rfl rfl rfl (by kernel_rfl) rfl) ?_
              refine AL_p (x_load1 rfl rfl rfl (by kernel_rfl) rfl) ?_
              refine AL_b (x_eql rfl rfl rfl) (fun b47 h47 => ?_)
              refine AL_p (x_move rfl rfl) ?_
              cases b47
              rotate_left
              · try simp only [decide_eq_true_eq, decide_eq_false_iff_not, Bool.not_eq_true, Bool.not_eq_false, Bool.not_eq_true', Bool.not_eq_false', beq_iff_eq, bne_iff_ne, beq_eq_false_iff_ne, bne_eq_false_iff_eq, Int.not_lt, Int.not_le, ge_iff_le, gt_iff_lt] at h47
                refine AL_g rfl rfl (x_move rfl rfl) ?_
                refine AL_p (x_pickT rfl rfl rfl) ?_
                refine AL_p (x_move rfl rfl) ?_
                refine AL_o rfl rfl rfl rfl ?_
                refine AL_p (x_pickF rfl rfl rfl) ?_
                refine AL_p (x_assign rfl rfl) ?_
                refine AL_nil ?_
                refine AW_ret (BQ_ret ?_)
                exact ⟨rn [], ⟨⟨⟨_, rfl, vle_bool (by grind [msgB, noAddB, noNoteB, upToB, entryB])⟩, trivial⟩, trivial, trivial, rfl⟩⟩
              · try simp only [decide_eq_true_eq, decide_eq_false_iff_not, Bool.not_eq_true, Bool.not_eq_false, Bool.not_eq_true', Bool.not_eq_false', beq_iff_eq, bne_iff_ne, beq_eq_false_iff_ne, bne_eq_false_iff_eq, Int.not_lt, Int.not_le, ge_iff_le, gt_iff_lt] at h47
                refine AL_o rfl rfl rfl rfl ?_
                refine AL_p (x_pickF rfl rfl rfl) ?_
                refine AL_p (x_move rfl rfl) ?_
                refine AL_o rfl rfl rfl rfl ?_
                refine AL_p (x_pickF rfl rfl rfl) ?_
                refine AL_p (x_assign rfl rfl) ?_
                refine AL_nil ?_
                refine AW_ret (BQ_ret ?_)
                exact ⟨rn [], ⟨⟨⟨_, rfl, vle_bool (by grind [msgB, noAddB, noNoteB, upToB, entryB])⟩, trivial⟩, trivial, trivial, rfl⟩⟩
            · try simp only [decide_eq_true_eq, decide_eq_false_iff_not, Bool.not_eq_true, Bool.not_eq_false, Bool.not_eq_true', Bool.not_eq_false', beq_iff_eq, bne_iff_ne, beq_eq_false_iff_ne, bne_eq_false_iff_eq, Int.not_lt, Int.not_le, ge_iff_le, gt_iff_lt] at h42
              refine AW_condF rfl ?_
              refine AW_seq ?_
              refine AW_region ?_
              refine AL_b (x_eql rfl rfl rfl) (fun b43 h43 => ?_)
              refine AL_p (x_assign rfl rfl) ?_
              refine AL_nil ?_
              cases b43
              rotate_left
              · try simp only [decide_eq_true_eq, decide_eq_false_iff_not, Bool.not_eq_true, Bool.not_eq_false, Bool.not_eq_true', Bool.not_eq_false', beq_iff_eq, bne_iff_ne, beq_eq_false_iff_ne, bne_eq_false_iff_eq, Int.not_lt, Int.not_le, ge_iff_le, gt_iff_lt] at h43
                refine AW_condT rfl ?_
                refine AW_skip ?_
                refine AW_condT rfl ?_
                refine AW_seq ?_
                refine AW_region ?_
                refine AL_p (x_field (off := 3) (o' := 3) rfl rfl rfl (by kernel_rfl) rfl) ?_
                refine AL_p (x_load1 rfl rfl rfl (by kernel_rfl) rfl) ?_
                refine AL_b (x_eql rfl rfl rfl) (fun b47 h47 => ?_)
                refine AL_p (x_move rfl rfl) ?_
                cases b47
                rotate_left
                · try simp only [decide_eq_true_eq, decide_eq_false_iff_not, Bool.not_eq_true, Bool.not_eq_false, Bool.not_eq_true', Bool.not_eq_false', beq_iff_eq, bne_iff_ne, beq_eq_false_iff_ne, bne_eq_false_iff_eq, Int.not_lt, Int.not_le, ge_iff_le, gt_iff_lt] at h47
                  refine AL_g rfl rfl (x_move rfl rfl) ?_
                  refine AL_p (x_pickT rfl rfl rfl) ?_
                  refine AL_p (x_move rfl rfl) ?_
                  refine AL_o rfl rfl rfl rfl ?_
                  refine AL_p (x_pickF rfl rfl rfl) ?_
                  refine AL_p (x_assign rfl rfl) ?_
                  refine AL_nil ?_
                  refine AW_ret (BQ_ret ?_)
                  exact ⟨rn [], ⟨⟨⟨_, rfl, vle_bool (by grind [msgB, noAddB, noNoteB, upToB, entryB])⟩, trivial⟩, trivial, trivial, rfl⟩⟩
                · try simp only [decide_eq_true_eq, decide_eq_false_iff_not, Bool.not_eq_true, Bool.not_eq_false, Bool.not_eq_true', Bool.not_eq_false', beq_iff_eq, bne_iff_ne, beq_eq_false_iff_ne, bne_eq_false_iff_eq, Int.not_lt, Int.not_le, ge_iff_le, gt_iff_lt] at h47
                  refine AL_o rfl rfl rfl rfl ?_
                  refine AL_p (x_pickF rfl rfl rfl) ?_
                  refine AL_p (x_move rfl rfl) ?_
                  refine AL_o rfl rfl rfl rfl ?_
                  refine AL_p (x_pickF rfl rfl rfl) ?_
                  refine AL_p (x_assign rfl rfl) ?_
                  refine AL_nil ?_
                  refine AW_ret (BQ_ret ?_)
                  exact ⟨rn [], ⟨⟨⟨_, rfl, vle_bool (by grind [msgB, noAddB, noNoteB, upToB, entryB])⟩, trivial⟩, trivial, trivial, rfl⟩⟩
              · try simp only [decide_eq_true_eq, decide_eq_false_iff_not, Bool.not_eq_true, Bool.not_eq_false, Bool.not_eq_true', Bool.not_eq_false', beq_iff_eq, bne_iff_ne, beq_eq_false_iff_ne, bne_eq_false_iff_eq, Int.not_lt, Int.not_le, ge_iff_le, gt_iff_lt] at h43
                refine AW_condF rfl ?_
                refine AW_region ?_
                refine AL_b (x_eql rfl rfl rfl) (fun b44 h44 => ?_)
                refine AL_p (x_assign rfl rfl) ?_
                refine AL_nil ?_
                cases b44
                rotate_left
                · try simp only [decide_eq_true_eq, decide_eq_false_iff_not, Bool.not_eq_true, Bool.not_eq_false, Bool.not_eq_true', Bool.not_eq_false', beq_iff_eq, bne_iff_ne, beq_eq_false_iff_ne, bne_eq_false_iff_eq, Int.not_lt, Int.not_le, ge_iff_le, gt_iff_lt] at h44
                  refine AW_condT rfl ?_
                  refine AW_seq ?_
                  refine AW_region ?_
                  refine AL_p (x_field (off := 3) (o' := 3) rfl rfl rfl (by kernel_rfl) rfl) ?_
                  refine AL_p (x_load1 rfl rfl rfl (by kernel_rfl) rfl) ?_
                  refine AL_b (x_eql rfl rfl rfl) (fun b47 h47 => ?_)
                  refine AL_p (x_move rfl rfl) ?_
                  cases b47
                  rotate_left
                  · try simp only [decide_eq_true_eq, decide_eq_false_iff_not, Bool.not_eq_true, Bool.not_eq_false, Bool.not_eq_true', Bool.not_eq_false', beq_iff_eq, bne_iff_ne, beq_eq_false_iff_ne, bne_eq_false_iff_eq, Int.not_lt, Int.not_le, ge_iff_le, gt_iff_lt] at h47
                    refine AL_g rfl rfl (x_move rfl rfl) ?_
                    refine AL_p (x_pickT rfl rfl rfl) ?_
                    refine AL_p (x_move rfl rfl) ?_
                    refine AL_o rfl rfl rfl rfl ?_
                    refine AL_p (x_pickF rfl rfl rfl) ?_
                    refine AL_p (x_assign rfl rfl) ?_
                    refine AL_nil ?_
                    refine AW_ret (BQ_ret ?_)
                    exact ⟨rn [], ⟨⟨⟨_, rfl, vle_bool (by grind [msgB, noAddB, noNoteB, upToB, entryB])⟩, trivial⟩, trivial, trivial, rfl⟩⟩
                  · try simp only [decide_eq_true_eq, decide_eq_false_iff_not, Bool.not_eq_true, Bool.not_eq_false, Bool.not_eq_true', Bool.not_eq_false', beq_iff_eq, bne_iff_ne, beq_eq_false_iff_ne, bne_eq_false_iff_eq, Int.not_lt, Int.not_le, ge_iff_le, gt_iff_lt] at h47
                    refine AL_o rfl rfl rfl rfl ?_
                    refine AL_p (x_pickF rfl rfl rfl) ?_
                    refine AL_p (x_move rfl rfl) ?_
                    refine AL_o rfl rfl rfl rfl ?_
                    refine AL_p (x_pickF rfl rfl rfl) ?_
                    refine AL_p (x_assign rfl rfl) ?_
                    refine AL_nil ?_
                    refine AW_ret (BQ_ret ?_)
                    exact ⟨rn [], ⟨⟨⟨_, rfl, vle_bool (by grind [msgB, noAddB, noNoteB, upToB, entryB])⟩, trivial⟩, trivial, trivial, rfl⟩⟩
                · try simp only [decide_eq_true_eq, decide_eq_false_iff_not, Bool.not_eq_true, Bool.not_eq_false, Bool.not_eq_true', Bool.not_eq_false', beq_iff_eq, bne_iff_ne, beq_eq_false_iff_ne, bne_eq_false_iff_eq, Int.not_lt, Int.not_le, ge_iff_le, gt_iff_lt] at h44
                  refine AW_condF rfl ?_
                  refine AW_seq ?_
                  refine AW_region ?_
                  refine AL_b (x_eql rfl rfl rfl) (fun b55 h55 => ?_)
                  refine AL_p (x_assign rfl rfl) ?_
                  refine AL_nil ?_
                  cases b55
                  rotate_left
                  · try simp only [decide_eq_true_eq, decide_eq_false_iff_not, Bool.not_eq_true, Bool.not_eq_false, Bool.not_eq_true', Bool.not_eq_false', beq_iff_eq, bne_iff_ne, beq_eq_false_iff_ne, bne_eq_false_iff_eq, Int.not_lt, Int.not_le, ge_iff_le, gt_iff_lt] at h55
                    refine AW_condT rfl ?_
                    refine AW_seq ?_
                    refine AW_region ?_
                    refine AL_p (x_field (off := 3) (o' := 3) rfl rfl rfl (by kernel_rfl) rfl) ?_
                    refine AL_p (x_load1 rfl rfl rfl (by kernel_rfl) rfl) ?_
                    refine AL_p (x_field (off := 4) (o' := 4) rfl rfl rfl (by kernel_rfl) rfl) ?_
                    refine AL_p (x_load1 rfl rfl rfl (by kernel_rfl) rfl) ?_
                    refine AL_p (x_field (off := 5) (o' := 5) rfl rfl rfl (by kernel_rfl) rfl) ?_
                    refine AL_p (x_loadN (n := 2) rfl rfl rfl (by kernel_rfl) rfl rfl) ?_
                    refine AL_p (x_field (off := 7) (o' := 7) rfl rfl rfl (by kernel_rfl) rfl) ?_
                    refine AL_p (x_load1 rfl rfl rfl (by kernel_rfl) rfl) ?_
                    refine AL_p (x_build (zs := [.int .i64 0, .int .i64 0, .slice none 0 0, .slice none 0 0, .slice none 0 0, .int .i64 0]) (places := [(0, 1), (1, 1), (2, 2), (4, 1), (5, 1)]) rfl (by kernel_rfl) rfl rfl rfl rfl rfl) ?_
                    refine AL_b (x_call0 rfl rfl rfl (entryI_c _ _ 0 m.mat m.acts) rfl rfl) (fun b65 h65 => ?_)
                    refine AL_p (x_move rfl rfl) ?_
                    cases b65
                    rotate_left
                    · try simp only [decide_eq_true_eq, decide_eq_false_iff_not, Bool.not_eq_true, Bool.not_eq_false, Bool.not_eq_true', Bool.not_eq_false', beq_iff_eq, bne_iff_ne, beq_eq_false_iff_ne, bne_eq_false_iff_eq, Int.not_lt, Int.not_le, ge_iff_le, gt_iff_lt] at h65
                      refine AL_g rfl rfl (x_move rfl rfl) ?_
                      refine AL_p (x_pickT rfl rfl rfl) ?_
                      refine AL_p (x_assign rfl rfl) ?_
                      refine AL_nil ?_
                      refine AW_ret (BQ_ret ?_)
                      exact ⟨rn [], ⟨⟨⟨_, rfl, vle_bool (by grind [msgB, noAddB, noNoteB, upToB, entryB])⟩, trivial⟩, trivial, trivial, rfl⟩⟩
                    · try simp only [decide_eq_true_eq, decide_eq_false_iff_not, Bool.not_eq_true, Bool.not_eq_false, Bool.not_eq_true', Bool.not_eq_false', beq_iff_eq, bne_iff_ne, beq_eq_false_iff_ne, bne_eq_false_iff_eq, Int.not_lt, Int.not_le, ge_iff_le, gt_iff_lt] at h65
                      refine AL_o rfl rfl rfl rfl ?_
                      refine AL_p (x_pickF rfl rfl rfl) ?_
                      refine AL_p (x_assign rfl rfl) ?_
                      refine AL_nil ?_
                      refine AW_ret (BQ_ret ?_)
                      exact ⟨rn [], ⟨⟨⟨_, rfl, vle_bool (by grind [msgB, noAddB, noNoteB, upToB, entryB])⟩, trivial⟩, trivial, trivial, rfl⟩⟩
                  · try simp only [decide_eq_true_eq, decide_eq_false_iff_not, Bool.not_eq_true, Bool.not_eq_false, Bool.not_eq_true', Bool.not_eq_false', beq_iff_eq, bne_iff_ne, beq_eq_false_iff_ne, bne_eq_false_iff_eq, Int.not_lt, Int.not_le, ge_iff_le, gt_iff_lt] at h55
                    refine AW_condF rfl ?_
                    refine AW_seq ?_
                    refine AW_region ?_
                    refine AL_b (x_eql rfl rfl rfl) (fun b70 h70 => ?_)
                    refine AL_p (x_assign rfl rfl) ?_
                    refine AL_nil ?_
                    cases b70
                    rotate_left
                    · try simp only [decide_eq_true_eq, decide_eq_false_iff_not, Bool.not_eq_true, Bool.not_eq_false, Bool.not_eq_true', Bool.not_eq_false', beq_iff_eq, bne_iff_ne, beq_eq_false_iff_ne, bne_eq_false_iff_eq, Int.not_lt, Int.not_le, ge_iff_le, gt_iff_lt] at h70
                      refine AW_condT rfl ?_
                      refine AW_seq ?_
                      refine AW_region ?_
                      refine AL_p (x_field (off := 3) (o' := 3) rfl rfl rfl (by kernel_rfl) rfl) ?_
                      refine AL_p (x_load1 rfl rfl rfl (by kernel_rfl) rfl) ?_
                      refine AL_b (x_call0 rfl rfl rfl (upToI_c _ _) rfl rfl) (fun b73 h73 => ?_)
                      refine AL_p (x_move rfl rfl) ?_
                      cases b73
                      rotate_left
                      · try simp only [decide_eq_true_eq, decide_eq_false_iff_not, Bool.not_eq_true, Bool.not_eq_false, Bool.not_eq_true', Bool.not_eq_false', beq_iff_eq, bne_iff_ne, beq_eq_false_iff_ne, bne_eq_false_iff_eq, Int.not_lt, Int.not_le, ge_iff_le, gt_iff_lt] at h73
                        refine AL_g rfl rfl (x_move rfl rfl) ?_
                        refine AL_p (x_pickT rfl rfl rfl) ?_
                        refine AL_p (x_move rfl rfl) ?_
                        refine AL_o rfl rfl rfl rfl ?_
                        refine AL_p (x_pickF rfl rfl rfl) ?_
                        refine AL_p (x_assign rfl rfl) ?_
                        refine AL_nil ?_
                        refine AW_ret (BQ_ret ?_)
                        exact ⟨rn [], ⟨⟨⟨_, rfl, vle_bool (by grind [msgB, noAddB, noNoteB, upToB, entryB])⟩, trivial⟩, trivial, trivial, rfl⟩⟩
                      · try simp only [decide_eq_true_eq, decide_eq_false_iff_not, Bool.not_eq_true, Bool.not_eq_false, Bool.not_eq_true', Bool.not_eq_false', beq_iff_eq, bne_iff_ne, beq_eq_false_iff_ne, bne_eq_false_iff_eq, Int.not_lt, Int.not_le, ge_iff_le, gt_iff_lt] at h73
                        refine AL_o rfl rfl rfl rfl ?_
                        refine AL_p (x_pickF rfl rfl rfl) ?_
                        refine AL_p (x_move rfl rfl) ?_
                        refine AL_o rfl rfl rfl rfl ?_
                        refine AL_p (x_pickF rfl rfl rfl) ?_
                        refine AL_p (x_assign rfl rfl) ?_
                        refine AL_nil ?_
                        refine AW_ret (BQ_ret ?_)
                        exact ⟨rn [], ⟨⟨⟨_, rfl, vle_bool (by grind [msgB, noAddB, noNoteB, upToB, entryB])⟩, trivial⟩, trivial, trivial, rfl⟩⟩
                    · try simp only [decide_eq_true_eq, decide_eq_false_iff_not, Bool.not_eq_true, Bool.not_eq_false, Bool.not_eq_true', Bool.not_eq_false', beq_iff_eq, bne_iff_ne, beq_eq_false_iff_ne, bne_eq_false_iff_eq, Int.not_lt, Int.not_le, ge_iff_le, gt_iff_lt] at h70
                      refine AW_condF rfl ?_
                      refine AW_seq ?_
                      refine AW_region ?_
                      refine AL_b (x_eql rfl rfl rfl) (fun b81 h81 => ?_)
                      refine AL_p (x_assign rfl rfl) ?_
                      refine AL_nil ?_
                      cases b81
                      rotate_left
                      · try simp only [decide_eq_true_eq, decide_eq_false_iff_not, Bool.not_eq_true, Bool.not_eq_false, Bool.not_eq_true', Bool.not_eq_false', beq_iff_eq, bne_iff_ne, beq_eq_false_iff_ne, bne_eq_false_iff_eq, Int.not_lt, Int.not_le, ge_iff_le, gt_iff_lt] at h81
                        refine AW_condT rfl ?_
                        refine AW_seq ?_
                        refine AW_region ?_
                        refine AL_p (x_field (off := 3) (o' := 3) rfl rfl rfl (by kernel_rfl) rfl) ?_
                        refine AL_p (x_load1 rfl rfl rfl (by kernel_rfl) rfl) ?_
                        refine AL_b (x_eql rfl rfl rfl) (fun b84 h84 => ?_)
                        refine AL_p (x_move rfl rfl) ?_
                        cases b84
                        rotate_left
                        · try simp only [decide_eq_true_eq, decide_eq_false_iff_not, Bool.not_eq_true, Bool.not_eq_false, Bool.not_eq_true', Bool.not_eq_false', beq_iff_eq, bne_iff_ne, beq_eq_false_iff_ne, bne_eq_false_iff_eq, Int.not_lt, Int.not_le, ge_iff_le, gt_iff_lt] at h84
                          refine AL_g rfl rfl (x_move rfl rfl) ?_
                          refine AL_p (x_pickT rfl rfl rfl) ?_
                          refine AL_p (x_move rfl rfl) ?_
                          refine AL_o rfl rfl rfl rfl ?_
                          refine AL_o rfl rfl rfl rfl ?_
                          refine AL_o rfl rfl rfl rfl ?_
                          refine AL_p (x_pickF rfl rfl rfl) ?_
                          refine AL_p (x_assign rfl rfl) ?_
                          refine AL_nil ?_
                          refine AW_ret (BQ_ret ?_)
                          exact ⟨rn [], ⟨⟨⟨_, rfl, vle_bool (by grind [msgB, noAddB, noNoteB, upToB, entryB])⟩, trivial⟩, trivial, trivial, rfl⟩⟩
                        · try simp only [decide_eq_true_eq, decide_eq_false_iff_not, Bool.not_eq_true, Bool.not_eq_false, Bool.not_eq_true', Bool.not_eq_false', beq_iff_eq, bne_iff_ne, beq_eq_false_iff_ne, bne_eq_false_iff_eq, Int.not_lt, Int.not_le, ge_iff_le, gt_iff_lt] at h84
                          refine AL_o rfl rfl rfl rfl ?_
                          refine AL_p (x_pickF rfl rfl rfl) ?_
                          refine AL_p (x_move rfl rfl) ?_
                          refine AL_o rfl rfl rfl rfl ?_
                          refine AL_o rfl rfl rfl rfl ?_
                          refine AL_o rfl rfl rfl rfl ?_
                          refine AL_p (x_pickF rfl rfl rfl) ?_
                          refine AL_p (x_assign rfl rfl) ?_
                          refine AL_nil ?_
                          refine AW_ret (BQ_ret ?_)
                          exact ⟨rn [], ⟨⟨⟨_, rfl, vle_bool (by grind [msgB, noAddB, noNoteB, upToB, entryB])⟩, trivial⟩, trivial, trivial, rfl⟩⟩
                      · try simp only [decide_eq_true_eq, decide_eq_false_iff_not, Bool.not_eq_true, Bool.not_eq_false, Bool.not_eq_true', Bool.not_eq_false', beq_iff_eq, bne_iff_ne, beq_eq_false_iff_ne, bne_eq_false_iff_eq, Int.not_lt, Int.not_le, ge_iff_le, gt_iff_lt] at h81
                        refine AW_condF rfl ?_
                        refine AW_skip ?_
                        refine AW_seq ?_
                        refine AW_region ?_
                        refine AL_p (x_assign rfl rfl) ?_
                        refine AL_nil ?_
                        refine AW_ret ?_
                        exact ⟨rn [], ⟨⟨⟨_, rfl, vle_bool (by grind [msgB, noAddB, noNoteB, upToB, entryB])⟩, trivial⟩, trivial, trivial, rfl⟩⟩
          · try simp only [decide_eq_true_eq, decide_eq_false_iff_not, Bool.not_eq_true, Bool.not_eq_false, Bool.not_eq_true', Bool.not_eq_false', beq_iff_eq, bne_iff_ne, beq_eq_false_iff_ne, bne_eq_false_iff_eq, Int.not_lt, Int.not_le, ge_iff_le, gt_iff_lt] at h30
            refine AL_g rfl rfl (x_field (off := 9) (o' := 9) rfl rfl rfl (by kernel_rfl) rfl) ?_
            refine AL_g rfl rfl (x_field (off := 0) (o' := 9) rfl rfl rfl (by kernel_rfl) rfl) ?_
            refine AL_g rfl rfl (x_load1 rfl rfl rfl (by kernel_rfl) rfl) ?_
            refine AL_g rfl rfl (x_len (E := 3) (n := 1) rfl rfl (by kernel_rfl)) ?_
            refine AL_gb rfl rfl (x_eql rfl rfl rfl) (fun b37 h37 => ?_)
            refine AL_p (x_pickT rfl rfl rfl) ?_
            refine AL_p (x_assign rfl rfl) ?_
            refine AL_nil ?_
            refine AW_seq ?_
            refine AW_seq ?_
            refine AW_region ?_
            refine AL_p (x_field (off := 0) (o' := 0) rfl rfl rfl (by kernel_rfl) rfl) ?_
            refine AL_p (x_load1 rfl rfl rfl (by kernel_rfl) rfl) ?_
            refine AL_nil ?_
            refine AW_block ?_
            refine AW_seq ?_
            refine AW_seq ?_
            refine AW_region ?_
            refine AL_b (x_eql rfl rfl rfl) (fun b42 h42 => ?_)
            refine AL_p (x_assign rfl rfl) ?_
            refine AL_nil ?_
            cases b42
            rotate_left
            · try simp only [decide_eq_true_eq, decide_eq_false_iff_not, Bool.not_eq_true, Bool.not_eq_false, Bool.not_eq_true', Bool.not_eq_false', beq_iff_eq, bne_iff_ne, beq_eq_false_iff_ne, bne_eq_false_iff_eq, Int.not_lt, Int.not_le, ge_iff_le, gt_iff_lt] at h42
              refine AW_condT rfl ?_
              refine AW_skip ?_
              refine AW_condT rfl ?_
              refine AW_seq ?_
              refine AW_region ?_
              refine AL_p (x_field (off := 3) (o' := 3) rfl rfl rfl (by kernel_rfl) rfl) ?_
              refine AL_p (x_load1 rfl rfl rfl (by kernel_rfl) rfl) ?_
              refine AL_b (x_eql rfl rfl rfl) (fun b47 h47 => ?_)
              refine AL_p (x_move rfl rfl) ?_
              cases b47
              rotate_left
              · try simp only [decide_eq_true_eq, decide_eq_false_iff_not, Bool.not_eq_true, Bool.not_eq_false, Bool.not_eq_true', Bool.not_eq_false', beq_iff_eq, bne_iff_ne, beq_eq_false_iff_ne, bne_eq_false_iff_eq, Int.not_lt, Int.not_le, ge_iff_le, gt_iff_lt] at h47
                refine AL_g rfl rfl (x_move rfl rfl) ?_
                refine AL_p (x_pickT rfl rfl rfl) ?_
                refine AL_p (x_move rfl rfl) ?_
                refine AL_o rfl rfl rfl rfl ?_
                refine AL_p (x_pickF rfl rfl rfl) ?_
                refine AL_p (x_assign rfl rfl) ?_
                refine AL_nil ?_
                refine AW_ret (BQ_ret ?_)
                exact ⟨rn [], ⟨⟨⟨_, rfl, vle_bool (by grind [msgB, noAddB, noNoteB, upToB, entryB])⟩, trivial⟩, trivial, trivial, rfl⟩⟩
              · try simp only [decide_eq_true_eq, decide_eq_false_iff_not, Bool.not_eq_true, Bool.not_eq_false, Bool.not_eq_true', Bool.not_eq_false', beq_iff_eq, bne_iff_ne, beq_eq_false_iff_ne, bne_eq_false_iff_eq, Int.not_lt, Int.not_le, ge_iff_le, gt_iff_lt] at h47
                refine AL_o rfl rfl rfl rfl ?_
                refine AL_p (x_pickF rfl rfl rfl) ?_
                refine AL_p (x_move rfl rfl) ?_
                refine AL_o rfl rfl rfl rfl ?_
                refine AL_p (x_pickF rfl rfl rfl) ?_
                refine AL_p (x_assign rfl rfl) ?_
                refine AL_nil ?_
                refine AW_ret (BQ_ret ?_)
                exact ⟨rn [], ⟨⟨⟨_, rfl, vle_bool (by grind [msgB, noAddB, noNoteB, upToB, entryB])⟩, trivial⟩, trivial, trivial, rfl⟩⟩
            · try simp only [decide_eq_true_eq, decide_eq_false_iff_not, Bool.not_eq_true, Bool.not_eq_false, Bool.not_eq_true', Bool.not_eq_false', beq_iff_eq, bne_iff_ne, beq_eq_false_iff_ne, bne_eq_false_iff_eq, Int.not_lt, Int.not_le, ge_iff_le, gt_iff_lt] at h42
              refine AW_condF rfl ?_
              refine AW_seq ?_
              refine AW_region ?_
              refine AL_b (x_eql rfl rfl rfl) (fun b43 h43 => ?_)
              refine AL_p (x_assign rfl rfl) ?_
              refine AL_nil ?_
              cases b43
              rotate_left
              · try simp only [decide_eq_true_eq, decide_eq_false_iff_not, Bool.not_eq_true, Bool.not_eq_false, Bool.not_eq_true', Bool.not_eq_false', beq_iff_eq, bne_iff_ne, beq_eq_false_iff_ne, bne_eq_false_iff_eq, Int.not_lt, Int.not_le, ge_iff_le, gt_iff_lt] at h43
                refine AW_condT rfl ?_
                refine AW_skip ?_
                refine AW_condT rfl ?_
                refine AW_seq ?_
                refine AW_region ?_
                refine AL_p (x_field (off := 3) (o' := 3) rfl rfl rfl (by kernel_rfl) rfl) ?_
                refine AL_p (x_load1 rfl rfl rfl (by kernel_rfl) rfl) ?_
                refine AL_b (x_eql rfl rfl rfl) (fun b47 h47 => ?_)
                refine AL_p (x_move rfl rfl) ?_
                cases b47
                rotate_left
                · try simp only [decide_eq_true_eq, decide_eq_false_iff_not, Bool.not_eq_true, Bool.not_eq_false, Bool.not_eq_true', Bool.not_eq_false', beq_iff_eq, bne_iff_ne, beq_eq_false_iff_ne, bne_eq_false_iff_eq, Int.not_lt, Int.not_le, ge_iff_le, gt_iff_lt] at h47
                  refine AL_g rfl rfl (x_move rfl rfl) ?_
                  refine AL_p (x_pickT rfl rfl rfl) ?_
                  refine AL_p (x_move rfl rfl) ?_
                  refine AL_o rfl rfl rfl rfl ?_
                  refine AL_p (x_pickF rfl rfl rfl) ?_
                  refine AL_p (x_assign rfl rfl) ?_
                  refine AL_nil ?_
                  refine AW_ret (BQ_ret ?_)
                  exact ⟨rn [], ⟨⟨⟨_, rfl, vle_bool (by grind [msgB, noAddB, noNoteB, upToB, entryB])⟩, trivial⟩, trivial, trivial, rfl⟩⟩
                · try simp only [decide_eq_true_eq, decide_eq_false_iff_not, Bool.not_eq_true, Bool.not_eq_false, Bool.not_eq_true', Bool.not_eq_false', beq_iff_eq, bne_iff_ne, beq_eq_false_iff_ne, bne_eq_false_iff_eq, Int.not_lt, Int.not_le, ge_iff_le, gt_iff_lt] at h47
                  refine AL_o rfl rfl rfl rfl ?_
                  refine AL_p (x_pickF rfl rfl rfl) ?_
                  refine AL_p (x_move rfl rfl) ?_
                  refine AL_o rfl rfl rfl rfl ?_
                  refine AL_p (x_pickF rfl rfl rfl) ?_
                  refine AL_p (x_assign rfl rfl) ?_
                  refine AL_nil ?_
                  refine AW_ret (BQ_ret ?_)
                  exact ⟨rn [], ⟨⟨⟨_, rfl, vle_bool (by grind [msgB, noAddB, noNoteB, upToB, entryB])⟩, trivial⟩, trivial, trivial, rfl⟩⟩
              · try simp only [decide_eq_true_eq, decide_eq_false_iff_not, Bool.not_eq_true, Bool.not_eq_false, Bool.not_eq_true', Bool.not_eq_false', beq_iff_eq, bne_iff_ne, beq_eq_false_iff_ne, bne_eq_false_iff_eq, Int.not_lt, Int.not_le, ge_iff_le, gt_iff_lt] at h43
                refine AW_condF rfl ?_
                refine AW_region ?_
                refine AL_b (x_eql rfl rfl rfl) (fun b44 h44 => ?_)
                refine AL_p (x_assign rfl rfl) ?_
                refine AL_nil ?_
                cases b44
                rotate_left
                · try simp only [decide_eq_true_eq, decide_eq_false_iff_not, Bool.not_eq_true, Bool.not_eq_false, Bool.not_eq_true', Bool.not_eq_false', beq_iff_eq, bne_iff_ne, beq_eq_false_iff_ne, bne_eq_false_iff_eq, Int.not_lt, Int.not_le, ge_iff_le, gt_iff_lt] at h44
                  refine AW_condT rfl ?_
                  refine AW_seq ?_
                  refine AW_region ?_
                  refine AL_p (x_field (off := 3) (o' := 3) rfl rfl rfl (by kernel_rfl) rfl) ?_
                  refine AL_p (x_load1 rfl rfl rfl (by kernel_rfl) rfl) ?_
                  refine AL_b (x_eql rfl rfl rfl) (fun b47 h47 => ?_)
                  refine AL_p (x_move rfl rfl) ?_
                  cases b47
                  rotate_left
                  · try simp only [decide_eq_true_eq, decide_eq_false_iff_not, Bool.not_eq_true, Bool.not_eq_false, Bool.not_eq_true', Bool.not_eq_false', beq_iff_eq, bne_iff_ne, beq_eq_false_iff_ne, bne_eq_false_iff_eq, Int.not_lt, Int.not_le, ge_iff_le, gt_iff_lt] at h47
                    refine AL_g rfl rfl (x_move rfl rfl) ?_
                    refine AL_p (x_pickT rfl rfl rfl) ?_
                    refine AL_p (x_move rfl rfl) ?_
                    refine AL_o rfl rfl rfl rfl ?_
                    refine AL_p (x_pickF rfl rfl rfl) ?_
                    refine AL_p (x_assign rfl rfl) ?_
                    refine AL_nil ?_
                    refine AW_ret (BQ_ret ?_)
                    exact ⟨rn [], ⟨⟨⟨_, rfl, vle_bool (by grind [msgB, noAddB, noNoteB, upToB, entryB])⟩, trivial⟩, trivial, trivial, rfl⟩⟩
                  · try simp only [decide_eq_true_eq, decide_eq_false_iff_not, Bool.not_eq_true, Bool.not_eq_false, Bool.not_eq_true', Bool.not_eq_false', beq_iff_eq, bne_iff_ne, beq_eq_false_iff_ne, bne_eq_false_iff_eq, Int.not_lt, Int.not_le, ge_iff_le, gt_iff_lt] at h47
                    refine AL_o rfl rfl rfl rfl ?_
                    refine AL_p (x_pickF rfl rfl rfl) ?_
                    refine AL_p (x_move rfl rfl) ?_
                    refine AL_o rfl rfl rfl rfl ?_
                    refine AL_p (x_pickF rfl rfl rfl) ?_
                    refine AL_p (x_assign rfl rfl) ?_
                    refine AL_nil ?_
                    refine AW_ret (BQ_ret ?_)
                    exact ⟨rn [], ⟨⟨⟨_, rfl, vle_bool (by grind [msgB, noAddB, noNoteB, upToB, entryB])⟩, trivial⟩, trivial, trivial, rfl⟩⟩
                · try simp only [decide_eq_true_eq, decide_eq_false_iff_not, Bool.not_eq_true, Bool.not_eq_false, Bool.not_eq_true', Bool.not_eq_false', beq_iff_eq, bne_iff_ne, beq_eq_false_iff_ne, bne_eq_false_iff_eq, Int.not_lt, Int.not_le, ge_iff_le, gt_iff_lt] at h44
                  refine AW_condF rfl ?_
                  refine AW_seq ?_
                  refine AW_region ?_
                  refine AL_b (x_eql rfl rfl rfl) (fun b55 h55 => ?_)
                  refine AL_p (x_assign rfl rfl) ?_
                  refine AL_nil ?_
                  cases b55
                  rotate_left
                  · try simp only [decide_eq_true_eq, decide_eq_false_iff_not, Bool.not_eq_true, Bool.not_eq_false, Bool.not_eq_true', Bool.not_eq_false', beq_iff_eq, bne_iff_ne, beq_eq_false_iff_ne, bne_eq_false_iff_eq, Int.not_lt, Int.not_le, ge_iff_le, gt_iff_lt] at h55
                    refine AW_condT rfl ?_
                    refine AW_seq ?_
                    refine AW_region ?_
                    refine AL_p (x_field (off := 3) (o' := 3) rfl rfl rfl (by kernel_rfl) rfl) ?_
                    refine AL_p (x_load1 rfl rfl rfl (by kernel_rfl) rfl) ?_
                    refine AL_p (x_field (off := 4) (o' := 4) rfl rfl rfl (by kernel_rfl) rfl) ?_
                    refine AL_p (x_load1 rfl rfl rfl (by kernel_rfl) rfl) ?_
                    refine AL_p (x_field (off := 5) (o' := 5) rfl rfl rfl (by kernel_rfl) rfl) ?_
                    refine AL_p (x_loadN (n := 2) rfl rfl rfl (by kernel_rfl) rfl rfl) ?_
                    refine AL_p (x_field (off := 7) (o' := 7) rfl rfl rfl (by kernel_rfl) rfl) ?_
                    refine AL_p (x_load1 rfl rfl rfl (by kernel_rfl) rfl) ?_
                    refine AL_p (x_build (zs := [.int .i64 0, .int .i64 0, .slice none 0 0, .slice none 0 0, .slice none 0 0, .int .i64 0]) (places := [(0, 1), (1, 1), (2, 2), (4, 1), (5, 1)]) rfl (by kernel_rfl) rfl rfl rfl rfl rfl) ?_
                    refine AL_b (x_call0 rfl rfl rfl (entryI_c _ _ 0 m.mat m.acts) rfl rfl) (fun b65 h65 => ?_)
                    refine AL_p (x_move rfl rfl) ?_
                    cases b65
                    rotate_left
                    · try simp only [decide_eq_true_eq, decide_eq_false_iff_not, Bool.not_eq_true, Bool.not_eq_false, Bool.not_eq_true', Bool.not_eq_false', beq_iff_eq, bne_iff_ne, beq_eq_false_iff_ne, bne_eq_false_iff_eq, Int.not_lt, Int.not_le, ge_iff_le, gt_iff_lt] at h65
                      refine AL_g rfl rfl (x_move rfl rfl) ?_
                      refine AL_p (x_pickT rfl rfl rfl) ?_
                      refine AL_p (x_assign rfl rfl) ?_
                      refine AL_nil ?_
                      refine AW_ret (BQ_ret ?_)
                      cases b37
                      rotate_left
                      · try simp only [decide_eq_true_eq, decide_eq_false_iff_not, Bool.not_eq_true, Bool.not_eq_false, Bool.not_eq_true', Bool.not_eq_false', beq_iff_eq, bne_iff_ne, beq_eq_false_iff_ne, bne_eq_false_iff_eq, Int.not_lt, Int.not_le, ge_iff_le, gt_iff_lt] at h37
                        exact ⟨rn [], ⟨⟨⟨_, rfl, vle_bool (by grind [msgB, noAddB, noNoteB, upToB, entryB])⟩, trivial⟩, trivial, trivial, rfl⟩⟩
                      · try simp only [decide_eq_true_eq, decide_eq_false_iff_not, Bool.not_eq_true, Bool.not_eq_false, Bool.not_eq_true', Bool.not_eq_false', beq_iff_eq, bne_iff_ne, beq_eq_false_iff_ne, bne_eq_false_iff_eq, Int.not_lt, Int.not_le, ge_iff_le, gt_iff_lt] at h37
                        exact ⟨rn [], ⟨⟨⟨_, rfl, vle_bool (by grind [msgB, noAddB, noNoteB, upToB, entryB])⟩, trivial⟩, trivial, trivial, rfl⟩⟩
                    · try simp only [decide_eq_true_eq, decide_eq_false_iff_not, Bool.not_eq_true, Bool.not_eq_false, Bool.not_eq_true', Bool.not_eq_false', beq_iff_eq, bne_iff_ne, beq_eq_false_iff_ne, bne_eq_false_iff_eq, Int.not_lt, Int.not_le, ge_iff_le, gt_iff_lt] at h65
                      refine AL_o rfl rfl rfl rfl ?_
                      refine AL_p (x_pickF rfl rfl rfl) ?_
                      refine AL_p (x_assign rfl rfl) ?_
                      refine AL_nil ?_
                      refine AW_ret (BQ_ret ?_)
                      exact ⟨rn [], ⟨⟨⟨_, rfl, vle_bool (by grind [msgB, noAddB, noNoteB, upToB, entryB])⟩, trivial⟩, trivial, trivial, rfl⟩⟩
                  · try simp only [decide_eq_true_eq, decide_eq_false_iff_not, Bool.not_eq_true, Bool.not_eq_false, Bool.not_eq_true', Bool.not_eq_false', beq_iff_eq, bne_iff_ne, beq_eq_false_iff_ne, bne_eq_false_iff_eq, Int.not_lt, Int.not_le, ge_iff_le, gt_iff_lt] at h55
                    refine AW_condF rfl ?_
                    refine AW_seq ?_
                    refine AW_region ?_
                    refine AL_b (x_eql rfl rfl rfl) (fun b70 h70 => ?_)
                    refine AL_p (x_assign rfl rfl) ?_
                    refine AL_nil ?_
                    cases b70
                    rotate_left
                    · try simp only [decide_eq_true_eq, decide_eq_false_iff_not, Bool.not_eq_true, Bool.not_eq_false, Bool.not_eq_true', Bool.not_eq_false', beq_iff_eq, bne_iff_ne, beq_eq_false_iff_ne, bne_eq_false_iff_eq, Int.not_lt, Int.not_le, ge_iff_le, gt_iff_lt] at h70
                      refine AW_condT rfl ?_
                      refine AW_seq ?_
                      refine AW_region ?_
                      refine AL_p (x_field (off := 3) (o' := 3) rfl rfl rfl (by kernel_rfl) rfl) ?_
                      refine AL_p (x_load1 rfl rfl rfl (by kernel_rfl) rfl) ?_
                      refine AL_b (x_call0 rfl rfl rfl (upToI_c _ _) rfl rfl) (fun b73 h73 => ?_)
                      refine AL_p (x_move rfl rfl) ?_
                      cases b73
                      rotate_left
                      · try simp only [decide_eq_true_eq, decide_eq_false_iff_not, Bool.not_eq_true, Bool.not_eq_false, Bool.not_eq_true', Bool.not_eq_false', beq_iff_eq, bne_iff_ne, beq_eq_false_iff_ne, bne_eq_false_iff_eq, Int.not_lt, Int.not_le, ge_iff_le, gt_iff_lt] at h73
                        refine AL_g rfl rfl (x_move rfl rfl) ?_
                        refine AL_p (x_pickT rfl rfl rfl) ?_
                        refine AL_p (x_move rfl rfl) ?_
                        refine AL_o rfl rfl rfl rfl ?_
                        refine AL_p (x_pickF rfl rfl rfl) ?_
                        refine AL_p (x_assign rfl rfl) ?_
                        refine AL_nil ?_
                        refine AW_ret (BQ_ret ?_)
                        exact ⟨rn [], ⟨⟨⟨_, rfl, vle_bool (by grind [msgB, noAddB, noNoteB, upToB, entryB])⟩, trivial⟩, trivial, trivial, rfl⟩⟩
                      · try simp only [decide_eq_true_eq, decide_eq_false_iff_not, Bool.not_eq_true, Bool.not_eq_false, Bool.not_eq_true', Bool.not_eq_false', beq_iff_eq, bne_iff_ne, beq_eq_false_iff_ne, bne_eq_false_iff_eq, Int.not_lt, Int.not_le, ge_iff_le, gt_iff_lt] at h73
                        refine AL_o rfl rfl rfl rfl ?_
                        refine AL_p (x_pickF rfl rfl rfl) ?_
                        refine AL_p (x_move rfl rfl) ?_
                        refine AL_o rfl rfl rfl rfl ?_
                        refine AL_p (x_pickF rfl rfl rfl) ?_
                        refine AL_p (x_assign rfl rfl) ?_
                        refine AL_nil ?_
                        refine AW_ret (BQ_ret ?_)
                        exact ⟨rn [], ⟨⟨⟨_, rfl, vle_bool (by grind [msgB, noAddB, noNoteB, upToB, entryB])⟩, trivial⟩, trivial, trivial, rfl⟩⟩
                    · try simp only [decide_eq_true_eq, decide_eq_false_iff_not, Bool.not_eq_true, Bool.not_eq_false, Bool.not_eq_true', Bool.not_eq_false', beq_iff_eq, bne_iff_ne, beq_eq_false_iff_ne, bne_eq_false_iff_eq, Int.not_lt, Int.not_le, ge_iff_le, gt_iff_lt] at h70
                      refine AW_condF rfl ?_
                      refine AW_seq ?_
                      refine AW_region ?_
                      refine AL_b (x_eql rfl rfl rfl) (fun b81 h81 => ?_)
                      refine AL_p (x_assign rfl rfl) ?_
                      refine AL_nil ?_
                      cases b81
                      rotate_left
                      · try simp only [decide_eq_true_eq, decide_eq_false_iff_not, Bool.not_eq_true, Bool.not_eq_false, Bool.not_eq_true', Bool.not_eq_false', beq_iff_eq, bne_iff_ne, beq_eq_false_iff_ne, bne_eq_false_iff_eq, Int.not_lt, Int.not_le, ge_iff_le, gt_iff_lt] at h81
                        refine AW_condT rfl ?_
                        refine AW_seq ?_
                        refine AW_region ?_
                        refine AL_p (x_field (off := 3) (o' := 3) rfl rfl rfl (by kernel_rfl) rfl) ?_
                        refine AL_p (x_load1 rfl rfl rfl (by kernel_rfl) rfl) ?_
                        refine AL_b (x_eql rfl rfl rfl) (fun b84 h84 => ?_)
                        refine AL_p (x_move rfl rfl) ?_
                        cases b84
                        rotate_left
                        · try simp only [decide_eq_true_eq, decide_eq_false_iff_not, Bool.not_eq_true, Bool.not_eq_false, Bool.not_eq_true', Bool.not_eq_false', beq_iff_eq, bne_iff_ne, beq_eq_false_iff_ne, bne_eq_false_iff_eq, Int.not_lt, Int.not_le, ge_iff_le, gt_iff_lt] at h84
                          refine AL_g rfl rfl (x_move rfl rfl) ?_
                          refine AL_p (x_pickT rfl rfl rfl) ?_
                          refine AL_p (x_move rfl rfl) ?_
                          refine AL_o rfl rfl rfl rfl ?_
                          refine AL_o rfl rfl rfl rfl ?_
                          refine AL_o rfl rfl rfl rfl ?_
                          refine AL_p (x_pickF rfl rfl rfl) ?_
                          refine AL_p (x_assign rfl rfl) ?_
                          refine AL_nil ?_
                          refine AW_ret (BQ_ret ?_)
                          exact ⟨rn [], ⟨⟨⟨_, rfl, vle_bool (by grind [msgB, noAddB, noNoteB, upToB, entryB])⟩, trivial⟩, trivial, trivial, rfl⟩⟩
                        · try simp only [decide_eq_true_eq, decide_eq_false_iff_not, Bool.not_eq_true, Bool.not_eq_false, Bool.not_eq_true', Bool.not_eq_false', beq_iff_eq, bne_iff_ne, beq_eq_false_iff_ne, bne_eq_false_iff_eq, Int.not_lt, Int.not_le, ge_iff_le, gt_iff_lt] at h84
                          refine AL_o rfl rfl rfl rfl ?_
                          refine AL_p (x_pickF rfl rfl rfl) ?_
                          refine AL_p (x_move rfl rfl) ?_
                          refine AL_o rfl rfl rfl rfl ?_
                          refine AL_o rfl rfl rfl rfl ?_
                          refine AL_o rfl rfl rfl rfl ?_
                          refine AL_p (x_pickF rfl rfl rfl) ?_
                          refine AL_p (x_assign rfl rfl) ?_
                          refine AL_nil ?_
                          refine AW_ret (BQ_ret ?_)
                          exact ⟨rn [], ⟨⟨⟨_, rfl, vle_bool (by grind [msgB, noAddB, noNoteB, upToB, entryB])⟩, trivial⟩, trivial, trivial, rfl⟩⟩
                      · try simp only [decide_eq_true_eq, decide_eq_false_iff_not, Bool.not_eq_true, Bool.not_eq_false, Bool.not_eq_true', Bool.not_eq_false', beq_iff_eq, bne_iff_ne, beq_eq_false_iff_ne, bne_eq_false_iff_eq, Int.not_lt, Int.not_le, ge_iff_le, gt_iff_lt] at h81
                        refine AW_condF rfl ?_
                        refine AW_skip ?_
                        refine AW_seq ?_
                        refine AW_region ?_
                        refine AL_p (x_assign rfl rfl) ?_
                        refine AL_nil ?_
                        refine AW_ret ?_
                        exact ⟨rn [], ⟨⟨⟨_, rfl, vle_bool (by grind [msgB, noAddB, noNoteB, upToB, entryB])⟩, trivial⟩, trivial, trivial, rfl⟩⟩
      · try simp only [decide_eq_true_eq, decide_eq_false_iff_not, Bool.not_eq_true, Bool.not_eq_false, Bool.not_eq_true', Bool.not_eq_false', beq_iff_eq, bne_iff_ne, beq_eq_false_iff_ne, bne_eq_false_iff_eq, Int.not_lt, Int.not_le, ge_iff_le, gt_iff_lt] at h17
        refine AL_o rfl rfl rfl rfl ?_
        refine AL_o rfl rfl rfl rfl ?_
        refine AL_o rfl rfl rfl rfl ?_
        refine AL_p (x_pickF rfl rfl rfl) ?_
        refine AL_p (x_move rfl rfl) ?_
        refine AL_o rfl rfl rfl rfl ?_
        refine AL_o rfl rfl rfl rfl ?_
        refine AL_o rfl rfl rfl rfl ?_
        refine AL_o rfl rfl rfl rfl ?_
        refine AL_p (x_pickF rfl rfl rfl) ?_
        refine AL_p (x_assign rfl rfl) ?_
        refine AL_nil ?_
        refine AW_seq ?_
        refine AW_region ?_
        refine AL_p (x_field (off := 8) (o' := 8) rfl rfl rfl (by kernel_rfl) rfl) ?_
        refine AL_b (x_load1 rfl rfl rfl (by kernel_rfl) rfl) (fun b30 h30 => ?_)
        refine AL_p (x_not rfl rfl) ?_
        refine AL_p (x_move rfl rfl) ?_
        cases b30
        rotate_left
        · try simp only [decide_eq_true_eq, decide_eq_false_iff_not, Bool.not_eq_true, Bool.not_eq_false, Bool.not_eq_true', Bool.not_eq_false', beq_iff_eq, bne_iff_ne, beq_eq_false_iff_ne, bne_eq_false_iff_eq, Int.not_lt, Int.not_le, ge_iff_le, gt_iff_lt] at h30
          refine AL_o rfl rfl rfl rfl ?_
          refine AL_o rfl rfl rfl rfl ?_
          refine AL_o rfl rfl rfl rfl ?_
          refine AL_o rfl rfl rfl rfl ?_
          refine AL_o rfl rfl rfl rfl ?_
          refine AL_p (x_pickF rfl rfl rfl) ?_
          refine AL_p (x_assign rfl rfl) ?_
          refine AL_nil ?_
          refine AW_seq ?_
          refine AW_seq ?_
          refine AW_region ?_
          refine AL_p (x_field (off := 0) (o' := 0) rfl rfl rfl (by kernel_rfl) rfl) ?_
          refine AL_p (x_load1 rfl rfl rfl (by kernel_rfl) rfl) ?_
          refine AL_nil ?_
          refine AW_block ?_
          refine AW_seq ?_
          refine AW_seq ?_
          refine AW_region ?_
          refine AL_b (x_eql rfl rfl rfl) (fun b42 h42 => ?_)
          refine AL_p (x_assign rfl rfl) ?_
          refine AL_nil ?_
          cases b42
          rotate_left
          · try simp only [decide_eq_true_eq, decide_eq_false_iff_not, Bool.not_eq_true, Bool.not_eq_false, Bool.not_eq_true', Bool.not_eq_false', beq_iff_eq, bne_iff_ne, beq_eq_false_iff_ne, bne_eq_false_iff_eq, Int.not_lt, Int.not_le, ge_iff_le, gt_iff_lt] at h42
            refine AW_condT rfl ?_
            refine AW_skip ?_
            refine AW_condT rfl ?_
            refine AW_seq ?_
            refine AW_region ?_
            refine AL_p (x_field (off := 3) (o' := 3) rfl rfl rfl (by kernel_rfl) rfl) ?_
            refine AL_p (x_load1 rfl rfl rfl (by kernel_rfl) rfl) ?_
            refine AL_b (x_eql rfl rfl rfl) (fun b47 h47 => ?_)
            refine AL_p (x_move rfl rfl) ?_
            cases b47
            rotate_left
            · try simp only [decide_eq_true_eq, decide_eq_false_iff_not, Bool.not_eq_true, Bool.not_eq_false, Bool.not_eq_true', Bool.not_eq_false', beq_iff_eq, bne_iff_ne, beq_eq_false_iff_ne, bne_eq_false_iff_eq, Int.not_lt, Int.not_le, ge_iff_le, gt_iff_lt] at h47
              refine AL_g rfl rfl (x_move rfl rfl) ?_
              refine AL_p (x_pickT rfl rfl rfl) ?_
              refine AL_p (x_move rfl rfl) ?_
              refine AL_o rfl rfl rfl rfl ?_
              refine AL_p (x_pickF rfl rfl rfl) ?_
              refine AL_p (x_assign rfl rfl) ?_
              refine AL_nil ?_
              refine AW_ret (BQ_ret ?_)
              exact ⟨rn [], ⟨⟨⟨_, rfl, vle_bool (by grind [msgB, noAddB, noNoteB, upToB, entryB])⟩, trivial⟩, trivial, trivial, rfl⟩⟩
            · try simp only [decide_eq_true_eq, decide_eq_false_iff_not, Bool.not_eq_true, Bool.not_eq_false, Bool.not_eq_true', Bool.not_eq_false', beq_iff_eq, bne_iff_ne, beq_eq_false_iff_ne, bne_eq_false_iff_eq, Int.not_lt, Int.not_le, ge_iff_le, gt_iff_lt] at h47
              refine AL_o rfl rfl rfl rfl ?_
              refine AL_p (x_pickF rfl rfl rfl) ?_
              refine AL_p (x_move rfl rfl) ?_
              refine AL_o rfl rfl rfl rfl ?_
              refine AL_p (x_pickF rfl rfl rfl) ?_
              refine AL_p (x_assign rfl rfl) ?_
              refine AL_nil ?_
              refine AW_ret (BQ_ret ?_)
              exact ⟨rn [], ⟨⟨⟨_, rfl, vle_bool (by grind [msgB, noAddB, noNoteB, upToB, entryB])⟩, trivial⟩, trivial, trivial, rfl⟩⟩
          · try simp only [decide_eq_true_eq, decide_eq_false_iff_not, Bool.not_eq_true, Bool.not_eq_false, Bool.not_eq_true', Bool.not_eq_false', beq_iff_eq, bne_iff_ne, beq_eq_false_iff_ne, bne_eq_false_iff_eq, Int.not_lt, Int.not_le, ge_iff_le, gt_iff_lt] at h42
            refine AW_condF rfl ?_
            refine AW_seq ?_
            refine AW_region ?_
            refine AL_b (x_eql rfl rfl rfl) (fun b43 h43 => ?_)
            refine AL_p (x_assign rfl rfl) ?_
            refine AL_nil ?_
            cases b43
            rotate_left
            · try simp only [decide_eq_true_eq, decide_eq_false_iff_not, Bool.not_eq_true, Bool.not_eq_false, Bool.not_eq_true', Bool.not_eq_false', beq_iff_eq, bne_iff_ne, beq_eq_false_iff_ne, bne_eq_false_iff_eq, Int.not_lt, Int.not_le, ge_iff_le, gt_iff_lt] at h43
              refine AW_condT rfl ?_
              refine AW_skip ?_
              refine AW_condT rfl ?_
              refine AW_seq ?_
              refine AW_region ?_
              refine AL_p (x_field (off := 3) (o' := 3) rfl rfl rfl (by kernel_rfl) rfl) ?_
              refine AL_p (x_load1 rfl rfl rfl (by kernel_rfl) rfl) ?_
              refine AL_b (x_eql rfl rfl rfl) (fun b47 h47 => ?_)
              refine AL_p (x_move rfl rfl) ?_
              cases b47
              rotate_left
              · try simp only [decide_eq_true_eq, decide_eq_false_iff_not, Bool.not_eq_true, Bool.not_eq_false, Bool.not_eq_true', Bool.not_eq_false', beq_iff_eq, bne_iff_ne, beq_eq_false_iff_ne, bne_eq_false_iff_eq, Int.not_lt, Int.not_le, ge_iff_le, gt_iff_lt] at h47
                refine AL_g rfl rfl (x_move rfl rfl) ?_
                refine AL_p (x_pickT rfl rfl rfl) ?_
                refine AL_p (x_move rfl rfl) ?_
                refine AL_o rfl rfl rfl rfl ?_
                refine AL_p (x_pickF rfl rfl rfl) ?_
                refine AL_p (x_assign rfl rfl) ?_
                refine AL_nil ?_
                refine AW_ret (BQ_ret ?_)
                exact ⟨rn [], ⟨⟨⟨_, rfl, vle_bool (by grind [msgB, noAddB, noNoteB, upToB, entryB])⟩, trivial⟩, trivial, trivial, rfl⟩⟩
              · try simp only [decide_eq_true_eq, decide_eq_false_iff_not, Bool.not_eq_true, Bool.not_eq_false, Bool.not_eq_true', Bool.not_eq_false', beq_iff_eq, bne_iff_ne, beq_eq_false_iff_ne, bne_eq_false_iff_eq, Int.not_lt, Int.not_le, ge_iff_le, gt_iff_lt] at h47
                refine AL_o rfl rfl rfl rfl ?_
                refine AL_p (x_pickF rfl rfl rfl) ?_
                refine AL_p (x_move rfl rfl) ?_
                refine AL_o rfl rfl rfl rfl ?_
                refine AL_p (x_pickF rfl rfl rfl) ?_
                refine AL_p (x_assign rfl rfl) ?_
                refine AL_nil ?_
                refine AW_ret (BQ_ret ?_)
                exact ⟨rn [], ⟨⟨⟨_, rfl, vle_bool (by grind [msgB, noAddB, noNoteB, upToB, entryB])⟩, trivial⟩, trivial, trivial, rfl⟩⟩
            · try simp only [decide_eq_true_eq, decide_eq_false_iff_not, Bool.not_eq_true, Bool.not_eq_false, Bool.not_eq_true', Bool.not_eq_false', beq_iff_eq, bne_iff_ne, beq_eq_false_iff_ne, bne_eq_false_iff_eq, Int.not_lt, Int.not_le, ge_iff_le, gt_iff_lt] at h43
              refine AW_condF rfl ?_
              refine AW_region ?_
              refine AL_b (x_eql rfl rfl rfl) (fun b44 h44 => ?_)
              refine AL_p (x_assign rfl rfl) ?_
              refine AL_nil ?_
              cases b44
              rotate_left
              · try simp only [decide_eq_true_eq, decide_eq_false_iff_not, Bool.not_eq_true, Bool.not_eq_false, Bool.not_eq_true', Bool.not_eq_false', beq_iff_eq, bne_iff_ne, beq_eq_false_iff_ne, bne_eq_false_iff_eq, Int.not_lt, Int.not_le, ge_iff_le, gt_iff_lt] at h44
                refine AW_condT rfl ?_
                refine AW_seq ?_
                refine AW_region ?_
                refine AL_p (x_field (off := 3) (o' := 3) rfl rfl rfl (by kernel_rfl) rfl) ?_
                refine AL_p (x_load1 rfl rfl rfl (by kernel_rfl) rfl) ?_
                refine AL_b (x_eql rfl rfl rfl) (fun b47 h47 => ?_)
                refine AL_p (x_move rfl rfl) ?_
                cases b47
                rotate_left
                · try simp only [decide_eq_true_eq, decide_eq_false_iff_not, Bool.not_eq_true, Bool.not_eq_false, Bool.not_eq_true', Bool.not_eq_false', beq_iff_eq, bne_iff_ne, beq_eq_false_iff_ne, bne_eq_false_iff_eq, Int.not_lt, Int.not_le, ge_iff_le, gt_iff_lt] at h47
                  refine AL_g rfl rfl (x_move rfl rfl) ?_
                  refine AL_p (x_pickT rfl rfl rfl) ?_
                  refine AL_p (x_move rfl rfl) ?_
                  refine AL_o rfl rfl rfl rfl ?_
                  refine AL_p (x_pickF rfl rfl rfl) ?_
                  refine AL_p (x_assign rfl rfl) ?_
                  refine AL_nil ?_
                  refine AW_ret (BQ_ret ?_)
                  exact ⟨rn [], ⟨⟨⟨_, rfl, vle_bool (by grind [msgB, noAddB, noNoteB, upToB, entryB])⟩, trivial⟩, trivial, trivial, rfl⟩⟩
                · try simp only [decide_eq_true_eq, decide_eq_false_iff_not, Bool.not_eq_true, Bool.not_eq_false, Bool.not_eq_true', Bool.not_eq_false', beq_iff_eq, bne_iff_ne, beq_eq_false_iff_ne, bne_eq_false_iff_eq, Int.not_lt, Int.not_le, ge_iff_le, gt_iff_lt] at h47
                  refine AL_o rfl rfl rfl rfl ?_
                  refine AL_p (x_pickF rfl rfl rfl) ?_
                  refine AL_p (x_move rfl rfl) ?_
                  refine AL_o rfl rfl rfl rfl ?_
                  refine AL_p (x_pickF rfl rfl rfl) ?_
                  refine AL_p (x_assign rfl rfl) ?_
                  refine AL_nil ?_
                  refine AW_ret (BQ_ret ?_)
                  exact ⟨rn [], ⟨⟨⟨_, rfl, vle_bool (by grind [msgB, noAddB, noNoteB, upToB, entryB])⟩, trivial⟩, trivial, trivial, rfl⟩⟩
              · try simp only [decide_eq_true_eq, decide_eq_false_iff_not, Bool.not_eq_true, Bool.not_eq_false, Bool.not_eq_true', Bool.not_eq_false', beq_iff_eq, bne_iff_ne, beq_eq_false_iff_ne, bne_eq_false_iff_eq, Int.not_lt, Int.not_le, ge_iff_le, gt_iff_lt] at h44
                refine AW_condF rfl ?_
                refine AW_seq ?_
                refine AW_region ?_
                refine AL_b (x_eql rfl rfl rfl) (fun b55 h55 => ?_)
                refine AL_p (x_assign rfl rfl) ?_
                refine AL_nil ?_
                cases b55
                rotate_left
                · try simp only [decide_eq_true_eq, decide_eq_false_iff_not, Bool.not_eq_true, Bool.not_eq_false, Bool.not_eq_true', Bool.not_eq_false', beq_iff_eq, bne_iff_ne, beq_eq_false_iff_ne, bne_eq_false_iff_eq, Int.not_lt, Int.not_le, ge_iff_le, gt_iff_lt] at h55
                  refine AW_condT rfl ?_
                  refine AW_seq ?_
                  refine AW_region ?_
                  refine AL_p (x_field (off := 3) (o' := 3) rfl rfl rfl (by kernel_rfl) rfl) ?_
                  refine AL_p (x_load1 rfl rfl rfl (by kernel_rfl) rfl) ?_
                  refine AL_p (x_field (off := 4) (o' := 4) rfl rfl rfl (by kernel_rfl) rfl) ?_
                  refine AL_p (x_load1 rfl rfl rfl (by kernel_rfl) rfl) ?_
                  refine AL_p (x_field (off := 5) (o' := 5) rfl rfl rfl (by kernel_rfl) rfl) ?_
                  refine AL_p (x_loadN (n := 2) rfl rfl rfl (by kernel_rfl) rfl rfl) ?_
                  refine AL_p (x_field (off := 7) (o' := 7) rfl rfl rfl (by kernel_rfl) rfl) ?_
                  refine AL_p (x_load1 rfl rfl rfl (by kernel_rfl) rfl) ?_
                  refine AL_p (x_build (zs := [.int .i64 0, .int .i64 0, .slice none 0 0, .slice none 0 0, .slice none 0 0, .int .i64 0]) (places := [(0, 1), (1, 1), (2, 2), (4, 1), (5, 1)]) rfl (by kernel_rfl) rfl rfl rfl rfl rfl) ?_
                  refine AL_b (x_call0 rfl rfl rfl (entryI_c _ _ 0 m.mat m.acts) rfl rfl) (fun b65 h65 => ?_)
                  refine AL_p (x_move rfl rfl) ?_
                  cases b65
                  rotate_left
                  · try simp only [decide_eq_true_eq, decide_eq_false_iff_not, Bool.not_eq_true, Bool.not_eq_false, Bool.not_eq_true', Bool.not_eq_false', beq_iff_eq, bne_iff_ne, beq_eq_false_iff_ne, bne_eq_false_iff_eq, Int.not_lt, Int.not_le, ge_iff_le, gt_iff_lt] at h65
                    refine AL_g rfl rfl (x_move rfl rfl) ?_
                    refine AL_p (x_pickT rfl rfl rfl) ?_
                    refine AL_p (x_assign rfl rfl) ?_
                    refine AL_nil ?_
                    refine AW_ret (BQ_ret ?_)
                    exact ⟨rn [], ⟨⟨⟨_, rfl, vle_bool (by grind [msgB, noAddB, noNoteB, upToB, entryB])⟩, trivial⟩, trivial, trivial, rfl⟩⟩
                  · try simp only [decide_eq_true_eq, decide_eq_false_iff_not, Bool.not_eq_true, Bool.not_eq_false, Bool.not_eq_true', Bool.not_eq_false', beq_iff_eq, bne_iff_ne, beq_eq_false_iff_ne, bne_eq_false_iff_eq, Int.not_lt, Int.not_le, ge_iff_le, gt_iff_lt] at h65
                    refine AL_o rfl rfl rfl rfl ?_
                    refine AL_p (x_pickF rfl rfl rfl) ?_
                    refine AL_p (x_assign rfl rfl) ?_
                    refine AL_nil ?_
                    refine AW_ret (BQ_ret ?_)
                    exact ⟨rn [], ⟨⟨⟨_, rfl, vle_bool (by grind [msgB, noAddB, noNoteB, upToB, entryB])⟩, trivial⟩, trivial, trivial, rfl⟩⟩
                · try simp only [decide_eq_true_eq, decide_eq_false_iff_not, Bool.not_eq_true, Bool.not_eq_false, Bool.not_eq_true', Bool.not_eq_false', beq_iff_eq, bne_iff_ne, beq_eq_false_iff_ne, bne_eq_false_iff_eq, Int.not_lt, Int.not_le, ge_iff_le, gt_iff_lt] at h55
                  refine AW_condF rfl ?_
                  refine AW_seq ?_
                  refine AW_region ?_
                  refine AL_b (x_eql rfl rfl rfl) (fun b70 h70 => ?_)
                  refine AL_p (x_assign rfl rfl) ?_
                  refine AL_nil ?_
                  cases b70
                  rotate_left
                  · try simp only [decide_eq_true_eq, decide_eq_false_iff_not, Bool.not_eq_true, Bool.not_eq_false, Bool.not_eq_true', Bool.not_eq_false', beq_iff_eq, bne_iff_ne, beq_eq_false_iff_ne, bne_eq_false_iff_eq, Int.not_lt, Int.not_le, ge_iff_le, gt_iff_lt] at h70
                    refine AW_condT rfl ?_
                    refine AW_seq ?_
                    refine AW_region ?_
                    refine AL_p (x_field (off := 3) (o' := 3) rfl rfl rfl (by kernel_rfl) rfl) ?_
                    refine AL_p (x_load1 rfl rfl rfl (by kernel_rfl) rfl) ?_
                    refine AL_b (x_call0 rfl rfl rfl (upToI_c _ _) rfl rfl) (fun b73 h73 => ?_)
                    refine AL_p (x_move rfl rfl) ?_
                    cases b73
                    rotate_left
                    · try simp only [decide_eq_true_eq, decide_eq_false_iff_not, Bool.not_eq_true, Bool.not_eq_false, Bool.not_eq_true', Bool.not_eq_false', beq_iff_eq, bne_iff_ne, beq_eq_false_iff_ne, bne_eq_false_iff_eq, Int.not_lt, Int.not_le, ge_iff_le, gt_iff_lt] at h73
                      refine AL_g rfl rfl (x_move rfl rfl) ?_
                      refine AL_p (x_pickT rfl rfl rfl) ?_
                      refine AL_p (x_move rfl rfl) ?_
                      refine AL_o rfl rfl rfl rfl ?_
                      refine AL_p (x_pickF rfl rfl rfl) ?_
                      refine AL_p (x_assign rfl rfl) ?_
                      refine AL_nil ?_
                      refine AW_ret (BQ_ret ?_)
                      exact ⟨rn [], ⟨⟨⟨_, rfl, vle_bool (by grind [msgB, noAddB, noNoteB, upToB, entryB])⟩, trivial⟩, trivial, trivial, rfl⟩⟩
                    · try simp only [decide_eq_true_eq, decide_eq_false_iff_not, Bool.not_eq_true, Bool.not_eq_false, Bool.not_eq_true', Bool.not_eq_false', beq_iff_eq, bne_iff_ne, beq_eq_false_iff_ne, bne_eq_false_iff_eq, Int.not_lt, Int.not_le, ge_iff_le, gt_iff_lt] at h73
                      refine AL_o rfl rfl rfl rfl ?_
                      refine AL_p (x_pickF rfl rfl rfl) ?_
                      refine AL_p (x_move rfl rfl) ?_
                      refine AL_o rfl rfl rfl rfl ?_
                      refine AL_p (x_pickF rfl rfl rfl) ?_
                      refine AL_p (x_assign rfl rfl) ?_
                      refine AL_nil ?_
                      refine AW_ret (BQ_ret ?_)
                      exact ⟨rn [], ⟨⟨⟨_, rfl, vle_bool (by grind [msgB, noAddB, noNoteB, upToB, entryB])⟩, trivial⟩, trivial, trivial, rfl⟩⟩
                  · try simp only [decide_eq_true_eq, decide_eq_false_iff_not, Bool.not_eq_true, Bool.not_eq_false, Bool.not_eq_true', Bool.not_eq_false', beq_iff_eq, bne_iff_ne, beq_eq_false_iff_ne, bne_eq_false_iff_eq, Int.not_lt, Int.not_le, ge_iff_le, gt_iff_lt] at h70
                    refine AW_condF rfl ?_
                    refine AW_seq ?_
                    refine AW_region ?_
                    refine AL_b (x_eql rfl rfl rfl) (fun b81 h81 => ?_)
                    refine AL_p (x_assign rfl rfl) ?_
                    refine AL_nil ?_
                    cases b81
                    rotate_left
                    · try simp only [decide_eq_true_eq, decide_eq_false_iff_not, Bool.not_eq_true, Bool.not_eq_false, Bool.not_eq_true', Bool.not_eq_false', beq_iff_eq, bne_iff_ne, beq_eq_false_iff_ne, bne_eq_false_iff_eq, Int.not_lt, Int.not_le, ge_iff_le, gt_iff_lt] at h81
                      refine AW_condT rfl ?_
                      refine AW_seq ?_
                      refine AW_region ?_
                      refine AL_p (x_field (off := 3) (o' := 3) rfl rfl rfl (by kernel_rfl) rfl) ?_
                      refine AL_p (x_load1 rfl rfl rfl (by kernel_rfl) rfl) ?_
                      refine AL_b (x_eql rfl rfl rfl) (fun b84 h84 => ?_)
                      refine AL_p (x_move rfl rfl) ?_
                      cases b84
                      rotate_left
                      · try simp only [decide_eq_true_eq, decide_eq_false_iff_not, Bool.not_eq_true, Bool.not_eq_false, Bool.not_eq_true', Bool.not_eq_false', beq_iff_eq, bne_iff_ne, beq_eq_false_iff_ne, bne_eq_false_iff_eq, Int.not_lt, Int.not_le, ge_iff_le, gt_iff_lt] at h84
                        refine AL_g rfl rfl (x_move rfl rfl) ?_
                        refine AL_p (x_pickT rfl rfl rfl) ?_
                        refine AL_p (x_move rfl rfl) ?_
                        refine AL_o rfl rfl rfl rfl ?_
                        refine AL_o rfl rfl rfl rfl ?_
                        refine AL_o rfl rfl rfl rfl ?_
                        refine AL_p (x_pickF rfl rfl rfl) ?_
                        refine AL_p (x_assign rfl rfl) ?_
                        refine AL_nil ?_
                        refine AW_ret (BQ_ret ?_)
                        exact ⟨rn [], ⟨⟨⟨_, rfl, vle_bool (by grind [msgB, noAddB, noNoteB, upToB, entryB])⟩, trivial⟩, trivial, trivial, rfl⟩⟩
                      · try simp only [decide_eq_true_eq, decide_eq_false_iff_not, Bool.not_eq_true, Bool.not_eq_false, Bool.not_eq_true', Bool.not_eq_false', beq_iff_eq, bne_iff_ne, beq_eq_false_iff_ne, bne_eq_false_iff_eq, Int.not_lt, Int.not_le, ge_iff_le, gt_iff_lt] at h84
                        refine AL_o rfl rfl rfl rfl ?_
                        refine AL_p (x_pickF rfl rfl rfl) ?_
                        refine AL_p (x_move rfl rfl) ?_
                        refine AL_o rfl rfl rfl rfl ?_
                        refine AL_o rfl rfl rfl rfl ?_
                        refine AL_o rfl rfl rfl rfl ?_
                        refine AL_p (x_pickF rfl rfl rfl) ?_
                        refine AL_p (x_assign rfl rfl) ?_
                        refine AL_nil ?_
                        refine AW_ret (BQ_ret ?_)
                        exact ⟨rn [], ⟨⟨⟨_, rfl, vle_bool (by grind [msgB, noAddB, noNoteB, upToB, entryB])⟩, trivial⟩, trivial, trivial, rfl⟩⟩
                    · try simp only [decide_eq_true_eq, decide_eq_false_iff_not, Bool.not_eq_true, Bool.not_eq_false, Bool.not_eq_true', Bool.not_eq_false', beq_iff_eq, bne_iff_ne, beq_eq_false_iff_ne, bne_eq_false_iff_eq, Int.not_lt, Int.not_le, ge_iff_le, gt_iff_lt] at h81
                      refine AW_condF rfl ?_
                      refine AW_skip ?_
                      refine AW_seq ?_
                      refine AW_region ?_
                      refine AL_p (x_assign rfl rfl) ?_
                      refine AL_nil ?_
                      refine AW_ret ?_
                      exact ⟨rn [], ⟨⟨⟨_, rfl, vle_bool (by grind [msgB, noAddB, noNoteB, upToB, entryB])⟩, trivial⟩, trivial, trivial, rfl⟩⟩
        · try simp only [decide_eq_true_eq, decide_eq_false_iff_not, Bool.not_eq_true, Bool.not_eq_false, Bool.not_eq_true', Bool.not_eq_false', beq_iff_eq, bne_iff_ne, beq_eq_false_iff_ne, bne_eq_false_iff_eq, Int.not_lt, Int.not_le, ge_iff_le, gt_iff_lt] at h30
          refine AL_g rfl rfl (x_field (off := 9) (o' := 9) rfl rfl rfl (by kernel_rfl) rfl) ?_
          refine AL_g rfl rfl (x_field (off := 0) (o' := 9) rfl rfl rfl (by kernel_rfl) rfl) ?_
          refine AL_g rfl rfl (x_load1 rfl rfl rfl (by kernel_rfl) rfl) ?_
          refine AL_g rfl rfl (x_len (E := 3) (n := 1) rfl rfl (by kernel_rfl)) ?_
          refine AL_gb rfl rfl (x_eql rfl rfl rfl) (fun b37 h37 => ?_)
          refine AL_p (x_pickT rfl rfl rfl) ?_
          refine AL_p (x_assign rfl rfl) ?_
          refine AL_nil ?_
          refine AW_seq ?_
          refine AW_seq ?_
          refine AW_region ?_
          refine AL_p (x_field (off := 0) (o' := 0) rfl rfl rfl (by kernel_rfl) rfl) ?_
          refine AL_p (x_load1 rfl rfl rfl (by kernel_rfl) rfl) ?_
          refine AL_nil ?_
          refine AW_block ?_
          refine AW_seq ?_
          refine AW_seq ?_
          refine AW_region ?_
          refine AL_b (x_eql rfl rfl rfl) (fun b42 h42 => ?_)
          refine AL_p (x_assign rfl rfl) ?_
          refine AL_nil ?_
          cases b42
          rotate_left
          · try simp only [decide_eq_true_eq, decide_eq_false_iff_not, Bool.not_eq_true, Bool.not_eq_false, Bool.not_eq_true', Bool.not_eq_false', beq_iff_eq, bne_iff_ne, beq_eq_false_iff_ne, bne_eq_false_iff_eq, Int.not_lt, Int.not_le, ge_iff_le, gt_iff_lt] at h42
            refine AW_condT rfl ?_
            refine AW_skip ?_
            refine AW_condT rfl ?_
            refine AW_seq ?_
            refine AW_region ?_
            refine AL_p (x_field (off := 3) (o' := 3) rfl rfl rfl (by kernel_rfl) rfl) ?_
            refine AL_p (x_load1 rfl rfl rfl (by kernel_rfl) rfl) ?_
            refine AL_b (x_eql rfl rfl rfl) (fun b47 h47 => ?_)
            refine AL_p (x_move rfl rfl) ?_
            cases b47
            rotate_left
            · try simp only [decide_eq_true_eq, decide_eq_false_iff_not, Bool.not_eq_true, Bool.not_eq_false, Bool.not_eq_true', Bool.not_eq_false', beq_iff_eq, bne_iff_ne, beq_eq_false_iff_ne, bne_eq_false_iff_eq, Int.not_lt, Int.not_le, ge_iff_le, gt_iff_lt] at h47
              refine AL_g rfl rfl (x_move rfl rfl) ?_
              refine AL_p (x_pickT rfl rfl rfl) ?_
              refine AL_p (x_move rfl rfl) ?_
              refine AL_o rfl rfl rfl rfl ?_
              refine AL_p (x_pickF rfl rfl rfl) ?_
              refine AL_p (x_assign rfl rfl) ?_
              refine AL_nil ?_
              refine AW_ret (BQ_ret ?_)
              exact ⟨rn [], ⟨⟨⟨_, rfl, vle_bool (by grind [msgB, noAddB, noNoteB, upToB, entryB])⟩, trivial⟩, trivial, trivial, rfl⟩⟩
            · try simp only [decide_eq_true_eq, decide_eq_false_iff_not, Bool.not_eq_true, Bool.not_eq_false, Bool.not_eq_true', Bool.not_eq_false', beq_iff_eq, bne_iff_ne, beq_eq_false_iff_ne, bne_eq_false_iff_eq, Int.not_lt, Int.not_le, ge_iff_le, gt_iff_lt] at h47
              refine AL_o rfl rfl rfl rfl ?_
              refine AL_p (x_pickF rfl rfl rfl) ?_
              refine AL_p (x_move rfl rfl) ?_
              refine AL_o rfl rfl rfl rfl ?_
              refine AL_p (x_pickF rfl rfl rfl) ?_
              refine AL_p (x_assign rfl rfl) ?_
              refine AL_nil ?_
              refine AW_ret (BQ_ret ?_)
              exact ⟨rn [], ⟨⟨⟨_, rfl, vle_bool (by grind [msgB, noAddB, noNoteB, upToB, entryB])⟩, trivial⟩, trivial, trivial, rfl⟩⟩
          · try simp only [decide_eq_true_eq, decide_eq_false_iff_not, Bool.not_eq_true, Bool.not_eq_false, Bool.not_eq_true', Bool.not_eq_false', beq_iff_eq, bne_iff_ne, beq_eq_false_iff_ne, bne_eq_false_iff_eq, Int.not_lt, Int.not_le, ge_iff_le, gt_iff_lt] at h42
            refine AW_condF rfl ?_
            refine AW_seq ?_
            refine AW_region ?_
            refine AL_b (x_eql rfl rfl rfl) (fun b43 h43 => ?_)
            refine AL_p (x_assign rfl rfl) ?_
            refine AL_nil ?_
            cases b43
            rotate_left
            · try simp only [decide_eq_true_eq, decide_eq_false_iff_not, Bool.not_eq_true, Bool.not_eq_false, Bool.not_eq_true', Bool.not_eq_false', beq_iff_eq, bne_iff_ne, beq_eq_false_iff_ne, bne_eq_false_iff_eq, Int.not_lt, Int.not_le, ge_iff_le, gt_iff_lt] at h43
              refine AW_condT rfl ?_
              refine AW_skip ?_
              refine AW_condT rfl ?_
              refine AW_seq ?_
              refine AW_region ?_
              refine AL_p (x_field (off := 3) (o' := 3) rfl rfl rfl (by kernel_rfl) rfl) ?_
              refine AL_p (x_load1 rfl rfl rfl (by kernel_rfl) rfl) ?_
              refine AL_b (x_eql rfl rfl rfl) (fun b47 h47 => ?_)
              refine AL_p (x_move rfl rfl) ?_
              cases b47
              rotate_left
              · try simp only [decide_eq_true_eq, decide_eq_false_iff_not, Bool.not_eq_true, Bool.not_eq_false, Bool.not_eq_true', Bool.not_eq_false', beq_iff_eq, bne_iff_ne, beq_eq_false_iff_ne, bne_eq_false_iff_eq, Int.not_lt, Int.not_le, ge_iff_le, gt_iff_lt] at h47
                refine AL_g rfl rfl (x_move rfl rfl) ?_
                refine AL_p (x_pickT rfl rfl rfl) ?_
                refine AL_p (x_move rfl rfl) ?_
                refine AL_o rfl rfl rfl rfl ?_
                refine AL_p (x_pickF rfl rfl rfl) ?_
                refine AL_p (x_assign rfl rfl) ?_
                refine AL_nil ?_
                refine AW_ret (BQ_ret ?_)
                exact ⟨rn [], ⟨⟨⟨_, rfl, vle_bool (by grind [msgB, noAddB, noNoteB, upToB, entryB])⟩, trivial⟩, trivial, trivial, rfl⟩⟩
              · try simp only [decide_eq_true_eq, decide_eq_false_iff_not, Bool.not_eq_true, Bool.not_eq_false, Bool.not_eq_true', Bool.not_eq_false', beq_iff_eq, bne_iff_ne, beq_eq_false_iff_ne, bne_eq_false_iff_eq, Int.not_lt, Int.not_le, ge_iff_le, gt_iff_lt] at h47
                refine AL_o rfl rfl rfl rfl ?_
                refine AL_p (x_pickF rfl rfl rfl) ?_
                refine AL_p (x_move rfl rfl) ?_
                refine AL_o rfl rfl rfl rfl ?_
                refine AL_p (x_pickF rfl rfl rfl) ?_
                refine AL_p (x_assign rfl rfl) ?_
                refine AL_nil ?_
                refine AW_ret (BQ_ret ?_)
                exact ⟨rn [], ⟨⟨⟨_, rfl, vle_bool (by grind [msgB, noAddB, noNoteB, upToB, entryB])⟩, trivial⟩, trivial, trivial, rfl⟩⟩
            · try simp only [decide_eq_true_eq, decide_eq_false_iff_not, Bool.not_eq_true, Bool.not_eq_false, Bool.not_eq_true', Bool.not_eq_false', beq_iff_eq, bne_iff_ne, beq_eq_false_iff_ne, bne_eq_false_iff_eq, Int.not_lt, Int.not_le, ge_iff_le, gt_iff_lt] at h43
              refine AW_condF rfl ?_
              refine AW_region ?_
              refine AL_b (x_eql rfl rfl rfl) (fun b44 h44 => ?_)
              refine AL_p (x_assign rfl rfl) ?_
              refine AL_nil ?_
              cases b44
              rotate_left
              · try simp only [decide_eq_true_eq, decide_eq_false_iff_not, Bool.not_eq_true, Bool.not_eq_false, Bool.not_eq_true', Bool.not_eq_false', beq_iff_eq, bne_iff_ne, beq_eq_false_iff_ne, bne_eq_false_iff_eq, Int.not_lt, Int.not_le, ge_iff_le, gt_iff_lt] at h44
                refine AW_condT rfl ?_
                refine AW_seq ?_
                refine AW_region ?_
                refine AL_p (x_field (off := 3) (o' := 3) rfl rfl rfl (by kernel_rfl) rfl) ?_
                refine AL_p (x_load1 rfl rfl rfl (by kernel_rfl) rfl) ?_
                refine AL_b (x_eql rfl rfl rfl) (fun b47 h47 => ?_)
                refine AL_p (x_move rfl rfl) ?_
                cases b47
                rotate_left
                · try simp only [decide_eq_true_eq, decide_eq_false_iff_not, Bool.not_eq_true, Bool.not_eq_false, Bool.not_eq_true', Bool.not_eq_false', beq_iff_eq, bne_iff_ne, beq_eq_false_iff_ne, bne_eq_false_iff_eq, Int.not_lt, Int.not_le, ge_iff_le, gt_iff_lt] at h47
                  refine AL_g rfl rfl (x_move rfl rfl) ?_
                  refine AL_p (x_pickT rfl rfl rfl) ?_
                  refine AL_p (x_move rfl rfl) ?_
                  refine AL_o rfl rfl rfl rfl ?_
                  refine AL_p (x_pickF rfl rfl rfl) ?_
                  refine AL_p (x_assign rfl rfl) ?_
                  refine AL_nil ?_
                  refine AW_ret (BQ_ret ?_)
                  exact ⟨rn [], ⟨⟨⟨_, rfl, vle_bool (by grind [msgB, noAddB, noNoteB, upToB, entryB])⟩, trivial⟩, trivial, trivial, rfl⟩⟩
                · try simp only [decide_eq_true_eq, decide_eq_false_iff_not, Bool.not_eq_true, Bool.not_eq_false, Bool.not_eq_true', Bool.not_eq_false', beq_iff_eq, bne_iff_ne, beq_eq_false_iff_ne, bne_eq_false_iff_eq, Int.not_lt, Int.not_le, ge_iff_le, gt_iff_lt] at h47
                  refine AL_o rfl rfl rfl rfl ?_
                  refine AL_p (x_pickF rfl rfl rfl) ?_
                  refine AL_p (x_move rfl rfl) ?_
                  refine AL_o rfl rfl rfl rfl ?_
                  refine AL_p (x_pickF rfl rfl rfl) ?_
                  refine AL_p (x_assign rfl rfl) ?_
                  refine AL_nil ?_
                  refine AW_ret (BQ_ret ?_)
                  exact ⟨rn [], ⟨⟨⟨_, rfl, vle_bool (by grind [msgB, noAddB, noNoteB, upToB, entryB])⟩, trivial⟩, trivial, trivial, rfl⟩⟩
              · try simp only [decide_eq_true_eq, decide_eq_false_iff_not, Bool.not_eq_true, Bool.not_eq_false, Bool.not_eq_true', Bool.not_eq_false', beq_iff_eq, bne_iff_ne, beq_eq_false_iff_ne, bne_eq_false_iff_eq, Int.not_lt, Int.not_le, ge_iff_le, gt_iff_lt] at h44
                refine AW_condF rfl ?_
                refine AW_seq ?_
                refine AW_region ?_
                refine AL_b (x_eql rfl rfl rfl) (fun b55 h55 => ?_)
                refine AL_p (x_assign rfl rfl) ?_
                refine AL_nil ?_
                cases b55
                rotate_left
                · try simp only [decide_eq_true_eq, decide_eq_false_iff_not, Bool.not_eq_true, Bool.not_eq_false, Bool.not_eq_true', Bool.not_eq_false', beq_iff_eq, bne_iff_ne, beq_eq_false_iff_ne, bne_eq_false_iff_eq, Int.not_lt, Int.not_le, ge_iff_le, gt_iff_lt] at h55
                  refine AW_condT rfl ?_
                  refine AW_seq ?_
                  refine AW_region ?_
                  refine AL_p (x_field (off := 3) (o' := 3) rfl rfl rfl (by kernel_rfl) rfl) ?_
                  refine AL_p (x_load1 rfl rfl rfl (by kernel_rfl) rfl) ?_
                  refine AL_p (x_field (off := 4) (o' := 4) rfl rfl rfl (by kernel_rfl) rfl) ?_
                  refine AL_p (x_load1 rfl rfl rfl (by kernel_rfl) rfl) ?_
                  refine AL_p (x_field (off := 5) (o' := 5) rfl rfl rfl (by kernel_rfl) rfl) ?_
                  refine AL_p (x_loadN (n := 2) rfl rfl rfl (by kernel_rfl) rfl rfl) ?_
                  refine AL_p (x_field (off := 7) (o' := 7) rfl rfl rfl (by kernel_rfl) rfl) ?_
                  refine AL_p (x_load1 rfl rfl rfl (by kernel_rfl) rfl) ?_
                  refine AL_p (x_build (zs := [.int .i64 0, .int .i64 0, .slice none 0 0, .slice none 0 0, .slice none 0 0, .int .i64 0]) (places := [(0, 1), (1, 1), (2, 2), (4, 1), (5, 1)]) rfl (by kernel_rfl) rfl rfl rfl rfl rfl) ?_
                  refine AL_b (x_call0 rfl rfl rfl (entryI_c _ _ 0 m.mat m.acts) rfl rfl) (fun b65 h65 => ?_)
                  refine AL_p (x_move rfl rfl) ?_
                  cases b65
                  rotate_left
                  · try simp only [decide_eq_true_eq, decide_eq_false_iff_not, Bool.not_eq_true, Bool.not_eq_false, Bool.not_eq_true', Bool.not_eq_false', beq_iff_eq, bne_iff_ne, beq_eq_false_iff_ne, bne_eq_false_iff_eq, Int.not_lt, Int.not_le, ge_iff_le, gt_iff_lt] at h65
                    refine AL_g rfl rfl (x_move rfl rfl) ?_
                    refine AL_p (x_pickT rfl rfl rfl) ?_
                    refine AL_p (x_assign rfl rfl) ?_
                    refine AL_nil ?_
                    refine AW_ret (BQ_ret ?_)
                    cases b37
                    rotate_left
                    · try simp only [decide_eq_true_eq, decide_eq_false_iff_not, Bool.not_eq_true, Bool.not_eq_false, Bool.not_eq_true', Bool.not_eq_false', beq_iff_eq, bne_iff_ne, beq_eq_false_iff_ne, bne_eq_false_iff_eq, Int.not_lt, Int.not_le, ge_iff_le, gt_iff_lt] at h37
                      exact ⟨rn [], ⟨⟨⟨_, rfl, vle_bool (by grind [msgB, noAddB, noNoteB, upToB, entryB])⟩, trivial⟩, trivial, trivial, rfl⟩⟩
                    · try simp only [decide_eq_true_eq, decide_eq_false_iff_not, Bool.not_eq_true, Bool.not_eq_false, Bool.not_eq_true', Bool.not_eq_false', beq_iff_eq, bne_iff_ne, beq_eq_false_iff_ne, bne_eq_false_iff_eq, Int.not_lt, Int.not_le, ge_iff_le, gt_iff_lt] at h37
                      exact ⟨rn [], ⟨⟨⟨_, rfl, vle_bool (by grind [msgB, noAddB, noNoteB, upToB, entryB])⟩, trivial⟩, trivial, trivial, rfl⟩⟩
                  · try simp only [decide_eq_true_eq, decide_eq_false_iff_not, Bool.not_eq_true, Bool.not_eq_false, Bool.not_eq_true', Bool.not_eq_false', beq_iff_eq, bne_iff_ne, beq_eq_false_iff_ne, bne_eq_false_iff_eq, Int.not_lt, Int.not_le, ge_iff_le, gt_iff_lt] at h65
                    refine AL_o rfl rfl rfl rfl ?_
                    refine AL_p (x_pickF rfl rfl rfl) ?_
                    refine AL_p (x_assign rfl rfl) ?_
                    refine AL_nil ?_
                    refine AW_ret (BQ_ret ?_)
                    exact ⟨rn [], ⟨⟨⟨_, rfl, vle_bool (by grind [msgB, noAddB, noNoteB, upToB, entryB])⟩, trivial⟩, trivial, trivial, rfl⟩⟩
                · try simp only [decide_eq_true_eq, decide_eq_false_iff_not, Bool.not_eq_true, Bool.not_eq_false, Bool.not_eq_true', Bool.not_eq_false', beq_iff_eq, bne_iff_ne, beq_eq_false_iff_ne, bne_eq_false_iff_eq, Int.not_lt, Int.not_le, ge_iff_le, gt_iff_lt] at h55
                  refine AW_condF rfl ?_
                  refine AW_seq ?_
                  refine AW_region ?_
                  refine AL_b (x_eql rfl rfl rfl) (fun b70 h70 => ?_)
                  refine AL_p (x_assign rfl rfl) ?_
                  refine AL_nil ?_
                  cases b70
                  rotate_left
                  · try simp only [decide_eq_true_eq, decide_eq_false_iff_not, Bool.not_eq_true, Bool.not_eq_false, Bool.not_eq_true', Bool.not_eq_false', beq_iff_eq, bne_iff_ne, beq_eq_false_iff_ne, bne_eq_false_iff_eq, Int.not_lt, Int.not_le, ge_iff_le, gt_iff_lt] at h70
                    refine AW_condT rfl ?_
                    refine AW_seq ?_
                    refine AW_region ?_
                    refine AL_p (x_field (off := 3) (o' := 3) rfl rfl rfl (by kernel_rfl) rfl) ?_
                    refine AL_p (x_load1 rfl rfl rfl (by kernel_rfl) rfl) ?_
                    refine AL_b (x_call0 rfl rfl rfl (upToI_c _ _) rfl rfl) (fun b73 h73 => ?_)
                    refine AL_p (x_move rfl rfl) ?_
                    cases b73
                    rotate_left
                    · try simp only [decide_eq_true_eq, decide_eq_false_iff_not, Bool.not_eq_true, Bool.not_eq_false, Bool.not_eq_true', Bool.not_eq_false', beq_iff_eq, bne_iff_ne, beq_eq_false_iff_ne, bne_eq_false_iff_eq, Int.not_lt, Int.not_le, ge_iff_le, gt_iff_lt] at h73
                      refine AL_g rfl rfl (x_move rfl rfl) ?_
                      refine AL_p (x_pickT rfl rfl rfl) ?_
                      refine AL_p (x_move rfl rfl) ?_
                      refine AL_o rfl rfl rfl rfl ?_
                      refine AL_p (x_pickF rfl rfl rfl) ?_
                      refine AL_p (x_assign rfl rfl) ?_
                      refine AL_nil ?_
                      refine AW_ret (BQ_ret ?_)
                      exact ⟨rn [], ⟨⟨⟨_, rfl, vle_bool (by grind [msgB, noAddB, noNoteB, upToB, entryB])⟩, trivial⟩, trivial, trivial, rfl⟩⟩
                    · try simp only [decide_eq_true_eq, decide_eq_false_iff_not, Bool.not_eq_true, Bool.not_eq_false, Bool.not_eq_true', Bool.not_eq_false', beq_iff_eq, bne_iff_ne, beq_eq_false_iff_ne, bne_eq_false_iff_eq, Int.not_lt, Int.not_le, ge_iff_le, gt_iff_lt] at h73
                      refine AL_o rfl rfl rfl rfl ?_
                      refine AL_p (x_pickF rfl rfl rfl) ?_
                      refine AL_p (x_move rfl rfl) ?_
                      refine AL_o rfl rfl rfl rfl ?_
                      refine AL_p (x_pickF rfl rfl rfl) ?_
                      refine AL_p (x_assign rfl rfl) ?_
                      refine AL_nil ?_
                      refine AW_ret (BQ_ret ?_)
                      exact ⟨rn [], ⟨⟨⟨_, rfl, vle_bool (by grind [msgB, noAddB, noNoteB, upToB, entryB])⟩, trivial⟩, trivial, trivial, rfl⟩⟩
                  · try simp only [decide_eq_true_eq, decide_eq_false_iff_not, Bool.not_eq_true, Bool.not_eq_false, Bool.not_eq_true', Bool.not_eq_false', beq_iff_eq, bne_iff_ne, beq_eq_false_iff_ne, bne_eq_false_iff_eq, Int.not_lt, Int.not_le, ge_iff_le, gt_iff_lt] at h70
                    refine AW_condF rfl ?_
                    refine AW_seq ?_
                    refine AW_region ?_
                    refine AL_b (x_eql rfl rfl rfl) (fun b81 h81 => ?_)
                    refine AL_p (x_assign rfl rfl) ?_
                    refine AL_nil ?_
                    cases b81
                    rotate_left
                    · try simp only [decide_eq_true_eq, decide_eq_false_iff_not, Bool.not_eq_true, Bool.not_eq_false, Bool.not_eq_true', Bool.not_eq_false', beq_iff_eq, bne_iff_ne, beq_eq_false_iff_ne, bne_eq_false_iff_eq, Int.not_lt, Int.not_le, ge_iff_le, gt_iff_lt] at h81
                      refine AW_condT rfl ?_
                      refine AW_seq ?_
                      refine AW_region ?_
                      refine AL_p (x_field (off := 3) (o' := 3) rfl rfl rfl (by kernel_rfl) rfl) ?_
                      refine AL_p (x_load1 rfl rfl rfl (by kernel_rfl) rfl) ?_
                      refine AL_b (x_eql rfl rfl rfl) (fun b84 h84 => ?_)
                      refine AL_p (x_move rfl rfl) ?_
                      cases b84
                      rotate_left
                      · try simp only [decide_eq_true_eq, decide_eq_false_iff_not, Bool.not_eq_true, Bool.not_eq_false, Bool.not_eq_true', Bool.not_eq_false', beq_iff_eq, bne_iff_ne, beq_eq_false_iff_ne, bne_eq_false_iff_eq, Int.not_lt, Int.not_le, ge_iff_le, gt_iff_lt] at h84
                        refine AL_g rfl rfl (x_move rfl rfl) ?_
                        refine AL_p (x_pickT rfl rfl rfl) ?_
                        refine AL_p (x_move rfl rfl) ?_
                        refine AL_o rfl rfl rfl rfl ?_
                        refine AL_o rfl rfl rfl rfl ?_
                        refine AL_o rfl rfl rfl rfl ?_
                        refine AL_p (x_pickF rfl rfl rfl) ?_
                        refine AL_p (x_assign rfl rfl) ?_
                        refine AL_nil ?_
                        refine AW_ret (BQ_ret ?_)
                        exact ⟨rn [], ⟨⟨⟨_, rfl, vle_bool (by grind [msgB, noAddB, noNoteB, upToB, entryB])⟩, trivial⟩, trivial, trivial, rfl⟩⟩
                      · try simp only [decide_eq_true_eq, decide_eq_false_iff_not, Bool.not_eq_true, Bool.not_eq_false, Bool.not_eq_true', Bool.not_eq_false', beq_iff_eq, bne_iff_ne, beq_eq_false_iff_ne, bne_eq_false_iff_eq, Int.not_lt, Int.not_le, ge_iff_le, gt_iff_lt] at h84
                        refine AL_o rfl rfl rfl rfl ?_
                        refine AL_p (x_pickF rfl rfl rfl) ?_
                        refine AL_p (x_move rfl rfl) ?_
                        refine AL_o rfl rfl rfl rfl ?_
                        refine AL_o rfl rfl rfl rfl ?_
                        refine AL_o rfl rfl rfl rfl ?_
                        refine AL_p (x_pickF rfl rfl rfl) ?_
                        refine AL_p (x_assign rfl rfl) ?_
                        refine AL_nil ?_
                        refine AW_ret (BQ_ret ?_)
                        exact ⟨rn [], ⟨⟨⟨_, rfl, vle_bool (by grind [msgB, noAddB, noNoteB, upToB, entryB])⟩, trivial⟩, trivial, trivial, rfl⟩⟩
                    · try simp only [decide_eq_true_eq, decide_eq_false_iff_not, Bool.not_eq_true, Bool.not_eq_false, Bool.not_eq_true', Bool.not_eq_false', beq_iff_eq, bne_iff_ne, beq_eq_false_iff_ne, bne_eq_false_iff_eq, Int.not_lt, Int.not_le, ge_iff_le, gt_iff_lt] at h81
                      refine AW_condF rfl ?_
                      refine AW_skip ?_
                      refine AW_seq ?_
                      refine AW_region ?_
                      refine AL_p (x_assign rfl rfl) ?_
                      refine AL_nil ?_
                      refine AW_ret ?_
                      exact ⟨rn [], ⟨⟨⟨_, rfl, vle_bool (by grind [msgB, noAddB, noNoteB, upToB, entryB])⟩, trivial⟩, trivial, trivial, rfl⟩⟩
    · try simp only [decide_eq_true_eq, decide_eq_false_iff_not, Bool.not_eq_true, Bool.not_eq_false, Bool.not_eq_true', Bool.not_eq_false', beq_iff_eq, bne_iff_ne, beq_eq_false_iff_ne, bne_eq_false_iff_eq, Int.not_lt, Int.not_le, ge_iff_le, gt_iff_lt] at h12
      refine AW_condT rfl ?_
      refine AW_seq ?_
      refine AW_region ?_
      refine AL_p (x_assign rfl rfl) ?_
      refine AL_nil ?_
      refine AW_ret ?_
      exact ⟨rn [], ⟨⟨⟨_, rfl, vle_bool (by grind [msgB, noAddB, noNoteB, upToB, entryB])⟩, trivial⟩, trivial, trivial, rfl⟩⟩
  · try simp only [decide_eq_true_eq, decide_eq_false_iff_not, Bool.not_eq_true, Bool.not_eq_false, Bool.not_eq_true', Bool.not_eq_false', beq_iff_eq, bne_iff_ne, beq_eq_false_iff_ne, bne_eq_false_iff_eq, Int.not_lt, Int.not_le, ge_iff_le, gt_iff_lt] at h7
    refine AL_o rfl rfl rfl rfl ?_
    refine AL_o rfl rfl rfl rfl ?_
    refine AL_o rfl rfl rfl rfl ?_
    refine AL_o rfl rfl rfl rfl ?_
    refine AL_p (x_pickT rfl rfl rfl) ?_
    refine AL_nil ?_
    refine AW_condT rfl ?_
    refine AW_seq ?_
    refine AW_region ?_
    refine AL_p (x_assign rfl rfl) ?_
    refine AL_nil ?_
    refine AW_ret ?_
    exact ⟨rn [], ⟨⟨⟨_, rfl, vle_bool (by grind [msgB, noAddB, noNoteB, upToB, entryB])⟩, trivial⟩, trivial, trivial, rfl⟩⟩
end Go.Proofs.Ytfdpigafekohgaa

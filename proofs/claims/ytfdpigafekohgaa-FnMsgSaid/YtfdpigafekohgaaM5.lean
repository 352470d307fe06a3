/- Lemmas of the walks, part 5. -/
import Derived.Test.YtfdpigafekohgaaM4
/- Messages that are well formed (printed by walk.py) -/
namespace Go.Proofs.Ytfdpigafekohgaa
open Go.RowKit
set_option linter.unusedVariables false
set_option linter.unusedSimpArgs false
set_option maxRecDepth 100000

set_option maxHeartbeats 4000000 in
theorem msgI_c (m : Msgt) : AC Try.prog 25 [.agg (msgC m)] [] (.one (.c (.bool (msgB m)))) [] := by
  refine AC_body1 Try.func25 rfl rfl Try.ntmps25 rfl Try.results25 ?_
  refine AW_aggmax 0 5 rfl rfl (fun hm0_5 => ?_)
  refine AW_aggmax 0 6 rfl rfl (fun hm0_6 => ?_)
  refine AW_aggmax 0 7 rfl rfl (fun hm0_7 => ?_)
  refine AW_aggmax 0 9 rfl rfl (fun hm0_9 => ?_)
  refine AW_seq ?_
  refine AW_region ?_
  refine AL_p (x_box 100 rfl rfl rfl rfl rfl rfl rfl) ?_
  refine AL_p (x_assign rfl rfl) ?_
  refine AL_nil ?_
  refine AW_seq ?_
  refine AW_seq ?_
  refine AW_region ?_
  refine AL_p (x_field (off := 1) (o' := 1) rfl rfl rfl (by kernel_rfl) rfl) ?_
  refine AL_p (x_load1 rfl rfl rfl (by kernel_rfl) rfl) ?_
  refine AL_b (x_call0 rfl rfl rfl (upToI_c _ _) rfl rfl) (fun b7 h7 => ?_)
  refine AL_p (x_not rfl rfl) ?_
  refine AL_p (x_move rfl rfl) ?_
  cases b7
  · try simp only [tdy] at h7
    refine AL_o rfl rfl rfl rfl ?_
    refine AL_o rfl rfl rfl rfl ?_
    refine AL_o rfl rfl rfl rfl ?_
    refine AL_o rfl rfl rfl rfl ?_
    refine AL_p (x_pickT rfl rfl rfl) ?_
    refine AL_nil ?_
    refine AW_condT rfl ?_
    refine AW_seq ?_
    refine AW_region ?_
    refine AL_p (x_assign rfl rfl) ?_
    refine AL_nil ?_
    refine AW_ret ?_
    exact ⟨rn [], ⟨⟨⟨_, rfl, vle_bool (by grind [msgB, noAddB, noNoteB, upToB, entryB])⟩, trivial⟩, trivial, trivial, rfl⟩⟩
  try simp only [tdy] at h7
  refine AL_g rfl rfl (x_field (off := 2) (o' := 2) rfl rfl rfl (by kernel_rfl) rfl) ?_
  refine AL_g rfl rfl (x_load1 rfl rfl rfl (by kernel_rfl) rfl) ?_
  refine AL_gb rfl rfl (x_call0 rfl rfl rfl (upToI_c _ _) rfl rfl) (fun b12 h12 => ?_)
  refine AL_g rfl rfl (x_not rfl rfl) ?_
  refine AL_p (x_pickF rfl rfl rfl) ?_
  refine AL_nil ?_
  cases b12
  · try simp only [tdy] at h12
    refine AW_condT rfl ?_
    refine AW_seq ?_
    refine AW_region ?_
    refine AL_p (x_assign rfl rfl) ?_
    refine AL_nil ?_
    refine AW_ret ?_
    exact ⟨rn [], ⟨⟨⟨_, rfl, vle_bool (by grind [msgB, noAddB, noNoteB, upToB, entryB])⟩, trivial⟩, trivial, trivial, rfl⟩⟩
  try simp only [tdy] at h12
  refine AW_condF rfl ?_
  refine AW_skip ?_
  refine AW_seq ?_
  refine AW_region ?_
  refine AL_p (x_field (off := 4) (o' := 4) rfl rfl rfl (by kernel_rfl) rfl) ?_
  refine AL_p (x_load1 rfl rfl rfl (by kernel_rfl) rfl) ?_
  refine AL_b (x_eql rfl rfl rfl) (fun b17 h17 => ?_)
  refine AL_p (x_move rfl rfl) ?_
  cases b17
  · try simp only [tdy] at h17
    refine AL_o rfl rfl rfl rfl ?_
    refine AL_o rfl rfl rfl rfl ?_
    refine AL_o rfl rfl rfl rfl ?_
    refine AL_p (x_pickF rfl rfl rfl) ?_
    refine AL_p (x_move rfl rfl) ?_
    refine AL_o rfl rfl rfl rfl ?_
    refine AL_o rfl rfl rfl rfl ?_
    refine AL_o rfl rfl rfl rfl ?_
    refine AL_o rfl rfl rfl rfl ?_
    refine AL_p (x_pickF rfl rfl rfl) ?_
    refine AL_p (x_assign rfl rfl) ?_
    refine AL_nil ?_
    refine AW_seq ?_
    refine AW_region ?_
    refine AL_p (x_field (off := 8) (o' := 8) rfl rfl rfl (by kernel_rfl) rfl) ?_
    refine AL_b (x_load1 rfl rfl rfl (by kernel_rfl) rfl) (fun b30 h30 => ?_)
    refine AL_p (x_not rfl rfl) ?_
    refine AL_p (x_move rfl rfl) ?_
    cases b30
    rotate_left
    · try simp only [tdy] at h30
      refine AL_o rfl rfl rfl rfl ?_
      refine AL_o rfl rfl rfl rfl ?_
      refine AL_o rfl rfl rfl rfl ?_
      refine AL_o rfl rfl rfl rfl ?_
      refine AL_o rfl rfl rfl rfl ?_
      refine AL_p (x_pickF rfl rfl rfl) ?_
      refine AL_p (x_assign rfl rfl) ?_
      refine AL_nil ?_
      refine AW_seq ?_
      refine AW_seq ?_
      refine AW_region ?_
      refine AL_p (x_field (off := 0) (o' := 0) rfl rfl rfl (by kernel_rfl) rfl) ?_
      refine AL_p (x_load1 rfl rfl rfl (by kernel_rfl) rfl) ?_
      refine AL_nil ?_
      refine AW_block ?_
      refine AW_seq ?_
      refine AW_seq ?_
      refine AW_region ?_
      refine AL_b (x_eql rfl rfl rfl) (fun b42 h42 => ?_)
      refine AL_p (x_assign rfl rfl) ?_
      refine AL_nil ?_
      cases b42
      rotate_left
      · try simp only [tdy] at h42
        refine AW_condT rfl ?_
        refine AW_skip ?_
        refine AW_condT rfl ?_
        refine AW_seq ?_
        refine AW_region ?_
        refine AL_p (x_field (off := 3) (o' := 3) rfl rfl rfl (by kernel_rfl) rfl) ?_
        refine AL_p (x_load1 rfl rfl rfl (by kernel_rfl) rfl) ?_
        refine AL_b (x_eql rfl rfl rfl) (fun b47 h47 => ?_)
        refine AL_p (x_move rfl rfl) ?_
        cases b47
        rotate_left
        · try simp only [tdy] at h47
          refine AL_g rfl rfl (x_move rfl rfl) ?_
          refine AL_p (x_pickT rfl rfl rfl) ?_
          refine AL_p (x_move rfl rfl) ?_
          refine AL_o rfl rfl rfl rfl ?_
          refine AL_p (x_pickF rfl rfl rfl) ?_
          refine AL_p (x_assign rfl rfl) ?_
          refine AL_nil ?_
          refine AW_ret (BQ_ret ?_)
          exact ⟨rn [], ⟨⟨⟨_, rfl, vle_bool (by grind [msgB, noAddB, noNoteB, upToB, entryB])⟩, trivial⟩, trivial, trivial, rfl⟩⟩
        try simp only [tdy] at h47
        refine AL_o rfl rfl rfl rfl ?_
        refine AL_p (x_pickF rfl rfl rfl) ?_
        refine AL_p (x_move rfl rfl) ?_
        refine AL_o rfl rfl rfl rfl ?_
        refine AL_p (x_pickF rfl rfl rfl) ?_
        refine AL_p (x_assign rfl rfl) ?_
        refine AL_nil ?_
        refine AW_ret (BQ_ret ?_)
        exact ⟨rn [], ⟨⟨⟨_, rfl, vle_bool (by grind [msgB, noAddB, noNoteB, upToB, entryB])⟩, trivial⟩, trivial, trivial, rfl⟩⟩
      try simp only [tdy] at h42
      refine AW_condF rfl ?_
      refine AW_seq ?_
      refine AW_region ?_
      refine AL_b (x_eql rfl rfl rfl) (fun b43 h43 => ?_)
      refine AL_p (x_assign rfl rfl) ?_
      refine AL_nil ?_
      cases b43
      rotate_left
      · try simp only [tdy] at h43
        refine AW_condT rfl ?_
        refine AW_skip ?_
        refine AW_condT rfl ?_
        refine AW_seq ?_
        refine AW_region ?_
        refine AL_p (x_field (off := 3) (o' := 3) rfl rfl rfl (by kernel_rfl) rfl) ?_
        refine AL_p (x_load1 rfl rfl rfl (by kernel_rfl) rfl) ?_
        refine AL_b (x_eql rfl rfl rfl) (fun b47 h47 => ?_)
        refine AL_p (x_move rfl rfl) ?_
        cases b47
        rotate_left
        · try simp only [tdy] at h47
          refine AL_g rfl rfl (x_move rfl rfl) ?_
          refine AL_p (x_pickT rfl rfl rfl) ?_
          refine AL_p (x_move rfl rfl) ?_
          refine AL_o rfl rfl rfl rfl ?_
          refine AL_p (x_pickF rfl rfl rfl) ?_
          refine AL_p (x_assign rfl rfl) ?_
          refine AL_nil ?_
          refine AW_ret (BQ_ret ?_)
          exact ⟨rn [], ⟨⟨⟨_, rfl, vle_bool (by grind [msgB, noAddB, noNoteB, upToB, entryB])⟩, trivial⟩, trivial, trivial, rfl⟩⟩
        try simp only [tdy] at h47
        refine AL_o rfl rfl rfl rfl ?_
        refine AL_p (x_pickF rfl rfl rfl) ?_
        refine AL_p (x_move rfl rfl) ?_
        refine AL_o rfl rfl rfl rfl ?_
        refine AL_p (x_pickF rfl rfl rfl) ?_
        refine AL_p (x_assign rfl rfl) ?_
        refine AL_nil ?_
        refine AW_ret (BQ_ret ?_)
        exact ⟨rn [], ⟨⟨⟨_, rfl, vle_bool (by grind [msgB, noAddB, noNoteB, upToB, entryB])⟩, trivial⟩, trivial, trivial, rfl⟩⟩
      try simp only [tdy] at h43
      refine AW_condF rfl ?_
      refine AW_region ?_
      refine AL_b (x_eql rfl rfl rfl) (fun b44 h44 => ?_)
      refine AL_p (x_assign rfl rfl) ?_
      refine AL_nil ?_
      cases b44
      rotate_left
      · try simp only [tdy] at h44
        refine AW_condT rfl ?_
        refine AW_seq ?_
        refine AW_region ?_
        refine AL_p (x_field (off := 3) (o' := 3) rfl rfl rfl (by kernel_rfl) rfl) ?_
        refine AL_p (x_load1 rfl rfl rfl (by kernel_rfl) rfl) ?_
        refine AL_b (x_eql rfl rfl rfl) (fun b47 h47 => ?_)
        refine AL_p (x_move rfl rfl) ?_
        cases b47
        rotate_left
        · try simp only [tdy] at h47
          refine AL_g rfl rfl (x_move rfl rfl) ?_
          refine AL_p (x_pickT rfl rfl rfl) ?_
          refine AL_p (x_move rfl rfl) ?_
          refine AL_o rfl rfl rfl rfl ?_
          refine AL_p (x_pickF rfl rfl rfl) ?_
          refine AL_p (x_assign rfl rfl) ?_
          refine AL_nil ?_
          refine AW_ret (BQ_ret ?_)
          exact ⟨rn [], ⟨⟨⟨_, rfl, vle_bool (by grind [msgB, noAddB, noNoteB, upToB, entryB])⟩, trivial⟩, trivial, trivial, rfl⟩⟩
        try simp only [tdy] at h47
        refine AL_o rfl rfl rfl rfl ?_
        refine AL_p (x_pickF rfl rfl rfl) ?_
        refine AL_p (x_move rfl rfl) ?_
        refine AL_o rfl rfl rfl rfl ?_
        refine AL_p (x_pickF rfl rfl rfl) ?_
        refine AL_p (x_assign rfl rfl) ?_
        refine AL_nil ?_
        refine AW_ret (BQ_ret ?_)
        exact ⟨rn [], ⟨⟨⟨_, rfl, vle_bool (by grind [msgB, noAddB, noNoteB, upToB, entryB])⟩, trivial⟩, trivial, trivial, rfl⟩⟩
      try simp only [tdy] at h44
      refine AW_condF rfl ?_
      refine AW_seq ?_
      refine AW_region ?_
      refine AL_b (x_eql rfl rfl rfl) (fun b55 h55 => ?_)
      refine AL_p (x_assign rfl rfl) ?_
      refine AL_nil ?_
      cases b55
      rotate_left
      · try simp only [tdy] at h55
        refine AW_condT rfl ?_
        refine AW_seq ?_
        refine AW_region ?_
        refine AL_p (x_field (off := 3) (o' := 3) rfl rfl rfl (by kernel_rfl) rfl) ?_
        refine AL_p (x_load1 rfl rfl rfl (by kernel_rfl) rfl) ?_
        refine AL_p (x_field (off := 4) (o' := 4) rfl rfl rfl (by kernel_rfl) rfl) ?_
        refine AL_p (x_load1 rfl rfl rfl (by kernel_rfl) rfl) ?_
        refine AL_p (x_field (off := 5) (o' := 5) rfl rfl rfl (by kernel_rfl) rfl) ?_
        refine AL_p (x_loadN (n := 2) rfl rfl rfl (by kernel_rfl) rfl rfl) ?_
        refine AL_p (x_field (off := 7) (o' := 7) rfl rfl rfl (by kernel_rfl) rfl) ?_
        refine AL_p (x_load1 rfl rfl rfl (by kernel_rfl) rfl) ?_
        refine AL_p (x_build (zs := [.int .i64 0, .int .i64 0, .slice none 0 0, .slice none 0 0, .slice none 0 0, .int .i64 0]) (places := [(0, 1), (1, 1), (2, 2), (4, 1), (5, 1)]) rfl (by kernel_rfl) rfl rfl rfl rfl rfl) ?_
        refine AL_b (x_call0 rfl rfl rfl (entryI_c _ _ 0 m.mat m.acts) rfl rfl) (fun b65 h65 => ?_)
        refine AL_p (x_move rfl rfl) ?_
        cases b65
        rotate_left
        · try simp only [tdy] at h65
          refine AL_g rfl rfl (x_move rfl rfl) ?_
          refine AL_p (x_pickT rfl rfl rfl) ?_
          refine AL_p (x_assign rfl rfl) ?_
          refine AL_nil ?_
          refine AW_ret (BQ_ret ?_)
          exact ⟨rn [], ⟨⟨⟨_, rfl, vle_bool (by grind [msgB, noAddB, noNoteB, upToB, entryB])⟩, trivial⟩, trivial, trivial, rfl⟩⟩
        try simp only [tdy] at h65
        refine AL_o rfl rfl rfl rfl ?_
        refine AL_p (x_pickF rfl rfl rfl) ?_
        refine AL_p (x_assign rfl rfl) ?_
        refine AL_nil ?_
        refine AW_ret (BQ_ret ?_)
        exact ⟨rn [], ⟨⟨⟨_, rfl, vle_bool (by grind [msgB, noAddB, noNoteB, upToB, entryB])⟩, trivial⟩, trivial, trivial, rfl⟩⟩
      try simp only [tdy] at h55
      refine AW_condF rfl ?_
      refine AW_seq ?_
      refine AW_region ?_
      refine AL_b (x_eql rfl rfl rfl) (fun b70 h70 => ?_)
      refine AL_p (x_assign rfl rfl) ?_
      refine AL_nil ?_
      cases b70
      rotate_left
      · try simp only [tdy] at h70
        refine AW_condT rfl ?_
        refine AW_seq ?_
        refine AW_region ?_
        refine AL_p (x_field (off := 3) (o' := 3) rfl rfl rfl (by kernel_rfl) rfl) ?_
        refine AL_p (x_load1 rfl rfl rfl (by kernel_rfl) rfl) ?_
        refine AL_b (x_call0 rfl rfl rfl (upToI_c _ _) rfl rfl) (fun b73 h73 => ?_)
        refine AL_p (x_move rfl rfl) ?_
        cases b73
        rotate_left
        · try simp only [tdy] at h73
          refine AL_g rfl rfl (x_move rfl rfl) ?_
          refine AL_p (x_pickT rfl rfl rfl) ?_
          refine AL_p (x_move rfl rfl) ?_
          refine AL_o rfl rfl rfl rfl ?_
          refine AL_p (x_pickF rfl rfl rfl) ?_
          refine AL_p (x_assign rfl rfl) ?_
          refine AL_nil ?_
          refine AW_ret (BQ_ret ?_)
          exact ⟨rn [], ⟨⟨⟨_, rfl, vle_bool (by grind [msgB, noAddB, noNoteB, upToB, entryB])⟩, trivial⟩, trivial, trivial, rfl⟩⟩
        try simp only [tdy] at h73
        refine AL_o rfl rfl rfl rfl ?_
        refine AL_p (x_pickF rfl rfl rfl) ?_
        refine AL_p (x_move rfl rfl) ?_
        refine AL_o rfl rfl rfl rfl ?_
        refine AL_p (x_pickF rfl rfl rfl) ?_
        refine AL_p (x_assign rfl rfl) ?_
        refine AL_nil ?_
        refine AW_ret (BQ_ret ?_)
        exact ⟨rn [], ⟨⟨⟨_, rfl, vle_bool (by grind [msgB, noAddB, noNoteB, upToB, entryB])⟩, trivial⟩, trivial, trivial, rfl⟩⟩
      try simp only [tdy] at h70
      refine AW_condF rfl ?_
      refine AW_seq ?_
      refine AW_region ?_
      refine AL_b (x_eql rfl rfl rfl) (fun b81 h81 => ?_)
      refine AL_p (x_assign rfl rfl) ?_
      refine AL_nil ?_
      cases b81
      · try simp only [tdy] at h81
        refine AW_condF rfl ?_
        refine AW_skip ?_
        refine AW_seq ?_
        refine AW_region ?_
        refine AL_p (x_assign rfl rfl) ?_
        refine AL_nil ?_
        refine AW_ret ?_
        exact ⟨rn [], ⟨⟨⟨_, rfl, vle_bool (by grind [msgB, noAddB, noNoteB, upToB, entryB])⟩, trivial⟩, trivial, trivial, rfl⟩⟩
      try simp only [tdy] at h81
      refine AW_condT rfl ?_
      refine AW_seq ?_
      refine AW_region ?_
      refine AL_p (x_field (off := 3) (o' := 3) rfl rfl rfl (by kernel_rfl) rfl) ?_
      refine AL_p (x_load1 rfl rfl rfl (by kernel_rfl) rfl) ?_
      refine AL_b (x_eql rfl rfl rfl) (fun b84 h84 => ?_)
      refine AL_p (x_move rfl rfl) ?_
      cases b84
      rotate_left
      · try simp only [tdy] at h84
        refine AL_g rfl rfl (x_move rfl rfl) ?_
        refine AL_p (x_pickT rfl rfl rfl) ?_
        refine AL_p (x_move rfl rfl) ?_
        refine AL_o rfl rfl rfl rfl ?_
        refine AL_o rfl rfl rfl rfl ?_
        refine AL_o rfl rfl rfl rfl ?_
        refine AL_p (x_pickF rfl rfl rfl) ?_
        refine AL_p (x_assign rfl rfl) ?_
        refine AL_nil ?_
        refine AW_ret (BQ_ret ?_)
        exact ⟨rn [], ⟨⟨⟨_, rfl, vle_bool (by grind [msgB, noAddB, noNoteB, upToB, entryB])⟩, trivial⟩, trivial, trivial, rfl⟩⟩
      try simp only [tdy] at h84
      refine AL_o rfl rfl rfl rfl ?_
      refine AL_p (x_pickF rfl rfl rfl) ?_
      refine AL_p (x_move rfl rfl) ?_
      refine AL_o rfl rfl rfl rfl ?_
      refine AL_o rfl rfl rfl rfl ?_
      refine AL_o rfl rfl rfl rfl ?_
      refine AL_p (x_pickF rfl rfl rfl) ?_
      refine AL_p (x_assign rfl rfl) ?_
      refine AL_nil ?_
      refine AW_ret (BQ_ret ?_)
      exact ⟨rn [], ⟨⟨⟨_, rfl, vle_bool (by grind [msgB, noAddB, noNoteB, upToB, entryB])⟩, trivial⟩, trivial, trivial, rfl⟩⟩
    try simp only [tdy] at h30
    refine AL_g rfl rfl (x_field (off := 9) (o' := 9) rfl rfl rfl (by kernel_rfl) rfl) ?_
    refine AL_g rfl rfl (x_field (off := 0) (o' := 9) rfl rfl rfl (by kernel_rfl) rfl) ?_
    refine AL_g rfl rfl (x_load1 rfl rfl rfl (by kernel_rfl) rfl) ?_
    refine AL_g rfl rfl (x_len (E := 3) (n := 1) rfl rfl (by kernel_rfl)) ?_
    refine AL_gb rfl rfl (x_eql rfl rfl rfl) (fun b37 h37 => ?_)
    refine AL_p (x_pickT rfl rfl rfl) ?_
    refine AL_p (x_assign rfl rfl) ?_
    refine AL_nil ?_
    refine AW_seq ?_
    refine AW_seq ?_
    refine AW_region ?_
    refine AL_p (x_field (off := 0) (o' := 0) rfl rfl rfl (by kernel_rfl) rfl) ?_
    refine AL_p (x_load1 rfl rfl rfl (by kernel_rfl) rfl) ?_
    refine AL_nil ?_
    refine AW_block ?_
    refine AW_seq ?_
    refine AW_seq ?_
    refine AW_region ?_
    refine AL_b (x_eql rfl rfl rfl) (fun b42 h42 => ?_)
    refine AL_p (x_assign rfl rfl) ?_
    refine AL_nil ?_
    cases b42
    rotate_left
    · try simp only [tdy] at h42
      refine AW_condT rfl ?_
      refine AW_skip ?_
      refine AW_condT rfl ?_
      refine AW_seq ?_
      refine AW_region ?_
      refine AL_p (x_field (off := 3) (o' := 3) rfl rfl rfl (by kernel_rfl) rfl) ?_
      refine AL_p (x_load1 rfl rfl rfl (by kernel_rfl) rfl) ?_
      refine AL_b (x_eql rfl rfl rfl) (fun b47 h47 => ?_)
      refine AL_p (x_move rfl rfl) ?_
      cases b47
      rotate_left
      · try simp only [tdy] at h47
        refine AL_g rfl rfl (x_move rfl rfl) ?_
        refine AL_p (x_pickT rfl rfl rfl) ?_
        refine AL_p (x_move rfl rfl) ?_
        refine AL_o rfl rfl rfl rfl ?_
        refine AL_p (x_pickF rfl rfl rfl) ?_
        refine AL_p (x_assign rfl rfl) ?_
        refine AL_nil ?_
        refine AW_ret (BQ_ret ?_)
        exact ⟨rn [], ⟨⟨⟨_, rfl, vle_bool (by grind [msgB, noAddB, noNoteB, upToB, entryB])⟩, trivial⟩, trivial, trivial, rfl⟩⟩
      try simp only [tdy] at h47
      refine AL_o rfl rfl rfl rfl ?_
      refine AL_p (x_pickF rfl rfl rfl) ?_
      refine AL_p (x_move rfl rfl) ?_
      refine AL_o rfl rfl rfl rfl ?_
      refine AL_p (x_pickF rfl rfl rfl) ?_
      refine AL_p (x_assign rfl rfl) ?_
      refine AL_nil ?_
      refine AW_ret (BQ_ret ?_)
      exact ⟨rn [], ⟨⟨⟨_, rfl, vle_bool (by grind [msgB, noAddB, noNoteB, upToB, entryB])⟩, trivial⟩, trivial, trivial, rfl⟩⟩
    try simp only [tdy] at h42
    refine AW_condF rfl ?_
    refine AW_seq ?_
    refine AW_region ?_
    refine AL_b (x_eql rfl rfl rfl) (fun b43 h43 => ?_)
    refine AL_p (x_assign rfl rfl) ?_
    refine AL_nil ?_
    cases b43
    rotate_left
    · try simp only [tdy] at h43
      refine AW_condT rfl ?_
      refine AW_skip ?_
      refine AW_condT rfl ?_
      refine AW_seq ?_
      refine AW_region ?_
      refine AL_p (x_field (off := 3) (o' := 3) rfl rfl rfl (by kernel_rfl) rfl) ?_
      refine AL_p (x_load1 rfl rfl rfl (by kernel_rfl) rfl) ?_
      refine AL_b (x_eql rfl rfl rfl) (fun b47 h47 => ?_)
      refine AL_p (x_move rfl rfl) ?_
      cases b47
      rotate_left
      · try simp only [tdy] at h47
        refine AL_g rfl rfl (x_move rfl rfl) ?_
        refine AL_p (x_pickT rfl rfl rfl) ?_
        refine AL_p (x_move rfl rfl) ?_
        refine AL_o rfl rfl rfl rfl ?_
        refine AL_p (x_pickF rfl rfl rfl) ?_
        refine AL_p (x_assign rfl rfl) ?_
        refine AL_nil ?_
        refine AW_ret (BQ_ret ?_)
        exact ⟨rn [], ⟨⟨⟨_, rfl, vle_bool (by grind [msgB, noAddB, noNoteB, upToB, entryB])⟩, trivial⟩, trivial, trivial, rfl⟩⟩
      try simp only [tdy] at h47
      refine AL_o rfl rfl rfl rfl ?_
      refine AL_p (x_pickF rfl rfl rfl) ?_
      refine AL_p (x_move rfl rfl) ?_
      refine AL_o rfl rfl rfl rfl ?_
      refine AL_p (x_pickF rfl rfl rfl) ?_
      refine AL_p (x_assign rfl rfl) ?_
      refine AL_nil ?_
      refine AW_ret (BQ_ret ?_)
      exact ⟨rn [], ⟨⟨⟨_, rfl, vle_bool (by grind [msgB, noAddB, noNoteB, upToB, entryB])⟩, trivial⟩, trivial, trivial, rfl⟩⟩
    try simp only [tdy] at h43
    refine AW_condF rfl ?_
    refine AW_region ?_
    refine AL_b (x_eql rfl rfl rfl) (fun b44 h44 => ?_)
    refine AL_p (x_assign rfl rfl) ?_
    refine AL_nil ?_
    cases b44
    rotate_left
    · try simp only [tdy] at h44
      refine AW_condT rfl ?_
      refine AW_seq ?_
      refine AW_region ?_
      refine AL_p (x_field (off := 3) (o' := 3) rfl rfl rfl (by kernel_rfl) rfl) ?_
      refine AL_p (x_load1 rfl rfl rfl (by kernel_rfl) rfl) ?_
      refine AL_b (x_eql rfl rfl rfl) (fun b47 h47 => ?_)
      refine AL_p (x_move rfl rfl) ?_
      cases b47
      rotate_left
      · try simp only [tdy] at h47
        refine AL_g rfl rfl (x_move rfl rfl) ?_
        refine AL_p (x_pickT rfl rfl rfl) ?_
        refine AL_p (x_move rfl rfl) ?_
        refine AL_o rfl rfl rfl rfl ?_
        refine AL_p (x_pickF rfl rfl rfl) ?_
        refine AL_p (x_assign rfl rfl) ?_
        refine AL_nil ?_
        refine AW_ret (BQ_ret ?_)
        exact ⟨rn [], ⟨⟨⟨_, rfl, vle_bool (by grind [msgB, noAddB, noNoteB, upToB, entryB])⟩, trivial⟩, trivial, trivial, rfl⟩⟩
      try simp only [tdy] at h47
      refine AL_o rfl rfl rfl rfl ?_
      refine AL_p (x_pickF rfl rfl rfl) ?_
      refine AL_p (x_move rfl rfl) ?_
      refine AL_o rfl rfl rfl rfl ?_
      refine AL_p (x_pickF rfl rfl rfl) ?_
      refine AL_p (x_assign rfl rfl) ?_
      refine AL_nil ?_
      refine AW_ret (BQ_ret ?_)
      exact ⟨rn [], ⟨⟨⟨_, rfl, vle_bool (by grind [msgB, noAddB, noNoteB, upToB, entryB])⟩, trivial⟩, trivial, trivial, rfl⟩⟩
    try simp only [tdy] at h44
    refine AW_condF rfl ?_
    refine AW_seq ?_
    refine AW_region ?_
    refine AL_b (x_eql rfl rfl rfl) (fun b55 h55 => ?_)
    refine AL_p (x_assign rfl rfl) ?_
    refine AL_nil ?_
    cases b55
    rotate_left
    · try simp only [tdy] at h55
      refine AW_condT rfl ?_
      refine AW_seq ?_
      refine AW_region ?_
      refine AL_p (x_field (off := 3) (o' := 3) rfl rfl rfl (by kernel_rfl) rfl) ?_
      refine AL_p (x_load1 rfl rfl rfl (by kernel_rfl) rfl) ?_
      refine AL_p (x_field (off := 4) (o' := 4) rfl rfl rfl (by kernel_rfl) rfl) ?_
      refine AL_p (x_load1 rfl rfl rfl (by kernel_rfl) rfl) ?_
      refine AL_p (x_field (off := 5) (o' := 5) rfl rfl rfl (by kernel_rfl) rfl) ?_
      refine AL_p (x_loadN (n := 2) rfl rfl rfl (by kernel_rfl) rfl rfl) ?_
      refine AL_p (x_field (off := 7) (o' := 7) rfl rfl rfl (by kernel_rfl) rfl) ?_
      refine AL_p (x_load1 rfl rfl rfl (by kernel_rfl) rfl) ?_
      refine AL_p (x_build (zs := [.int .i64 0, .int .i64 0, .slice none 0 0, .slice none 0 0, .slice none 0 0, .int .i64 0]) (places := [(0, 1), (1, 1), (2, 2), (4, 1), (5, 1)]) rfl (by kernel_rfl) rfl rfl rfl rfl rfl) ?_
      refine AL_b (x_call0 rfl rfl rfl (entryI_c _ _ 0 m.mat m.acts) rfl rfl) (fun b65 h65 => ?_)
      refine AL_p (x_move rfl rfl) ?_
      cases b65
      · try simp only [tdy] at h65
        refine AL_o rfl rfl rfl rfl ?_
        refine AL_p (x_pickF rfl rfl rfl) ?_
        refine AL_p (x_assign rfl rfl) ?_
        refine AL_nil ?_
        refine AW_ret (BQ_ret ?_)
        exact ⟨rn [], ⟨⟨⟨_, rfl, vle_bool (by grind [msgB, noAddB, noNoteB, upToB, entryB])⟩, trivial⟩, trivial, trivial, rfl⟩⟩
      try simp only [tdy] at h65
      refine AL_g rfl rfl (x_move rfl rfl) ?_
      refine AL_p (x_pickT rfl rfl rfl) ?_
      refine AL_p (x_assign rfl rfl) ?_
      refine AL_nil ?_
      refine AW_ret (BQ_ret ?_)
      cases b37
      rotate_left
      · try simp only [tdy] at h37
        exact ⟨rn [], ⟨⟨⟨_, rfl, vle_bool (by grind [msgB, noAddB, noNoteB, upToB, entryB])⟩, trivial⟩, trivial, trivial, rfl⟩⟩
      try simp only [tdy] at h37
      exact ⟨rn [], ⟨⟨⟨_, rfl, vle_bool (by grind [msgB, noAddB, noNoteB, upToB, entryB])⟩, trivial⟩, trivial, trivial, rfl⟩⟩
    try simp only [tdy] at h55
    refine AW_condF rfl ?_
    refine AW_seq ?_
    refine AW_region ?_
    refine AL_b (x_eql rfl rfl rfl) (fun b70 h70 => ?_)
    refine AL_p (x_assign rfl rfl) ?_
    refine AL_nil ?_
    cases b70
    rotate_left
    · try simp only [tdy] at h70
      refine AW_condT rfl ?_
      refine AW_seq ?_
      refine AW_region ?_
      refine AL_p (x_field (off := 3) (o' := 3) rfl rfl rfl (by kernel_rfl) rfl) ?_
      refine AL_p (x_load1 rfl rfl rfl (by kernel_rfl) rfl) ?_
      refine AL_b (x_call0 rfl rfl rfl (upToI_c _ _) rfl rfl) (fun b73 h73 => ?_)
      refine AL_p (x_move rfl rfl) ?_
      cases b73
      rotate_left
      · try simp only [tdy] at h73
        refine AL_g rfl rfl (x_move rfl rfl) ?_
        refine AL_p (x_pickT rfl rfl rfl) ?_
        refine AL_p (x_move rfl rfl) ?_
        refine AL_o rfl rfl rfl rfl ?_
        refine AL_p (x_pickF rfl rfl rfl) ?_
        refine AL_p (x_assign rfl rfl) ?_
        refine AL_nil ?_
        refine AW_ret (BQ_ret ?_)
        exact ⟨rn [], ⟨⟨⟨_, rfl, vle_bool (by grind [msgB, noAddB, noNoteB, upToB, entryB])⟩, trivial⟩, trivial, trivial, rfl⟩⟩
      try simp only [tdy] at h73
      refine AL_o rfl rfl rfl rfl ?_
      refine AL_p (x_pickF rfl rfl rfl) ?_
      refine AL_p (x_move rfl rfl) ?_
      refine AL_o rfl rfl rfl rfl ?_
      refine AL_p (x_pickF rfl rfl rfl) ?_
      refine AL_p (x_assign rfl rfl) ?_
      refine AL_nil ?_
      refine AW_ret (BQ_ret ?_)
      exact ⟨rn [], ⟨⟨⟨_, rfl, vle_bool (by grind [msgB, noAddB, noNoteB, upToB, entryB])⟩, trivial⟩, trivial, trivial, rfl⟩⟩
    try simp only [tdy] at h70
    refine AW_condF rfl ?_
    refine AW_seq ?_
    refine AW_region ?_
    refine AL_b (x_eql rfl rfl rfl) (fun b81 h81 => ?_)
    refine AL_p (x_assign rfl rfl) ?_
    refine AL_nil ?_
    cases b81
    · try simp only [tdy] at h81
      refine AW_condF rfl ?_
      refine AW_skip ?_
      refine AW_seq ?_
      refine AW_region ?_
      refine AL_p (x_assign rfl rfl) ?_
      refine AL_nil ?_
      refine AW_ret ?_
      exact ⟨rn [], ⟨⟨⟨_, rfl, vle_bool (by grind [msgB, noAddB, noNoteB, upToB, entryB])⟩, trivial⟩, trivial, trivial, rfl⟩⟩
    try simp only [tdy] at h81
    refine AW_condT rfl ?_
    refine AW_seq ?_
    refine AW_region ?_
    refine AL_p (x_field (off := 3) (o' := 3) rfl rfl rfl (by kernel_rfl) rfl) ?_
    refine AL_p (x_load1 rfl rfl rfl (by kernel_rfl) rfl) ?_
    refine AL_b (x_eql rfl rfl rfl) (fun b84 h84 => ?_)
    refine AL_p (x_move rfl rfl) ?_
    cases b84
    rotate_left
    · try simp only [tdy] at h84
      refine AL_g rfl rfl (x_move rfl rfl) ?_
      refine AL_p (x_pickT rfl rfl rfl) ?_
      refine AL_p (x_move rfl rfl) ?_
      refine AL_o rfl rfl rfl rfl ?_
      refine AL_o rfl rfl rfl rfl ?_
      refine AL_o rfl rfl rfl rfl ?_
      refine AL_p (x_pickF rfl rfl rfl) ?_
      refine AL_p (x_assign rfl rfl) ?_
      refine AL_nil ?_
      refine AW_ret (BQ_ret ?_)
      exact ⟨rn [], ⟨⟨⟨_, rfl, vle_bool (by grind [msgB, noAddB, noNoteB, upToB, entryB])⟩, trivial⟩, trivial, trivial, rfl⟩⟩
    try simp only [tdy] at h84
    refine AL_o rfl rfl rfl rfl ?_
    refine AL_p (x_pickF rfl rfl rfl) ?_
    refine AL_p (x_move rfl rfl) ?_
    refine AL_o rfl rfl rfl rfl ?_
    refine AL_o rfl rfl rfl rfl ?_
    refine AL_o rfl rfl rfl rfl ?_
    refine AL_p (x_pickF rfl rfl rfl) ?_
    refine AL_p (x_assign rfl rfl) ?_
    refine AL_nil ?_
    refine AW_ret (BQ_ret ?_)
    exact ⟨rn [], ⟨⟨⟨_, rfl, vle_bool (by grind [msgB, noAddB, noNoteB, upToB, entryB])⟩, trivial⟩, trivial, trivial, rfl⟩⟩
  try simp only [tdy] at h17
  refine AL_g rfl rfl (x_field (off := 5) (o' := 5) rfl rfl rfl (by kernel_rfl) rfl) ?_
  refine AL_g rfl rfl (x_loadN (n := 2) rfl rfl rfl (by kernel_rfl) rfl rfl) ?_
  refine AL_gb rfl rfl (x_call0 rfl rfl rfl (blank_c m.mat) rfl rfl) (fun b21 h21 => ?_)
  refine AL_p (x_pickT rfl rfl rfl) ?_
  refine AL_p (x_move rfl rfl) ?_
  cases b21
  · try simp only [tdy] at h21
    refine AL_o rfl rfl rfl rfl ?_
    refine AL_o rfl rfl rfl rfl ?_
    refine AL_o rfl rfl rfl rfl ?_
    refine AL_o rfl rfl rfl rfl ?_
    refine AL_p (x_pickF rfl rfl rfl) ?_
    refine AL_p (x_assign rfl rfl) ?_
    refine AL_nil ?_
    refine AW_seq ?_
    refine AW_region ?_
    refine AL_p (x_field (off := 8) (o' := 8) rfl rfl rfl (by kernel_rfl) rfl) ?_
    refine AL_b (x_load1 rfl rfl rfl (by kernel_rfl) rfl) (fun b30 h30 => ?_)
    refine AL_p (x_not rfl rfl) ?_
    refine AL_p (x_move rfl rfl) ?_
    cases b30
    rotate_left
    · try simp only [tdy] at h30
      refine AL_o rfl rfl rfl rfl ?_
      refine AL_o rfl rfl rfl rfl ?_
      refine AL_o rfl rfl rfl rfl ?_
      refine AL_o rfl rfl rfl rfl ?_
      refine AL_o rfl rfl rfl rfl ?_
      refine AL_p (x_pickF rfl rfl rfl) ?_
      refine AL_p (x_assign rfl rfl) ?_
      refine AL_nil ?_
      refine AW_seq ?_
      refine AW_seq ?_
      refine AW_region ?_
      refine AL_p (x_field (off := 0) (o' := 0) rfl rfl rfl (by kernel_rfl) rfl) ?_
      refine AL_p (x_load1 rfl rfl rfl (by kernel_rfl) rfl) ?_
      refine AL_nil ?_
      refine AW_block ?_
      refine AW_seq ?_
      refine AW_seq ?_
      refine AW_region ?_
      refine AL_b (x_eql rfl rfl rfl) (fun b42 h42 => ?_)
      refine AL_p (x_assign rfl rfl) ?_
      refine AL_nil ?_
      cases b42
      rotate_left
      · try simp only [tdy] at h42
        refine AW_condT rfl ?_
        refine AW_skip ?_
        refine AW_condT rfl ?_
        refine AW_seq ?_
        refine AW_region ?_
        refine AL_p (x_field (off := 3) (o' := 3) rfl rfl rfl (by kernel_rfl) rfl) ?_
        refine AL_p (x_load1 rfl rfl rfl (by kernel_rfl) rfl) ?_
        refine AL_b (x_eql rfl rfl rfl) (fun b47 h47 => ?_)
        refine AL_p (x_move rfl rfl) ?_
        cases b47
        rotate_left
        · try simp only [tdy] at h47
          refine AL_g rfl rfl (x_move rfl rfl) ?_
          refine AL_p (x_pickT rfl rfl rfl) ?_
          refine AL_p (x_move rfl rfl) ?_
          refine AL_o rfl rfl rfl rfl ?_
          refine AL_p (x_pickF rfl rfl rfl) ?_
          refine AL_p (x_assign rfl rfl) ?_
          refine AL_nil ?_
          refine AW_ret (BQ_ret ?_)
          exact ⟨rn [], ⟨⟨⟨_, rfl, vle_bool (by grind [msgB, noAddB, noNoteB, upToB, entryB])⟩, trivial⟩, trivial, trivial, rfl⟩⟩
        try simp only [tdy] at h47
        refine AL_o rfl rfl rfl rfl ?_
        refine AL_p (x_pickF rfl rfl rfl) ?_
        refine AL_p (x_move rfl rfl) ?_
        refine AL_o rfl rfl rfl rfl ?_
        refine AL_p (x_pickF rfl rfl rfl) ?_
        refine AL_p (x_assign rfl rfl) ?_
        refine AL_nil ?_
        refine AW_ret (BQ_ret ?_)
        exact ⟨rn [], ⟨⟨⟨_, rfl, vle_bool (by grind [msgB, noAddB, noNoteB, upToB, entryB])⟩, trivial⟩, trivial, trivial, rfl⟩⟩
      try simp only [tdy] at h42
      refine AW_condF rfl ?_
      refine AW_seq ?_
      refine AW_region ?_
      refine AL_b (x_eql rfl rfl rfl) (fun b43 h43 => ?_)
      refine AL_p (x_assign rfl rfl) ?_
      refine AL_nil ?_
      cases b43
      rotate_left
      · try simp only [tdy] at h43
        refine AW_condT rfl ?_
        refine AW_skip ?_
        refine AW_condT rfl ?_
        refine AW_seq ?_
        refine AW_region ?_
        refine AL_p (x_field (off := 3) (o' := 3) rfl rfl rfl (by kernel_rfl) rfl) ?_
        refine AL_p (x_load1 rfl rfl rfl (by kernel_rfl) rfl) ?_
        refine AL_b (x_eql rfl rfl rfl) (fun b47 h47 => ?_)
        refine AL_p (x_move rfl rfl) ?_
        cases b47
        rotate_left
        · try simp only [tdy] at h47
          refine AL_g rfl rfl (x_move rfl rfl) ?_
          refine AL_p (x_pickT rfl rfl rfl) ?_
          refine AL_p (x_move rfl rfl) ?_
          refine AL_o rfl rfl rfl rfl ?_
          refine AL_p (x_pickF rfl rfl rfl) ?_
          refine AL_p (x_assign rfl rfl) ?_
          refine AL_nil ?_
          refine AW_ret (BQ_ret ?_)
          exact ⟨rn [], ⟨⟨⟨_, rfl, vle_bool (by grind [msgB, noAddB, noNoteB, upToB, entryB])⟩, trivial⟩, trivial, trivial, rfl⟩⟩
        try simp only [tdy] at h47
        refine AL_o rfl rfl rfl rfl ?_
        refine AL_p (x_pickF rfl rfl rfl) ?_
        refine AL_p (x_move rfl rfl) ?_
        refine AL_o rfl rfl rfl rfl ?_
        refine AL_p (x_pickF rfl rfl rfl) ?_
        refine AL_p (x_assign rfl rfl) ?_
        refine AL_nil ?_
        refine AW_ret (BQ_ret ?_)
        exact ⟨rn [], ⟨⟨⟨_, rfl, vle_bool (by grind [msgB, noAddB, noNoteB, upToB, entryB])⟩, trivial⟩, trivial, trivial, rfl⟩⟩
      try simp only [tdy] at h43
      refine AW_condF rfl ?_
      refine AW_region ?_
      refine AL_b (x_eql rfl rfl rfl) (fun b44 h44 => ?_)
      refine AL_p (x_assign rfl rfl) ?_
      refine AL_nil ?_
      cases b44
      rotate_left
      · try simp only [tdy] at h44
        refine AW_condT rfl ?_
        refine AW_seq ?_
        refine AW_region ?_
        refine AL_p (x_field (off := 3) (o' := 3) rfl rfl rfl (by kernel_rfl) rfl) ?_
        refine AL_p (x_load1 rfl rfl rfl (by kernel_rfl) rfl) ?_
        refine AL_b (x_eql rfl rfl rfl) (fun b47 h47 => ?_)
        refine AL_p (x_move rfl rfl) ?_
        cases b47
        rotate_left
        · try simp only [tdy] at h47
          refine AL_g rfl rfl (x_move rfl rfl) ?_
          refine AL_p (x_pickT rfl rfl rfl) ?_
          refine AL_p (x_move rfl rfl) ?_
          refine AL_o rfl rfl rfl rfl ?_
          refine AL_p (x_pickF rfl rfl rfl) ?_
          refine AL_p (x_assign rfl rfl) ?_
          refine AL_nil ?_
          refine AW_ret (BQ_ret ?_)
          exact ⟨rn [], ⟨⟨⟨_, rfl, vle_bool (by grind [msgB, noAddB, noNoteB, upToB, entryB])⟩, trivial⟩, trivial, trivial, rfl⟩⟩
        try simp only [tdy] at h47
        refine AL_o rfl rfl rfl rfl ?_
        refine AL_p (x_pickF rfl rfl rfl) ?_
        refine AL_p (x_move rfl rfl) ?_
        refine AL_o rfl rfl rfl rfl ?_
        refine AL_p (x_pickF rfl rfl rfl) ?_
        refine AL_p (x_assign rfl rfl) ?_
        refine AL_nil ?_
        refine AW_ret (BQ_ret ?_)
        exact ⟨rn [], ⟨⟨⟨_, rfl, vle_bool (by grind [msgB, noAddB, noNoteB, upToB, entryB])⟩, trivial⟩, trivial, trivial, rfl⟩⟩
      try simp only [tdy] at h44
      refine AW_condF rfl ?_
      refine AW_seq ?_
      refine AW_region ?_
      refine AL_b (x_eql rfl rfl rfl) (fun b55 h55 => ?_)
      refine AL_p (x_assign rfl rfl) ?_
      refine AL_nil ?_
      cases b55
      rotate_left
      · try simp only [tdy] at h55
        refine AW_condT rfl ?_
        refine AW_seq ?_
        refine AW_region ?_
        refine AL_p (x_field (off := 3) (o' := 3) rfl rfl rfl (by kernel_rfl) rfl) ?_
        refine AL_p (x_load1 rfl rfl rfl (by kernel_rfl) rfl) ?_
        refine AL_p (x_field (off := 4) (o' := 4) rfl rfl rfl (by kernel_rfl) rfl) ?_
        refine AL_p (x_load1 rfl rfl rfl (by kernel_rfl) rfl) ?_
        refine AL_p (x_field (off := 5) (o' := 5) rfl rfl rfl (by kernel_rfl) rfl) ?_
        refine AL_p (x_loadN (n := 2) rfl rfl rfl (by kernel_rfl) rfl rfl) ?_
        refine AL_p (x_field (off := 7) (o' := 7) rfl rfl rfl (by kernel_rfl) rfl) ?_
        refine AL_p (x_load1 rfl rfl rfl (by kernel_rfl) rfl) ?_
        refine AL_p (x_build (zs := [.int .i64 0, .int .i64 0, .slice none 0 0, .slice none 0 0, .slice none 0 0, .int .i64 0]) (places := [(0, 1), (1, 1), (2, 2), (4, 1), (5, 1)]) rfl (by kernel_rfl) rfl rfl rfl rfl rfl) ?_
        refine AL_b (x_call0 rfl rfl rfl (entryI_c _ _ 0 m.mat m.acts) rfl rfl) (fun b65 h65 => ?_)
        refine AL_p (x_move rfl rfl) ?_
        cases b65
        rotate_left
        · try simp only [tdy] at h65
          refine AL_g rfl rfl (x_move rfl rfl) ?_
          refine AL_p (x_pickT rfl rfl rfl) ?_
          refine AL_p (x_assign rfl rfl) ?_
          refine AL_nil ?_
          refine AW_ret (BQ_ret ?_)
          exact ⟨rn [], ⟨⟨⟨_, rfl, vle_bool (by grind [msgB, noAddB, noNoteB, upToB, entryB])⟩, trivial⟩, trivial, trivial, rfl⟩⟩
        try simp only [tdy] at h65
        refine AL_o rfl rfl rfl rfl ?_
        refine AL_p (x_pickF rfl rfl rfl) ?_
        refine AL_p (x_assign rfl rfl) ?_
        refine AL_nil ?_
        refine AW_ret (BQ_ret ?_)
        exact ⟨rn [], ⟨⟨⟨_, rfl, vle_bool (by grind [msgB, noAddB, noNoteB, upToB, entryB])⟩, trivial⟩, trivial, trivial, rfl⟩⟩
      try simp only [tdy] at h55
      refine AW_condF rfl ?_
      refine AW_seq ?_
      refine AW_region ?_
      refine AL_b (x_eql rfl rfl rfl) (fun b70 h70 => ?_)
      refine AL_p (x_assign rfl rfl) ?_
      refine AL_nil ?_
      cases b70
      rotate_left
      · try simp only [tdy] at h70
        refine AW_condT rfl ?_
        refine AW_seq ?_
        refine AW_region ?_
        refine AL_p (x_field (off := 3) (o' := 3) rfl rfl rfl (by kernel_rfl) rfl) ?_
        refine AL_p (x_load1 rfl rfl rfl (by kernel_rfl) rfl) ?_
        refine AL_b (x_call0 rfl rfl rfl (upToI_c _ _) rfl rfl) (fun b73 h73 => ?_)
        refine AL_p (x_move rfl rfl) ?_
        cases b73
        rotate_left
        · try simp only [tdy] at h73
          refine AL_g rfl rfl (x_move rfl rfl) ?_
          refine AL_p (x_pickT rfl rfl rfl) ?_
          refine AL_p (x_move rfl rfl) ?_
          refine AL_o rfl rfl rfl rfl ?_
          refine AL_p (x_pickF rfl rfl rfl) ?_
          refine AL_p (x_assign rfl rfl) ?_
          refine AL_nil ?_
          refine AW_ret (BQ_ret ?_)
          exact ⟨rn [], ⟨⟨⟨_, rfl, vle_bool (by grind [msgB, noAddB, noNoteB, upToB, entryB])⟩, trivial⟩, trivial, trivial, rfl⟩⟩
        try simp only [tdy] at h73
        refine AL_o rfl rfl rfl rfl ?_
        refine AL_p (x_pickF rfl rfl rfl) ?_
        refine AL_p (x_move rfl rfl) ?_
        refine AL_o rfl rfl rfl rfl ?_
        refine AL_p (x_pickF rfl rfl rfl) ?_
        refine AL_p (x_assign rfl rfl) ?_
        refine AL_nil ?_
        refine AW_ret (BQ_ret ?_)
        exact ⟨rn [], ⟨⟨⟨_, rfl, vle_bool (by grind [msgB, noAddB, noNoteB, upToB, entryB])⟩, trivial⟩, trivial, trivial, rfl⟩⟩
      try simp only [tdy] at h70
      refine AW_condF rfl ?_
      refine AW_seq ?_
      refine AW_region ?_
      refine AL_b (x_eql rfl rfl rfl) (fun b81 h81 => ?_)
      refine AL_p (x_assign rfl rfl) ?_
      refine AL_nil ?_
      cases b81
      · try simp only [tdy] at h81
        refine AW_condF rfl ?_
        refine AW_skip ?_
        refine AW_seq ?_
        refine AW_region ?_
        refine AL_p (x_assign rfl rfl) ?_
        refine AL_nil ?_
        refine AW_ret ?_
        exact ⟨rn [], ⟨⟨⟨_, rfl, vle_bool (by grind [msgB, noAddB, noNoteB, upToB, entryB])⟩, trivial⟩, trivial, trivial, rfl⟩⟩
      try simp only [tdy] at h81
      refine AW_condT rfl ?_
      refine AW_seq ?_
      refine AW_region ?_
      refine AL_p (x_field (off := 3) (o' := 3) rfl rfl rfl (by kernel_rfl) rfl) ?_
      refine AL_p (x_load1 rfl rfl rfl (by kernel_rfl) rfl) ?_
      refine AL_b (x_eql rfl rfl rfl) (fun b84 h84 => ?_)
      refine AL_p (x_move rfl rfl) ?_
      cases b84
      rotate_left
      · try simp only [tdy] at h84
        refine AL_g rfl rfl (x_move rfl rfl) ?_
        refine AL_p (x_pickT rfl rfl rfl) ?_
        refine AL_p (x_move rfl rfl) ?_
        refine AL_o rfl rfl rfl rfl ?_
        refine AL_o rfl rfl rfl rfl ?_
        refine AL_o rfl rfl rfl rfl ?_
        refine AL_p (x_pickF rfl rfl rfl) ?_
        refine AL_p (x_assign rfl rfl) ?_
        refine AL_nil ?_
        refine AW_ret (BQ_ret ?_)
        exact ⟨rn [], ⟨⟨⟨_, rfl, vle_bool (by grind [msgB, noAddB, noNoteB, upToB, entryB])⟩, trivial⟩, trivial, trivial, rfl⟩⟩
      try simp only [tdy] at h84
      refine AL_o rfl rfl rfl rfl ?_
      refine AL_p (x_pickF rfl rfl rfl) ?_
      refine AL_p (x_move rfl rfl) ?_
      refine AL_o rfl rfl rfl rfl ?_
      refine AL_o rfl rfl rfl rfl ?_
      refine AL_o rfl rfl rfl rfl ?_
      refine AL_p (x_pickF rfl rfl rfl) ?_
      refine AL_p (x_assign rfl rfl) ?_
      refine AL_nil ?_
      refine AW_ret (BQ_ret ?_)
      exact ⟨rn [], ⟨⟨⟨_, rfl, vle_bool (by grind [msgB, noAddB, noNoteB, upToB, entryB])⟩, trivial⟩, trivial, trivial, rfl⟩⟩
    try simp only [tdy] at h30
    refine AL_g rfl rfl (x_field (off := 9) (o' := 9) rfl rfl rfl (by kernel_rfl) rfl) ?_
    refine AL_g rfl rfl (x_field (off := 0) (o' := 9) rfl rfl rfl (by kernel_rfl) rfl) ?_
    refine AL_g rfl rfl (x_load1 rfl rfl rfl (by kernel_rfl) rfl) ?_
    refine AL_g rfl rfl (x_len (E := 3) (n := 1) rfl rfl (by kernel_rfl)) ?_
    refine AL_gb rfl rfl (x_eql rfl rfl rfl) (fun b37 h37 => ?_)
    refine AL_p (x_pickT rfl rfl rfl) ?_
    refine AL_p (x_assign rfl rfl) ?_
    refine AL_nil ?_
    refine AW_seq ?_
    refine AW_seq ?_
    refine AW_region ?_
    refine AL_p (x_field (off := 0) (o' := 0) rfl rfl rfl (by kernel_rfl) rfl) ?_
    refine AL_p (x_load1 rfl rfl rfl (by kernel_rfl) rfl) ?_
    refine AL_nil ?_
    refine AW_block ?_
    refine AW_seq ?_
    refine AW_seq ?_
    refine AW_region ?_
    refine AL_b (x_eql rfl rfl rfl) (fun b42 h42 => ?_)
    refine AL_p (x_assign rfl rfl) ?_
    refine AL_nil ?_
    cases b42
    rotate_left
    · try simp only [tdy] at h42
      refine AW_condT rfl ?_
      refine AW_skip ?_
      refine AW_condT rfl ?_
      refine AW_seq ?_
      refine AW_region ?_
      refine AL_p (x_field (off := 3) (o' := 3) rfl rfl rfl (by kernel_rfl) rfl) ?_
      refine AL_p (x_load1 rfl rfl rfl (by kernel_rfl) rfl) ?_
      refine AL_b (x_eql rfl rfl rfl) (fun b47 h47 => ?_)
      refine AL_p (x_move rfl rfl) ?_
      cases b47
      rotate_left
      · try simp only [tdy] at h47
        refine AL_g rfl rfl (x_move rfl rfl) ?_
        refine AL_p (x_pickT rfl rfl rfl) ?_
        refine AL_p (x_move rfl rfl) ?_
        refine AL_o rfl rfl rfl rfl ?_
        refine AL_p (x_pickF rfl rfl rfl) ?_
        refine AL_p (x_assign rfl rfl) ?_
        refine AL_nil ?_
        refine AW_ret (BQ_ret ?_)
        exact ⟨rn [], ⟨⟨⟨_, rfl, vle_bool (by grind [msgB, noAddB, noNoteB, upToB, entryB])⟩, trivial⟩, trivial, trivial, rfl⟩⟩
      try simp only [tdy] at h47
      refine AL_o rfl rfl rfl rfl ?_
      refine AL_p (x_pickF rfl rfl rfl) ?_
      refine AL_p (x_move rfl rfl) ?_
      refine AL_o rfl rfl rfl rfl ?_
      refine AL_p (x_pickF rfl rfl rfl) ?_
      refine AL_p (x_assign rfl rfl) ?_
      refine AL_nil ?_
      refine AW_ret (BQ_ret ?_)
      exact ⟨rn [], ⟨⟨⟨_, rfl, vle_bool (by grind [msgB, noAddB, noNoteB, upToB, entryB])⟩, trivial⟩, trivial, trivial, rfl⟩⟩
    try simp only [tdy] at h42
    refine AW_condF rfl ?_
    refine AW_seq ?_
    refine AW_region ?_
    refine AL_b (x_eql rfl rfl rfl) (fun b43 h43 => ?_)
    refine AL_p (x_assign rfl rfl) ?_
    refine AL_nil ?_
    cases b43
    rotate_left
    · try simp only [tdy] at h43
      refine AW_condT rfl ?_
      refine AW_skip ?_
      refine AW_condT rfl ?_
      refine AW_seq ?_
      refine AW_region ?_
      refine AL_p (x_field (off := 3) (o' := 3) rfl rfl rfl (by kernel_rfl) rfl) ?_
      refine AL_p (x_load1 rfl rfl rfl (by kernel_rfl) rfl) ?_
      refine AL_b (x_eql rfl rfl rfl) (fun b47 h47 => ?_)
      refine AL_p (x_move rfl rfl) ?_
      cases b47
      rotate_left
      · try simp only [tdy] at h47
        refine AL_g rfl rfl (x_move rfl rfl) ?_
        refine AL_p (x_pickT rfl rfl rfl) ?_
        refine AL_p (x_move rfl rfl) ?_
        refine AL_o rfl rfl rfl rfl ?_
        refine AL_p (x_pickF rfl rfl rfl) ?_
        refine AL_p (x_assign rfl rfl) ?_
        refine AL_nil ?_
        refine AW_ret (BQ_ret ?_)
        exact ⟨rn [], ⟨⟨⟨_, rfl, vle_bool (by grind [msgB, noAddB, noNoteB, upToB, entryB])⟩, trivial⟩, trivial, trivial, rfl⟩⟩
      try simp only [tdy] at h47
      refine AL_o rfl rfl rfl rfl ?_
      refine AL_p (x_pickF rfl rfl rfl) ?_
      refine AL_p (x_move rfl rfl) ?_
      refine AL_o rfl rfl rfl rfl ?_
      refine AL_p (x_pickF rfl rfl rfl) ?_
      refine AL_p (x_assign rfl rfl) ?_
      refine AL_nil ?_
      refine AW_ret (BQ_ret ?_)
      exact ⟨rn [], ⟨⟨⟨_, rfl, vle_bool (by grind [msgB, noAddB, noNoteB, upToB, entryB])⟩, trivial⟩, trivial, trivial, rfl⟩⟩
    try simp only [tdy] at h43
    refine AW_condF rfl ?_
    refine AW_region ?_
    refine AL_b (x_eql rfl rfl rfl) (fun b44 h44 => ?_)
    refine AL_p (x_assign rfl rfl) ?_
    refine AL_nil ?_
    cases b44
    rotate_left
    · try simp only [tdy] at h44
      refine AW_condT rfl ?_
      refine AW_seq ?_
      refine AW_region ?_
      refine AL_p (x_field (off := 3) (o' := 3) rfl rfl rfl (by kernel_rfl) rfl) ?_
      refine AL_p (x_load1 rfl rfl rfl (by kernel_rfl) rfl) ?_
      refine AL_b (x_eql rfl rfl rfl) (fun b47 h47 => ?_)
      refine AL_p (x_move rfl rfl) ?_
      cases b47
      rotate_left
      · try simp only [tdy] at h47
        refine AL_g rfl rfl (x_move rfl rfl) ?_
        refine AL_p (x_pickT rfl rfl rfl) ?_
        refine AL_p (x_move rfl rfl) ?_
        refine AL_o rfl rfl rfl rfl ?_
        refine AL_p (x_pickF rfl rfl rfl) ?_
        refine AL_p (x_assign rfl rfl) ?_
        refine AL_nil ?_
        refine AW_ret (BQ_ret ?_)
        exact ⟨rn [], ⟨⟨⟨_, rfl, vle_bool (by grind [msgB, noAddB, noNoteB, upToB, entryB])⟩, trivial⟩, trivial, trivial, rfl⟩⟩
      try simp only [tdy] at h47
      refine AL_o rfl rfl rfl rfl ?_
      refine AL_p (x_pickF rfl rfl rfl) ?_
      refine AL_p (x_move rfl rfl) ?_
      refine AL_o rfl rfl rfl rfl ?_
      refine AL_p (x_pickF rfl rfl rfl) ?_
      refine AL_p (x_assign rfl rfl) ?_
      refine AL_nil ?_
      refine AW_ret (BQ_ret ?_)
      exact ⟨rn [], ⟨⟨⟨_, rfl, vle_bool (by grind [msgB, noAddB, noNoteB, upToB, entryB])⟩, trivial⟩, trivial, trivial, rfl⟩⟩
    try simp only [tdy] at h44
    refine AW_condF rfl ?_
    refine AW_seq ?_
    refine AW_region ?_
    refine AL_b (x_eql rfl rfl rfl) (fun b55 h55 => ?_)
    refine AL_p (x_assign rfl rfl) ?_
    refine AL_nil ?_
    cases b55
    rotate_left
    · try simp only [tdy] at h55
      refine AW_condT rfl ?_
      refine AW_seq ?_
      refine AW_region ?_
      refine AL_p (x_field (off := 3) (o' := 3) rfl rfl rfl (by kernel_rfl) rfl) ?_
      refine AL_p (x_load1 rfl rfl rfl (by kernel_rfl) rfl) ?_
      refine AL_p (x_field (off := 4) (o' := 4) rfl rfl rfl (by kernel_rfl) rfl) ?_
      refine AL_p (x_load1 rfl rfl rfl (by kernel_rfl) rfl) ?_
      refine AL_p (x_field (off := 5) (o' := 5) rfl rfl rfl (by kernel_rfl) rfl) ?_
      refine AL_p (x_loadN (n := 2) rfl rfl rfl (by kernel_rfl) rfl rfl) ?_
      refine AL_p (x_field (off := 7) (o' := 7) rfl rfl rfl (by kernel_rfl) rfl) ?_
      refine AL_p (x_load1 rfl rfl rfl (by kernel_rfl) rfl) ?_
      refine AL_p (x_build (zs := [.int .i64 0, .int .i64 0, .slice none 0 0, .slice none 0 0, .slice none 0 0, .int .i64 0]) (places := [(0, 1), (1, 1), (2, 2), (4, 1), (5, 1)]) rfl (by kernel_rfl) rfl rfl rfl rfl rfl) ?_
      refine AL_b (x_call0 rfl rfl rfl (entryI_c _ _ 0 m.mat m.acts) rfl rfl) (fun b65 h65 => ?_)
      refine AL_p (x_move rfl rfl) ?_
      cases b65
      · try simp only [tdy] at h65
        refine AL_o rfl rfl rfl rfl ?_
        refine AL_p (x_pickF rfl rfl rfl) ?_
        refine AL_p (x_assign rfl rfl) ?_
        refine AL_nil ?_
        refine AW_ret (BQ_ret ?_)
        exact ⟨rn [], ⟨⟨⟨_, rfl, vle_bool (by grind [msgB, noAddB, noNoteB, upToB, entryB])⟩, trivial⟩, trivial, trivial, rfl⟩⟩
      try simp only [tdy] at h65
      refine AL_g rfl rfl (x_move rfl rfl) ?_
      refine AL_p (x_pickT rfl rfl rfl) ?_
      refine AL_p (x_assign rfl rfl) ?_
      refine AL_nil ?_
      refine AW_ret (BQ_ret ?_)
      cases b37
      rotate_left
      · try simp only [tdy] at h37
        exact ⟨rn [], ⟨⟨⟨_, rfl, vle_bool (by grind [msgB, noAddB, noNoteB, upToB, entryB])⟩, trivial⟩, trivial, trivial, rfl⟩⟩
      try simp only [tdy] at h37
      exact ⟨rn [], ⟨⟨⟨_, rfl, vle_bool (by grind [msgB, noAddB, noNoteB, upToB, entryB])⟩, trivial⟩, trivial, trivial, rfl⟩⟩
    try simp only [tdy] at h55
    refine AW_condF rfl ?_
    refine AW_seq ?_
    refine AW_region ?_
    refine AL_b (x_eql rfl rfl rfl) (fun b70 h70 => ?_)
    refine AL_p (x_assign rfl rfl) ?_
    refine AL_nil ?_
    cases b70
    rotate_left
    · try simp only [tdy] at h70
      refine AW_condT rfl ?_
      refine AW_seq ?_
      refine AW_region ?_
      refine AL_p (x_field (off := 3) (o' := 3) rfl rfl rfl (by kernel_rfl) rfl) ?_
      refine AL_p (x_load1 rfl rfl rfl (by kernel_rfl) rfl) ?_
      refine AL_b (x_call0 rfl rfl rfl (upToI_c _ _) rfl rfl) (fun b73 h73 => ?_)
      refine AL_p (x_move rfl rfl) ?_
      cases b73
      rotate_left
      · try simp only [tdy] at h73
        refine AL_g rfl rfl (x_move rfl rfl) ?_
        refine AL_p (x_pickT rfl rfl rfl) ?_
        refine AL_p (x_move rfl rfl) ?_
        refine AL_o rfl rfl rfl rfl ?_
        refine AL_p (x_pickF rfl rfl rfl) ?_
        refine AL_p (x_assign rfl rfl) ?_
        refine AL_nil ?_
        refine AW_ret (BQ_ret ?_)
        exact ⟨rn [], ⟨⟨⟨_, rfl, vle_bool (by grind [msgB, noAddB, noNoteB, upToB, entryB])⟩, trivial⟩, trivial, trivial, rfl⟩⟩
      try simp only [tdy] at h73
      refine AL_o rfl rfl rfl rfl ?_
      refine AL_p (x_pickF rfl rfl rfl) ?_
      refine AL_p (x_move rfl rfl) ?_
      refine AL_o rfl rfl rfl rfl ?_
      refine AL_p (x_pickF rfl rfl rfl) ?_
      refine AL_p (x_assign rfl rfl) ?_
      refine AL_nil ?_
      refine AW_ret (BQ_ret ?_)
      exact ⟨rn [], ⟨⟨⟨_, rfl, vle_bool (by grind [msgB, noAddB, noNoteB, upToB, entryB])⟩, trivial⟩, trivial, trivial, rfl⟩⟩
    try simp only [tdy] at h70
    refine AW_condF rfl ?_
    refine AW_seq ?_
    refine AW_region ?_
    refine AL_b (x_eql rfl rfl rfl) (fun b81 h81 => ?_)
    refine AL_p (x_assign rfl rfl) ?_
    refine AL_nil ?_
    cases b81
    · try simp only [tdy] at h81
      refine AW_condF rfl ?_
      refine AW_skip ?_
      refine AW_seq ?_
      refine AW_region ?_
      refine AL_p (x_assign rfl rfl) ?_
      refine AL_nil ?_
      refine AW_ret ?_
      exact ⟨rn [], ⟨⟨⟨_, rfl, vle_bool (by grind [msgB, noAddB, noNoteB, upToB, entryB])⟩, trivial⟩, trivial, trivial, rfl⟩⟩
    try simp only [tdy] at h81
    refine AW_condT rfl ?_
    refine AW_seq ?_
    refine AW_region ?_
    refine AL_p (x_field (off := 3) (o' := 3) rfl rfl rfl (by kernel_rfl) rfl) ?_
    refine AL_p (x_load1 rfl rfl rfl (by kernel_rfl) rfl) ?_
    refine AL_b (x_eql rfl rfl rfl) (fun b84 h84 => ?_)
    refine AL_p (x_move rfl rfl) ?_
    cases b84
    rotate_left
    · try simp only [tdy] at h84
      refine AL_g rfl rfl (x_move rfl rfl) ?_
      refine AL_p (x_pickT rfl rfl rfl) ?_
      refine AL_p (x_move rfl rfl) ?_
      refine AL_o rfl rfl rfl rfl ?_
      refine AL_o rfl rfl rfl rfl ?_
      refine AL_o rfl rfl rfl rfl ?_
      refine AL_p (x_pickF rfl rfl rfl) ?_
      refine AL_p (x_assign rfl rfl) ?_
      refine AL_nil ?_
      refine AW_ret (BQ_ret ?_)
      exact ⟨rn [], ⟨⟨⟨_, rfl, vle_bool (by grind [msgB, noAddB, noNoteB, upToB, entryB])⟩, trivial⟩, trivial, trivial, rfl⟩⟩
    try simp only [tdy] at h84
    refine AL_o rfl rfl rfl rfl ?_
    refine AL_p (x_pickF rfl rfl rfl) ?_
    refine AL_p (x_move rfl rfl) ?_
    refine AL_o rfl rfl rfl rfl ?_
    refine AL_o rfl rfl rfl rfl ?_
    refine AL_o rfl rfl rfl rfl ?_
    refine AL_p (x_pickF rfl rfl rfl) ?_
    refine AL_p (x_assign rfl rfl) ?_
    refine AL_nil ?_
    refine AW_ret (BQ_ret ?_)
    exact ⟨rn [], ⟨⟨⟨_, rfl, vle_bool (by grind [msgB, noAddB, noNoteB, upToB, entryB])⟩, trivial⟩, trivial, trivial, rfl⟩⟩
  try simp only [tdy] at h21
  refine AL_g rfl rfl (x_field (off := 7) (o' := 7) rfl rfl rfl (by kernel_rfl) rfl) ?_
  refine AL_g rfl rfl (x_load1 rfl rfl rfl (by kernel_rfl) rfl) ?_
  refine AL_g rfl rfl (x_len (E := 114) (n := 3) rfl rfl (by kernel_rfl)) ?_
  refine AL_gb rfl rfl (x_eql rfl rfl rfl) (fun b27 h27 => ?_)
  refine AL_p (x_pickT rfl rfl rfl) ?_
  refine AL_p (x_assign rfl rfl) ?_
  refine AL_nil ?_
  refine AW_seq ?_
  refine AW_region ?_
  refine AL_p (x_field (off := 8) (o' := 8) rfl rfl rfl (by kernel_rfl) rfl) ?_
  refine AL_b (x_load1 rfl rfl rfl (by kernel_rfl) rfl) (fun b30 h30 => ?_)
  refine AL_p (x_not rfl rfl) ?_
  refine AL_p (x_move rfl rfl) ?_
  cases b30
  rotate_left
  · try simp only [tdy] at h30
    refine AL_o rfl rfl rfl rfl ?_
    refine AL_o rfl rfl rfl rfl ?_
    refine AL_o rfl rfl rfl rfl ?_
    refine AL_o rfl rfl rfl rfl ?_
    refine AL_o rfl rfl rfl rfl ?_
    refine AL_p (x_pickF rfl rfl rfl) ?_
    refine AL_p (x_assign rfl rfl) ?_
    refine AL_nil ?_
    refine AW_seq ?_
    refine AW_seq ?_
    refine AW_region ?_
    refine AL_p (x_field (off := 0) (o' := 0) rfl rfl rfl (by kernel_rfl) rfl) ?_
    refine AL_p (x_load1 rfl rfl rfl (by kernel_rfl) rfl) ?_
    refine AL_nil ?_
    refine AW_block ?_
    refine AW_seq ?_
    refine AW_seq ?_
    refine AW_region ?_
    refine AL_b (x_eql rfl rfl rfl) (fun b42 h42 => ?_)
    refine AL_p (x_assign rfl rfl) ?_
    refine AL_nil ?_
    cases b42
    rotate_left
    · try simp only [tdy] at h42
      refine AW_condT rfl ?_
      refine AW_skip ?_
      refine AW_condT rfl ?_
      refine AW_seq ?_
      refine AW_region ?_
      refine AL_p (x_field (off := 3) (o' := 3) rfl rfl rfl (by kernel_rfl) rfl) ?_
      refine AL_p (x_load1 rfl rfl rfl (by kernel_rfl) rfl) ?_
      refine AL_b (x_eql rfl rfl rfl) (fun b47 h47 => ?_)
      refine AL_p (x_move rfl rfl) ?_
      cases b47
      · try simp only [tdy] at h47
        refine AL_o rfl rfl rfl rfl ?_
        refine AL_p (x_pickF rfl rfl rfl) ?_
        refine AL_p (x_move rfl rfl) ?_
        refine AL_o rfl rfl rfl rfl ?_
        refine AL_p (x_pickF rfl rfl rfl) ?_
        refine AL_p (x_assign rfl rfl) ?_
        refine AL_nil ?_
        refine AW_ret (BQ_ret ?_)
        exact ⟨rn [], ⟨⟨⟨_, rfl, vle_bool (by grind [msgB, noAddB, noNoteB, upToB, entryB])⟩, trivial⟩, trivial, trivial, rfl⟩⟩
      try simp only [tdy] at h47
      refine AL_g rfl rfl (x_move rfl rfl) ?_
      refine AL_p (x_pickT rfl rfl rfl) ?_
      refine AL_p (x_move rfl rfl) ?_
      cases b27
      rotate_left
      · try simp only [tdy] at h27
        refine AL_g rfl rfl (x_move rfl rfl) ?_
        refine AL_p (x_pickT rfl rfl rfl) ?_
        refine AL_p (x_assign rfl rfl) ?_
        refine AL_nil ?_
        refine AW_ret (BQ_ret ?_)
        exact ⟨rn [], ⟨⟨⟨_, rfl, vle_bool (by grind [msgB, noAddB, noNoteB, upToB, entryB])⟩, trivial⟩, trivial, trivial, rfl⟩⟩
      try simp only [tdy] at h27
      refine AL_o rfl rfl rfl rfl ?_
      refine AL_p (x_pickF rfl rfl rfl) ?_
      refine AL_p (x_assign rfl rfl) ?_
      refine AL_nil ?_
      refine AW_ret (BQ_ret ?_)
      exact ⟨rn [], ⟨⟨⟨_, rfl, vle_bool (by grind [msgB, noAddB, noNoteB, upToB, entryB])⟩, trivial⟩, trivial, trivial, rfl⟩⟩
    try simp only [tdy] at h42
    refine AW_condF rfl ?_
    refine AW_seq ?_
    refine AW_region ?_
    refine AL_b (x_eql rfl rfl rfl) (fun b43 h43 => ?_)
    refine AL_p (x_assign rfl rfl) ?_
    refine AL_nil ?_
    cases b43
    rotate_left
    · try simp only [tdy] at h43
      refine AW_condT rfl ?_
      refine AW_skip ?_
      refine AW_condT rfl ?_
      refine AW_seq ?_
      refine AW_region ?_
      refine AL_p (x_field (off := 3) (o' := 3) rfl rfl rfl (by kernel_rfl) rfl) ?_
      refine AL_p (x_load1 rfl rfl rfl (by kernel_rfl) rfl) ?_
      refine AL_b (x_eql rfl rfl rfl) (fun b47 h47 => ?_)
      refine AL_p (x_move rfl rfl) ?_
      cases b47
      · try simp only [tdy] at h47
        refine AL_o rfl rfl rfl rfl ?_
        refine AL_p (x_pickF rfl rfl rfl) ?_
        refine AL_p (x_move rfl rfl) ?_
        refine AL_o rfl rfl rfl rfl ?_
        refine AL_p (x_pickF rfl rfl rfl) ?_
        refine AL_p (x_assign rfl rfl) ?_
        refine AL_nil ?_
        refine AW_ret (BQ_ret ?_)
        exact ⟨rn [], ⟨⟨⟨_, rfl, vle_bool (by grind [msgB, noAddB, noNoteB, upToB, entryB])⟩, trivial⟩, trivial, trivial, rfl⟩⟩
      try simp only [tdy] at h47
      refine AL_g rfl rfl (x_move rfl rfl) ?_
      refine AL_p (x_pickT rfl rfl rfl) ?_
      refine AL_p (x_move rfl rfl) ?_
      cases b27
      rotate_left
      · try simp only [tdy] at h27
        refine AL_g rfl rfl (x_move rfl rfl) ?_
        refine AL_p (x_pickT rfl rfl rfl) ?_
        refine AL_p (x_assign rfl rfl) ?_
        refine AL_nil ?_
        refine AW_ret (BQ_ret ?_)
        exact ⟨rn [], ⟨⟨⟨_, rfl, vle_bool (by grind [msgB, noAddB, noNoteB, upToB, entryB])⟩, trivial⟩, trivial, trivial, rfl⟩⟩
      try simp only [tdy] at h27
      refine AL_o rfl rfl rfl rfl ?_
      refine AL_p (x_pickF rfl rfl rfl) ?_
      refine AL_p (x_assign rfl rfl) ?_
      refine AL_nil ?_
      refine AW_ret (BQ_ret ?_)
      exact ⟨rn [], ⟨⟨⟨_, rfl, vle_bool (by grind [msgB, noAddB, noNoteB, upToB, entryB])⟩, trivial⟩, trivial, trivial, rfl⟩⟩
    try simp only [tdy] at h43
    refine AW_condF rfl ?_
    refine AW_region ?_
    refine AL_b (x_eql rfl rfl rfl) (fun b44 h44 => ?_)
    refine AL_p (x_assign rfl rfl) ?_
    refine AL_nil ?_
    cases b44
    rotate_left
    · try simp only [tdy] at h44
      refine AW_condT rfl ?_
      refine AW_seq ?_
      refine AW_region ?_
      refine AL_p (x_field (off := 3) (o' := 3) rfl rfl rfl (by kernel_rfl) rfl) ?_
      refine AL_p (x_load1 rfl rfl rfl (by kernel_rfl) rfl) ?_
      refine AL_b (x_eql rfl rfl rfl) (fun b47 h47 => ?_)
      refine AL_p (x_move rfl rfl) ?_
      cases b47
      · try simp only [tdy] at h47
        refine AL_o rfl rfl rfl rfl ?_
        refine AL_p (x_pickF rfl rfl rfl) ?_
        refine AL_p (x_move rfl rfl) ?_
        refine AL_o rfl rfl rfl rfl ?_
        refine AL_p (x_pickF rfl rfl rfl) ?_
        refine AL_p (x_assign rfl rfl) ?_
        refine AL_nil ?_
        refine AW_ret (BQ_ret ?_)
        exact ⟨rn [], ⟨⟨⟨_, rfl, vle_bool (by grind [msgB, noAddB, noNoteB, upToB, entryB])⟩, trivial⟩, trivial, trivial, rfl⟩⟩
      try simp only [tdy] at h47
      refine AL_g rfl rfl (x_move rfl rfl) ?_
      refine AL_p (x_pickT rfl rfl rfl) ?_
      refine AL_p (x_move rfl rfl) ?_
      cases b27
      rotate_left
      · try simp only [tdy] at h27
        refine AL_g rfl rfl (x_move rfl rfl) ?_
        refine AL_p (x_pickT rfl rfl rfl) ?_
        refine AL_p (x_assign rfl rfl) ?_
        refine AL_nil ?_
        refine AW_ret (BQ_ret ?_)
        exact ⟨rn [], ⟨⟨⟨_, rfl, vle_bool (by grind [msgB, noAddB, noNoteB, upToB, entryB])⟩, trivial⟩, trivial, trivial, rfl⟩⟩
      try simp only [tdy] at h27
      refine AL_o rfl rfl rfl rfl ?_
      refine AL_p (x_pickF rfl rfl rfl) ?_
      refine AL_p (x_assign rfl rfl) ?_
      refine AL_nil ?_
      refine AW_ret (BQ_ret ?_)
      exact ⟨rn [], ⟨⟨⟨_, rfl, vle_bool (by grind [msgB, noAddB, noNoteB, upToB, entryB])⟩, trivial⟩, trivial, trivial, rfl⟩⟩
    try simp only [tdy] at h44
    refine AW_condF rfl ?_
    refine AW_seq ?_
    refine AW_region ?_
    refine AL_b (x_eql rfl rfl rfl) (fun b55 h55 => ?_)
    refine AL_p (x_assign rfl rfl) ?_
    refine AL_nil ?_
    cases b55
    rotate_left
    · try simp only [tdy] at h55
      refine AW_condT rfl ?_
      refine AW_seq ?_
      refine AW_region ?_
      refine AL_p (x_field (off := 3) (o' := 3) rfl rfl rfl (by kernel_rfl) rfl) ?_
      refine AL_p (x_load1 rfl rfl rfl (by kernel_rfl) rfl) ?_
      refine AL_p (x_field (off := 4) (o' := 4) rfl rfl rfl (by kernel_rfl) rfl) ?_
      refine AL_p (x_load1 rfl rfl rfl (by kernel_rfl) rfl) ?_
      refine AL_p (x_field (off := 5) (o' := 5) rfl rfl rfl (by kernel_rfl) rfl) ?_
      refine AL_p (x_loadN (n := 2) rfl rfl rfl (by kernel_rfl) rfl rfl) ?_
      refine AL_p (x_field (off := 7) (o' := 7) rfl rfl rfl (by kernel_rfl) rfl) ?_
      refine AL_p (x_load1 rfl rfl rfl (by kernel_rfl) rfl) ?_
      refine AL_p (x_build (zs := [.int .i64 0, .int .i64 0, .slice none 0 0, .slice none 0 0, .slice none 0 0, .int .i64 0]) (places := [(0, 1), (1, 1), (2, 2), (4, 1), (5, 1)]) rfl (by kernel_rfl) rfl rfl rfl rfl rfl) ?_
      refine AL_b (x_call0 rfl rfl rfl (entryI_c _ _ 0 m.mat m.acts) rfl rfl) (fun b65 h65 => ?_)
      refine AL_p (x_move rfl rfl) ?_
      cases b65
      rotate_left
      · try simp only [tdy] at h65
        refine AL_g rfl rfl (x_move rfl rfl) ?_
        refine AL_p (x_pickT rfl rfl rfl) ?_
        refine AL_p (x_assign rfl rfl) ?_
        refine AL_nil ?_
        refine AW_ret (BQ_ret ?_)
        exact ⟨rn [], ⟨⟨⟨_, rfl, vle_bool (by grind [msgB, noAddB, noNoteB, upToB, entryB])⟩, trivial⟩, trivial, trivial, rfl⟩⟩
      try simp only [tdy] at h65
      refine AL_o rfl rfl rfl rfl ?_
      refine AL_p (x_pickF rfl rfl rfl) ?_
      refine AL_p (x_assign rfl rfl) ?_
      refine AL_nil ?_
      refine AW_ret (BQ_ret ?_)
      exact ⟨rn [], ⟨⟨⟨_, rfl, vle_bool (by grind [msgB, noAddB, noNoteB, upToB, entryB])⟩, trivial⟩, trivial, trivial, rfl⟩⟩
    try simp only [tdy] at h55
    refine AW_condF rfl ?_
    refine AW_seq ?_
    refine AW_region ?_
    refine AL_b (x_eql rfl rfl rfl) (fun b70 h70 => ?_)
    refine AL_p (x_assign rfl rfl) ?_
    refine AL_nil ?_
    cases b70
    rotate_left
    · try simp only [tdy] at h70
      refine AW_condT rfl ?_
      refine AW_seq ?_
      refine AW_region ?_
      refine AL_p (x_field (off := 3) (o' := 3) rfl rfl rfl (by kernel_rfl) rfl) ?_
      refine AL_p (x_load1 rfl rfl rfl (by kernel_rfl) rfl) ?_
      refine AL_b (x_call0 rfl rfl rfl (upToI_c _ _) rfl rfl) (fun b73 h73 => ?_)
      refine AL_p (x_move rfl rfl) ?_
      cases b73
      · try simp only [tdy] at h73
        refine AL_o rfl rfl rfl rfl ?_
        refine AL_p (x_pickF rfl rfl rfl) ?_
        refine AL_p (x_move rfl rfl) ?_
        refine AL_o rfl rfl rfl rfl ?_
        refine AL_p (x_pickF rfl rfl rfl) ?_
        refine AL_p (x_assign rfl rfl) ?_
        refine AL_nil ?_
        refine AW_ret (BQ_ret ?_)
        exact ⟨rn [], ⟨⟨⟨_, rfl, vle_bool (by grind [msgB, noAddB, noNoteB, upToB, entryB])⟩, trivial⟩, trivial, trivial, rfl⟩⟩
      try simp only [tdy] at h73
      refine AL_g rfl rfl (x_move rfl rfl) ?_
      refine AL_p (x_pickT rfl rfl rfl) ?_
      refine AL_p (x_move rfl rfl) ?_
      cases b27
      rotate_left
      · try simp only [tdy] at h27
        refine AL_g rfl rfl (x_move rfl rfl) ?_
        refine AL_p (x_pickT rfl rfl rfl) ?_
        refine AL_p (x_assign rfl rfl) ?_
        refine AL_nil ?_
        refine AW_ret (BQ_ret ?_)
        exact ⟨rn [], ⟨⟨⟨_, rfl, vle_bool (by grind [msgB, noAddB, noNoteB, upToB, entryB])⟩, trivial⟩, trivial, trivial, rfl⟩⟩
      try simp only [tdy] at h27
      refine AL_o rfl rfl rfl rfl ?_
      refine AL_p (x_pickF rfl rfl rfl) ?_
      refine AL_p (x_assign rfl rfl) ?_
      refine AL_nil ?_
      refine AW_ret (BQ_ret ?_)
      exact ⟨rn [], ⟨⟨⟨_, rfl, vle_bool (by grind [msgB, noAddB, noNoteB, upToB, entryB])⟩, trivial⟩, trivial, trivial, rfl⟩⟩
    try simp only [tdy] at h70
    refine AW_condF rfl ?_
    refine AW_seq ?_
    refine AW_region ?_
    refine AL_b (x_eql rfl rfl rfl) (fun b81 h81 => ?_)
    refine AL_p (x_assign rfl rfl) ?_
    refine AL_nil ?_
    cases b81
    · try simp only [tdy] at h81
      refine AW_condF rfl ?_
      refine AW_skip ?_
      refine AW_seq ?_
      refine AW_region ?_
      refine AL_p (x_assign rfl rfl) ?_
      refine AL_nil ?_
      refine AW_ret ?_
      exact ⟨rn [], ⟨⟨⟨_, rfl, vle_bool (by grind [msgB, noAddB, noNoteB, upToB, entryB])⟩, trivial⟩, trivial, trivial, rfl⟩⟩
    try simp only [tdy] at h81
    refine AW_condT rfl ?_
    refine AW_seq ?_
    refine AW_region ?_
    refine AL_p (x_field (off := 3) (o' := 3) rfl rfl rfl (by kernel_rfl) rfl) ?_
    refine AL_p (x_load1 rfl rfl rfl (by kernel_rfl) rfl) ?_
    refine AL_b (x_eql rfl rfl rfl) (fun b84 h84 => ?_)
    refine AL_p (x_move rfl rfl) ?_
    cases b84
    · try simp only [tdy] at h84
      refine AL_o rfl rfl rfl rfl ?_
      refine AL_p (x_pickF rfl rfl rfl) ?_
      refine AL_p (x_move rfl rfl) ?_
      refine AL_o rfl rfl rfl rfl ?_
      refine AL_o rfl rfl rfl rfl ?_
      refine AL_o rfl rfl rfl rfl ?_
      refine AL_p (x_pickF rfl rfl rfl) ?_
      refine AL_p (x_assign rfl rfl) ?_
      refine AL_nil ?_
      refine AW_ret (BQ_ret ?_)
      exact ⟨rn [], ⟨⟨⟨_, rfl, vle_bool (by grind [msgB, noAddB, noNoteB, upToB, entryB])⟩, trivial⟩, trivial, trivial, rfl⟩⟩
    try simp only [tdy] at h84
    refine AL_g rfl rfl (x_move rfl rfl) ?_
    refine AL_p (x_pickT rfl rfl rfl) ?_
    refine AL_p (x_move rfl rfl) ?_
    cases b27
    · try simp only [tdy] at h27
      refine AL_o rfl rfl rfl rfl ?_
      refine AL_o rfl rfl rfl rfl ?_
      refine AL_o rfl rfl rfl rfl ?_
      refine AL_p (x_pickF rfl rfl rfl) ?_
      refine AL_p (x_assign rfl rfl) ?_
      refine AL_nil ?_
      refine AW_ret (BQ_ret ?_)
      exact ⟨rn [], ⟨⟨⟨_, rfl, vle_bool (by grind [msgB, noAddB, noNoteB, upToB, entryB])⟩, trivial⟩, trivial, trivial, rfl⟩⟩
    try simp only [tdy] at h27
    refine AL_g rfl rfl (x_field (off := 9) (o' := 9) rfl rfl rfl (by kernel_rfl) rfl) ?_
    refine AL_g rfl rfl (x_loadN (n := 1) rfl rfl rfl (by kernel_rfl) rfl rfl) ?_
    refine AL_gb rfl rfl (x_call0 rfl rfl rfl (headI_c _) rfl rfl) (fun b91 h91 => ?_)
    refine AL_p (x_pickT rfl rfl rfl) ?_
    refine AL_p (x_assign rfl rfl) ?_
    refine AL_nil ?_
    refine AW_ret (BQ_ret ?_)
    cases b91
    rotate_left
    · try simp only [tdy] at h91
      exact ⟨rn [], ⟨⟨⟨_, rfl, vle_bool (by grind [msgB, noAddB, noNoteB, upToB, entryB])⟩, trivial⟩, trivial, trivial, rfl⟩⟩
    try simp only [tdy] at h91
    exact ⟨rn [], ⟨⟨⟨_, rfl, vle_bool (by grind [msgB, noAddB, noNoteB, upToB, entryB])⟩, trivial⟩, trivial, trivial, rfl⟩⟩
  try simp only [tdy] at h30
  refine AL_g rfl rfl (x_field (off := 9) (o' := 9) rfl rfl rfl (by kernel_rfl) rfl) ?_
  refine AL_g rfl rfl (x_field (off := 0) (o' := 9) rfl rfl rfl (by kernel_rfl) rfl) ?_
  refine AL_g rfl rfl (x_load1 rfl rfl rfl (by kernel_rfl) rfl) ?_
  refine AL_g rfl rfl (x_len (E := 3) (n := 1) rfl rfl (by kernel_rfl)) ?_
  refine AL_gb rfl rfl (x_eql rfl rfl rfl) (fun b37 h37 => ?_)
  refine AL_p (x_pickT rfl rfl rfl) ?_
  refine AL_p (x_assign rfl rfl) ?_
  refine AL_nil ?_
  refine AW_seq ?_
  refine AW_seq ?_
  refine AW_region ?_
  refine AL_p (x_field (off := 0) (o' := 0) rfl rfl rfl (by kernel_rfl) rfl) ?_
  refine AL_p (x_load1 rfl rfl rfl (by kernel_rfl) rfl) ?_
  refine AL_nil ?_
  refine AW_block ?_
  refine AW_seq ?_
  refine AW_seq ?_
  refine AW_region ?_
  refine AL_b (x_eql rfl rfl rfl) (fun b42 h42 => ?_)
  refine AL_p (x_assign rfl rfl) ?_
  refine AL_nil ?_
  cases b42
  rotate_left
  · try simp only [tdy] at h42
    refine AW_condT rfl ?_
    refine AW_skip ?_
    refine AW_condT rfl ?_
    refine AW_seq ?_
    refine AW_region ?_
    refine AL_p (x_field (off := 3) (o' := 3) rfl rfl rfl (by kernel_rfl) rfl) ?_
    refine AL_p (x_load1 rfl rfl rfl (by kernel_rfl) rfl) ?_
    refine AL_b (x_eql rfl rfl rfl) (fun b47 h47 => ?_)
    refine AL_p (x_move rfl rfl) ?_
    cases b47
    · try simp only [tdy] at h47
      refine AL_o rfl rfl rfl rfl ?_
      refine AL_p (x_pickF rfl rfl rfl) ?_
      refine AL_p (x_move rfl rfl) ?_
      refine AL_o rfl rfl rfl rfl ?_
      refine AL_p (x_pickF rfl rfl rfl) ?_
      refine AL_p (x_assign rfl rfl) ?_
      refine AL_nil ?_
      refine AW_ret (BQ_ret ?_)
      exact ⟨rn [], ⟨⟨⟨_, rfl, vle_bool (by grind [msgB, noAddB, noNoteB, upToB, entryB])⟩, trivial⟩, trivial, trivial, rfl⟩⟩
    try simp only [tdy] at h47
    refine AL_g rfl rfl (x_move rfl rfl) ?_
    refine AL_p (x_pickT rfl rfl rfl) ?_
    refine AL_p (x_move rfl rfl) ?_
    cases b27
    · try simp only [tdy] at h27
      refine AL_o rfl rfl rfl rfl ?_
      refine AL_p (x_pickF rfl rfl rfl) ?_
      refine AL_p (x_assign rfl rfl) ?_
      refine AL_nil ?_
      refine AW_ret (BQ_ret ?_)
      exact ⟨rn [], ⟨⟨⟨_, rfl, vle_bool (by grind [msgB, noAddB, noNoteB, upToB, entryB])⟩, trivial⟩, trivial, trivial, rfl⟩⟩
    try simp only [tdy] at h27
    refine AL_g rfl rfl (x_move rfl rfl) ?_
    refine AL_p (x_pickT rfl rfl rfl) ?_
    refine AL_p (x_assign rfl rfl) ?_
    refine AL_nil ?_
    refine AW_ret (BQ_ret ?_)
    cases b37
    rotate_left
    · try simp only [tdy] at h37
      exact ⟨rn [], ⟨⟨⟨_, rfl, vle_bool (by grind [msgB, noAddB, noNoteB, upToB, entryB])⟩, trivial⟩, trivial, trivial, rfl⟩⟩
    try simp only [tdy] at h37
    exact ⟨rn [], ⟨⟨⟨_, rfl, vle_bool (by grind [msgB, noAddB, noNoteB, upToB, entryB])⟩, trivial⟩, trivial, trivial, rfl⟩⟩
  try simp only [tdy] at h42
  refine AW_condF rfl ?_
  refine AW_seq ?_
  refine AW_region ?_
  refine AL_b (x_eql rfl rfl rfl) (fun b43 h43 => ?_)
  refine AL_p (x_assign rfl rfl) ?_
  refine AL_nil ?_
  cases b43
  rotate_left
  · try simp only [tdy] at h43
    refine AW_condT rfl ?_
    refine AW_skip ?_
    refine AW_condT rfl ?_
    refine AW_seq ?_
    refine AW_region ?_
    refine AL_p (x_field (off := 3) (o' := 3) rfl rfl rfl (by kernel_rfl) rfl) ?_
    refine AL_p (x_load1 rfl rfl rfl (by kernel_rfl) rfl) ?_
    refine AL_b (x_eql rfl rfl rfl) (fun b47 h47 => ?_)
    refine AL_p (x_move rfl rfl) ?_
    cases b47
    · try simp only [tdy] at h47
      refine AL_o rfl rfl rfl rfl ?_
      refine AL_p (x_pickF rfl rfl rfl) ?_
      refine AL_p (x_move rfl rfl) ?_
      refine AL_o rfl rfl rfl rfl ?_
      refine AL_p (x_pickF rfl rfl rfl) ?_
      refine AL_p (x_assign rfl rfl) ?_
      refine AL_nil ?_
      refine AW_ret (BQ_ret ?_)
      exact ⟨rn [], ⟨⟨⟨_, rfl, vle_bool (by grind [msgB, noAddB, noNoteB, upToB, entryB])⟩, trivial⟩, trivial, trivial, rfl⟩⟩
    try simp only [tdy] at h47
    refine AL_g rfl rfl (x_move rfl rfl) ?_
    refine AL_p (x_pickT rfl rfl rfl) ?_
    refine AL_p (x_move rfl rfl) ?_
    cases b27
    · try simp only [tdy] at h27
      refine AL_o rfl rfl rfl rfl ?_
      refine AL_p (x_pickF rfl rfl rfl) ?_
      refine AL_p (x_assign rfl rfl) ?_
      refine AL_nil ?_
      refine AW_ret (BQ_ret ?_)
      exact ⟨rn [], ⟨⟨⟨_, rfl, vle_bool (by grind [msgB, noAddB, noNoteB, upToB, entryB])⟩, trivial⟩, trivial, trivial, rfl⟩⟩
    try simp only [tdy] at h27
    refine AL_g rfl rfl (x_move rfl rfl) ?_
    refine AL_p (x_pickT rfl rfl rfl) ?_
    refine AL_p (x_assign rfl rfl) ?_
    refine AL_nil ?_
    refine AW_ret (BQ_ret ?_)
    cases b37
    rotate_left
    · try simp only [tdy] at h37
      exact ⟨rn [], ⟨⟨⟨_, rfl, vle_bool (by grind [msgB, noAddB, noNoteB, upToB, entryB])⟩, trivial⟩, trivial, trivial, rfl⟩⟩
    try simp only [tdy] at h37
    exact ⟨rn [], ⟨⟨⟨_, rfl, vle_bool (by grind [msgB, noAddB, noNoteB, upToB, entryB])⟩, trivial⟩, trivial, trivial, rfl⟩⟩
  try simp only [tdy] at h43
  refine AW_condF rfl ?_
  refine AW_region ?_
  refine AL_b (x_eql rfl rfl rfl) (fun b44 h44 => ?_)
  refine AL_p (x_assign rfl rfl) ?_
  refine AL_nil ?_
  cases b44
  rotate_left
  · try simp only [tdy] at h44
    refine AW_condT rfl ?_
    refine AW_seq ?_
    refine AW_region ?_
    refine AL_p (x_field (off := 3) (o' := 3) rfl rfl rfl (by kernel_rfl) rfl) ?_
    refine AL_p (x_load1 rfl rfl rfl (by kernel_rfl) rfl) ?_
    refine AL_b (x_eql rfl rfl rfl) (fun b47 h47 => ?_)
    refine AL_p (x_move rfl rfl) ?_
    cases b47
    · try simp only [tdy] at h47
      refine AL_o rfl rfl rfl rfl ?_
      refine AL_p (x_pickF rfl rfl rfl) ?_
      refine AL_p (x_move rfl rfl) ?_
      refine AL_o rfl rfl rfl rfl ?_
      refine AL_p (x_pickF rfl rfl rfl) ?_
      refine AL_p (x_assign rfl rfl) ?_
      refine AL_nil ?_
      refine AW_ret (BQ_ret ?_)
      exact ⟨rn [], ⟨⟨⟨_, rfl, vle_bool (by grind [msgB, noAddB, noNoteB, upToB, entryB])⟩, trivial⟩, trivial, trivial, rfl⟩⟩
    try simp only [tdy] at h47
    refine AL_g rfl rfl (x_move rfl rfl) ?_
    refine AL_p (x_pickT rfl rfl rfl) ?_
    refine AL_p (x_move rfl rfl) ?_
    cases b27
    · try simp only [tdy] at h27
      refine AL_o rfl rfl rfl rfl ?_
      refine AL_p (x_pickF rfl rfl rfl) ?_
      refine AL_p (x_assign rfl rfl) ?_
      refine AL_nil ?_
      refine AW_ret (BQ_ret ?_)
      exact ⟨rn [], ⟨⟨⟨_, rfl, vle_bool (by grind [msgB, noAddB, noNoteB, upToB, entryB])⟩, trivial⟩, trivial, trivial, rfl⟩⟩
    try simp only [tdy] at h27
    refine AL_g rfl rfl (x_move rfl rfl) ?_
    refine AL_p (x_pickT rfl rfl rfl) ?_
    refine AL_p (x_assign rfl rfl) ?_
    refine AL_nil ?_
    refine AW_ret (BQ_ret ?_)
    cases b37
    rotate_left
    · try simp only [tdy] at h37
      exact ⟨rn [], ⟨⟨⟨_, rfl, vle_bool (by grind [msgB, noAddB, noNoteB, upToB, entryB])⟩, trivial⟩, trivial, trivial, rfl⟩⟩
    try simp only [tdy] at h37
    exact ⟨rn [], ⟨⟨⟨_, rfl, vle_bool (by grind [msgB, noAddB, noNoteB, upToB, entryB])⟩, trivial⟩, trivial, trivial, rfl⟩⟩
  try simp only [tdy] at h44
  refine AW_condF rfl ?_
  refine AW_seq ?_
  refine AW_region ?_
  refine AL_b (x_eql rfl rfl rfl) (fun b55 h55 => ?_)
  refine AL_p (x_assign rfl rfl) ?_
  refine AL_nil ?_
  cases b55
  rotate_left
  · try simp only [tdy] at h55
    refine AW_condT rfl ?_
    refine AW_seq ?_
    refine AW_region ?_
    refine AL_p (x_field (off := 3) (o' := 3) rfl rfl rfl (by kernel_rfl) rfl) ?_
    refine AL_p (x_load1 rfl rfl rfl (by kernel_rfl) rfl) ?_
    refine AL_p (x_field (off := 4) (o' := 4) rfl rfl rfl (by kernel_rfl) rfl) ?_
    refine AL_p (x_load1 rfl rfl rfl (by kernel_rfl) rfl) ?_
    refine AL_p (x_field (off := 5) (o' := 5) rfl rfl rfl (by kernel_rfl) rfl) ?_
    refine AL_p (x_loadN (n := 2) rfl rfl rfl (by kernel_rfl) rfl rfl) ?_
    refine AL_p (x_field (off := 7) (o' := 7) rfl rfl rfl (by kernel_rfl) rfl) ?_
    refine AL_p (x_load1 rfl rfl rfl (by kernel_rfl) rfl) ?_
    refine AL_p (x_build (zs := [.int .i64 0, .int .i64 0, .slice none 0 0, .slice none 0 0, .slice none 0 0, .int .i64 0]) (places := [(0, 1), (1, 1), (2, 2), (4, 1), (5, 1)]) rfl (by kernel_rfl) rfl rfl rfl rfl rfl) ?_
    refine AL_b (x_call0 rfl rfl rfl (entryI_c _ _ 0 m.mat m.acts) rfl rfl) (fun b65 h65 => ?_)
    refine AL_p (x_move rfl rfl) ?_
    cases b65
    · try simp only [tdy] at h65
      refine AL_o rfl rfl rfl rfl ?_
      refine AL_p (x_pickF rfl rfl rfl) ?_
      refine AL_p (x_assign rfl rfl) ?_
      refine AL_nil ?_
      refine AW_ret (BQ_ret ?_)
      exact ⟨rn [], ⟨⟨⟨_, rfl, vle_bool (by grind [msgB, noAddB, noNoteB, upToB, entryB])⟩, trivial⟩, trivial, trivial, rfl⟩⟩
    try simp only [tdy] at h65
    refine AL_g rfl rfl (x_move rfl rfl) ?_
    refine AL_p (x_pickT rfl rfl rfl) ?_
    refine AL_p (x_assign rfl rfl) ?_
    refine AL_nil ?_
    refine AW_ret (BQ_ret ?_)
    cases b37
    rotate_left
    · try simp only [tdy] at h37
      exact ⟨rn [], ⟨⟨⟨_, rfl, vle_bool (by grind [msgB, noAddB, noNoteB, upToB, entryB])⟩, trivial⟩, trivial, trivial, rfl⟩⟩
    try simp only [tdy] at h37
    exact ⟨rn [], ⟨⟨⟨_, rfl, vle_bool (by grind [msgB, noAddB, noNoteB, upToB, entryB])⟩, trivial⟩, trivial, trivial, rfl⟩⟩
  try simp only [tdy] at h55
  refine AW_condF rfl ?_
  refine AW_seq ?_
  refine AW_region ?_
  refine AL_b (x_eql rfl rfl rfl) (fun b70 h70 => ?_)
  refine AL_p (x_assign rfl rfl) ?_
  refine AL_nil ?_
  cases b70
  rotate_left
  · try simp only [tdy] at h70
    refine AW_condT rfl ?_
    refine AW_seq ?_
    refine AW_region ?_
    refine AL_p (x_field (off := 3) (o' := 3) rfl rfl rfl (by kernel_rfl) rfl) ?_
    refine AL_p (x_load1 rfl rfl rfl (by kernel_rfl) rfl) ?_
    refine AL_b (x_call0 rfl rfl rfl (upToI_c _ _) rfl rfl) (fun b73 h73 => ?_)
    refine AL_p (x_move rfl rfl) ?_
    cases b73
    · try simp only [tdy] at h73
      refine AL_o rfl rfl rfl rfl ?_
      refine AL_p (x_pickF rfl rfl rfl) ?_
      refine AL_p (x_move rfl rfl) ?_
      refine AL_o rfl rfl rfl rfl ?_
      refine AL_p (x_pickF rfl rfl rfl) ?_
      refine AL_p (x_assign rfl rfl) ?_
      refine AL_nil ?_
      refine AW_ret (BQ_ret ?_)
      exact ⟨rn [], ⟨⟨⟨_, rfl, vle_bool (by grind [msgB, noAddB, noNoteB, upToB, entryB])⟩, trivial⟩, trivial, trivial, rfl⟩⟩
    try simp only [tdy] at h73
    refine AL_g rfl rfl (x_move rfl rfl) ?_
    refine AL_p (x_pickT rfl rfl rfl) ?_
    refine AL_p (x_move rfl rfl) ?_
    cases b27
    · try simp only [tdy] at h27
      refine AL_o rfl rfl rfl rfl ?_
      refine AL_p (x_pickF rfl rfl rfl) ?_
      refine AL_p (x_assign rfl rfl) ?_
      refine AL_nil ?_
      refine AW_ret (BQ_ret ?_)
      exact ⟨rn [], ⟨⟨⟨_, rfl, vle_bool (by grind [msgB, noAddB, noNoteB, upToB, entryB])⟩, trivial⟩, trivial, trivial, rfl⟩⟩
    try simp only [tdy] at h27
    refine AL_g rfl rfl (x_move rfl rfl) ?_
    refine AL_p (x_pickT rfl rfl rfl) ?_
    refine AL_p (x_assign rfl rfl) ?_
    refine AL_nil ?_
    refine AW_ret (BQ_ret ?_)
    cases b37
    rotate_left
    · try simp only [tdy] at h37
      exact ⟨rn [], ⟨⟨⟨_, rfl, vle_bool (by grind [msgB, noAddB, noNoteB, upToB, entryB])⟩, trivial⟩, trivial, trivial, rfl⟩⟩
    try simp only [tdy] at h37
    exact ⟨rn [], ⟨⟨⟨_, rfl, vle_bool (by grind [msgB, noAddB, noNoteB, upToB, entryB])⟩, trivial⟩, trivial, trivial, rfl⟩⟩
  try simp only [tdy] at h70
  refine AW_condF rfl ?_
  refine AW_seq ?_
  refine AW_region ?_
  refine AL_b (x_eql rfl rfl rfl) (fun b81 h81 => ?_)
  refine AL_p (x_assign rfl rfl) ?_
  refine AL_nil ?_
  cases b81
  · try simp only [tdy] at h81
    refine AW_condF rfl ?_
    refine AW_skip ?_
    refine AW_seq ?_
    refine AW_region ?_
    refine AL_p (x_assign rfl rfl) ?_
    refine AL_nil ?_
    refine AW_ret ?_
    exact ⟨rn [], ⟨⟨⟨_, rfl, vle_bool (by grind [msgB, noAddB, noNoteB, upToB, entryB])⟩, trivial⟩, trivial, trivial, rfl⟩⟩
  try simp only [tdy] at h81
  refine AW_condT rfl ?_
  refine AW_seq ?_
  refine AW_region ?_
  refine AL_p (x_field (off := 3) (o' := 3) rfl rfl rfl (by kernel_rfl) rfl) ?_
  refine AL_p (x_load1 rfl rfl rfl (by kernel_rfl) rfl) ?_
  refine AL_b (x_eql rfl rfl rfl) (fun b84 h84 => ?_)
  refine AL_p (x_move rfl rfl) ?_
  cases b84
  · try simp only [tdy] at h84
    refine AL_o rfl rfl rfl rfl ?_
    refine AL_p (x_pickF rfl rfl rfl) ?_
    refine AL_p (x_move rfl rfl) ?_
    refine AL_o rfl rfl rfl rfl ?_
    refine AL_o rfl rfl rfl rfl ?_
    refine AL_o rfl rfl rfl rfl ?_
    refine AL_p (x_pickF rfl rfl rfl) ?_
    refine AL_p (x_assign rfl rfl) ?_
    refine AL_nil ?_
    refine AW_ret (BQ_ret ?_)
    exact ⟨rn [], ⟨⟨⟨_, rfl, vle_bool (by grind [msgB, noAddB, noNoteB, upToB, entryB])⟩, trivial⟩, trivial, trivial, rfl⟩⟩
  try simp only [tdy] at h84
  refine AL_g rfl rfl (x_move rfl rfl) ?_
  refine AL_p (x_pickT rfl rfl rfl) ?_
  refine AL_p (x_move rfl rfl) ?_
  cases b27
  · try simp only [tdy] at h27
    refine AL_o rfl rfl rfl rfl ?_
    refine AL_o rfl rfl rfl rfl ?_
    refine AL_o rfl rfl rfl rfl ?_
    refine AL_p (x_pickF rfl rfl rfl) ?_
    refine AL_p (x_assign rfl rfl) ?_
    refine AL_nil ?_
    refine AW_ret (BQ_ret ?_)
    exact ⟨rn [], ⟨⟨⟨_, rfl, vle_bool (by grind [msgB, noAddB, noNoteB, upToB, entryB])⟩, trivial⟩, trivial, trivial, rfl⟩⟩
  try simp only [tdy] at h27
  refine AL_g rfl rfl (x_field (off := 9) (o' := 9) rfl rfl rfl (by kernel_rfl) rfl) ?_
  refine AL_g rfl rfl (x_loadN (n := 1) rfl rfl rfl (by kernel_rfl) rfl rfl) ?_
  refine AL_gb rfl rfl (x_call0 rfl rfl rfl (headI_c _) rfl rfl) (fun b91 h91 => ?_)
  refine AL_p (x_pickT rfl rfl rfl) ?_
  refine AL_p (x_assign rfl rfl) ?_
  refine AL_nil ?_
  refine AW_ret (BQ_ret ?_)
  cases b91
  rotate_left
  · try simp only [tdy] at h91
    exact ⟨rn [], ⟨⟨⟨_, rfl, vle_bool (by grind [msgB, noAddB, noNoteB, upToB, entryB])⟩, trivial⟩, trivial, trivial, rfl⟩⟩
  try simp only [tdy] at h91
  exact ⟨rn [], ⟨⟨⟨_, rfl, vle_bool (by grind [msgB, noAddB, noNoteB, upToB, entryB])⟩, trivial⟩, trivial, trivial, rfl⟩⟩
end Go.Proofs.Ytfdpigafekohgaa

/- Lemmas of the walks, part 5. -/
import Derived.Test.YtibhoanjglfaoaaGreatP4
import Derived.Laws.CopyRow
import Derived.Laws.Small
/- Deltas (printed by walk.py) -/
namespace Go.Proofs.YtibhoanjglfaoaaGreat
open Go.RowKit
set_option linter.unusedVariables false
set_option linter.unusedSimpArgs false
set_option maxRecDepth 100000

set_option maxHeartbeats 4000000 in
theorem apartS_c (a b : Relt) (ha : smallRel a) (hb : smallRel b) : AC Tryz.prog 52 [.agg (relC a), .agg (relC b)] [] (.one (.c (.bool (apart a b)))) [] := by
  refine AC_body1 Tryz.func52 rfl rfl Tryz.ntmps52 rfl Tryz.results52 ?_
  refine AW_seq ?_
  refine AW_region ?_
  refine AL_p (x_box 100 rfl rfl rfl rfl rfl rfl rfl) ?_
  refine AL_p (x_box 101 rfl rfl rfl rfl rfl rfl rfl) ?_
  refine AL_p (x_assign rfl rfl) ?_
  refine AL_nil ?_
  refine AW_seq ?_
  refine AW_region ?_
  refine AL_p (x_loadN (n := 2) rfl rfl rfl (by kernel_rfl) rfl rfl) ?_
  refine AL_p (x_loadN (n := 2) rfl rfl rfl (by kernel_rfl) rfl rfl) ?_
  refine AL_p (x_call1 rfl rfl rfl (siftS_c a b true ha hb 102) rfl rfl rfl rfl) ?_
  refine AL_p (x_fldv (off := 1) rfl rfl (by kernel_rfl) rfl) ?_
  refine AL_p (x_olen (E := 72) (n := 1) rfl rfl rfl (by kernel_rfl)) ?_
  refine AL_b (x_eql rfl rfl rfl) (fun b10 h10 => ?_)
  refine AL_p (x_assign rfl rfl) ?_
  refine AL_nil ?_
  refine AW_ret ?_
  cases b10
  rotate_left
  · try simp only [tdy] at h10
    exact ⟨rn [], ⟨⟨⟨_, rfl, vle_bool (by first | exact (apart_iff.2 (by simpa using h10)).symm | ((refine (apart_not ?_).symm; simp only [beq_true] at h10; omega)))⟩, trivial⟩, trivial, trivial, rfl⟩⟩
  try simp only [tdy] at h10
  exact ⟨rn [], ⟨⟨⟨_, rfl, vle_bool (by first | exact (apart_iff.2 (by simpa using h10)).symm | ((refine (apart_not ?_).symm; simp only [beq_true] at h10; omega)))⟩, trivial⟩, trivial, trivial, rfl⟩⟩

set_option maxHeartbeats 4000000 in
theorem deltaOkS_c (s : Deltat) (hs : smallDelta s) : AC Tryz.prog 50 [.agg (deltaC s)] [] (.one (.c (.bool (deltaOk s)))) [] := by
  refine AC_body1 Tryz.func50 rfl rfl Tryz.ntmps50 rfl Tryz.results50 ?_
  refine AW_seq ?_
  refine AW_region ?_
  refine AL_p (x_box 100 rfl rfl rfl rfl rfl rfl rfl) ?_
  refine AL_p (x_assign rfl rfl) ?_
  refine AL_nil ?_
  refine AW_seq ?_
  refine AW_seq ?_
  refine AW_region ?_
  refine AL_p (x_field (off := 0) (o' := 0) rfl rfl rfl (by kernel_rfl) rfl) ?_
  refine AL_p (x_load1 rfl rfl rfl (by kernel_rfl) rfl) ?_
  refine AL_p (x_len (E := 65) (n := 5) rfl rfl (by kernel_rfl)) ?_
  refine AL_b (x_gtr rfl rfl rfl) (fun b8 h8 => ?_)
  refine AL_nil ?_
  cases b8
  rotate_left
  · try simp only [tdy] at h8
    refine AW_condT rfl ?_
    refine AW_seq ?_
    refine AW_region ?_
    refine AL_p (x_assign rfl rfl) ?_
    refine AL_nil ?_
    refine AW_ret ?_
    exact ⟨rn [], ⟨⟨⟨_, rfl, vle_bool (by first | exact (deltaOk_len (by omega)).symm | exact (deltaOk_bad (k := k) (by omega) (changeAt_word (by omega) h19)).symm | exact (deltaOk_bad (k := k) (by omega) (changeAt_order (by omega) (by omega) h34)).symm | exact (deltaOk_bad (k := k) (by omega) (changeAt_two (by omega) h42)).symm | exact (deltaOk_bad (k := k) (by omega) (changeAt_none (by omega) (by omega))).symm | exact (deltaOk_bad (k := k) (by omega) (changeAt_apart (by omega) h49)).symm | exact (deltaOk_good hA (by omega) (by omega)).symm | exact (deltaOk_good hA (by omega) (by simpa using h67)).symm)⟩, trivial⟩, trivial, trivial, rfl⟩⟩
  try simp only [tdy] at h8
  refine AW_condF rfl ?_
  refine AW_skip ?_
  refine AW_seq ?_
  refine AW_seq ?_
  refine AW_region ?_
  refine AL_p (x_field (off := 0) (o' := 0) rfl rfl rfl (by kernel_rfl) rfl) ?_
  refine AL_p (x_load1 rfl rfl rfl (by kernel_rfl) rfl) ?_
  refine AL_p (x_len (E := 65) (n := 5) rfl rfl (by kernel_rfl)) ?_
  refine AL_p (x_move rfl rfl) ?_
  refine AL_nil ?_
  refine AW_block ?_
  refine AW_loop2 (ι := {q : Nat // q ≤ s.changes.length ∧ AllAt (changeAt s.changes) q}) (fun p => [(12, .one (.c (.int .i64 ((p.1) : Int))))]) (fun p => []) [1, 10, 11] [100] (fun p => s.changes.length - (p.1)) ⟨0, ⟨by have := hs.1; omega, .zero⟩⟩ (rn []) ?_ ?_
  exact ⟨by (repeat refine ⟨⟨_, rfl, by first | exact VLe.rf | exact vle_int (by dsimp only; omega)⟩, ?_⟩); exact trivial, by (repeat refine ⟨⟨_, rfl, by first | exact BLe.rf | exact BLe.box AllC.rf | exact BLe.arr (by exact rfl)⟩, ?_⟩); exact trivial, by repeat (first | exact trivial | refine ⟨⟨rfl, by first | (left; intro h; cases h) | (right; rfl), by first | exact (fun _ h => ⟨_, h⟩) | exact (fun _ _ => ⟨_, rfl⟩)⟩, ?_⟩), rfl⟩
  rintro ⟨k, hinv⟩
  dsimp only
  obtain ⟨hk, hA⟩ := hinv
  have hl := hs.1
  refine AW_seq ?_
  refine AW_region ?_
  refine AL_b (x_lss rfl rfl rfl) (fun b13 h13 => ?_)
  refine AL_nil ?_
  refine AW_seq ?_
  cases b13
  · try simp only [tdy] at h13
    refine AW_condF rfl ?_
    refine AW_exit (BQ_hit ?_)
    refine AW_seq ?_
    refine AW_region ?_
    refine AL_p (x_assign rfl rfl) ?_
    refine AL_nil ?_
    refine AW_ret ?_
    exact ⟨rn [], ⟨⟨⟨_, rfl, vle_bool (by first | exact (deltaOk_len (by omega)).symm | exact (deltaOk_bad (k := k) (by omega) (changeAt_word (by omega) h19)).symm | exact (deltaOk_bad (k := k) (by omega) (changeAt_order (by omega) (by omega) h34)).symm | exact (deltaOk_bad (k := k) (by omega) (changeAt_two (by omega) h42)).symm | exact (deltaOk_bad (k := k) (by omega) (changeAt_none (by omega) (by omega))).symm | exact (deltaOk_bad (k := k) (by omega) (changeAt_apart (by omega) h49)).symm | exact (deltaOk_good hA (by omega) (by omega)).symm | exact (deltaOk_good hA (by omega) (by simpa using h67)).symm)⟩, trivial⟩, trivial, trivial, rfl⟩⟩
  try simp only [tdy] at h13
  refine AW_condT rfl ?_
  refine AW_skip ?_
  refine AW_seq ?_
  refine AW_block ?_
  refine AW_seq ?_
  refine AW_region ?_
  refine AL_p (x_move rfl rfl) ?_
  refine AL_p (x_index (E := 65) (n := 5) rfl rfl rfl (by kernel_rfl) rfl (k := k) (by omega) (by omega)) ?_
  refine AL_p (x_eloadW (n := 5) rfl rfl (by kernel_rfl) rfl) ?_
  refine AL_p (x_alloc (z := .agg #[.string ⟨#[]⟩, .int .i64 0, .slice none 0 0, .int .i64 0, .slice none 0 0]) 101 rfl (by kernel_rfl) rfl rfl rfl rfl) ?_
  refine AL_p (x_assign rfl rfl) ?_
  refine AL_p (x_store (n := 5) rfl rfl rfl rfl (by kernel_rfl) rfl rfl rfl) ?_
  refine AL_nil ?_
  refine AW_seq ?_
  refine AW_seq ?_
  refine AW_draw rfl ?_
  refine AL_p (x_field (off := 0) (o' := 0) rfl rfl rfl (by kernel_rfl) rfl) ?_
  refine AL_p (x_load1 rfl rfl rfl (by kernel_rfl) rfl) ?_
  refine AL_b (x_call0 rfl rfl rfl (wordOkS_c _) rfl rfl) (fun b19 h19 => ?_)
  refine AL_p (x_not rfl rfl) ?_
  refine AL_p (x_move rfl rfl) ?_
  cases b19
  · try simp only [tdy] at h19
    refine AL_o rfl rfl rfl rfl ?_
    refine AL_o rfl rfl rfl rfl ?_
    refine AL_o rfl rfl rfl rfl ?_
    refine AL_u rfl rfl rfl ?_
    refine AL_u rfl rfl rfl ?_
    refine AL_u rfl rfl rfl ?_
    refine AL_u rfl rfl rfl ?_
    refine AL_u rfl rfl rfl ?_
    refine AL_u rfl rfl rfl ?_
    refine AL_u rfl rfl rfl ?_
    refine AL_u rfl rfl rfl ?_
    refine AL_u rfl rfl rfl ?_
    refine AL_u rfl rfl rfl ?_
    refine AL_o rfl rfl rfl rfl ?_
    refine AL_p (x_pickT rfl rfl rfl) ?_
    refine AL_p (x_move rfl rfl) ?_
    refine AL_o rfl rfl rfl rfl ?_
    refine AL_o rfl rfl rfl rfl ?_
    refine AL_o rfl rfl rfl rfl ?_
    refine AL_o rfl rfl rfl rfl ?_
    refine AL_o rfl rfl rfl rfl ?_
    refine AL_o rfl rfl rfl rfl ?_
    refine AL_p (x_pickT rfl rfl rfl) ?_
    refine AL_nild (by kernel_rfl) ?_
    refine AW_condT rfl ?_
    refine AW_seq ?_
    refine AW_region ?_
    refine AL_p (x_assign rfl rfl) ?_
    refine AL_nil ?_
    refine AW_ret (BQ_ret (BQ_ret ?_))
    exact ⟨rn [], ⟨⟨⟨_, rfl, vle_bool (by first | exact (deltaOk_len (by omega)).symm | exact (deltaOk_bad (k := k) (by omega) (changeAt_word (by omega) h19)).symm | exact (deltaOk_bad (k := k) (by omega) (changeAt_order (by omega) (by omega) h34)).symm | exact (deltaOk_bad (k := k) (by omega) (changeAt_two (by omega) h42)).symm | exact (deltaOk_bad (k := k) (by omega) (changeAt_none (by omega) (by omega))).symm | exact (deltaOk_bad (k := k) (by omega) (changeAt_apart (by omega) h49)).symm | exact (deltaOk_good hA (by omega) (by omega)).symm | exact (deltaOk_good hA (by omega) (by simpa using h67)).symm)⟩, trivial⟩, trivial, trivial, rfl⟩⟩
  try simp only [tdy] at h19
  refine AL_g rfl rfl (x_move rfl rfl) ?_
  refine AL_gb rfl rfl (x_gtr rfl rfl rfl) (fun b23 h23 => ?_)
  refine AL_g rfl rfl (x_move rfl rfl) ?_
  cases b23
  · try simp only [tdy] at h23
    refine AL_o rfl rfl rfl rfl ?_
    refine AL_o rfl rfl rfl rfl ?_
    refine AL_o rfl rfl rfl rfl ?_
    refine AL_o rfl rfl rfl rfl ?_
    refine AL_o rfl rfl rfl rfl ?_
    refine AL_o rfl rfl rfl rfl ?_
    refine AL_o rfl rfl rfl rfl ?_
    refine AL_o rfl rfl rfl rfl ?_
    refine AL_o rfl rfl rfl rfl ?_
    refine AL_o rfl rfl rfl rfl ?_
    refine AL_g rfl rfl (x_pickF rfl rfl rfl) ?_
    refine AL_p (x_pickF rfl rfl rfl) ?_
    refine AL_p (x_move rfl rfl) ?_
    refine AL_g rfl rfl (x_field (off := 1) (o' := 1) rfl rfl rfl (by kernel_rfl) rfl) ?_
    refine AL_g rfl rfl (x_loadN (n := 2) rfl rfl rfl (by kernel_rfl) rfl rfl) ?_
    refine AL_g rfl rfl (x_field (off := 3) (o' := 3) rfl rfl rfl (by kernel_rfl) rfl) ?_
    refine AL_g rfl rfl (x_loadN (n := 2) rfl rfl rfl (by kernel_rfl) rfl rfl) ?_
    refine AL_gb rfl rfl (x_call0 rfl rfl rfl (twoS_c (s.changes[k]'(by omega)).plus (s.changes[k]'(by omega)).minus (hs.2 (s.changes[k]'(by omega)) (List.getElem_mem _)).2.1 (hs.2 (s.changes[k]'(by omega)) (List.getElem_mem _)).2.2) rfl rfl) (fun b42 h42 => ?_)
    refine AL_g rfl rfl (x_not rfl rfl) ?_
    refine AL_p (x_pickF rfl rfl rfl) ?_
    refine AL_nild (by kernel_rfl) ?_
    cases b42
    · try simp only [tdy] at h42
      refine AW_condT rfl ?_
      refine AW_seq ?_
      refine AW_region ?_
      refine AL_p (x_assign rfl rfl) ?_
      refine AL_nil ?_
      refine AW_ret (BQ_ret (BQ_ret ?_))
      exact ⟨rn [], ⟨⟨⟨_, rfl, vle_bool (by first | exact (deltaOk_len (by omega)).symm | exact (deltaOk_bad (k := k) (by omega) (changeAt_word (by omega) h19)).symm | exact (deltaOk_bad (k := k) (by omega) (changeAt_order (by omega) (by omega) h34)).symm | exact (deltaOk_bad (k := k) (by omega) (changeAt_two (by omega) h42)).symm | exact (deltaOk_bad (k := k) (by omega) (changeAt_none (by omega) (by omega))).symm | exact (deltaOk_bad (k := k) (by omega) (changeAt_apart (by omega) h49)).symm | exact (deltaOk_good hA (by omega) (by omega)).symm | exact (deltaOk_good hA (by omega) (by simpa using h67)).symm)⟩, trivial⟩, trivial, trivial, rfl⟩⟩
    try simp only [tdy] at h42
    refine AW_condF rfl ?_
    refine AW_skip ?_
    refine AW_seq ?_
    refine AW_region ?_
    refine AL_p (x_field (off := 1) (o' := 1) rfl rfl rfl (by kernel_rfl) rfl) ?_
    refine AL_p (x_loadN (n := 2) rfl rfl rfl (by kernel_rfl) rfl rfl) ?_
    refine AL_p (x_field (off := 3) (o' := 3) rfl rfl rfl (by kernel_rfl) rfl) ?_
    refine AL_p (x_loadN (n := 2) rfl rfl rfl (by kernel_rfl) rfl rfl) ?_
    refine AL_b (x_call0 rfl rfl rfl (apartS_c (s.changes[k]'(by omega)).plus (s.changes[k]'(by omega)).minus (hs.2 (s.changes[k]'(by omega)) (List.getElem_mem _)).2.1 (hs.2 (s.changes[k]'(by omega)) (List.getElem_mem _)).2.2) rfl rfl) (fun b49 h49 => ?_)
    refine AL_p (x_not rfl rfl) ?_
    refine AL_p (x_move rfl rfl) ?_
    cases b49
    · try simp only [tdy] at h49
      refine AL_o rfl rfl rfl rfl ?_
      refine AL_o rfl rfl rfl rfl ?_
      refine AL_o rfl rfl rfl rfl ?_
      refine AL_o rfl rfl rfl rfl ?_
      refine AL_o rfl rfl rfl rfl ?_
      refine AL_o rfl rfl rfl rfl ?_
      refine AL_o rfl rfl rfl rfl ?_
      refine AL_o rfl rfl rfl rfl ?_
      refine AL_o rfl rfl rfl rfl ?_
      refine AL_o rfl rfl rfl rfl ?_
      refine AL_p (x_pickT rfl rfl rfl) ?_
      refine AL_nil ?_
      refine AW_condT rfl ?_
      refine AW_seq ?_
      refine AW_region ?_
      refine AL_p (x_assign rfl rfl) ?_
      refine AL_nil ?_
      refine AW_ret (BQ_ret (BQ_ret ?_))
      exact ⟨rn [], ⟨⟨⟨_, rfl, vle_bool (by first | exact (deltaOk_len (by omega)).symm | exact (deltaOk_bad (k := k) (by omega) (changeAt_word (by omega) h19)).symm | exact (deltaOk_bad (k := k) (by omega) (changeAt_order (by omega) (by omega) h34)).symm | exact (deltaOk_bad (k := k) (by omega) (changeAt_two (by omega) h42)).symm | exact (deltaOk_bad (k := k) (by omega) (changeAt_none (by omega) (by omega))).symm | exact (deltaOk_bad (k := k) (by omega) (changeAt_apart (by omega) h49)).symm | exact (deltaOk_good hA (by omega) (by omega)).symm | exact (deltaOk_good hA (by omega) (by simpa using h67)).symm)⟩, trivial⟩, trivial, trivial, rfl⟩⟩
    try simp only [tdy] at h49
    refine AL_g rfl rfl (x_field (off := 1) (o' := 1) rfl rfl rfl (by kernel_rfl) rfl) ?_
    refine AL_g rfl rfl (x_field (off := 1) (o' := 2) rfl rfl rfl (by kernel_rfl) rfl) ?_
    refine AL_g rfl rfl (x_load1 rfl rfl rfl (by kernel_rfl) rfl) ?_
    refine AL_g rfl rfl (x_len (E := 72) (n := 1) rfl rfl (by kernel_rfl)) ?_
    refine AL_g rfl rfl (x_field (off := 3) (o' := 3) rfl rfl rfl (by kernel_rfl) rfl) ?_
    refine AL_g rfl rfl (x_field (off := 1) (o' := 4) rfl rfl rfl (by kernel_rfl) rfl) ?_
    refine AL_g rfl rfl (x_load1 rfl rfl rfl (by kernel_rfl) rfl) ?_
    refine AL_g rfl rfl (x_len (E := 72) (n := 1) rfl rfl (by kernel_rfl)) ?_
    refine AL_g rfl rfl (x_add rfl rfl rfl (IntWalk.i64_in _ (by have := (hs.2 (s.changes[k]'(by omega)) (List.getElem_mem _)).2.1.1; have := (hs.2 (s.changes[k]'(by omega)) (List.getElem_mem _)).2.2.1; omega))) ?_
    refine AL_gb rfl rfl (x_eql rfl rfl rfl) (fun b61 h61 => ?_)
    refine AL_p (x_pickF rfl rfl rfl) ?_
    refine AL_nil ?_
    cases b61
    rotate_left
    · try simp only [tdy] at h61
      refine AW_condT rfl ?_
      refine AW_seq ?_
      refine AW_region ?_
      refine AL_p (x_assign rfl rfl) ?_
      refine AL_nil ?_
      refine AW_ret (BQ_ret (BQ_ret ?_))
      exact ⟨rn [], ⟨⟨⟨_, rfl, vle_bool (by first | exact (deltaOk_len (by omega)).symm | exact (deltaOk_bad (k := k) (by omega) (changeAt_word (by omega) h19)).symm | exact (deltaOk_bad (k := k) (by omega) (changeAt_order (by omega) (by omega) h34)).symm | exact (deltaOk_bad (k := k) (by omega) (changeAt_two (by omega) h42)).symm | exact (deltaOk_bad (k := k) (by omega) (changeAt_none (by omega) (by omega))).symm | exact (deltaOk_bad (k := k) (by omega) (changeAt_apart (by omega) h49)).symm | exact (deltaOk_good hA (by omega) (by omega)).symm | exact (deltaOk_good hA (by omega) (by simpa using h67)).symm)⟩, trivial⟩, trivial, trivial, rfl⟩⟩
    try simp only [tdy] at h61
    refine AW_condF rfl ?_
    refine AW_skip ?_
    refine AW_region ?_
    refine AL_p (x_add rfl rfl rfl (IntWalk.i64_in _ (by omega))) ?_
    refine AL_p (x_move rfl rfl) ?_
    refine AL_nil ?_
    refine ⟨⟨k + 1, ⟨by omega, hA.succ (by omega) (changeAt_good (by omega) h19 (fun h0 => by first | exact h34 | omega) h42 (by omega) h49)⟩⟩, rn [], ?_, by dsimp only; omega⟩
    exact ⟨by (repeat refine ⟨⟨_, rfl, by first | exact VLe.rf | exact vle_int (by dsimp only; omega)⟩, ?_⟩); exact trivial, by (repeat refine ⟨⟨_, rfl, by first | exact BLe.rf | exact BLe.box AllC.rf | exact BLe.arr (by exact rfl)⟩, ?_⟩); exact trivial, by repeat (first | exact trivial | refine ⟨⟨rfl, by first | (left; intro h; cases h) | (right; rfl), by first | exact (fun _ h => ⟨_, h⟩) | exact (fun _ _ => ⟨_, rfl⟩)⟩, ?_⟩), rfl⟩
  try simp only [tdy] at h23
  refine AL_g rfl rfl (x_field (off := 0) (o' := 0) rfl rfl rfl (by kernel_rfl) rfl) ?_
  refine AL_g rfl rfl (x_load1 rfl rfl rfl (by kernel_rfl) rfl) ?_
  refine AL_g rfl rfl (x_move rfl rfl) ?_
  refine AL_g rfl rfl (x_sub rfl rfl rfl (IntWalk.i64_in _ (by omega))) ?_
  refine AL_g rfl rfl (x_index (E := 65) (n := 5) rfl rfl rfl (by kernel_rfl) rfl (k := k - 1) (by omega) (by omega)) ?_
  refine AL_g rfl rfl (x_efield (off := 0) (o' := 0) rfl rfl (by kernel_rfl) rfl) ?_
  refine AL_g rfl rfl (x_eload1 rfl rfl (by kernel_rfl) rfl) ?_
  refine AL_g rfl rfl (x_field (off := 0) (o' := 0) rfl rfl rfl (by kernel_rfl) rfl) ?_
  refine AL_g rfl rfl (x_load1 rfl rfl rfl (by kernel_rfl) rfl) ?_
  refine AL_gb rfl rfl (x_sgeq rfl rfl rfl) (fun b34 h34 => ?_)
  refine AL_g rfl rfl (x_pickT rfl rfl rfl) ?_
  refine AL_p (x_pickF rfl rfl rfl) ?_
  refine AL_p (x_move rfl rfl) ?_
  cases b34
  rotate_left
  · try simp only [tdy] at h34
    refine AL_o rfl rfl rfl rfl ?_
    refine AL_o rfl rfl rfl rfl ?_
    refine AL_o rfl rfl rfl rfl ?_
    refine AL_o rfl rfl rfl rfl ?_
    refine AL_o rfl rfl rfl rfl ?_
    refine AL_o rfl rfl rfl rfl ?_
    refine AL_p (x_pickT rfl rfl rfl) ?_
    refine AL_nild (by kernel_rfl) ?_
    refine AW_condT rfl ?_
    refine AW_seq ?_
    refine AW_region ?_
    refine AL_p (x_assign rfl rfl) ?_
    refine AL_nil ?_
    refine AW_ret (BQ_ret (BQ_ret ?_))
    exact ⟨rn [], ⟨⟨⟨_, rfl, vle_bool (by first | exact (deltaOk_len (by omega)).symm | exact (deltaOk_bad (k := k) (by omega) (changeAt_word (by omega) h19)).symm | exact (deltaOk_bad (k := k) (by omega) (changeAt_order (by omega) (by omega) h34)).symm | exact (deltaOk_bad (k := k) (by omega) (changeAt_two (by omega) h42)).symm | exact (deltaOk_bad (k := k) (by omega) (changeAt_none (by omega) (by omega))).symm | exact (deltaOk_bad (k := k) (by omega) (changeAt_apart (by omega) h49)).symm | exact (deltaOk_good hA (by omega) (by omega)).symm | exact (deltaOk_good hA (by omega) (by simpa using h67)).symm)⟩, trivial⟩, trivial, trivial, rfl⟩⟩
  try simp only [tdy] at h34
  refine AL_g rfl rfl (x_field (off := 1) (o' := 1) rfl rfl rfl (by kernel_rfl) rfl) ?_
  refine AL_g rfl rfl (x_loadN (n := 2) rfl rfl rfl (by kernel_rfl) rfl rfl) ?_
  refine AL_g rfl rfl (x_field (off := 3) (o' := 3) rfl rfl rfl (by kernel_rfl) rfl) ?_
  refine AL_g rfl rfl (x_loadN (n := 2) rfl rfl rfl (by kernel_rfl) rfl rfl) ?_
  refine AL_gb rfl rfl (x_call0 rfl rfl rfl (twoS_c (s.changes[k]'(by omega)).plus (s.changes[k]'(by omega)).minus (hs.2 (s.changes[k]'(by omega)) (List.getElem_mem _)).2.1 (hs.2 (s.changes[k]'(by omega)) (List.getElem_mem _)).2.2) rfl rfl) (fun b42 h42 => ?_)
  refine AL_g rfl rfl (x_not rfl rfl) ?_
  refine AL_p (x_pickF rfl rfl rfl) ?_
  refine AL_nild (by kernel_rfl) ?_
  cases b42
  · try simp only [tdy] at h42
    refine AW_condT rfl ?_
    refine AW_seq ?_
    refine AW_region ?_
    refine AL_p (x_assign rfl rfl) ?_
    refine AL_nil ?_
    refine AW_ret (BQ_ret (BQ_ret ?_))
    exact ⟨rn [], ⟨⟨⟨_, rfl, vle_bool (by first | exact (deltaOk_len (by omega)).symm | exact (deltaOk_bad (k := k) (by omega) (changeAt_word (by omega) h19)).symm | exact (deltaOk_bad (k := k) (by omega) (changeAt_order (by omega) (by omega) h34)).symm | exact (deltaOk_bad (k := k) (by omega) (changeAt_two (by omega) h42)).symm | exact (deltaOk_bad (k := k) (by omega) (changeAt_none (by omega) (by omega))).symm | exact (deltaOk_bad (k := k) (by omega) (changeAt_apart (by omega) h49)).symm | exact (deltaOk_good hA (by omega) (by omega)).symm | exact (deltaOk_good hA (by omega) (by simpa using h67)).symm)⟩, trivial⟩, trivial, trivial, rfl⟩⟩
  try simp only [tdy] at h42
  refine AW_condF rfl ?_
  refine AW_skip ?_
  refine AW_seq ?_
  refine AW_region ?_
  refine AL_p (x_field (off := 1) (o' := 1) rfl rfl rfl (by kernel_rfl) rfl) ?_
  refine AL_p (x_loadN (n := 2) rfl rfl rfl (by kernel_rfl) rfl rfl) ?_
  refine AL_p (x_field (off := 3) (o' := 3) rfl rfl rfl (by kernel_rfl) rfl) ?_
  refine AL_p (x_loadN (n := 2) rfl rfl rfl (by kernel_rfl) rfl rfl) ?_
  refine AL_b (x_call0 rfl rfl rfl (apartS_c (s.changes[k]'(by omega)).plus (s.changes[k]'(by omega)).minus (hs.2 (s.changes[k]'(by omega)) (List.getElem_mem _)).2.1 (hs.2 (s.changes[k]'(by omega)) (List.getElem_mem _)).2.2) rfl rfl) (fun b49 h49 => ?_)
  refine AL_p (x_not rfl rfl) ?_
  refine AL_p (x_move rfl rfl) ?_
  cases b49
  · try simp only [tdy] at h49
    refine AL_o rfl rfl rfl rfl ?_
    refine AL_o rfl rfl rfl rfl ?_
    refine AL_o rfl rfl rfl rfl ?_
    refine AL_o rfl rfl rfl rfl ?_
    refine AL_o rfl rfl rfl rfl ?_
    refine AL_o rfl rfl rfl rfl ?_
    refine AL_o rfl rfl rfl rfl ?_
    refine AL_o rfl rfl rfl rfl ?_
    refine AL_o rfl rfl rfl rfl ?_
    refine AL_o rfl rfl rfl rfl ?_
    refine AL_p (x_pickT rfl rfl rfl) ?_
    refine AL_nil ?_
    refine AW_condT rfl ?_
    refine AW_seq ?_
    refine AW_region ?_
    refine AL_p (x_assign rfl rfl) ?_
    refine AL_nil ?_
    refine AW_ret (BQ_ret (BQ_ret ?_))
    exact ⟨rn [], ⟨⟨⟨_, rfl, vle_bool (by first | exact (deltaOk_len (by omega)).symm | exact (deltaOk_bad (k := k) (by omega) (changeAt_word (by omega) h19)).symm | exact (deltaOk_bad (k := k) (by omega) (changeAt_order (by omega) (by omega) h34)).symm | exact (deltaOk_bad (k := k) (by omega) (changeAt_two (by omega) h42)).symm | exact (deltaOk_bad (k := k) (by omega) (changeAt_none (by omega) (by omega))).symm | exact (deltaOk_bad (k := k) (by omega) (changeAt_apart (by omega) h49)).symm | exact (deltaOk_good hA (by omega) (by omega)).symm | exact (deltaOk_good hA (by omega) (by simpa using h67)).symm)⟩, trivial⟩, trivial, trivial, rfl⟩⟩
  try simp only [tdy] at h49
  refine AL_g rfl rfl (x_field (off := 1) (o' := 1) rfl rfl rfl (by kernel_rfl) rfl) ?_
  refine AL_g rfl rfl (x_field (off := 1) (o' := 2) rfl rfl rfl (by kernel_rfl) rfl) ?_
  refine AL_g rfl rfl (x_load1 rfl rfl rfl (by kernel_rfl) rfl) ?_
  refine AL_g rfl rfl (x_len (E := 72) (n := 1) rfl rfl (by kernel_rfl)) ?_
  refine AL_g rfl rfl (x_field (off := 3) (o' := 3) rfl rfl rfl (by kernel_rfl) rfl) ?_
  refine AL_g rfl rfl (x_field (off := 1) (o' := 4) rfl rfl rfl (by kernel_rfl) rfl) ?_
  refine AL_g rfl rfl (x_load1 rfl rfl rfl (by kernel_rfl) rfl) ?_
  refine AL_g rfl rfl (x_len (E := 72) (n := 1) rfl rfl (by kernel_rfl)) ?_
  refine AL_g rfl rfl (x_add rfl rfl rfl (IntWalk.i64_in _ (by have := (hs.2 (s.changes[k]'(by omega)) (List.getElem_mem _)).2.1.1; have := (hs.2 (s.changes[k]'(by omega)) (List.getElem_mem _)).2.2.1; omega))) ?_
  refine AL_gb rfl rfl (x_eql rfl rfl rfl) (fun b61 h61 => ?_)
  refine AL_p (x_pickF rfl rfl rfl) ?_
  refine AL_nil ?_
  cases b61
  rotate_left
  · try simp only [tdy] at h61
    refine AW_condT rfl ?_
    refine AW_seq ?_
    refine AW_region ?_
    refine AL_p (x_assign rfl rfl) ?_
    refine AL_nil ?_
    refine AW_ret (BQ_ret (BQ_ret ?_))
    exact ⟨rn [], ⟨⟨⟨_, rfl, vle_bool (by first | exact (deltaOk_len (by omega)).symm | exact (deltaOk_bad (k := k) (by omega) (changeAt_word (by omega) h19)).symm | exact (deltaOk_bad (k := k) (by omega) (changeAt_order (by omega) (by omega) h34)).symm | exact (deltaOk_bad (k := k) (by omega) (changeAt_two (by omega) h42)).symm | exact (deltaOk_bad (k := k) (by omega) (changeAt_none (by omega) (by omega))).symm | exact (deltaOk_bad (k := k) (by omega) (changeAt_apart (by omega) h49)).symm | exact (deltaOk_good hA (by omega) (by omega)).symm | exact (deltaOk_good hA (by omega) (by simpa using h67)).symm)⟩, trivial⟩, trivial, trivial, rfl⟩⟩
  try simp only [tdy] at h61
  refine AW_condF rfl ?_
  refine AW_skip ?_
  refine AW_region ?_
  refine AL_p (x_add rfl rfl rfl (IntWalk.i64_in _ (by omega))) ?_
  refine AL_p (x_move rfl rfl) ?_
  refine AL_nil ?_
  refine ⟨⟨k + 1, ⟨by omega, hA.succ (by omega) (changeAt_good (by omega) h19 (fun h0 => by first | exact h34 | omega) h42 (by omega) h49)⟩⟩, rn [], ?_, by dsimp only; omega⟩
  exact ⟨by (repeat refine ⟨⟨_, rfl, by first | exact VLe.rf | exact vle_int (by dsimp only; omega)⟩, ?_⟩); exact trivial, by (repeat refine ⟨⟨_, rfl, by first | exact BLe.rf | exact BLe.box AllC.rf | exact BLe.arr (by exact rfl)⟩, ?_⟩); exact trivial, by repeat (first | exact trivial | refine ⟨⟨rfl, by first | (left; intro h; cases h) | (right; rfl), by first | exact (fun _ h => ⟨_, h⟩) | exact (fun _ _ => ⟨_, rfl⟩)⟩, ?_⟩), rfl⟩

set_option maxHeartbeats 4000000 in
theorem deltaOkI_c (s : Deltat) (hs : smallDelta s) : AC Tryz.prog 26 [.agg (deltaC s)] [] (.one (.c (.bool (deltaOk s)))) [] := by
  refine AC_body1 Tryz.func26 rfl rfl Tryz.ntmps26 rfl Tryz.results26 ?_
  refine AW_seq ?_
  refine AW_region ?_
  refine AL_p (x_box 100 rfl rfl rfl rfl rfl rfl rfl) ?_
  refine AL_p (x_assign rfl rfl) ?_
  refine AL_nil ?_
  refine AW_seq ?_
  refine AW_seq ?_
  refine AW_region ?_
  refine AL_p (x_field (off := 0) (o' := 0) rfl rfl rfl (by kernel_rfl) rfl) ?_
  refine AL_p (x_load1 rfl rfl rfl (by kernel_rfl) rfl) ?_
  refine AL_p (x_len (E := 65) (n := 5) rfl rfl (by kernel_rfl)) ?_
  refine AL_p (x_move rfl rfl) ?_
  refine AL_nil ?_
  refine AW_block ?_
  refine AW_loop2 (ι := {q : Nat // q ≤ s.changes.length ∧ AllAt (changeAt s.changes) q}) (fun p => [(8, .one (.c (.int .i64 ((p.1) : Int))))]) (fun p => []) [1, 6, 7] [100] (fun p => s.changes.length - (p.1)) ⟨0, ⟨by have := hs.1; omega, .zero⟩⟩ (rn []) ?_ ?_
  exact ⟨by (repeat refine ⟨⟨_, rfl, by first | exact VLe.rf | exact vle_int (by dsimp only; omega)⟩, ?_⟩); exact trivial, by (repeat refine ⟨⟨_, rfl, by first | exact BLe.rf | exact BLe.box AllC.rf | exact BLe.arr (by exact rfl)⟩, ?_⟩); exact trivial, by repeat (first | exact trivial | refine ⟨⟨rfl, by first | (left; intro h; cases h) | (right; rfl), by first | exact (fun _ h => ⟨_, h⟩) | exact (fun _ _ => ⟨_, rfl⟩)⟩, ?_⟩), rfl⟩
  rintro ⟨k, hinv⟩
  dsimp only
  obtain ⟨hk, hA⟩ := hinv
  have hl := hs.1
  refine AW_seq ?_
  refine AW_region ?_
  refine AL_b (x_lss rfl rfl rfl) (fun b9 h9 => ?_)
  refine AL_nil ?_
  refine AW_seq ?_
  cases b9
  · try simp only [tdy] at h9
    refine AW_condF rfl ?_
    refine AW_exit (BQ_hit ?_)
    refine AW_seq ?_
    refine AW_region ?_
    refine AL_p (x_field (off := 0) (o' := 0) rfl rfl rfl (by kernel_rfl) rfl) ?_
    refine AL_p (x_load1 rfl rfl rfl (by kernel_rfl) rfl) ?_
    refine AL_p (x_len (E := 65) (n := 5) rfl rfl (by kernel_rfl)) ?_
    refine AL_b (x_leq rfl rfl rfl) (fun b67 h67 => ?_)
    refine AL_p (x_assign rfl rfl) ?_
    refine AL_nil ?_
    refine AW_ret ?_
    cases b67
    rotate_left
    · try simp only [tdy] at h67
      exact ⟨rn [], ⟨⟨⟨_, rfl, vle_bool (by first | exact (deltaOk_len (by omega)).symm | exact (deltaOk_bad (k := k) (by omega) (changeAt_word (by omega) h15)).symm | exact (deltaOk_bad (k := k) (by omega) (changeAt_order (by omega) (by omega) h30)).symm | exact (deltaOk_bad (k := k) (by omega) (changeAt_two (by omega) h38)).symm | exact (deltaOk_bad (k := k) (by omega) (changeAt_none (by omega) (by omega))).symm | exact (deltaOk_bad (k := k) (by omega) (changeAt_apart (by omega) (apart_not (by omega)))).symm | exact (deltaOk_good hA (by omega) (by omega)).symm | exact (deltaOk_good hA (by omega) (by simpa using h67)).symm)⟩, trivial⟩, trivial, trivial, rfl⟩⟩
    try simp only [tdy] at h67
    exact ⟨rn [], ⟨⟨⟨_, rfl, vle_bool (by first | exact (deltaOk_len (by omega)).symm | exact (deltaOk_bad (k := k) (by omega) (changeAt_word (by omega) h15)).symm | exact (deltaOk_bad (k := k) (by omega) (changeAt_order (by omega) (by omega) h30)).symm | exact (deltaOk_bad (k := k) (by omega) (changeAt_two (by omega) h38)).symm | exact (deltaOk_bad (k := k) (by omega) (changeAt_none (by omega) (by omega))).symm | exact (deltaOk_bad (k := k) (by omega) (changeAt_apart (by omega) (apart_not (by omega)))).symm | exact (deltaOk_good hA (by omega) (by omega)).symm | exact (deltaOk_good hA (by omega) (by simpa using h67)).symm)⟩, trivial⟩, trivial, trivial, rfl⟩⟩
  try simp only [tdy] at h9
  refine AW_condT rfl ?_
  refine AW_skip ?_
  refine AW_seq ?_
  refine AW_block ?_
  refine AW_seq ?_
  refine AW_region ?_
  refine AL_p (x_move rfl rfl) ?_
  refine AL_p (x_index (E := 65) (n := 5) rfl rfl rfl (by kernel_rfl) rfl (k := k) (by omega) (by omega)) ?_
  refine AL_p (x_eloadW (n := 5) rfl rfl (by kernel_rfl) rfl) ?_
  refine AL_p (x_alloc (z := .agg #[.string ⟨#[]⟩, .int .i64 0, .slice none 0 0, .int .i64 0, .slice none 0 0]) 101 rfl (by kernel_rfl) rfl rfl rfl rfl) ?_
  refine AL_p (x_assign rfl rfl) ?_
  refine AL_p (x_store (n := 5) rfl rfl rfl rfl (by kernel_rfl) rfl rfl rfl) ?_
  refine AL_nil ?_
  refine AW_seq ?_
  refine AW_draw rfl ?_
  refine AL_p (x_field (off := 0) (o' := 0) rfl rfl rfl (by kernel_rfl) rfl) ?_
  refine AL_p (x_load1 rfl rfl rfl (by kernel_rfl) rfl) ?_
  refine AL_b (x_call0 rfl rfl rfl (wordOkI_c _) rfl rfl) (fun b15 h15 => ?_)
  refine AL_p (x_not rfl rfl) ?_
  refine AL_p (x_move rfl rfl) ?_
  cases b15
  · try simp only [tdy] at h15
    refine AL_o rfl rfl rfl rfl ?_
    refine AL_o rfl rfl rfl rfl ?_
    refine AL_o rfl rfl rfl rfl ?_
    refine AL_u rfl rfl rfl ?_
    refine AL_u rfl rfl rfl ?_
    refine AL_u rfl rfl rfl ?_
    refine AL_u rfl rfl rfl ?_
    refine AL_u rfl rfl rfl ?_
    refine AL_u rfl rfl rfl ?_
    refine AL_u rfl rfl rfl ?_
    refine AL_u rfl rfl rfl ?_
    refine AL_u rfl rfl rfl ?_
    refine AL_u rfl rfl rfl ?_
    refine AL_o rfl rfl rfl rfl ?_
    refine AL_p (x_pickT rfl rfl rfl) ?_
    refine AL_p (x_move rfl rfl) ?_
    refine AL_o rfl rfl rfl rfl ?_
    refine AL_o rfl rfl rfl rfl ?_
    refine AL_o rfl rfl rfl rfl ?_
    refine AL_o rfl rfl rfl rfl ?_
    refine AL_o rfl rfl rfl rfl ?_
    refine AL_o rfl rfl rfl rfl ?_
    refine AL_p (x_pickT rfl rfl rfl) ?_
    refine AL_p (x_move rfl rfl) ?_
    refine AL_o rfl rfl rfl rfl ?_
    refine AL_o rfl rfl rfl rfl ?_
    refine AL_o rfl rfl rfl rfl ?_
    refine AL_o rfl rfl rfl rfl ?_
    refine AL_o rfl rfl rfl rfl ?_
    refine AL_o rfl rfl rfl rfl ?_
    refine AL_o rfl rfl rfl rfl ?_
    refine AL_o rfl rfl rfl rfl ?_
    refine AL_o rfl rfl rfl rfl ?_
    refine AL_o rfl rfl rfl rfl ?_
    refine AL_p (x_pickT rfl rfl rfl) ?_
    refine AL_p (x_move rfl rfl) ?_
    refine AL_o rfl rfl rfl rfl ?_
    refine AL_o rfl rfl rfl rfl ?_
    refine AL_o rfl rfl rfl rfl ?_
    refine AL_o rfl rfl rfl rfl ?_
    refine AL_o rfl rfl rfl rfl ?_
    refine AL_o rfl rfl rfl rfl ?_
    refine AL_o rfl rfl rfl rfl ?_
    refine AL_o rfl rfl rfl rfl ?_
    refine AL_p (x_pickT rfl rfl rfl) ?_
    refine AL_nild (by kernel_rfl) ?_
    refine AW_condT rfl ?_
    refine AW_seq ?_
    refine AW_region ?_
    refine AL_p (x_assign rfl rfl) ?_
    refine AL_nil ?_
    refine AW_ret (BQ_ret (BQ_ret ?_))
    exact ⟨rn [], ⟨⟨⟨_, rfl, vle_bool (by first | exact (deltaOk_len (by omega)).symm | exact (deltaOk_bad (k := k) (by omega) (changeAt_word (by omega) h15)).symm | exact (deltaOk_bad (k := k) (by omega) (changeAt_order (by omega) (by omega) h30)).symm | exact (deltaOk_bad (k := k) (by omega) (changeAt_two (by omega) h38)).symm | exact (deltaOk_bad (k := k) (by omega) (changeAt_none (by omega) (by omega))).symm | exact (deltaOk_bad (k := k) (by omega) (changeAt_apart (by omega) (apart_not (by omega)))).symm | exact (deltaOk_good hA (by omega) (by omega)).symm | exact (deltaOk_good hA (by omega) (by simpa using h67)).symm)⟩, trivial⟩, trivial, trivial, rfl⟩⟩
  try simp only [tdy] at h15
  refine AL_g rfl rfl (x_move rfl rfl) ?_
  refine AL_gb rfl rfl (x_gtr rfl rfl rfl) (fun b19 h19 => ?_)
  refine AL_g rfl rfl (x_move rfl rfl) ?_
  cases b19
  · try simp only [tdy] at h19
    refine AL_o rfl rfl rfl rfl ?_
    refine AL_o rfl rfl rfl rfl ?_
    refine AL_o rfl rfl rfl rfl ?_
    refine AL_o rfl rfl rfl rfl ?_
    refine AL_o rfl rfl rfl rfl ?_
    refine AL_o rfl rfl rfl rfl ?_
    refine AL_o rfl rfl rfl rfl ?_
    refine AL_o rfl rfl rfl rfl ?_
    refine AL_o rfl rfl rfl rfl ?_
    refine AL_o rfl rfl rfl rfl ?_
    refine AL_g rfl rfl (x_pickF rfl rfl rfl) ?_
    refine AL_p (x_pickF rfl rfl rfl) ?_
    refine AL_p (x_move rfl rfl) ?_
    refine AL_g rfl rfl (x_field (off := 1) (o' := 1) rfl rfl rfl (by kernel_rfl) rfl) ?_
    refine AL_g rfl rfl (x_loadN (n := 2) rfl rfl rfl (by kernel_rfl) rfl rfl) ?_
    refine AL_g rfl rfl (x_field (off := 3) (o' := 3) rfl rfl rfl (by kernel_rfl) rfl) ?_
    refine AL_g rfl rfl (x_loadN (n := 2) rfl rfl rfl (by kernel_rfl) rfl rfl) ?_
    refine AL_gb rfl rfl (x_call0 rfl rfl rfl (bothalike_c (s.changes[k]'(by omega)).plus (s.changes[k]'(by omega)).minus (hs.2 (s.changes[k]'(by omega)) (List.getElem_mem _)).2.1 (hs.2 (s.changes[k]'(by omega)) (List.getElem_mem _)).2.2) rfl rfl) (fun b38 h38 => ?_)
    refine AL_g rfl rfl (x_not rfl rfl) ?_
    refine AL_p (x_pickF rfl rfl rfl) ?_
    refine AL_p (x_move rfl rfl) ?_
    cases b38
    · try simp only [tdy] at h38
      refine AL_o rfl rfl rfl rfl ?_
      refine AL_o rfl rfl rfl rfl ?_
      refine AL_o rfl rfl rfl rfl ?_
      refine AL_o rfl rfl rfl rfl ?_
      refine AL_o rfl rfl rfl rfl ?_
      refine AL_o rfl rfl rfl rfl ?_
      refine AL_o rfl rfl rfl rfl ?_
      refine AL_o rfl rfl rfl rfl ?_
      refine AL_o rfl rfl rfl rfl ?_
      refine AL_o rfl rfl rfl rfl ?_
      refine AL_p (x_pickT rfl rfl rfl) ?_
      refine AL_p (x_move rfl rfl) ?_
      refine AL_o rfl rfl rfl rfl ?_
      refine AL_o rfl rfl rfl rfl ?_
      refine AL_o rfl rfl rfl rfl ?_
      refine AL_o rfl rfl rfl rfl ?_
      refine AL_o rfl rfl rfl rfl ?_
      refine AL_o rfl rfl rfl rfl ?_
      refine AL_o rfl rfl rfl rfl ?_
      refine AL_o rfl rfl rfl rfl ?_
      refine AL_p (x_pickT rfl rfl rfl) ?_
      refine AL_nild (by kernel_rfl) ?_
      refine AW_condT rfl ?_
      refine AW_seq ?_
      refine AW_region ?_
      refine AL_p (x_assign rfl rfl) ?_
      refine AL_nil ?_
      refine AW_ret (BQ_ret (BQ_ret ?_))
      exact ⟨rn [], ⟨⟨⟨_, rfl, vle_bool (by first | exact (deltaOk_len (by omega)).symm | exact (deltaOk_bad (k := k) (by omega) (changeAt_word (by omega) h15)).symm | exact (deltaOk_bad (k := k) (by omega) (changeAt_order (by omega) (by omega) h30)).symm | exact (deltaOk_bad (k := k) (by omega) (changeAt_two (by omega) h38)).symm | exact (deltaOk_bad (k := k) (by omega) (changeAt_none (by omega) (by omega))).symm | exact (deltaOk_bad (k := k) (by omega) (changeAt_apart (by omega) (apart_not (by omega)))).symm | exact (deltaOk_good hA (by omega) (by omega)).symm | exact (deltaOk_good hA (by omega) (by simpa using h67)).symm)⟩, trivial⟩, trivial, trivial, rfl⟩⟩
    try simp only [tdy] at h38
    refine AL_g rfl rfl (x_field (off := 1) (o' := 1) rfl rfl rfl (by kernel_rfl) rfl) ?_
    refine AL_g rfl rfl (x_field (off := 1) (o' := 2) rfl rfl rfl (by kernel_rfl) rfl) ?_
    refine AL_g rfl rfl (x_load1 rfl rfl rfl (by kernel_rfl) rfl) ?_
    refine AL_g rfl rfl (x_len (E := 72) (n := 1) rfl rfl (by kernel_rfl)) ?_
    refine AL_g rfl rfl (x_field (off := 3) (o' := 3) rfl rfl rfl (by kernel_rfl) rfl) ?_
    refine AL_g rfl rfl (x_field (off := 1) (o' := 4) rfl rfl rfl (by kernel_rfl) rfl) ?_
    refine AL_g rfl rfl (x_load1 rfl rfl rfl (by kernel_rfl) rfl) ?_
    refine AL_g rfl rfl (x_len (E := 72) (n := 1) rfl rfl (by kernel_rfl)) ?_
    refine AL_g rfl rfl (x_add rfl rfl rfl (IntWalk.i64_in _ (by have := (hs.2 (s.changes[k]'(by omega)) (List.getElem_mem _)).2.1.1; have := (hs.2 (s.changes[k]'(by omega)) (List.getElem_mem _)).2.2.1; omega))) ?_
    refine AL_gb rfl rfl (x_eql rfl rfl rfl) (fun b51 h51 => ?_)
    refine AL_p (x_pickF rfl rfl rfl) ?_
    refine AL_p (x_move rfl rfl) ?_
    cases b51
    rotate_left
    · try simp only [tdy] at h51
      refine AL_o rfl rfl rfl rfl ?_
      refine AL_o rfl rfl rfl rfl ?_
      refine AL_o rfl rfl rfl rfl ?_
      refine AL_o rfl rfl rfl rfl ?_
      refine AL_o rfl rfl rfl rfl ?_
      refine AL_o rfl rfl rfl rfl ?_
      refine AL_o rfl rfl rfl rfl ?_
      refine AL_o rfl rfl rfl rfl ?_
      refine AL_p (x_pickT rfl rfl rfl) ?_
      refine AL_nild (by kernel_rfl) ?_
      refine AW_condT rfl ?_
      refine AW_seq ?_
      refine AW_region ?_
      refine AL_p (x_assign rfl rfl) ?_
      refine AL_nil ?_
      refine AW_ret (BQ_ret (BQ_ret ?_))
      exact ⟨rn [], ⟨⟨⟨_, rfl, vle_bool (by first | exact (deltaOk_len (by omega)).symm | exact (deltaOk_bad (k := k) (by omega) (changeAt_word (by omega) h15)).symm | exact (deltaOk_bad (k := k) (by omega) (changeAt_order (by omega) (by omega) h30)).symm | exact (deltaOk_bad (k := k) (by omega) (changeAt_two (by omega) h38)).symm | exact (deltaOk_bad (k := k) (by omega) (changeAt_none (by omega) (by omega))).symm | exact (deltaOk_bad (k := k) (by omega) (changeAt_apart (by omega) (apart_not (by omega)))).symm | exact (deltaOk_good hA (by omega) (by omega)).symm | exact (deltaOk_good hA (by omega) (by simpa using h67)).symm)⟩, trivial⟩, trivial, trivial, rfl⟩⟩
    try simp only [tdy] at h51
    refine AL_g rfl rfl (x_field (off := 1) (o' := 1) rfl rfl rfl (by kernel_rfl) rfl) ?_
    refine AL_g rfl rfl (x_loadN (n := 2) rfl rfl rfl (by kernel_rfl) rfl rfl) ?_
    refine AL_g rfl rfl (x_field (off := 3) (o' := 3) rfl rfl rfl (by kernel_rfl) rfl) ?_
    refine AL_g rfl rfl (x_loadN (n := 2) rfl rfl rfl (by kernel_rfl) rfl rfl) ?_
    refine AL_g rfl rfl (x_call1 rfl rfl rfl (bothI_c (s.changes[k]'(by omega)).plus (s.changes[k]'(by omega)).minus (hs.2 (s.changes[k]'(by omega)) (List.getElem_mem _)).2.1 (hs.2 (s.changes[k]'(by omega)) (List.getElem_mem _)).2.2.1 (relOk_sorted (two_right h38)) (two_vals h38) 102) rfl rfl rfl rfl) ?_
    refine AL_g rfl rfl (x_fldv (off := 1) rfl rfl (by kernel_rfl) rfl) ?_
    refine AL_g rfl rfl (x_olen (E := 72) (n := 1) rfl rfl rfl (by kernel_rfl)) ?_
    refine AL_gb rfl rfl (x_gtr rfl rfl rfl) (fun b61 h61 => ?_)
    refine AL_p (x_pickF rfl rfl rfl) ?_
    refine AL_nild (by kernel_rfl) ?_
    cases b61
    rotate_left
    · try simp only [tdy] at h61
      refine AW_condT rfl ?_
      refine AW_seq ?_
      refine AW_region ?_
      refine AL_p (x_assign rfl rfl) ?_
      refine AL_nil ?_
      refine AW_ret (BQ_ret (BQ_ret ?_))
      exact ⟨rn [], ⟨⟨⟨_, rfl, vle_bool (by first | exact (deltaOk_len (by omega)).symm | exact (deltaOk_bad (k := k) (by omega) (changeAt_word (by omega) h15)).symm | exact (deltaOk_bad (k := k) (by omega) (changeAt_order (by omega) (by omega) h30)).symm | exact (deltaOk_bad (k := k) (by omega) (changeAt_two (by omega) h38)).symm | exact (deltaOk_bad (k := k) (by omega) (changeAt_none (by omega) (by omega))).symm | exact (deltaOk_bad (k := k) (by omega) (changeAt_apart (by omega) (apart_not (by omega)))).symm | exact (deltaOk_good hA (by omega) (by omega)).symm | exact (deltaOk_good hA (by omega) (by simpa using h67)).symm)⟩, trivial⟩, trivial, trivial, rfl⟩⟩
    try simp only [tdy] at h61
    refine AW_condF rfl ?_
    refine AW_skip ?_
    refine AW_region ?_
    refine AL_p (x_add rfl rfl rfl (IntWalk.i64_in _ (by omega))) ?_
    refine AL_p (x_move rfl rfl) ?_
    refine AL_nil ?_
    refine ⟨⟨k + 1, ⟨by omega, hA.succ (by omega) (changeAt_good (by omega) h15 (fun h0 => by first | exact h30 | omega) h38 (by omega) (apart_iff.2 (by omega)))⟩⟩, rn [], ?_, by dsimp only; omega⟩
    exact ⟨by (repeat refine ⟨⟨_, rfl, by first | exact VLe.rf | exact vle_int (by dsimp only; omega)⟩, ?_⟩); exact trivial, by (repeat refine ⟨⟨_, rfl, by first | exact BLe.rf | exact BLe.box AllC.rf | exact BLe.arr (by exact rfl)⟩, ?_⟩); exact trivial, by repeat (first | exact trivial | refine ⟨⟨rfl, by first | (left; intro h; cases h) | (right; rfl), by first | exact (fun _ h => ⟨_, h⟩) | exact (fun _ _ => ⟨_, rfl⟩)⟩, ?_⟩), rfl⟩
  try simp only [tdy] at h19
  refine AL_g rfl rfl (x_field (off := 0) (o' := 0) rfl rfl rfl (by kernel_rfl) rfl) ?_
  refine AL_g rfl rfl (x_load1 rfl rfl rfl (by kernel_rfl) rfl) ?_
  refine AL_g rfl rfl (x_move rfl rfl) ?_
  refine AL_g rfl rfl (x_sub rfl rfl rfl (IntWalk.i64_in _ (by omega))) ?_
  refine AL_g rfl rfl (x_index (E := 65) (n := 5) rfl rfl rfl (by kernel_rfl) rfl (k := k - 1) (by omega) (by omega)) ?_
  refine AL_g rfl rfl (x_efield (off := 0) (o' := 0) rfl rfl (by kernel_rfl) rfl) ?_
  refine AL_g rfl rfl (x_eload1 rfl rfl (by kernel_rfl) rfl) ?_
  refine AL_g rfl rfl (x_field (off := 0) (o' := 0) rfl rfl rfl (by kernel_rfl) rfl) ?_
  refine AL_g rfl rfl (x_load1 rfl rfl rfl (by kernel_rfl) rfl) ?_
  refine AL_gb rfl rfl (x_sgeq rfl rfl rfl) (fun b30 h30 => ?_)
  refine AL_g rfl rfl (x_pickT rfl rfl rfl) ?_
  refine AL_p (x_pickF rfl rfl rfl) ?_
  refine AL_p (x_move rfl rfl) ?_
  cases b30
  rotate_left
  · try simp only [tdy] at h30
    refine AL_o rfl rfl rfl rfl ?_
    refine AL_o rfl rfl rfl rfl ?_
    refine AL_o rfl rfl rfl rfl ?_
    refine AL_o rfl rfl rfl rfl ?_
    refine AL_o rfl rfl rfl rfl ?_
    refine AL_o rfl rfl rfl rfl ?_
    refine AL_p (x_pickT rfl rfl rfl) ?_
    refine AL_p (x_move rfl rfl) ?_
    refine AL_o rfl rfl rfl rfl ?_
    refine AL_o rfl rfl rfl rfl ?_
    refine AL_o rfl rfl rfl rfl ?_
    refine AL_o rfl rfl rfl rfl ?_
    refine AL_o rfl rfl rfl rfl ?_
    refine AL_o rfl rfl rfl rfl ?_
    refine AL_o rfl rfl rfl rfl ?_
    refine AL_o rfl rfl rfl rfl ?_
    refine AL_o rfl rfl rfl rfl ?_
    refine AL_o rfl rfl rfl rfl ?_
    refine AL_p (x_pickT rfl rfl rfl) ?_
    refine AL_p (x_move rfl rfl) ?_
    refine AL_o rfl rfl rfl rfl ?_
    refine AL_o rfl rfl rfl rfl ?_
    refine AL_o rfl rfl rfl rfl ?_
    refine AL_o rfl rfl rfl rfl ?_
    refine AL_o rfl rfl rfl rfl ?_
    refine AL_o rfl rfl rfl rfl ?_
    refine AL_o rfl rfl rfl rfl ?_
    refine AL_o rfl rfl rfl rfl ?_
    refine AL_p (x_pickT rfl rfl rfl) ?_
    refine AL_nild (by kernel_rfl) ?_
    refine AW_condT rfl ?_
    refine AW_seq ?_
    refine AW_region ?_
    refine AL_p (x_assign rfl rfl) ?_
    refine AL_nil ?_
    refine AW_ret (BQ_ret (BQ_ret ?_))
    exact ⟨rn [], ⟨⟨⟨_, rfl, vle_bool (by first | exact (deltaOk_len (by omega)).symm | exact (deltaOk_bad (k := k) (by omega) (changeAt_word (by omega) h15)).symm | exact (deltaOk_bad (k := k) (by omega) (changeAt_order (by omega) (by omega) h30)).symm | exact (deltaOk_bad (k := k) (by omega) (changeAt_two (by omega) h38)).symm | exact (deltaOk_bad (k := k) (by omega) (changeAt_none (by omega) (by omega))).symm | exact (deltaOk_bad (k := k) (by omega) (changeAt_apart (by omega) (apart_not (by omega)))).symm | exact (deltaOk_good hA (by omega) (by omega)).symm | exact (deltaOk_good hA (by omega) (by simpa using h67)).symm)⟩, trivial⟩, trivial, trivial, rfl⟩⟩
  try simp only [tdy] at h30
  refine AL_g rfl rfl (x_field (off := 1) (o' := 1) rfl rfl rfl (by kernel_rfl) rfl) ?_
  refine AL_g rfl rfl (x_loadN (n := 2) rfl rfl rfl (by kernel_rfl) rfl rfl) ?_
  refine AL_g rfl rfl (x_field (off := 3) (o' := 3) rfl rfl rfl (by kernel_rfl) rfl) ?_
  refine AL_g rfl rfl (x_loadN (n := 2) rfl rfl rfl (by kernel_rfl) rfl rfl) ?_
  refine AL_gb rfl rfl (x_call0 rfl rfl rfl (bothalike_c (s.changes[k]'(by omega)).plus (s.changes[k]'(by omega)).minus (hs.2 (s.changes[k]'(by omega)) (List.getElem_mem _)).2.1 (hs.2 (s.changes[k]'(by omega)) (List.getElem_mem _)).2.2) rfl rfl) (fun b38 h38 => ?_)
  refine AL_g rfl rfl (x_not rfl rfl) ?_
  refine AL_p (x_pickF rfl rfl rfl) ?_
  refine AL_p (x_move rfl rfl) ?_
  cases b38
  · try simp only [tdy] at h38
    refine AL_o rfl rfl rfl rfl ?_
    refine AL_o rfl rfl rfl rfl ?_
    refine AL_o rfl rfl rfl rfl ?_
    refine AL_o rfl rfl rfl rfl ?_
    refine AL_o rfl rfl rfl rfl ?_
    refine AL_o rfl rfl rfl rfl ?_
    refine AL_o rfl rfl rfl rfl ?_
    refine AL_o rfl rfl rfl rfl ?_
    refine AL_o rfl rfl rfl rfl ?_
    refine AL_o rfl rfl rfl rfl ?_
    refine AL_p (x_pickT rfl rfl rfl) ?_
    refine AL_p (x_move rfl rfl) ?_
    refine AL_o rfl rfl rfl rfl ?_
    refine AL_o rfl rfl rfl rfl ?_
    refine AL_o rfl rfl rfl rfl ?_
    refine AL_o rfl rfl rfl rfl ?_
    refine AL_o rfl rfl rfl rfl ?_
    refine AL_o rfl rfl rfl rfl ?_
    refine AL_o rfl rfl rfl rfl ?_
    refine AL_o rfl rfl rfl rfl ?_
    refine AL_p (x_pickT rfl rfl rfl) ?_
    refine AL_nild (by kernel_rfl) ?_
    refine AW_condT rfl ?_
    refine AW_seq ?_
    refine AW_region ?_
    refine AL_p (x_assign rfl rfl) ?_
    refine AL_nil ?_
    refine AW_ret (BQ_ret (BQ_ret ?_))
    exact ⟨rn [], ⟨⟨⟨_, rfl, vle_bool (by first | exact (deltaOk_len (by omega)).symm | exact (deltaOk_bad (k := k) (by omega) (changeAt_word (by omega) h15)).symm | exact (deltaOk_bad (k := k) (by omega) (changeAt_order (by omega) (by omega) h30)).symm | exact (deltaOk_bad (k := k) (by omega) (changeAt_two (by omega) h38)).symm | exact (deltaOk_bad (k := k) (by omega) (changeAt_none (by omega) (by omega))).symm | exact (deltaOk_bad (k := k) (by omega) (changeAt_apart (by omega) (apart_not (by omega)))).symm | exact (deltaOk_good hA (by omega) (by omega)).symm | exact (deltaOk_good hA (by omega) (by simpa using h67)).symm)⟩, trivial⟩, trivial, trivial, rfl⟩⟩
  try simp only [tdy] at h38
  refine AL_g rfl rfl (x_field (off := 1) (o' := 1) rfl rfl rfl (by kernel_rfl) rfl) ?_
  refine AL_g rfl rfl (x_field (off := 1) (o' := 2) rfl rfl rfl (by kernel_rfl) rfl) ?_
  refine AL_g rfl rfl (x_load1 rfl rfl rfl (by kernel_rfl) rfl) ?_
  refine AL_g rfl rfl (x_len (E := 72) (n := 1) rfl rfl (by kernel_rfl)) ?_
  refine AL_g rfl rfl (x_field (off := 3) (o' := 3) rfl rfl rfl (by kernel_rfl) rfl) ?_
  refine AL_g rfl rfl (x_field (off := 1) (o' := 4) rfl rfl rfl (by kernel_rfl) rfl) ?_
  refine AL_g rfl rfl (x_load1 rfl rfl rfl (by kernel_rfl) rfl) ?_
  refine AL_g rfl rfl (x_len (E := 72) (n := 1) rfl rfl (by kernel_rfl)) ?_
  refine AL_g rfl rfl (x_add rfl rfl rfl (IntWalk.i64_in _ (by have := (hs.2 (s.changes[k]'(by omega)) (List.getElem_mem _)).2.1.1; have := (hs.2 (s.changes[k]'(by omega)) (List.getElem_mem _)).2.2.1; omega))) ?_
  refine AL_gb rfl rfl (x_eql rfl rfl rfl) (fun b51 h51 => ?_)
  refine AL_p (x_pickF rfl rfl rfl) ?_
  refine AL_p (x_move rfl rfl) ?_
  cases b51
  rotate_left
  · try simp only [tdy] at h51
    refine AL_o rfl rfl rfl rfl ?_
    refine AL_o rfl rfl rfl rfl ?_
    refine AL_o rfl rfl rfl rfl ?_
    refine AL_o rfl rfl rfl rfl ?_
    refine AL_o rfl rfl rfl rfl ?_
    refine AL_o rfl rfl rfl rfl ?_
    refine AL_o rfl rfl rfl rfl ?_
    refine AL_o rfl rfl rfl rfl ?_
    refine AL_p (x_pickT rfl rfl rfl) ?_
    refine AL_nild (by kernel_rfl) ?_
    refine AW_condT rfl ?_
    refine AW_seq ?_
    refine AW_region ?_
    refine AL_p (x_assign rfl rfl) ?_
    refine AL_nil ?_
    refine AW_ret (BQ_ret (BQ_ret ?_))
    exact ⟨rn [], ⟨⟨⟨_, rfl, vle_bool (by first | exact (deltaOk_len (by omega)).symm | exact (deltaOk_bad (k := k) (by omega) (changeAt_word (by omega) h15)).symm | exact (deltaOk_bad (k := k) (by omega) (changeAt_order (by omega) (by omega) h30)).symm | exact (deltaOk_bad (k := k) (by omega) (changeAt_two (by omega) h38)).symm | exact (deltaOk_bad (k := k) (by omega) (changeAt_none (by omega) (by omega))).symm | exact (deltaOk_bad (k := k) (by omega) (changeAt_apart (by omega) (apart_not (by omega)))).symm | exact (deltaOk_good hA (by omega) (by omega)).symm | exact (deltaOk_good hA (by omega) (by simpa using h67)).symm)⟩, trivial⟩, trivial, trivial, rfl⟩⟩
  try simp only [tdy] at h51
  refine AL_g rfl rfl (x_field (off := 1) (o' := 1) rfl rfl rfl (by kernel_rfl) rfl) ?_
  refine AL_g rfl rfl (x_loadN (n := 2) rfl rfl rfl (by kernel_rfl) rfl rfl) ?_
  refine AL_g rfl rfl (x_field (off := 3) (o' := 3) rfl rfl rfl (by kernel_rfl) rfl) ?_
  refine AL_g rfl rfl (x_loadN (n := 2) rfl rfl rfl (by kernel_rfl) rfl rfl) ?_
  refine AL_g rfl rfl (x_call1 rfl rfl rfl (bothI_c (s.changes[k]'(by omega)).plus (s.changes[k]'(by omega)).minus (hs.2 (s.changes[k]'(by omega)) (List.getElem_mem _)).2.1 (hs.2 (s.changes[k]'(by omega)) (List.getElem_mem _)).2.2.1 (relOk_sorted (two_right h38)) (two_vals h38) 102) rfl rfl rfl rfl) ?_
  refine AL_g rfl rfl (x_fldv (off := 1) rfl rfl (by kernel_rfl) rfl) ?_
  refine AL_g rfl rfl (x_olen (E := 72) (n := 1) rfl rfl rfl (by kernel_rfl)) ?_
  refine AL_gb rfl rfl (x_gtr rfl rfl rfl) (fun b61 h61 => ?_)
  refine AL_p (x_pickF rfl rfl rfl) ?_
  refine AL_nild (by kernel_rfl) ?_
  cases b61
  rotate_left
  · try simp only [tdy] at h61
    refine AW_condT rfl ?_
    refine AW_seq ?_
    refine AW_region ?_
    refine AL_p (x_assign rfl rfl) ?_
    refine AL_nil ?_
    refine AW_ret (BQ_ret (BQ_ret ?_))
    exact ⟨rn [], ⟨⟨⟨_, rfl, vle_bool (by first | exact (deltaOk_len (by omega)).symm | exact (deltaOk_bad (k := k) (by omega) (changeAt_word (by omega) h15)).symm | exact (deltaOk_bad (k := k) (by omega) (changeAt_order (by omega) (by omega) h30)).symm | exact (deltaOk_bad (k := k) (by omega) (changeAt_two (by omega) h38)).symm | exact (deltaOk_bad (k := k) (by omega) (changeAt_none (by omega) (by omega))).symm | exact (deltaOk_bad (k := k) (by omega) (changeAt_apart (by omega) (apart_not (by omega)))).symm | exact (deltaOk_good hA (by omega) (by omega)).symm | exact (deltaOk_good hA (by omega) (by simpa using h67)).symm)⟩, trivial⟩, trivial, trivial, rfl⟩⟩
  try simp only [tdy] at h61
  refine AW_condF rfl ?_
  refine AW_skip ?_
  refine AW_region ?_
  refine AL_p (x_add rfl rfl rfl (IntWalk.i64_in _ (by omega))) ?_
  refine AL_p (x_move rfl rfl) ?_
  refine AL_nil ?_
  refine ⟨⟨k + 1, ⟨by omega, hA.succ (by omega) (changeAt_good (by omega) h15 (fun h0 => by first | exact h30 | omega) h38 (by omega) (apart_iff.2 (by omega)))⟩⟩, rn [], ?_, by dsimp only; omega⟩
  exact ⟨by (repeat refine ⟨⟨_, rfl, by first | exact VLe.rf | exact vle_int (by dsimp only; omega)⟩, ?_⟩); exact trivial, by (repeat refine ⟨⟨_, rfl, by first | exact BLe.rf | exact BLe.box AllC.rf | exact BLe.arr (by exact rfl)⟩, ?_⟩); exact trivial, by repeat (first | exact trivial | refine ⟨⟨rfl, by first | (left; intro h; cases h) | (right; rfl), by first | exact (fun _ h => ⟨_, h⟩) | exact (fun _ _ => ⟨_, rfl⟩)⟩, ?_⟩), rfl⟩
end Go.Proofs.YtibhoanjglfaoaaGreat

/- Stores (printed by walk.py) -/
namespace Go.Proofs.YtibhoanjglfaoaaGreat
open Go.RowKit
set_option linter.unusedVariables false
set_option linter.unusedSimpArgs false
set_option maxRecDepth 100000

set_option maxHeartbeats 4000000 in
theorem storeOkS_c (s : Storet) (hs : smallStore s) : AC Tryz.prog 64 [.agg (storeC s)] [] (.one (.c (.bool (storeOk s)))) [] := by
  refine AC_body1 Tryz.func64 rfl rfl Tryz.ntmps64 rfl Tryz.results64 ?_
  refine AW_seq ?_
  refine AW_region ?_
  refine AL_p (x_box 100 rfl rfl rfl rfl rfl rfl rfl) ?_
  refine AL_p (x_assign rfl rfl) ?_
  refine AL_nil ?_
  refine AW_seq ?_
  refine AW_seq ?_
  refine AW_region ?_
  refine AL_p (x_field (off := 0) (o' := 0) rfl rfl rfl (by kernel_rfl) rfl) ?_
  refine AL_p (x_load1 rfl rfl rfl (by kernel_rfl) rfl) ?_
  refine AL_p (x_len (E := 84) (n := 3) rfl rfl (by kernel_rfl)) ?_
  refine AL_b (x_gtr rfl rfl rfl) (fun b7 h7 => ?_)
  refine AL_nil ?_
  cases b7
  rotate_left
  · try simp only [tdy] at h7
    refine AW_condT rfl ?_
    refine AW_seq ?_
    refine AW_region ?_
    refine AL_p (x_assign rfl rfl) ?_
    refine AL_nil ?_
    refine AW_ret ?_
    exact ⟨rn [], ⟨⟨⟨_, rfl, vle_bool (by first | exact (storeOk_len (by omega)).symm | exact (storeOk_bad (k := k) (by omega) (namedAt_word (by omega) h20)).symm | exact (storeOk_bad (k := k) (by omega) (namedAt_rel (by omega) h29)).symm | exact (storeOk_bad (k := k) (by omega) (namedAt_order (by omega) (by omega) h49)).symm | exact (storeOk_good hA (by omega) (by omega)).symm | exact (storeOk_good hA (by omega) (by simpa using h43)).symm | exact (storeOk_len (by omega)).symm)⟩, trivial⟩, trivial, trivial, rfl⟩⟩
  try simp only [tdy] at h7
  refine AW_condF rfl ?_
  refine AW_skip ?_
  refine AW_seq ?_
  refine AW_seq ?_
  refine AW_region ?_
  refine AL_p (x_field (off := 0) (o' := 0) rfl rfl rfl (by kernel_rfl) rfl) ?_
  refine AL_p (x_load1 rfl rfl rfl (by kernel_rfl) rfl) ?_
  refine AL_p (x_len (E := 84) (n := 3) rfl rfl (by kernel_rfl)) ?_
  refine AL_p (x_move rfl rfl) ?_
  refine AL_nil ?_
  refine AW_block ?_
  refine AW_loop2 (ι := {q : Nat // q ≤ s.rels.length ∧ AllAt (namedAt s.rels) q}) (fun p => [(11, .one (.c (.int .i64 ((p.1) : Int))))]) (fun p => []) [1, 10] [100] (fun p => s.rels.length - (p.1)) ⟨0, ⟨by have := hs.1; omega, .zero⟩⟩ (rn []) ?_ ?_
  exact ⟨by (repeat refine ⟨⟨_, rfl, by first | exact VLe.rf | exact vle_int (by dsimp only; omega)⟩, ?_⟩); exact trivial, by (repeat refine ⟨⟨_, rfl, by first | exact BLe.rf | exact BLe.box AllC.rf | exact BLe.arr (by exact rfl)⟩, ?_⟩); exact trivial, by repeat (first | exact trivial | refine ⟨⟨rfl, by first | (left; intro h; cases h) | (right; rfl), by first | exact (fun _ h => ⟨_, h⟩) | exact (fun _ _ => ⟨_, rfl⟩)⟩, ?_⟩), rfl⟩
  rintro ⟨k, hinv⟩
  dsimp only
  obtain ⟨hk, hA⟩ := hinv
  have hl := hs.1
  refine AW_seq ?_
  refine AW_region ?_
  refine AL_b (x_lss rfl rfl rfl) (fun b12 h12 => ?_)
  refine AL_nil ?_
  refine AW_seq ?_
  cases b12
  · try simp only [tdy] at h12
    refine AW_condF rfl ?_
    refine AW_exit (BQ_hit ?_)
    refine AW_seq ?_
    refine AW_region ?_
    refine AL_p (x_assign rfl rfl) ?_
    refine AL_nil ?_
    refine AW_ret ?_
    exact ⟨rn [], ⟨⟨⟨_, rfl, vle_bool (by first | exact (storeOk_len (by omega)).symm | exact (storeOk_bad (k := k) (by omega) (namedAt_word (by omega) h20)).symm | exact (storeOk_bad (k := k) (by omega) (namedAt_rel (by omega) h29)).symm | exact (storeOk_bad (k := k) (by omega) (namedAt_order (by omega) (by omega) h49)).symm | exact (storeOk_good hA (by omega) (by omega)).symm | exact (storeOk_good hA (by omega) (by simpa using h43)).symm | exact (storeOk_len (by omega)).symm)⟩, trivial⟩, trivial, trivial, rfl⟩⟩
  try simp only [tdy] at h12
  refine AW_condT rfl ?_
  refine AW_skip ?_
  refine AW_seq ?_
  refine AW_block ?_
  refine AW_seq ?_
  refine AW_region ?_
  refine AL_p (x_move rfl rfl) ?_
  refine AL_p (x_assign rfl rfl) ?_
  refine AL_nil ?_
  refine AW_seq ?_
  refine AW_draw rfl ?_
  refine AL_p (x_field (off := 0) (o' := 0) rfl rfl rfl (by kernel_rfl) rfl) ?_
  refine AL_p (x_load1 rfl rfl rfl (by kernel_rfl) rfl) ?_
  refine AL_p (x_move rfl rfl) ?_
  refine AL_p (x_index (E := 84) (n := 3) rfl rfl rfl (by kernel_rfl) rfl (k := k) (by omega) (by omega)) ?_
  refine AL_p (x_efield (off := 0) (o' := 0) rfl rfl (by kernel_rfl) rfl) ?_
  refine AL_p (x_eload1 rfl rfl (by kernel_rfl) rfl) ?_
  refine AL_b (x_call0 rfl rfl rfl (wordOkS_c _) rfl rfl) (fun b20 h20 => ?_)
  refine AL_p (x_not rfl rfl) ?_
  refine AL_p (x_move rfl rfl) ?_
  cases b20
  · try simp only [tdy] at h20
    refine AL_o rfl rfl rfl rfl ?_
    refine AL_o rfl rfl rfl rfl ?_
    refine AL_o rfl rfl rfl rfl ?_
    refine AL_o rfl rfl rfl rfl ?_
    refine AL_o rfl rfl rfl rfl ?_
    refine AL_o rfl rfl rfl rfl ?_
    refine AL_o rfl rfl rfl rfl ?_
    refine AL_o rfl rfl rfl rfl ?_
    refine AL_p (x_pickT rfl rfl rfl) ?_
    refine AL_p (x_move rfl rfl) ?_
    refine AL_o rfl rfl rfl rfl ?_
    refine AL_o rfl rfl rfl rfl ?_
    refine AL_o rfl rfl rfl rfl ?_
    refine AL_u rfl rfl rfl ?_
    refine AL_u rfl rfl rfl ?_
    refine AL_u rfl rfl rfl ?_
    refine AL_u rfl rfl rfl ?_
    refine AL_u rfl rfl rfl ?_
    refine AL_u rfl rfl rfl ?_
    refine AL_u rfl rfl rfl ?_
    refine AL_u rfl rfl rfl ?_
    refine AL_u rfl rfl rfl ?_
    refine AL_u rfl rfl rfl ?_
    refine AL_u rfl rfl rfl ?_
    refine AL_u rfl rfl rfl ?_
    refine AL_u rfl rfl rfl ?_
    refine AL_u rfl rfl rfl ?_
    refine AL_o rfl rfl rfl rfl ?_
    refine AL_p (x_pickT rfl rfl rfl) ?_
    refine AL_nild (by kernel_rfl) ?_
    refine AW_condT rfl ?_
    refine AW_seq ?_
    refine AW_region ?_
    refine AL_p (x_assign rfl rfl) ?_
    refine AL_nil ?_
    refine AW_ret (BQ_ret (BQ_ret ?_))
    exact ⟨rn [], ⟨⟨⟨_, rfl, vle_bool (by first | exact (storeOk_len (by omega)).symm | exact (storeOk_bad (k := k) (by omega) (namedAt_word (by omega) h20)).symm | exact (storeOk_bad (k := k) (by omega) (namedAt_rel (by omega) h29)).symm | exact (storeOk_bad (k := k) (by omega) (namedAt_order (by omega) (by omega) h49)).symm | exact (storeOk_good hA (by omega) (by omega)).symm | exact (storeOk_good hA (by omega) (by simpa using h43)).symm | exact (storeOk_len (by omega)).symm)⟩, trivial⟩, trivial, trivial, rfl⟩⟩
  try simp only [tdy] at h20
  refine AL_g rfl rfl (x_field (off := 0) (o' := 0) rfl rfl rfl (by kernel_rfl) rfl) ?_
  refine AL_g rfl rfl (x_load1 rfl rfl rfl (by kernel_rfl) rfl) ?_
  refine AL_g rfl rfl (x_move rfl rfl) ?_
  refine AL_g rfl rfl (x_index (E := 84) (n := 3) rfl rfl rfl (by kernel_rfl) rfl (k := k) (by omega) (by omega)) ?_
  refine AL_g rfl rfl (x_efield (off := 1) (o' := 1) rfl rfl (by kernel_rfl) rfl) ?_
  refine AL_g rfl rfl (x_eloadN (n := 2) rfl rfl (by kernel_rfl) rfl rfl) ?_
  refine AL_gb rfl rfl (x_call0 rfl rfl rfl (relOkS_c _ (hs.2 _ (List.getElem_mem _)).2.1) rfl rfl) (fun b29 h29 => ?_)
  refine AL_g rfl rfl (x_not rfl rfl) ?_
  refine AL_p (x_pickF rfl rfl rfl) ?_
  refine AL_p (x_move rfl rfl) ?_
  cases b29
  · try simp only [tdy] at h29
    refine AL_o rfl rfl rfl rfl ?_
    refine AL_o rfl rfl rfl rfl ?_
    refine AL_o rfl rfl rfl rfl ?_
    refine AL_u rfl rfl rfl ?_
    refine AL_u rfl rfl rfl ?_
    refine AL_u rfl rfl rfl ?_
    refine AL_u rfl rfl rfl ?_
    refine AL_u rfl rfl rfl ?_
    refine AL_u rfl rfl rfl ?_
    refine AL_u rfl rfl rfl ?_
    refine AL_u rfl rfl rfl ?_
    refine AL_u rfl rfl rfl ?_
    refine AL_u rfl rfl rfl ?_
    refine AL_u rfl rfl rfl ?_
    refine AL_u rfl rfl rfl ?_
    refine AL_u rfl rfl rfl ?_
    refine AL_u rfl rfl rfl ?_
    refine AL_o rfl rfl rfl rfl ?_
    refine AL_p (x_pickT rfl rfl rfl) ?_
    refine AL_nild (by kernel_rfl) ?_
    refine AW_condT rfl ?_
    refine AW_seq ?_
    refine AW_region ?_
    refine AL_p (x_assign rfl rfl) ?_
    refine AL_nil ?_
    refine AW_ret (BQ_ret (BQ_ret ?_))
    exact ⟨rn [], ⟨⟨⟨_, rfl, vle_bool (by first | exact (storeOk_len (by omega)).symm | exact (storeOk_bad (k := k) (by omega) (namedAt_word (by omega) h20)).symm | exact (storeOk_bad (k := k) (by omega) (namedAt_rel (by omega) h29)).symm | exact (storeOk_bad (k := k) (by omega) (namedAt_order (by omega) (by omega) h49)).symm | exact (storeOk_good hA (by omega) (by omega)).symm | exact (storeOk_good hA (by omega) (by simpa using h43)).symm | exact (storeOk_len (by omega)).symm)⟩, trivial⟩, trivial, trivial, rfl⟩⟩
  try simp only [tdy] at h29
  refine AL_g rfl rfl (x_move rfl rfl) ?_
  refine AL_gb rfl rfl (x_gtr rfl rfl rfl) (fun b34 h34 => ?_)
  refine AL_g rfl rfl (x_move rfl rfl) ?_
  cases b34
  · try simp only [tdy] at h34
    have hat := namedAt_first (l := s.rels) (k := k) (by omega) (by omega) h20 h29
    refine AL_o rfl rfl rfl rfl ?_
    refine AL_o rfl rfl rfl rfl ?_
    refine AL_o rfl rfl rfl rfl ?_
    refine AL_o rfl rfl rfl rfl ?_
    refine AL_o rfl rfl rfl rfl ?_
    refine AL_o rfl rfl rfl rfl ?_
    refine AL_o rfl rfl rfl rfl ?_
    refine AL_o rfl rfl rfl rfl ?_
    refine AL_o rfl rfl rfl rfl ?_
    refine AL_o rfl rfl rfl rfl ?_
    refine AL_o rfl rfl rfl rfl ?_
    refine AL_o rfl rfl rfl rfl ?_
    refine AL_o rfl rfl rfl rfl ?_
    refine AL_o rfl rfl rfl rfl ?_
    refine AL_g rfl rfl (x_pickF rfl rfl rfl) ?_
    refine AL_p (x_pickF rfl rfl rfl) ?_
    refine AL_nild (by kernel_rfl) ?_
    refine AW_condF rfl ?_
    refine AW_skip ?_
    refine AW_region ?_
    refine AL_p (x_add rfl rfl rfl (IntWalk.i64_in _ (by omega))) ?_
    refine AL_p (x_move rfl rfl) ?_
    refine AL_nil ?_
    refine ⟨⟨k + 1, ⟨by omega, hA.succ (by omega) hat⟩⟩, rn [], ?_, by dsimp only; omega⟩
    exact ⟨by (repeat refine ⟨⟨_, rfl, by first | exact VLe.rf | exact vle_int (by dsimp only; omega)⟩, ?_⟩); exact trivial, by (repeat refine ⟨⟨_, rfl, by first | exact BLe.rf | exact BLe.box AllC.rf | exact BLe.arr (by exact rfl)⟩, ?_⟩); exact trivial, by repeat (first | exact trivial | refine ⟨⟨rfl, by first | (left; intro h; cases h) | (right; rfl), by first | exact (fun _ h => ⟨_, h⟩) | exact (fun _ _ => ⟨_, rfl⟩)⟩, ?_⟩), rfl⟩
  try simp only [tdy] at h34
  refine AL_g rfl rfl (x_field (off := 0) (o' := 0) rfl rfl rfl (by kernel_rfl) rfl) ?_
  refine AL_g rfl rfl (x_load1 rfl rfl rfl (by kernel_rfl) rfl) ?_
  refine AL_g rfl rfl (x_move rfl rfl) ?_
  refine AL_g rfl rfl (x_sub rfl rfl rfl (IntWalk.i64_in _ (by omega))) ?_
  refine AL_g rfl rfl (x_index (E := 84) (n := 3) rfl rfl rfl (by kernel_rfl) rfl (k := k - 1) (by omega) (by omega)) ?_
  refine AL_g rfl rfl (x_efield (off := 0) (o' := 0) rfl rfl (by kernel_rfl) rfl) ?_
  refine AL_g rfl rfl (x_eload1 rfl rfl (by kernel_rfl) rfl) ?_
  refine AL_g rfl rfl (x_field (off := 0) (o' := 0) rfl rfl rfl (by kernel_rfl) rfl) ?_
  refine AL_g rfl rfl (x_load1 rfl rfl rfl (by kernel_rfl) rfl) ?_
  refine AL_g rfl rfl (x_move rfl rfl) ?_
  refine AL_g rfl rfl (x_index (E := 84) (n := 3) rfl rfl rfl (by kernel_rfl) rfl (k := k) (by omega) (by omega)) ?_
  refine AL_g rfl rfl (x_efield (off := 0) (o' := 0) rfl rfl (by kernel_rfl) rfl) ?_
  refine AL_g rfl rfl (x_eload1 rfl rfl (by kernel_rfl) rfl) ?_
  refine AL_gb rfl rfl (x_sgeq rfl rfl rfl) (fun b49 h49 => ?_)
  refine AL_g rfl rfl (x_pickT rfl rfl rfl) ?_
  refine AL_p (x_pickF rfl rfl rfl) ?_
  refine AL_nild (by kernel_rfl) ?_
  cases b49
  rotate_left
  · try simp only [tdy] at h49
    refine AW_condT rfl ?_
    refine AW_seq ?_
    refine AW_region ?_
    refine AL_p (x_assign rfl rfl) ?_
    refine AL_nil ?_
    refine AW_ret (BQ_ret (BQ_ret ?_))
    exact ⟨rn [], ⟨⟨⟨_, rfl, vle_bool (by first | exact (storeOk_len (by omega)).symm | exact (storeOk_bad (k := k) (by omega) (namedAt_word (by omega) h20)).symm | exact (storeOk_bad (k := k) (by omega) (namedAt_rel (by omega) h29)).symm | exact (storeOk_bad (k := k) (by omega) (namedAt_order (by omega) (by omega) h49)).symm | exact (storeOk_good hA (by omega) (by omega)).symm | exact (storeOk_good hA (by omega) (by simpa using h43)).symm | exact (storeOk_len (by omega)).symm)⟩, trivial⟩, trivial, trivial, rfl⟩⟩
  try simp only [tdy] at h49
  have hat := namedAt_next (l := s.rels) (k := k) (by omega) h20 h29 h49
  refine AW_condF rfl ?_
  refine AW_skip ?_
  refine AW_region ?_
  refine AL_p (x_add rfl rfl rfl (IntWalk.i64_in _ (by omega))) ?_
  refine AL_p (x_move rfl rfl) ?_
  refine AL_nil ?_
  refine ⟨⟨k + 1, ⟨by omega, hA.succ (by omega) hat⟩⟩, rn [], ?_, by dsimp only; omega⟩
  exact ⟨by (repeat refine ⟨⟨_, rfl, by first | exact VLe.rf | exact vle_int (by dsimp only; omega)⟩, ?_⟩); exact trivial, by (repeat refine ⟨⟨_, rfl, by first | exact BLe.rf | exact BLe.box AllC.rf | exact BLe.arr (by exact rfl)⟩, ?_⟩); exact trivial, by repeat (first | exact trivial | refine ⟨⟨rfl, by first | (left; intro h; cases h) | (right; rfl), by first | exact (fun _ h => ⟨_, h⟩) | exact (fun _ _ => ⟨_, rfl⟩)⟩, ?_⟩), rfl⟩

set_option maxHeartbeats 4000000 in
theorem storeOkI_c (s : Storet) (hs : smallStore s) : AC Tryz.prog 67 [.agg (storeC s)] [] (.one (.c (.bool (storeOk s)))) [] := by
  refine AC_body1 Tryz.func67 rfl rfl Tryz.ntmps67 rfl Tryz.results67 ?_
  refine AW_seq ?_
  refine AW_region ?_
  refine AL_p (x_box 100 rfl rfl rfl rfl rfl rfl rfl) ?_
  refine AL_p (x_assign rfl rfl) ?_
  refine AL_nil ?_
  refine AW_seq ?_
  refine AW_seq ?_
  refine AW_region ?_
  refine AL_p (x_field (off := 0) (o' := 0) rfl rfl rfl (by kernel_rfl) rfl) ?_
  refine AL_p (x_load1 rfl rfl rfl (by kernel_rfl) rfl) ?_
  refine AL_p (x_len (E := 84) (n := 3) rfl rfl (by kernel_rfl)) ?_
  refine AL_p (x_move rfl rfl) ?_
  refine AL_nil ?_
  refine AW_block ?_
  refine AW_loop2 (ι := {q : Nat // q ≤ s.rels.length ∧ AllAt (namedAt s.rels) q}) (fun p => [(8, .one (.c (.int .i64 ((p.1) : Int))))]) (fun p => []) [1, 6, 7] [100] (fun p => s.rels.length - (p.1)) ⟨0, ⟨by have := hs.1; omega, .zero⟩⟩ (rn []) ?_ ?_
  exact ⟨by (repeat refine ⟨⟨_, rfl, by first | exact VLe.rf | exact vle_int (by dsimp only; omega)⟩, ?_⟩); exact trivial, by (repeat refine ⟨⟨_, rfl, by first | exact BLe.rf | exact BLe.box AllC.rf | exact BLe.arr (by exact rfl)⟩, ?_⟩); exact trivial, by repeat (first | exact trivial | refine ⟨⟨rfl, by first | (left; intro h; cases h) | (right; rfl), by first | exact (fun _ h => ⟨_, h⟩) | exact (fun _ _ => ⟨_, rfl⟩)⟩, ?_⟩), rfl⟩
  rintro ⟨k, hinv⟩
  dsimp only
  obtain ⟨hk, hA⟩ := hinv
  have hl := hs.1
  refine AW_seq ?_
  refine AW_region ?_
  refine AL_b (x_lss rfl rfl rfl) (fun b9 h9 => ?_)
  refine AL_nil ?_
  refine AW_seq ?_
  cases b9
  · try simp only [tdy] at h9
    refine AW_condF rfl ?_
    refine AW_exit (BQ_hit ?_)
    refine AW_seq ?_
    refine AW_region ?_
    refine AL_p (x_field (off := 0) (o' := 0) rfl rfl rfl (by kernel_rfl) rfl) ?_
    refine AL_p (x_load1 rfl rfl rfl (by kernel_rfl) rfl) ?_
    refine AL_p (x_len (E := 84) (n := 3) rfl rfl (by kernel_rfl)) ?_
    refine AL_b (x_leq rfl rfl rfl) (fun b43 h43 => ?_)
    refine AL_p (x_assign rfl rfl) ?_
    refine AL_nil ?_
    refine AW_ret ?_
    cases b43
    rotate_left
    · try simp only [tdy] at h43
      exact ⟨rn [], ⟨⟨⟨_, rfl, vle_bool (by first | exact (storeOk_len (by omega)).symm | exact (storeOk_bad (k := k) (by omega) (namedAt_word (by omega) h15)).symm | exact (storeOk_bad (k := k) (by omega) (namedAt_rel (by omega) h20)).symm | exact (storeOk_bad (k := k) (by omega) (namedAt_order (by omega) (by omega) h36)).symm | exact (storeOk_good hA (by omega) (by omega)).symm | exact (storeOk_good hA (by omega) (by simpa using h43)).symm | exact (storeOk_len (by omega)).symm)⟩, trivial⟩, trivial, trivial, rfl⟩⟩
    try simp only [tdy] at h43
    exact ⟨rn [], ⟨⟨⟨_, rfl, vle_bool (by first | exact (storeOk_len (by omega)).symm | exact (storeOk_bad (k := k) (by omega) (namedAt_word (by omega) h15)).symm | exact (storeOk_bad (k := k) (by omega) (namedAt_rel (by omega) h20)).symm | exact (storeOk_bad (k := k) (by omega) (namedAt_order (by omega) (by omega) h36)).symm | exact (storeOk_good hA (by omega) (by omega)).symm | exact (storeOk_good hA (by omega) (by simpa using h43)).symm | exact (storeOk_len (by omega)).symm)⟩, trivial⟩, trivial, trivial, rfl⟩⟩
  try simp only [tdy] at h9
  refine AW_condT rfl ?_
  refine AW_skip ?_
  refine AW_seq ?_
  refine AW_block ?_
  refine AW_seq ?_
  refine AW_region ?_
  refine AL_p (x_move rfl rfl) ?_
  refine AL_p (x_index (E := 84) (n := 3) rfl rfl rfl (by kernel_rfl) rfl (k := k) (by omega) (by omega)) ?_
  refine AL_p (x_eloadW (n := 3) rfl rfl (by kernel_rfl) rfl) ?_
  refine AL_p (x_alloc (z := .agg #[.string ⟨#[]⟩, .int .i64 0, .slice none 0 0]) 101 rfl (by kernel_rfl) rfl rfl rfl rfl) ?_
  refine AL_p (x_assign rfl rfl) ?_
  refine AL_p (x_store (n := 3) rfl rfl rfl rfl (by kernel_rfl) rfl rfl rfl) ?_
  refine AL_nil ?_
  refine AW_seq ?_
  refine AW_draw rfl ?_
  refine AL_p (x_field (off := 0) (o' := 0) rfl rfl rfl (by kernel_rfl) rfl) ?_
  refine AL_p (x_load1 rfl rfl rfl (by kernel_rfl) rfl) ?_
  refine AL_b (x_call0 rfl rfl rfl (wordOkI_c _) rfl rfl) (fun b15 h15 => ?_)
  refine AL_p (x_not rfl rfl) ?_
  refine AL_p (x_move rfl rfl) ?_
  cases b15
  · try simp only [tdy] at h15
    refine AL_o rfl rfl rfl rfl ?_
    refine AL_o rfl rfl rfl rfl ?_
    refine AL_o rfl rfl rfl rfl ?_
    refine AL_o rfl rfl rfl rfl ?_
    refine AL_p (x_pickT rfl rfl rfl) ?_
    refine AL_p (x_move rfl rfl) ?_
    refine AL_o rfl rfl rfl rfl ?_
    refine AL_o rfl rfl rfl rfl ?_
    refine AL_o rfl rfl rfl rfl ?_
    refine AL_u rfl rfl rfl ?_
    refine AL_u rfl rfl rfl ?_
    refine AL_u rfl rfl rfl ?_
    refine AL_u rfl rfl rfl ?_
    refine AL_u rfl rfl rfl ?_
    refine AL_u rfl rfl rfl ?_
    refine AL_u rfl rfl rfl ?_
    refine AL_u rfl rfl rfl ?_
    refine AL_u rfl rfl rfl ?_
    refine AL_u rfl rfl rfl ?_
    refine AL_o rfl rfl rfl rfl ?_
    refine AL_p (x_pickT rfl rfl rfl) ?_
    refine AL_nild (by kernel_rfl) ?_
    refine AW_condT rfl ?_
    refine AW_seq ?_
    refine AW_region ?_
    refine AL_p (x_assign rfl rfl) ?_
    refine AL_nil ?_
    refine AW_ret (BQ_ret (BQ_ret ?_))
    exact ⟨rn [], ⟨⟨⟨_, rfl, vle_bool (by first | exact (storeOk_len (by omega)).symm | exact (storeOk_bad (k := k) (by omega) (namedAt_word (by omega) h15)).symm | exact (storeOk_bad (k := k) (by omega) (namedAt_rel (by omega) h20)).symm | exact (storeOk_bad (k := k) (by omega) (namedAt_order (by omega) (by omega) h36)).symm | exact (storeOk_good hA (by omega) (by omega)).symm | exact (storeOk_good hA (by omega) (by simpa using h43)).symm | exact (storeOk_len (by omega)).symm)⟩, trivial⟩, trivial, trivial, rfl⟩⟩
  try simp only [tdy] at h15
  refine AL_g rfl rfl (x_field (off := 1) (o' := 1) rfl rfl rfl (by kernel_rfl) rfl) ?_
  refine AL_g rfl rfl (x_loadN (n := 2) rfl rfl rfl (by kernel_rfl) rfl rfl) ?_
  refine AL_gb rfl rfl (x_call0 rfl rfl rfl (relOkI_c _ (hs.2 _ (List.getElem_mem _)).2.1) rfl rfl) (fun b20 h20 => ?_)
  refine AL_g rfl rfl (x_not rfl rfl) ?_
  refine AL_p (x_pickF rfl rfl rfl) ?_
  refine AL_p (x_move rfl rfl) ?_
  cases b20
  · try simp only [tdy] at h20
    refine AL_o rfl rfl rfl rfl ?_
    refine AL_o rfl rfl rfl rfl ?_
    refine AL_o rfl rfl rfl rfl ?_
    refine AL_u rfl rfl rfl ?_
    refine AL_u rfl rfl rfl ?_
    refine AL_u rfl rfl rfl ?_
    refine AL_u rfl rfl rfl ?_
    refine AL_u rfl rfl rfl ?_
    refine AL_u rfl rfl rfl ?_
    refine AL_u rfl rfl rfl ?_
    refine AL_u rfl rfl rfl ?_
    refine AL_u rfl rfl rfl ?_
    refine AL_u rfl rfl rfl ?_
    refine AL_o rfl rfl rfl rfl ?_
    refine AL_p (x_pickT rfl rfl rfl) ?_
    refine AL_nild (by kernel_rfl) ?_
    refine AW_condT rfl ?_
    refine AW_seq ?_
    refine AW_region ?_
    refine AL_p (x_assign rfl rfl) ?_
    refine AL_nil ?_
    refine AW_ret (BQ_ret (BQ_ret ?_))
    exact ⟨rn [], ⟨⟨⟨_, rfl, vle_bool (by first | exact (storeOk_len (by omega)).symm | exact (storeOk_bad (k := k) (by omega) (namedAt_word (by omega) h15)).symm | exact (storeOk_bad (k := k) (by omega) (namedAt_rel (by omega) h20)).symm | exact (storeOk_bad (k := k) (by omega) (namedAt_order (by omega) (by omega) h36)).symm | exact (storeOk_good hA (by omega) (by omega)).symm | exact (storeOk_good hA (by omega) (by simpa using h43)).symm | exact (storeOk_len (by omega)).symm)⟩, trivial⟩, trivial, trivial, rfl⟩⟩
  try simp only [tdy] at h20
  refine AL_g rfl rfl (x_move rfl rfl) ?_
  refine AL_gb rfl rfl (x_gtr rfl rfl rfl) (fun b25 h25 => ?_)
  refine AL_g rfl rfl (x_move rfl rfl) ?_
  cases b25
  · try simp only [tdy] at h25
    have hat := namedAt_first (l := s.rels) (k := k) (by omega) (by omega) h15 h20
    refine AL_o rfl rfl rfl rfl ?_
    refine AL_o rfl rfl rfl rfl ?_
    refine AL_o rfl rfl rfl rfl ?_
    refine AL_o rfl rfl rfl rfl ?_
    refine AL_o rfl rfl rfl rfl ?_
    refine AL_o rfl rfl rfl rfl ?_
    refine AL_o rfl rfl rfl rfl ?_
    refine AL_o rfl rfl rfl rfl ?_
    refine AL_o rfl rfl rfl rfl ?_
    refine AL_o rfl rfl rfl rfl ?_
    refine AL_g rfl rfl (x_pickF rfl rfl rfl) ?_
    refine AL_p (x_pickF rfl rfl rfl) ?_
    refine AL_nild (by kernel_rfl) ?_
    refine AW_condF rfl ?_
    refine AW_skip ?_
    refine AW_region ?_
    refine AL_p (x_add rfl rfl rfl (IntWalk.i64_in _ (by omega))) ?_
    refine AL_p (x_move rfl rfl) ?_
    refine AL_nil ?_
    refine ⟨⟨k + 1, ⟨by omega, hA.succ (by omega) hat⟩⟩, rn [], ?_, by dsimp only; omega⟩
    exact ⟨by (repeat refine ⟨⟨_, rfl, by first | exact VLe.rf | exact vle_int (by dsimp only; omega)⟩, ?_⟩); exact trivial, by (repeat refine ⟨⟨_, rfl, by first | exact BLe.rf | exact BLe.box AllC.rf | exact BLe.arr (by exact rfl)⟩, ?_⟩); exact trivial, by repeat (first | exact trivial | refine ⟨⟨rfl, by first | (left; intro h; cases h) | (right; rfl), by first | exact (fun _ h => ⟨_, h⟩) | exact (fun _ _ => ⟨_, rfl⟩)⟩, ?_⟩), rfl⟩
  try simp only [tdy] at h25
  refine AL_g rfl rfl (x_field (off := 0) (o' := 0) rfl rfl rfl (by kernel_rfl) rfl) ?_
  refine AL_g rfl rfl (x_load1 rfl rfl rfl (by kernel_rfl) rfl) ?_
  refine AL_g rfl rfl (x_move rfl rfl) ?_
  refine AL_g rfl rfl (x_sub rfl rfl rfl (IntWalk.i64_in _ (by omega))) ?_
  refine AL_g rfl rfl (x_index (E := 84) (n := 3) rfl rfl rfl (by kernel_rfl) rfl (k := k - 1) (by omega) (by omega)) ?_
  refine AL_g rfl rfl (x_efield (off := 0) (o' := 0) rfl rfl (by kernel_rfl) rfl) ?_
  refine AL_g rfl rfl (x_eload1 rfl rfl (by kernel_rfl) rfl) ?_
  refine AL_g rfl rfl (x_field (off := 0) (o' := 0) rfl rfl rfl (by kernel_rfl) rfl) ?_
  refine AL_g rfl rfl (x_load1 rfl rfl rfl (by kernel_rfl) rfl) ?_
  refine AL_gb rfl rfl (x_sgeq rfl rfl rfl) (fun b36 h36 => ?_)
  refine AL_g rfl rfl (x_pickT rfl rfl rfl) ?_
  refine AL_p (x_pickF rfl rfl rfl) ?_
  refine AL_nild (by kernel_rfl) ?_
  cases b36
  rotate_left
  · try simp only [tdy] at h36
    refine AW_condT rfl ?_
    refine AW_seq ?_
    refine AW_region ?_
    refine AL_p (x_assign rfl rfl) ?_
    refine AL_nil ?_
    refine AW_ret (BQ_ret (BQ_ret ?_))
    exact ⟨rn [], ⟨⟨⟨_, rfl, vle_bool (by first | exact (storeOk_len (by omega)).symm | exact (storeOk_bad (k := k) (by omega) (namedAt_word (by omega) h15)).symm | exact (storeOk_bad (k := k) (by omega) (namedAt_rel (by omega) h20)).symm | exact (storeOk_bad (k := k) (by omega) (namedAt_order (by omega) (by omega) h36)).symm | exact (storeOk_good hA (by omega) (by omega)).symm | exact (storeOk_good hA (by omega) (by simpa using h43)).symm | exact (storeOk_len (by omega)).symm)⟩, trivial⟩, trivial, trivial, rfl⟩⟩
  try simp only [tdy] at h36
  have hat := namedAt_next (l := s.rels) (k := k) (by omega) h15 h20 h36
  refine AW_condF rfl ?_
  refine AW_skip ?_
  refine AW_region ?_
  refine AL_p (x_add rfl rfl rfl (IntWalk.i64_in _ (by omega))) ?_
  refine AL_p (x_move rfl rfl) ?_
  refine AL_nil ?_
  refine ⟨⟨k + 1, ⟨by omega, hA.succ (by omega) hat⟩⟩, rn [], ?_, by dsimp only; omega⟩
  exact ⟨by (repeat refine ⟨⟨_, rfl, by first | exact VLe.rf | exact vle_int (by dsimp only; omega)⟩, ?_⟩); exact trivial, by (repeat refine ⟨⟨_, rfl, by first | exact BLe.rf | exact BLe.box AllC.rf | exact BLe.arr (by exact rfl)⟩, ?_⟩); exact trivial, by repeat (first | exact trivial | refine ⟨⟨rfl, by first | (left; intro h; cases h) | (right; rfl), by first | exact (fun _ h => ⟨_, h⟩) | exact (fun _ _ => ⟨_, rfl⟩)⟩, ?_⟩), rfl⟩

end Go.Proofs.YtibhoanjglfaoaaGreat

/- A delta that fits a store, in plain words. -/
namespace Go.Proofs.YtibhoanjglfaoaaGreat
open Go.RowKit
set_option linter.unusedVariables false

theorem relOk_vals2 {a : Relt} (h : relOk a = true) : ∀ r ∈ a.rows, ∀ v ∈ r, valOk v = true := fun r hr v hv => by
  obtain ⟨j, hj, rfl⟩ := List.getElem_of_mem hr
  exact (relOk_sorted h).1 j hj v hv
/-- The relation of a name. -/
def namedIn (l : List Namedt) (n : ByteArray) : Relt × Bool := match l.find? fun x => x.name == n with
  | some x => (x.rel, true)
  | none => (⟨0, []⟩, false)
theorem find_at {α : Type} {p : α → Bool} : ∀ {l : List α} {k : Nat} (hk : k < l.length), NoneTo p l k → p l[k] = true → l.find? p = some l[k]
  | [], k, hk, _, _ => absurd hk (by simp)
  | x :: l, 0, hk, _, hp => by simp at hp; simp [hp]
  | x :: l, k + 1, hk, h, hp => by
    have h0 := h 0 (by simp) (by omega)
    simp only [List.getElem_cons_zero] at h0
    rw [List.find?_cons, h0]
    exact find_at (l := l) (k := k) (by simpa using hk) (fun j hj hjk => by have := h (j + 1) (by simpa using hj) (by omega); simpa using this) (by simpa using hp)
theorem find_none {α : Type} {p : α → Bool} {l : List α} {k : Nat} (h : NoneTo p l k) (hk : l.length ≤ k) : l.find? p = none := by
  rw [List.find?_eq_none]
  intro x hx
  obtain ⟨j, hj, rfl⟩ := List.getElem_of_mem hx
  simp [h j hj (by omega)]
theorem namedIn_at {l : List Namedt} {n : ByteArray} {k : Nat} (hk : k < l.length) (h : NoneTo (fun x => x.name == n) l k) (hp : (l[k].name == n) = true) : namedIn l n = (l[k].rel, true) := by
  unfold namedIn; rw [find_at hk h hp]
theorem namedIn_none {l : List Namedt} {n : ByteArray} {k : Nat} (h : NoneTo (fun x => x.name == n) l k) (hk : l.length ≤ k) : namedIn l n = (⟨0, []⟩, false) := by
  unfold namedIn; rw [find_none h hk]
theorem namedIn_mem {l : List Namedt} {n : ByteArray} (h : (namedIn l n).2 = true) : ∃ x ∈ l, (namedIn l n).1 = x.rel := by
  unfold namedIn at h ⊢
  split at h
  · rename_i x hx
    exact ⟨x, List.mem_of_find?_eq_some hx, rfl⟩
  · cases h
theorem namedIn_ok {s : Storet} {n : ByteArray} (hs : storeOk s = true) (h : (namedIn s.rels n).2 = true) : relOk (namedIn s.rels n).1 = true := by
  obtain ⟨x, hx, e⟩ := namedIn_mem h
  obtain ⟨j, hj, rfl⟩ := List.getElem_of_mem hx
  rw [e]; exact storeOk_rel hs hj
theorem namedIn_small {s : Storet} {n : ByteArray} (hs : smallStore s) : smallRel (namedIn s.rels n).1 := by
  unfold namedIn
  split
  · rename_i x hx
    exact (hs.2 x (List.mem_of_find?_eq_some hx)).2
  · exact ⟨by simp, by simp⟩
theorem deltaOk_two {d : Deltat} (h : deltaOk d = true) {k : Nat} (hk : k < d.changes.length) : two d.changes[k].plus d.changes[k].minus = true := by
  simp only [deltaOk, Bool.and_eq_true] at h
  have := everyB_get h.1 hk
  simp only [changeAt, Bool.and_eq_true] at this
  exact this.2.2.1
theorem apart_comm {a b : Relt} : apart a b = apart b a := by
  have h : ∀ {a b : Relt}, apart a b = true → apart b a = true := fun {a b} h => by
    rw [apart_iff] at h ⊢
    rw [List.length_eq_zero_iff, List.filter_eq_nil_iff] at h ⊢
    intro row hr hm
    simp only [hasRow, decide_eq_true_eq] at hm
    exact h row hm (by simp [hasRow, hr])
  cases h1 : apart a b
  · cases h2 : apart b a
    · rfl
    · rw [h h2] at h1; cases h1
  · rw [h h1]
def fitAt (s : Storet) (l : List Changet) (k : Nat) (h : k < l.length) : Bool :=
  (namedIn s.rels l[k].name).2 && (((namedIn s.rels l[k].name).1.arity == l[k].plus.arity) && (apart (namedIn s.rels l[k].name).1 l[k].plus && ((l[k].minus.rows.filter fun row => !hasRow (namedIn s.rels l[k].name).1.rows row).length == 0)))
def deltaFits (s : Storet) (d : Deltat) : Bool := storeOk s && (deltaOk d && everyB (fitAt s d.changes))
theorem fits_s {s : Storet} {d : Deltat} (h : storeOk s = false) : deltaFits s d = false := by simp [deltaFits, h]
theorem fits_d {s : Storet} {d : Deltat} (h : deltaOk d = false) : deltaFits s d = false := by simp [deltaFits, h]
theorem fits_bad {s : Storet} {d : Deltat} {k : Nat} (hk : k < d.changes.length) (h : fitAt s d.changes k hk = false) : deltaFits s d = false := by simp [deltaFits, everyB_bad hk h]
theorem fits_good {s : Storet} {d : Deltat} {k : Nat} (h1 : storeOk s = true) (h2 : deltaOk d = true) (h : AllAt (fitAt s d.changes) k) (hk : d.changes.length ≤ k) : deltaFits s d = true := by simp [deltaFits, h1, h2, h.all hk]
section
variable {s : Storet} {l : List Changet} {k : Nat} (hk : k < l.length)
theorem fitAt_no (h : (namedIn s.rels l[k].name).2 = false) : fitAt s l k hk = false := by simp [fitAt, h]
theorem fitAt_ar (h : ¬ (namedIn s.rels l[k].name).1.arity = l[k].plus.arity) : fitAt s l k hk = false := by simp [fitAt, h]
theorem fitAt_apart (h : apart (namedIn s.rels l[k].name).1 l[k].plus = false) : fitAt s l k hk = false := by simp [fitAt, h]
theorem fitAt_minus (h : 0 < (l[k].minus.rows.filter fun row => !hasRow (namedIn s.rels l[k].name).1.rows row).length) : fitAt s l k hk = false := by
  have : ((l[k].minus.rows.filter fun row => !hasRow (namedIn s.rels l[k].name).1.rows row).length == 0) = false := by rw [beq_eq_false_iff_ne]; omega
  simp only [fitAt, this, Bool.and_false]
theorem fitAt_yes (h1 : (namedIn s.rels l[k].name).2 = true) (h2 : (namedIn s.rels l[k].name).1.arity = l[k].plus.arity) (h3 : apart (namedIn s.rels l[k].name).1 l[k].plus = true) (h4 : (l[k].minus.rows.filter fun row => !hasRow (namedIn s.rels l[k].name).1.rows row).length = 0) : fitAt s l k hk = true := by
  have e2 : ((namedIn s.rels l[k].name).1.arity == l[k].plus.arity) = true := by simp [h2]
  have e4 : ((l[k].minus.rows.filter fun row => !hasRow (namedIn s.rels l[k].name).1.rows row).length == 0) = true := by rw [h4]; rfl
  unfold fitAt; rw [h1, e2, h3, e4]; rfl
end
end Go.Proofs.YtibhoanjglfaoaaGreat

/- Deltas that fit (printed by walk.py) -/
namespace Go.Proofs.YtibhoanjglfaoaaGreat
open Go.RowKit
set_option linter.unusedVariables false
set_option linter.unusedSimpArgs false
set_option maxRecDepth 100000

set_option maxHeartbeats 4000000 in
theorem namedS_c (s : Storet) (n : ByteArray) (hs : smallStore s) : AC Tryz.prog 32 [.agg (storeC s), .one (.c (.string n))] [] (.tup [.agg (relC (namedIn s.rels n).1), .one (.c (.bool (namedIn s.rels n).2))]) [] := by
  refine AC_bodyCT (n := 2) (k := 9) (T := [(4, .one (.ptr 9 0)), (5, .one (.c (.bool (namedIn s.rels n).2)))]) (Lf := ((9, some (.box (relC (namedIn s.rels n).1))) :: [])) Tryz.func32 rfl rfl Tryz.ntmps32 rfl Tryz.results32 rfl rfl rfl rfl (by kernel_rfl) rfl rfl ⟨trivial, (by repeat (first | exact trivial | refine ⟨⟨_, rfl, BLe.rf⟩, ?_⟩)), (by repeat (first | exact trivial | refine ⟨⟨rfl, by first | (left; intro h; cases h) | (right; rfl), by first | exact (fun _ h => ⟨_, h⟩) | exact (fun _ _ => ⟨_, rfl⟩)⟩, ?_⟩)), rfl⟩ ?_
  refine AW_seq ?_
  refine AW_region ?_
  refine AL_p (x_box 100 rfl rfl rfl rfl rfl rfl rfl) ?_
  refine AL_p (x_alloc (z := .agg #[.int .i64 0, .slice none 0 0]) 101 rfl (by kernel_rfl) rfl rfl rfl rfl) ?_
  refine AL_p (x_assign rfl rfl) ?_
  refine AL_nil ?_
  refine AW_seq ?_
  refine AW_seq ?_
  refine AW_region ?_
  refine AL_p (x_field (off := 0) (o' := 0) rfl rfl rfl (by kernel_rfl) rfl) ?_
  refine AL_p (x_load1 rfl rfl rfl (by kernel_rfl) rfl) ?_
  refine AL_p (x_len (E := 84) (n := 3) rfl rfl (by kernel_rfl)) ?_
  refine AL_p (x_move rfl rfl) ?_
  refine AL_nil ?_
  refine AW_block ?_
  refine AW_loop2 (ι := {q : Nat // q ≤ s.rels.length ∧ NoneTo (fun x => x.name == n) s.rels q}) (fun p => [(10, .one (.c (.int .i64 ((p.1) : Int))))]) (fun p => []) [1, 2, 4, 9] [100, 101] (fun p => s.rels.length - (p.1)) ⟨0, ⟨by have := hs.1; omega, .zero⟩⟩ (rn []) ?_ ?_
  exact ⟨by (repeat refine ⟨⟨_, rfl, by first | exact VLe.rf | exact vle_int (by dsimp only; omega)⟩, ?_⟩); exact trivial, by (repeat refine ⟨⟨_, rfl, by first | exact BLe.rf | exact BLe.box AllC.rf | exact BLe.arr (by exact rfl)⟩, ?_⟩); exact trivial, by repeat (first | exact trivial | refine ⟨⟨rfl, by first | (left; intro h; cases h) | (right; rfl), by first | exact (fun _ h => ⟨_, h⟩) | exact (fun _ _ => ⟨_, rfl⟩)⟩, ?_⟩), rfl⟩
  rintro ⟨k, hinv⟩
  dsimp only
  obtain ⟨hk, hA⟩ := hinv
  have hl := hs.1
  refine AW_seq ?_
  refine AW_region ?_
  refine AL_b (x_lss rfl rfl rfl) (fun b11 h11 => ?_)
  refine AL_nil ?_
  refine AW_seq ?_
  cases b11
  · try simp only [tdy] at h11
    refine AW_condF rfl ?_
    refine AW_exit (BQ_hit ?_)
    refine AW_seq ?_
    refine AW_region ?_
    refine AL_p (x_build (zs := [.int .i64 0, .slice none 0 0]) (places := [(0, 1), (1, 1)]) rfl (by kernel_rfl) rfl rfl rfl rfl rfl) ?_
    refine AL_p (x_store (n := 2) rfl rfl rfl rfl (by kernel_rfl) rfl rfl rfl) ?_
    refine AL_p (x_assign rfl rfl) ?_
    refine AL_nil ?_
    refine AW_ret ?_
    rw [namedIn_none hA (by omega)]
    exact ⟨rn [(9, 101)], ⟨⟨⟨_, rfl, VLe.rf⟩, ⟨_, rfl, VLe.rf⟩, trivial⟩, ⟨⟨_, rfl, BLe.box ⟨CLe.rf, CLe.nil, trivial⟩⟩, trivial⟩, trivial, rfl⟩⟩
  try simp only [tdy] at h11
  refine AW_condT rfl ?_
  refine AW_skip ?_
  refine AW_seq ?_
  refine AW_block ?_
  refine AW_seq ?_
  refine AW_region ?_
  refine AL_p (x_move rfl rfl) ?_
  refine AL_p (x_assign rfl rfl) ?_
  refine AL_nil ?_
  refine AW_seq ?_
  refine AW_region ?_
  refine AL_p (x_field (off := 0) (o' := 0) rfl rfl rfl (by kernel_rfl) rfl) ?_
  refine AL_p (x_load1 rfl rfl rfl (by kernel_rfl) rfl) ?_
  refine AL_p (x_move rfl rfl) ?_
  refine AL_p (x_index (E := 84) (n := 3) rfl rfl rfl (by kernel_rfl) rfl (k := k) (by omega) (by omega)) ?_
  refine AL_p (x_efield (off := 0) (o' := 0) rfl rfl (by kernel_rfl) rfl) ?_
  refine AL_p (x_eload1 rfl rfl (by kernel_rfl) rfl) ?_
  refine AL_p (x_move rfl rfl) ?_
  refine AL_b (x_seql rfl rfl rfl) (fun b20 h20 => ?_)
  refine AL_nil ?_
  cases b20
  · try simp only [tdy] at h20
    refine AW_condF rfl ?_
    refine AW_skip ?_
    refine AW_region ?_
    refine AL_p (x_add rfl rfl rfl (IntWalk.i64_in _ (by omega))) ?_
    refine AL_p (x_move rfl rfl) ?_
    refine AL_nil ?_
    refine ⟨⟨k + 1, ⟨by omega, hA.succ (by omega) h20⟩⟩, rn [], ?_, by dsimp only; omega⟩
    exact ⟨by (repeat refine ⟨⟨_, rfl, by first | exact VLe.rf | exact vle_int (by dsimp only; omega)⟩, ?_⟩); exact trivial, by (repeat refine ⟨⟨_, rfl, by first | exact BLe.rf | exact BLe.box AllC.rf | exact BLe.arr (by exact rfl)⟩, ?_⟩); exact trivial, by repeat (first | exact trivial | refine ⟨⟨rfl, by first | (left; intro h; cases h) | (right; rfl), by first | exact (fun _ h => ⟨_, h⟩) | exact (fun _ _ => ⟨_, rfl⟩)⟩, ?_⟩), rfl⟩
  try simp only [tdy] at h20
  refine AW_condT rfl ?_
  refine AW_seq ?_
  refine AW_region ?_
  refine AL_p (x_field (off := 0) (o' := 0) rfl rfl rfl (by kernel_rfl) rfl) ?_
  refine AL_p (x_load1 rfl rfl rfl (by kernel_rfl) rfl) ?_
  refine AL_p (x_move rfl rfl) ?_
  refine AL_p (x_index (E := 84) (n := 3) rfl rfl rfl (by kernel_rfl) rfl (k := k) (by omega) (by omega)) ?_
  refine AL_p (x_efield (off := 1) (o' := 1) rfl rfl (by kernel_rfl) rfl) ?_
  refine AL_p (x_eloadN (n := 2) rfl rfl (by kernel_rfl) rfl rfl) ?_
  refine AL_p (x_store (n := 2) rfl rfl rfl rfl (by kernel_rfl) rfl rfl rfl) ?_
  refine AL_p (x_assign rfl rfl) ?_
  refine AL_nil ?_
  refine AW_ret (BQ_ret (BQ_ret ?_))
  rw [namedIn_at (k := k) (by omega) hA h20]
  exact ⟨rn [(9, 101)], ⟨⟨⟨_, rfl, VLe.rf⟩, ⟨_, rfl, VLe.rf⟩, trivial⟩, ⟨⟨_, rfl, BLe.rf⟩, trivial⟩, trivial, rfl⟩⟩

set_option maxHeartbeats 4000000 in
theorem namedI_c (s : Storet) (n : ByteArray) (hs : smallStore s) : AC Tryz.prog 40 [.agg (storeC s), .one (.c (.string n))] [] (.tup [.agg (relC (namedIn s.rels n).1), .one (.c (.bool (namedIn s.rels n).2))]) [] := by
  refine AC_bodyCT (n := 2) (k := 9) (T := [(4, .one (.ptr 9 0)), (5, .one (.c (.bool (namedIn s.rels n).2)))]) (Lf := ((9, some (.box (relC (namedIn s.rels n).1))) :: [])) Tryz.func40 rfl rfl Tryz.ntmps40 rfl Tryz.results40 rfl rfl rfl rfl (by kernel_rfl) rfl rfl ⟨trivial, (by repeat (first | exact trivial | refine ⟨⟨_, rfl, BLe.rf⟩, ?_⟩)), (by repeat (first | exact trivial | refine ⟨⟨rfl, by first | (left; intro h; cases h) | (right; rfl), by first | exact (fun _ h => ⟨_, h⟩) | exact (fun _ _ => ⟨_, rfl⟩)⟩, ?_⟩)), rfl⟩ ?_
  refine AW_seq ?_
  refine AW_region ?_
  refine AL_p (x_box 100 rfl rfl rfl rfl rfl rfl rfl) ?_
  refine AL_p (x_alloc (z := .agg #[.int .i64 0, .slice none 0 0]) 101 rfl (by kernel_rfl) rfl rfl rfl rfl) ?_
  refine AL_p (x_assign rfl rfl) ?_
  refine AL_nil ?_
  refine AW_seq ?_
  refine AW_seq ?_
  refine AW_region ?_
  refine AL_p (x_field (off := 0) (o' := 0) rfl rfl rfl (by kernel_rfl) rfl) ?_
  refine AL_p (x_load1 rfl rfl rfl (by kernel_rfl) rfl) ?_
  refine AL_p (x_len (E := 84) (n := 3) rfl rfl (by kernel_rfl)) ?_
  refine AL_p (x_move rfl rfl) ?_
  refine AL_nil ?_
  refine AW_block ?_
  refine AW_loop2 (ι := {q : Nat // q ≤ s.rels.length ∧ NoneTo (fun x => x.name == n) s.rels q}) (fun p => [(11, .one (.c (.int .i64 ((p.1) : Int))))]) (fun p => []) [1, 4, 9, 10] [100, 101] (fun p => s.rels.length - (p.1)) ⟨0, ⟨by have := hs.1; omega, .zero⟩⟩ (rn []) ?_ ?_
  exact ⟨by (repeat refine ⟨⟨_, rfl, by first | exact VLe.rf | exact vle_int (by dsimp only; omega)⟩, ?_⟩); exact trivial, by (repeat refine ⟨⟨_, rfl, by first | exact BLe.rf | exact BLe.box AllC.rf | exact BLe.arr (by exact rfl)⟩, ?_⟩); exact trivial, by repeat (first | exact trivial | refine ⟨⟨rfl, by first | (left; intro h; cases h) | (right; rfl), by first | exact (fun _ h => ⟨_, h⟩) | exact (fun _ _ => ⟨_, rfl⟩)⟩, ?_⟩), rfl⟩
  rintro ⟨k, hinv⟩
  dsimp only
  obtain ⟨hk, hA⟩ := hinv
  have hl := hs.1
  refine AW_seq ?_
  refine AW_region ?_
  refine AL_b (x_lss rfl rfl rfl) (fun b12 h12 => ?_)
  refine AL_nil ?_
  refine AW_seq ?_
  cases b12
  · try simp only [tdy] at h12
    refine AW_condF rfl ?_
    refine AW_exit (BQ_hit ?_)
    refine AW_seq ?_
    refine AW_region ?_
    refine AL_p (x_build (zs := [.int .i64 0, .slice none 0 0]) (places := [(0, 1), (1, 1)]) rfl (by kernel_rfl) rfl rfl rfl rfl rfl) ?_
    refine AL_p (x_store (n := 2) rfl rfl rfl rfl (by kernel_rfl) rfl rfl rfl) ?_
    refine AL_p (x_assign rfl rfl) ?_
    refine AL_nil ?_
    refine AW_ret ?_
    rw [namedIn_none hA (by omega)]
    exact ⟨rn [(9, 101)], ⟨⟨⟨_, rfl, VLe.rf⟩, ⟨_, rfl, VLe.rf⟩, trivial⟩, ⟨⟨_, rfl, BLe.box ⟨CLe.rf, CLe.nil, trivial⟩⟩, trivial⟩, trivial, rfl⟩⟩
  try simp only [tdy] at h12
  refine AW_condT rfl ?_
  refine AW_skip ?_
  refine AW_seq ?_
  refine AW_block ?_
  refine AW_seq ?_
  refine AW_region ?_
  refine AL_p (x_index (E := 84) (n := 3) rfl rfl rfl (by kernel_rfl) rfl (k := k) (by omega) (by omega)) ?_
  refine AL_p (x_eloadW (n := 3) rfl rfl (by kernel_rfl) rfl) ?_
  refine AL_p (x_alloc (z := .agg #[.string ⟨#[]⟩, .int .i64 0, .slice none 0 0]) 102 rfl (by kernel_rfl) rfl rfl rfl rfl) ?_
  refine AL_p (x_store (n := 3) rfl rfl rfl rfl (by kernel_rfl) rfl rfl rfl) ?_
  refine AL_nil ?_
  refine AW_seq ?_
  refine AW_region ?_
  refine AL_p (x_field (off := 0) (o' := 0) rfl rfl rfl (by kernel_rfl) rfl) ?_
  refine AL_p (x_load1 rfl rfl rfl (by kernel_rfl) rfl) ?_
  refine AL_p (x_move rfl rfl) ?_
  refine AL_b (x_seql rfl rfl rfl) (fun b18 h18 => ?_)
  refine AL_nil ?_
  cases b18
  · try simp only [tdy] at h18
    refine AW_condF rfl ?_
    refine AW_skip ?_
    refine AW_region ?_
    refine AL_p (x_add rfl rfl rfl (IntWalk.i64_in _ (by omega))) ?_
    refine AL_p (x_move rfl rfl) ?_
    refine AL_nil ?_
    refine ⟨⟨k + 1, ⟨by omega, hA.succ (by omega) h18⟩⟩, rn [], ?_, by dsimp only; omega⟩
    exact ⟨by (repeat refine ⟨⟨_, rfl, by first | exact VLe.rf | exact vle_int (by dsimp only; omega)⟩, ?_⟩); exact trivial, by (repeat refine ⟨⟨_, rfl, by first | exact BLe.rf | exact BLe.box AllC.rf | exact BLe.arr (by exact rfl)⟩, ?_⟩); exact trivial, by repeat (first | exact trivial | refine ⟨⟨rfl, by first | (left; intro h; cases h) | (right; rfl), by first | exact (fun _ h => ⟨_, h⟩) | exact (fun _ _ => ⟨_, rfl⟩)⟩, ?_⟩), rfl⟩
  try simp only [tdy] at h18
  refine AW_condT rfl ?_
  refine AW_seq ?_
  refine AW_region ?_
  refine AL_p (x_field (off := 1) (o' := 1) rfl rfl rfl (by kernel_rfl) rfl) ?_
  refine AL_p (x_loadN (n := 2) rfl rfl rfl (by kernel_rfl) rfl rfl) ?_
  refine AL_p (x_store (n := 2) rfl rfl rfl rfl (by kernel_rfl) rfl rfl rfl) ?_
  refine AL_p (x_assign rfl rfl) ?_
  refine AL_nil ?_
  refine AW_ret (BQ_ret (BQ_ret ?_))
  rw [namedIn_at (k := k) (by omega) hA h18]
  exact ⟨rn [(9, 101)], ⟨⟨⟨_, rfl, VLe.rf⟩, ⟨_, rfl, VLe.rf⟩, trivial⟩, ⟨⟨_, rfl, BLe.rf⟩, trivial⟩, trivial, rfl⟩⟩

set_option maxHeartbeats 4000000 in
theorem deltaFitsS_c (s : Storet) (d : Deltat) (hs : smallStore s) (hd : smallDelta d) : AC Tryz.prog 30 [.agg (storeC s), .agg (deltaC d)] [] (.one (.c (.bool (deltaFits s d)))) [] := by
  refine AC_body1 Tryz.func30 rfl rfl Tryz.ntmps30 rfl Tryz.results30 ?_
  refine AW_seq ?_
  refine AW_region ?_
  refine AL_p (x_box 100 rfl rfl rfl rfl rfl rfl rfl) ?_
  refine AL_p (x_box 101 rfl rfl rfl rfl rfl rfl rfl) ?_
  refine AL_p (x_assign rfl rfl) ?_
  refine AL_nil ?_
  refine AW_seq ?_
  refine AW_seq ?_
  refine AW_region ?_
  refine AL_p (x_loadN (n := 1) rfl rfl rfl (by kernel_rfl) rfl rfl) ?_
  refine AL_b (x_call0 rfl rfl rfl (storeOkS_c _ hs) rfl rfl) (fun b10 h10 => ?_)
  refine AL_p (x_not rfl rfl) ?_
  refine AL_p (x_move rfl rfl) ?_
  cases b10
  · try simp only [tdy] at h10
    refine AL_o rfl rfl rfl rfl ?_
    refine AL_o rfl rfl rfl rfl ?_
    refine AL_o rfl rfl rfl rfl ?_
    refine AL_p (x_pickT rfl rfl rfl) ?_
    refine AL_nil ?_
    refine AW_condT rfl ?_
    refine AW_seq ?_
    refine AW_region ?_
    refine AL_p (x_assign rfl rfl) ?_
    refine AL_nil ?_
    refine AW_ret ?_
    exact ⟨rn [], ⟨⟨⟨_, rfl, vle_bool (by first | exact (fits_s h10).symm | exact (fits_d h14).symm | exact (fits_bad (k := k) (by omega) (fitAt_no (by omega) h30)).symm | exact (fits_bad (k := k) (by omega) (fitAt_ar (by omega) (by omega))).symm | exact (fits_bad (k := k) (by omega) (fitAt_apart (by omega) h45)).symm | ((refine (fits_bad (k := k) (by omega) (fitAt_minus (by omega) ?_)).symm; simp only [beq_false] at h55; omega)) | exact (fits_good h10 h14 hA (by omega)).symm)⟩, trivial⟩, trivial, trivial, rfl⟩⟩
  try simp only [tdy] at h10
  refine AL_g rfl rfl (x_loadN (n := 1) rfl rfl rfl (by kernel_rfl) rfl rfl) ?_
  refine AL_gb rfl rfl (x_call0 rfl rfl rfl (deltaOkS_c _ hd) rfl rfl) (fun b14 h14 => ?_)
  refine AL_g rfl rfl (x_not rfl rfl) ?_
  refine AL_p (x_pickF rfl rfl rfl) ?_
  refine AL_nil ?_
  cases b14
  · try simp only [tdy] at h14
    refine AW_condT rfl ?_
    refine AW_seq ?_
    refine AW_region ?_
    refine AL_p (x_assign rfl rfl) ?_
    refine AL_nil ?_
    refine AW_ret ?_
    exact ⟨rn [], ⟨⟨⟨_, rfl, vle_bool (by first | exact (fits_s h10).symm | exact (fits_d h14).symm | exact (fits_bad (k := k) (by omega) (fitAt_no (by omega) h30)).symm | exact (fits_bad (k := k) (by omega) (fitAt_ar (by omega) (by omega))).symm | exact (fits_bad (k := k) (by omega) (fitAt_apart (by omega) h45)).symm | ((refine (fits_bad (k := k) (by omega) (fitAt_minus (by omega) ?_)).symm; simp only [beq_false] at h55; omega)) | exact (fits_good h10 h14 hA (by omega)).symm)⟩, trivial⟩, trivial, trivial, rfl⟩⟩
  try simp only [tdy] at h14
  refine AW_condF rfl ?_
  refine AW_skip ?_
  refine AW_seq ?_
  refine AW_seq ?_
  refine AW_region ?_
  refine AL_p (x_field (off := 0) (o' := 0) rfl rfl rfl (by kernel_rfl) rfl) ?_
  refine AL_p (x_load1 rfl rfl rfl (by kernel_rfl) rfl) ?_
  refine AL_p (x_len (E := 65) (n := 5) rfl rfl (by kernel_rfl)) ?_
  refine AL_p (x_move rfl rfl) ?_
  refine AL_nil ?_
  refine AW_block ?_
  refine AW_loop2 (ι := {q : Nat // q ≤ d.changes.length ∧ AllAt (fitAt s d.changes) q}) (fun p => [(20, .one (.c (.int .i64 ((p.1) : Int))))]) (fun p => []) [2, 18, 19] [100, 101] (fun p => d.changes.length - (p.1)) ⟨0, ⟨by have := hd.1; omega, .zero⟩⟩ (rn []) ?_ ?_
  exact ⟨by (repeat refine ⟨⟨_, rfl, by first | exact VLe.rf | exact vle_int (by dsimp only; omega)⟩, ?_⟩); exact trivial, by (repeat refine ⟨⟨_, rfl, by first | exact BLe.rf | exact BLe.box AllC.rf | exact BLe.arr (by exact rfl)⟩, ?_⟩); exact trivial, by repeat (first | exact trivial | refine ⟨⟨rfl, by first | (left; intro h; cases h) | (right; rfl), by first | exact (fun _ h => ⟨_, h⟩) | exact (fun _ _ => ⟨_, rfl⟩)⟩, ?_⟩), rfl⟩
  rintro ⟨k, hinv⟩
  dsimp only
  obtain ⟨hk, hA⟩ := hinv
  have hl := hd.1
  refine AW_seq ?_
  refine AW_region ?_
  refine AL_b (x_lss rfl rfl rfl) (fun b21 h21 => ?_)
  refine AL_nil ?_
  refine AW_seq ?_
  cases b21
  · try simp only [tdy] at h21
    refine AW_condF rfl ?_
    refine AW_exit (BQ_hit ?_)
    refine AW_seq ?_
    refine AW_region ?_
    refine AL_p (x_assign rfl rfl) ?_
    refine AL_nil ?_
    refine AW_ret ?_
    exact ⟨rn [], ⟨⟨⟨_, rfl, vle_bool (by first | exact (fits_s h10).symm | exact (fits_d h14).symm | exact (fits_bad (k := k) (by omega) (fitAt_no (by omega) h30)).symm | exact (fits_bad (k := k) (by omega) (fitAt_ar (by omega) (by omega))).symm | exact (fits_bad (k := k) (by omega) (fitAt_apart (by omega) h45)).symm | ((refine (fits_bad (k := k) (by omega) (fitAt_minus (by omega) ?_)).symm; simp only [beq_false] at h55; omega)) | exact (fits_good h10 h14 hA (by omega)).symm)⟩, trivial⟩, trivial, trivial, rfl⟩⟩
  try simp only [tdy] at h21
  refine AW_condT rfl ?_
  refine AW_skip ?_
  refine AW_seq ?_
  refine AW_block ?_
  refine AW_seq ?_
  refine AW_region ?_
  refine AL_p (x_index (E := 65) (n := 5) rfl rfl rfl (by kernel_rfl) rfl (k := k) (by omega) (by omega)) ?_
  refine AL_p (x_eloadW (n := 5) rfl rfl (by kernel_rfl) rfl) ?_
  refine AL_p (x_alloc (z := .agg #[.string ⟨#[]⟩, .int .i64 0, .slice none 0 0, .int .i64 0, .slice none 0 0]) 102 rfl (by kernel_rfl) rfl rfl rfl rfl) ?_
  refine AL_p (x_store (n := 5) rfl rfl rfl rfl (by kernel_rfl) rfl rfl rfl) ?_
  refine AL_nil ?_
  refine AW_seq ?_
  refine AW_region ?_
  refine AL_p (x_loadN (n := 1) rfl rfl rfl (by kernel_rfl) rfl rfl) ?_
  refine AL_p (x_field (off := 0) (o' := 0) rfl rfl rfl (by kernel_rfl) rfl) ?_
  refine AL_p (x_load1 rfl rfl rfl (by kernel_rfl) rfl) ?_
  refine AL_p (x_call0 rfl rfl rfl (namedS_c s (d.changes[k]'(by omega)).name hs) rfl rfl) ?_
  refine AL_p (x_move rfl rfl) ?_
  refine AL_p (x_extract rfl rfl rfl) ?_
  refine AL_b (x_extract rfl rfl rfl) (fun b30 h30 => ?_)
  refine AL_p (x_alloc (z := .agg #[.int .i64 0, .slice none 0 0]) 103 rfl (by kernel_rfl) rfl rfl rfl rfl) ?_
  refine AL_p (x_store (n := 2) rfl rfl rfl rfl (by kernel_rfl) rfl rfl rfl) ?_
  refine AL_p (x_assign rfl rfl) ?_
  refine AL_nil ?_
  refine AW_seq ?_
  refine AW_region ?_
  refine AL_p (x_move rfl rfl) ?_
  refine AL_p (x_not rfl rfl) ?_
  refine AL_p (x_move rfl rfl) ?_
  cases b30
  · try simp only [tdy] at h30
    refine AL_o rfl rfl rfl rfl ?_
    refine AL_o rfl rfl rfl rfl ?_
    refine AL_o rfl rfl rfl rfl ?_
    refine AL_o rfl rfl rfl rfl ?_
    refine AL_o rfl rfl rfl rfl ?_
    refine AL_o rfl rfl rfl rfl ?_
    refine AL_p (x_pickT rfl rfl rfl) ?_
    refine AL_p (x_move rfl rfl) ?_
    refine AL_o rfl rfl rfl rfl ?_
    refine AL_o rfl rfl rfl rfl ?_
    refine AL_o rfl rfl rfl rfl ?_
    refine AL_o rfl rfl rfl rfl ?_
    refine AL_o rfl rfl rfl rfl ?_
    refine AL_p (x_pickT rfl rfl rfl) ?_
    refine AL_p (x_move rfl rfl) ?_
    refine AL_o rfl rfl rfl rfl ?_
    refine AL_o rfl rfl rfl rfl ?_
    refine AL_o rfl rfl rfl rfl ?_
    refine AL_o rfl rfl rfl rfl ?_
    refine AL_o rfl rfl rfl rfl ?_
    refine AL_o rfl rfl rfl rfl ?_
    refine AL_o rfl rfl rfl rfl ?_
    refine AL_p (x_pickT rfl rfl rfl) ?_
    refine AL_nil ?_
    refine AW_condT rfl ?_
    refine AW_seq ?_
    refine AW_region ?_
    refine AL_p (x_assign rfl rfl) ?_
    refine AL_nil ?_
    refine AW_ret (BQ_ret (BQ_ret ?_))
    exact ⟨rn [], ⟨⟨⟨_, rfl, vle_bool (by first | exact (fits_s h10).symm | exact (fits_d h14).symm | exact (fits_bad (k := k) (by omega) (fitAt_no (by omega) h30)).symm | exact (fits_bad (k := k) (by omega) (fitAt_ar (by omega) (by omega))).symm | exact (fits_bad (k := k) (by omega) (fitAt_apart (by omega) h45)).symm | ((refine (fits_bad (k := k) (by omega) (fitAt_minus (by omega) ?_)).symm; simp only [beq_false] at h55; omega)) | exact (fits_good h10 h14 hA (by omega)).symm)⟩, trivial⟩, trivial, trivial, rfl⟩⟩
  try simp only [tdy] at h30
  refine AL_g rfl rfl (x_field (off := 0) (o' := 0) rfl rfl rfl (by kernel_rfl) rfl) ?_
  refine AL_g rfl rfl (x_load1 rfl rfl rfl (by kernel_rfl) rfl) ?_
  refine AL_g rfl rfl (x_field (off := 1) (o' := 1) rfl rfl rfl (by kernel_rfl) rfl) ?_
  refine AL_g rfl rfl (x_field (off := 0) (o' := 1) rfl rfl rfl (by kernel_rfl) rfl) ?_
  refine AL_g rfl rfl (x_load1 rfl rfl rfl (by kernel_rfl) rfl) ?_
  refine AL_gb rfl rfl (x_neq rfl rfl rfl) (fun b39 h39 => ?_)
  refine AL_p (x_pickF rfl rfl rfl) ?_
  refine AL_p (x_move rfl rfl) ?_
  cases b39
  rotate_left
  · try simp only [tdy] at h39
    refine AL_o rfl rfl rfl rfl ?_
    refine AL_o rfl rfl rfl rfl ?_
    refine AL_o rfl rfl rfl rfl ?_
    refine AL_o rfl rfl rfl rfl ?_
    refine AL_o rfl rfl rfl rfl ?_
    refine AL_p (x_pickT rfl rfl rfl) ?_
    refine AL_p (x_move rfl rfl) ?_
    refine AL_o rfl rfl rfl rfl ?_
    refine AL_o rfl rfl rfl rfl ?_
    refine AL_o rfl rfl rfl rfl ?_
    refine AL_o rfl rfl rfl rfl ?_
    refine AL_o rfl rfl rfl rfl ?_
    refine AL_o rfl rfl rfl rfl ?_
    refine AL_o rfl rfl rfl rfl ?_
    refine AL_p (x_pickT rfl rfl rfl) ?_
    refine AL_nil ?_
    refine AW_condT rfl ?_
    refine AW_seq ?_
    refine AW_region ?_
    refine AL_p (x_assign rfl rfl) ?_
    refine AL_nil ?_
    refine AW_ret (BQ_ret (BQ_ret ?_))
    exact ⟨rn [], ⟨⟨⟨_, rfl, vle_bool (by first | exact (fits_s h10).symm | exact (fits_d h14).symm | exact (fits_bad (k := k) (by omega) (fitAt_no (by omega) h30)).symm | exact (fits_bad (k := k) (by omega) (fitAt_ar (by omega) (by omega))).symm | exact (fits_bad (k := k) (by omega) (fitAt_apart (by omega) h45)).symm | ((refine (fits_bad (k := k) (by omega) (fitAt_minus (by omega) ?_)).symm; simp only [beq_false] at h55; omega)) | exact (fits_good h10 h14 hA (by omega)).symm)⟩, trivial⟩, trivial, trivial, rfl⟩⟩
  try simp only [tdy] at h39
  refine AL_g rfl rfl (x_loadN (n := 2) rfl rfl rfl (by kernel_rfl) rfl rfl) ?_
  refine AL_g rfl rfl (x_field (off := 1) (o' := 1) rfl rfl rfl (by kernel_rfl) rfl) ?_
  refine AL_g rfl rfl (x_loadN (n := 2) rfl rfl rfl (by kernel_rfl) rfl rfl) ?_
  refine AL_gb rfl rfl (x_call0 rfl rfl rfl (apartS_c (namedIn s.rels (d.changes[k]'(by omega)).name).1 (d.changes[k]'(by omega)).plus (namedIn_small hs) (hd.2 (d.changes[k]'(by omega)) (List.getElem_mem _)).2.1) rfl rfl) (fun b45 h45 => ?_)
  refine AL_g rfl rfl (x_not rfl rfl) ?_
  refine AL_p (x_pickF rfl rfl rfl) ?_
  refine AL_p (x_move rfl rfl) ?_
  cases b45
  · try simp only [tdy] at h45
    refine AL_o rfl rfl rfl rfl ?_
    refine AL_o rfl rfl rfl rfl ?_
    refine AL_o rfl rfl rfl rfl ?_
    refine AL_o rfl rfl rfl rfl ?_
    refine AL_o rfl rfl rfl rfl ?_
    refine AL_o rfl rfl rfl rfl ?_
    refine AL_o rfl rfl rfl rfl ?_
    refine AL_p (x_pickT rfl rfl rfl) ?_
    refine AL_nil ?_
    refine AW_condT rfl ?_
    refine AW_seq ?_
    refine AW_region ?_
    refine AL_p (x_assign rfl rfl) ?_
    refine AL_nil ?_
    refine AW_ret (BQ_ret (BQ_ret ?_))
    exact ⟨rn [], ⟨⟨⟨_, rfl, vle_bool (by first | exact (fits_s h10).symm | exact (fits_d h14).symm | exact (fits_bad (k := k) (by omega) (fitAt_no (by omega) h30)).symm | exact (fits_bad (k := k) (by omega) (fitAt_ar (by omega) (by omega))).symm | exact (fits_bad (k := k) (by omega) (fitAt_apart (by omega) h45)).symm | ((refine (fits_bad (k := k) (by omega) (fitAt_minus (by omega) ?_)).symm; simp only [beq_false] at h55; omega)) | exact (fits_good h10 h14 hA (by omega)).symm)⟩, trivial⟩, trivial, trivial, rfl⟩⟩
  try simp only [tdy] at h45
  refine AL_g rfl rfl (x_field (off := 3) (o' := 3) rfl rfl rfl (by kernel_rfl) rfl) ?_
  refine AL_g rfl rfl (x_loadN (n := 2) rfl rfl rfl (by kernel_rfl) rfl rfl) ?_
  refine AL_g rfl rfl (x_loadN (n := 2) rfl rfl rfl (by kernel_rfl) rfl rfl) ?_
  refine AL_g rfl rfl (x_call1 rfl rfl rfl (siftS_c (d.changes[k]'(by omega)).minus (namedIn s.rels (d.changes[k]'(by omega)).name).1 false (hd.2 (d.changes[k]'(by omega)) (List.getElem_mem _)).2.2 (namedIn_small hs) 104) rfl rfl rfl rfl) ?_
  refine AL_g rfl rfl (x_fldv (off := 1) rfl rfl (by kernel_rfl) rfl) ?_
  refine AL_g rfl rfl (x_olen (E := 72) (n := 1) rfl rfl rfl (by kernel_rfl)) ?_
  refine AL_gb rfl rfl (x_gtr rfl rfl rfl) (fun b55 h55 => ?_)
  refine AL_p (x_pickF rfl rfl rfl) ?_
  refine AL_nil ?_
  cases b55
  rotate_left
  · try simp only [tdy] at h55
    refine AW_condT rfl ?_
    refine AW_seq ?_
    refine AW_region ?_
    refine AL_p (x_assign rfl rfl) ?_
    refine AL_nil ?_
    refine AW_ret (BQ_ret (BQ_ret ?_))
    exact ⟨rn [], ⟨⟨⟨_, rfl, vle_bool (by first | exact (fits_s h10).symm | exact (fits_d h14).symm | exact (fits_bad (k := k) (by omega) (fitAt_no (by omega) h30)).symm | exact (fits_bad (k := k) (by omega) (fitAt_ar (by omega) (by omega))).symm | exact (fits_bad (k := k) (by omega) (fitAt_apart (by omega) h45)).symm | ((refine (fits_bad (k := k) (by omega) (fitAt_minus (by omega) ?_)).symm; simp only [beq_false] at h55; omega)) | exact (fits_good h10 h14 hA (by omega)).symm)⟩, trivial⟩, trivial, trivial, rfl⟩⟩
  try simp only [tdy] at h55
  refine AW_condF rfl ?_
  refine AW_skip ?_
  refine AW_region ?_
  refine AL_p (x_add rfl rfl rfl (IntWalk.i64_in _ (by omega))) ?_
  refine AL_p (x_move rfl rfl) ?_
  refine AL_nil ?_
  refine ⟨⟨k + 1, ⟨by omega, hA.succ (by omega) (fitAt_yes (by omega) h30 (by omega) h45 (by simp only [beq_false] at h55; omega))⟩⟩, rn [], ?_, by dsimp only; omega⟩
  exact ⟨by (repeat refine ⟨⟨_, rfl, by first | exact VLe.rf | exact vle_int (by dsimp only; omega)⟩, ?_⟩); exact trivial, by (repeat refine ⟨⟨_, rfl, by first | exact BLe.rf | exact BLe.box AllC.rf | exact BLe.arr (by exact rfl)⟩, ?_⟩); exact trivial, by repeat (first | exact trivial | refine ⟨⟨rfl, by first | (left; intro h; cases h) | (right; rfl), by first | exact (fun _ h => ⟨_, h⟩) | exact (fun _ _ => ⟨_, rfl⟩)⟩, ?_⟩), rfl⟩

set_option maxHeartbeats 4000000 in
theorem deltaFitsI_c (s : Storet) (d : Deltat) (hs : smallStore s) (hd : smallDelta d) : AC Tryz.prog 38 [.agg (storeC s), .agg (deltaC d)] [] (.one (.c (.bool (deltaFits s d)))) [] := by
  refine AC_body1 Tryz.func38 rfl rfl Tryz.ntmps38 rfl Tryz.results38 ?_
  refine AW_seq ?_
  refine AW_region ?_
  refine AL_p (x_box 100 rfl rfl rfl rfl rfl rfl rfl) ?_
  refine AL_p (x_box 101 rfl rfl rfl rfl rfl rfl rfl) ?_
  refine AL_p (x_assign rfl rfl) ?_
  refine AL_nil ?_
  refine AW_seq ?_
  refine AW_seq ?_
  refine AW_region ?_
  refine AL_p (x_loadN (n := 1) rfl rfl rfl (by kernel_rfl) rfl rfl) ?_
  refine AL_b (x_call0 rfl rfl rfl (storeOkI_c _ hs) rfl rfl) (fun b10 h10 => ?_)
  refine AL_p (x_not rfl rfl) ?_
  refine AL_p (x_move rfl rfl) ?_
  cases b10
  · try simp only [tdy] at h10
    refine AL_o rfl rfl rfl rfl ?_
    refine AL_o rfl rfl rfl rfl ?_
    refine AL_o rfl rfl rfl rfl ?_
    refine AL_p (x_pickT rfl rfl rfl) ?_
    refine AL_nil ?_
    refine AW_condT rfl ?_
    refine AW_seq ?_
    refine AW_region ?_
    refine AL_p (x_assign rfl rfl) ?_
    refine AL_nil ?_
    refine AW_ret ?_
    exact ⟨rn [], ⟨⟨⟨_, rfl, vle_bool (by first | exact (fits_s h10).symm | exact (fits_d h14).symm | exact (fits_bad (k := k) (by omega) (fitAt_no (by omega) h30)).symm | exact (fits_bad (k := k) (by omega) (fitAt_ar (by omega) (by omega))).symm | exact (fits_bad (k := k) (by omega) (fitAt_minus (by omega) (by omega))).symm | exact (fits_bad (k := k) (by omega) (fitAt_apart (by omega) (apart_comm.trans (apart_not (by omega))))).symm | exact (fits_good h10 h14 hA (by omega)).symm)⟩, trivial⟩, trivial, trivial, rfl⟩⟩
  try simp only [tdy] at h10
  refine AL_g rfl rfl (x_loadN (n := 1) rfl rfl rfl (by kernel_rfl) rfl rfl) ?_
  refine AL_gb rfl rfl (x_call0 rfl rfl rfl (deltaOkI_c _ hd) rfl rfl) (fun b14 h14 => ?_)
  refine AL_g rfl rfl (x_not rfl rfl) ?_
  refine AL_p (x_pickF rfl rfl rfl) ?_
  refine AL_nil ?_
  cases b14
  · try simp only [tdy] at h14
    refine AW_condT rfl ?_
    refine AW_seq ?_
    refine AW_region ?_
    refine AL_p (x_assign rfl rfl) ?_
    refine AL_nil ?_
    refine AW_ret ?_
    exact ⟨rn [], ⟨⟨⟨_, rfl, vle_bool (by first | exact (fits_s h10).symm | exact (fits_d h14).symm | exact (fits_bad (k := k) (by omega) (fitAt_no (by omega) h30)).symm | exact (fits_bad (k := k) (by omega) (fitAt_ar (by omega) (by omega))).symm | exact (fits_bad (k := k) (by omega) (fitAt_minus (by omega) (by omega))).symm | exact (fits_bad (k := k) (by omega) (fitAt_apart (by omega) (apart_comm.trans (apart_not (by omega))))).symm | exact (fits_good h10 h14 hA (by omega)).symm)⟩, trivial⟩, trivial, trivial, rfl⟩⟩
  try simp only [tdy] at h14
  refine AW_condF rfl ?_
  refine AW_skip ?_
  refine AW_seq ?_
  refine AW_seq ?_
  refine AW_region ?_
  refine AL_p (x_field (off := 0) (o' := 0) rfl rfl rfl (by kernel_rfl) rfl) ?_
  refine AL_p (x_load1 rfl rfl rfl (by kernel_rfl) rfl) ?_
  refine AL_p (x_len (E := 65) (n := 5) rfl rfl (by kernel_rfl)) ?_
  refine AL_p (x_move rfl rfl) ?_
  refine AL_nil ?_
  refine AW_block ?_
  refine AW_loop2 (ι := {q : Nat // q ≤ d.changes.length ∧ AllAt (fitAt s d.changes) q}) (fun p => [(20, .one (.c (.int .i64 ((p.1) : Int))))]) (fun p => []) [2, 18, 19] [100, 101] (fun p => d.changes.length - (p.1)) ⟨0, ⟨by have := hd.1; omega, .zero⟩⟩ (rn []) ?_ ?_
  exact ⟨by (repeat refine ⟨⟨_, rfl, by first | exact VLe.rf | exact vle_int (by dsimp only; omega)⟩, ?_⟩); exact trivial, by (repeat refine ⟨⟨_, rfl, by first | exact BLe.rf | exact BLe.box AllC.rf | exact BLe.arr (by exact rfl)⟩, ?_⟩); exact trivial, by repeat (first | exact trivial | refine ⟨⟨rfl, by first | (left; intro h; cases h) | (right; rfl), by first | exact (fun _ h => ⟨_, h⟩) | exact (fun _ _ => ⟨_, rfl⟩)⟩, ?_⟩), rfl⟩
  rintro ⟨k, hinv⟩
  dsimp only
  obtain ⟨hk, hA⟩ := hinv
  have hl := hd.1
  refine AW_seq ?_
  refine AW_region ?_
  refine AL_b (x_lss rfl rfl rfl) (fun b21 h21 => ?_)
  refine AL_nil ?_
  refine AW_seq ?_
  cases b21
  · try simp only [tdy] at h21
    refine AW_condF rfl ?_
    refine AW_exit (BQ_hit ?_)
    refine AW_seq ?_
    refine AW_region ?_
    refine AL_p (x_assign rfl rfl) ?_
    refine AL_nil ?_
    refine AW_ret ?_
    exact ⟨rn [], ⟨⟨⟨_, rfl, vle_bool (by first | exact (fits_s h10).symm | exact (fits_d h14).symm | exact (fits_bad (k := k) (by omega) (fitAt_no (by omega) h30)).symm | exact (fits_bad (k := k) (by omega) (fitAt_ar (by omega) (by omega))).symm | exact (fits_bad (k := k) (by omega) (fitAt_minus (by omega) (by omega))).symm | exact (fits_bad (k := k) (by omega) (fitAt_apart (by omega) (apart_comm.trans (apart_not (by omega))))).symm | exact (fits_good h10 h14 hA (by omega)).symm)⟩, trivial⟩, trivial, trivial, rfl⟩⟩
  try simp only [tdy] at h21
  refine AW_condT rfl ?_
  refine AW_skip ?_
  refine AW_seq ?_
  refine AW_block ?_
  refine AW_seq ?_
  refine AW_region ?_
  refine AL_p (x_index (E := 65) (n := 5) rfl rfl rfl (by kernel_rfl) rfl (k := k) (by omega) (by omega)) ?_
  refine AL_p (x_eloadW (n := 5) rfl rfl (by kernel_rfl) rfl) ?_
  refine AL_p (x_alloc (z := .agg #[.string ⟨#[]⟩, .int .i64 0, .slice none 0 0, .int .i64 0, .slice none 0 0]) 102 rfl (by kernel_rfl) rfl rfl rfl rfl) ?_
  refine AL_p (x_store (n := 5) rfl rfl rfl rfl (by kernel_rfl) rfl rfl rfl) ?_
  refine AL_nil ?_
  refine AW_seq ?_
  refine AW_region ?_
  refine AL_p (x_loadN (n := 1) rfl rfl rfl (by kernel_rfl) rfl rfl) ?_
  refine AL_p (x_field (off := 0) (o' := 0) rfl rfl rfl (by kernel_rfl) rfl) ?_
  refine AL_p (x_load1 rfl rfl rfl (by kernel_rfl) rfl) ?_
  refine AL_p (x_call0 rfl rfl rfl (namedI_c s (d.changes[k]'(by omega)).name hs) rfl rfl) ?_
  refine AL_p (x_move rfl rfl) ?_
  refine AL_p (x_extract rfl rfl rfl) ?_
  refine AL_b (x_extract rfl rfl rfl) (fun b30 h30 => ?_)
  refine AL_p (x_alloc (z := .agg #[.int .i64 0, .slice none 0 0]) 103 rfl (by kernel_rfl) rfl rfl rfl rfl) ?_
  refine AL_p (x_store (n := 2) rfl rfl rfl rfl (by kernel_rfl) rfl rfl rfl) ?_
  refine AL_p (x_assign rfl rfl) ?_
  refine AL_nil ?_
  refine AW_seq ?_
  refine AW_region ?_
  refine AL_p (x_move rfl rfl) ?_
  refine AL_p (x_not rfl rfl) ?_
  refine AL_p (x_move rfl rfl) ?_
  cases b30
  · try simp only [tdy] at h30
    refine AL_o rfl rfl rfl rfl ?_
    refine AL_o rfl rfl rfl rfl ?_
    refine AL_o rfl rfl rfl rfl ?_
    refine AL_o rfl rfl rfl rfl ?_
    refine AL_o rfl rfl rfl rfl ?_
    refine AL_o rfl rfl rfl rfl ?_
    refine AL_p (x_pickT rfl rfl rfl) ?_
    refine AL_p (x_move rfl rfl) ?_
    refine AL_o rfl rfl rfl rfl ?_
    refine AL_o rfl rfl rfl rfl ?_
    refine AL_o rfl rfl rfl rfl ?_
    refine AL_o rfl rfl rfl rfl ?_
    refine AL_o rfl rfl rfl rfl ?_
    refine AL_o rfl rfl rfl rfl ?_
    refine AL_o rfl rfl rfl rfl ?_
    refine AL_p (x_pickT rfl rfl rfl) ?_
    refine AL_p (x_move rfl rfl) ?_
    refine AL_o rfl rfl rfl rfl ?_
    refine AL_o rfl rfl rfl rfl ?_
    refine AL_o rfl rfl rfl rfl ?_
    refine AL_o rfl rfl rfl rfl ?_
    refine AL_o rfl rfl rfl rfl ?_
    refine AL_o rfl rfl rfl rfl ?_
    refine AL_o rfl rfl rfl rfl ?_
    refine AL_p (x_pickT rfl rfl rfl) ?_
    refine AL_nil ?_
    refine AW_condT rfl ?_
    refine AW_seq ?_
    refine AW_region ?_
    refine AL_p (x_assign rfl rfl) ?_
    refine AL_nil ?_
    refine AW_ret (BQ_ret (BQ_ret ?_))
    exact ⟨rn [], ⟨⟨⟨_, rfl, vle_bool (by first | exact (fits_s h10).symm | exact (fits_d h14).symm | exact (fits_bad (k := k) (by omega) (fitAt_no (by omega) h30)).symm | exact (fits_bad (k := k) (by omega) (fitAt_ar (by omega) (by omega))).symm | exact (fits_bad (k := k) (by omega) (fitAt_minus (by omega) (by omega))).symm | exact (fits_bad (k := k) (by omega) (fitAt_apart (by omega) (apart_comm.trans (apart_not (by omega))))).symm | exact (fits_good h10 h14 hA (by omega)).symm)⟩, trivial⟩, trivial, trivial, rfl⟩⟩
  try simp only [tdy] at h30
  refine AL_g rfl rfl (x_field (off := 0) (o' := 0) rfl rfl rfl (by kernel_rfl) rfl) ?_
  refine AL_g rfl rfl (x_load1 rfl rfl rfl (by kernel_rfl) rfl) ?_
  refine AL_g rfl rfl (x_field (off := 1) (o' := 1) rfl rfl rfl (by kernel_rfl) rfl) ?_
  refine AL_g rfl rfl (x_field (off := 0) (o' := 1) rfl rfl rfl (by kernel_rfl) rfl) ?_
  refine AL_g rfl rfl (x_load1 rfl rfl rfl (by kernel_rfl) rfl) ?_
  refine AL_gb rfl rfl (x_neq rfl rfl rfl) (fun b39 h39 => ?_)
  refine AL_p (x_pickF rfl rfl rfl) ?_
  refine AL_p (x_move rfl rfl) ?_
  cases b39
  rotate_left
  · try simp only [tdy] at h39
    refine AL_o rfl rfl rfl rfl ?_
    refine AL_o rfl rfl rfl rfl ?_
    refine AL_o rfl rfl rfl rfl ?_
    refine AL_o rfl rfl rfl rfl ?_
    refine AL_o rfl rfl rfl rfl ?_
    refine AL_o rfl rfl rfl rfl ?_
    refine AL_o rfl rfl rfl rfl ?_
    refine AL_p (x_pickT rfl rfl rfl) ?_
    refine AL_p (x_move rfl rfl) ?_
    refine AL_o rfl rfl rfl rfl ?_
    refine AL_o rfl rfl rfl rfl ?_
    refine AL_o rfl rfl rfl rfl ?_
    refine AL_o rfl rfl rfl rfl ?_
    refine AL_o rfl rfl rfl rfl ?_
    refine AL_o rfl rfl rfl rfl ?_
    refine AL_o rfl rfl rfl rfl ?_
    refine AL_p (x_pickT rfl rfl rfl) ?_
    refine AL_nil ?_
    refine AW_condT rfl ?_
    refine AW_seq ?_
    refine AW_region ?_
    refine AL_p (x_assign rfl rfl) ?_
    refine AL_nil ?_
    refine AW_ret (BQ_ret (BQ_ret ?_))
    exact ⟨rn [], ⟨⟨⟨_, rfl, vle_bool (by first | exact (fits_s h10).symm | exact (fits_d h14).symm | exact (fits_bad (k := k) (by omega) (fitAt_no (by omega) h30)).symm | exact (fits_bad (k := k) (by omega) (fitAt_ar (by omega) (by omega))).symm | exact (fits_bad (k := k) (by omega) (fitAt_minus (by omega) (by omega))).symm | exact (fits_bad (k := k) (by omega) (fitAt_apart (by omega) (apart_comm.trans (apart_not (by omega))))).symm | exact (fits_good h10 h14 hA (by omega)).symm)⟩, trivial⟩, trivial, trivial, rfl⟩⟩
  try simp only [tdy] at h39
  refine AL_g rfl rfl (x_field (off := 3) (o' := 3) rfl rfl rfl (by kernel_rfl) rfl) ?_
  refine AL_g rfl rfl (x_loadN (n := 2) rfl rfl rfl (by kernel_rfl) rfl rfl) ?_
  refine AL_g rfl rfl (x_loadN (n := 2) rfl rfl rfl (by kernel_rfl) rfl rfl) ?_
  refine AL_g rfl rfl (x_call1 rfl rfl rfl (minusI_c (d.changes[k]'(by omega)).minus (namedIn s.rels (d.changes[k]'(by omega)).name).1 (hd.2 (d.changes[k]'(by omega)) (List.getElem_mem _)).2.2 (namedIn_small hs).1 (relOk_sorted (namedIn_ok h10 h30)) (relOk_vals2 (two_right (deltaOk_two h14 (k := k) (by omega)))) 104) rfl rfl rfl rfl) ?_
  refine AL_g rfl rfl (x_fldv (off := 1) rfl rfl (by kernel_rfl) rfl) ?_
  refine AL_g rfl rfl (x_olen (E := 72) (n := 1) rfl rfl rfl (by kernel_rfl)) ?_
  refine AL_gb rfl rfl (x_gtr rfl rfl rfl) (fun b48 h48 => ?_)
  refine AL_p (x_pickF rfl rfl rfl) ?_
  refine AL_p (x_move rfl rfl) ?_
  cases b48
  rotate_left
  · try simp only [tdy] at h48
    refine AL_o rfl rfl rfl rfl ?_
    refine AL_o rfl rfl rfl rfl ?_
    refine AL_o rfl rfl rfl rfl ?_
    refine AL_o rfl rfl rfl rfl ?_
    refine AL_o rfl rfl rfl rfl ?_
    refine AL_o rfl rfl rfl rfl ?_
    refine AL_o rfl rfl rfl rfl ?_
    refine AL_p (x_pickT rfl rfl rfl) ?_
    refine AL_nil ?_
    refine AW_condT rfl ?_
    refine AW_seq ?_
    refine AW_region ?_
    refine AL_p (x_assign rfl rfl) ?_
    refine AL_nil ?_
    refine AW_ret (BQ_ret (BQ_ret ?_))
    exact ⟨rn [], ⟨⟨⟨_, rfl, vle_bool (by first | exact (fits_s h10).symm | exact (fits_d h14).symm | exact (fits_bad (k := k) (by omega) (fitAt_no (by omega) h30)).symm | exact (fits_bad (k := k) (by omega) (fitAt_ar (by omega) (by omega))).symm | exact (fits_bad (k := k) (by omega) (fitAt_minus (by omega) (by omega))).symm | exact (fits_bad (k := k) (by omega) (fitAt_apart (by omega) (apart_comm.trans (apart_not (by omega))))).symm | exact (fits_good h10 h14 hA (by omega)).symm)⟩, trivial⟩, trivial, trivial, rfl⟩⟩
  try simp only [tdy] at h48
  refine AL_g rfl rfl (x_field (off := 1) (o' := 1) rfl rfl rfl (by kernel_rfl) rfl) ?_
  refine AL_g rfl rfl (x_loadN (n := 2) rfl rfl rfl (by kernel_rfl) rfl rfl) ?_
  refine AL_g rfl rfl (x_loadN (n := 2) rfl rfl rfl (by kernel_rfl) rfl rfl) ?_
  refine AL_g rfl rfl (x_call1 rfl rfl rfl (bothI_c (d.changes[k]'(by omega)).plus (namedIn s.rels (d.changes[k]'(by omega)).name).1 (hd.2 (d.changes[k]'(by omega)) (List.getElem_mem _)).2.1 (namedIn_small hs).1 (relOk_sorted (namedIn_ok h10 h30)) (two_vals (deltaOk_two h14 (k := k) (by omega))) 105) rfl rfl rfl rfl) ?_
  refine AL_g rfl rfl (x_fldv (off := 1) rfl rfl (by kernel_rfl) rfl) ?_
  refine AL_g rfl rfl (x_olen (E := 72) (n := 1) rfl rfl rfl (by kernel_rfl)) ?_
  refine AL_gb rfl rfl (x_gtr rfl rfl rfl) (fun b57 h57 => ?_)
  refine AL_p (x_pickF rfl rfl rfl) ?_
  refine AL_nil ?_
  cases b57
  rotate_left
  · try simp only [tdy] at h57
    refine AW_condT rfl ?_
    refine AW_seq ?_
    refine AW_region ?_
    refine AL_p (x_assign rfl rfl) ?_
    refine AL_nil ?_
    refine AW_ret (BQ_ret (BQ_ret ?_))
    exact ⟨rn [], ⟨⟨⟨_, rfl, vle_bool (by first | exact (fits_s h10).symm | exact (fits_d h14).symm | exact (fits_bad (k := k) (by omega) (fitAt_no (by omega) h30)).symm | exact (fits_bad (k := k) (by omega) (fitAt_ar (by omega) (by omega))).symm | exact (fits_bad (k := k) (by omega) (fitAt_minus (by omega) (by omega))).symm | exact (fits_bad (k := k) (by omega) (fitAt_apart (by omega) (apart_comm.trans (apart_not (by omega))))).symm | exact (fits_good h10 h14 hA (by omega)).symm)⟩, trivial⟩, trivial, trivial, rfl⟩⟩
  try simp only [tdy] at h57
  refine AW_condF rfl ?_
  refine AW_skip ?_
  refine AW_region ?_
  refine AL_p (x_add rfl rfl rfl (IntWalk.i64_in _ (by omega))) ?_
  refine AL_p (x_move rfl rfl) ?_
  refine AL_nil ?_
  refine ⟨⟨k + 1, ⟨by omega, hA.succ (by omega) (fitAt_yes (by omega) h30 (by omega) (apart_comm.trans (apart_iff.2 (by omega))) (by omega))⟩⟩, rn [], ?_, by dsimp only; omega⟩
  exact ⟨by (repeat refine ⟨⟨_, rfl, by first | exact VLe.rf | exact vle_int (by dsimp only; omega)⟩, ?_⟩); exact trivial, by (repeat refine ⟨⟨_, rfl, by first | exact BLe.rf | exact BLe.box AllC.rf | exact BLe.arr (by exact rfl)⟩, ?_⟩); exact trivial, by repeat (first | exact trivial | refine ⟨⟨rfl, by first | (left; intro h; cases h) | (right; rfl), by first | exact (fun _ h => ⟨_, h⟩) | exact (fun _ _ => ⟨_, rfl⟩)⟩, ?_⟩), rfl⟩
end Go.Proofs.YtibhoanjglfaoaaGreat

/- Copies of relations, deltas turned back, deltas between stores, in plain words. -/
namespace Go.Proofs.YtibhoanjglfaoaaGreat
open Go.RowKit
set_option linter.unusedVariables false

theorem cntL_tot {α : Type} {c t : α → Nat} {u v : Nat} (h : ∀ x, c x ≤ u + v * t x) : ∀ xs : List α, cntL c xs ≤ u * xs.length + v * cntL t xs
  | [] => by simp [cntL]
  | x :: xs => by
    have h1 := h x
    have h2 := cntL_tot h xs
    simp only [cntL, List.length_cons, Nat.mul_add, Nat.mul_one]
    omega
theorem cntRow_tot (r : List Val) : cntRow r ≤ 0 + 2 * totRow r := by
  have := cntL_tot (c := cntValue) (t := totValue) (u := 2) (v := 0) (fun x => by simp [cntValue]) r
  simp only [cntRow, totRow, totL]; omega
theorem cntRows_tot (r : Relt) : cntL cntRow r.rows ≤ 2 * totRel r := by
  have := cntL_tot cntRow_tot r.rows
  simp only [totRel, totL]; omega
theorem cntNamed_tot (x : Namedt) : cntNamed x ≤ 2 + 2 * totNamed x := by
  have := cntRows_tot x.rel
  simp only [cntNamed, totNamed]; omega
theorem cntStore_tot (s : Storet) : cntDStore s ≤ 2 * totStore s := by
  have := cntL_tot cntNamed_tot s.rels
  simp only [cntDStore, totStore, totL]; omega
theorem cntStore_le {s : Storet} (h : totStore s ≤ 1048576) : cntDStore s ≤ 1152921504606846976 := by have := cntStore_tot s; omega
theorem cntChange_tot (x : Changet) : cntChange x ≤ 3 + 3 * totChange x := by
  have := cntRows_tot x.plus
  have := cntRows_tot x.minus
  simp only [cntChange, totChange]; omega
theorem cntDelta_tot (s : Deltat) : cntDDelta s ≤ 3 * totDelta s := by
  have := cntL_tot cntChange_tot s.changes
  simp only [cntDDelta, totDelta, totL]; omega
theorem cntDelta_le {s : Deltat} (h : totDelta s ≤ 1048576) : cntDDelta s ≤ 1152921504606846976 := by have := cntDelta_tot s; omega
theorem totNamed_small {x : Namedt} (h : totNamed x ≤ 1048576) : smallNamed x := by
  simp only [totNamed] at h
  exact ⟨by omega, totRel_small (by omega)⟩
theorem totStore_small {s : Storet} (h : totStore s ≤ 1048576) : smallStore s := ⟨totL_len h, fun x hx => totNamed_small (totL_mem (c := totNamed) h hx)⟩
theorem totChange_small {x : Changet} (h : totChange x ≤ 1048576) : smallChange x := by
  simp only [totChange] at h
  exact ⟨by omega, totRel_small (by omega), totRel_small (by omega)⟩
theorem totDelta_small {s : Deltat} (h : totDelta s ≤ 1048576) : smallDelta s := ⟨totL_len h, fun x hx => totChange_small (totL_mem (c := totChange) h hx)⟩

theorem namedIn_miss {l : List Namedt} {n : ByteArray} (h : (namedIn l n).2 = false) : namedIn l n = (⟨0, []⟩, false) := by
  unfold namedIn at h ⊢; split
  · rename_i x hx; rw [hx] at h; cases h
  · rfl
end Go.Proofs.YtibhoanjglfaoaaGreat

/- Stores and deltas copied (printed by walk.py) -/
namespace Go.Proofs.YtibhoanjglfaoaaGreat
open Go.RowKit
set_option linter.unusedVariables false
set_option linter.unusedSimpArgs false
set_option maxRecDepth 100000

theorem siftN_c (a b : Relt) (ha : smallRel a) (hb : smallRel b) (k : Nat) : AC Tryz.prog 33 [.agg (relC a), .agg (relC b), .one (.c (.bool false))] [] (.agg [.c (.int .i64 a.arity), .own k]) [(k, some (.arr 72 rowE (a.rows.filter (fun r => !hasRow b.rows r)) true))] := by
  have h := siftS_c a b false ha hb k
  simpa only [beq_false] using h

end Go.Proofs.YtibhoanjglfaoaaGreat

/- A relation put under a name, in plain words. -/
namespace Go.Proofs.YtibhoanjglfaoaaGreat
open Go.RowKit
set_option linter.unusedVariables false

def leB (a b : ByteArray) : Bool := Op.bytesLess a.toList b.toList || a == b
def noNamed : Namedt := ⟨⟨#[]⟩, ⟨0, []⟩⟩
def stepB (dn le ne : Bool) (nw x : Namedt) (out : List Namedt) : List Namedt := bif ne then (bif !dn && le then out ++ [nw] else out) ++ [x] else (bif !dn && le then out ++ [nw] else out)
def setTo (rels : List Namedt) (nw : Namedt) : Nat → Bool × List Namedt
  | 0 => (false, [])
  | k + 1 => ((setTo rels nw k).1 || leB nw.name (rels.getD k noNamed).name, stepB (setTo rels nw k).1 (leB nw.name (rels.getD k noNamed).name) (!((rels.getD k noNamed).name == nw.name)) nw (rels.getD k noNamed) (setTo rels nw k).2)
def setRel (rels : List Namedt) (nw : Namedt) : List Namedt := bif (setTo rels nw rels.length).1 then (setTo rels nw rels.length).2 else (setTo rels nw rels.length).2 ++ [nw]
theorem setTo_next {rels : List Namedt} {nw : Namedt} {k : Nat} (hk : k < rels.length) {dn le ne : Bool} (h1 : (setTo rels nw k).1 = dn) (h2 : leB nw.name rels[k].name = le) (h3 : (!(rels[k].name == nw.name)) = ne) :
    setTo rels nw (k + 1) = (dn || le, stepB dn le ne nw rels[k] (setTo rels nw k).2) := by
  have e : rels.getD k noNamed = rels[k] := by simp [List.getD, hk]
  simp only [setTo, e, h1, h2, h3]
theorem setTo_skip {rels : List Namedt} {nw : Namedt} {k : Nat} (hk : k < rels.length) {ne : Bool} (h1 : (setTo rels nw k).1 = true) (h3 : (!(rels[k].name == nw.name)) = ne) :
    setTo rels nw (k + 1) = (true, stepB true true ne nw rels[k] (setTo rels nw k).2) := by
  rw [setTo_next hk h1 rfl h3]
  cases leB nw.name rels[k].name <;> cases ne <;> rfl
theorem stepB_len (dn le ne : Bool) (nw x : Namedt) (out : List Namedt) : (stepB dn le ne nw x out).length ≤ out.length + (!dn && le).toNat + 1 := by
  unfold stepB
  cases dn <;> cases le <;> cases ne <;> simp
theorem setTo_len {rels : List Namedt} {nw : Namedt} : ∀ k, (setTo rels nw k).2.length ≤ k + (setTo rels nw k).1.toNat
  | 0 => Nat.zero_le _
  | k + 1 => by
    have h1 := setTo_len (rels := rels) (nw := nw) k
    have h2 := stepB_len (setTo rels nw k).1 (leB nw.name (rels.getD k noNamed).name) (!((rels.getD k noNamed).name == nw.name)) nw (rels.getD k noNamed) (setTo rels nw k).2
    simp only [setTo]
    generalize leB nw.name (rels.getD k noNamed).name = le at *
    generalize setTo rels nw k = p at *
    obtain ⟨dn, out⟩ := p
    cases dn <;> cases le <;> simp at h1 h2 ⊢ <;> omega
theorem setRel_len {rels : List Namedt} {nw : Namedt} : (setRel rels nw).length ≤ rels.length + 1 := by
  have h1 := setTo_len (rels := rels) (nw := nw) rels.length
  unfold setRel
  generalize setTo rels nw rels.length = p at *
  obtain ⟨dn, out⟩ := p
  cases dn <;> simp at h1 ⊢ <;> omega
theorem stepB_all {p : Namedt → Prop} {dn le ne : Bool} {nw x : Namedt} {out : List Namedt} (h1 : p nw) (h2 : p x) (h3 : ∀ y ∈ out, p y) : ∀ y ∈ stepB dn le ne nw x out, p y := by
  intro y hy
  unfold stepB at hy
  cases dn <;> cases le <;> cases ne <;> simp at hy
  all_goals
    first
      | exact h3 y hy
      | (rcases hy with hy | hy
         · exact h3 y hy
         · first
             | (rcases hy with rfl | rfl
                · exact h1
                · exact h2)
             | (subst hy; first | exact h1 | exact h2))
theorem setTo_all {p : Namedt → Prop} {rels : List Namedt} {nw : Namedt} (h1 : p nw) (h2 : ∀ y ∈ rels, p y) : ∀ k, k ≤ rels.length → ∀ y ∈ (setTo rels nw k).2, p y
  | 0, _ => fun y hy => by cases hy
  | k + 1, hk => by
    have e : rels.getD k noNamed = rels[k] := by simp [List.getD, show k < rels.length by omega]
    simp only [setTo]
    exact stepB_all h1 (by rw [e]; exact h2 _ (List.getElem_mem _)) (setTo_all h1 h2 k (by omega))
theorem setRel_all {p : Namedt → Prop} {rels : List Namedt} {nw : Namedt} (h1 : p nw) (h2 : ∀ y ∈ rels, p y) : ∀ y ∈ setRel rels nw, p y := by
  have h := setTo_all h1 h2 rels.length (Nat.le_refl _)
  unfold setRel
  cases hd : (setTo rels nw rels.length).1
  · intro y hy
    rcases List.mem_append.1 hy with hy | hy
    · exact h y hy
    · rw [List.mem_singleton.1 hy]; exact h1
  · exact h
/-- All rows of a list. -/
def rowsN (l : List Namedt) : Nat := (l.map fun x => x.rel.rows.length).sum
theorem rowsN_cons (x : Namedt) (a : List Namedt) : rowsN (x :: a) = x.rel.rows.length + rowsN a := by simp [rowsN]
theorem rowsN_nil : rowsN [] = 0 := rfl
theorem rowsN_app (a b : List Namedt) : rowsN (a ++ b) = rowsN a + rowsN b := by simp [rowsN]
theorem rowsN_one (x : Namedt) : rowsN [x] = x.rel.rows.length := by simp [rowsN]
theorem setTo_rows {rels : List Namedt} {nw : Namedt} : ∀ k, k ≤ rels.length → rowsN (setTo rels nw k).2 ≤ rowsN (rels.take k) + (if (setTo rels nw k).1 then nw.rel.rows.length else 0)
  | 0, _ => Nat.zero_le _
  | k + 1, hk => by
    have h1 := setTo_rows (rels := rels) (nw := nw) k (by omega)
    have e : rels.getD k noNamed = rels[k] := by simp [List.getD, show k < rels.length by omega]
    rw [List.take_succ_eq_append_getElem (show k < rels.length by omega), rowsN_app, rowsN_one]
    simp only [setTo, e]
    generalize (!(rels[k].name == nw.name)) = ne
    generalize leB nw.name rels[k].name = le
    generalize setTo rels nw k = p at *
    obtain ⟨dn, out⟩ := p
    cases dn <;> cases le <;> cases ne <;> simp [stepB, rowsN_app, rowsN_cons, rowsN_nil] at h1 ⊢ <;> omega
theorem setRel_rows {rels : List Namedt} {nw : Namedt} : rowsN (setRel rels nw) ≤ rowsN rels + nw.rel.rows.length := by
  have h1 := setTo_rows (rels := rels) (nw := nw) rels.length (Nat.le_refl _)
  rw [List.take_length] at h1
  unfold setRel
  generalize setTo rels nw rels.length = p at *
  obtain ⟨dn, out⟩ := p
  cases dn <;> simp [rowsN_app, rowsN_one] at h1 ⊢ <;> omega
theorem rowsN_set (x : Namedt) : ∀ (xs : List Namedt) (i : Nat) (h : i < xs.length), rowsN (xs.set i x) + xs[i].rel.rows.length = rowsN xs + x.rel.rows.length
  | y :: ys, 0, _ => by simp [rowsN]; omega
  | y :: ys, i + 1, h => by
    have := rowsN_set x ys i (by simpa using h)
    simp only [rowsN, List.set_cons_succ, List.map_cons, List.sum_cons, List.getElem_cons_succ] at *
    omega
end Go.Proofs.YtibhoanjglfaoaaGreat

/- Numbers and texts ars bytes, in plain words. -/
namespace Go.Proofs.YtibhoanjglfaoaaGreat
open Go.RowKit
set_option linter.unusedVariables false

/-- The bytes of n, the highest first, but for the last j of size. -/
def bpTo (n : Int) (size j : Nat) : List Int := (List.range (size - j)).map fun q => n / 256 ^ (size - 1 - q) % 256
def putB (n : Int) (size : Nat) : List Int := bpTo n size 0
theorem putB_len {n : Int} {size : Nat} : (putB n size).length = size := by simp [putB, bpTo]
theorem texts_eq {a b : ByteArray} (h : a.data.toList = b.data.toList) : a = b := by
  obtain ⟨⟨a⟩⟩ := a
  obtain ⟨⟨b⟩⟩ := b
  simp at h; rw [h]
end Go.Proofs.YtibhoanjglfaoaaGreat

/- Numbers copied into a part of an own array; nil ars an array that is taken; numbers in memory are not too great. -/
namespace Go.Proofs.YtibhoanjglfaoaaGreat
open Go.RowKit
set_option linter.unusedVariables false
set_option linter.unusedSimpArgs false

section ops
variable {P : Program} {N : Nat} {s : St} {d : Nat} {ty : TypeId} {pos : String} {after : Array Edge} {gd : Option (Nat × Bool)}
end ops
/-- A contract that takes an array takes nil, too. -/
theorem AT.nil {P : Program} {f : FuncId} {rest : List AVal} {α β : Type} {T U : TypeId} {e : Enc α} {e' : Enc β} {ys : List β} {d' : Bool}
    (h : AT P f (.one (.own 0) :: rest) [(0, some (.arr T e [] true))] (.one (.own 1)) [(1, some (.arr U e' ys d'))]) (hrest : rest.flatMap AVal.ids1 = []) (c : Nat) :
    AC P f (.one (.c (.slice none 0 0)) :: rest) [] (.one (.own c)) [(c, some (.arr U e' ys d'))] := by
  refine ⟨h.fn, fun g w cargs m ha => ?_⟩
  obtain ⟨g', q1, q2, q3, q4, q5⟩ := nil_new m (k := 0) rfl (by simp [Locs.ids]) α T e
  have ha' : All2 (VR1 g' [(0, some (.arr (α := α) T e [] true))] w) cargs.toList (.one (.own 0) :: rest) := by
    generalize cargs.toList = vs at ha
    cases vs with
    | nil => exact ha
    | cons v vs =>
      refine ⟨fun β U e2 ys dd hc => by rw [q1]; exact ha.1.1, ha.2.mono fun a b hb hr => VR1.step (fun _ _ => rfl) q4 (Nat.le_refl _) (fun k hk => ?_) hr⟩
      have : k ∈ rest.flatMap AVal.ids1 := List.mem_flatMap.2 ⟨b, hb, hk⟩
      rw [hrest] at this; cases this
  refine (h.run g' w cargs q2 ha').mono ?_
  rintro r w' ⟨v, g1, rfl, m1, hv, hs⟩
  have hle : LeL (fun _ => 1) [(1, some (.arr U e' ys d'))] [(c, some (.arr U e' ys d'))] := ⟨⟨_, rfl, BLe.rf⟩, trivial⟩
  have T1 := ((q3 []).trans m q2 hs).trans m m1 (Step.unren hle trivial)
  exact ⟨v, g1.ren _, rfl, m1.unren hle (by simp [injL, keys]), VR.unren (x := .one (.own c)) hle hv, T1⟩
end Go.Proofs.YtibhoanjglfaoaaGreat

/- Smaller numbers of two; pointers that are not nil; bytes in memory are bytes. -/
namespace Go.Proofs.YtibhoanjglfaoaaGreat
open Go.RowKit
set_option linter.unusedVariables false
section ops
variable {P : Program} {N : Nat} {s : St} {d : Nat} {ty : TypeId} {pos : String} {after : Array Edge} {gd : Option (Nat × Bool)}
end ops
theorem byte_wf {x : Int} (h : (Lit.int .u8 x).wf = true) : 0 ≤ x ∧ x ≤ 255 := by
  simp only [Lit.wf, Bool.and_eq_true, decide_eq_true_eq] at h
  exact h
theorem SliceRep.bytes {w : World} {a : Option Addr} {n cap : Nat} {xs : List Int} {bs : List Nat} (h : SliceRep (intE .u8) w a n cap xs bs) : ∀ x ∈ xs, 0 ≤ x ∧ x ≤ 255 := fun x hx => by
  obtain ⟨j, hj, rfl⟩ := List.getElem_of_mem hx
  obtain ⟨gb, o, cs, b, _, f1, _⟩ := h.get hj
  exact byte_wf f1.2.1
end Go.Proofs.YtibhoanjglfaoaaGreat

/- Bytes read again, in plain words. -/
namespace Go.Proofs.YtibhoanjglfaoaaGreat
open Go.RowKit
set_option linter.unusedVariables false
set_option linter.unusedSimpArgs false

/-- The number in bytes. -/
def bign (l : List Int) : Int := l.foldl (fun a x => 256 * a + x % 256) 0
theorem bign_fold (l : List Int) : ∀ a : Int, l.foldl (fun a x => 256 * a + x % 256) a = a * 256 ^ l.length + bign l := by
  induction l with
  | nil => intro a; simp [bign]
  | cons x l ih =>
    intro a
    have h1 := ih (256 * a + x % 256)
    have h2 := ih (256 * 0 + x % 256)
    simp only [List.foldl_cons, List.length_cons, bign] at *
    rw [h1, h2, Int.pow_succ]
    grind
theorem bign_cons (x : Int) (l : List Int) : bign (x :: l) = x % 256 * 256 ^ l.length + bign l := by
  have := bign_fold l (256 * 0 + x % 256)
  show l.foldl _ (256 * 0 + x % 256) = _
  rw [this]; simp
theorem putB_succ (n : Int) (s : Nat) : putB n (s + 1) = n / 256 ^ s % 256 :: putB n s := by
  unfold putB bpTo
  rw [Nat.sub_zero, Nat.sub_zero, List.range_succ_eq_map, List.map_cons, List.map_map]
  congr 1
  apply List.map_congr_left
  intro q hq
  simp only [Function.comp, Nat.succ_eq_add_one]
  rw [show s + 1 - 1 - (q + 1) = s - 1 - q by omega]
theorem bign_putB (n : Int) (h0 : 0 ≤ n) : ∀ s : Nat, bign (putB n s) = n % 256 ^ s
  | 0 => by simp [putB, bpTo, bign]
  | s + 1 => by
    rw [putB_succ, bign_cons, bign_putB n h0 s, putB_len]
    have hp : (0 : Int) < 256 ^ s := Int.pow_pos (by omega)
    have e1 : n / 256 ^ s % 256 % 256 = n / 256 ^ s % 256 := by omega
    rw [e1, Int.pow_succ]
    have e2 := Int.emod_add_mul_ediv n (256 ^ s)
    have e3 := Int.emod_add_mul_ediv (n / 256 ^ s) 256
    have e4 := Int.emod_add_mul_ediv n (256 ^ s * 256)
    have e5 : n / (256 ^ s * 256) = n / 256 ^ s / 256 := (Int.ediv_ediv_of_nonneg (Int.le_of_lt hp)).symm
    rw [e5] at e4
    generalize n / 256 ^ s / 256 = d at *
    generalize n / 256 ^ s % 256 = c at *
    generalize n / 256 ^ s = b at *
    generalize (256 : Int) ^ s = P at *
    grind
theorem bign_put {n : Int} {s : Nat} (h0 : 0 ≤ n) (h1 : n < 256 ^ s) : bign (putB n s) = n := by
  rw [bign_putB n h0, Int.emod_eq_of_lt h0 h1]

/-! ### From the front -/
def takeI (xs : List Int) (n : Int) : Int × List Int := if (xs.length : Int) < n then (0, []) else (bign (xs.take n.toNat), xs.drop n.toNat)
theorem takeI_ok {xs : List Int} {n : Int} (h : ¬ (xs.length : Int) < n) : takeI xs n = (bign (xs.take n.toNat), xs.drop n.toNat) := if_neg h
theorem takeI_put {n : Int} {s : Nat} {r : List Int} (h0 : 0 ≤ n) (h1 : n < 256 ^ s) : takeI (putB n s ++ r) s = (n, r) := by
  rw [takeI_ok (by rw [List.length_append, putB_len]; omega), Int.toNat_natCast]
  have : s = (putB n s).length := putB_len.symm
  rw [List.take_append_of_le_length (by omega), List.drop_append_of_le_length (by omega)]
  rw [List.take_of_length_le (by omega), List.drop_eq_nil_of_le (by omega), bign_put h0 h1, List.nil_append]
/-! ### At a place -/
def getS (b : List Int) (z n : Int) : Int := if z + n ≤ (b.length : Int) then bign ((b.drop z.toNat).take n.toNat) else 0
theorem getS_take {b : List Int} {z n : Int} (h0 : 0 ≤ z) (hn : 0 ≤ n) (h : z ≤ (b.length : Int)) : getS b z n = (takeI (b.drop z.toNat) n).1 := by
  unfold getS takeI
  rw [List.length_drop]
  split
  · rw [if_neg (by omega)]
  · rw [if_pos (by omega)]
section
variable {b : List Int}
/-- From place z on there lies r. -/
def Lies (b : List Int) (z : Int) (r : List Int) : Prop := 0 ≤ z ∧ z ≤ (b.length : Int) ∧ b.drop z.toNat = r
theorem Lies.take {z : Int} {n : Int} {s : Nat} {r : List Int} (h : Lies b z (putB n s ++ r)) (h0 : 0 ≤ n) (h1 : n < 256 ^ s) : getS b z s = n ∧ Lies b (z + s) r := by
  have h2 := takeI_put (r := r) h0 h1
  have hl := congrArg List.length h.2.2
  rw [List.length_drop, List.length_append, putB_len] at hl
  refine ⟨by rw [getS_take h.1 (by omega) h.2.1, h.2.2, h2], by have := h.1; omega, by have := h.1; have := h.2.1; omega, ?_⟩
  have e : (z + (s : Int)).toNat = z.toNat + s := by have := h.1; omega
  rw [e, ← List.drop_drop, h.2.2]
  have : s = (putB n s).length := putB_len.symm
  conv => lhs; rw [this]
  rw [putB_len]
  exact List.drop_left' putB_len
end
end Go.Proofs.YtibhoanjglfaoaaGreat

/- How much the marks of a store that was read count. -/
namespace Go.Proofs.YtibhoanjglfaoaaGreat
open Go.RowKit
set_option linter.unusedVariables false

end Go.Proofs.YtibhoanjglfaoaaGreat

/- A relation put under a name in a right store: the place where it goes. -/
namespace Go.Proofs.YtibhoanjglfaoaaGreat
open Go.RowKit
set_option linter.unusedVariables false

def nlt (a b : ByteArray) : Prop := Op.bytesLess a.toList b.toList = true
theorem nlt_iff {a b : ByteArray} : nlt a b ↔ Lib.compareBytes a.toList b.toList < 0 := by unfold nlt; rw [bytesLess_cmp]; simp
theorem nmlt_trans {a b c : ByteArray} (h : nlt a b) (h2 : nlt b c) : nlt a c := nlt_iff.2 (compareBytes_trans (nlt_iff.1 h) (nlt_iff.1 h2))
theorem nlt_irr {a : ByteArray} (h : nlt a a) : False := by
  have := nlt_iff.1 h
  rw [compareBytes_self] at this; omega
theorem name_eq {a b : ByteArray} : (a == b) = true ↔ a = b := by
  constructor
  · intro h
    rw [beq_toListBytes, ByteArray.toList_eq, ByteArray.toList_eq] at h
    exact texts_eq (by simpa using h)
  · intro h; subst h; rw [beq_toListBytes]; simp
theorem name_ne {a b : ByteArray} : (a == b) = false ↔ a ≠ b := by
  constructor
  · intro h e; rw [name_eq.2 e] at h; cases h
  · intro h
    cases hb : (a == b)
    · rfl
    · exact absurd (name_eq.1 hb) h
theorem nlt_tri {a b : ByteArray} (h : ¬ nlt a b) (h2 : ¬ nlt b a) : a = b := by
  rw [nlt_iff] at h h2
  have h3 := compareBytes_neg a.toList b.toList
  have h4 : Lib.compareBytes a.toList b.toList = 0 := by omega
  have h5 := compareBytes_eq h4
  rw [ByteArray.toList_eq, ByteArray.toList_eq] at h5
  exact texts_eq h5
def SortedN (rels : List Namedt) : Prop := ∀ i j (hi : i < rels.length) (hj : j < rels.length), i < j → nlt rels[i].name rels[j].name
theorem storeOk_names {s : Storet} (h : storeOk s = true) : SortedN s.rels := by
  simp only [storeOk, Bool.and_eq_true] at h
  have adj : ∀ j (hj : j + 1 < s.rels.length), nlt (s.rels[j]'(by omega)).name s.rels[j + 1].name := fun j hj => by
    have := everyB_get h.1 hj
    simp only [namedAt, Bool.and_eq_true, Bool.or_eq_true, decide_eq_true_eq] at this
    rcases this.2.2 with h0 | h0
    · omega
    · exact h0
  intro i j hi hj hij
  obtain ⟨d, rfl⟩ : ∃ d, j = i + 1 + d := ⟨j - (i + 1), by omega⟩
  clear hij
  induction d with
  | zero => exact adj i hj
  | succ d ih => exact nmlt_trans (ih (by omega)) (adj (i + 1 + d) hj)
section
variable {rels : List Namedt} {nw : Namedt} {i : Nat}
theorem le_no {x : ByteArray} {y : ByteArray} (h : nlt y x) : leB x y = false := by
  have h1 : Op.bytesLess x.toList y.toList = false := by
    cases hb : Op.bytesLess x.toList y.toList
    · rfl
    · exact absurd (nmlt_trans h hb) nlt_irr
  have h2 : (x == y) = false := name_ne.2 fun e => by subst e; exact nlt_irr h
  simp [leB, h1, h2]
theorem le_yes {x : ByteArray} {y : ByteArray} (h : ¬ nlt y x) : leB x y = true := by
  unfold leB
  by_cases h1 : nlt x y
  · rw [show Op.bytesLess x.toList y.toList = true from h1]; rfl
  · rw [name_eq.2 (nlt_tri h1 h)]; simp
theorem setTo_low (hi : i ≤ rels.length) (h0 : ∀ j (hj : j < rels.length), j < i → nlt rels[j].name nw.name) : ∀ k, k ≤ i → setTo rels nw k = (false, rels.take k)
  | 0, _ => rfl
  | k + 1, hk => by
    have ih := setTo_low hi h0 k (by omega)
    have hlt := h0 k (by omega) (by omega)
    have hne : (!((rels[k]'(by omega)).name == nw.name)) = true := by
      rw [name_ne.2 fun e => by rw [e] at hlt; exact nlt_irr hlt]; rfl
    rw [setTo_next (by omega) (by rw [ih]) (le_no hlt) hne, ih, List.take_succ_eq_append_getElem (show k < rels.length by omega)]
    rfl
theorem setTo_high (hs : SortedN rels) (hi : i < rels.length) (hge : ¬ nlt rels[i].name nw.name) {F : List Namedt} (hF : setTo rels nw (i + 1) = (true, F)) : ∀ k, i + 1 ≤ k → k ≤ rels.length → setTo rels nw k = (true, F ++ (rels.take k).drop (i + 1))
  | 0, h, _ => by omega
  | k + 1, h, hk => by
    by_cases e : k = i
    · subst e
      rw [hF, List.drop_eq_nil_of_le (by simp; omega), List.append_nil]
    · have ih := setTo_high hs hi hge hF k (by omega) (by omega)
      have hlt := hs i k hi (by omega) (by omega)
      have hne : (!((rels[k]'(by omega)).name == nw.name)) = true := by
        rw [name_ne.2 fun e => by rw [e] at hlt; exact hge hlt]; rfl
      rw [setTo_skip (by omega) (by rw [ih]) hne, ih, List.take_succ_eq_append_getElem (show k < rels.length by omega), List.drop_append_of_le_length (by simp; omega), ← List.append_assoc]
      rfl
theorem setRel_ins (hs : SortedN rels) (hi : i ≤ rels.length) (h0 : ∀ j (hj : j < rels.length), j < i → nlt rels[j].name nw.name) (h1 : ∀ (h : i < rels.length), ¬ nlt rels[i].name nw.name ∧ (rels[i].name == nw.name) = false) :
    setRel rels nw = rels.take i ++ [nw] ++ rels.drop i := by
  have hl := setTo_low hi h0 i (Nat.le_refl _)
  by_cases hlt : i < rels.length
  · obtain ⟨hge, hne⟩ := h1 hlt
    have hF : setTo rels nw (i + 1) = (true, rels.take i ++ [nw] ++ [rels[i]]) := by
      rw [setTo_next (ne := true) hlt (by rw [hl]) (le_yes hge) (by rw [hne]; rfl), hl]; rfl
    have := setTo_high hs hlt hge hF rels.length (by omega) (Nat.le_refl _)
    unfold setRel
    rw [this, List.take_length]
    show rels.take i ++ [nw] ++ [rels[i]] ++ rels.drop (i + 1) = _
    rw [List.append_assoc _ [rels[i]], List.singleton_append, ← List.drop_eq_getElem_cons hlt]
  · obtain rfl : i = rels.length := by omega
    unfold setRel
    rw [hl, List.drop_eq_nil_of_le (Nat.le_refl _), List.append_nil]
    rfl
theorem setRel_rep (hs : SortedN rels) (hi : i < rels.length) (h0 : ∀ j (hj : j < rels.length), j < i → nlt rels[j].name nw.name) (heq : (rels[i].name == nw.name) = true) : setRel rels nw = rels.set i nw := by
  have hl := setTo_low (Nat.le_of_lt hi) h0 i (Nat.le_refl _)
  have hge : ¬ nlt rels[i].name nw.name := fun h => by rw [name_eq.1 heq] at h; exact nlt_irr h
  have hF : setTo rels nw (i + 1) = (true, rels.take i ++ [nw]) := by
    rw [setTo_next (ne := false) hi (by rw [hl]) (le_yes hge) (by rw [heq]; rfl), hl]; rfl
  have := setTo_high hs hi hge hF rels.length (by omega) (Nat.le_refl _)
  unfold setRel
  rw [this, List.take_length, List.set_eq_take_append_cons_drop, if_pos hi]
  show rels.take i ++ [nw] ++ rels.drop (i + 1) = _
  simp
end
def nameGe (nm : ByteArray) (x : Namedt) : Bool := !Op.bytesLess x.name.toList nm.toList
theorem noneGe {rels : List Namedt} {nm : ByteArray} {k : Nat} (h : NoneTo (nameGe nm) rels k) : ∀ j (hj : j < rels.length), j < k → nlt rels[j].name nm := fun j hj hjk => by
  have := h j hj hjk
  simp only [nameGe, Bool.not_eq_false'] at this
  exact this
/-- Where the first name lies that is not before. -/
def placeN (rels : List Namedt) (nm : ByteArray) : Int := firstIdx (nameGe nm) rels
/-- .. and the place itself. -/
def posN (rels : List Namedt) (nm : ByteArray) : Nat := if placeN rels nm < 0 then rels.length else (placeN rels nm).toNat
theorem placeN_is (rels : List Namedt) (nm : ByteArray) : posN rels nm ≤ rels.length ∧ (placeN rels nm < 0 → posN rels nm = rels.length) ∧ (¬ placeN rels nm < 0 → placeN rels nm = (posN rels nm : Int) ∧ posN rels nm < rels.length) ∧ (∀ j (hj : j < rels.length), j < posN rels nm → nlt rels[j].name nm) ∧ ∀ (h : posN rels nm < rels.length), ¬ nlt rels[posN rels nm].name nm := by
  by_cases hex : ∃ k, ∃ h : k < rels.length, nameGe nm rels[k] = true ∧ NoneTo (nameGe nm) rels k
  · obtain ⟨k, hk, h1, h2⟩ := hex
    have e : placeN rels nm = (k : Int) := firstIdx_at hk (fun j hj hjk => h2 j hj hjk) h1
    have hp : posN rels nm = k := by unfold posN; rw [e, if_neg (by omega)]; omega
    rw [hp, e]
    refine ⟨by omega, fun h => by omega, fun _ => ⟨rfl, hk⟩, noneGe h2, fun h hn => ?_⟩
    simp only [nameGe, show Op.bytesLess rels[k].name.toList nm.toList = true from hn] at h1
    cases h1
  · have hn : ∀ k, k ≤ rels.length → NoneTo (nameGe nm) rels k := fun k => by
      induction k with
      | zero => exact fun _ => .zero
      | succ k ih =>
        intro hk
        have h2 := ih (by omega)
        refine h2.succ (by omega) ?_
        cases hp : nameGe nm (rels[k]'(by omega))
        · rfl
        · exact absurd ⟨k, by omega, hp, h2⟩ hex
    have h2 := hn rels.length (Nat.le_refl _)
    have e : placeN rels nm = -1 := h2.none
    have hp : posN rels nm = rels.length := by unfold posN; rw [e, if_pos (by omega)]
    rw [hp, e]
    exact ⟨Nat.le_refl _, fun _ => rfl, fun h => by omega, noneGe h2, fun h => by omega⟩
def withRel (rels : List Namedt) (nw : Namedt) : List Namedt :=
  if h : posN rels nw.name < rels.length ∧ ((rels.getD (posN rels nw.name) noNamed).name == nw.name) = true then rels.set (posN rels nw.name) nw else rels.take (posN rels nw.name) ++ [nw] ++ rels.drop (posN rels nw.name)
theorem withRel_set {rels : List Namedt} {nw : Namedt} (hs : SortedN rels) : withRel rels nw = setRel rels nw := by
  obtain ⟨p1, p2, p3, p4, p5⟩ := placeN_is rels nw.name
  unfold withRel
  split
  · rename_i h
    have e : rels.getD (posN rels nw.name) noNamed = rels[posN rels nw.name] := by simp [List.getD, h.1]
    rw [e] at h
    exact (setRel_rep hs h.1 p4 h.2).symm
  · rename_i h
    refine (setRel_ins hs p1 p4 fun hl => ⟨p5 hl, ?_⟩).symm
    have e : rels.getD (posN rels nw.name) noNamed = rels[posN rels nw.name] := by simp [List.getD, hl]
    rw [e] at h
    cases hb : (rels[posN rels nw.name].name == nw.name)
    · rfl
    · exact absurd ⟨hl, hb⟩ h
end Go.Proofs.YtibhoanjglfaoaaGreat

/- Deltas applied to stores, in plain words: what parts two stores leads from the one to the other. -/
namespace Go.Proofs.YtibhoanjglfaoaaGreat
open Go.RowKit
set_option linter.unusedVariables false

/-- The rows of a relation behind a change. -/
def nextRows (r : Relt) (c : Changet) : List (List Val) := (r.rows.filter fun row => !hasRow c.minus.rows row) ++ c.plus.rows
def nextRel (out : List Namedt) (c : Changet) : Relt × Bool := relOf (namedIn out c.name).1.arity (nextRows (namedIn out c.name).1 c)
def applyTo (rels : List Namedt) : List Changet → List Namedt × Bool
  | [] => (rels, true)
  | c :: cs => if (nextRel rels c).2 = true then applyTo (withRel rels ⟨c.name, (nextRel rels c).1⟩) cs else ([], false)
def deltaApply (s : Storet) (d : Deltat) : Storet × Bool := if deltaFits s d = true then (⟨(applyTo s.rels d.changes).1⟩, (applyTo s.rels d.changes).2) else (⟨[]⟩, false)
theorem deltaApply_no {s : Storet} {d : Deltat} (h : deltaFits s d = false) : deltaApply s d = (⟨[]⟩, false) := by unfold deltaApply; rw [h]; rfl
theorem deltaApply_ok {s : Storet} {d : Deltat} (h : deltaFits s d = true) : deltaApply s d = (⟨(applyTo s.rels d.changes).1⟩, (applyTo s.rels d.changes).2) := if_pos h
/-! ### Two stores of the same names -/
structure Pairs (a b : List Namedt) : Prop where
  len : a.length = b.length
  name : ∀ j (h : j < a.length) (h' : j < b.length), a[j].name = b[j].name
  ar : ∀ j (h : j < a.length) (h' : j < b.length), a[j].rel.arity = b[j].rel.arity
theorem Pairs.symm {a b : List Namedt} (h : Pairs a b) : Pairs b a := ⟨h.len.symm, fun j h1 h2 => (h.name j h2 h1).symm, fun j h1 h2 => (h.ar j h2 h1).symm⟩
/-! ### One name after the other -/
theorem sortedN_like {a m : List Namedt} (hs : SortedN a) (hl : m.length = a.length) (hn : ∀ j (h : j < m.length) (h' : j < a.length), m[j].name = a[j].name) : SortedN m := fun i j hi hj hij => by
  rw [hn i hi (by omega), hn j hj (by omega)]
  exact hs i j (by omega) (by omega) hij
/-! ### The delta is right, and fits -/
end Go.Proofs.YtibhoanjglfaoaaGreat

/- What the relations of a store have while changes are applied. -/
namespace Go.Proofs.YtibhoanjglfaoaaGreat
open Go.RowKit
set_option linter.unusedVariables false

def apQ (y : Namedt) : Prop := y.name.size ≤ 1048576 ∧ y.rel.rows.length ≤ 300 ∧ (∀ row ∈ y.rel.rows, smallRow row) ∧ ∀ row ∈ y.rel.rows, ∀ v ∈ row, valOk v = true
section
variable {s : Storet} {d : Deltat} {out : List Namedt} {k : Nat}
theorem fits_store (h : deltaFits s d = true) : storeOk s = true := by
  simp only [deltaFits, Bool.and_eq_true] at h; exact h.1
theorem fits_delta (h : deltaFits s d = true) : deltaOk d = true := by
  simp only [deltaFits, Bool.and_eq_true] at h; exact h.2.1
theorem fits_max (h : deltaFits s d = true) : d.changes.length ≤ 24 := by
  have := fits_delta h
  simp only [deltaOk, Bool.and_eq_true, decide_eq_true_eq] at this
  exact this.2
theorem apQ_start (hs : smallStore s) (ok : storeOk s = true) : ∀ y ∈ s.rels, apQ y := fun y hy => by
  obtain ⟨j, hj, rfl⟩ := List.getElem_of_mem hy
  have hr := storeOk_rel ok hj
  have hm := hs.2 _ (List.getElem_mem hj)
  exact ⟨hm.1, (relOk_parts hr).2.2.2, hm.2.2, relOk_vals2 hr⟩
theorem apply_in (hq : ∀ y ∈ out, apQ y) (n : ByteArray) : (namedIn out n).1.rows.length ≤ 300 ∧ (∀ row ∈ (namedIn out n).1.rows, smallRow row) ∧ ∀ row ∈ (namedIn out n).1.rows, ∀ v ∈ row, valOk v = true := by
  cases h : (namedIn out n).2
  · rw [namedIn_miss h]
    exact ⟨Nat.zero_le _, fun r hr => (by cases hr), fun r hr => (by cases hr)⟩
  · obtain ⟨x, hx, e⟩ := namedIn_mem h
    rw [e]
    exact (hq x hx).2
theorem apply_store (hq : ∀ y ∈ out, apQ y) (hl : out.length ≤ 1048576) : smallStore ⟨out⟩ := ⟨hl, fun y hy => ⟨(hq y hy).1, ⟨Nat.le_trans (hq y hy).2.1 (by decide), (hq y hy).2.2.1⟩⟩⟩
theorem apply_r (hq : ∀ y ∈ out, apQ y) {n : ByteArray} : smallRel (namedIn out n).1 := ⟨Nat.le_trans (apply_in hq n).1 (by decide), (apply_in hq n).2.1⟩
theorem apply_rv (hq : ∀ y ∈ out, apQ y) {n : ByteArray} : ∀ r ∈ (namedIn out n).1.rows, ∀ v ∈ r, valOk v = true := (apply_in hq n).2.2
theorem apply_c (hf : deltaFits s d = true) (hk : k < d.changes.length) : relOk d.changes[k].plus = true ∧ relOk d.changes[k].minus = true := by
  have := deltaOk_two (fits_delta hf) hk
  exact ⟨two_left this, two_right this⟩
theorem apply_m (hf : deltaFits s d = true) (hk : k < d.changes.length) : d.changes[k].minus.rows.length ≤ 1048576 ∧ Sorted d.changes[k].minus.rows :=
  ⟨Nat.le_trans (relOk_parts (apply_c hf hk).2).2.2.2 (by decide), relOk_sorted (apply_c hf hk).2⟩
theorem apply_two (hq : ∀ y ∈ out, apQ y) (hf : deltaFits s d = true) (hk : k < d.changes.length) : (nextRows (namedIn out d.changes[k].name).1 d.changes[k]).length ≤ 600 := by
  have h1 := (apply_in hq d.changes[k].name).1
  have h2 := (relOk_parts (apply_c hf hk).1).2.2.2
  have h3 := List.length_filter_le (fun row => !hasRow d.changes[k].minus.rows row) (namedIn out d.changes[k].name).1.rows
  unfold nextRows
  rw [List.length_append]; omega
theorem flat_two {a b : List (List Val)} : [a, b].flatten = a ++ b := by simp
theorem apply_len (hq : ∀ y ∈ out, apQ y) (hf : deltaFits s d = true) (hk : k < d.changes.length) : [((namedIn out d.changes[k].name).1.rows.filter fun row => !hasRow d.changes[k].minus.rows row), d.changes[k].plus.rows].flatten.length ≤ 2097152 := by
  rw [flat_two]
  have := apply_two hq hf hk
  unfold nextRows at this
  omega
theorem apply_vals (hq : ∀ y ∈ out, apQ y) (hf : deltaFits s d = true) (hk : k < d.changes.length) : ValsOk (nextRows (namedIn out d.changes[k].name).1 d.changes[k]) := fun r hr => by
  rcases List.mem_append.1 hr with q | q
  · exact apply_rv hq r (List.mem_filter.1 q).1
  · exact relOk_vals2 (apply_c hf hk).1 r q
theorem apply_rows (hq : ∀ y ∈ out, apQ y) (hf : deltaFits s d = true) (hd : smallDelta d) (hk : k < d.changes.length) : ∀ r ∈ nextRows (namedIn out d.changes[k].name).1 d.changes[k], smallRow r := fun r hr => by
  rcases List.mem_append.1 hr with q | q
  · exact (apply_in hq _).2.1 r (List.mem_filter.1 q).1
  · exact (hd.2 _ (List.getElem_mem hk)).2.1.2 r q
theorem apply_small (hq : ∀ y ∈ out, apQ y) (hf : deltaFits s d = true) (hd : smallDelta d) (hk : k < d.changes.length) {ar : Int} : smallRel ⟨ar, nextRows (namedIn out d.changes[k].name).1 d.changes[k]⟩ :=
  ⟨by have := apply_two hq hf hk; show (nextRows _ _).length ≤ _; omega, apply_rows hq hf hd hk⟩
theorem apQ_next (hq : ∀ y ∈ out, apQ y) (hf : deltaFits s d = true) (hd : smallDelta d) (hk : k < d.changes.length) (h : (nextRel out d.changes[k]).2 = true) : apQ ⟨d.changes[k].name, (nextRel out d.changes[k]).1⟩ := by
  obtain ⟨e, hl⟩ := relOf_true h
  have hr : (nextRel out d.changes[k]).1 = ⟨(namedIn out d.changes[k].name).1.arity, sortRows (nextRows (namedIn out d.changes[k].name).1 d.changes[k])⟩ := congrArg Prod.fst e
  rw [hr]
  exact ⟨(hd.2 _ (List.getElem_mem hk)).1, hl, fun r hr => apply_rows hq hf hd hk r (sortRows_mem.1 hr), fun r hr => apply_vals hq hf hk r (sortRows_mem.1 hr)⟩
theorem withRel_all {p : Namedt → Prop} {nw : Namedt} (h1 : p nw) (h2 : ∀ y ∈ out, p y) : ∀ y ∈ withRel out nw, p y := fun y hy => by
  unfold withRel at hy
  split at hy
  · rcases List.mem_or_eq_of_mem_set hy with q | q
    · exact h2 y q
    · rw [q]; exact h1
  · rcases List.mem_append.1 hy with q | q
    · rcases List.mem_append.1 q with q | q
      · exact h2 y (List.mem_of_mem_take q)
      · rw [List.mem_singleton.1 q]; exact h1
    · exact h2 y (List.mem_of_mem_drop q)
theorem withRel_len {nw : Namedt} : (withRel out nw).length ≤ out.length + 1 := by
  unfold withRel
  split
  · simp
  · simp; omega
end
end Go.Proofs.YtibhoanjglfaoaaGreat

/- Deltas applied, in plain words: the reference's way is the program's; sizes. -/
namespace Go.Proofs.YtibhoanjglfaoaaGreat
open Go.RowKit
set_option linter.unusedVariables false

theorem SortedN.pw {l : List Namedt} : SortedN l ↔ l.Pairwise (fun x y => nlt x.name y.name) :=
  ⟨fun h => List.pairwise_iff_getElem.2 fun i j hi hj hij => h i j hi hj hij, fun h i j hi hj hij => List.pairwise_iff_getElem.1 h i j hi hj hij⟩
theorem withRel_sorted {rels : List Namedt} {nw : Namedt} (hs : SortedN rels) : SortedN (withRel rels nw) := by
  obtain ⟨p1, p2, p3, p4, p5⟩ := placeN_is rels nw.name
  unfold withRel
  split
  · rename_i h
    have e : rels.getD (posN rels nw.name) noNamed = rels[posN rels nw.name] := by simp [List.getD, h.1]
    rw [e] at h
    have hn := name_eq.1 h.2
    refine sortedN_like hs (by simp) fun j h1 h2 => ?_
    rw [List.getElem_set]
    split
    · rename_i hj; subst hj; exact hn.symm
    · rfl
  · rename_i h
    have hne : ∀ hl : posN rels nw.name < rels.length, rels[posN rels nw.name].name ≠ nw.name := fun hl hq => by
      have e : rels.getD (posN rels nw.name) noNamed = rels[posN rels nw.name] := by simp [List.getD, hl]
      rw [e] at h
      exact h ⟨hl, name_eq.2 hq⟩
    have hsp := SortedN.pw.1 hs
    rw [← List.take_append_drop (posN rels nw.name) rels] at hsp
    obtain ⟨q1, q2, q3⟩ := List.pairwise_append.1 hsp
    have lo : ∀ a ∈ rels.take (posN rels nw.name), nlt a.name nw.name := fun a ha => by
      obtain ⟨j, hj, rfl⟩ := List.getElem_of_mem ha
      rw [List.length_take] at hj
      rw [List.getElem_take]
      exact p4 j (by omega) (by omega)
    have hi : ∀ b ∈ rels.drop (posN rels nw.name), nlt nw.name b.name := fun b hb => by
      obtain ⟨j, hj, rfl⟩ := List.getElem_of_mem hb
      rw [List.length_drop] at hj
      rw [List.getElem_drop]
      have hl : posN rels nw.name < rels.length := by omega
      have h0 : nlt nw.name rels[posN rels nw.name].name := Classical.byContradiction fun hq => hne hl (nlt_tri (p5 hl) hq)
      by_cases e0 : j = 0
      · subst e0; exact h0
      · exact nmlt_trans h0 (hs _ _ hl (by omega) (by omega))
    refine SortedN.pw.2 (List.pairwise_append.2 ⟨List.pairwise_append.2 ⟨q1, List.pairwise_singleton _ _, fun a ha b hb => ?_⟩, q2, fun a ha b hb => ?_⟩)
    · rw [List.mem_singleton.1 hb]; exact lo a ha
    · rcases List.mem_append.1 ha with ha | ha
      · exact q3 a ha b hb
      · rw [List.mem_singleton.1 ha]; exact hi b hb
/-- What the store has while it turns. -/
structure ApI (out : List Namedt) : Prop where
  q : ∀ y ∈ out, apQ y
  r : ∀ y ∈ out, Sorted y.rel.rows
  n : SortedN out
section
variable {s : Storet} {d : Deltat} {out : List Namedt} {k : Nat}
theorem ApI.start (hs : smallStore s) (ok : storeOk s = true) : ApI s.rels := ⟨apQ_start hs ok, fun y hy => by
  obtain ⟨j, hj, rfl⟩ := List.getElem_of_mem hy
  exact relOk_sorted (storeOk_rel ok hj), storeOk_names ok⟩
theorem ApI.inS (h : ApI out) (n : ByteArray) : Sorted (namedIn out n).1.rows := by
  cases e : (namedIn out n).2
  · rw [namedIn_miss e]; exact Sorted.nil
  · obtain ⟨x, hx, e⟩ := namedIn_mem e
    rw [e]; exact h.r x hx
def keptRows (r : Relt) (c : Changet) : List (List Val) := r.rows.filter fun row => !hasRow c.minus.rows row
theorem ApI.kept (h : ApI out) (c : Changet) : Sorted (keptRows (namedIn out c.name).1 c) :=
  Sorted.of_pw (fun r hr => apply_rv h.q r (List.mem_filter.1 hr).1) ((h.inS c.name).pw.sublist List.filter_sublist)
theorem next_put (h : ApI out) (hf : deltaFits s d = true) (hk : k < d.changes.length) : d.changes[k].plus.rows.foldl putRow (keptRows (namedIn out d.changes[k].name).1 d.changes[k]) = sortRows (nextRows (namedIn out d.changes[k].name).1 d.changes[k]) :=
  puts_eq (h.kept _) (relOk_vals2 (apply_c hf hk).1)
theorem next_yes (h : ApI out) (hf : deltaFits s d = true) (hk : k < d.changes.length) (hl : (d.changes[k].plus.rows.foldl putRow (keptRows (namedIn out d.changes[k].name).1 d.changes[k])).length ≤ 300) :
    nextRel out d.changes[k] = (⟨(namedIn out d.changes[k].name).1.arity, d.changes[k].plus.rows.foldl putRow (keptRows (namedIn out d.changes[k].name).1 d.changes[k])⟩, true) := by
  rw [next_put h hf hk] at hl ⊢
  unfold nextRel
  exact relOf_ok (by omega)
theorem next_big (h : ApI out) (hf : deltaFits s d = true) (hk : k < d.changes.length) (hl : 300 < (d.changes[k].plus.rows.foldl putRow (keptRows (namedIn out d.changes[k].name).1 d.changes[k])).length) : (nextRel out d.changes[k]).2 = false := by
  rw [next_put h hf hk] at hl
  unfold nextRel
  rw [relOf_big (by omega)]
theorem ApI.next (h : ApI out) (hf : deltaFits s d = true) (hd : smallDelta d) (hk : k < d.changes.length) (h2 : (nextRel out d.changes[k]).2 = true) : ApI (withRel out ⟨d.changes[k].name, (nextRel out d.changes[k]).1⟩) := by
  refine ⟨withRel_all (apQ_next h.q hf hd hk h2) h.q, withRel_all ?_ h.r, withRel_sorted h.n⟩
  obtain ⟨e, _⟩ := relOf_true h2
  show Sorted (nextRel out d.changes[k]).1.rows
  have e1 : (nextRel out d.changes[k]).1 = ⟨(namedIn out d.changes[k].name).1.arity, sortRows (nextRows (namedIn out d.changes[k].name).1 d.changes[k])⟩ := congrArg Prod.fst e
  rw [e1]
  exact sortRows_sorted (apply_vals h.q hf hk)
theorem puts_le (h : ApI out) (hf : deltaFits s d = true) (hk : k < d.changes.length) (j : Nat) : ((d.changes[k].plus.rows.take j).foldl putRow (keptRows (namedIn out d.changes[k].name).1 d.changes[k])).length ≤ 600 := by
  have h1 := (puts_len (rows := d.changes[k].plus.rows.take j) (acc := keptRows (namedIn out d.changes[k].name).1 d.changes[k])).2
  have h2 := (apply_in h.q d.changes[k].name).1
  have h3 := (relOk_parts (apply_c hf hk).1).2.2.2
  have h4 := List.length_filter_le (fun row => !hasRow d.changes[k].minus.rows row) (namedIn out d.changes[k].name).1.rows
  unfold keptRows at *
  simp only [List.length_take] at *; omega
theorem puts_small (h : ApI out) (hf : deltaFits s d = true) (hd : smallDelta d) (hk : k < d.changes.length) (j : Nat) : ∀ r ∈ (d.changes[k].plus.rows.take j).foldl putRow (keptRows (namedIn out d.changes[k].name).1 d.changes[k]), smallRow r := fun r hr => by
  rcases puts_mem.1 hr with q | q
  · exact (apply_in h.q _).2.1 r (List.mem_filter.1 q).1
  · exact (hd.2 _ (List.getElem_mem hk)).2.1.2 r (List.mem_of_mem_take q)
theorem puts_srt (h : ApI out) (hf : deltaFits s d = true) (hk : k < d.changes.length) (j : Nat) : Sorted ((d.changes[k].plus.rows.take j).foldl putRow (keptRows (namedIn out d.changes[k].name).1 d.changes[k])) :=
  puts_sorted (h.kept _) fun r hr => relOk_vals2 (apply_c hf hk).1 r (List.mem_of_mem_take hr)
theorem puts_more {rows acc : List (List Val)} {j : Nat} (hj : j < rows.length) : putRow ((rows.take j).foldl putRow acc) rows[j] = (rows.take (j + 1)).foldl putRow acc := by
  rw [List.take_add_one, List.getElem?_eq_getElem hj, List.foldl_append]; rfl
theorem puts_all {rows acc : List (List Val)} {j : Nat} (hj : rows.length ≤ j) : (rows.take j).foldl putRow acc = rows.foldl putRow acc := by rw [List.take_of_length_le hj]
theorem apply_run (hs : smallStore s) (hd : smallDelta d) (hf : deltaFits s d = true) : ∀ (n k : Nat) (out : List Namedt), ApI out → out.length ≤ 24 + k → d.changes.length = k + n → (∀ y ∈ (applyTo out (d.changes.drop k)).1, apQ y) ∧ (applyTo out (d.changes.drop k)).1.length ≤ 24 + d.changes.length
  | 0, k, out, h, hl, hn => by
    rw [List.drop_eq_nil_of_le (by omega)]
    exact ⟨h.q, by show out.length ≤ _; omega⟩
  | n + 1, k, out, h, hl, hn => by
    have hk : k < d.changes.length := by omega
    rw [List.drop_eq_getElem_cons hk]
    unfold applyTo
    split
    · rename_i h2
      refine apply_run hs hd hf n (k + 1) _ (h.next hf hd hk h2) ?_ (by omega)
      have := withRel_len (out := out) (nw := ⟨d.changes[k].name, (nextRel out d.changes[k]).1⟩)
      omega
    · exact ⟨fun y hy => (by cases hy), Nat.zero_le _⟩
end
theorem apQ_cnt {l : List Namedt} (hl : l.length ≤ 48) (h : ∀ y ∈ l, apQ y) : cntL cntNamed l ≤ 1152921504606846976 := by
  have h1 := cntL_le (c := cntNamed) (M := 1000000000) (xs := l) fun x hx => by
    obtain ⟨_, g2, g3, _⟩ := h x hx
    have h2 := cntL_le (c := cntRow) (M := 2097152) (xs := x.rel.rows) fun row hrow => by
      have h3 := cntL_le (c := cntValue) (M := 2) (xs := row) fun v _ => by simp [cntValue]
      have := (g3 row hrow).1
      unfold cntRow; omega
    unfold cntNamed; omega
  omega
theorem deltaApply_cnt {s : Storet} {d : Deltat} (hs : smallStore s) (hd : smallDelta d) : cntDStore (deltaApply s d).1 ≤ 1152921504606846976 := by
  unfold deltaApply
  split
  · rename_i hf
    obtain ⟨h1, h2⟩ := apply_run hs hd hf d.changes.length 0 s.rels (ApI.start hs (fits_store hf)) (by have := storeOk_max (fits_store hf); omega) (by omega)
    have := fits_max hf
    exact apQ_cnt (by
      have e : (applyTo s.rels (d.changes.drop 0)).1.length ≤ 48 := by omega
      exact e) h1
  · simp [cntDStore, cntL]
end Go.Proofs.YtibhoanjglfaoaaGreat

/- The abstract walk: a field of an element of an own array written anew. -/
namespace Go.Proofs.YtibhoanjglfaoaaGreat
open Go.RowKit
set_option linter.unusedVariables false
section ops
variable {P : Program} {N : Nat} {s : St} {ty : TypeId} {pos : String} {after : Array Edge} {gd : Option (Nat × Bool)}
theorem x_ofstore {α : Type} {e : Enc α} {f : α → List Cell} [hc : CellsOf e f] {T E n i k o : Nat} {x y : Operand} {X : AVal} {xs : List α} (x' : α) {A B C ds ds' : List Cell} {js : List Nat} {d1 d2 : Bool} (h : evo s.t x = some (.one (.optr k i o))) (hl : lkl s.l k = some (.arr E e xs d1)) (h2 : evo s.t y = some X) (hf : X.flat = true)
    (hT : sizeT P T = some n) (hn : X.cells.length = n) (hsol : X.cells.all (solid s.l) = true) (hmv : mvC s.l X.cells = some (ds, js, d2)) (hfit : FitL ds ds') (hnd : noDup js = true) (hkj : noId k js = true) (hi : i < xs.length)
    (hA : f xs[i] = A ++ (B ++ C)) (hAo : A.length = o) (hB : B.length = n) (hx' : f x' = A ++ (ds' ++ C)) :
    Stp P N ⟨none, .store T x y, ty, pos, after, gd⟩ s ⟨s.t, (k, some (.arr E e (xs.set i x') (d1 && d2))) :: (gones js ++ s.l)⟩ ⟨rdo x (.one (.optr k i o)) ++ rdo y X, (k, .arr E e xs d1) :: rlC s.l X.cells, [], (k, some (.arr E e (xs.set i x') (d1 && d2))) :: gones js, []⟩ := by
  refine ⟨fun K g s' a w hpre r => ?_, ⟨two_rd h h2, fun p hp => by
    rcases List.mem_cons.1 hp with rfl | hp
    · exact hl
    · exact rlC_self p hp, by simp⟩, by simp [Cert.upd]⟩
  obtain ⟨p1, p2, _⟩ := hpre
  have hk : lkl s'.l k = some (.arr E e xs d1) := p2 (k, .arr E e xs d1) (List.mem_cons_self ..)
  have p2' : ∀ p ∈ rlC s.l X.cells, lkl s'.l p.1 = some p.2 := fun p hp => p2 p (List.mem_cons_of_mem _ hp)
  have ha : a.eval x = .pointer (some ⟨g.ρ k, i * e.size + o, none⟩) := (eval_ok r (evs_of h) fun p hm => p1 p (List.mem_append_left _ hm) : CellR g s'.l w _ (.optr k i o)) _ _ _ _ _ hk
  have hv := eval_ok r (evs_of h2) fun p hm => p1 p (List.mem_append_right _ hm)
  have hs' : X.cells.all (solid s'.l) = true := List.all_eq_true.2 fun z hz => solid_of p2' hz (List.all_eq_true.1 hsol z hz)
  have hall := vr1_cells hs' r.mem hv hf
  have hmv' := mvC_of hmv p2'
  have hjn := noDup_of hnd
  have hkj' := noId_of hkj
  have hgone : ∀ j ∈ js, ∃ (α : Type) (T : TypeId) (e : Enc α) (xs : List α) (d : Bool), lkl s'.l j = some (.arr T e xs d) := fun j hj => (mvC_gone hmv' j hj).1
  obtain ⟨b', f1, f2, f3⟩ := mvC_ok r.mem hall hmv' hjn
  have hlen : (a.eval y).cells.size = n := by rw [← hn]; simpa using hall.len
  have hll : (a.eval y).cells.toList.length = n := by simpa using hlen
  rcases r.mem.arr k _ _ _ _ _ hk with ⟨rfl, _⟩ | ⟨cap, vs, bss, g1, g2, g3, g4, g5, g6, g7, g8, g9⟩
  · simp at hi
  have hlv : g.hd k ≠ .slice none 0 0 := by rw [g1]; intro e; cases e
  have hib : i < bss.length := by rw [g6.1]; exact hi
  obtain ⟨us, hus, hcell⟩ := g6.2 i xs[i] bss[i] (List.getElem?_eq_getElem hi) (List.getElem?_eq_getElem hib)
  have hul := e.len hus
  have hfr := hc.iff.1 hus
  rw [hA] at hfr
  obtain ⟨u1, ur, c1, cr, eu, ec, fr1, fr2⟩ := FR.app.1 hfr
  obtain ⟨u2, u3, c2, c3, eu2, ec2, fr3, fr4⟩ := FR.app.1 fr2
  have l1 : u1.length = o := by rw [fr1.length]; exact hAo
  have l2 : u2.length = n := by rw [fr3.length]; exact hB
  subst eu; subst eu2
  have l3 : o + n + u3.length = e.size := by rw [← hul]; simp [l1, l2]; omega
  have hfitc : i * e.size + o + n ≤ vs.size := by
    rw [g5]
    have : (i + 1) * e.size ≤ cap * e.size := Nat.mul_le_mul_right _ (by omega)
    rw [Nat.add_mul] at this; omega
  have one : ∀ v ∈ (a.eval y).cells.toList, v.oneCell' = true := FR.one f1
  have hst := run_storeCells_at P (g.ρ k) (i * e.size + o) E (a.eval y).cells.toList 0 vs w g4 (by rw [hll]; simpa using hfitc) one
  generalize hnew : (vs.toList.take (i * e.size + o) ++ (a.eval y).cells.toList ++ vs.toList.drop (i * e.size + o + (a.eval y).cells.toList.length)).toArray = new at *
  have hng : ∀ q, new[q]? = if i * e.size + o ≤ q ∧ q < i * e.size + o + n then (a.eval y).cells.toList[q - (i * e.size + o)]? else vs[q]? := fun q => by
    rw [← hnew, List.getElem?_toArray]
    have hl0 : (vs.toList.take (i * e.size + o)).length = i * e.size + o := by simp; omega
    rcases Nat.lt_or_ge q (i * e.size + o) with hq | hq
    · rw [if_neg (by omega), List.append_assoc, List.getElem?_append_left (by omega), List.getElem?_take, if_pos hq]; simp
    · rw [List.append_assoc, List.getElem?_append_right (by omega), hl0]
      rcases Nat.lt_or_ge q (i * e.size + o + n) with hq2 | hq2
      · rw [if_pos ⟨hq, hq2⟩, List.getElem?_append_left (by omega)]
      · rw [if_neg (by omega), List.getElem?_append_right (by omega), List.getElem?_drop, hll, show i * e.size + o + n + (q - (i * e.size + o) - n) = q by omega]; simp
  have hns : new.size = vs.size := by rw [← hnew]; simp; omega
  have hwk : (w.setRow (g.ρ k) new).heap[g.ρ k]? = some (.cells new E (0, 0)) := setRow_heap w _ _ _ E _ g4
  have hwo : ∀ b, b ≠ g.ρ k → (w.setRow (g.ρ k) new).heap[b]? = w.heap[b]? := fun b hb => setRow_other w _ b _ hb
  have hsz : (w.setRow (g.ρ k) new).heap.size = w.heap.size := by simp
  have hbk' : ∀ b ∈ b', b ≠ g.ρ k := fun b hb eq => by
    rcases f2 b hb with h3 | ⟨j, hj, h3, h4⟩
    · exact g8 (eq ▸ h3)
    · obtain ⟨_, _, _, _, _, h5⟩ := hgone j hj
      exact r.mem.dis j k _ _ (fun e => hkj' (e ▸ hj)) h5 hk h3 hlv (h4 ▸ eq)
  have hold : ∀ b ∈ bss[i], b ∈ bss.flatten := fun b hb => List.mem_flatten.2 ⟨_, List.getElem_mem hib, hb⟩
  have hc1 : ∀ b ∈ c1, b ∈ bss[i] := fun b hb => by rw [ec]; exact List.mem_append_left _ hb
  have hc3 : ∀ b ∈ c3, b ∈ bss[i] := fun b hb => by rw [ec, ec2]; exact List.mem_append_right _ (List.mem_append_right _ hb)
  have hbn : ∀ b ∈ c1 ++ (b' ++ c3), b ∈ b' ∨ b ∈ bss[i] := fun b hb => by
    rcases List.mem_append.1 hb with hb | hb
    · exact .inr (hc1 b hb)
    · rcases List.mem_append.1 hb with hb | hb
      · exact .inl hb
      · exact .inr (hc3 b hb)
  have hbk : ∀ b ∈ c1 ++ (b' ++ c3), b ≠ g.ρ k := fun b hb eq => by
    rcases hbn b hb with hb | hb
    · exact hbk' b hb eq
    · exact g8 (eq ▸ g7 b (hold b hb))
  have hrep : e.rep w (u1 ++ ((a.eval y).cells.toList ++ u3)) x' (c1 ++ (b' ++ c3)) := hc.iff.2 (by
    rw [hx']
    exact FR.app.2 ⟨u1, _, c1, _, rfl, rfl, fr1, FR.app.2 ⟨_, u3, b', c3, rfl, rfl, f1.fit hfit, fr4⟩⟩)
  have hE := g6.upd (w' := w.setRow (g.ρ k) new) (k := i) (x' := x') (b' := c1 ++ (b' ++ c3)) (e.keep hrep (fun b hb => hwo b (hbk b hb)) (Nat.le_of_eq hsz.symm)) (fun j u hu => by
      have hj := (List.getElem?_eq_some_iff.1 hu).1
      simp only [List.length_append, l1, hll] at hj
      rw [cell_of_heap hwk, hng]
      by_cases h1 : j < o
      · rw [if_neg (by omega)]
        rw [List.getElem?_append_left (by omega)] at hu
        have := hcell j u (by rw [List.getElem?_append_left (by omega)]; exact hu)
        rw [cell_of_heap g4] at this; exact this
      · rw [List.getElem?_append_right (by omega), l1] at hu
        by_cases h2 : j - o < n
        · rw [if_pos (by omega), show 0 + i * e.size + j - (i * e.size + o) = j - o by omega]
          rw [List.getElem?_append_left (by omega)] at hu; exact hu
        · rw [if_neg (by omega)]
          rw [List.getElem?_append_right (by omega), hll] at hu
          have := hcell j u (by rw [List.getElem?_append_right (by omega), List.getElem?_append_right (by omega), l1, l2]; exact hu)
          rw [cell_of_heap g4] at this; exact this) (fun q hq => by
      rw [cell_of_heap hwk, hng, cell_of_heap g4, if_neg (by rw [Nat.add_mul] at hq; omega)]) (fun q b hq hb c hcb => hwo c fun eq => g8 (eq ▸ g7 c (List.mem_flatten.2 ⟨b, List.mem_of_getElem? hb, hcb⟩))) (Nat.le_of_eq hsz.symm)
  have hmem : ∀ b ∈ (bss.set i (c1 ++ (b' ++ c3))).flatten, g.I b ∨ liveA g js b := fun b hb => by
    rcases flatten_set bss hib b hb with h3 | h3
    · rcases hbn b h3 with h3 | h3
      · exact f2 b h3
      · exact .inl (g7 b (hold b h3))
    · exact .inl (g7 b h3)
  obtain ⟨g', q1, q2, q3, q4, q5, q6, q7⟩ := arr_put (w' := w.setRow (g.ρ k) new) r.mem hk hlv hkj' hgone (xs := xs.set i x') (d := d1 && d2) (fp := (bss.set i (c1 ++ (b' ++ c3))).flatten) rfl rfl rfl hsz hwo
    (.inr ⟨cap, new, bss.set i (c1 ++ (b' ++ c3)), by rw [List.length_set]; exact g1, by rw [List.length_set]; exact g2, g3, hwk, hns.trans g5, hE, hmem, (fun hI => by
      rcases hI with hI | ⟨j, hj, h3, h4⟩
      · exact g8 hI
      · obtain ⟨_, _, _, _, _, h5⟩ := hgone j hj
        exact r.mem.dis j k _ _ (fun e => hkj' (e ▸ hj)) h5 hk h3 hlv h4.symm), fun _ => setAt_self⟩)
    (fun hd => by
      simp only [Bool.and_eq_true] at hd
      obtain ⟨rfl, rfl⟩ := hd
      obtain ⟨n1, n2⟩ := f3 rfl
      have hF := g9 rfl
      have hvk : ∀ b ∈ bss.flatten, Via g s'.l k b := fun b hb => ⟨α, E, e, xs, hk, .inr (by rw [hF]; exact hb)⟩
      have hfn : bss.flatten.Nodup := by rw [← hF]; exact (r.mem.fr k _ _ _ _ hk).1
      have hin : bss[i].Nodup := (List.pairwise_flatten.1 hfn).1 _ (List.getElem_mem hib)
      have hdj : ∀ c ∈ b', c ∉ bss.flatten := fun c hcb h3 => by
        obtain ⟨j, hj, hvj⟩ := n2 c hcb
        exact hkj' ((hvk c h3).disj r.mem hvj ▸ hj)
      have hnn : (c1 ++ (b' ++ c3)).Nodup := by
        rw [ec, ec2] at hin
        have h1 := List.nodup_append.1 hin
        have h2 := List.nodup_append.1 h1.2.1
        refine List.nodup_append.2 ⟨h1.1, List.nodup_append.2 ⟨n1, h2.2.1, fun x hx y hy e => ?_⟩, fun x hx y hy e => ?_⟩
        · subst e; exact hdj x hx (hold x (hc3 x hy))
        · subst e
          rcases List.mem_append.1 hy with hy | hy
          · exact hdj x hy (hold x (hc1 x hx))
          · exact h1.2.2 x hx x (List.mem_append_right _ hy) rfl
      refine ⟨nodup_set hnn bss i hib hfn (fun c hcb => by
        rcases hbn c hcb with h3 | h3
        · exact .inr (hdj c h3)
        · exact .inl h3), fun b hb => ⟨hmem b hb, ?_, ?_⟩⟩
      · rcases flatten_set bss hib b hb with h3 | h3
        · rcases hbn b h3 with h4 | h4
          · obtain ⟨j, hj, hvj⟩ := n2 b h4
            obtain ⟨c, t, h5⟩ := hvj.cells r.mem
            exact ⟨c, t, by rw [hwo b (hbk b h3)]; exact h5⟩
          · obtain ⟨c, t, h5⟩ := (hvk b (hold b h4)).cells r.mem
            exact ⟨c, t, by rw [hwo b (hbk b h3)]; exact h5⟩
        · obtain ⟨c, t, h4⟩ := (hvk b h3).cells r.mem
          exact ⟨c, t, by rw [hwo b fun eq => g8 (eq ▸ g7 b h3)]; exact h4⟩
      · rcases flatten_set bss hib b hb with h3 | h3
        · rcases hbn b h3 with h4 | h4
          · exact .inr (n2 b h4)
          · exact .inl ⟨rfl, by rw [hF]; exact hold b h4⟩
        · exact .inl ⟨rfl, by rw [hF]; exact h3⟩)
  unfold Oper.wp
  have hrun : (execOp a.eval ⟨none, .store T x y, ty, pos, after, gd⟩).run P w = .ok .skip (w.setRow (g.ρ k) new) := by
    unfold sizeT at hT
    split at hT
    · rename_i ti hti
      cases hT
      simp only [execOp, Instr.storeAt, ha, Instr.sureAddr, storeVar, sizeOf, typeInfo, Sem.run_bind, Sem.run_pure, program, Sem.run, hti, Result.andThen_ok, hlen, ne_eq, not_true_eq_false, if_false]
      rw [hst]; rfl
    · cases hT
  rw [hrun, Oper.upon_skip]
  exact ⟨g', r.next0 q5 q6 (Nat.le_of_eq hsz.symm) (fun j _ => q7 j) q3, q4 K⟩
end ops
end Go.Proofs.YtibhoanjglfaoaaGreat

/- Bits of whole numbers, in the abstract walk. -/
namespace Go.Proofs.YtibhoanjglfaoaaGreat
open Go.RowKit
set_option linter.unusedVariables false

section
variable {P : Program} {N d : Nat} {s : St} {ty : TypeId} {pos : String} {after : Array Edge} {gd : Option (Nat × Bool)}
end
end Go.Proofs.YtibhoanjglfaoaaGreat

/- The draws of the laws, ars functions of a place in the bytes: whole numbers, words, values, rows, relations. -/
namespace Go.Proofs.YtibhoanjglfaoaaGreat
open Go.RowKit
set_option linter.unusedVariables false

section
variable {P : Program} {N d : Nat} {s : St} {ty : TypeId} {pos : String} {after : Array Edge} {gd : Option (Nat × Bool)}
end
/-- A place in the bytes, and the number that is mixed in. -/
structure Cur where
  i : Nat
  h : Int
/-- It lies in a variable. -/
def curB (b : List Int) (c : Cur) : Blk := .box [.sl (intE .u8) b, .c (.int .i64 c.i), .c (.int .i64 c.h)]
end Go.Proofs.YtibhoanjglfaoaaGreat

/- Values, rows and relations that are drawn, in plain words. -/
namespace Go.Proofs.YtibhoanjglfaoaaGreat
open Go.RowKit
set_option linter.unusedVariables false

/-! ### Bounds -/
/-- A row that may be drawn. -/
def rowSm (r : List Val) : Prop := r.length ≤ 8 ∧ ∀ v ∈ r, v.s.size ≤ 18
/-- A relation that may be drawn. -/
def relSm (r : Relt) : Prop := r.rows.length ≤ 400 ∧ ∀ x ∈ r.rows, rowSm x
theorem set_mem {α : Type} {xs : List α} {i : Nat} {x y : α} (h : y ∈ xs.set i x) : y ∈ xs ∨ y = x := by
  rcases List.mem_or_eq_of_mem_set h with h | h
  · exact .inl h
  · exact .inr h
end Go.Proofs.YtibhoanjglfaoaaGreat

/- Operations whose new array is at once given up to be read alone. -/
namespace Go.Proofs.YtibhoanjglfaoaaGreat
open Go.RowKit
set_option linter.unusedVariables false

theorem above : ∀ L : List Nat, ∃ k, ∀ i ∈ L, i < k
  | [] => ⟨0, fun i h => by cases h⟩
  | a :: L => by
    obtain ⟨k, hk⟩ := above L
    refine ⟨max (a + 1) k, fun i hi => ?_⟩
    rcases List.mem_cons.1 hi with rfl | hi
    · omega
    · have := hk i hi; omega
section
variable {g g' : Gh} {l l' : Locs} {w w' : World}
theorem okK.congr {l2 : Locs} (h : ∀ j, lkl l' j = lkl l2 j) {k : Nat} (hk : okK g l g' l' k) : okK g l g' l2 k :=
  ⟨fun cs hc => hk.1 cs (by rw [h]; exact hc), fun α T e xs d hc => hk.2 α T e xs d (by rw [h]; exact hc)⟩
theorem okK.back {l2 : Locs} (h : ∀ j, lkl l j = lkl l2 j) {k : Nat} : okK g l g l2 k := okK.same (h k).symm rfl rfl
theorem MemR.congr (h : ∀ j, lkl l j = lkl l' j) (m : MemR g l w) : MemR g l' w := by
  refine ⟨m.ilt, fun k cs hc => ?_, fun k α T e xs d hc => m.arr k _ _ _ _ _ (by rw [h]; exact hc), fun j k b b' hjk h1 h2 => m.dis j k _ _ hjk (by rw [h]; exact h1) (by rw [h]; exact h2), fun k α T e xs hc => m.fr k _ _ _ _ (by rw [h]; exact hc), fun j k α β T U e f xs ys hjk h1 h2 => m.fd j k _ _ _ _ _ _ _ _ hjk (by rw [h]; exact h1) (by rw [h]; exact h2)⟩
  obtain ⟨vs, t, h1, h2, h3⟩ := m.box k cs (by rw [h]; exact hc)
  exact ⟨vs, t, h1, h2.mono fun a c _ hr => CellR.step (fun _ _ => rfl) (fun _ h => h) (Nat.le_refl _) (fun i _ => okK.back h) hr, h3⟩
theorem VR.congr (h : ∀ j, lkl l j = lkl l' j) {v : Value} {x : AVal} (hv : VR g l w v x) : VR g l' w v x := hv.step (fun _ _ => rfl) (fun _ h => h) (Nat.le_refl _) (fun i _ => okK.back h)
theorem OwnB.congr (h : ∀ j, lkl l j = lkl l' j) {b : Nat} (hb : OwnB g l b) : OwnB g l' b := by
  obtain ⟨k, blk, h1, h2⟩ := hb
  exact ⟨k, blk, by rw [← h]; exact h1, h2⟩
end
theorem OpOK.frz {P : Program} {N d : Nat} {o : Oper} {rt : List (Nat × AVal)} {rl : List (Nat × Blk)} {α : Type} {T : TypeId} {e : Enc α} {xs : List α} {dp : Bool} {L : List Nat}
    (h : ∀ k, (∀ i ∈ L, i < k) → OpOK P N o ⟨rt, rl, [(d, .one (.own k))], [(k, some (.arr T e xs dp))], [k]⟩) : OpOK P N o ⟨rt, rl, [(d, .one (.sl e xs))], [], []⟩ := fun K g s a w hp r => by
  obtain ⟨k, hk⟩ := above (L ++ (keys s.l ++ s.ids))
  have hkl : lk s.l k = none := by
    cases hq : lk s.l k with
    | none => rfl
    | some y =>
      have h1 : k ∈ keys s.l := List.mem_map.2 ⟨_, lk_mem hq, rfl⟩
      have := hk k (List.mem_append_right _ (List.mem_append_left _ h1))
      omega
  have hki : k ∉ s.ids := fun hm => by
    have := hk k (List.mem_append_right _ (List.mem_append_right _ hm))
    omega
  have hkk : lkl s.l k = none := by unfold lkl; rw [hkl]
  have h1 := h k (fun i hi => hk i (List.mem_append_left _ hi)) K g s a w ⟨hp.1, hp.2.1, fun j hj => by simp at hj; subst hj; exact ⟨hkl, hki⟩⟩ r
  refine Oper.wp_mono ?_ h1
  rintro a' w' ⟨g', r', st⟩
  have hu : (Cert.upd ⟨rt, rl, [(d, .one (.own k))], [(k, some (.arr T e xs dp))], [k]⟩ s) = ⟨(d, .one (.own k)) :: s.t, (k, some (.arr T e xs dp)) :: s.l⟩ := rfl
  rw [hu] at r' st
  have hka : lkl ((k, some (Blk.arr T e xs dp)) :: s.l) k = some (.arr T e xs dp) := lkl_cons_self
  obtain ⟨m1, st1, c1, ok1⟩ := shut_mem r'.mem hka
  have T2 := Step.trans r.mem r'.mem st (st1 K)
  have hl : ∀ j, lkl ((k, none) :: (k, some (Blk.arr T e xs dp)) :: s.l) j = lkl s.l j := fun j => by
    by_cases q : k = j
    · subst q; rw [lkl_cons_self, hkk]
    · rw [lkl_cons_ne q, lkl_cons_ne q]
  have hv : a'.tmps.getD d undef = g'.hd k := (r'.tmp d _ (lk_cons_self ..) : CellR g' _ w' _ (.own k)) _ _ _ _ _ hka
  refine ⟨g'.shut k, ⟨r'.size, r'.defers, fun j x hj => ?_, m1.congr hl⟩, ⟨T2.os, T2.tape, T2.output, T2.size, T2.keep, T2.imm, T2.imm', fun b hb => T2.own b (OwnB.congr (fun j => (hl j).symm) hb), fun j hj hn => ?_⟩⟩
  · have hj : lk ((d, AVal.one (.sl e xs)) :: s.t) j = some x := hj
    by_cases hjt : d = j
    · subst hjt
      rw [lk_cons_self] at hj; cases hj
      rw [hv]; exact VR.congr (x := .one (.sl e xs)) hl c1
    · rw [lk_cons_ne hjt] at hj
      have h2 := r'.tmp j x (by show lk ((d, AVal.one (.own k)) :: s.t) j = some x; rw [lk_cons_ne hjt]; exact hj)
      have h3 : VR (g'.shut k) ((k, none) :: (k, some (Blk.arr T e xs dp)) :: s.l) w' (a'.tmps.getD j undef) x := h2.step (fun _ _ => rfl) (fun _ h => .inl h) (Nat.le_refl _) (fun i _ => ok1 i)
      exact VR.congr hl h3
  · obtain ⟨z1, z2, z3⟩ := T2.base j hj hn
    exact ⟨hn, okK.congr hl z2, fun cs hc => ⟨cs, hc⟩⟩
section ops
variable {P : Program} {N : Nat} {s : St} {d : Nat} {ty : TypeId} {pos : String} {after : Array Edge} {gd : Option (Nat × Bool)}
end ops
end Go.Proofs.YtibhoanjglfaoaaGreat

/- Rules for the draws' contracts: a cursor that is lent while an array is left, two results in variables. -/
namespace Go.Proofs.YtibhoanjglfaoaaGreat
open Go.RowKit
set_option linter.unusedVariables false

def rnC (j : Nat) : Nat := bif Nat.beq j 200 then 200 else 0
theorem rnC_k {k : Nat} (hk : Nat.beq k 200 = false) : rnC k = 0 := by unfold rnC; rw [hk]; rfl
theorem curB_ren (b : List Int) (c : Cur) (r : Nat → Nat) : (curB b c).ren r = curB b c := rfl
/-- The array that is left beside a cursor, under another number. -/
theorem AC.cur {P : Program} {f : FuncId} {args : List AVal} {bs : List Int} {c c' : Cur} {res res0 : AVal} {blk : Blk} (h : AC P f args [(200, some (curB bs c))] res0 [(200, some (curB bs c')), (0, some blk)]) (k : Nat) (hk : Nat.beq k 200 = false)
    (hres : ∀ r : Nat → Nat, r k = 0 → res.ren r = res0) (hbl : ∀ r : Nat → Nat, blk.ren r = blk) : AC P f args [(200, some (curB bs c))] res [(200, some (curB bs c')), (k, some blk)] := by
  have hL : LeL rnC [(200, some (curB bs c')), (0, some blk)] [(200, some (curB bs c')), (k, some blk)] :=
    ⟨⟨curB bs c', rfl, by rw [curB_ren]; exact BLe.rf⟩, ⟨blk, by rw [rnC_k hk]; rfl, by rw [hbl]; exact BLe.rf⟩, trivial⟩
  have hi : injL rnC (keys [(200, some (curB bs c')), (k, some blk)]) = true := by
    have h2 : rnC 200 = 200 := rfl
    simp [injL, keys, rnC_k hk, h2]
    exact .inr rfl
  have hK : LeK rnC [(200, some (curB bs c')), (0, some blk)] [(200, some (curB bs c')), (k, some blk)] (keys [(200, some (curB bs c))]) :=
    ⟨⟨rfl, .inl (by simp [lk]), fun cs _ => ⟨_, rfl⟩⟩, trivial⟩
  refine ⟨h.fn, fun g w cargs m ha => (h.run g w cargs m ha).mono ?_⟩
  rintro e w' ⟨v, g1, rfl, m1, hv, hs⟩
  exact ⟨v, g1.ren rnC, rfl, m1.unren hL hi, VR.unren hL (by rw [hres rnC (rnC_k hk)]; exact hv), hs.trans m m1 (Step.unren hL hK)⟩
/-- What a slot holds, said in other words. -/
theorem AW_slot {P : Program} {N : Nat} {K : List Nat} {c : Code} {Kn : St → Prop} {Q : Exit → St → Prop} {s : St} {t : Nat} {x y : AVal} (ht : lk s.t t = some x) (h : x = y) (hA : AW P N K c Kn Q ⟨(t, y) :: s.t, s.l⟩) : AW P N K c Kn Q s := fun g a w r =>
  hA g a w ⟨r.size, r.defers, fun k z hk => by
    by_cases e : t = k
    · subst e; rw [lk_cons_self] at hk; cases hk; exact r.tmp _ _ (h ▸ ht)
    · rw [lk_cons_ne e] at hk; exact r.tmp k z hk, r.mem⟩
section results
variable {P : Program} {f : FuncId} {fn : Func} {c : Code} {N : Nat} {args : List AVal} {L L' : Locs}
end results
end Go.Proofs.YtibhoanjglfaoaaGreat

/- Pairs of relations, relations with a row, joins and ways that are drawn, in plain words. -/
namespace Go.Proofs.YtibhoanjglfaoaaGreat
open Go.RowKit
set_option linter.unusedVariables false

end Go.Proofs.YtibhoanjglfaoaaGreat

/- Stores that are drawn, in plain words. -/
namespace Go.Proofs.YtibhoanjglfaoaaGreat
open Go.RowKit
set_option linter.unusedVariables false

theorem setTo_len2 {rels : List Namedt} {nw : Namedt} (k : Nat) : (setTo rels nw k).2.length ≤ k + 1 := by
  have h1 := setTo_len (rels := rels) (nw := nw) k
  have h2 := Bool.toNat_le (setTo rels nw k).1
  omega
/-- A named relation that may be drawn. -/
def namedSm (x : Namedt) : Prop := x.name.size ≤ 18 ∧ relSm x.rel
/-- The rows, the names and the number of a store's relations. -/
structure StSm (s : List Namedt) (n m : Nat) : Prop where
  all : ∀ y ∈ s, namedSm y
  len : s.length ≤ n
  rows : rowsN s ≤ m
theorem StSm.put {s : List Namedt} {n m : Nat} (h : StSm s n m) {x : Namedt} (hx : namedSm x) : StSm (setRel s x) (n + 1) (m + x.rel.rows.length) :=
  ⟨setRel_all hx h.all, by have := setRel_len (rels := s) (nw := x); have := h.len; omega, by have := setRel_rows (rels := s) (nw := x); have := h.rows; omega⟩
theorem StSm.le {s : List Namedt} {n m n' m' : Nat} (h : StSm s n m) (h1 : n ≤ n') (h2 : m ≤ m') : StSm s n' m' := ⟨h.all, Nat.le_trans h.len h1, Nat.le_trans h.rows h2⟩
theorem StSm.set {s : List Namedt} {n m : Nat} (h : StSm s n m) {x : Namedt} (hx : namedSm x) {i : Nat} (hi : i < s.length) : StSm (s.set i x) n (m + x.rel.rows.length - s[i].rel.rows.length) := by
  have h1 := rowsN_set x s i hi
  have h2 := h.rows
  refine ⟨fun y hy => ?_, by rw [List.length_set]; exact h.len, by omega⟩
  rcases set_mem hy with hy | hy
  · exact h.all y hy
  · rw [hy]; exact hx
end Go.Proofs.YtibhoanjglfaoaaGreat

/- Stores that are drawn (printed by walk.py) -/
namespace Go.Proofs.YtibhoanjglfaoaaGreat
open Go.RowKit
set_option linter.unusedVariables false
set_option linter.unusedSimpArgs false
set_option maxRecDepth 100000

set_option maxHeartbeats 4000000 in
theorem l12Set_c0 (rels : List Namedt) (nm : ByteArray) (r : Relt) (hs : rels.length ≤ 1048575) (hm : ∀ y ∈ rels, smallNamed y) (hr : smallRel r) : AC Tryz.prog 35 [.agg [.sl namedE rels], .one (.c (.string nm)), .agg (relC r)] [] (.agg [.own 0]) [(0, some (.arr 84 namedE (setRel rels (⟨nm, r⟩ : Namedt)) true))] := by
  refine AC_bodyC (n := 1) (k := 9) (T := [(6, .one (.ptr 9 0))]) (Lf := ((9, some (.box [.own 0])) :: [(0, some (.arr 84 namedE (setRel rels (⟨nm, r⟩ : Namedt)) true))])) Tryz.func35 rfl rfl Tryz.ntmps35 rfl Tryz.results35 rfl rfl (by kernel_rfl) rfl rfl ⟨trivial, (by repeat (first | exact trivial | refine ⟨⟨_, rfl, BLe.rf⟩, ?_⟩)), (by repeat (first | exact trivial | refine ⟨⟨rfl, by first | (left; intro h; cases h) | (right; rfl), by first | exact (fun _ h => ⟨_, h⟩) | exact (fun _ _ => ⟨_, rfl⟩)⟩, ?_⟩)), rfl⟩ ?_
  refine AW_seq ?_
  refine AW_region ?_
  refine AL_p (x_box 100 rfl rfl rfl rfl rfl rfl rfl) ?_
  refine AL_p (x_box 101 rfl rfl rfl rfl rfl rfl rfl) ?_
  refine AL_p (x_alloc (z := .agg #[.slice none 0 0]) 102 rfl (by kernel_rfl) rfl rfl rfl rfl) ?_
  refine AL_nil ?_
  refine AW_seq ?_
  refine AW_region ?_
  refine AL_p (x_build (zs := [.slice none 0 0]) (places := [(0, 1)]) rfl (by kernel_rfl) rfl rfl rfl rfl rfl) ?_
  refine AL_p (x_alloc (z := .agg #[.slice none 0 0]) 103 rfl (by kernel_rfl) rfl rfl rfl rfl) ?_
  refine AL_p (x_store (n := 1) rfl rfl rfl rfl (by kernel_rfl) rfl rfl rfl) ?_
  refine AL_nil ?_
  refine AW_seq ?_
  refine AW_region ?_
  refine AL_p (x_assign rfl rfl) ?_
  refine AL_nil ?_
  refine AW_seq ?_
  refine AW_seq ?_
  refine AW_region ?_
  refine AL_p (x_field (off := 0) (o' := 0) rfl rfl rfl (by kernel_rfl) rfl) ?_
  refine AL_p (x_load1 rfl rfl rfl (by kernel_rfl) rfl) ?_
  refine AL_p (x_len (E := 84) (n := 3) rfl rfl (by kernel_rfl)) ?_
  refine AL_p (x_move rfl rfl) ?_
  refine AL_nil ?_
  refine AW_block ?_
  refine AW_adopt (T := 84) (e := namedE) 104 103 0 rfl rfl rfl rfl rfl ?_
  refine AW_loop2 (ι := {q : Nat × Bool // (q.1) ≤ rels.length ∧ (setTo rels (⟨nm, r⟩ : Namedt) (q.1)).1 = (q.2)}) (fun p => [(8, .one (.c (.bool (p.1.2)))), (14, .one (.c (.int .i64 ((p.1.1) : Int))))]) (fun p => [(104, some (.arr 84 namedE (setTo rels (⟨nm, r⟩ : Namedt) (p.1.1)).2 true))]) [1, 3, 5, 6, 7, 13] [100, 101, 102, 103] (fun p => rels.length - (p.1.1)) ⟨⟨0, false⟩, ⟨by omega, rfl⟩⟩ (rn []) ?_ ?_
  exact ⟨by (repeat refine ⟨⟨_, rfl, by first | exact VLe.rf | exact vle_int (by dsimp only; omega)⟩, ?_⟩); exact trivial, by (repeat refine ⟨⟨_, rfl, by first | exact BLe.rf | exact BLe.box AllC.rf | exact BLe.arr (by first | rfl | exact (congrArg Prod.snd hs2).symm)⟩, ?_⟩); exact trivial, by repeat (first | exact trivial | refine ⟨⟨rfl, by first | (left; intro h; cases h) | (right; rfl), by first | exact (fun _ h => ⟨_, h⟩) | exact (fun _ _ => ⟨_, rfl⟩)⟩, ?_⟩), rfl⟩
  rintro ⟨⟨k, b900⟩, hinv⟩
  dsimp only
  obtain ⟨hk, h900⟩ := hinv
  have hk : k ≤ rels.length := hk
  refine AW_seq ?_
  refine AW_region ?_
  refine AL_b (x_lss rfl rfl rfl) (fun b15 h15 => ?_)
  refine AL_nil ?_
  refine AW_seq ?_
  cases b15
  · try simp only [tdy] at h15
    obtain rfl : k = rels.length := by omega
    refine AW_condF rfl ?_
    refine AW_exit (BQ_hit ?_)
    refine AW_seq ?_
    refine AW_seq ?_
    refine AW_region ?_
    refine AL_p (x_move rfl rfl) ?_
    refine AL_p (x_not rfl rfl) ?_
    refine AL_nil ?_
    cases b900
    rotate_left
    · try simp only [tdy] at h900
      have hno : setRel rels (⟨nm, r⟩ : Namedt) = (setTo rels (⟨nm, r⟩ : Namedt) rels.length).2 := by unfold setRel; rw [h900]; rfl
      refine AW_condF rfl ?_
      refine AW_skip ?_
      refine AW_seq ?_
      refine AW_region ?_
      refine AL_p (x_loadN (n := 1) rfl rfl rfl (by kernel_rfl) rfl rfl) ?_
      refine AL_p (x_store (n := 1) rfl rfl rfl rfl (by kernel_rfl) rfl rfl rfl) ?_
      refine AL_nil ?_
      refine AW_ret ?_
      exact ⟨rn [(9, 102), (0, 104)], ⟨⟨⟨_, rfl, VLe.rf⟩, trivial⟩, ⟨⟨_, rfl, by first | exact BLe.rf | (subst_vars; exact BLe.rf)⟩, ⟨_, rfl, BLe.arr hno.symm⟩, trivial⟩, trivial, rfl⟩⟩
    try simp only [tdy] at h900
    have hno : setRel rels (⟨nm, r⟩ : Namedt) = (setTo rels (⟨nm, r⟩ : Namedt) rels.length).2 ++ [(⟨nm, r⟩ : Namedt)] := by unfold setRel; rw [h900]; rfl
    refine AW_condT rfl ?_
    refine AW_draw rfl ?_
    refine AL_p (x_field (off := 0) (o' := 0) rfl rfl rfl (by kernel_rfl) rfl) ?_
    refine AL_p (x_load1 rfl rfl rfl (by kernel_rfl) rfl) ?_
    refine AL_p (x_move rfl rfl) ?_
    refine AL_p (x_loadN (n := 2) rfl rfl rfl (by kernel_rfl) rfl rfl) ?_
    refine AL_p (x_call1 rfl rfl rfl (copyS_c r hr 111) rfl rfl rfl rfl) ?_
    refine AL_p (x_build (zs := [.string ⟨#[]⟩, .int .i64 0, .slice none 0 0]) (places := [(0, 1), (1, 2)]) rfl (by kernel_rfl) rfl rfl rfl rfl rfl) ?_
    refine AL_p (y_bslice (E := 84) (e := namedE) [.tmp 73] ([(⟨nm, r⟩ : Namedt)]) 112 rfl rfl rfl rfl rfl rfl rfl rfl FitL.rf rfl rfl rfl rfl rfl rfl (by kernel_rfl)) ?_
    refine AL_p (y_append 113 rfl rfl rfl rfl rfl rfl rfl rfl (by kernel_rfl) (by have := setTo_len2 (rels := rels) (nw := (⟨nm, r⟩ : Namedt)) rels.length; simp only [List.length_append, List.length_cons, List.length_nil]; omega)) ?_
    refine AL_p (x_field (off := 0) (o' := 0) rfl rfl rfl (by kernel_rfl) rfl) ?_
    refine AL_p (x_store (n := 1) rfl rfl rfl rfl (by kernel_rfl) rfl rfl rfl) ?_
    refine AL_nild (by kernel_rfl) ?_
    refine AW_seq ?_
    refine AW_region ?_
    refine AL_p (x_loadN (n := 1) rfl rfl rfl (by kernel_rfl) rfl rfl) ?_
    refine AL_p (x_store (n := 1) rfl rfl rfl rfl (by kernel_rfl) rfl rfl rfl) ?_
    refine AL_nil ?_
    refine AW_ret ?_
    exact ⟨rn [(9, 102), (0, 113)], ⟨⟨⟨_, rfl, VLe.rf⟩, trivial⟩, ⟨⟨_, rfl, by first | exact BLe.rf | (subst_vars; exact BLe.rf)⟩, ⟨_, rfl, BLe.arr hno.symm⟩, trivial⟩, trivial, rfl⟩⟩
  try simp only [tdy] at h15
  refine AW_condT rfl ?_
  refine AW_skip ?_
  refine AW_seq ?_
  refine AW_block ?_
  refine AW_seq ?_
  refine AW_region ?_
  refine AL_p (x_move rfl rfl) ?_
  refine AL_p (x_assign rfl rfl) ?_
  refine AL_nil ?_
  refine AW_seq ?_
  refine AW_seq ?_
  refine AW_region ?_
  refine AL_p (x_move rfl rfl) ?_
  refine AL_p (x_not rfl rfl) ?_
  refine AL_p (x_move rfl rfl) ?_
  cases b900
  rotate_left
  · try simp only [tdy] at h900
    refine AL_o rfl rfl rfl rfl ?_
    refine AL_o rfl rfl rfl rfl ?_
    refine AL_o rfl rfl rfl rfl ?_
    refine AL_o rfl rfl rfl rfl ?_
    refine AL_o rfl rfl rfl rfl ?_
    refine AL_o rfl rfl rfl rfl ?_
    refine AL_o rfl rfl rfl rfl ?_
    refine AL_o rfl rfl rfl rfl ?_
    refine AL_p (x_pickF rfl rfl rfl) ?_
    refine AL_nil ?_
    refine AW_condF rfl ?_
    refine AW_skip ?_
    refine AW_seq ?_
    refine AW_region ?_
    refine AL_p (x_field (off := 0) (o' := 0) rfl rfl rfl (by kernel_rfl) rfl) ?_
    refine AL_p (x_load1 rfl rfl rfl (by kernel_rfl) rfl) ?_
    refine AL_p (x_move rfl rfl) ?_
    refine AL_p (x_index (E := 84) (n := 3) rfl rfl rfl (by kernel_rfl) rfl (k := k) rfl (by omega)) ?_
    refine AL_p (x_efield (off := 0) (o' := 0) rfl rfl (by kernel_rfl) rfl) ?_
    refine AL_p (x_eload1 rfl rfl (by kernel_rfl) rfl) ?_
    refine AL_p (x_move rfl rfl) ?_
    refine AL_b (x_sneq rfl rfl rfl) (fun b45 h45 => ?_)
    refine AL_nil ?_
    cases b45
    · try simp only [tdy] at h45
      have hs2 := setTo_skip (nw := (⟨nm, r⟩ : Namedt)) (k := k) (by omega) h900 (show (!((rels[k]'(by omega)).name == nm)) = false by rw [h45]; rfl)
      refine AW_condF rfl ?_
      refine AW_skip ?_
      refine AW_region ?_
      refine AL_p (x_add rfl rfl rfl (IntWalk.i64_in _ (by omega))) ?_
      refine AL_p (x_move rfl rfl) ?_
      refine AL_nil ?_
      refine ⟨⟨⟨k + 1, true⟩, ⟨by omega, congrArg Prod.fst hs2⟩⟩, rn [], ?_, by dsimp only; omega⟩
      exact ⟨by (repeat refine ⟨⟨_, rfl, by first | exact VLe.rf | exact vle_int (by dsimp only; omega)⟩, ?_⟩); exact trivial, by (repeat refine ⟨⟨_, rfl, by first | exact BLe.rf | exact BLe.box AllC.rf | exact BLe.arr (by first | rfl | exact (congrArg Prod.snd hs2).symm)⟩, ?_⟩); exact trivial, by repeat (first | exact trivial | refine ⟨⟨rfl, by first | (left; intro h; cases h) | (right; rfl), by first | exact (fun _ h => ⟨_, h⟩) | exact (fun _ _ => ⟨_, rfl⟩)⟩, ?_⟩), rfl⟩
    try simp only [tdy] at h45
    have hs2 := setTo_skip (nw := (⟨nm, r⟩ : Namedt)) (k := k) (by omega) h900 (show (!((rels[k]'(by omega)).name == nm)) = true by rw [h45]; rfl)
    refine AW_condT rfl ?_
    refine AW_draw rfl ?_
    refine AL_p (x_field (off := 0) (o' := 0) rfl rfl rfl (by kernel_rfl) rfl) ?_
    refine AL_p (x_load1 rfl rfl rfl (by kernel_rfl) rfl) ?_
    refine AL_p (x_field (off := 0) (o' := 0) rfl rfl rfl (by kernel_rfl) rfl) ?_
    refine AL_p (x_load1 rfl rfl rfl (by kernel_rfl) rfl) ?_
    refine AL_p (x_move rfl rfl) ?_
    refine AL_p (x_index (E := 84) (n := 3) rfl rfl rfl (by kernel_rfl) rfl (k := k) rfl (by omega)) ?_
    refine AL_p (x_efield (off := 0) (o' := 0) rfl rfl (by kernel_rfl) rfl) ?_
    refine AL_p (x_eload1 rfl rfl (by kernel_rfl) rfl) ?_
    refine AL_p (x_field (off := 0) (o' := 0) rfl rfl rfl (by kernel_rfl) rfl) ?_
    refine AL_p (x_load1 rfl rfl rfl (by kernel_rfl) rfl) ?_
    refine AL_p (x_move rfl rfl) ?_
    refine AL_p (x_index (E := 84) (n := 3) rfl rfl rfl (by kernel_rfl) rfl (k := k) rfl (by omega)) ?_
    refine AL_p (x_efield (off := 1) (o' := 1) rfl rfl (by kernel_rfl) rfl) ?_
    refine AL_p (x_eloadN (n := 2) rfl rfl (by kernel_rfl) rfl rfl) ?_
    refine AL_p (x_call1 rfl rfl rfl (copyS_c (rels[k]'(by omega)).rel (hm _ (List.getElem_mem _)).2 105) rfl rfl rfl rfl) ?_
    refine AL_p (x_build (zs := [.string ⟨#[]⟩, .int .i64 0, .slice none 0 0]) (places := [(0, 1), (1, 2)]) rfl (by kernel_rfl) rfl rfl rfl rfl rfl) ?_
    refine AL_p (y_bslice (E := 84) (e := namedE) [.tmp 61] ([(rels[k]'(by omega))]) 106 rfl rfl rfl rfl rfl rfl rfl rfl FitL.rf rfl rfl rfl rfl rfl rfl (by kernel_rfl)) ?_
    refine AL_p (y_append 107 rfl rfl rfl rfl rfl rfl rfl rfl (by kernel_rfl) (by have := setTo_len2 (rels := rels) (nw := (⟨nm, r⟩ : Namedt)) k; simp only [List.length_append, List.length_cons, List.length_nil]; omega)) ?_
    refine AL_p (x_field (off := 0) (o' := 0) rfl rfl rfl (by kernel_rfl) rfl) ?_
    refine AL_p (x_store (n := 1) rfl rfl rfl rfl (by kernel_rfl) rfl rfl rfl) ?_
    refine AL_nild (by kernel_rfl) ?_
    refine AW_region ?_
    refine AL_p (x_add rfl rfl rfl (IntWalk.i64_in _ (by omega))) ?_
    refine AL_p (x_move rfl rfl) ?_
    refine AL_nil ?_
    refine ⟨⟨⟨k + 1, true⟩, ⟨by omega, congrArg Prod.fst hs2⟩⟩, rn [(104, 107)], ?_, by dsimp only; omega⟩
    exact ⟨by (repeat refine ⟨⟨_, rfl, by first | exact VLe.rf | exact vle_int (by dsimp only; omega)⟩, ?_⟩); exact trivial, by (repeat refine ⟨⟨_, rfl, by first | exact BLe.rf | exact BLe.box AllC.rf | exact BLe.arr (by first | rfl | exact (congrArg Prod.snd hs2).symm)⟩, ?_⟩); exact trivial, by repeat (first | exact trivial | refine ⟨⟨rfl, by first | (left; intro h; cases h) | (right; rfl), by first | exact (fun _ h => ⟨_, h⟩) | exact (fun _ _ => ⟨_, rfl⟩)⟩, ?_⟩), rfl⟩
  try simp only [tdy] at h900
  refine AL_g rfl rfl (x_move rfl rfl) ?_
  refine AL_g rfl rfl (x_field (off := 0) (o' := 0) rfl rfl rfl (by kernel_rfl) rfl) ?_
  refine AL_g rfl rfl (x_load1 rfl rfl rfl (by kernel_rfl) rfl) ?_
  refine AL_g rfl rfl (x_move rfl rfl) ?_
  refine AL_g rfl rfl (x_index (E := 84) (n := 3) rfl rfl rfl (by kernel_rfl) rfl (k := k) rfl (by omega)) ?_
  refine AL_g rfl rfl (x_efield (off := 0) (o' := 0) rfl rfl (by kernel_rfl) rfl) ?_
  refine AL_g rfl rfl (x_eload1 rfl rfl (by kernel_rfl) rfl) ?_
  refine AL_gb rfl rfl (x_sleq rfl rfl rfl) (fun b27 h27 => ?_)
  refine AL_p (x_pickT rfl rfl rfl) ?_
  refine AL_nil ?_
  cases b27
  · try simp only [tdy] at h27
    refine AW_condF rfl ?_
    refine AW_skip ?_
    refine AW_seq ?_
    refine AW_region ?_
    refine AL_p (x_field (off := 0) (o' := 0) rfl rfl rfl (by kernel_rfl) rfl) ?_
    refine AL_p (x_load1 rfl rfl rfl (by kernel_rfl) rfl) ?_
    refine AL_p (x_move rfl rfl) ?_
    refine AL_p (x_index (E := 84) (n := 3) rfl rfl rfl (by kernel_rfl) rfl (k := k) rfl (by omega)) ?_
    refine AL_p (x_efield (off := 0) (o' := 0) rfl rfl (by kernel_rfl) rfl) ?_
    refine AL_p (x_eload1 rfl rfl (by kernel_rfl) rfl) ?_
    refine AL_p (x_move rfl rfl) ?_
    refine AL_b (x_sneq rfl rfl rfl) (fun b45 h45 => ?_)
    refine AL_nil ?_
    cases b45
    · try simp only [tdy] at h45
      have hs2 := setTo_next (nw := (⟨nm, r⟩ : Namedt)) (k := k) (by omega) h900 h27 (show (!((rels[k]'(by omega)).name == nm)) = false by rw [h45]; rfl)
      refine AW_condF rfl ?_
      refine AW_skip ?_
      refine AW_region ?_
      refine AL_p (x_add rfl rfl rfl (IntWalk.i64_in _ (by omega))) ?_
      refine AL_p (x_move rfl rfl) ?_
      refine AL_nil ?_
      refine ⟨⟨⟨k + 1, false⟩, ⟨by omega, congrArg Prod.fst hs2⟩⟩, rn [], ?_, by dsimp only; omega⟩
      exact ⟨by (repeat refine ⟨⟨_, rfl, by first | exact VLe.rf | exact vle_int (by dsimp only; omega)⟩, ?_⟩); exact trivial, by (repeat refine ⟨⟨_, rfl, by first | exact BLe.rf | exact BLe.box AllC.rf | exact BLe.arr (by first | rfl | exact (congrArg Prod.snd hs2).symm)⟩, ?_⟩); exact trivial, by repeat (first | exact trivial | refine ⟨⟨rfl, by first | (left; intro h; cases h) | (right; rfl), by first | exact (fun _ h => ⟨_, h⟩) | exact (fun _ _ => ⟨_, rfl⟩)⟩, ?_⟩), rfl⟩
    try simp only [tdy] at h45
    have hs2 := setTo_next (nw := (⟨nm, r⟩ : Namedt)) (k := k) (by omega) h900 h27 (show (!((rels[k]'(by omega)).name == nm)) = true by rw [h45]; rfl)
    refine AW_condT rfl ?_
    refine AW_draw rfl ?_
    refine AL_p (x_field (off := 0) (o' := 0) rfl rfl rfl (by kernel_rfl) rfl) ?_
    refine AL_p (x_load1 rfl rfl rfl (by kernel_rfl) rfl) ?_
    refine AL_p (x_field (off := 0) (o' := 0) rfl rfl rfl (by kernel_rfl) rfl) ?_
    refine AL_p (x_load1 rfl rfl rfl (by kernel_rfl) rfl) ?_
    refine AL_p (x_move rfl rfl) ?_
    refine AL_p (x_index (E := 84) (n := 3) rfl rfl rfl (by kernel_rfl) rfl (k := k) rfl (by omega)) ?_
    refine AL_p (x_efield (off := 0) (o' := 0) rfl rfl (by kernel_rfl) rfl) ?_
    refine AL_p (x_eload1 rfl rfl (by kernel_rfl) rfl) ?_
    refine AL_p (x_field (off := 0) (o' := 0) rfl rfl rfl (by kernel_rfl) rfl) ?_
    refine AL_p (x_load1 rfl rfl rfl (by kernel_rfl) rfl) ?_
    refine AL_p (x_move rfl rfl) ?_
    refine AL_p (x_index (E := 84) (n := 3) rfl rfl rfl (by kernel_rfl) rfl (k := k) rfl (by omega)) ?_
    refine AL_p (x_efield (off := 1) (o' := 1) rfl rfl (by kernel_rfl) rfl) ?_
    refine AL_p (x_eloadN (n := 2) rfl rfl (by kernel_rfl) rfl rfl) ?_
    refine AL_p (x_call1 rfl rfl rfl (copyS_c (rels[k]'(by omega)).rel (hm _ (List.getElem_mem _)).2 105) rfl rfl rfl rfl) ?_
    refine AL_p (x_build (zs := [.string ⟨#[]⟩, .int .i64 0, .slice none 0 0]) (places := [(0, 1), (1, 2)]) rfl (by kernel_rfl) rfl rfl rfl rfl rfl) ?_
    refine AL_p (y_bslice (E := 84) (e := namedE) [.tmp 61] ([(rels[k]'(by omega))]) 106 rfl rfl rfl rfl rfl rfl rfl rfl FitL.rf rfl rfl rfl rfl rfl rfl (by kernel_rfl)) ?_
    refine AL_p (y_append 107 rfl rfl rfl rfl rfl rfl rfl rfl (by kernel_rfl) (by have := setTo_len2 (rels := rels) (nw := (⟨nm, r⟩ : Namedt)) k; simp only [List.length_append, List.length_cons, List.length_nil]; omega)) ?_
    refine AL_p (x_field (off := 0) (o' := 0) rfl rfl rfl (by kernel_rfl) rfl) ?_
    refine AL_p (x_store (n := 1) rfl rfl rfl rfl (by kernel_rfl) rfl rfl rfl) ?_
    refine AL_nild (by kernel_rfl) ?_
    refine AW_region ?_
    refine AL_p (x_add rfl rfl rfl (IntWalk.i64_in _ (by omega))) ?_
    refine AL_p (x_move rfl rfl) ?_
    refine AL_nil ?_
    refine ⟨⟨⟨k + 1, false⟩, ⟨by omega, congrArg Prod.fst hs2⟩⟩, rn [(104, 107)], ?_, by dsimp only; omega⟩
    exact ⟨by (repeat refine ⟨⟨_, rfl, by first | exact VLe.rf | exact vle_int (by dsimp only; omega)⟩, ?_⟩); exact trivial, by (repeat refine ⟨⟨_, rfl, by first | exact BLe.rf | exact BLe.box AllC.rf | exact BLe.arr (by first | rfl | exact (congrArg Prod.snd hs2).symm)⟩, ?_⟩); exact trivial, by repeat (first | exact trivial | refine ⟨⟨rfl, by first | (left; intro h; cases h) | (right; rfl), by first | exact (fun _ h => ⟨_, h⟩) | exact (fun _ _ => ⟨_, rfl⟩)⟩, ?_⟩), rfl⟩
  try simp only [tdy] at h27
  refine AW_condT rfl ?_
  refine AW_seq ?_
  refine AW_draw rfl ?_
  refine AL_p (x_field (off := 0) (o' := 0) rfl rfl rfl (by kernel_rfl) rfl) ?_
  refine AL_p (x_load1 rfl rfl rfl (by kernel_rfl) rfl) ?_
  refine AL_p (x_move rfl rfl) ?_
  refine AL_p (x_loadN (n := 2) rfl rfl rfl (by kernel_rfl) rfl rfl) ?_
  refine AL_p (x_call1 rfl rfl rfl (copyS_c r hr 108) rfl rfl rfl rfl) ?_
  refine AL_p (x_build (zs := [.string ⟨#[]⟩, .int .i64 0, .slice none 0 0]) (places := [(0, 1), (1, 2)]) rfl (by kernel_rfl) rfl rfl rfl rfl rfl) ?_
  refine AL_p (y_bslice (E := 84) (e := namedE) [.tmp 34] ([(⟨nm, r⟩ : Namedt)]) 109 rfl rfl rfl rfl rfl rfl rfl rfl FitL.rf rfl rfl rfl rfl rfl rfl (by kernel_rfl)) ?_
  refine AL_p (y_append 110 rfl rfl rfl rfl rfl rfl rfl rfl (by kernel_rfl) (by have := setTo_len2 (rels := rels) (nw := (⟨nm, r⟩ : Namedt)) k; simp only [List.length_append, List.length_cons, List.length_nil]; omega)) ?_
  refine AL_p (x_field (off := 0) (o' := 0) rfl rfl rfl (by kernel_rfl) rfl) ?_
  refine AL_p (x_store (n := 1) rfl rfl rfl rfl (by kernel_rfl) rfl rfl rfl) ?_
  refine AL_nild (by kernel_rfl) ?_
  refine AW_region ?_
  refine AL_p (x_assign rfl rfl) ?_
  refine AL_nil ?_
  refine AW_seq ?_
  refine AW_region ?_
  refine AL_p (x_field (off := 0) (o' := 0) rfl rfl rfl (by kernel_rfl) rfl) ?_
  refine AL_p (x_load1 rfl rfl rfl (by kernel_rfl) rfl) ?_
  refine AL_p (x_move rfl rfl) ?_
  refine AL_p (x_index (E := 84) (n := 3) rfl rfl rfl (by kernel_rfl) rfl (k := k) rfl (by omega)) ?_
  refine AL_p (x_efield (off := 0) (o' := 0) rfl rfl (by kernel_rfl) rfl) ?_
  refine AL_p (x_eload1 rfl rfl (by kernel_rfl) rfl) ?_
  refine AL_p (x_move rfl rfl) ?_
  refine AL_b (x_sneq rfl rfl rfl) (fun b45 h45 => ?_)
  refine AL_nil ?_
  cases b45
  · try simp only [tdy] at h45
    have hs2 := setTo_next (nw := (⟨nm, r⟩ : Namedt)) (k := k) (by omega) h900 h27 (show (!((rels[k]'(by omega)).name == nm)) = false by rw [h45]; rfl)
    refine AW_condF rfl ?_
    refine AW_skip ?_
    refine AW_region ?_
    refine AL_p (x_add rfl rfl rfl (IntWalk.i64_in _ (by omega))) ?_
    refine AL_p (x_move rfl rfl) ?_
    refine AL_nil ?_
    refine ⟨⟨⟨k + 1, true⟩, ⟨by omega, congrArg Prod.fst hs2⟩⟩, rn [(104, 110)], ?_, by dsimp only; omega⟩
    exact ⟨by (repeat refine ⟨⟨_, rfl, by first | exact VLe.rf | exact vle_int (by dsimp only; omega)⟩, ?_⟩); exact trivial, by (repeat refine ⟨⟨_, rfl, by first | exact BLe.rf | exact BLe.box AllC.rf | exact BLe.arr (by first | rfl | exact (congrArg Prod.snd hs2).symm)⟩, ?_⟩); exact trivial, by repeat (first | exact trivial | refine ⟨⟨rfl, by first | (left; intro h; cases h) | (right; rfl), by first | exact (fun _ h => ⟨_, h⟩) | exact (fun _ _ => ⟨_, rfl⟩)⟩, ?_⟩), rfl⟩
  try simp only [tdy] at h45
  have hs2 := setTo_next (nw := (⟨nm, r⟩ : Namedt)) (k := k) (by omega) h900 h27 (show (!((rels[k]'(by omega)).name == nm)) = true by rw [h45]; rfl)
  refine AW_condT rfl ?_
  refine AW_draw rfl ?_
  refine AL_p (x_field (off := 0) (o' := 0) rfl rfl rfl (by kernel_rfl) rfl) ?_
  refine AL_p (x_load1 rfl rfl rfl (by kernel_rfl) rfl) ?_
  refine AL_p (x_field (off := 0) (o' := 0) rfl rfl rfl (by kernel_rfl) rfl) ?_
  refine AL_p (x_load1 rfl rfl rfl (by kernel_rfl) rfl) ?_
  refine AL_p (x_move rfl rfl) ?_
  refine AL_p (x_index (E := 84) (n := 3) rfl rfl rfl (by kernel_rfl) rfl (k := k) rfl (by omega)) ?_
  refine AL_p (x_efield (off := 0) (o' := 0) rfl rfl (by kernel_rfl) rfl) ?_
  refine AL_p (x_eload1 rfl rfl (by kernel_rfl) rfl) ?_
  refine AL_p (x_field (off := 0) (o' := 0) rfl rfl rfl (by kernel_rfl) rfl) ?_
  refine AL_p (x_load1 rfl rfl rfl (by kernel_rfl) rfl) ?_
  refine AL_p (x_move rfl rfl) ?_
  refine AL_p (x_index (E := 84) (n := 3) rfl rfl rfl (by kernel_rfl) rfl (k := k) rfl (by omega)) ?_
  refine AL_p (x_efield (off := 1) (o' := 1) rfl rfl (by kernel_rfl) rfl) ?_
  refine AL_p (x_eloadN (n := 2) rfl rfl (by kernel_rfl) rfl rfl) ?_
  refine AL_p (x_call1 rfl rfl rfl (copyS_c (rels[k]'(by omega)).rel (hm _ (List.getElem_mem _)).2 105) rfl rfl rfl rfl) ?_
  refine AL_p (x_build (zs := [.string ⟨#[]⟩, .int .i64 0, .slice none 0 0]) (places := [(0, 1), (1, 2)]) rfl (by kernel_rfl) rfl rfl rfl rfl rfl) ?_
  refine AL_p (y_bslice (E := 84) (e := namedE) [.tmp 61] ([(rels[k]'(by omega))]) 106 rfl rfl rfl rfl rfl rfl rfl rfl FitL.rf rfl rfl rfl rfl rfl rfl (by kernel_rfl)) ?_
  refine AL_p (y_append 107 rfl rfl rfl rfl rfl rfl rfl rfl (by kernel_rfl) (by have := setTo_len2 (rels := rels) (nw := (⟨nm, r⟩ : Namedt)) k; simp only [List.length_append, List.length_cons, List.length_nil]; omega)) ?_
  refine AL_p (x_field (off := 0) (o' := 0) rfl rfl rfl (by kernel_rfl) rfl) ?_
  refine AL_p (x_store (n := 1) rfl rfl rfl rfl (by kernel_rfl) rfl rfl rfl) ?_
  refine AL_nild (by kernel_rfl) ?_
  refine AW_region ?_
  refine AL_p (x_add rfl rfl rfl (IntWalk.i64_in _ (by omega))) ?_
  refine AL_p (x_move rfl rfl) ?_
  refine AL_nil ?_
  refine ⟨⟨⟨k + 1, true⟩, ⟨by omega, congrArg Prod.fst hs2⟩⟩, rn [(104, 107)], ?_, by dsimp only; omega⟩
  exact ⟨by (repeat refine ⟨⟨_, rfl, by first | exact VLe.rf | exact vle_int (by dsimp only; omega)⟩, ?_⟩); exact trivial, by (repeat refine ⟨⟨_, rfl, by first | exact BLe.rf | exact BLe.box AllC.rf | exact BLe.arr (by first | rfl | exact (congrArg Prod.snd hs2).symm)⟩, ?_⟩); exact trivial, by repeat (first | exact trivial | refine ⟨⟨rfl, by first | (left; intro h; cases h) | (right; rfl), by first | exact (fun _ h => ⟨_, h⟩) | exact (fun _ _ => ⟨_, rfl⟩)⟩, ?_⟩), rfl⟩
theorem l12Set_c (rels : List Namedt) (nm : ByteArray) (r : Relt) (hs : rels.length ≤ 1048575) (hm : ∀ y ∈ rels, smallNamed y) (hr : smallRel r) (k : Nat) : AC Tryz.prog 35 [.agg [.sl namedE rels], .one (.c (.string nm)), .agg (relC r)] [] (.agg [.own k]) [(k, some (.arr 84 namedE (setRel rels (⟨nm, r⟩ : Namedt)) true))] := AC.at (l12Set_c0 rels nm r hs hm hr) k

set_option maxHeartbeats 4000000 in
theorem copySt_c0 (rels : List Namedt) (hs : rels.length ≤ 1048576) (hm : ∀ y ∈ rels, smallNamed y) : AC Tryz.prog 31 [.agg [.sl namedE rels]] [] (.agg [.own 0]) [(0, some (.arr 84 namedE rels true))] := by
  refine AC_bodyC (n := 1) (k := 9) (T := [(2, .one (.ptr 9 0))]) (Lf := ((9, some (.box [.own 0])) :: [(0, some (.arr 84 namedE rels true))])) Tryz.func31 rfl rfl Tryz.ntmps31 rfl Tryz.results31 rfl rfl (by kernel_rfl) rfl rfl ⟨trivial, (by repeat (first | exact trivial | refine ⟨⟨_, rfl, BLe.rf⟩, ?_⟩)), (by repeat (first | exact trivial | refine ⟨⟨rfl, by first | (left; intro h; cases h) | (right; rfl), by first | exact (fun _ h => ⟨_, h⟩) | exact (fun _ _ => ⟨_, rfl⟩)⟩, ?_⟩)), rfl⟩ ?_
  refine AW_seq ?_
  refine AW_region ?_
  refine AL_p (x_box 100 rfl rfl rfl rfl rfl rfl rfl) ?_
  refine AL_p (x_alloc (z := .agg #[.slice none 0 0]) 101 rfl (by kernel_rfl) rfl rfl rfl rfl) ?_
  refine AL_nil ?_
  refine AW_seq ?_
  refine AW_region ?_
  refine AL_p (x_build (zs := [.slice none 0 0]) (places := [(0, 1)]) rfl (by kernel_rfl) rfl rfl rfl rfl rfl) ?_
  refine AL_p (x_alloc (z := .agg #[.slice none 0 0]) 102 rfl (by kernel_rfl) rfl rfl rfl rfl) ?_
  refine AL_p (x_store (n := 1) rfl rfl rfl rfl (by kernel_rfl) rfl rfl rfl) ?_
  refine AL_nil ?_
  refine AW_seq ?_
  refine AW_seq ?_
  refine AW_region ?_
  refine AL_p (x_field (off := 0) (o' := 0) rfl rfl rfl (by kernel_rfl) rfl) ?_
  refine AL_p (x_load1 rfl rfl rfl (by kernel_rfl) rfl) ?_
  refine AL_p (x_len (E := 84) (n := 3) rfl rfl (by kernel_rfl)) ?_
  refine AL_p (x_move rfl rfl) ?_
  refine AL_nil ?_
  refine AW_block ?_
  refine AW_adopt (T := 84) (e := namedE) 103 102 0 rfl rfl rfl rfl rfl ?_
  refine AW_loop2 (ι := {q : Nat // q ≤ rels.length}) (fun p => [(9, .one (.c (.int .i64 ((p.1) : Int))))]) (fun p => [(103, some (.arr 84 namedE (rels.take (p.1)) true))]) [1, 2, 3, 8] [100, 101, 102] (fun p => rels.length - (p.1)) ⟨0, by omega⟩ (rn []) ?_ ?_
  exact ⟨by (repeat refine ⟨⟨_, rfl, by first | exact VLe.rf | exact vle_int (by dsimp only; omega)⟩, ?_⟩); exact trivial, by (repeat refine ⟨⟨_, rfl, by first | exact BLe.rf | exact BLe.box AllC.rf | exact BLe.arr (by first | exact take_none | exact take_more (by omega))⟩, ?_⟩); exact trivial, by repeat (first | exact trivial | refine ⟨⟨rfl, by first | (left; intro h; cases h) | (right; rfl), by first | exact (fun _ h => ⟨_, h⟩) | exact (fun _ _ => ⟨_, rfl⟩)⟩, ?_⟩), rfl⟩
  rintro ⟨k, hinv⟩
  dsimp only
  have hk := hinv
  refine AW_seq ?_
  refine AW_region ?_
  refine AL_b (x_lss rfl rfl rfl) (fun b10 h10 => ?_)
  refine AL_nil ?_
  refine AW_seq ?_
  cases b10
  · try simp only [tdy] at h10
    refine AW_condF rfl ?_
    refine AW_exit (BQ_hit ?_)
    refine AW_seq ?_
    refine AW_region ?_
    refine AL_p (x_loadN (n := 1) rfl rfl rfl (by kernel_rfl) rfl rfl) ?_
    refine AL_p (x_store (n := 1) rfl rfl rfl rfl (by kernel_rfl) rfl rfl rfl) ?_
    refine AL_nil ?_
    refine AW_ret ?_
    exact ⟨rn [(9, 101), (0, 103)], ⟨⟨⟨_, rfl, VLe.rf⟩, trivial⟩, ⟨⟨_, rfl, by first | exact BLe.rf | (subst_vars; exact BLe.rf)⟩, ⟨_, rfl, BLe.arr (List.take_of_length_le (by omega))⟩, trivial⟩, trivial, rfl⟩⟩
  try simp only [tdy] at h10
  refine AW_condT rfl ?_
  refine AW_skip ?_
  refine AW_seq ?_
  refine AW_block ?_
  refine AW_seq ?_
  refine AW_region ?_
  refine AL_p (x_move rfl rfl) ?_
  refine AL_p (x_assign rfl rfl) ?_
  refine AL_nil ?_
  refine AW_draw rfl ?_
  refine AL_p (x_field (off := 0) (o' := 0) rfl rfl rfl (by kernel_rfl) rfl) ?_
  refine AL_p (x_load1 rfl rfl rfl (by kernel_rfl) rfl) ?_
  refine AL_p (x_field (off := 0) (o' := 0) rfl rfl rfl (by kernel_rfl) rfl) ?_
  refine AL_p (x_load1 rfl rfl rfl (by kernel_rfl) rfl) ?_
  refine AL_p (x_move rfl rfl) ?_
  refine AL_p (x_index (E := 84) (n := 3) rfl rfl rfl (by kernel_rfl) rfl (k := k) rfl (by omega)) ?_
  refine AL_p (x_efield (off := 0) (o' := 0) rfl rfl (by kernel_rfl) rfl) ?_
  refine AL_p (x_eload1 rfl rfl (by kernel_rfl) rfl) ?_
  refine AL_p (x_field (off := 0) (o' := 0) rfl rfl rfl (by kernel_rfl) rfl) ?_
  refine AL_p (x_load1 rfl rfl rfl (by kernel_rfl) rfl) ?_
  refine AL_p (x_move rfl rfl) ?_
  refine AL_p (x_index (E := 84) (n := 3) rfl rfl rfl (by kernel_rfl) rfl (k := k) rfl (by omega)) ?_
  refine AL_p (x_efield (off := 1) (o' := 1) rfl rfl (by kernel_rfl) rfl) ?_
  refine AL_p (x_eloadN (n := 2) rfl rfl (by kernel_rfl) rfl rfl) ?_
  refine AL_p (x_call1 rfl rfl rfl (copyS_c (rels[k]'(by omega)).rel (hm _ (List.getElem_mem _)).2 104) rfl rfl rfl rfl) ?_
  refine AL_p (x_build (zs := [.string ⟨#[]⟩, .int .i64 0, .slice none 0 0]) (places := [(0, 1), (1, 2)]) rfl (by kernel_rfl) rfl rfl rfl rfl rfl) ?_
  refine AL_p (y_bslice (E := 84) (e := namedE) [.tmp 27] ([(rels[k]'(by omega))]) 105 rfl rfl rfl rfl rfl rfl rfl rfl FitL.rf rfl rfl rfl rfl rfl rfl (by kernel_rfl)) ?_
  refine AL_p (y_append 106 rfl rfl rfl rfl rfl rfl rfl rfl (by kernel_rfl) (by simp only [List.length_take, List.length_cons, List.length_nil]; omega)) ?_
  refine AL_p (x_field (off := 0) (o' := 0) rfl rfl rfl (by kernel_rfl) rfl) ?_
  refine AL_p (x_store (n := 1) rfl rfl rfl rfl (by kernel_rfl) rfl rfl rfl) ?_
  refine AL_nild (by kernel_rfl) ?_
  refine AW_region ?_
  refine AL_p (x_add rfl rfl rfl (IntWalk.i64_in _ (by omega))) ?_
  refine AL_p (x_move rfl rfl) ?_
  refine AL_nil ?_
  refine ⟨⟨k + 1, by omega⟩, rn [(103, 106)], ?_, by dsimp only; omega⟩
  exact ⟨by (repeat refine ⟨⟨_, rfl, by first | exact VLe.rf | exact vle_int (by dsimp only; omega)⟩, ?_⟩); exact trivial, by (repeat refine ⟨⟨_, rfl, by first | exact BLe.rf | exact BLe.box AllC.rf | exact BLe.arr (by first | exact take_none | exact take_more (by omega))⟩, ?_⟩); exact trivial, by repeat (first | exact trivial | refine ⟨⟨rfl, by first | (left; intro h; cases h) | (right; rfl), by first | exact (fun _ h => ⟨_, h⟩) | exact (fun _ _ => ⟨_, rfl⟩)⟩, ?_⟩), rfl⟩
theorem copySt_c (rels : List Namedt) (hs : rels.length ≤ 1048576) (hm : ∀ y ∈ rels, smallNamed y) (k : Nat) : AC Tryz.prog 31 [.agg [.sl namedE rels]] [] (.agg [.own k]) [(k, some (.arr 84 namedE rels true))] := AC.at (copySt_c0 rels hs hm) k
end Go.Proofs.YtibhoanjglfaoaaGreat

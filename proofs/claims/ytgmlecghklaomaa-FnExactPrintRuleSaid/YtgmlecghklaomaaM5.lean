/- Lemmas of the walks, part 5. -/
import Derived.Test.YtgmlecghklaomaaM4
/- Texts of rules (printed by walk.py) -/
namespace Go.Proofs.Ytgmlecghklaomaa
open Go.RowKit
set_option linter.unusedVariables false
set_option linter.unusedSimpArgs false
set_option maxRecDepth 100000

set_option maxHeartbeats 4000000 in
theorem termTextI_c (t : Termt) : AC Try.prog 88 [.agg (termC t)] [] (.one (.c (.string (termText t)))) [] := by
  refine AC_body1 Try.func88 rfl rfl Try.ntmps88 rfl Try.results88 ?_
  refine AW_seq ?_
  refine AW_region ?_
  refine AL_p (x_box 100 rfl rfl rfl rfl rfl rfl rfl) ?_
  refine AL_p (x_assign rfl rfl) ?_
  refine AL_nil ?_
  refine AW_seq ?_
  refine AW_seq ?_
  refine AW_region ?_
  refine AL_p (x_field (off := 0) (o' := 0) rfl rfl rfl (by kernel_rfl) rfl) ?_
  refine AL_p (x_load1 rfl rfl rfl (by kernel_rfl) rfl) ?_
  refine AL_b (x_sneq rfl rfl rfl) (fun b5 h5 => ?_)
  refine AL_nil ?_
  cases b5
  rotate_left
  · try simp only [decide_eq_true_eq, decide_eq_false_iff_not, Bool.not_eq_true, Bool.not_eq_false, Bool.not_eq_true', Bool.not_eq_false', beq_iff_eq, bne_iff_ne, beq_eq_false_iff_ne, bne_eq_false_iff_eq, Int.not_lt, Int.not_le, ge_iff_le, gt_iff_lt] at h5
    refine AW_condT rfl ?_
    refine AW_seq ?_
    refine AW_region ?_
    refine AL_p (x_field (off := 0) (o' := 0) rfl rfl rfl (by kernel_rfl) rfl) ?_
    refine AL_p (x_load1 rfl rfl rfl (by kernel_rfl) rfl) ?_
    refine AL_p (x_assign rfl rfl) ?_
    refine AL_nil ?_
    refine AW_ret ?_
    exact ⟨rn [], ⟨⟨⟨_, rfl, vle_str (by simp [termText, *])⟩, trivial⟩, trivial, trivial, rfl⟩⟩
  · try simp only [decide_eq_true_eq, decide_eq_false_iff_not, Bool.not_eq_true, Bool.not_eq_false, Bool.not_eq_true', Bool.not_eq_false', beq_iff_eq, bne_iff_ne, beq_eq_false_iff_ne, bne_eq_false_iff_eq, Int.not_lt, Int.not_le, ge_iff_le, gt_iff_lt] at h5
    refine AW_condF rfl ?_
    refine AW_skip ?_
    refine AW_seq ?_
    refine AW_region ?_
    refine AL_p (x_field (off := 1) (o' := 1) rfl rfl rfl (by kernel_rfl) rfl) ?_
    refine AL_p (x_loadN (n := 2) rfl rfl rfl (by kernel_rfl) rfl rfl) ?_
    refine AL_p (x_call0 rfl rfl rfl (valueTextI_c _) rfl rfl) ?_
    refine AL_p (x_assign rfl rfl) ?_
    refine AL_nil ?_
    refine AW_ret ?_
    exact ⟨rn [], ⟨⟨⟨_, rfl, vle_str (by simp [termText, *])⟩, trivial⟩, trivial, trivial, rfl⟩⟩

set_option maxHeartbeats 4000000 in
theorem termTextS_c (t : Termt) : AC Try.prog 85 [.agg (termC t)] [] (.one (.c (.string (termText t)))) [] := by
  refine AC_body1 Try.func85 rfl rfl Try.ntmps85 rfl Try.results85 ?_
  refine AW_seq ?_
  refine AW_region ?_
  refine AL_p (x_box 100 rfl rfl rfl rfl rfl rfl rfl) ?_
  refine AL_p (x_assign rfl rfl) ?_
  refine AL_nil ?_
  refine AW_seq ?_
  refine AW_seq ?_
  refine AW_region ?_
  refine AL_p (x_field (off := 0) (o' := 0) rfl rfl rfl (by kernel_rfl) rfl) ?_
  refine AL_p (x_load1 rfl rfl rfl (by kernel_rfl) rfl) ?_
  refine AL_b (x_sneq rfl rfl rfl) (fun b5 h5 => ?_)
  refine AL_nil ?_
  cases b5
  rotate_left
  · try simp only [decide_eq_true_eq, decide_eq_false_iff_not, Bool.not_eq_true, Bool.not_eq_false, Bool.not_eq_true', Bool.not_eq_false', beq_iff_eq, bne_iff_ne, beq_eq_false_iff_ne, bne_eq_false_iff_eq, Int.not_lt, Int.not_le, ge_iff_le, gt_iff_lt] at h5
    refine AW_condT rfl ?_
    refine AW_seq ?_
    refine AW_region ?_
    refine AL_p (x_field (off := 0) (o' := 0) rfl rfl rfl (by kernel_rfl) rfl) ?_
    refine AL_p (x_load1 rfl rfl rfl (by kernel_rfl) rfl) ?_
    refine AL_p (x_assign rfl rfl) ?_
    refine AL_nil ?_
    refine AW_ret ?_
    exact ⟨rn [], ⟨⟨⟨_, rfl, vle_str (by simp [termText, *])⟩, trivial⟩, trivial, trivial, rfl⟩⟩
  · try simp only [decide_eq_true_eq, decide_eq_false_iff_not, Bool.not_eq_true, Bool.not_eq_false, Bool.not_eq_true', Bool.not_eq_false', beq_iff_eq, bne_iff_ne, beq_eq_false_iff_ne, bne_eq_false_iff_eq, Int.not_lt, Int.not_le, ge_iff_le, gt_iff_lt] at h5
    refine AW_condF rfl ?_
    refine AW_skip ?_
    refine AW_seq ?_
    refine AW_region ?_
    refine AL_p (x_field (off := 1) (o' := 1) rfl rfl rfl (by kernel_rfl) rfl) ?_
    refine AL_p (x_loadN (n := 2) rfl rfl rfl (by kernel_rfl) rfl rfl) ?_
    refine AL_p (x_call0 rfl rfl rfl (valueTextS_c _) rfl rfl) ?_
    refine AL_p (x_assign rfl rfl) ?_
    refine AL_nil ?_
    refine AW_ret ?_
    exact ⟨rn [], ⟨⟨⟨_, rfl, vle_str (by simp [termText, *])⟩, trivial⟩, trivial, trivial, rfl⟩⟩

set_option maxHeartbeats 4000000 in
theorem printAtomI_c (a : Atomt) : AC Try.prog 34 [.agg (atomC a)] [] (.one (.c (.string (atomText a)))) [] := by
  refine AC_body1 Try.func34 rfl rfl Try.ntmps34 rfl Try.results34 ?_
  refine AW_aggmax 0 1 rfl rfl (fun hm0_1 => ?_)
  refine AW_seq ?_
  refine AW_region ?_
  refine AL_p (x_box 100 rfl rfl rfl rfl rfl rfl rfl) ?_
  refine AL_p (x_assign rfl rfl) ?_
  refine AL_nil ?_
  refine AW_seq ?_
  refine AW_seq ?_
  refine AW_region ?_
  refine AL_p (x_loadN (n := 2) rfl rfl rfl (by kernel_rfl) rfl rfl) ?_
  refine AL_b (x_call0 rfl rfl rfl (atomI_c a) rfl rfl) (fun b7 h7 => ?_)
  refine AL_p (x_not rfl rfl) ?_
  refine AL_nil ?_
  cases b7
  rotate_left
  · try simp only [decide_eq_true_eq, decide_eq_false_iff_not, Bool.not_eq_true, Bool.not_eq_false, Bool.not_eq_true', Bool.not_eq_false', beq_iff_eq, bne_iff_ne, beq_eq_false_iff_ne, bne_eq_false_iff_eq, Int.not_lt, Int.not_le, ge_iff_le, gt_iff_lt] at h7
    have hat := h7
    refine AW_condF rfl ?_
    refine AW_skip ?_
    refine AW_seq ?_
    refine AW_region ?_
    refine AL_p (y_bslice0 (E := 9) (e := strE) 101 rfl rfl rfl (by kernel_rfl)) ?_
    refine AL_p (x_assign rfl rfl) ?_
    refine AL_nil ?_
    refine AW_seq ?_
    refine AW_seq ?_
    refine AW_region ?_
    refine AL_p (x_field (off := 1) (o' := 1) rfl rfl rfl (by kernel_rfl) rfl) ?_
    refine AL_p (x_load1 rfl rfl rfl (by kernel_rfl) rfl) ?_
    refine AL_p (x_len (E := 142) (n := 3) rfl rfl (by kernel_rfl)) ?_
    refine AL_p (x_move rfl rfl) ?_
    refine AL_nil ?_
    refine AW_block ?_
    refine AW_loop2 (ι := {q : Nat // q ≤ a.args.length}) (fun p => [(3, .one (.own 101)), (13, .one (.c (.int .i64 ((p.1) : Int))))]) (fun p => [(101, some (.arr 9 strE (mapTo termText a.args (p.1)) true))]) [1, 11, 12] [100] (fun p => a.args.length - (p.1)) ⟨0, by omega⟩ (rn []) ?_ ?_
    exact ⟨by (repeat refine ⟨⟨_, rfl, by first | exact VLe.rf | exact vle_int (by dsimp only; omega)⟩, ?_⟩); exact trivial, by (repeat refine ⟨⟨_, rfl, by first | exact BLe.rf | exact BLe.box AllC.rf | exact BLe.arr (by first | exact mapTo_zero | exact mapTo_more (by omega))⟩, ?_⟩); exact trivial, by repeat (first | exact trivial | refine ⟨⟨rfl, by first | (left; intro h; cases h) | (right; rfl), fun _ h => ⟨_, h⟩⟩, ?_⟩), rfl⟩
    rintro ⟨k, hinv⟩
    dsimp only
    have hk := hinv
    refine AW_seq ?_
    refine AW_region ?_
    refine AL_b (x_lss rfl rfl rfl) (fun b14 h14 => ?_)
    refine AL_nil ?_
    refine AW_seq ?_
    cases b14
    rotate_left
    · try simp only [decide_eq_true_eq, decide_eq_false_iff_not, Bool.not_eq_true, Bool.not_eq_false, Bool.not_eq_true', Bool.not_eq_false', beq_iff_eq, bne_iff_ne, beq_eq_false_iff_ne, bne_eq_false_iff_eq, Int.not_lt, Int.not_le, ge_iff_le, gt_iff_lt] at h14
      refine AW_condT rfl ?_
      refine AW_skip ?_
      refine AW_seq ?_
      refine AW_block ?_
      refine AW_seq ?_
      refine AW_region ?_
      refine AL_p (x_index (E := 142) (n := 3) rfl rfl rfl (by kernel_rfl) rfl (k := k) (by omega) (by omega)) ?_
      refine AL_p (x_eloadW (n := 3) rfl rfl (by kernel_rfl) rfl) ?_
      refine AL_p (x_alloc (z := .agg #[.string ⟨#[]⟩, .int .i64 0, .string ⟨#[]⟩]) 102 rfl (by kernel_rfl) rfl rfl rfl rfl) ?_
      refine AL_p (x_store (n := 3) rfl rfl rfl rfl (by kernel_rfl) rfl rfl rfl) ?_
      refine AL_nil ?_
      refine AW_region ?_
      refine AL_p (x_move rfl rfl) ?_
      refine AL_p (x_loadN (n := 3) rfl rfl rfl (by kernel_rfl) rfl rfl) ?_
      refine AL_p (x_call0 rfl rfl rfl (termTextI_c (a.args[k]'(by omega))) rfl rfl) ?_
      refine AL_p (y_bslice (E := 9) (e := strE) [.tmp 19] ([termText (a.args[k]'(by omega))]) 103 rfl rfl rfl rfl rfl rfl rfl rfl FitL.rf rfl rfl rfl rfl rfl rfl (by kernel_rfl)) ?_
      refine AL_p (y_append 104 rfl rfl rfl rfl rfl rfl rfl rfl (by kernel_rfl) (by have := mapTo_len (f := termText) (xs := a.args) (k := k); have := atomB_args hat; simp only [List.length_cons, List.length_nil]; omega)) ?_
      refine AL_p (x_assign rfl rfl) ?_
      refine AL_nil ?_
      refine AW_region ?_
      refine AL_p (x_add rfl rfl rfl (IntWalk.i64_in _ (by omega))) ?_
      refine AL_p (x_move rfl rfl) ?_
      refine AL_nil ?_
      refine ⟨⟨k + 1, by omega⟩, rn [(101, 104)], ?_, by dsimp only; omega⟩
      exact ⟨by (repeat refine ⟨⟨_, rfl, by first | exact VLe.rf | exact vle_int (by dsimp only; omega)⟩, ?_⟩); exact trivial, by (repeat refine ⟨⟨_, rfl, by first | exact BLe.rf | exact BLe.box AllC.rf | exact BLe.arr (by first | exact mapTo_zero | exact mapTo_more (by omega))⟩, ?_⟩); exact trivial, by repeat (first | exact trivial | refine ⟨⟨rfl, by first | (left; intro h; cases h) | (right; rfl), fun _ h => ⟨_, h⟩⟩, ?_⟩), rfl⟩
    · try simp only [decide_eq_true_eq, decide_eq_false_iff_not, Bool.not_eq_true, Bool.not_eq_false, Bool.not_eq_true', Bool.not_eq_false', beq_iff_eq, bne_iff_ne, beq_eq_false_iff_ne, bne_eq_false_iff_eq, Int.not_lt, Int.not_le, ge_iff_le, gt_iff_lt] at h14
      refine AW_condF rfl ?_
      refine AW_exit (BQ_hit ?_)
      refine AW_seq ?_
      refine AW_draw rfl ?_
      refine AL_p (x_field (off := 0) (o' := 0) rfl rfl rfl (by kernel_rfl) rfl) ?_
      refine AL_p (x_load1 rfl rfl rfl (by kernel_rfl) rfl) ?_
      refine AL_p (x_sadd rfl rfl rfl (by have := atomB_args hat; have : (⟨#[40]⟩ : ByteArray).size = 1 := rfl; have : (⟨#[41]⟩ : ByteArray).size = 1 := rfl; have : (⟨#[44, 32]⟩ : ByteArray).size = 2 := rfl; have : (⟨#[32]⟩ : ByteArray).size = 1 := rfl; have : (⟨#[46]⟩ : ByteArray).size = 1 := rfl; have : (⟨#[110, 111, 116, 32]⟩ : ByteArray).size = 4 := rfl; have : (⟨#[32, 58, 45, 32]⟩ : ByteArray).size = 4 := rfl; omega)) ?_
      refine AL_p (x_move rfl rfl) ?_
      refine AL_p (x_callR rfl rfl rfl (join_c (mapTo termText a.args k) comma (by have := mapTo_len (f := termText) (xs := a.args) (k := k); have := atomB_args hat; omega) (by have := args_le hat k; unfold joinTo at this; unfold mapTo; omega)) rfl AllV.rf rfl rfl rfl rfl rfl) ?_
      refine AL_p (x_sadd rfl rfl rfl (by have := atomB_args hat; have : (joinB (mapTo termText a.args k) comma).size ≤ 102 := args_le hat k; (try simp only [size_app]); have : (⟨#[40]⟩ : ByteArray).size = 1 := rfl; have : (⟨#[41]⟩ : ByteArray).size = 1 := rfl; have : (⟨#[44, 32]⟩ : ByteArray).size = 2 := rfl; have : (⟨#[32]⟩ : ByteArray).size = 1 := rfl; have : (⟨#[46]⟩ : ByteArray).size = 1 := rfl; have : (⟨#[110, 111, 116, 32]⟩ : ByteArray).size = 4 := rfl; have : (⟨#[32, 58, 45, 32]⟩ : ByteArray).size = 4 := rfl; omega)) ?_
      refine AL_p (x_sadd rfl rfl rfl (by have := atomB_args hat; have : (joinB (mapTo termText a.args k) comma).size ≤ 102 := args_le hat k; (try simp only [size_app]); have : (⟨#[40]⟩ : ByteArray).size = 1 := rfl; have : (⟨#[41]⟩ : ByteArray).size = 1 := rfl; have : (⟨#[44, 32]⟩ : ByteArray).size = 2 := rfl; have : (⟨#[32]⟩ : ByteArray).size = 1 := rfl; have : (⟨#[46]⟩ : ByteArray).size = 1 := rfl; have : (⟨#[110, 111, 116, 32]⟩ : ByteArray).size = 4 := rfl; have : (⟨#[32, 58, 45, 32]⟩ : ByteArray).size = 4 := rfl; omega)) ?_
      refine AL_p (x_assign rfl rfl) ?_
      refine AL_nild (by kernel_rfl) ?_
      refine AW_ret ?_
      exact ⟨rn [], ⟨⟨⟨_, rfl, vle_str (by first | exact (atomText_no h7).symm | (rw [atomText_ok hat, mapTo_all (by omega)]; try rfl))⟩, trivial⟩, trivial, trivial, rfl⟩⟩
  · try simp only [decide_eq_true_eq, decide_eq_false_iff_not, Bool.not_eq_true, Bool.not_eq_false, Bool.not_eq_true', Bool.not_eq_false', beq_iff_eq, bne_iff_ne, beq_eq_false_iff_ne, bne_eq_false_iff_eq, Int.not_lt, Int.not_le, ge_iff_le, gt_iff_lt] at h7
    refine AW_condT rfl ?_
    refine AW_seq ?_
    refine AW_region ?_
    refine AL_p (x_assign rfl rfl) ?_
    refine AL_nil ?_
    refine AW_ret ?_
    exact ⟨rn [], ⟨⟨⟨_, rfl, vle_str (by first | exact (atomText_no h7).symm | (rw [atomText_ok hat, mapTo_all (by omega)]; try rfl))⟩, trivial⟩, trivial, trivial, rfl⟩⟩

set_option maxHeartbeats 4000000 in
theorem printAtomS_c (a : Atomt) : AC Try.prog 32 [.agg (atomC a)] [] (.one (.c (.string (atomText a)))) [] := by
  refine AC_body1 Try.func32 rfl rfl Try.ntmps32 rfl Try.results32 ?_
  refine AW_aggmax 0 1 rfl rfl (fun hm0_1 => ?_)
  refine AW_seq ?_
  refine AW_region ?_
  refine AL_p (x_box 100 rfl rfl rfl rfl rfl rfl rfl) ?_
  refine AL_p (x_assign rfl rfl) ?_
  refine AL_nil ?_
  refine AW_seq ?_
  refine AW_seq ?_
  refine AW_region ?_
  refine AL_p (x_loadN (n := 2) rfl rfl rfl (by kernel_rfl) rfl rfl) ?_
  refine AL_b (x_call0 rfl rfl rfl (atomS_c a) rfl rfl) (fun b7 h7 => ?_)
  refine AL_p (x_not rfl rfl) ?_
  refine AL_nil ?_
  cases b7
  rotate_left
  · try simp only [decide_eq_true_eq, decide_eq_false_iff_not, Bool.not_eq_true, Bool.not_eq_false, Bool.not_eq_true', Bool.not_eq_false', beq_iff_eq, bne_iff_ne, beq_eq_false_iff_ne, bne_eq_false_iff_eq, Int.not_lt, Int.not_le, ge_iff_le, gt_iff_lt] at h7
    have hat := h7
    refine AW_condF rfl ?_
    refine AW_skip ?_
    refine AW_seq ?_
    refine AW_region ?_
    refine AL_p (x_field (off := 0) (o' := 0) rfl rfl rfl (by kernel_rfl) rfl) ?_
    refine AL_p (x_load1 rfl rfl rfl (by kernel_rfl) rfl) ?_
    refine AL_p (x_sadd rfl rfl rfl (by have := atomB_args hat; have : (⟨#[40]⟩ : ByteArray).size = 1 := rfl; have : (⟨#[41]⟩ : ByteArray).size = 1 := rfl; have : (⟨#[44, 32]⟩ : ByteArray).size = 2 := rfl; have : (⟨#[32]⟩ : ByteArray).size = 1 := rfl; have : (⟨#[46]⟩ : ByteArray).size = 1 := rfl; have : (⟨#[110, 111, 116, 32]⟩ : ByteArray).size = 4 := rfl; have : (⟨#[32, 58, 45, 32]⟩ : ByteArray).size = 4 := rfl; omega)) ?_
    refine AL_p (x_assign rfl rfl) ?_
    refine AL_nil ?_
    refine AW_seq ?_
    refine AW_seq ?_
    refine AW_region ?_
    refine AL_p (x_field (off := 1) (o' := 1) rfl rfl rfl (by kernel_rfl) rfl) ?_
    refine AL_p (x_load1 rfl rfl rfl (by kernel_rfl) rfl) ?_
    refine AL_p (x_len (E := 142) (n := 3) rfl rfl (by kernel_rfl)) ?_
    refine AL_p (x_move rfl rfl) ?_
    refine AL_nil ?_
    refine AW_block ?_
    refine AW_loop2 (ι := {q : Nat // q ≤ a.args.length}) (fun p => [(3, .one (.c (.string (a.name ++ ⟨#[40]⟩ ++ joinTo termText a.args (p.1))))), (15, .one (.c (.int .i64 ((p.1) : Int))))]) (fun p => []) [13, 14] [100] (fun p => a.args.length - (p.1)) ⟨0, by omega⟩ (rn []) ?_ ?_
    exact ⟨by (repeat refine ⟨⟨_, rfl, by first | exact VLe.rf | exact vle_int (by dsimp only; omega) | exact vle_str (by first | (rw [joinTo_zero, app_nil]; done) | (rw [hj]; simp only [ByteArray.append_assoc, comma]; done) | (rw [hj, hz]; simp only [app_nil]; done))⟩, ?_⟩); exact trivial, by (repeat refine ⟨⟨_, rfl, by first | exact BLe.rf | exact BLe.box AllC.rf | exact BLe.arr (by exact rfl)⟩, ?_⟩); exact trivial, by repeat (first | exact trivial | refine ⟨⟨rfl, by first | (left; intro h; cases h) | (right; rfl), fun _ h => ⟨_, h⟩⟩, ?_⟩), rfl⟩
    rintro ⟨k, hinv⟩
    dsimp only
    have hk := hinv
    refine AW_seq ?_
    refine AW_region ?_
    refine AL_b (x_lss rfl rfl rfl) (fun b16 h16 => ?_)
    refine AL_nil ?_
    refine AW_seq ?_
    cases b16
    rotate_left
    · try simp only [decide_eq_true_eq, decide_eq_false_iff_not, Bool.not_eq_true, Bool.not_eq_false, Bool.not_eq_true', Bool.not_eq_false', beq_iff_eq, bne_iff_ne, beq_eq_false_iff_ne, bne_eq_false_iff_eq, Int.not_lt, Int.not_le, ge_iff_le, gt_iff_lt] at h16
      refine AW_condT rfl ?_
      refine AW_skip ?_
      refine AW_seq ?_
      refine AW_block ?_
      refine AW_seq ?_
      refine AW_region ?_
      refine AL_p (x_move rfl rfl) ?_
      refine AL_p (x_index (E := 142) (n := 3) rfl rfl rfl (by kernel_rfl) rfl (k := k) (by omega) (by omega)) ?_
      refine AL_p (x_eloadW (n := 3) rfl rfl (by kernel_rfl) rfl) ?_
      refine AL_p (x_alloc (z := .agg #[.string ⟨#[]⟩, .int .i64 0, .string ⟨#[]⟩]) 101 rfl (by kernel_rfl) rfl rfl rfl rfl) ?_
      refine AL_p (x_assign rfl rfl) ?_
      refine AL_p (x_store (n := 3) rfl rfl rfl rfl (by kernel_rfl) rfl rfl rfl) ?_
      refine AL_nil ?_
      refine AW_seq ?_
      refine AW_seq ?_
      refine AW_region ?_
      refine AL_p (x_move rfl rfl) ?_
      refine AL_b (x_gtr rfl rfl rfl) (fun b21 h21 => ?_)
      refine AL_nil ?_
      cases b21
      rotate_left
      · try simp only [decide_eq_true_eq, decide_eq_false_iff_not, Bool.not_eq_true, Bool.not_eq_false, Bool.not_eq_true', Bool.not_eq_false', beq_iff_eq, bne_iff_ne, beq_eq_false_iff_ne, bne_eq_false_iff_eq, Int.not_lt, Int.not_le, ge_iff_le, gt_iff_lt] at h21
        have hj := joinTo_more (f := termText) (xs := a.args) (k := k) (by omega) (by omega)
        refine AW_condT rfl ?_
        refine AW_region ?_
        refine AL_p (x_move rfl rfl) ?_
        refine AL_p (x_sadd rfl rfl rfl (by have := atomB_args hat; have := args_le hat k; have := comma_size; (try simp only [size_app]); have : (⟨#[40]⟩ : ByteArray).size = 1 := rfl; have : (⟨#[41]⟩ : ByteArray).size = 1 := rfl; have : (⟨#[44, 32]⟩ : ByteArray).size = 2 := rfl; have : (⟨#[32]⟩ : ByteArray).size = 1 := rfl; have : (⟨#[46]⟩ : ByteArray).size = 1 := rfl; have : (⟨#[110, 111, 116, 32]⟩ : ByteArray).size = 4 := rfl; have : (⟨#[32, 58, 45, 32]⟩ : ByteArray).size = 4 := rfl; omega)) ?_
        refine AL_p (x_assign rfl rfl) ?_
        refine AL_nil ?_
        refine AW_region ?_
        refine AL_p (x_move rfl rfl) ?_
        refine AL_p (x_loadN (n := 3) rfl rfl rfl (by kernel_rfl) rfl rfl) ?_
        refine AL_p (x_call0 rfl rfl rfl (termTextS_c (a.args[k]'(by omega))) rfl rfl) ?_
        refine AL_p (x_sadd rfl rfl rfl (by have := atomB_args hat; have := args_le hat k; have := comma_size; (try simp only [size_app]); have : (⟨#[40]⟩ : ByteArray).size = 1 := rfl; have : (⟨#[41]⟩ : ByteArray).size = 1 := rfl; have : (⟨#[44, 32]⟩ : ByteArray).size = 2 := rfl; have : (⟨#[32]⟩ : ByteArray).size = 1 := rfl; have : (⟨#[46]⟩ : ByteArray).size = 1 := rfl; have : (⟨#[110, 111, 116, 32]⟩ : ByteArray).size = 4 := rfl; have : (⟨#[32, 58, 45, 32]⟩ : ByteArray).size = 4 := rfl; have := (atomB_args hat).2.2 (a.args[k]'(by omega)) (List.getElem_mem _); omega)) ?_
        refine AL_p (x_assign rfl rfl) ?_
        refine AL_nil ?_
        refine AW_region ?_
        refine AL_p (x_add rfl rfl rfl (IntWalk.i64_in _ (by omega))) ?_
        refine AL_p (x_move rfl rfl) ?_
        refine AL_nil ?_
        refine ⟨⟨k + 1, by omega⟩, rn [], ?_, by dsimp only; omega⟩
        exact ⟨by (repeat refine ⟨⟨_, rfl, by first | exact VLe.rf | exact vle_int (by dsimp only; omega) | exact vle_str (by first | (rw [joinTo_zero, app_nil]; done) | (rw [hj]; simp only [ByteArray.append_assoc, comma]; done) | (rw [hj, hz]; simp only [app_nil]; done))⟩, ?_⟩); exact trivial, by (repeat refine ⟨⟨_, rfl, by first | exact BLe.rf | exact BLe.box AllC.rf | exact BLe.arr (by exact rfl)⟩, ?_⟩); exact trivial, by repeat (first | exact trivial | refine ⟨⟨rfl, by first | (left; intro h; cases h) | (right; rfl), fun _ h => ⟨_, h⟩⟩, ?_⟩), rfl⟩
      · try simp only [decide_eq_true_eq, decide_eq_false_iff_not, Bool.not_eq_true, Bool.not_eq_false, Bool.not_eq_true', Bool.not_eq_false', beq_iff_eq, bne_iff_ne, beq_eq_false_iff_ne, bne_eq_false_iff_eq, Int.not_lt, Int.not_le, ge_iff_le, gt_iff_lt] at h21
        have hj := joinTo_one (f := termText) (xs := a.args) (k := k) (by omega) (by omega)
        have hz : joinTo termText a.args k = ⟨#[]⟩ := by rw [show k = 0 by omega]; exact joinTo_zero
        refine AW_condF rfl ?_
        refine AW_skip ?_
        refine AW_region ?_
        refine AL_p (x_move rfl rfl) ?_
        refine AL_p (x_loadN (n := 3) rfl rfl rfl (by kernel_rfl) rfl rfl) ?_
        refine AL_p (x_call0 rfl rfl rfl (termTextS_c (a.args[k]'(by omega))) rfl rfl) ?_
        refine AL_p (x_sadd rfl rfl rfl (by have := atomB_args hat; have := args_le hat k; have := comma_size; (try simp only [size_app]); have : (⟨#[40]⟩ : ByteArray).size = 1 := rfl; have : (⟨#[41]⟩ : ByteArray).size = 1 := rfl; have : (⟨#[44, 32]⟩ : ByteArray).size = 2 := rfl; have : (⟨#[32]⟩ : ByteArray).size = 1 := rfl; have : (⟨#[46]⟩ : ByteArray).size = 1 := rfl; have : (⟨#[110, 111, 116, 32]⟩ : ByteArray).size = 4 := rfl; have : (⟨#[32, 58, 45, 32]⟩ : ByteArray).size = 4 := rfl; have := (atomB_args hat).2.2 (a.args[k]'(by omega)) (List.getElem_mem _); omega)) ?_
        refine AL_p (x_assign rfl rfl) ?_
        refine AL_nil ?_
        refine AW_region ?_
        refine AL_p (x_add rfl rfl rfl (IntWalk.i64_in _ (by omega))) ?_
        refine AL_p (x_move rfl rfl) ?_
        refine AL_nil ?_
        refine ⟨⟨k + 1, by omega⟩, rn [], ?_, by dsimp only; omega⟩
        exact ⟨by (repeat refine ⟨⟨_, rfl, by first | exact VLe.rf | exact vle_int (by dsimp only; omega) | exact vle_str (by first | (rw [joinTo_zero, app_nil]; done) | (rw [hj]; simp only [ByteArray.append_assoc, comma]; done) | (rw [hj, hz]; simp only [app_nil]; done))⟩, ?_⟩); exact trivial, by (repeat refine ⟨⟨_, rfl, by first | exact BLe.rf | exact BLe.box AllC.rf | exact BLe.arr (by exact rfl)⟩, ?_⟩); exact trivial, by repeat (first | exact trivial | refine ⟨⟨rfl, by first | (left; intro h; cases h) | (right; rfl), fun _ h => ⟨_, h⟩⟩, ?_⟩), rfl⟩
    · try simp only [decide_eq_true_eq, decide_eq_false_iff_not, Bool.not_eq_true, Bool.not_eq_false, Bool.not_eq_true', Bool.not_eq_false', beq_iff_eq, bne_iff_ne, beq_eq_false_iff_ne, bne_eq_false_iff_eq, Int.not_lt, Int.not_le, ge_iff_le, gt_iff_lt] at h16
      refine AW_condF rfl ?_
      refine AW_exit (BQ_hit ?_)
      refine AW_seq ?_
      refine AW_region ?_
      refine AL_p (x_move rfl rfl) ?_
      refine AL_p (x_sadd rfl rfl rfl (by have := atomB_args hat; have := args_le hat k; have := comma_size; (try simp only [size_app]); have : (⟨#[40]⟩ : ByteArray).size = 1 := rfl; have : (⟨#[41]⟩ : ByteArray).size = 1 := rfl; have : (⟨#[44, 32]⟩ : ByteArray).size = 2 := rfl; have : (⟨#[32]⟩ : ByteArray).size = 1 := rfl; have : (⟨#[46]⟩ : ByteArray).size = 1 := rfl; have : (⟨#[110, 111, 116, 32]⟩ : ByteArray).size = 4 := rfl; have : (⟨#[32, 58, 45, 32]⟩ : ByteArray).size = 4 := rfl; omega)) ?_
      refine AL_p (x_assign rfl rfl) ?_
      refine AL_nil ?_
      refine AW_ret ?_
      exact ⟨rn [], ⟨⟨⟨_, rfl, vle_str (by first | exact (atomText_no h7).symm | (rw [atomText_ok hat, ← joinTo_all (k := k) (by omega)]))⟩, trivial⟩, trivial, trivial, rfl⟩⟩
  · try simp only [decide_eq_true_eq, decide_eq_false_iff_not, Bool.not_eq_true, Bool.not_eq_false, Bool.not_eq_true', Bool.not_eq_false', beq_iff_eq, bne_iff_ne, beq_eq_false_iff_ne, bne_eq_false_iff_eq, Int.not_lt, Int.not_le, ge_iff_le, gt_iff_lt] at h7
    refine AW_condT rfl ?_
    refine AW_seq ?_
    refine AW_region ?_
    refine AL_p (x_assign rfl rfl) ?_
    refine AL_nil ?_
    refine AW_ret ?_
    exact ⟨rn [], ⟨⟨⟨_, rfl, vle_str (by first | exact (atomText_no h7).symm | (rw [atomText_ok hat, ← joinTo_all (k := k) (by omega)]))⟩, trivial⟩, trivial, trivial, rfl⟩⟩

set_option maxHeartbeats 4000000 in
theorem litTextI_c (l : Litt) (hl : litB l = true) : AC Try.prog 96 [.agg (litC l)] [] (.one (.c (.string (litText l)))) [] := by
  refine AC_body1 Try.func96 rfl rfl Try.ntmps96 rfl Try.results96 ?_
  refine AW_seq ?_
  refine AW_region ?_
  refine AL_p (x_box 100 rfl rfl rfl rfl rfl rfl rfl) ?_
  refine AL_p (x_assign rfl rfl) ?_
  refine AL_nil ?_
  refine AW_seq ?_
  refine AW_seq ?_
  refine AW_region ?_
  refine AL_p (x_field (off := 0) (o' := 0) rfl rfl rfl (by kernel_rfl) rfl) ?_
  refine AL_p (x_load1 rfl rfl rfl (by kernel_rfl) rfl) ?_
  refine AL_nil ?_
  refine AW_block ?_
  refine AW_seq ?_
  refine AW_region ?_
  refine AL_b (x_eql rfl rfl rfl) (fun b6 h6 => ?_)
  refine AL_p (x_assign rfl rfl) ?_
  refine AL_nil ?_
  cases b6
  rotate_left
  · try simp only [decide_eq_true_eq, decide_eq_false_iff_not, Bool.not_eq_true, Bool.not_eq_false, Bool.not_eq_true', Bool.not_eq_false', beq_iff_eq, bne_iff_ne, beq_eq_false_iff_ne, bne_eq_false_iff_eq, Int.not_lt, Int.not_le, ge_iff_le, gt_iff_lt] at h6
    refine AW_condT rfl ?_
    refine AW_seq ?_
    refine AW_region ?_
    refine AL_p (x_field (off := 1) (o' := 1) rfl rfl rfl (by kernel_rfl) rfl) ?_
    refine AL_p (x_loadN (n := 2) rfl rfl rfl (by kernel_rfl) rfl rfl) ?_
    refine AL_p (x_call0 rfl rfl rfl (printAtomI_c l.atom) rfl rfl) ?_
    refine AL_p (x_assign rfl rfl) ?_
    refine AL_nil ?_
    refine AW_ret (BQ_ret ?_)
    exact ⟨rn [], ⟨⟨⟨_, rfl, vle_str (by first | exact (litText_is h6).symm | exact (litText_not h11).symm | (rw [litText_cmp h6 h11, ← opText_at (op := l.op) (k := l.op.toNat) (opList_lt (by omega)) rfl]))⟩, trivial⟩, trivial, trivial, rfl⟩⟩
  · try simp only [decide_eq_true_eq, decide_eq_false_iff_not, Bool.not_eq_true, Bool.not_eq_false, Bool.not_eq_true', Bool.not_eq_false', beq_iff_eq, bne_iff_ne, beq_eq_false_iff_ne, bne_eq_false_iff_eq, Int.not_lt, Int.not_le, ge_iff_le, gt_iff_lt] at h6
    refine AW_condF rfl ?_
    refine AW_seq ?_
    refine AW_region ?_
    refine AL_b (x_eql rfl rfl rfl) (fun b11 h11 => ?_)
    refine AL_p (x_assign rfl rfl) ?_
    refine AL_nil ?_
    cases b11
    rotate_left
    · try simp only [decide_eq_true_eq, decide_eq_false_iff_not, Bool.not_eq_true, Bool.not_eq_false, Bool.not_eq_true', Bool.not_eq_false', beq_iff_eq, bne_iff_ne, beq_eq_false_iff_ne, bne_eq_false_iff_eq, Int.not_lt, Int.not_le, ge_iff_le, gt_iff_lt] at h11
      refine AW_condT rfl ?_
      refine AW_seq ?_
      refine AW_region ?_
      refine AL_p (x_field (off := 1) (o' := 1) rfl rfl rfl (by kernel_rfl) rfl) ?_
      refine AL_p (x_loadN (n := 2) rfl rfl rfl (by kernel_rfl) rfl rfl) ?_
      refine AL_p (x_call0 rfl rfl rfl (printAtomI_c l.atom) rfl rfl) ?_
      refine AL_p (x_sadd rfl rfl rfl (by have := atomText_le l.atom; have : (⟨#[40]⟩ : ByteArray).size = 1 := rfl; have : (⟨#[41]⟩ : ByteArray).size = 1 := rfl; have : (⟨#[44, 32]⟩ : ByteArray).size = 2 := rfl; have : (⟨#[32]⟩ : ByteArray).size = 1 := rfl; have : (⟨#[46]⟩ : ByteArray).size = 1 := rfl; have : (⟨#[110, 111, 116, 32]⟩ : ByteArray).size = 4 := rfl; have : (⟨#[32, 58, 45, 32]⟩ : ByteArray).size = 4 := rfl; omega)) ?_
      refine AL_p (x_assign rfl rfl) ?_
      refine AL_nil ?_
      refine AW_ret (BQ_ret ?_)
      exact ⟨rn [], ⟨⟨⟨_, rfl, vle_str (by first | exact (litText_is h6).symm | exact (litText_not h11).symm | (rw [litText_cmp h6 h11, ← opText_at (op := l.op) (k := l.op.toNat) (opList_lt (by omega)) rfl]))⟩, trivial⟩, trivial, trivial, rfl⟩⟩
    · try simp only [decide_eq_true_eq, decide_eq_false_iff_not, Bool.not_eq_true, Bool.not_eq_false, Bool.not_eq_true', Bool.not_eq_false', beq_iff_eq, bne_iff_ne, beq_eq_false_iff_ne, bne_eq_false_iff_eq, Int.not_lt, Int.not_le, ge_iff_le, gt_iff_lt] at h11
      have hop := litB_cmp hl h6 h11
      refine AW_condF rfl ?_
      refine AW_skip ?_
      refine AW_seq ?_
      refine AW_draw rfl ?_
      refine AL_p (x_field (off := 4) (o' := 4) rfl rfl rfl (by kernel_rfl) rfl) ?_
      refine AL_p (x_loadN (n := 3) rfl rfl rfl (by kernel_rfl) rfl rfl) ?_
      refine AL_p (x_call0 rfl rfl rfl (termTextI_c l.a) rfl rfl) ?_
      refine AL_p (x_sadd rfl rfl rfl (by obtain ⟨w1, w2, q1, q2⟩ := litB_cmp hl h6 h11; have := termText_le q1; have := termText_le q2; have := opList_get (k := l.op.toNat) (opList_lt (by omega)); have : (⟨#[40]⟩ : ByteArray).size = 1 := rfl; have : (⟨#[41]⟩ : ByteArray).size = 1 := rfl; have : (⟨#[44, 32]⟩ : ByteArray).size = 2 := rfl; have : (⟨#[32]⟩ : ByteArray).size = 1 := rfl; have : (⟨#[46]⟩ : ByteArray).size = 1 := rfl; have : (⟨#[110, 111, 116, 32]⟩ : ByteArray).size = 4 := rfl; have : (⟨#[32, 58, 45, 32]⟩ : ByteArray).size = 4 := rfl; (try simp only [size_app]); omega)) ?_
      refine AL_p (y_bslice (E := 9) (e := strE) [.const (.string ⟨#[]⟩), .const (.string ⟨#[61]⟩), .const (.string ⟨#[33, 61]⟩), .const (.string ⟨#[60]⟩), .const (.string ⟨#[60, 61]⟩)] (opList) 101 rfl rfl rfl rfl rfl rfl rfl rfl FitL.rf rfl rfl rfl rfl rfl rfl (by kernel_rfl)) ?_
      refine AL_p (x_field (off := 3) (o' := 3) rfl rfl rfl (by kernel_rfl) rfl) ?_
      refine AL_p (x_load1 rfl rfl rfl (by kernel_rfl) rfl) ?_
      refine AL_p (x_oindex (n := 1) rfl rfl rfl rfl (by kernel_rfl) rfl (k := l.op.toNat) (by have := litB_cmp hl h6 h11; omega) (opList_lt (by have := litB_cmp hl h6 h11; omega))) ?_
      refine AL_p (x_oload1 rfl rfl rfl (by kernel_rfl) (opList_lt (by have := litB_cmp hl h6 h11; omega)) rfl) ?_
      refine AL_p (x_sadd rfl rfl rfl (by obtain ⟨w1, w2, q1, q2⟩ := litB_cmp hl h6 h11; have := termText_le q1; have := termText_le q2; have := opList_get (k := l.op.toNat) (opList_lt (by omega)); have : (⟨#[40]⟩ : ByteArray).size = 1 := rfl; have : (⟨#[41]⟩ : ByteArray).size = 1 := rfl; have : (⟨#[44, 32]⟩ : ByteArray).size = 2 := rfl; have : (⟨#[32]⟩ : ByteArray).size = 1 := rfl; have : (⟨#[46]⟩ : ByteArray).size = 1 := rfl; have : (⟨#[110, 111, 116, 32]⟩ : ByteArray).size = 4 := rfl; have : (⟨#[32, 58, 45, 32]⟩ : ByteArray).size = 4 := rfl; (try simp only [size_app]); omega)) ?_
      refine AL_p (x_sadd rfl rfl rfl (by obtain ⟨w1, w2, q1, q2⟩ := litB_cmp hl h6 h11; have := termText_le q1; have := termText_le q2; have := opList_get (k := l.op.toNat) (opList_lt (by omega)); have : (⟨#[40]⟩ : ByteArray).size = 1 := rfl; have : (⟨#[41]⟩ : ByteArray).size = 1 := rfl; have : (⟨#[44, 32]⟩ : ByteArray).size = 2 := rfl; have : (⟨#[32]⟩ : ByteArray).size = 1 := rfl; have : (⟨#[46]⟩ : ByteArray).size = 1 := rfl; have : (⟨#[110, 111, 116, 32]⟩ : ByteArray).size = 4 := rfl; have : (⟨#[32, 58, 45, 32]⟩ : ByteArray).size = 4 := rfl; (try simp only [size_app]); omega)) ?_
      refine AL_p (x_field (off := 7) (o' := 7) rfl rfl rfl (by kernel_rfl) rfl) ?_
      refine AL_p (x_loadN (n := 3) rfl rfl rfl (by kernel_rfl) rfl rfl) ?_
      refine AL_p (x_call0 rfl rfl rfl (termTextI_c l.b) rfl rfl) ?_
      refine AL_p (x_sadd rfl rfl rfl (by obtain ⟨w1, w2, q1, q2⟩ := litB_cmp hl h6 h11; have := termText_le q1; have := termText_le q2; have := opList_get (k := l.op.toNat) (opList_lt (by omega)); have : (⟨#[40]⟩ : ByteArray).size = 1 := rfl; have : (⟨#[41]⟩ : ByteArray).size = 1 := rfl; have : (⟨#[44, 32]⟩ : ByteArray).size = 2 := rfl; have : (⟨#[32]⟩ : ByteArray).size = 1 := rfl; have : (⟨#[46]⟩ : ByteArray).size = 1 := rfl; have : (⟨#[110, 111, 116, 32]⟩ : ByteArray).size = 4 := rfl; have : (⟨#[32, 58, 45, 32]⟩ : ByteArray).size = 4 := rfl; (try simp only [size_app]); omega)) ?_
      refine AL_p (x_assign rfl rfl) ?_
      refine AL_nild (by kernel_rfl) ?_
      refine AW_ret ?_
      exact ⟨rn [], ⟨⟨⟨_, rfl, vle_str (by first | exact (litText_is h6).symm | exact (litText_not h11).symm | (rw [litText_cmp h6 h11, ← opText_at (op := l.op) (k := l.op.toNat) (opList_lt (by omega)) rfl]))⟩, trivial⟩, trivial, trivial, rfl⟩⟩

set_option maxHeartbeats 4000000 in
theorem litTextS_c (l : Litt) (hl : litB l = true) : AC Try.prog 93 [.agg (litC l)] [] (.one (.c (.string (litText l)))) [] := by
  refine AC_body1 Try.func93 rfl rfl Try.ntmps93 rfl Try.results93 ?_
  refine AW_seq ?_
  refine AW_region ?_
  refine AL_p (x_box 100 rfl rfl rfl rfl rfl rfl rfl) ?_
  refine AL_p (x_assign rfl rfl) ?_
  refine AL_nil ?_
  refine AW_seq ?_
  refine AW_seq ?_
  refine AW_region ?_
  refine AL_p (x_field (off := 0) (o' := 0) rfl rfl rfl (by kernel_rfl) rfl) ?_
  refine AL_p (x_load1 rfl rfl rfl (by kernel_rfl) rfl) ?_
  refine AL_b (x_eql rfl rfl rfl) (fun b5 h5 => ?_)
  refine AL_nil ?_
  cases b5
  rotate_left
  · try simp only [decide_eq_true_eq, decide_eq_false_iff_not, Bool.not_eq_true, Bool.not_eq_false, Bool.not_eq_true', Bool.not_eq_false', beq_iff_eq, bne_iff_ne, beq_eq_false_iff_ne, bne_eq_false_iff_eq, Int.not_lt, Int.not_le, ge_iff_le, gt_iff_lt] at h5
    refine AW_condT rfl ?_
    refine AW_seq ?_
    refine AW_region ?_
    refine AL_p (x_field (off := 1) (o' := 1) rfl rfl rfl (by kernel_rfl) rfl) ?_
    refine AL_p (x_loadN (n := 2) rfl rfl rfl (by kernel_rfl) rfl rfl) ?_
    refine AL_p (x_call0 rfl rfl rfl (printAtomS_c l.atom) rfl rfl) ?_
    refine AL_p (x_assign rfl rfl) ?_
    refine AL_nil ?_
    refine AW_ret ?_
    exact ⟨rn [], ⟨⟨⟨_, rfl, vle_str (by first | exact (litText_is h5).symm | exact (litText_not h11).symm | (rw [litText_cmp h5 h11, ← opText_at (op := l.op) (k := l.op.toNat) (opList_lt (by omega)) rfl]))⟩, trivial⟩, trivial, trivial, rfl⟩⟩
  · try simp only [decide_eq_true_eq, decide_eq_false_iff_not, Bool.not_eq_true, Bool.not_eq_false, Bool.not_eq_true', Bool.not_eq_false', beq_iff_eq, bne_iff_ne, beq_eq_false_iff_ne, bne_eq_false_iff_eq, Int.not_lt, Int.not_le, ge_iff_le, gt_iff_lt] at h5
    refine AW_condF rfl ?_
    refine AW_skip ?_
    refine AW_seq ?_
    refine AW_seq ?_
    refine AW_region ?_
    refine AL_p (x_field (off := 0) (o' := 0) rfl rfl rfl (by kernel_rfl) rfl) ?_
    refine AL_p (x_load1 rfl rfl rfl (by kernel_rfl) rfl) ?_
    refine AL_b (x_eql rfl rfl rfl) (fun b11 h11 => ?_)
    refine AL_nil ?_
    cases b11
    rotate_left
    · try simp only [decide_eq_true_eq, decide_eq_false_iff_not, Bool.not_eq_true, Bool.not_eq_false, Bool.not_eq_true', Bool.not_eq_false', beq_iff_eq, bne_iff_ne, beq_eq_false_iff_ne, bne_eq_false_iff_eq, Int.not_lt, Int.not_le, ge_iff_le, gt_iff_lt] at h11
      refine AW_condT rfl ?_
      refine AW_seq ?_
      refine AW_region ?_
      refine AL_p (x_field (off := 1) (o' := 1) rfl rfl rfl (by kernel_rfl) rfl) ?_
      refine AL_p (x_loadN (n := 2) rfl rfl rfl (by kernel_rfl) rfl rfl) ?_
      refine AL_p (x_call0 rfl rfl rfl (printAtomS_c l.atom) rfl rfl) ?_
      refine AL_p (x_sadd rfl rfl rfl (by have := atomText_le l.atom; have : (⟨#[40]⟩ : ByteArray).size = 1 := rfl; have : (⟨#[41]⟩ : ByteArray).size = 1 := rfl; have : (⟨#[44, 32]⟩ : ByteArray).size = 2 := rfl; have : (⟨#[32]⟩ : ByteArray).size = 1 := rfl; have : (⟨#[46]⟩ : ByteArray).size = 1 := rfl; have : (⟨#[110, 111, 116, 32]⟩ : ByteArray).size = 4 := rfl; have : (⟨#[32, 58, 45, 32]⟩ : ByteArray).size = 4 := rfl; omega)) ?_
      refine AL_p (x_assign rfl rfl) ?_
      refine AL_nil ?_
      refine AW_ret ?_
      exact ⟨rn [], ⟨⟨⟨_, rfl, vle_str (by first | exact (litText_is h5).symm | exact (litText_not h11).symm | (rw [litText_cmp h5 h11, ← opText_at (op := l.op) (k := l.op.toNat) (opList_lt (by omega)) rfl]))⟩, trivial⟩, trivial, trivial, rfl⟩⟩
    · try simp only [decide_eq_true_eq, decide_eq_false_iff_not, Bool.not_eq_true, Bool.not_eq_false, Bool.not_eq_true', Bool.not_eq_false', beq_iff_eq, bne_iff_ne, beq_eq_false_iff_ne, bne_eq_false_iff_eq, Int.not_lt, Int.not_le, ge_iff_le, gt_iff_lt] at h11
      have hop := litB_cmp hl h5 h11
      refine AW_condF rfl ?_
      refine AW_skip ?_
      refine AW_seq ?_
      refine AW_draw rfl ?_
      refine AL_p (x_field (off := 4) (o' := 4) rfl rfl rfl (by kernel_rfl) rfl) ?_
      refine AL_p (x_loadN (n := 3) rfl rfl rfl (by kernel_rfl) rfl rfl) ?_
      refine AL_p (x_call0 rfl rfl rfl (termTextS_c l.a) rfl rfl) ?_
      refine AL_p (x_sadd rfl rfl rfl (by obtain ⟨w1, w2, q1, q2⟩ := litB_cmp hl h5 h11; have := termText_le q1; have := termText_le q2; have := opList_get (k := l.op.toNat) (opList_lt (by omega)); have : (⟨#[40]⟩ : ByteArray).size = 1 := rfl; have : (⟨#[41]⟩ : ByteArray).size = 1 := rfl; have : (⟨#[44, 32]⟩ : ByteArray).size = 2 := rfl; have : (⟨#[32]⟩ : ByteArray).size = 1 := rfl; have : (⟨#[46]⟩ : ByteArray).size = 1 := rfl; have : (⟨#[110, 111, 116, 32]⟩ : ByteArray).size = 4 := rfl; have : (⟨#[32, 58, 45, 32]⟩ : ByteArray).size = 4 := rfl; (try simp only [size_app]); omega)) ?_
      refine AL_p (y_bslice (E := 9) (e := strE) [.const (.string ⟨#[]⟩), .const (.string ⟨#[61]⟩), .const (.string ⟨#[33, 61]⟩), .const (.string ⟨#[60]⟩), .const (.string ⟨#[60, 61]⟩)] (opList) 101 rfl rfl rfl rfl rfl rfl rfl rfl FitL.rf rfl rfl rfl rfl rfl rfl (by kernel_rfl)) ?_
      refine AL_p (x_field (off := 3) (o' := 3) rfl rfl rfl (by kernel_rfl) rfl) ?_
      refine AL_p (x_load1 rfl rfl rfl (by kernel_rfl) rfl) ?_
      refine AL_p (x_oindex (n := 1) rfl rfl rfl rfl (by kernel_rfl) rfl (k := l.op.toNat) (by have := litB_cmp hl h5 h11; omega) (opList_lt (by have := litB_cmp hl h5 h11; omega))) ?_
      refine AL_p (x_oload1 rfl rfl rfl (by kernel_rfl) (opList_lt (by have := litB_cmp hl h5 h11; omega)) rfl) ?_
      refine AL_p (x_sadd rfl rfl rfl (by obtain ⟨w1, w2, q1, q2⟩ := litB_cmp hl h5 h11; have := termText_le q1; have := termText_le q2; have := opList_get (k := l.op.toNat) (opList_lt (by omega)); have : (⟨#[40]⟩ : ByteArray).size = 1 := rfl; have : (⟨#[41]⟩ : ByteArray).size = 1 := rfl; have : (⟨#[44, 32]⟩ : ByteArray).size = 2 := rfl; have : (⟨#[32]⟩ : ByteArray).size = 1 := rfl; have : (⟨#[46]⟩ : ByteArray).size = 1 := rfl; have : (⟨#[110, 111, 116, 32]⟩ : ByteArray).size = 4 := rfl; have : (⟨#[32, 58, 45, 32]⟩ : ByteArray).size = 4 := rfl; (try simp only [size_app]); omega)) ?_
      refine AL_p (x_sadd rfl rfl rfl (by obtain ⟨w1, w2, q1, q2⟩ := litB_cmp hl h5 h11; have := termText_le q1; have := termText_le q2; have := opList_get (k := l.op.toNat) (opList_lt (by omega)); have : (⟨#[40]⟩ : ByteArray).size = 1 := rfl; have : (⟨#[41]⟩ : ByteArray).size = 1 := rfl; have : (⟨#[44, 32]⟩ : ByteArray).size = 2 := rfl; have : (⟨#[32]⟩ : ByteArray).size = 1 := rfl; have : (⟨#[46]⟩ : ByteArray).size = 1 := rfl; have : (⟨#[110, 111, 116, 32]⟩ : ByteArray).size = 4 := rfl; have : (⟨#[32, 58, 45, 32]⟩ : ByteArray).size = 4 := rfl; (try simp only [size_app]); omega)) ?_
      refine AL_p (x_field (off := 7) (o' := 7) rfl rfl rfl (by kernel_rfl) rfl) ?_
      refine AL_p (x_loadN (n := 3) rfl rfl rfl (by kernel_rfl) rfl rfl) ?_
      refine AL_p (x_call0 rfl rfl rfl (termTextS_c l.b) rfl rfl) ?_
      refine AL_p (x_sadd rfl rfl rfl (by obtain ⟨w1, w2, q1, q2⟩ := litB_cmp hl h5 h11; have := termText_le q1; have := termText_le q2; have := opList_get (k := l.op.toNat) (opList_lt (by omega)); have : (⟨#[40]⟩ : ByteArray).size = 1 := rfl; have : (⟨#[41]⟩ : ByteArray).size = 1 := rfl; have : (⟨#[44, 32]⟩ : ByteArray).size = 2 := rfl; have : (⟨#[32]⟩ : ByteArray).size = 1 := rfl; have : (⟨#[46]⟩ : ByteArray).size = 1 := rfl; have : (⟨#[110, 111, 116, 32]⟩ : ByteArray).size = 4 := rfl; have : (⟨#[32, 58, 45, 32]⟩ : ByteArray).size = 4 := rfl; (try simp only [size_app]); omega)) ?_
      refine AL_p (x_assign rfl rfl) ?_
      refine AL_nild (by kernel_rfl) ?_
      refine AW_ret ?_
      exact ⟨rn [], ⟨⟨⟨_, rfl, vle_str (by first | exact (litText_is h5).symm | exact (litText_not h11).symm | (rw [litText_cmp h5 h11, ← opText_at (op := l.op) (k := l.op.toNat) (opList_lt (by omega)) rfl]))⟩, trivial⟩, trivial, trivial, rfl⟩⟩

set_option maxHeartbeats 4000000 in
theorem printRuleS_c (r : Rulet) : AC Try.prog 37 [.agg (ruleC r)] [] (.one (.c (.string (ruleText r)))) [] := by
  refine AC_body1 Try.func37 rfl rfl Try.ntmps37 rfl Try.results37 ?_
  refine AW_aggmax 0 3 rfl rfl (fun hm0_3 => ?_)
  refine AW_seq ?_
  refine AW_region ?_
  refine AL_p (x_box 100 rfl rfl rfl rfl rfl rfl rfl) ?_
  refine AL_p (x_assign rfl rfl) ?_
  refine AL_nil ?_
  refine AW_seq ?_
  refine AW_seq ?_
  refine AW_region ?_
  refine AL_p (x_loadN (n := 4) rfl rfl rfl (by kernel_rfl) rfl rfl) ?_
  refine AL_b (x_call0 rfl rfl rfl (ruleS_c r) rfl rfl) (fun b6 h6 => ?_)
  refine AL_p (x_not rfl rfl) ?_
  refine AL_nil ?_
  cases b6
  rotate_left
  · try simp only [decide_eq_true_eq, decide_eq_false_iff_not, Bool.not_eq_true, Bool.not_eq_false, Bool.not_eq_true', Bool.not_eq_false', beq_iff_eq, bne_iff_ne, beq_eq_false_iff_ne, bne_eq_false_iff_eq, Int.not_lt, Int.not_le, ge_iff_le, gt_iff_lt] at h6
    have hr := h6
    have hr1 := ruleB_parts h6
    have hq := atomText_le r.head
    have hs := signList_get (k := r.kind.toNat) (signList_lt (by omega))
    have hsg := signText_at (op := r.kind) (k := r.kind.toNat) (signList_lt (by omega)) rfl
    have : (⟨#[40]⟩ : ByteArray).size = 1 := rfl
    have : (⟨#[41]⟩ : ByteArray).size = 1 := rfl
    have : (⟨#[44, 32]⟩ : ByteArray).size = 2 := rfl
    have : (⟨#[32]⟩ : ByteArray).size = 1 := rfl
    have : (⟨#[46]⟩ : ByteArray).size = 1 := rfl
    have : (⟨#[110, 111, 116, 32]⟩ : ByteArray).size = 4 := rfl
    have : (⟨#[32, 58, 45, 32]⟩ : ByteArray).size = 4 := rfl
    refine AW_condF rfl ?_
    refine AW_skip ?_
    refine AW_seq ?_
    refine AW_draw rfl ?_
    refine AL_p (y_bslice (E := 9) (e := strE) [.const (.string ⟨#[]⟩), .const (.string ⟨#[]⟩), .const (.string ⟨#[43]⟩), .const (.string ⟨#[45]⟩)] (signList) 101 rfl rfl rfl rfl rfl rfl rfl rfl FitL.rf rfl rfl rfl rfl rfl rfl (by kernel_rfl)) ?_
    refine AL_p (x_field (off := 0) (o' := 0) rfl rfl rfl (by kernel_rfl) rfl) ?_
    refine AL_p (x_load1 rfl rfl rfl (by kernel_rfl) rfl) ?_
    refine AL_p (x_oindex (n := 1) rfl rfl rfl rfl (by kernel_rfl) rfl (k := r.kind.toNat) (by omega) (signList_lt (by omega))) ?_
    refine AL_p (x_oload1 rfl rfl rfl (by kernel_rfl) (signList_lt (by omega)) rfl) ?_
    refine AL_p (x_field (off := 1) (o' := 1) rfl rfl rfl (by kernel_rfl) rfl) ?_
    refine AL_p (x_loadN (n := 2) rfl rfl rfl (by kernel_rfl) rfl rfl) ?_
    refine AL_p (x_call0 rfl rfl rfl (printAtomS_c r.head) rfl rfl) ?_
    refine AL_p (x_sadd rfl rfl rfl (by (try simp only [size_app]); omega)) ?_
    refine AL_p (x_assign rfl rfl) ?_
    refine AL_nild (by kernel_rfl) ?_
    refine AW_seq ?_
    refine AW_seq ?_
    refine AW_region ?_
    refine AL_p (x_field (off := 3) (o' := 3) rfl rfl rfl (by kernel_rfl) rfl) ?_
    refine AL_p (x_load1 rfl rfl rfl (by kernel_rfl) rfl) ?_
    refine AL_p (x_len (E := 152) (n := 10) rfl rfl (by kernel_rfl)) ?_
    refine AL_p (x_move rfl rfl) ?_
    refine AL_nil ?_
    refine AW_block ?_
    refine AW_loop2 (ι := {q : Nat // q ≤ r.body.length}) (fun p => [(3, .one (.c (.string (signText r.kind ++ atomText r.head ++ bodyTo r.body (p.1))))), (20, .one (.c (.int .i64 ((p.1) : Int))))]) (fun p => []) [1, 19] [100, 101] (fun p => r.body.length - (p.1)) ⟨0, by omega⟩ (rn []) ?_ ?_
    exact ⟨by (repeat refine ⟨⟨_, rfl, by first | exact VLe.rf | exact vle_int (by dsimp only; omega) | exact vle_str (by first | (rw [bodyTo_zero, app_nil, hsg]; done) | (rw [hj]; simp only [ByteArray.append_assoc, comma]; done))⟩, ?_⟩); exact trivial, by (repeat refine ⟨⟨_, rfl, by first | exact BLe.rf | exact BLe.box AllC.rf | exact BLe.arr (by exact rfl)⟩, ?_⟩); exact trivial, by repeat (first | exact trivial | refine ⟨⟨rfl, by first | (left; intro h; cases h) | (right; rfl), fun _ h => ⟨_, h⟩⟩, ?_⟩), rfl⟩
    rintro ⟨k, hinv⟩
    dsimp only
    have hk := hinv
    refine AW_seq ?_
    refine AW_region ?_
    refine AL_b (x_lss rfl rfl rfl) (fun b21 h21 => ?_)
    refine AL_nil ?_
    refine AW_seq ?_
    cases b21
    rotate_left
    · try simp only [decide_eq_true_eq, decide_eq_false_iff_not, Bool.not_eq_true, Bool.not_eq_false, Bool.not_eq_true', Bool.not_eq_false', beq_iff_eq, bne_iff_ne, beq_eq_false_iff_ne, bne_eq_false_iff_eq, Int.not_lt, Int.not_le, ge_iff_le, gt_iff_lt] at h21
      refine AW_condT rfl ?_
      refine AW_skip ?_
      refine AW_seq ?_
      refine AW_block ?_
      refine AW_seq ?_
      refine AW_region ?_
      refine AL_p (x_move rfl rfl) ?_
      refine AL_p (x_assign rfl rfl) ?_
      refine AL_nil ?_
      refine AW_seq ?_
      refine AW_seq ?_
      refine AW_region ?_
      refine AL_p (x_move rfl rfl) ?_
      refine AL_b (x_eql rfl rfl rfl) (fun b24 h24 => ?_)
      refine AL_nil ?_
      cases b24
      rotate_left
      · try simp only [decide_eq_true_eq, decide_eq_false_iff_not, Bool.not_eq_true, Bool.not_eq_false, Bool.not_eq_true', Bool.not_eq_false', beq_iff_eq, bne_iff_ne, beq_eq_false_iff_ne, bne_eq_false_iff_eq, Int.not_lt, Int.not_le, ge_iff_le, gt_iff_lt] at h24
        have hj := bodyTo_one (l := r.body) (k := k) (by omega) (by omega)
        refine AW_condT rfl ?_
        refine AW_region ?_
        refine AL_p (x_move rfl rfl) ?_
        refine AL_p (x_sadd rfl rfl rfl (by have hb := body_le hr k; have := signText_le (op := r.kind); (try simp only [size_app]); omega)) ?_
        refine AL_p (x_assign rfl rfl) ?_
        refine AL_nil ?_
        refine AW_region ?_
        refine AL_p (x_move rfl rfl) ?_
        refine AL_p (x_field (off := 3) (o' := 3) rfl rfl rfl (by kernel_rfl) rfl) ?_
        refine AL_p (x_load1 rfl rfl rfl (by kernel_rfl) rfl) ?_
        refine AL_p (x_move rfl rfl) ?_
        refine AL_p (x_index (E := 152) (n := 10) rfl rfl rfl (by kernel_rfl) rfl (k := k) (by omega) (by omega)) ?_
        refine AL_p (x_eloadW (n := 10) rfl rfl (by kernel_rfl) rfl) ?_
        refine AL_p (x_call0 rfl rfl rfl (litTextS_c (r.body[k]'(by omega)) (hr1.2.2.2 _ (List.getElem_mem _))) rfl rfl) ?_
        refine AL_p (x_sadd rfl rfl rfl (by have hb := body_le hr k; have := signText_le (op := r.kind); have := litText_le (hr1.2.2.2 (r.body[k]'(by omega)) (List.getElem_mem _)); (try simp only [size_app]); omega)) ?_
        refine AL_p (x_assign rfl rfl) ?_
        refine AL_nil ?_
        refine AW_region ?_
        refine AL_p (x_add rfl rfl rfl (IntWalk.i64_in _ (by omega))) ?_
        refine AL_p (x_move rfl rfl) ?_
        refine AL_nil ?_
        refine ⟨⟨k + 1, by omega⟩, rn [], ?_, by dsimp only; omega⟩
        exact ⟨by (repeat refine ⟨⟨_, rfl, by first | exact VLe.rf | exact vle_int (by dsimp only; omega) | exact vle_str (by first | (rw [bodyTo_zero, app_nil, hsg]; done) | (rw [hj]; simp only [ByteArray.append_assoc, comma]; done))⟩, ?_⟩); exact trivial, by (repeat refine ⟨⟨_, rfl, by first | exact BLe.rf | exact BLe.box AllC.rf | exact BLe.arr (by exact rfl)⟩, ?_⟩); exact trivial, by repeat (first | exact trivial | refine ⟨⟨rfl, by first | (left; intro h; cases h) | (right; rfl), fun _ h => ⟨_, h⟩⟩, ?_⟩), rfl⟩
      · try simp only [decide_eq_true_eq, decide_eq_false_iff_not, Bool.not_eq_true, Bool.not_eq_false, Bool.not_eq_true', Bool.not_eq_false', beq_iff_eq, bne_iff_ne, beq_eq_false_iff_ne, bne_eq_false_iff_eq, Int.not_lt, Int.not_le, ge_iff_le, gt_iff_lt] at h24
        have hj := bodyTo_more (l := r.body) (k := k) (by omega) (by omega)
        refine AW_condF rfl ?_
        refine AW_region ?_
        refine AL_p (x_move rfl rfl) ?_
        refine AL_p (x_sadd rfl rfl rfl (by have hb := body_le hr k; have := signText_le (op := r.kind); (try simp only [size_app]); omega)) ?_
        refine AL_p (x_assign rfl rfl) ?_
        refine AL_nil ?_
        refine AW_region ?_
        refine AL_p (x_move rfl rfl) ?_
        refine AL_p (x_field (off := 3) (o' := 3) rfl rfl rfl (by kernel_rfl) rfl) ?_
        refine AL_p (x_load1 rfl rfl rfl (by kernel_rfl) rfl) ?_
        refine AL_p (x_move rfl rfl) ?_
        refine AL_p (x_index (E := 152) (n := 10) rfl rfl rfl (by kernel_rfl) rfl (k := k) (by omega) (by omega)) ?_
        refine AL_p (x_eloadW (n := 10) rfl rfl (by kernel_rfl) rfl) ?_
        refine AL_p (x_call0 rfl rfl rfl (litTextS_c (r.body[k]'(by omega)) (hr1.2.2.2 _ (List.getElem_mem _))) rfl rfl) ?_
        refine AL_p (x_sadd rfl rfl rfl (by have hb := body_le hr k; have := signText_le (op := r.kind); have := litText_le (hr1.2.2.2 (r.body[k]'(by omega)) (List.getElem_mem _)); (try simp only [size_app]); omega)) ?_
        refine AL_p (x_assign rfl rfl) ?_
        refine AL_nil ?_
        refine AW_region ?_
        refine AL_p (x_add rfl rfl rfl (IntWalk.i64_in _ (by omega))) ?_
        refine AL_p (x_move rfl rfl) ?_
        refine AL_nil ?_
        refine ⟨⟨k + 1, by omega⟩, rn [], ?_, by dsimp only; omega⟩
        exact ⟨by (repeat refine ⟨⟨_, rfl, by first | exact VLe.rf | exact vle_int (by dsimp only; omega) | exact vle_str (by first | (rw [bodyTo_zero, app_nil, hsg]; done) | (rw [hj]; simp only [ByteArray.append_assoc, comma]; done))⟩, ?_⟩); exact trivial, by (repeat refine ⟨⟨_, rfl, by first | exact BLe.rf | exact BLe.box AllC.rf | exact BLe.arr (by exact rfl)⟩, ?_⟩); exact trivial, by repeat (first | exact trivial | refine ⟨⟨rfl, by first | (left; intro h; cases h) | (right; rfl), fun _ h => ⟨_, h⟩⟩, ?_⟩), rfl⟩
    · try simp only [decide_eq_true_eq, decide_eq_false_iff_not, Bool.not_eq_true, Bool.not_eq_false, Bool.not_eq_true', Bool.not_eq_false', beq_iff_eq, bne_iff_ne, beq_eq_false_iff_ne, bne_eq_false_iff_eq, Int.not_lt, Int.not_le, ge_iff_le, gt_iff_lt] at h21
      refine AW_condF rfl ?_
      refine AW_exit (BQ_hit ?_)
      refine AW_seq ?_
      refine AW_region ?_
      refine AL_p (x_move rfl rfl) ?_
      refine AL_p (x_sadd rfl rfl rfl (by have hb := body_le hr k; have := signText_le (op := r.kind); (try simp only [size_app]); omega)) ?_
      refine AL_p (x_assign rfl rfl) ?_
      refine AL_nil ?_
      refine AW_ret ?_
      exact ⟨rn [], ⟨⟨⟨_, rfl, vle_str (by first | exact (ruleText_no h6).symm | (rw [ruleText_ok hr, show r.body.length = k by omega]))⟩, trivial⟩, trivial, trivial, rfl⟩⟩
  · try simp only [decide_eq_true_eq, decide_eq_false_iff_not, Bool.not_eq_true, Bool.not_eq_false, Bool.not_eq_true', Bool.not_eq_false', beq_iff_eq, bne_iff_ne, beq_eq_false_iff_ne, bne_eq_false_iff_eq, Int.not_lt, Int.not_le, ge_iff_le, gt_iff_lt] at h6
    refine AW_condT rfl ?_
    refine AW_seq ?_
    refine AW_region ?_
    refine AL_p (x_assign rfl rfl) ?_
    refine AL_nil ?_
    refine AW_ret ?_
    exact ⟨rn [], ⟨⟨⟨_, rfl, vle_str (by first | exact (ruleText_no h6).symm | (rw [ruleText_ok hr, show r.body.length = k by omega]))⟩, trivial⟩, trivial, trivial, rfl⟩⟩

set_option maxHeartbeats 4000000 in
theorem printRuleI_c (r : Rulet) : AC Try.prog 39 [.agg (ruleC r)] [] (.one (.c (.string (ruleText r)))) [] := by
  refine AC_body1 Try.func39 rfl rfl Try.ntmps39 rfl Try.results39 ?_
  refine AW_aggmax 0 3 rfl rfl (fun hm0_3 => ?_)
  refine AW_seq ?_
  refine AW_region ?_
  refine AL_p (x_box 100 rfl rfl rfl rfl rfl rfl rfl) ?_
  refine AL_p (x_assign rfl rfl) ?_
  refine AL_nil ?_
  refine AW_seq ?_
  refine AW_seq ?_
  refine AW_region ?_
  refine AL_p (x_loadN (n := 4) rfl rfl rfl (by kernel_rfl) rfl rfl) ?_
  refine AL_b (x_call0 rfl rfl rfl (ruleI_c r) rfl rfl) (fun b8 h8 => ?_)
  refine AL_p (x_not rfl rfl) ?_
  refine AL_nil ?_
  cases b8
  rotate_left
  · try simp only [decide_eq_true_eq, decide_eq_false_iff_not, Bool.not_eq_true, Bool.not_eq_false, Bool.not_eq_true', Bool.not_eq_false', beq_iff_eq, bne_iff_ne, beq_eq_false_iff_ne, bne_eq_false_iff_eq, Int.not_lt, Int.not_le, ge_iff_le, gt_iff_lt] at h8
    have hr := h8
    have hr1 := ruleB_parts h8
    have hq := atomText_le r.head
    have hs := signList_get (k := r.kind.toNat) (signList_lt (by omega))
    have hsg := signText_at (op := r.kind) (k := r.kind.toNat) (signList_lt (by omega)) rfl
    have : (⟨#[40]⟩ : ByteArray).size = 1 := rfl
    have : (⟨#[41]⟩ : ByteArray).size = 1 := rfl
    have : (⟨#[44, 32]⟩ : ByteArray).size = 2 := rfl
    have : (⟨#[32]⟩ : ByteArray).size = 1 := rfl
    have : (⟨#[46]⟩ : ByteArray).size = 1 := rfl
    have : (⟨#[110, 111, 116, 32]⟩ : ByteArray).size = 4 := rfl
    have : (⟨#[32, 58, 45, 32]⟩ : ByteArray).size = 4 := rfl
    refine AW_condF rfl ?_
    refine AW_skip ?_
    refine AW_seq ?_
    refine AW_draw rfl ?_
    refine AL_p (y_bslice (E := 9) (e := strE) [.const (.string ⟨#[]⟩), .const (.string ⟨#[]⟩), .const (.string ⟨#[43]⟩), .const (.string ⟨#[45]⟩)] (signList) 101 rfl rfl rfl rfl rfl rfl rfl rfl FitL.rf rfl rfl rfl rfl rfl rfl (by kernel_rfl)) ?_
    refine AL_p (x_field (off := 0) (o' := 0) rfl rfl rfl (by kernel_rfl) rfl) ?_
    refine AL_p (x_load1 rfl rfl rfl (by kernel_rfl) rfl) ?_
    refine AL_p (x_oindex (n := 1) rfl rfl rfl rfl (by kernel_rfl) rfl (k := r.kind.toNat) (by omega) (signList_lt (by omega))) ?_
    refine AL_p (x_oload1 rfl rfl rfl (by kernel_rfl) (signList_lt (by omega)) rfl) ?_
    refine AL_p (x_field (off := 1) (o' := 1) rfl rfl rfl (by kernel_rfl) rfl) ?_
    refine AL_p (x_loadN (n := 2) rfl rfl rfl (by kernel_rfl) rfl rfl) ?_
    refine AL_p (x_call0 rfl rfl rfl (printAtomI_c r.head) rfl rfl) ?_
    refine AL_p (x_sadd rfl rfl rfl (by (try simp only [size_app]); omega)) ?_
    refine AL_p (x_assign rfl rfl) ?_
    refine AL_nild (by kernel_rfl) ?_
    refine AW_seq ?_
    refine AW_region ?_
    refine AL_p (y_bslice0 (E := 9) (e := strE) 102 rfl rfl rfl (by kernel_rfl)) ?_
    refine AL_p (x_assign rfl rfl) ?_
    refine AL_nil ?_
    refine AW_seq ?_
    refine AW_seq ?_
    refine AW_region ?_
    refine AL_p (x_field (off := 3) (o' := 3) rfl rfl rfl (by kernel_rfl) rfl) ?_
    refine AL_p (x_load1 rfl rfl rfl (by kernel_rfl) rfl) ?_
    refine AL_p (x_len (E := 152) (n := 10) rfl rfl (by kernel_rfl)) ?_
    refine AL_p (x_move rfl rfl) ?_
    refine AL_nil ?_
    refine AW_block ?_
    refine AW_loop2 (ι := {q : Nat // q ≤ r.body.length}) (fun p => [(4, .one (.own 102)), (23, .one (.c (.int .i64 ((p.1) : Int))))]) (fun p => [(102, some (.arr 9 strE (mapTo litText r.body (p.1)) true))]) [3, 21, 22] [100, 101] (fun p => r.body.length - (p.1)) ⟨0, by omega⟩ (rn []) ?_ ?_
    exact ⟨by (repeat refine ⟨⟨_, rfl, by first | exact VLe.rf | exact vle_int (by dsimp only; omega)⟩, ?_⟩); exact trivial, by (repeat refine ⟨⟨_, rfl, by first | exact BLe.rf | exact BLe.box AllC.rf | exact BLe.arr (by first | exact mapTo_zero | exact mapTo_more (by omega))⟩, ?_⟩); exact trivial, by repeat (first | exact trivial | refine ⟨⟨rfl, by first | (left; intro h; cases h) | (right; rfl), fun _ h => ⟨_, h⟩⟩, ?_⟩), rfl⟩
    rintro ⟨k, hinv⟩
    dsimp only
    have hk := hinv
    refine AW_seq ?_
    refine AW_region ?_
    refine AL_b (x_lss rfl rfl rfl) (fun b24 h24 => ?_)
    refine AL_nil ?_
    refine AW_seq ?_
    cases b24
    rotate_left
    · try simp only [decide_eq_true_eq, decide_eq_false_iff_not, Bool.not_eq_true, Bool.not_eq_false, Bool.not_eq_true', Bool.not_eq_false', beq_iff_eq, bne_iff_ne, beq_eq_false_iff_ne, bne_eq_false_iff_eq, Int.not_lt, Int.not_le, ge_iff_le, gt_iff_lt] at h24
      refine AW_condT rfl ?_
      refine AW_skip ?_
      refine AW_seq ?_
      refine AW_block ?_
      refine AW_seq ?_
      refine AW_region ?_
      refine AL_p (x_index (E := 152) (n := 10) rfl rfl rfl (by kernel_rfl) rfl (k := k) (by omega) (by omega)) ?_
      refine AL_p (x_eloadW (n := 10) rfl rfl (by kernel_rfl) rfl) ?_
      refine AL_p (x_alloc (z := .agg #[.int .i64 0, .string ⟨#[]⟩, .slice none 0 0, .int .i64 0, .string ⟨#[]⟩, .int .i64 0, .string ⟨#[]⟩, .string ⟨#[]⟩, .int .i64 0, .string ⟨#[]⟩]) 103 rfl (by kernel_rfl) rfl rfl rfl rfl) ?_
      refine AL_p (x_store (n := 10) rfl rfl rfl rfl (by kernel_rfl) rfl rfl rfl) ?_
      refine AL_nil ?_
      refine AW_region ?_
      refine AL_p (x_move rfl rfl) ?_
      refine AL_p (x_loadN (n := 10) rfl rfl rfl (by kernel_rfl) rfl rfl) ?_
      refine AL_p (x_call0 rfl rfl rfl (litTextI_c (r.body[k]'(by omega)) (hr1.2.2.2 _ (List.getElem_mem _))) rfl rfl) ?_
      refine AL_p (y_bslice (E := 9) (e := strE) [.tmp 29] ([litText (r.body[k]'(by omega))]) 104 rfl rfl rfl rfl rfl rfl rfl rfl FitL.rf rfl rfl rfl rfl rfl rfl (by kernel_rfl)) ?_
      refine AL_p (y_append 105 rfl rfl rfl rfl rfl rfl rfl rfl (by kernel_rfl) (by have := mapTo_len (f := litText) (xs := r.body) (k := k); simp only [List.length_cons, List.length_nil]; omega)) ?_
      refine AL_p (x_assign rfl rfl) ?_
      refine AL_nil ?_
      refine AW_region ?_
      refine AL_p (x_add rfl rfl rfl (IntWalk.i64_in _ (by omega))) ?_
      refine AL_p (x_move rfl rfl) ?_
      refine AL_nil ?_
      refine ⟨⟨k + 1, by omega⟩, rn [(102, 105)], ?_, by dsimp only; omega⟩
      exact ⟨by (repeat refine ⟨⟨_, rfl, by first | exact VLe.rf | exact vle_int (by dsimp only; omega)⟩, ?_⟩); exact trivial, by (repeat refine ⟨⟨_, rfl, by first | exact BLe.rf | exact BLe.box AllC.rf | exact BLe.arr (by first | exact mapTo_zero | exact mapTo_more (by omega))⟩, ?_⟩); exact trivial, by repeat (first | exact trivial | refine ⟨⟨rfl, by first | (left; intro h; cases h) | (right; rfl), fun _ h => ⟨_, h⟩⟩, ?_⟩), rfl⟩
    · try simp only [decide_eq_true_eq, decide_eq_false_iff_not, Bool.not_eq_true, Bool.not_eq_false, Bool.not_eq_true', Bool.not_eq_false', beq_iff_eq, bne_iff_ne, beq_eq_false_iff_ne, bne_eq_false_iff_eq, Int.not_lt, Int.not_le, ge_iff_le, gt_iff_lt] at h24
      have hml : (mapTo litText r.body k).length = r.body.length := by rw [mapTo_all (by omega), List.length_map]
      refine AW_condF rfl ?_
      refine AW_exit (BQ_hit ?_)
      refine AW_seq ?_
      refine AW_seq ?_
      refine AW_region ?_
      refine AL_p (x_move rfl rfl) ?_
      refine AL_p (x_olen (E := 9) (n := 1) rfl rfl rfl (by kernel_rfl)) ?_
      refine AL_b (x_gtr rfl rfl rfl) (fun b35 h35 => ?_)
      refine AL_nil ?_
      cases b35
      rotate_left
      · try simp only [decide_eq_true_eq, decide_eq_false_iff_not, Bool.not_eq_true, Bool.not_eq_false, Bool.not_eq_true', Bool.not_eq_false', beq_iff_eq, bne_iff_ne, beq_eq_false_iff_ne, bne_eq_false_iff_eq, Int.not_lt, Int.not_le, ge_iff_le, gt_iff_lt] at h35
        refine AW_condT rfl ?_
        refine AW_region ?_
        refine AL_p (x_move rfl rfl) ?_
        refine AL_p (x_move rfl rfl) ?_
        refine AL_p (x_callR rfl rfl rfl (join_c (mapTo litText r.body k) comma (by have := mapTo_len (f := litText) (xs := r.body) (k := k); omega) (by have := lits_map hr k; omega)) rfl AllV.rf rfl rfl rfl rfl rfl) ?_
        refine AL_p (x_sadd rfl rfl rfl (by have := lits_map hr k; (try simp only [size_app]); omega)) ?_
        refine AL_p (x_sadd rfl rfl rfl (by have := lits_map hr k; (try simp only [size_app]); omega)) ?_
        refine AL_p (x_assign rfl rfl) ?_
        refine AL_nil ?_
        refine AW_seq ?_
        refine AW_region ?_
        refine AL_p (x_move rfl rfl) ?_
        refine AL_p (x_sadd rfl rfl rfl (by have := lits_map hr k; (try simp only [size_app]); omega)) ?_
        refine AL_p (x_assign rfl rfl) ?_
        refine AL_nil ?_
        refine AW_ret ?_
        exact ⟨rn [], ⟨⟨⟨_, rfl, vle_str (by first | exact (ruleText_no h8).symm | (rw [ruleText_ok hr, bodyTo_some (k := k) (by omega) (by omega), hsg]; done) | (rw [ruleText_ok hr, bodyTo_some (k := k) (by omega) (by omega), hsg]; simp only [ByteArray.append_assoc, comma]; done) | (rw [ruleText_ok hr, bodyTo_none (by omega), hsg, app_nil]))⟩, trivial⟩, trivial, trivial, rfl⟩⟩
      · try simp only [decide_eq_true_eq, decide_eq_false_iff_not, Bool.not_eq_true, Bool.not_eq_false, Bool.not_eq_true', Bool.not_eq_false', beq_iff_eq, bne_iff_ne, beq_eq_false_iff_ne, bne_eq_false_iff_eq, Int.not_lt, Int.not_le, ge_iff_le, gt_iff_lt] at h35
        refine AW_condF rfl ?_
        refine AW_skip ?_
        refine AW_seq ?_
        refine AW_region ?_
        refine AL_p (x_move rfl rfl) ?_
        refine AL_p (x_sadd rfl rfl rfl (by have := lits_map hr k; (try simp only [size_app]); omega)) ?_
        refine AL_p (x_assign rfl rfl) ?_
        refine AL_nil ?_
        refine AW_ret ?_
        exact ⟨rn [], ⟨⟨⟨_, rfl, vle_str (by first | exact (ruleText_no h8).symm | (rw [ruleText_ok hr, bodyTo_some (k := k) (by omega) (by omega), hsg]; done) | (rw [ruleText_ok hr, bodyTo_some (k := k) (by omega) (by omega), hsg]; simp only [ByteArray.append_assoc, comma]; done) | (rw [ruleText_ok hr, bodyTo_none (by omega), hsg, app_nil]))⟩, trivial⟩, trivial, trivial, rfl⟩⟩
  · try simp only [decide_eq_true_eq, decide_eq_false_iff_not, Bool.not_eq_true, Bool.not_eq_false, Bool.not_eq_true', Bool.not_eq_false', beq_iff_eq, bne_iff_ne, beq_eq_false_iff_ne, bne_eq_false_iff_eq, Int.not_lt, Int.not_le, ge_iff_le, gt_iff_lt] at h8
    refine AW_condT rfl ?_
    refine AW_seq ?_
    refine AW_region ?_
    refine AL_p (x_assign rfl rfl) ?_
    refine AL_nil ?_
    refine AW_ret ?_
    exact ⟨rn [], ⟨⟨⟨_, rfl, vle_str (by first | exact (ruleText_no h8).symm | (rw [ruleText_ok hr, bodyTo_some (k := k) (by omega) (by omega), hsg]; done) | (rw [ruleText_ok hr, bodyTo_some (k := k) (by omega) (by omega), hsg]; simp only [ByteArray.append_assoc, comma]; done) | (rw [ruleText_ok hr, bodyTo_none (by omega), hsg, app_nil]))⟩, trivial⟩, trivial, trivial, rfl⟩⟩

set_option maxHeartbeats 4000000 in
theorem printProgS_c (pg : Programt) : AC Try.prog 46 [.agg (programC pg)] [] (.tup [.one (.c (.string (programText pg).1)), .one (.c (.bool (programText pg).2))]) [] := by
  refine AC_body2 Try.func46 rfl rfl Try.ntmps46 rfl Try.results46 rfl rfl rfl ?_
  refine AW_aggmax 0 0 rfl rfl (fun hm0_0 => ?_)
  refine AW_aggmax 0 1 rfl rfl (fun hm0_1 => ?_)
  refine AW_seq ?_
  refine AW_region ?_
  refine AL_p (x_box 100 rfl rfl rfl rfl rfl rfl rfl) ?_
  refine AL_p (x_assign rfl rfl) ?_
  refine AL_p (x_assign rfl rfl) ?_
  refine AL_nil ?_
  refine AW_seq ?_
  refine AW_seq ?_
  refine AW_region ?_
  refine AL_p (x_loadN (n := 2) rfl rfl rfl (by kernel_rfl) rfl rfl) ?_
  refine AL_b (x_call0 rfl rfl rfl (progS_c pg) rfl rfl) (fun b9 h9 => ?_)
  refine AL_p (x_not rfl rfl) ?_
  refine AL_nil ?_
  cases b9
  rotate_left
  · try simp only [decide_eq_true_eq, decide_eq_false_iff_not, Bool.not_eq_true, Bool.not_eq_false, Bool.not_eq_true', Bool.not_eq_false', beq_iff_eq, bne_iff_ne, beq_eq_false_iff_ne, bne_eq_false_iff_eq, Int.not_lt, Int.not_le, ge_iff_le, gt_iff_lt] at h9
    have hp := h9
    have hp1 := programB_parts h9
    refine AW_condF rfl ?_
    refine AW_skip ?_
    refine AW_seq ?_
    refine AW_region ?_
    refine AL_p (x_assign rfl rfl) ?_
    refine AL_nil ?_
    refine AW_seq ?_
    refine AW_seq ?_
    refine AW_region ?_
    refine AL_p (x_field (off := 0) (o' := 0) rfl rfl rfl (by kernel_rfl) rfl) ?_
    refine AL_p (x_load1 rfl rfl rfl (by kernel_rfl) rfl) ?_
    refine AL_p (x_len (E := 158) (n := 3) rfl rfl (by kernel_rfl)) ?_
    refine AL_p (x_move rfl rfl) ?_
    refine AL_nil ?_
    refine AW_block ?_
    refine AW_loop2 (ι := {q : Nat // q ≤ pg.decls.length}) (fun p => [(4, .one (.c (.string (catTo declText pg.decls (p.1))))), (14, .one (.c (.int .i64 ((p.1) : Int))))]) (fun p => []) [1, 12, 13] [100] (fun p => pg.decls.length - (p.1)) ⟨0, by omega⟩ (rn []) ?_ ?_
    exact ⟨by (repeat refine ⟨⟨_, rfl, by first | exact VLe.rf | exact vle_int (by dsimp only; omega) | exact vle_str (by first | (rw [catTo_zero]; done) | (rw [hcm, hsg]; simp only [declText, ByteArray.append_assoc]; done))⟩, ?_⟩); exact trivial, by (repeat refine ⟨⟨_, rfl, by first | exact BLe.rf | exact BLe.box AllC.rf | exact BLe.arr (by exact rfl)⟩, ?_⟩); exact trivial, by repeat (first | exact trivial | refine ⟨⟨rfl, by first | (left; intro h; cases h) | (right; rfl), fun _ h => ⟨_, h⟩⟩, ?_⟩), rfl⟩
    rintro ⟨k, hinv⟩
    dsimp only
    have hk := hinv
    refine AW_seq ?_
    refine AW_region ?_
    refine AL_b (x_lss rfl rfl rfl) (fun b15 h15 => ?_)
    refine AL_nil ?_
    refine AW_seq ?_
    cases b15
    rotate_left
    · try simp only [decide_eq_true_eq, decide_eq_false_iff_not, Bool.not_eq_true, Bool.not_eq_false, Bool.not_eq_true', Bool.not_eq_false', beq_iff_eq, bne_iff_ne, beq_eq_false_iff_ne, bne_eq_false_iff_eq, Int.not_lt, Int.not_le, ge_iff_le, gt_iff_lt] at h15
      have hd := declB_parts (hp1.2.2 (pg.decls[k]'(by omega)) (List.getElem_mem _))
      have hs := declList_get (k := (pg.decls[k]'(by omega)).kind.toNat) (declList_lt (by omega))
      have hsg := declWord_at (op := (pg.decls[k]'(by omega)).kind) (k := (pg.decls[k]'(by omega)).kind.toNat) (declList_lt (by omega)) rfl
      have hn := numText_size (pg.decls[k]'(by omega)).arity
      have hc := decls_le hp hk
      have : (⟨#[40]⟩ : ByteArray).size = 1 := rfl
      have : (⟨#[41]⟩ : ByteArray).size = 1 := rfl
      have : (⟨#[44, 32]⟩ : ByteArray).size = 2 := rfl
      have : (⟨#[32]⟩ : ByteArray).size = 1 := rfl
      have : (⟨#[46]⟩ : ByteArray).size = 1 := rfl
      have : (⟨#[110, 111, 116, 32]⟩ : ByteArray).size = 4 := rfl
      have : (⟨#[32, 58, 45, 32]⟩ : ByteArray).size = 4 := rfl
      have : (⟨#[47]⟩ : ByteArray).size = 1 := rfl
      have : (⟨#[46, 10]⟩ : ByteArray).size = 2 := rfl
      have hcm := catTo_more (f := declText) (xs := pg.decls) (k := k) (by omega)
      refine AW_condT rfl ?_
      refine AW_skip ?_
      refine AW_seq ?_
      refine AW_block ?_
      refine AW_seq ?_
      refine AW_region ?_
      refine AL_p (x_index (E := 158) (n := 3) rfl rfl rfl (by kernel_rfl) rfl (k := k) (by omega) (by omega)) ?_
      refine AL_p (x_eloadW (n := 3) rfl rfl (by kernel_rfl) rfl) ?_
      refine AL_p (x_alloc (z := .agg #[.int .i64 0, .string ⟨#[]⟩, .int .i64 0]) 101 rfl (by kernel_rfl) rfl rfl rfl rfl) ?_
      refine AL_p (x_store (n := 3) rfl rfl rfl rfl (by kernel_rfl) rfl rfl rfl) ?_
      refine AL_nil ?_
      refine AW_draw rfl ?_
      refine AL_p (x_move rfl rfl) ?_
      refine AL_p (y_bslice (E := 9) (e := strE) [.const (.string ⟨#[]⟩), .const (.string ⟨#[115, 116, 97, 116, 101]⟩), .const (.string ⟨#[101, 118, 101, 110, 116]⟩), .const (.string ⟨#[118, 105, 101, 119]⟩)] (declList) 102 rfl rfl rfl rfl rfl rfl rfl rfl FitL.rf rfl rfl rfl rfl rfl rfl (by kernel_rfl)) ?_
      refine AL_p (x_field (off := 0) (o' := 0) rfl rfl rfl (by kernel_rfl) rfl) ?_
      refine AL_p (x_load1 rfl rfl rfl (by kernel_rfl) rfl) ?_
      refine AL_p (x_oindex (n := 1) rfl rfl rfl rfl (by kernel_rfl) rfl (k := (pg.decls[k]'(by omega)).kind.toNat) (by omega) (declList_lt (by omega))) ?_
      refine AL_p (x_oload1 rfl rfl rfl (by kernel_rfl) (declList_lt (by omega)) rfl) ?_
      refine AL_p (x_sadd rfl rfl rfl (by (try simp only [size_app]); omega)) ?_
      refine AL_p (x_sadd rfl rfl rfl (by (try simp only [size_app]); omega)) ?_
      refine AL_p (x_field (off := 1) (o' := 1) rfl rfl rfl (by kernel_rfl) rfl) ?_
      refine AL_p (x_load1 rfl rfl rfl (by kernel_rfl) rfl) ?_
      refine AL_p (x_sadd rfl rfl rfl (by (try simp only [size_app]); omega)) ?_
      refine AL_p (x_sadd rfl rfl rfl (by (try simp only [size_app]); omega)) ?_
      refine AL_p (x_field (off := 2) (o' := 2) rfl rfl rfl (by kernel_rfl) rfl) ?_
      refine AL_p (x_load1 rfl rfl rfl (by kernel_rfl) rfl) ?_
      refine AL_p (x_call0 rfl rfl rfl (numTextS_c _) rfl rfl) ?_
      refine AL_p (x_sadd rfl rfl rfl (by (try simp only [size_app]); omega)) ?_
      refine AL_p (x_sadd rfl rfl rfl (by (try simp only [size_app]); omega)) ?_
      refine AL_p (x_assign rfl rfl) ?_
      refine AL_nild (by kernel_rfl) ?_
      refine AW_region ?_
      refine AL_p (x_add rfl rfl rfl (IntWalk.i64_in _ (by omega))) ?_
      refine AL_p (x_move rfl rfl) ?_
      refine AL_nil ?_
      refine ⟨⟨k + 1, by omega⟩, rn [], ?_, by dsimp only; omega⟩
      exact ⟨by (repeat refine ⟨⟨_, rfl, by first | exact VLe.rf | exact vle_int (by dsimp only; omega) | exact vle_str (by first | (rw [catTo_zero]; done) | (rw [hcm, hsg]; simp only [declText, ByteArray.append_assoc]; done))⟩, ?_⟩); exact trivial, by (repeat refine ⟨⟨_, rfl, by first | exact BLe.rf | exact BLe.box AllC.rf | exact BLe.arr (by exact rfl)⟩, ?_⟩); exact trivial, by repeat (first | exact trivial | refine ⟨⟨rfl, by first | (left; intro h; cases h) | (right; rfl), fun _ h => ⟨_, h⟩⟩, ?_⟩), rfl⟩
    · try simp only [decide_eq_true_eq, decide_eq_false_iff_not, Bool.not_eq_true, Bool.not_eq_false, Bool.not_eq_true', Bool.not_eq_false', beq_iff_eq, bne_iff_ne, beq_eq_false_iff_ne, bne_eq_false_iff_eq, Int.not_lt, Int.not_le, ge_iff_le, gt_iff_lt] at h15
      refine AW_condF rfl ?_
      refine AW_exit (BQ_hit ?_)
      refine AW_seq ?_
      refine AW_seq ?_
      refine AW_region ?_
      refine AL_p (x_field (off := 1) (o' := 1) rfl rfl rfl (by kernel_rfl) rfl) ?_
      refine AL_p (x_load1 rfl rfl rfl (by kernel_rfl) rfl) ?_
      refine AL_p (x_len (E := 83) (n := 4) rfl rfl (by kernel_rfl)) ?_
      refine AL_p (x_move rfl rfl) ?_
      refine AL_nil ?_
      refine AW_block ?_
      refine AW_loop2 (ι := {q : Nat // pg.decls.length = pg.decls.length ∧ q ≤ pg.rules.length}) (fun p => [(4, .one (.c (.string (progBody pg pg.decls.length (p.1))))), (39, .one (.c (.int .i64 ((p.1) : Int))))]) (fun p => []) [1, 38] [100] (fun p => pg.rules.length - (p.1)) ⟨0, ⟨rfl, by omega⟩⟩ (rn []) ?_ ?_
      exact ⟨by (repeat refine ⟨⟨_, rfl, by first | exact VLe.rf | exact vle_int (by dsimp only; omega) | exact vle_str (by first | (unfold progBody; rw [catTo_zero, app_nil, show pg.decls.length = k by omega]; done) | (unfold progBody; rw [catTo_zero, app_nil]; done) | (unfold progBody; rw [catTo_more (f := lineText) (xs := pg.rules) (k := j) (by omega)]; simp only [lineText, ByteArray.append_assoc]; done))⟩, ?_⟩); exact trivial, by (repeat refine ⟨⟨_, rfl, by first | exact BLe.rf | exact BLe.box AllC.rf | exact BLe.arr (by exact rfl)⟩, ?_⟩); exact trivial, by repeat (first | exact trivial | refine ⟨⟨rfl, by first | (left; intro h; cases h) | (right; rfl), fun _ h => ⟨_, h⟩⟩, ?_⟩), rfl⟩
      rintro ⟨j, hinv⟩
      dsimp only
      have hk := hinv.1
      have hj := hinv.2
      have hc := decls_le hp (Nat.le_of_eq hk)
      have hc2 := rules_le hp hj
      have : (⟨#[10]⟩ : ByteArray).size = 1 := rfl
      refine AW_seq ?_
      refine AW_region ?_
      refine AL_b (x_lss rfl rfl rfl) (fun b40 h40 => ?_)
      refine AL_nil ?_
      refine AW_seq ?_
      cases b40
      rotate_left
      · try simp only [decide_eq_true_eq, decide_eq_false_iff_not, Bool.not_eq_true, Bool.not_eq_false, Bool.not_eq_true', Bool.not_eq_false', beq_iff_eq, bne_iff_ne, beq_eq_false_iff_ne, bne_eq_false_iff_eq, Int.not_lt, Int.not_le, ge_iff_le, gt_iff_lt] at h40
        refine AW_condT rfl ?_
        refine AW_skip ?_
        refine AW_seq ?_
        refine AW_block ?_
        refine AW_seq ?_
        refine AW_region ?_
        refine AL_p (x_move rfl rfl) ?_
        refine AL_p (x_assign rfl rfl) ?_
        refine AL_nil ?_
        refine AW_region ?_
        refine AL_p (x_move rfl rfl) ?_
        refine AL_p (x_field (off := 1) (o' := 1) rfl rfl rfl (by kernel_rfl) rfl) ?_
        refine AL_p (x_load1 rfl rfl rfl (by kernel_rfl) rfl) ?_
        refine AL_p (x_move rfl rfl) ?_
        refine AL_p (x_index (E := 83) (n := 4) rfl rfl rfl (by kernel_rfl) rfl (k := j) (by omega) (by omega)) ?_
        refine AL_p (x_eloadW (n := 4) rfl rfl (by kernel_rfl) rfl) ?_
        refine AL_p (x_call0 rfl rfl rfl (printRuleS_c (pg.rules[j]'(by omega))) rfl rfl) ?_
        refine AL_p (x_sadd rfl rfl rfl (by have := ruleText_le (pg.rules[j]'(by omega)); (try simp only [size_app, progBody]); omega)) ?_
        refine AL_p (x_sadd rfl rfl rfl (by have := ruleText_le (pg.rules[j]'(by omega)); (try simp only [size_app, progBody]); omega)) ?_
        refine AL_p (x_assign rfl rfl) ?_
        refine AL_nil ?_
        refine AW_region ?_
        refine AL_p (x_add rfl rfl rfl (IntWalk.i64_in _ (by omega))) ?_
        refine AL_p (x_move rfl rfl) ?_
        refine AL_nil ?_
        refine ⟨⟨j + 1, ⟨rfl, by omega⟩⟩, rn [], ?_, by dsimp only; omega⟩
        exact ⟨by (repeat refine ⟨⟨_, rfl, by first | exact VLe.rf | exact vle_int (by dsimp only; omega) | exact vle_str (by first | (unfold progBody; rw [catTo_zero, app_nil, show pg.decls.length = k by omega]; done) | (unfold progBody; rw [catTo_zero, app_nil]; done) | (unfold progBody; rw [catTo_more (f := lineText) (xs := pg.rules) (k := j) (by omega)]; simp only [lineText, ByteArray.append_assoc]; done))⟩, ?_⟩); exact trivial, by (repeat refine ⟨⟨_, rfl, by first | exact BLe.rf | exact BLe.box AllC.rf | exact BLe.arr (by exact rfl)⟩, ?_⟩); exact trivial, by repeat (first | exact trivial | refine ⟨⟨rfl, by first | (left; intro h; cases h) | (right; rfl), fun _ h => ⟨_, h⟩⟩, ?_⟩), rfl⟩
      · try simp only [decide_eq_true_eq, decide_eq_false_iff_not, Bool.not_eq_true, Bool.not_eq_false, Bool.not_eq_true', Bool.not_eq_false', beq_iff_eq, bne_iff_ne, beq_eq_false_iff_ne, bne_eq_false_iff_eq, Int.not_lt, Int.not_le, ge_iff_le, gt_iff_lt] at h40
        refine AW_condF rfl ?_
        refine AW_exit (BQ_hit ?_)
        refine AW_seq ?_
        refine AW_seq ?_
        refine AW_region ?_
        refine AL_p (x_move rfl rfl) ?_
        refine AL_p (x_lens rfl rfl (by kernel_rfl)) ?_
        refine AL_b (x_gtr rfl rfl rfl) (fun b54 h54 => ?_)
        refine AL_nil ?_
        cases b54
        rotate_left
        · try simp only [decide_eq_true_eq, decide_eq_false_iff_not, Bool.not_eq_true, Bool.not_eq_false, Bool.not_eq_true', Bool.not_eq_false', beq_iff_eq, bne_iff_ne, beq_eq_false_iff_ne, bne_eq_false_iff_eq, Int.not_lt, Int.not_le, ge_iff_le, gt_iff_lt] at h54
          have hno := programText_big hp (i := pg.decls.length) (j := j) rfl (by omega) (by omega)
          refine AW_condT rfl ?_
          refine AW_seq ?_
          refine AW_region ?_
          refine AL_p (x_assign rfl rfl) ?_
          refine AL_p (x_assign rfl rfl) ?_
          refine AL_nil ?_
          refine AW_ret ?_
          exact ⟨rn [], ⟨⟨⟨_, rfl, vle_str (by rw [hno])⟩, ⟨_, rfl, vle_bool (by rw [hno])⟩, trivial⟩, trivial, trivial, rfl⟩⟩
        · try simp only [decide_eq_true_eq, decide_eq_false_iff_not, Bool.not_eq_true, Bool.not_eq_false, Bool.not_eq_true', Bool.not_eq_false', beq_iff_eq, bne_iff_ne, beq_eq_false_iff_ne, bne_eq_false_iff_eq, Int.not_lt, Int.not_le, ge_iff_le, gt_iff_lt] at h54
          have hno := programText_ok hp (i := pg.decls.length) (j := j) rfl (by omega) (by omega)
          refine AW_condF rfl ?_
          refine AW_skip ?_
          refine AW_seq ?_
          refine AW_region ?_
          refine AL_p (x_move rfl rfl) ?_
          refine AL_p (x_assign rfl rfl) ?_
          refine AL_p (x_assign rfl rfl) ?_
          refine AL_nil ?_
          refine AW_ret ?_
          exact ⟨rn [], ⟨⟨⟨_, rfl, vle_str (by rw [hno])⟩, ⟨_, rfl, vle_bool (by rw [hno])⟩, trivial⟩, trivial, trivial, rfl⟩⟩
  · try simp only [decide_eq_true_eq, decide_eq_false_iff_not, Bool.not_eq_true, Bool.not_eq_false, Bool.not_eq_true', Bool.not_eq_false', beq_iff_eq, bne_iff_ne, beq_eq_false_iff_ne, bne_eq_false_iff_eq, Int.not_lt, Int.not_le, ge_iff_le, gt_iff_lt] at h9
    have hno := programText_no h9
    refine AW_condT rfl ?_
    refine AW_seq ?_
    refine AW_region ?_
    refine AL_p (x_assign rfl rfl) ?_
    refine AL_p (x_assign rfl rfl) ?_
    refine AL_nil ?_
    refine AW_ret ?_
    exact ⟨rn [], ⟨⟨⟨_, rfl, vle_str (by rw [hno])⟩, ⟨_, rfl, vle_bool (by rw [hno])⟩, trivial⟩, trivial, trivial, rfl⟩⟩

set_option maxHeartbeats 4000000 in
theorem printProgI_c (pg : Programt) : AC Try.prog 47 [.agg (programC pg)] [] (.tup [.one (.c (.string (programText pg).1)), .one (.c (.bool (programText pg).2))]) [] := by
  refine AC_body2 Try.func47 rfl rfl Try.ntmps47 rfl Try.results47 rfl rfl rfl ?_
  refine AW_aggmax 0 0 rfl rfl (fun hm0_0 => ?_)
  refine AW_aggmax 0 1 rfl rfl (fun hm0_1 => ?_)
  refine AW_seq ?_
  refine AW_region ?_
  refine AL_p (x_box 100 rfl rfl rfl rfl rfl rfl rfl) ?_
  refine AL_p (x_assign rfl rfl) ?_
  refine AL_p (x_assign rfl rfl) ?_
  refine AL_nil ?_
  refine AW_seq ?_
  refine AW_seq ?_
  refine AW_region ?_
  refine AL_p (x_loadN (n := 2) rfl rfl rfl (by kernel_rfl) rfl rfl) ?_
  refine AL_b (x_call0 rfl rfl rfl (progI_c pg) rfl rfl) (fun b10 h10 => ?_)
  refine AL_p (x_not rfl rfl) ?_
  refine AL_nil ?_
  cases b10
  rotate_left
  · try simp only [decide_eq_true_eq, decide_eq_false_iff_not, Bool.not_eq_true, Bool.not_eq_false, Bool.not_eq_true', Bool.not_eq_false', beq_iff_eq, bne_iff_ne, beq_eq_false_iff_ne, bne_eq_false_iff_eq, Int.not_lt, Int.not_le, ge_iff_le, gt_iff_lt] at h10
    have hp := h10
    have hp1 := programB_parts h10
    refine AW_condF rfl ?_
    refine AW_skip ?_
    refine AW_seq ?_
    refine AW_region ?_
    refine AL_p (x_assign rfl rfl) ?_
    refine AL_nil ?_
    refine AW_seq ?_
    refine AW_seq ?_
    refine AW_region ?_
    refine AL_p (x_field (off := 0) (o' := 0) rfl rfl rfl (by kernel_rfl) rfl) ?_
    refine AL_p (x_load1 rfl rfl rfl (by kernel_rfl) rfl) ?_
    refine AL_p (x_len (E := 158) (n := 3) rfl rfl (by kernel_rfl)) ?_
    refine AL_p (x_move rfl rfl) ?_
    refine AL_nil ?_
    refine AW_block ?_
    refine AW_loop2 (ι := {q : Nat // q ≤ pg.decls.length}) (fun p => [(4, .one (.c (.string (catTo declText pg.decls (p.1))))), (15, .one (.c (.int .i64 ((p.1) : Int))))]) (fun p => []) [1, 13, 14] [100] (fun p => pg.decls.length - (p.1)) ⟨0, by omega⟩ (rn []) ?_ ?_
    exact ⟨by (repeat refine ⟨⟨_, rfl, by first | exact VLe.rf | exact vle_int (by dsimp only; omega) | exact vle_str (by first | (rw [catTo_zero]; done) | (rw [hcm, hsg]; simp only [declText, ByteArray.append_assoc]; done))⟩, ?_⟩); exact trivial, by (repeat refine ⟨⟨_, rfl, by first | exact BLe.rf | exact BLe.box AllC.rf | exact BLe.arr (by exact rfl)⟩, ?_⟩); exact trivial, by repeat (first | exact trivial | refine ⟨⟨rfl, by first | (left; intro h; cases h) | (right; rfl), fun _ h => ⟨_, h⟩⟩, ?_⟩), rfl⟩
    rintro ⟨k, hinv⟩
    dsimp only
    have hk := hinv
    refine AW_seq ?_
    refine AW_region ?_
    refine AL_b (x_lss rfl rfl rfl) (fun b16 h16 => ?_)
    refine AL_nil ?_
    refine AW_seq ?_
    cases b16
    rotate_left
    · try simp only [decide_eq_true_eq, decide_eq_false_iff_not, Bool.not_eq_true, Bool.not_eq_false, Bool.not_eq_true', Bool.not_eq_false', beq_iff_eq, bne_iff_ne, beq_eq_false_iff_ne, bne_eq_false_iff_eq, Int.not_lt, Int.not_le, ge_iff_le, gt_iff_lt] at h16
      have hd := declB_parts (hp1.2.2 (pg.decls[k]'(by omega)) (List.getElem_mem _))
      have hs := declList_get (k := (pg.decls[k]'(by omega)).kind.toNat) (declList_lt (by omega))
      have hsg := declWord_at (op := (pg.decls[k]'(by omega)).kind) (k := (pg.decls[k]'(by omega)).kind.toNat) (declList_lt (by omega)) rfl
      have hn := numText_size (pg.decls[k]'(by omega)).arity
      have hc := decls_le hp hk
      have : (⟨#[40]⟩ : ByteArray).size = 1 := rfl
      have : (⟨#[41]⟩ : ByteArray).size = 1 := rfl
      have : (⟨#[44, 32]⟩ : ByteArray).size = 2 := rfl
      have : (⟨#[32]⟩ : ByteArray).size = 1 := rfl
      have : (⟨#[46]⟩ : ByteArray).size = 1 := rfl
      have : (⟨#[110, 111, 116, 32]⟩ : ByteArray).size = 4 := rfl
      have : (⟨#[32, 58, 45, 32]⟩ : ByteArray).size = 4 := rfl
      have : (⟨#[47]⟩ : ByteArray).size = 1 := rfl
      have : (⟨#[46, 10]⟩ : ByteArray).size = 2 := rfl
      have hcm := catTo_more (f := declText) (xs := pg.decls) (k := k) (by omega)
      refine AW_condT rfl ?_
      refine AW_skip ?_
      refine AW_seq ?_
      refine AW_block ?_
      refine AW_seq ?_
      refine AW_region ?_
      refine AL_p (x_index (E := 158) (n := 3) rfl rfl rfl (by kernel_rfl) rfl (k := k) (by omega) (by omega)) ?_
      refine AL_p (x_eloadW (n := 3) rfl rfl (by kernel_rfl) rfl) ?_
      refine AL_p (x_alloc (z := .agg #[.int .i64 0, .string ⟨#[]⟩, .int .i64 0]) 101 rfl (by kernel_rfl) rfl rfl rfl rfl) ?_
      refine AL_p (x_store (n := 3) rfl rfl rfl rfl (by kernel_rfl) rfl rfl rfl) ?_
      refine AL_nil ?_
      refine AW_draw rfl ?_
      refine AL_p (x_move rfl rfl) ?_
      refine AL_p (y_bslice (E := 9) (e := strE) [.const (.string ⟨#[]⟩), .const (.string ⟨#[115, 116, 97, 116, 101]⟩), .const (.string ⟨#[101, 118, 101, 110, 116]⟩), .const (.string ⟨#[118, 105, 101, 119]⟩)] (declList) 102 rfl rfl rfl rfl rfl rfl rfl rfl FitL.rf rfl rfl rfl rfl rfl rfl (by kernel_rfl)) ?_
      refine AL_p (x_field (off := 0) (o' := 0) rfl rfl rfl (by kernel_rfl) rfl) ?_
      refine AL_p (x_load1 rfl rfl rfl (by kernel_rfl) rfl) ?_
      refine AL_p (x_oindex (n := 1) rfl rfl rfl rfl (by kernel_rfl) rfl (k := (pg.decls[k]'(by omega)).kind.toNat) (by omega) (declList_lt (by omega))) ?_
      refine AL_p (x_oload1 rfl rfl rfl (by kernel_rfl) (declList_lt (by omega)) rfl) ?_
      refine AL_p (x_sadd rfl rfl rfl (by (try simp only [size_app]); omega)) ?_
      refine AL_p (x_field (off := 1) (o' := 1) rfl rfl rfl (by kernel_rfl) rfl) ?_
      refine AL_p (x_load1 rfl rfl rfl (by kernel_rfl) rfl) ?_
      refine AL_p (x_sadd rfl rfl rfl (by (try simp only [size_app]); omega)) ?_
      refine AL_p (x_sadd rfl rfl rfl (by (try simp only [size_app]); omega)) ?_
      refine AL_p (x_field (off := 2) (o' := 2) rfl rfl rfl (by kernel_rfl) rfl) ?_
      refine AL_p (x_load1 rfl rfl rfl (by kernel_rfl) rfl) ?_
      refine AL_p (x_call0 rfl rfl rfl (numTextI_c _) rfl rfl) ?_
      refine AL_p (x_sadd rfl rfl rfl (by (try simp only [size_app]); omega)) ?_
      refine AL_p (x_sadd rfl rfl rfl (by (try simp only [size_app]); omega)) ?_
      refine AL_p (x_sadd rfl rfl rfl (by (try simp only [size_app]); omega)) ?_
      refine AL_p (x_assign rfl rfl) ?_
      refine AL_nild (by kernel_rfl) ?_
      refine AW_region ?_
      refine AL_p (x_add rfl rfl rfl (IntWalk.i64_in _ (by omega))) ?_
      refine AL_p (x_move rfl rfl) ?_
      refine AL_nil ?_
      refine ⟨⟨k + 1, by omega⟩, rn [], ?_, by dsimp only; omega⟩
      exact ⟨by (repeat refine ⟨⟨_, rfl, by first | exact VLe.rf | exact vle_int (by dsimp only; omega) | exact vle_str (by first | (rw [catTo_zero]; done) | (rw [hcm, hsg]; simp only [declText, ByteArray.append_assoc]; done))⟩, ?_⟩); exact trivial, by (repeat refine ⟨⟨_, rfl, by first | exact BLe.rf | exact BLe.box AllC.rf | exact BLe.arr (by exact rfl)⟩, ?_⟩); exact trivial, by repeat (first | exact trivial | refine ⟨⟨rfl, by first | (left; intro h; cases h) | (right; rfl), fun _ h => ⟨_, h⟩⟩, ?_⟩), rfl⟩
    · try simp only [decide_eq_true_eq, decide_eq_false_iff_not, Bool.not_eq_true, Bool.not_eq_false, Bool.not_eq_true', Bool.not_eq_false', beq_iff_eq, bne_iff_ne, beq_eq_false_iff_ne, bne_eq_false_iff_eq, Int.not_lt, Int.not_le, ge_iff_le, gt_iff_lt] at h16
      refine AW_condF rfl ?_
      refine AW_exit (BQ_hit ?_)
      refine AW_seq ?_
      refine AW_seq ?_
      refine AW_region ?_
      refine AL_p (x_field (off := 1) (o' := 1) rfl rfl rfl (by kernel_rfl) rfl) ?_
      refine AL_p (x_load1 rfl rfl rfl (by kernel_rfl) rfl) ?_
      refine AL_p (x_len (E := 83) (n := 4) rfl rfl (by kernel_rfl)) ?_
      refine AL_p (x_move rfl rfl) ?_
      refine AL_nil ?_
      refine AW_block ?_
      refine AW_loop2 (ι := {q : Nat // pg.decls.length = pg.decls.length ∧ q ≤ pg.rules.length}) (fun p => [(4, .one (.c (.string (progBody pg pg.decls.length (p.1))))), (40, .one (.c (.int .i64 ((p.1) : Int))))]) (fun p => []) [38, 39] [100] (fun p => pg.rules.length - (p.1)) ⟨0, ⟨rfl, by omega⟩⟩ (rn []) ?_ ?_
      exact ⟨by (repeat refine ⟨⟨_, rfl, by first | exact VLe.rf | exact vle_int (by dsimp only; omega) | exact vle_str (by first | (unfold progBody; rw [catTo_zero, app_nil, show pg.decls.length = k by omega]; done) | (unfold progBody; rw [catTo_zero, app_nil]; done) | (unfold progBody; rw [catTo_more (f := lineText) (xs := pg.rules) (k := j) (by omega)]; simp only [lineText, ByteArray.append_assoc]; done))⟩, ?_⟩); exact trivial, by (repeat refine ⟨⟨_, rfl, by first | exact BLe.rf | exact BLe.box AllC.rf | exact BLe.arr (by exact rfl)⟩, ?_⟩); exact trivial, by repeat (first | exact trivial | refine ⟨⟨rfl, by first | (left; intro h; cases h) | (right; rfl), fun _ h => ⟨_, h⟩⟩, ?_⟩), rfl⟩
      rintro ⟨j, hinv⟩
      dsimp only
      have hk := hinv.1
      have hj := hinv.2
      have hc := decls_le hp (Nat.le_of_eq hk)
      have hc2 := rules_le hp hj
      have : (⟨#[10]⟩ : ByteArray).size = 1 := rfl
      refine AW_seq ?_
      refine AW_region ?_
      refine AL_b (x_lss rfl rfl rfl) (fun b41 h41 => ?_)
      refine AL_nil ?_
      refine AW_seq ?_
      cases b41
      rotate_left
      · try simp only [decide_eq_true_eq, decide_eq_false_iff_not, Bool.not_eq_true, Bool.not_eq_false, Bool.not_eq_true', Bool.not_eq_false', beq_iff_eq, bne_iff_ne, beq_eq_false_iff_ne, bne_eq_false_iff_eq, Int.not_lt, Int.not_le, ge_iff_le, gt_iff_lt] at h41
        refine AW_condT rfl ?_
        refine AW_skip ?_
        refine AW_seq ?_
        refine AW_block ?_
        refine AW_seq ?_
        refine AW_region ?_
        refine AL_p (x_index (E := 83) (n := 4) rfl rfl rfl (by kernel_rfl) rfl (k := j) (by omega) (by omega)) ?_
        refine AL_p (x_eloadW (n := 4) rfl rfl (by kernel_rfl) rfl) ?_
        refine AL_p (x_alloc (z := .agg #[.int .i64 0, .string ⟨#[]⟩, .slice none 0 0, .slice none 0 0]) 103 rfl (by kernel_rfl) rfl rfl rfl rfl) ?_
        refine AL_p (x_store (n := 4) rfl rfl rfl rfl (by kernel_rfl) rfl rfl rfl) ?_
        refine AL_nil ?_
        refine AW_region ?_
        refine AL_p (x_move rfl rfl) ?_
        refine AL_p (x_loadN (n := 4) rfl rfl rfl (by kernel_rfl) rfl rfl) ?_
        refine AL_p (x_call0 rfl rfl rfl (printRuleI_c (pg.rules[j]'(by omega))) rfl rfl) ?_
        refine AL_p (x_sadd rfl rfl rfl (by have := ruleText_le (pg.rules[j]'(by omega)); (try simp only [size_app, progBody]); omega)) ?_
        refine AL_p (x_sadd rfl rfl rfl (by have := ruleText_le (pg.rules[j]'(by omega)); (try simp only [size_app, progBody]); omega)) ?_
        refine AL_p (x_assign rfl rfl) ?_
        refine AL_nil ?_
        refine AW_region ?_
        refine AL_p (x_add rfl rfl rfl (IntWalk.i64_in _ (by omega))) ?_
        refine AL_p (x_move rfl rfl) ?_
        refine AL_nil ?_
        refine ⟨⟨j + 1, ⟨rfl, by omega⟩⟩, rn [], ?_, by dsimp only; omega⟩
        exact ⟨by (repeat refine ⟨⟨_, rfl, by first | exact VLe.rf | exact vle_int (by dsimp only; omega) | exact vle_str (by first | (unfold progBody; rw [catTo_zero, app_nil, show pg.decls.length = k by omega]; done) | (unfold progBody; rw [catTo_zero, app_nil]; done) | (unfold progBody; rw [catTo_more (f := lineText) (xs := pg.rules) (k := j) (by omega)]; simp only [lineText, ByteArray.append_assoc]; done))⟩, ?_⟩); exact trivial, by (repeat refine ⟨⟨_, rfl, by first | exact BLe.rf | exact BLe.box AllC.rf | exact BLe.arr (by exact rfl)⟩, ?_⟩); exact trivial, by repeat (first | exact trivial | refine ⟨⟨rfl, by first | (left; intro h; cases h) | (right; rfl), fun _ h => ⟨_, h⟩⟩, ?_⟩), rfl⟩
      · try simp only [decide_eq_true_eq, decide_eq_false_iff_not, Bool.not_eq_true, Bool.not_eq_false, Bool.not_eq_true', Bool.not_eq_false', beq_iff_eq, bne_iff_ne, beq_eq_false_iff_ne, bne_eq_false_iff_eq, Int.not_lt, Int.not_le, ge_iff_le, gt_iff_lt] at h41
        refine AW_condF rfl ?_
        refine AW_exit (BQ_hit ?_)
        refine AW_seq ?_
        refine AW_seq ?_
        refine AW_region ?_
        refine AL_p (x_move rfl rfl) ?_
        refine AL_p (x_lens rfl rfl (by kernel_rfl)) ?_
        refine AL_b (x_gtr rfl rfl rfl) (fun b52 h52 => ?_)
        refine AL_nil ?_
        cases b52
        rotate_left
        · try simp only [decide_eq_true_eq, decide_eq_false_iff_not, Bool.not_eq_true, Bool.not_eq_false, Bool.not_eq_true', Bool.not_eq_false', beq_iff_eq, bne_iff_ne, beq_eq_false_iff_ne, bne_eq_false_iff_eq, Int.not_lt, Int.not_le, ge_iff_le, gt_iff_lt] at h52
          have hno := programText_big hp (i := pg.decls.length) (j := j) rfl (by omega) (by omega)
          refine AW_condT rfl ?_
          refine AW_seq ?_
          refine AW_region ?_
          refine AL_p (x_assign rfl rfl) ?_
          refine AL_p (x_assign rfl rfl) ?_
          refine AL_nil ?_
          refine AW_ret ?_
          exact ⟨rn [], ⟨⟨⟨_, rfl, vle_str (by rw [hno])⟩, ⟨_, rfl, vle_bool (by rw [hno])⟩, trivial⟩, trivial, trivial, rfl⟩⟩
        · try simp only [decide_eq_true_eq, decide_eq_false_iff_not, Bool.not_eq_true, Bool.not_eq_false, Bool.not_eq_true', Bool.not_eq_false', beq_iff_eq, bne_iff_ne, beq_eq_false_iff_ne, bne_eq_false_iff_eq, Int.not_lt, Int.not_le, ge_iff_le, gt_iff_lt] at h52
          have hno := programText_ok hp (i := pg.decls.length) (j := j) rfl (by omega) (by omega)
          refine AW_condF rfl ?_
          refine AW_skip ?_
          refine AW_seq ?_
          refine AW_region ?_
          refine AL_p (x_move rfl rfl) ?_
          refine AL_p (x_assign rfl rfl) ?_
          refine AL_p (x_assign rfl rfl) ?_
          refine AL_nil ?_
          refine AW_ret ?_
          exact ⟨rn [], ⟨⟨⟨_, rfl, vle_str (by rw [hno])⟩, ⟨_, rfl, vle_bool (by rw [hno])⟩, trivial⟩, trivial, trivial, rfl⟩⟩
  · try simp only [decide_eq_true_eq, decide_eq_false_iff_not, Bool.not_eq_true, Bool.not_eq_false, Bool.not_eq_true', Bool.not_eq_false', beq_iff_eq, bne_iff_ne, beq_eq_false_iff_ne, bne_eq_false_iff_eq, Int.not_lt, Int.not_le, ge_iff_le, gt_iff_lt] at h10
    have hno := programText_no h10
    refine AW_condT rfl ?_
    refine AW_seq ?_
    refine AW_region ?_
    refine AL_p (x_assign rfl rfl) ?_
    refine AL_p (x_assign rfl rfl) ?_
    refine AL_nil ?_
    refine AW_ret ?_
    exact ⟨rn [], ⟨⟨⟨_, rfl, vle_str (by rw [hno])⟩, ⟨_, rfl, vle_bool (by rw [hno])⟩, trivial⟩, trivial, trivial, rfl⟩⟩
end Go.Proofs.Ytgmlecghklaomaa

/- The walk of FnExactPrintRule (printed by walk.py) -/
namespace Go.Proofs.Ytgmlecghklaomaa
open Go.RowKit
set_option linter.unusedVariables false
set_option linter.unusedSimpArgs false
set_option maxRecDepth 100000

set_option maxHeartbeats 4000000 in
theorem lawFnExactPrintRule.walk (w : World) (c0 : Array Value) (x0 : Rulet) (b0 : List Nat) (h0 : ruleE.rep w c0.toList x0 b0) :
    Calls Try.prog 9 #[.agg c0] w fun e w' => e = .returned (.bool true) ∧ Below w.heap.size w w' := by
  refine AM_law (r := 2) Try.func9 rfl Try.ntmps9 rfl Try.results9 w _ (args := [.agg (ruleC x0)]) ⟨arg_agg h0, trivial⟩ (fun B => ?_)
  refine AM_seq ?_
  refine AM_region ?_
  refine AL_p (x_box 100 rfl rfl rfl rfl rfl rfl rfl) ?_
  refine AL_p (x_assign rfl rfl) ?_
  refine AL_nil ?_
  refine AM_seq ?_
  refine AM_region ?_
  refine AL_p (x_assign rfl rfl) ?_
  refine AL_nil ?_
  refine AM_seq ?_
  refine AM_region ?_
  refine AL_p (x_loadN (n := 4) rfl rfl rfl (by kernel_rfl) rfl rfl) ?_
  refine AL_p (x_move rfl rfl) ?_
  refine AL_p (x_call0 rfl rfl rfl (szRule_c _ _ (by omega) (by omega)) rfl rfl) ?_
  refine AL_p (x_assign rfl rfl) ?_
  refine AL_nil ?_
  refine AM_seq ?_
  refine AM_seq ?_
  refine AM_region ?_
  refine AL_p (x_move rfl rfl) ?_
  refine AL_b (x_lss rfl rfl rfl) (fun b11 h11 => ?_)
  refine AL_nil ?_
  cases b11
  rotate_left
  · try simp only [decide_eq_true_eq, decide_eq_false_iff_not, Bool.not_eq_true, Bool.not_eq_false, Bool.not_eq_true', Bool.not_eq_false', beq_iff_eq, bne_iff_ne, beq_eq_false_iff_ne, bne_eq_false_iff_eq, Int.not_lt, Int.not_le, ge_iff_le, gt_iff_lt] at h11
    refine AM_condT rfl ?_
    refine AM_seq ?_
    refine AM_region ?_
    refine AL_p (x_assign rfl rfl) ?_
    refine AL_nil ?_
    refine AM_ret ?_
    exact rfl
  · try simp only [decide_eq_true_eq, decide_eq_false_iff_not, Bool.not_eq_true, Bool.not_eq_false, Bool.not_eq_true', Bool.not_eq_false', beq_iff_eq, bne_iff_ne, beq_eq_false_iff_ne, bne_eq_false_iff_eq, Int.not_lt, Int.not_le, ge_iff_le, gt_iff_lt] at h11
    have f11 := (szR_nonneg h11).1
    have e11 := (szR_nonneg h11).2
    have t0 : totRule x0 ≤ 1048576 := by omega
    have s0 := totRule_small t0
    refine AM_condF rfl ?_
    refine AM_skip ?_
    refine AM_seq ?_
    refine AM_region ?_
    refine AL_p (x_loadN (n := 4) rfl rfl rfl (by kernel_rfl) rfl rfl) ?_
    refine AL_p (x_callR rfl rfl rfl ((AC.renum (res := .agg [.c (.int .i64 x0.kind), .c (.string x0.head.name), .own 101, .own 102]) (L := [(101, some (.arr 142 termE x0.head.args true)), (102, some (.arr 152 litE x0.body true))]) (r := rn [(101, 0), (102, 1)]) (toRule_c x0 s0) ⟨⟨_, rfl, BLe.rf⟩, ⟨_, rfl, BLe.rf⟩, trivial⟩ rfl)) rfl AllV.rf rfl rfl rfl rfl rfl) ?_
    refine AL_p (x_callR rfl rfl rfl (printRuleS_c x0) rfl AllV.rf rfl rfl rfl rfl rfl) ?_
    refine AL_p (x_assign rfl rfl) ?_
    refine AL_nil ?_
    refine AM_raise (fun B' => [(1, .one (.epo B' ruleE (x0) 0)), (4, .one (.c _))]) (fun B' => ⟨⟨_, rfl, .box (f := ruleC) rfl rfl rfl FitL.rf⟩, ⟨_, rfl, .c⟩, trivial⟩) (fun B' => ?_)
    refine AM_seq ?_
    refine AM_region ?_
    refine AL_p (x_pload (f := ruleC) (n := 4) rfl rfl (by kernel_rfl) rfl rfl) ?_
    refine AL_p (x_callR rfl rfl rfl ((AC.renum (res := .agg [.c (.int .i64 x0.kind), .c (.string x0.head.name), .own 103, .own 104]) (L := [(103, some (.arr 142 termE x0.head.args true)), (104, some (.arr 152 litE x0.body true))]) (r := rn [(103, 0), (104, 1)]) (toRule_c x0 s0) ⟨⟨_, rfl, BLe.rf⟩, ⟨_, rfl, BLe.rf⟩, trivial⟩ rfl)) rfl AllV.rf rfl rfl rfl rfl rfl) ?_
    refine AL_p (x_alloc (z := .agg #[.int .i64 0, .string ⟨#[]⟩, .slice none 0 0, .slice none 0 0]) 105 rfl (by kernel_rfl) rfl rfl rfl rfl) ?_
    refine AL_p (x_store (n := 4) rfl rfl rfl rfl (by kernel_rfl) rfl rfl rfl) ?_
    refine AL_nil ?_
    refine AM_seq ?_
    refine AM_region ?_
    refine AL_p (x_loadN (n := 4) rfl rfl rfl (by kernel_rfl) rfl rfl) ?_
    refine AL_p (x_callR rfl rfl rfl (printRuleI_c x0) rfl AllV.rf rfl rfl rfl rfl rfl) ?_
    refine AL_p (x_assign rfl rfl) ?_
    refine AL_nil ?_
    refine AM_seq ?_
    refine AM_seq ?_
    refine AM_region ?_
    refine AL_p (x_move rfl rfl) ?_
    refine AL_p (x_move rfl rfl) ?_
    refine AL_b (x_sneq rfl rfl rfl) (fun b21 h21 => ?_)
    refine AL_nil ?_
    cases b21
    rotate_left
    · exfalso; first | (simp [ba_beq_self] at h21; done) | (simp at h21; omega)
    · try simp only [decide_eq_true_eq, decide_eq_false_iff_not, Bool.not_eq_true, Bool.not_eq_false, Bool.not_eq_true', Bool.not_eq_false', beq_iff_eq, bne_iff_ne, beq_eq_false_iff_ne, bne_eq_false_iff_eq, Int.not_lt, Int.not_le, ge_iff_le, gt_iff_lt] at h21
      refine AM_condF rfl ?_
      refine AM_skip ?_
      refine AM_seq ?_
      refine AM_seq ?_
      refine AM_draw rfl ?_
      refine AL_p (x_loadN (n := 4) rfl rfl rfl (by kernel_rfl) rfl rfl) ?_
      refine AL_p (x_pload (f := ruleC) (n := 4) rfl rfl (by kernel_rfl) rfl rfl) ?_
      refine AL_p (x_callR rfl rfl rfl ((AC.renum (res := .agg [.c (.int .i64 x0.kind), .c (.string x0.head.name), .own 106, .own 107]) (L := [(106, some (.arr 142 termE x0.head.args true)), (107, some (.arr 152 litE x0.body true))]) (r := rn [(106, 0), (107, 1)]) (toRule_c x0 s0) ⟨⟨_, rfl, BLe.rf⟩, ⟨_, rfl, BLe.rf⟩, trivial⟩ rfl)) rfl AllV.rf rfl rfl rfl rfl rfl) ?_
      refine AL_p (x_callR rfl rfl rfl (eqRule_c (x0)) rfl AllV.rf rfl rfl rfl rfl rfl) ?_
      refine AL_p (x_not rfl rfl) ?_
      refine AL_nild (by kernel_rfl) ?_
      refine AM_condF rfl ?_
      refine AM_skip ?_
      refine AM_seq ?_
      refine AM_region ?_
      refine AL_p (x_assign rfl rfl) ?_
      refine AL_nil ?_
      refine AM_ret ?_
      exact rfl
end Go.Proofs.Ytgmlecghklaomaa

/- RelPick (printed by walk.py) -/
import Derived.Test.YtcgickpnckedcaaACopy
import Derived.Test.YtcgickpnckedcaaPickLaw
namespace Go.Proofs.Ytcgickpnckedcaa
open Go.RowKit
set_option linter.unusedVariables false
set_option linter.unusedSimpArgs false
set_option maxRecDepth 100000

set_option maxHeartbeats 4000000 in
theorem pickF_c (row : List Val) (col : Int) (v : Val) (h0 : 0 ≤ col) (h1 : col < row.length) : AC Try.prog 65 [.agg (rowC row), .one (.ptr 200 0), .one (.ptr 201 0)] [(200, some (.box [.c (.int .i64 col)])), (201, some (.box (valC v)))] (.one (.c (.bool (pickB col v row)))) [(200, some (.box [.c (.int .i64 col)])), (201, some (.box (valC v)))] := by
  refine AC_body1 Try.func65 rfl rfl Try.ntmps65 rfl Try.results65 ?_
  refine AW_seq ?_
  refine AW_region ?_
  refine AL_p (x_box 100 rfl rfl rfl rfl rfl rfl rfl) ?_
  refine AL_p (x_assign rfl rfl) ?_
  refine AL_nil ?_
  refine AW_seq ?_
  refine AW_draw rfl ?_
  refine AL_p (x_field (off := 0) (o' := 0) rfl rfl rfl (by kernel_rfl) rfl) ?_
  refine AL_p (x_load1 rfl rfl rfl (by kernel_rfl) rfl) ?_
  refine AL_p (x_load1 rfl rfl rfl (by kernel_rfl) rfl) ?_
  refine AL_p (x_index (E := 37) (n := 2) rfl rfl rfl (by kernel_rfl) rfl (k := col.toNat) (by omega) (by omega)) ?_
  refine AL_p (x_eloadW (n := 2) rfl rfl (by kernel_rfl) rfl) ?_
  refine AL_p (x_loadN (n := 2) rfl rfl rfl (by kernel_rfl) rfl rfl) ?_
  refine AL_b (x_veql rfl rfl rfl) (fun b11 h11 => ?_)
  refine AL_p (x_assign rfl rfl) ?_
  refine AL_nild (by kernel_rfl) ?_
  refine AW_ret ?_
  cases b11
  rotate_left
  · try simp only [decide_eq_true_eq, decide_eq_false_iff_not, Bool.not_eq_true, Bool.not_eq_false, Bool.not_eq_true', Bool.not_eq_false', beq_iff_eq, bne_iff_ne, beq_eq_false_iff_ne, bne_eq_false_iff_eq, Int.not_lt, Int.not_le, ge_iff_le, gt_iff_lt] at h11
    exact ⟨rn [], ⟨⟨⟨_, rfl, vle_bool (by rw [pickB_at (k := col.toNat) (by omega) rfl]; exact h11.symm)⟩, trivial⟩, ⟨⟨_, rfl, BLe.rf⟩, ⟨_, rfl, BLe.rf⟩, trivial⟩, by repeat (first | exact trivial | refine ⟨⟨rfl, by first | (left; intro h; cases h) | (right; rfl), fun _ h => ⟨_, h⟩⟩, ?_⟩), rfl⟩⟩
  · try simp only [decide_eq_true_eq, decide_eq_false_iff_not, Bool.not_eq_true, Bool.not_eq_false, Bool.not_eq_true', Bool.not_eq_false', beq_iff_eq, bne_iff_ne, beq_eq_false_iff_ne, bne_eq_false_iff_eq, Int.not_lt, Int.not_le, ge_iff_le, gt_iff_lt] at h11
    exact ⟨rn [], ⟨⟨⟨_, rfl, vle_bool (by rw [pickB_at (k := col.toNat) (by omega) rfl]; exact h11.symm)⟩, trivial⟩, ⟨⟨_, rfl, BLe.rf⟩, ⟨_, rfl, BLe.rf⟩, trivial⟩, by repeat (first | exact trivial | refine ⟨⟨rfl, by first | (left; intro h; cases h) | (right; rfl), fun _ h => ⟨_, h⟩⟩, ?_⟩), rfl⟩⟩

set_option maxHeartbeats 4000000 in
theorem pickP_c (a : Relt) (col : Int) (v : Val) (ha : smallRel a) (h0 : 0 ≤ col) (h1 : col < a.arity) (hok : relOk a = true) : AC Try.prog 64 [.agg (relC a), .one (.clo 65 [200, 201])] [(200, some (.box [.c (.int .i64 col)])), (201, some (.box (valC v)))] (.agg [.c (.int .i64 a.arity), .own 0]) ([(200, some (.box [.c (.int .i64 col)])), (201, some (.box (valC v)))] ++ [(0, some (.arr 50 rowE (a.rows.filter (pickB col v)) true))]) := by
  refine AC_bodyC (n := 2) (k := 9) (T := [(4, .one (.ptr 9 0))]) (Lf := ((9, some (.box [.c (.int .i64 a.arity), .own 0])) :: ([(200, some (.box [.c (.int .i64 col)])), (201, some (.box (valC v)))] ++ [(0, some (.arr 50 rowE (a.rows.filter (pickB col v)) true))]))) Try.func64 rfl rfl Try.ntmps64 rfl Try.results64 rfl rfl (by kernel_rfl) rfl rfl ⟨trivial, (by repeat (first | exact trivial | refine ⟨⟨_, rfl, BLe.rf⟩, ?_⟩)), (by repeat (first | exact trivial | refine ⟨⟨rfl, by first | (left; intro h; cases h) | (right; rfl), fun _ h => ⟨_, h⟩⟩, ?_⟩)), rfl⟩ ?_
  refine AW_seq ?_
  refine AW_region ?_
  refine AL_p (x_box 100 rfl rfl rfl rfl rfl rfl rfl) ?_
  refine AL_p (x_alloc (z := .agg #[.int .i64 0, .slice none 0 0]) 101 rfl (by kernel_rfl) rfl rfl rfl rfl) ?_
  refine AL_nil ?_
  refine AW_seq ?_
  refine AW_region ?_
  refine AL_p (x_field (off := 0) (o' := 0) rfl rfl rfl (by kernel_rfl) rfl) ?_
  refine AL_p (x_load1 rfl rfl rfl (by kernel_rfl) rfl) ?_
  refine AL_p (x_build (zs := [.int .i64 0, .slice none 0 0]) (places := [(0, 1), (1, 1)]) rfl (by kernel_rfl) rfl rfl rfl rfl rfl) ?_
  refine AL_p (x_alloc (z := .agg #[.int .i64 0, .slice none 0 0]) 102 rfl (by kernel_rfl) rfl rfl rfl rfl) ?_
  refine AL_p (x_store (n := 2) rfl rfl rfl rfl (by kernel_rfl) rfl rfl rfl) ?_
  refine AL_nil ?_
  refine AW_seq ?_
  refine AW_seq ?_
  refine AW_region ?_
  refine AL_p (x_field (off := 1) (o' := 1) rfl rfl rfl (by kernel_rfl) rfl) ?_
  refine AL_p (x_load1 rfl rfl rfl (by kernel_rfl) rfl) ?_
  refine AL_p (x_len (E := 50) (n := 1) rfl rfl (by kernel_rfl)) ?_
  refine AL_p (x_move rfl rfl) ?_
  refine AL_nil ?_
  refine AW_block ?_
  refine AW_adopt (T := 50) (e := rowE) 103 102 1 rfl rfl rfl rfl rfl ?_
  refine AW_loop2 (ι := {q : Nat // q ≤ a.rows.length}) (fun p => [(14, .one (.c (.int .i64 ((p.1) : Int))))]) (fun p => [(103, some (.arr 50 rowE (filtTo (pickB col v) a.rows (p.1)) true))]) [1, 4, 5, 12, 13] [100, 101, 102, 200, 201] (fun p => a.rows.length - (p.1)) ⟨0, by omega⟩ (rn []) ?_ ?_
  exact ⟨by (repeat refine ⟨⟨_, rfl, by first | exact VLe.rf | exact vle_int (by dsimp only; omega)⟩, ?_⟩); exact trivial, by (repeat refine ⟨⟨_, rfl, by first | exact BLe.rf | exact BLe.box AllC.rf | exact BLe.arr (by first | exact filtTo_zero | exact filtTo_yes (by omega) (by simpa using h20) | exact filtTo_no (by omega) (by simpa using h20))⟩, ?_⟩); exact trivial, by repeat (first | exact trivial | refine ⟨⟨rfl, by first | (left; intro h; cases h) | (right; rfl), fun _ h => ⟨_, h⟩⟩, ?_⟩), rfl⟩
  rintro ⟨k, hinv⟩
  dsimp only
  have hl := ha.1
  refine AW_seq ?_
  refine AW_region ?_
  refine AL_b (x_lss rfl rfl rfl) (fun b15 h15 => ?_)
  refine AL_nil ?_
  refine AW_seq ?_
  cases b15
  rotate_left
  · try simp only [decide_eq_true_eq, decide_eq_false_iff_not, Bool.not_eq_true, Bool.not_eq_false, Bool.not_eq_true', Bool.not_eq_false', beq_iff_eq, bne_iff_ne, beq_eq_false_iff_ne, bne_eq_false_iff_eq, Int.not_lt, Int.not_le, ge_iff_le, gt_iff_lt] at h15
    refine AW_condT rfl ?_
    refine AW_skip ?_
    refine AW_seq ?_
    refine AW_block ?_
    refine AW_seq ?_
    refine AW_region ?_
    refine AL_p (x_index (E := 50) (n := 1) rfl rfl rfl (by kernel_rfl) rfl (k := k) (by omega) (by omega)) ?_
    refine AL_p (x_eloadW (n := 1) rfl rfl (by kernel_rfl) rfl) ?_
    refine AL_p (x_alloc (z := .agg #[.slice none 0 0]) 104 rfl (by kernel_rfl) rfl rfl rfl rfl) ?_
    refine AL_p (x_store (n := 1) rfl rfl rfl rfl (by kernel_rfl) rfl rfl rfl) ?_
    refine AL_nil ?_
    refine AW_seq ?_
    refine AW_region ?_
    refine AL_p (x_move rfl rfl) ?_
    refine AL_p (x_loadN (n := 1) rfl rfl rfl (by kernel_rfl) rfl rfl) ?_
    refine AL_bc (x_call (ks := [200, 201]) (L := [(200, some (.box [.c (.int .i64 col)])), (201, some (.box (valC v)))]) (L' := [(200, some (.box [.c (.int .i64 col)])), (201, some (.box (valC v)))]) rfl rfl rfl (pickF_c (a.rows[k]'(by omega)) col v h0 (by have := relOk_ar hok (k := k) (by omega); omega)) rfl AllV.rf (caught_of rfl) rfl rfl rfl (by repeat (first | exact trivial | refine ⟨rfl, ?_⟩)) rfl) (fun b20 h20 => ?_)
    refine AL_nil ?_
    cases b20
    rotate_left
    · try simp only [decide_eq_true_eq, decide_eq_false_iff_not, Bool.not_eq_true, Bool.not_eq_false, Bool.not_eq_true', Bool.not_eq_false', beq_iff_eq, bne_iff_ne, beq_eq_false_iff_ne, bne_eq_false_iff_eq, Int.not_lt, Int.not_le, ge_iff_le, gt_iff_lt] at h20
      refine AW_condT rfl ?_
      refine AW_draw rfl ?_
      refine AL_p (x_field (off := 1) (o' := 1) rfl rfl rfl (by kernel_rfl) rfl) ?_
      refine AL_p (x_load1 rfl rfl rfl (by kernel_rfl) rfl) ?_
      refine AL_p (x_loadN (n := 1) rfl rfl rfl (by kernel_rfl) rfl rfl) ?_
      refine AL_p (x_call1 rfl rfl rfl (rowI_c (a.rows[k]'(by omega)) (ha.2 _ (List.getElem_mem _)).1 105) rfl rfl rfl rfl) ?_
      refine AL_p (y_bslice (E := 50) (e := rowE) [.tmp 24] ([a.rows[k]'(by omega)]) 106 rfl rfl rfl rfl rfl rfl rfl rfl FitL.rf rfl rfl rfl rfl rfl rfl (by kernel_rfl)) ?_
      refine AL_p (y_append 107 rfl rfl rfl rfl rfl rfl rfl rfl (by kernel_rfl) (by have := filtTo_len (p := (pickB col v)) (rows := a.rows) (k := k); have := ha.1; simp only [List.length_cons, List.length_nil]; omega)) ?_
      refine AL_p (x_field (off := 1) (o' := 1) rfl rfl rfl (by kernel_rfl) rfl) ?_
      refine AL_p (x_store (n := 1) rfl rfl rfl rfl (by kernel_rfl) rfl rfl rfl) ?_
      refine AL_nild (by kernel_rfl) ?_
      refine AW_region ?_
      refine AL_p (x_add rfl rfl rfl (IntWalk.i64_in _ (by omega))) ?_
      refine AL_p (x_move rfl rfl) ?_
      refine AL_nil ?_
      refine ⟨⟨k + 1, by omega⟩, rn [(103, 107)], ?_, by dsimp only; omega⟩
      exact ⟨by (repeat refine ⟨⟨_, rfl, by first | exact VLe.rf | exact vle_int (by dsimp only; omega)⟩, ?_⟩); exact trivial, by (repeat refine ⟨⟨_, rfl, by first | exact BLe.rf | exact BLe.box AllC.rf | exact BLe.arr (by first | exact filtTo_zero | exact filtTo_yes (by omega) (by simpa using h20) | exact filtTo_no (by omega) (by simpa using h20))⟩, ?_⟩); exact trivial, by repeat (first | exact trivial | refine ⟨⟨rfl, by first | (left; intro h; cases h) | (right; rfl), fun _ h => ⟨_, h⟩⟩, ?_⟩), rfl⟩
    · try simp only [decide_eq_true_eq, decide_eq_false_iff_not, Bool.not_eq_true, Bool.not_eq_false, Bool.not_eq_true', Bool.not_eq_false', beq_iff_eq, bne_iff_ne, beq_eq_false_iff_ne, bne_eq_false_iff_eq, Int.not_lt, Int.not_le, ge_iff_le, gt_iff_lt] at h20
      refine AW_condF rfl ?_
      refine AW_skip ?_
      refine AW_region ?_
      refine AL_p (x_add rfl rfl rfl (IntWalk.i64_in _ (by omega))) ?_
      refine AL_p (x_move rfl rfl) ?_
      refine AL_nil ?_
      refine ⟨⟨k + 1, by omega⟩, rn [], ?_, by dsimp only; omega⟩
      exact ⟨by (repeat refine ⟨⟨_, rfl, by first | exact VLe.rf | exact vle_int (by dsimp only; omega)⟩, ?_⟩); exact trivial, by (repeat refine ⟨⟨_, rfl, by first | exact BLe.rf | exact BLe.box AllC.rf | exact BLe.arr (by first | exact filtTo_zero | exact filtTo_yes (by omega) (by simpa using h20) | exact filtTo_no (by omega) (by simpa using h20))⟩, ?_⟩); exact trivial, by repeat (first | exact trivial | refine ⟨⟨rfl, by first | (left; intro h; cases h) | (right; rfl), fun _ h => ⟨_, h⟩⟩, ?_⟩), rfl⟩
  · try simp only [decide_eq_true_eq, decide_eq_false_iff_not, Bool.not_eq_true, Bool.not_eq_false, Bool.not_eq_true', Bool.not_eq_false', beq_iff_eq, bne_iff_ne, beq_eq_false_iff_ne, bne_eq_false_iff_eq, Int.not_lt, Int.not_le, ge_iff_le, gt_iff_lt] at h15
    refine AW_condF rfl ?_
    refine AW_exit (BQ_hit ?_)
    refine AW_seq ?_
    refine AW_region ?_
    refine AL_p (x_loadN (n := 2) rfl rfl rfl (by kernel_rfl) rfl rfl) ?_
    refine AL_p (x_store (n := 2) rfl rfl rfl rfl (by kernel_rfl) rfl rfl rfl) ?_
    refine AL_nil ?_
    refine AW_ret ?_
    exact ⟨rn [(9, 101), (0, 103)], ⟨⟨⟨_, rfl, VLe.rf⟩, trivial⟩, ⟨⟨_, rfl, BLe.rf⟩, ⟨_, rfl, BLe.rf⟩, ⟨_, rfl, BLe.rf⟩, ⟨_, rfl, BLe.arr (filtTo_all (by omega))⟩, trivial⟩, by repeat (first | exact trivial | refine ⟨⟨rfl, by first | (left; intro h; cases h) | (right; rfl), fun _ h => ⟨_, h⟩⟩, ?_⟩), rfl⟩⟩

set_option maxHeartbeats 4000000 in
theorem relPickI_c0 (a : Relt) (col : Int) (v : Val) (ha : smallRel a) : AC Try.prog 23 [.agg (relC a), .one (.c (.int .i64 col)), .agg (valC v)] [] (.tup [.agg [.c (.int .i64 (relPick a col v).1.arity), .own 0], .one (.c (.bool (relPick a col v).2))]) [(0, some (.arr 50 rowE (relPick a col v).1.rows true))] := by
  refine AC_bodyCT (n := 2) (k := 9) (T := [(6, .one (.ptr 9 0)), (7, .one (.c (.bool (relPick a col v).2)))]) (Lf := ((9, some (.box [.c (.int .i64 (relPick a col v).1.arity), .own 0])) :: [(0, some (.arr 50 rowE (relPick a col v).1.rows true))])) Try.func23 rfl rfl Try.ntmps23 rfl Try.results23 rfl rfl rfl rfl (by kernel_rfl) rfl rfl ⟨trivial, (by repeat (first | exact trivial | refine ⟨⟨_, rfl, BLe.rf⟩, ?_⟩)), (by repeat (first | exact trivial | refine ⟨⟨rfl, by first | (left; intro h; cases h) | (right; rfl), fun _ h => ⟨_, h⟩⟩, ?_⟩)), rfl⟩ ?_
  refine AW_seq ?_
  refine AW_region ?_
  refine AL_p (x_box 100 rfl rfl rfl rfl rfl rfl rfl) ?_
  refine AL_p (x_box 200 rfl rfl rfl rfl rfl rfl rfl) ?_
  refine AL_p (x_box 201 rfl rfl rfl rfl rfl rfl rfl) ?_
  refine AL_p (x_alloc (z := .agg #[.int .i64 0, .slice none 0 0]) 101 rfl (by kernel_rfl) rfl rfl rfl rfl) ?_
  refine AL_p (x_assign rfl rfl) ?_
  refine AL_nil ?_
  refine AW_seq ?_
  refine AW_seq ?_
  refine AW_region ?_
  refine AL_p (x_loadN (n := 2) rfl rfl rfl (by kernel_rfl) rfl rfl) ?_
  refine AL_b (x_call0 rfl rfl rfl (relOkI_c _ ha.1) rfl rfl) (fun b9 h9 => ?_)
  refine AL_p (x_not rfl rfl) ?_
  refine AL_p (x_move rfl rfl) ?_
  cases b9
  rotate_left
  · try simp only [decide_eq_true_eq, decide_eq_false_iff_not, Bool.not_eq_true, Bool.not_eq_false, Bool.not_eq_true', Bool.not_eq_false', beq_iff_eq, bne_iff_ne, beq_eq_false_iff_ne, bne_eq_false_iff_eq, Int.not_lt, Int.not_le, ge_iff_le, gt_iff_lt] at h9
    obtain ⟨hp1, hp2⟩ : 0 ≤ a.arity ∧ a.arity ≤ 6 := ⟨(relOk_parts h9).2.1, (relOk_parts h9).2.2.1⟩
    refine AL_g rfl rfl (x_load1 rfl rfl rfl (by kernel_rfl) rfl) ?_
    refine AL_g rfl rfl (x_field (off := 0) (o' := 0) rfl rfl rfl (by kernel_rfl) rfl) ?_
    refine AL_g rfl rfl (x_load1 rfl rfl rfl (by kernel_rfl) rfl) ?_
    refine AL_g rfl rfl (x_sub rfl rfl rfl (IntWalk.i64_in _ (by omega))) ?_
    refine AL_gb rfl rfl (x_call0 rfl rfl rfl (upToI_c _ _) rfl rfl) (fun b16 h16 => ?_)
    refine AL_g rfl rfl (x_not rfl rfl) ?_
    refine AL_p (x_pickF rfl rfl rfl) ?_
    refine AL_p (x_move rfl rfl) ?_
    cases b16
    rotate_left
    · try simp only [decide_eq_true_eq, decide_eq_false_iff_not, Bool.not_eq_true, Bool.not_eq_false, Bool.not_eq_true', Bool.not_eq_false', beq_iff_eq, bne_iff_ne, beq_eq_false_iff_ne, bne_eq_false_iff_eq, Int.not_lt, Int.not_le, ge_iff_le, gt_iff_lt] at h16
      have hu := upToB_iff.1 h16
      refine AL_g rfl rfl (x_loadN (n := 2) rfl rfl rfl (by kernel_rfl) rfl rfl) ?_
      refine AL_gb rfl rfl (x_call0 rfl rfl rfl (valueOkI_c _) rfl rfl) (fun b21 h21 => ?_)
      refine AL_g rfl rfl (x_not rfl rfl) ?_
      refine AL_p (x_pickF rfl rfl rfl) ?_
      refine AL_nil ?_
      cases b21
      rotate_left
      · try simp only [decide_eq_true_eq, decide_eq_false_iff_not, Bool.not_eq_true, Bool.not_eq_false, Bool.not_eq_true', Bool.not_eq_false', beq_iff_eq, bne_iff_ne, beq_eq_false_iff_ne, bne_eq_false_iff_eq, Int.not_lt, Int.not_le, ge_iff_le, gt_iff_lt] at h21
        have hno := (relPick_ok (r := a) (col := col) (v := v) h9 (by omega) (by omega) h21)
        refine AW_condF rfl ?_
        refine AW_skip ?_
        refine AW_seq ?_
        refine AW_region ?_
        refine AL_p (x_loadN (n := 2) rfl rfl rfl (by kernel_rfl) rfl rfl) ?_
        refine AL_p (x_makeFunc (ks := [200, 201]) rfl rfl) ?_
        refine AL_p (x_call (ks := []) (L := [(200, some (.box [.c (.int .i64 col)])), (201, some (.box (valC v)))]) (L' := ([(200, some (.box [.c (.int .i64 col)])), (201, some (.box (valC v)))] ++ [(0, some (.arr 50 rowE (a.rows.filter (pickB col v)) true))])) rfl rfl rfl (pickP_c a col v ha (by simpa using (upToB_iff.1 h16).1) (by have := (upToB_iff.1 h16).2; omega) h9) rfl AllV.rf (caught_of rfl) rfl rfl rfl (by repeat (first | exact trivial | refine ⟨rfl, ?_⟩)) rfl) ?_
        refine AL_p (x_store (n := 2) rfl rfl rfl rfl (by kernel_rfl) rfl rfl rfl) ?_
        refine AL_p (x_assign rfl rfl) ?_
        refine AL_nil ?_
        refine AW_ret ?_
        exact ⟨rn [(9, 101), (0, 0)], ⟨⟨⟨_, rfl, VLe.rf⟩, ⟨_, rfl, by first | exact VLe.rf | exact vle_bool (by rw [hno])⟩, trivial⟩, ⟨⟨_, rfl, by first | exact BLe.rf | exact ble_eq (by rw [hno]; rfl)⟩, ⟨_, rfl, by first | exact BLe.rf | (refine BLe.arr ?_; rw [hno]; done) | (refine BLe.arr ?_; rw [hno]; simp)⟩, trivial⟩, trivial, rfl⟩⟩
      · try simp only [decide_eq_true_eq, decide_eq_false_iff_not, Bool.not_eq_true, Bool.not_eq_false, Bool.not_eq_true', Bool.not_eq_false', beq_iff_eq, bne_iff_ne, beq_eq_false_iff_ne, bne_eq_false_iff_eq, Int.not_lt, Int.not_le, ge_iff_le, gt_iff_lt] at h21
        have hno := relPick_no (r := a) (col := col) (v := v) (.inr (.inr h21))
        refine AW_condT rfl ?_
        refine AW_seq ?_
        refine AW_region ?_
        refine AL_p (x_build (zs := [.int .i64 0, .slice none 0 0]) (places := [(0, 1), (1, 1)]) rfl (by kernel_rfl) rfl rfl rfl rfl rfl) ?_
        refine AL_p (x_store (n := 2) rfl rfl rfl rfl (by kernel_rfl) rfl rfl rfl) ?_
        refine AL_p (x_assign rfl rfl) ?_
        refine AL_nil ?_
        refine AW_adopt (T := 50) (e := rowE) 102 101 1 rfl rfl rfl rfl rfl ?_
        refine AW_ret ?_
        exact ⟨rn [(9, 101), (0, 102)], ⟨⟨⟨_, rfl, VLe.rf⟩, ⟨_, rfl, by first | exact VLe.rf | exact vle_bool (by rw [hno])⟩, trivial⟩, ⟨⟨_, rfl, by first | exact BLe.rf | exact ble_eq (by rw [hno]; rfl)⟩, ⟨_, rfl, by first | exact BLe.rf | (refine BLe.arr ?_; rw [hno]; done) | (refine BLe.arr ?_; rw [hno]; simp)⟩, trivial⟩, trivial, rfl⟩⟩
    · try simp only [decide_eq_true_eq, decide_eq_false_iff_not, Bool.not_eq_true, Bool.not_eq_false, Bool.not_eq_true', Bool.not_eq_false', beq_iff_eq, bne_iff_ne, beq_eq_false_iff_ne, bne_eq_false_iff_eq, Int.not_lt, Int.not_le, ge_iff_le, gt_iff_lt] at h16
      have hno := relPick_no (r := a) (col := col) (v := v) (.inr (.inl (upToB_not h16 fun h => by omega)))
      refine AL_o rfl rfl rfl rfl ?_
      refine AL_o rfl rfl rfl rfl ?_
      refine AL_o rfl rfl rfl rfl ?_
      refine AL_p (x_pickT rfl rfl rfl) ?_
      refine AL_nil ?_
      refine AW_condT rfl ?_
      refine AW_seq ?_
      refine AW_region ?_
      refine AL_p (x_build (zs := [.int .i64 0, .slice none 0 0]) (places := [(0, 1), (1, 1)]) rfl (by kernel_rfl) rfl rfl rfl rfl rfl) ?_
      refine AL_p (x_store (n := 2) rfl rfl rfl rfl (by kernel_rfl) rfl rfl rfl) ?_
      refine AL_p (x_assign rfl rfl) ?_
      refine AL_nil ?_
      refine AW_adopt (T := 50) (e := rowE) 102 101 1 rfl rfl rfl rfl rfl ?_
      refine AW_ret ?_
      exact ⟨rn [(9, 101), (0, 102)], ⟨⟨⟨_, rfl, VLe.rf⟩, ⟨_, rfl, by first | exact VLe.rf | exact vle_bool (by rw [hno])⟩, trivial⟩, ⟨⟨_, rfl, by first | exact BLe.rf | exact ble_eq (by rw [hno]; rfl)⟩, ⟨_, rfl, by first | exact BLe.rf | (refine BLe.arr ?_; rw [hno]; done) | (refine BLe.arr ?_; rw [hno]; simp)⟩, trivial⟩, trivial, rfl⟩⟩
  · try simp only [decide_eq_true_eq, decide_eq_false_iff_not, Bool.not_eq_true, Bool.not_eq_false, Bool.not_eq_true', Bool.not_eq_false', beq_iff_eq, bne_iff_ne, beq_eq_false_iff_ne, bne_eq_false_iff_eq, Int.not_lt, Int.not_le, ge_iff_le, gt_iff_lt] at h9
    have hno := relPick_no (r := a) (col := col) (v := v) (.inl h9)
    refine AL_o rfl rfl rfl rfl ?_
    refine AL_o rfl rfl rfl rfl ?_
    refine AL_o rfl rfl rfl rfl ?_
    refine AL_o rfl rfl rfl rfl ?_
    refine AL_o rfl rfl rfl rfl ?_
    refine AL_o rfl rfl rfl rfl ?_
    refine AL_p (x_pickT rfl rfl rfl) ?_
    refine AL_p (x_move rfl rfl) ?_
    refine AL_o rfl rfl rfl rfl ?_
    refine AL_o rfl rfl rfl rfl ?_
    refine AL_o rfl rfl rfl rfl ?_
    refine AL_p (x_pickT rfl rfl rfl) ?_
    refine AL_nil ?_
    refine AW_condT rfl ?_
    refine AW_seq ?_
    refine AW_region ?_
    refine AL_p (x_build (zs := [.int .i64 0, .slice none 0 0]) (places := [(0, 1), (1, 1)]) rfl (by kernel_rfl) rfl rfl rfl rfl rfl) ?_
    refine AL_p (x_store (n := 2) rfl rfl rfl rfl (by kernel_rfl) rfl rfl rfl) ?_
    refine AL_p (x_assign rfl rfl) ?_
    refine AL_nil ?_
    refine AW_adopt (T := 50) (e := rowE) 102 101 1 rfl rfl rfl rfl rfl ?_
    refine AW_ret ?_
    exact ⟨rn [(9, 101), (0, 102)], ⟨⟨⟨_, rfl, VLe.rf⟩, ⟨_, rfl, by first | exact VLe.rf | exact vle_bool (by rw [hno])⟩, trivial⟩, ⟨⟨_, rfl, by first | exact BLe.rf | exact ble_eq (by rw [hno]; rfl)⟩, ⟨_, rfl, by first | exact BLe.rf | (refine BLe.arr ?_; rw [hno]; done) | (refine BLe.arr ?_; rw [hno]; simp)⟩, trivial⟩, trivial, rfl⟩⟩
theorem relPickI_c (a : Relt) (col : Int) (v : Val) (ha : smallRel a) (k : Nat) : AC Try.prog 23 [.agg (relC a), .one (.c (.int .i64 col)), .agg (valC v)] [] (.tup [.agg [.c (.int .i64 (relPick a col v).1.arity), .own k], .one (.c (.bool (relPick a col v).2))]) [(k, some (.arr 50 rowE (relPick a col v).1.rows true))] := AC.at (relPickI_c0 a col v ha) k

set_option maxHeartbeats 4000000 in
theorem relPickS_c0 (a : Relt) (col : Int) (v : Val) (ha : smallRel a) : AC Try.prog 21 [.agg (relC a), .one (.c (.int .i64 col)), .agg (valC v)] [] (.tup [.agg [.c (.int .i64 (relPick a col v).1.arity), .own 0], .one (.c (.bool (relPick a col v).2))]) [(0, some (.arr 50 rowE (relPick a col v).1.rows true))] := by
  refine AC_bodyCT (n := 2) (k := 9) (T := [(6, .one (.ptr 9 0)), (7, .one (.c (.bool (relPick a col v).2)))]) (Lf := ((9, some (.box [.c (.int .i64 (relPick a col v).1.arity), .own 0])) :: [(0, some (.arr 50 rowE (relPick a col v).1.rows true))])) Try.func21 rfl rfl Try.ntmps21 rfl Try.results21 rfl rfl rfl rfl (by kernel_rfl) rfl rfl ⟨trivial, (by repeat (first | exact trivial | refine ⟨⟨_, rfl, BLe.rf⟩, ?_⟩)), (by repeat (first | exact trivial | refine ⟨⟨rfl, by first | (left; intro h; cases h) | (right; rfl), fun _ h => ⟨_, h⟩⟩, ?_⟩)), rfl⟩ ?_
  refine AW_seq ?_
  refine AW_region ?_
  refine AL_p (x_box 100 rfl rfl rfl rfl rfl rfl rfl) ?_
  refine AL_p (x_box 101 rfl rfl rfl rfl rfl rfl rfl) ?_
  refine AL_p (x_alloc (z := .agg #[.int .i64 0, .slice none 0 0]) 102 rfl (by kernel_rfl) rfl rfl rfl rfl) ?_
  refine AL_p (x_assign rfl rfl) ?_
  refine AL_nil ?_
  refine AW_seq ?_
  refine AW_seq ?_
  refine AW_region ?_
  refine AL_p (x_loadN (n := 2) rfl rfl rfl (by kernel_rfl) rfl rfl) ?_
  refine AL_b (x_call0 rfl rfl rfl (relOkS_c _ ha.1) rfl rfl) (fun b11 h11 => ?_)
  refine AL_p (x_not rfl rfl) ?_
  refine AL_p (x_move rfl rfl) ?_
  cases b11
  rotate_left
  · try simp only [decide_eq_true_eq, decide_eq_false_iff_not, Bool.not_eq_true, Bool.not_eq_false, Bool.not_eq_true', Bool.not_eq_false', beq_iff_eq, bne_iff_ne, beq_eq_false_iff_ne, bne_eq_false_iff_eq, Int.not_lt, Int.not_le, ge_iff_le, gt_iff_lt] at h11
    refine AL_g rfl rfl (x_move rfl rfl) ?_
    refine AL_gb rfl rfl (x_lss rfl rfl rfl) (fun b15 h15 => ?_)
    refine AL_p (x_pickF rfl rfl rfl) ?_
    refine AL_p (x_move rfl rfl) ?_
    cases b15
    rotate_left
    · try simp only [decide_eq_true_eq, decide_eq_false_iff_not, Bool.not_eq_true, Bool.not_eq_false, Bool.not_eq_true', Bool.not_eq_false', beq_iff_eq, bne_iff_ne, beq_eq_false_iff_ne, bne_eq_false_iff_eq, Int.not_lt, Int.not_le, ge_iff_le, gt_iff_lt] at h15
      have hno := relPick_no (r := a) (col := col) (v := v) (.inr (.inl (by omega)))
      refine AL_o rfl rfl rfl rfl ?_
      refine AL_o rfl rfl rfl rfl ?_
      refine AL_o rfl rfl rfl rfl ?_
      refine AL_o rfl rfl rfl rfl ?_
      refine AL_p (x_pickT rfl rfl rfl) ?_
      refine AL_p (x_move rfl rfl) ?_
      refine AL_o rfl rfl rfl rfl ?_
      refine AL_o rfl rfl rfl rfl ?_
      refine AL_o rfl rfl rfl rfl ?_
      refine AL_p (x_pickT rfl rfl rfl) ?_
      refine AL_nil ?_
      refine AW_condT rfl ?_
      refine AW_seq ?_
      refine AW_region ?_
      refine AL_p (x_build (zs := [.int .i64 0, .slice none 0 0]) (places := [(0, 1), (1, 1)]) rfl (by kernel_rfl) rfl rfl rfl rfl rfl) ?_
      refine AL_p (x_store (n := 2) rfl rfl rfl rfl (by kernel_rfl) rfl rfl rfl) ?_
      refine AL_p (x_assign rfl rfl) ?_
      refine AL_nil ?_
      refine AW_adopt (T := 50) (e := rowE) 103 102 1 rfl rfl rfl rfl rfl ?_
      refine AW_ret ?_
      exact ⟨rn [(9, 102), (0, 103)], ⟨⟨⟨_, rfl, VLe.rf⟩, ⟨_, rfl, by first | exact VLe.rf | exact vle_bool (by rw [hno])⟩, trivial⟩, ⟨⟨_, rfl, by first | exact BLe.rf | exact ble_eq (by rw [hno]; rfl)⟩, ⟨_, rfl, by first | exact BLe.rf | (refine BLe.arr ?_; rw [hno]; done) | (refine BLe.arr ?_; rw [hno]; exact filtTo_all (by omega))⟩, trivial⟩, trivial, rfl⟩⟩
    · try simp only [decide_eq_true_eq, decide_eq_false_iff_not, Bool.not_eq_true, Bool.not_eq_false, Bool.not_eq_true', Bool.not_eq_false', beq_iff_eq, bne_iff_ne, beq_eq_false_iff_ne, bne_eq_false_iff_eq, Int.not_lt, Int.not_le, ge_iff_le, gt_iff_lt] at h15
      refine AL_g rfl rfl (x_move rfl rfl) ?_
      refine AL_g rfl rfl (x_field (off := 0) (o' := 0) rfl rfl rfl (by kernel_rfl) rfl) ?_
      refine AL_g rfl rfl (x_load1 rfl rfl rfl (by kernel_rfl) rfl) ?_
      refine AL_gb rfl rfl (x_geq rfl rfl rfl) (fun b21 h21 => ?_)
      refine AL_p (x_pickF rfl rfl rfl) ?_
      refine AL_p (x_move rfl rfl) ?_
      cases b21
      rotate_left
      · try simp only [decide_eq_true_eq, decide_eq_false_iff_not, Bool.not_eq_true, Bool.not_eq_false, Bool.not_eq_true', Bool.not_eq_false', beq_iff_eq, bne_iff_ne, beq_eq_false_iff_ne, bne_eq_false_iff_eq, Int.not_lt, Int.not_le, ge_iff_le, gt_iff_lt] at h21
        have hno := relPick_no (r := a) (col := col) (v := v) (.inr (.inl (by omega)))
        refine AL_o rfl rfl rfl rfl ?_
        refine AL_o rfl rfl rfl rfl ?_
        refine AL_o rfl rfl rfl rfl ?_
        refine AL_p (x_pickT rfl rfl rfl) ?_
        refine AL_nil ?_
        refine AW_condT rfl ?_
        refine AW_seq ?_
        refine AW_region ?_
        refine AL_p (x_build (zs := [.int .i64 0, .slice none 0 0]) (places := [(0, 1), (1, 1)]) rfl (by kernel_rfl) rfl rfl rfl rfl rfl) ?_
        refine AL_p (x_store (n := 2) rfl rfl rfl rfl (by kernel_rfl) rfl rfl rfl) ?_
        refine AL_p (x_assign rfl rfl) ?_
        refine AL_nil ?_
        refine AW_adopt (T := 50) (e := rowE) 103 102 1 rfl rfl rfl rfl rfl ?_
        refine AW_ret ?_
        exact ⟨rn [(9, 102), (0, 103)], ⟨⟨⟨_, rfl, VLe.rf⟩, ⟨_, rfl, by first | exact VLe.rf | exact vle_bool (by rw [hno])⟩, trivial⟩, ⟨⟨_, rfl, by first | exact BLe.rf | exact ble_eq (by rw [hno]; rfl)⟩, ⟨_, rfl, by first | exact BLe.rf | (refine BLe.arr ?_; rw [hno]; done) | (refine BLe.arr ?_; rw [hno]; exact filtTo_all (by omega))⟩, trivial⟩, trivial, rfl⟩⟩
      · try simp only [decide_eq_true_eq, decide_eq_false_iff_not, Bool.not_eq_true, Bool.not_eq_false, Bool.not_eq_true', Bool.not_eq_false', beq_iff_eq, bne_iff_ne, beq_eq_false_iff_ne, bne_eq_false_iff_eq, Int.not_lt, Int.not_le, ge_iff_le, gt_iff_lt] at h21
        refine AL_g rfl rfl (x_loadN (n := 2) rfl rfl rfl (by kernel_rfl) rfl rfl) ?_
        refine AL_gb rfl rfl (x_call0 rfl rfl rfl (valueOkS_c _) rfl rfl) (fun b25 h25 => ?_)
        refine AL_g rfl rfl (x_not rfl rfl) ?_
        refine AL_p (x_pickF rfl rfl rfl) ?_
        refine AL_nil ?_
        cases b25
        rotate_left
        · try simp only [decide_eq_true_eq, decide_eq_false_iff_not, Bool.not_eq_true, Bool.not_eq_false, Bool.not_eq_true', Bool.not_eq_false', beq_iff_eq, bne_iff_ne, beq_eq_false_iff_ne, bne_eq_false_iff_eq, Int.not_lt, Int.not_le, ge_iff_le, gt_iff_lt] at h25
          have hno := (relPick_ok (r := a) (col := col) (v := v) h11 (by omega) (by omega) h25)
          refine AW_condF rfl ?_
          refine AW_skip ?_
          refine AW_seq ?_
          refine AW_region ?_
          refine AL_p (x_field (off := 0) (o' := 0) rfl rfl rfl (by kernel_rfl) rfl) ?_
          refine AL_p (x_load1 rfl rfl rfl (by kernel_rfl) rfl) ?_
          refine AL_p (x_build (zs := [.int .i64 0, .slice none 0 0]) (places := [(0, 1), (1, 1)]) rfl (by kernel_rfl) rfl rfl rfl rfl rfl) ?_
          refine AL_p (x_alloc (z := .agg #[.int .i64 0, .slice none 0 0]) 104 rfl (by kernel_rfl) rfl rfl rfl rfl) ?_
          refine AL_p (x_store (n := 2) rfl rfl rfl rfl (by kernel_rfl) rfl rfl rfl) ?_
          refine AL_nil ?_
          refine AW_seq ?_
          refine AW_seq ?_
          refine AW_region ?_
          refine AL_p (x_field (off := 1) (o' := 1) rfl rfl rfl (by kernel_rfl) rfl) ?_
          refine AL_p (x_load1 rfl rfl rfl (by kernel_rfl) rfl) ?_
          refine AL_p (x_len (E := 50) (n := 1) rfl rfl (by kernel_rfl)) ?_
          refine AL_p (x_move rfl rfl) ?_
          refine AL_nil ?_
          refine AW_block ?_
          refine AW_adopt (T := 50) (e := rowE) 105 104 1 rfl rfl rfl rfl rfl ?_
          refine AW_loop2 (ι := {q : Nat // q ≤ a.rows.length}) (fun p => [(35, .one (.c (.int .i64 ((p.1) : Int))))]) (fun p => [(105, some (.arr 50 rowE (filtTo (pickB col v) a.rows (p.1)) true))]) [1, 3, 5, 6, 8, 34] [100, 101, 102, 104] (fun p => a.rows.length - (p.1)) ⟨0, by omega⟩ (rn []) ?_ ?_
          exact ⟨by (repeat refine ⟨⟨_, rfl, by first | exact VLe.rf | exact vle_int (by dsimp only; omega)⟩, ?_⟩); exact trivial, by (repeat refine ⟨⟨_, rfl, by first | exact BLe.rf | exact BLe.box AllC.rf | exact BLe.arr (by first | exact filtTo_zero | exact filtTo_yes (by omega) (by rw [pickB_at (k := col.toNat) (by omega) rfl]; exact h48) | exact filtTo_no (by omega) (by rw [pickB_at (k := col.toNat) (by omega) rfl]; exact h48))⟩, ?_⟩); exact trivial, by repeat (first | exact trivial | refine ⟨⟨rfl, by first | (left; intro h; cases h) | (right; rfl), fun _ h => ⟨_, h⟩⟩, ?_⟩), rfl⟩
          rintro ⟨k, hinv⟩
          dsimp only
          have hl := ha.1
          refine AW_seq ?_
          refine AW_region ?_
          refine AL_b (x_lss rfl rfl rfl) (fun b36 h36 => ?_)
          refine AL_nil ?_
          refine AW_seq ?_
          cases b36
          rotate_left
          · try simp only [decide_eq_true_eq, decide_eq_false_iff_not, Bool.not_eq_true, Bool.not_eq_false, Bool.not_eq_true', Bool.not_eq_false', beq_iff_eq, bne_iff_ne, beq_eq_false_iff_ne, bne_eq_false_iff_eq, Int.not_lt, Int.not_le, ge_iff_le, gt_iff_lt] at h36
            have hlen := relOk_ar h11 (k := k) (by omega)
            refine AW_condT rfl ?_
            refine AW_skip ?_
            refine AW_seq ?_
            refine AW_block ?_
            refine AW_seq ?_
            refine AW_region ?_
            refine AL_p (x_move rfl rfl) ?_
            refine AL_p (x_assign rfl rfl) ?_
            refine AL_nil ?_
            refine AW_seq ?_
            refine AW_draw rfl ?_
            refine AL_p (x_field (off := 1) (o' := 1) rfl rfl rfl (by kernel_rfl) rfl) ?_
            refine AL_p (x_load1 rfl rfl rfl (by kernel_rfl) rfl) ?_
            refine AL_p (x_move rfl rfl) ?_
            refine AL_p (x_index (E := 50) (n := 1) rfl rfl rfl (by kernel_rfl) rfl (k := k) (by omega) (by omega)) ?_
            refine AL_p (x_efield (off := 0) (o' := 0) rfl rfl (by kernel_rfl) rfl) ?_
            refine AL_p (x_eload1 rfl rfl (by kernel_rfl) rfl) ?_
            refine AL_p (x_move rfl rfl) ?_
            refine AL_p (x_index (E := 37) (n := 2) rfl rfl rfl (by kernel_rfl) rfl (k := col.toNat) (by omega) (by omega)) ?_
            refine AL_p (x_eloadW (n := 2) rfl rfl (by kernel_rfl) rfl) ?_
            refine AL_p (x_loadN (n := 2) rfl rfl rfl (by kernel_rfl) rfl rfl) ?_
            refine AL_b (x_veql rfl rfl rfl) (fun b48 h48 => ?_)
            refine AL_nild (by kernel_rfl) ?_
            cases b48
            rotate_left
            · try simp only [decide_eq_true_eq, decide_eq_false_iff_not, Bool.not_eq_true, Bool.not_eq_false, Bool.not_eq_true', Bool.not_eq_false', beq_iff_eq, bne_iff_ne, beq_eq_false_iff_ne, bne_eq_false_iff_eq, Int.not_lt, Int.not_le, ge_iff_le, gt_iff_lt] at h48
              refine AW_condT rfl ?_
              refine AW_draw rfl ?_
              refine AL_p (x_field (off := 1) (o' := 1) rfl rfl rfl (by kernel_rfl) rfl) ?_
              refine AL_p (x_load1 rfl rfl rfl (by kernel_rfl) rfl) ?_
              refine AL_p (x_field (off := 1) (o' := 1) rfl rfl rfl (by kernel_rfl) rfl) ?_
              refine AL_p (x_load1 rfl rfl rfl (by kernel_rfl) rfl) ?_
              refine AL_p (x_move rfl rfl) ?_
              refine AL_p (x_index (E := 50) (n := 1) rfl rfl rfl (by kernel_rfl) rfl (k := k) (by omega) (by omega)) ?_
              refine AL_p (x_eloadW (n := 1) rfl rfl (by kernel_rfl) rfl) ?_
              refine AL_p (x_call1 rfl rfl rfl (rowS_c (a.rows[k]'(by omega)) (ha.2 _ (List.getElem_mem _)).1 106) rfl rfl rfl rfl) ?_
              refine AL_p (y_bslice (E := 50) (e := rowE) [.tmp 56] ([a.rows[k]'(by omega)]) 107 rfl rfl rfl rfl rfl rfl rfl rfl FitL.rf rfl rfl rfl rfl rfl rfl (by kernel_rfl)) ?_
              refine AL_p (y_append 108 rfl rfl rfl rfl rfl rfl rfl rfl (by kernel_rfl) (by have := filtTo_len (p := (pickB col v)) (rows := a.rows) (k := k); have := ha.1; simp only [List.length_cons, List.length_nil]; omega)) ?_
              refine AL_p (x_field (off := 1) (o' := 1) rfl rfl rfl (by kernel_rfl) rfl) ?_
              refine AL_p (x_store (n := 1) rfl rfl rfl rfl (by kernel_rfl) rfl rfl rfl) ?_
              refine AL_nild (by kernel_rfl) ?_
              refine AW_region ?_
              refine AL_p (x_add rfl rfl rfl (IntWalk.i64_in _ (by omega))) ?_
              refine AL_p (x_move rfl rfl) ?_
              refine AL_nil ?_
              refine ⟨⟨k + 1, by omega⟩, rn [(105, 108)], ?_, by dsimp only; omega⟩
              exact ⟨by (repeat refine ⟨⟨_, rfl, by first | exact VLe.rf | exact vle_int (by dsimp only; omega)⟩, ?_⟩); exact trivial, by (repeat refine ⟨⟨_, rfl, by first | exact BLe.rf | exact BLe.box AllC.rf | exact BLe.arr (by first | exact filtTo_zero | exact filtTo_yes (by omega) (by rw [pickB_at (k := col.toNat) (by omega) rfl]; exact h48) | exact filtTo_no (by omega) (by rw [pickB_at (k := col.toNat) (by omega) rfl]; exact h48))⟩, ?_⟩); exact trivial, by repeat (first | exact trivial | refine ⟨⟨rfl, by first | (left; intro h; cases h) | (right; rfl), fun _ h => ⟨_, h⟩⟩, ?_⟩), rfl⟩
            · try simp only [decide_eq_true_eq, decide_eq_false_iff_not, Bool.not_eq_true, Bool.not_eq_false, Bool.not_eq_true', Bool.not_eq_false', beq_iff_eq, bne_iff_ne, beq_eq_false_iff_ne, bne_eq_false_iff_eq, Int.not_lt, Int.not_le, ge_iff_le, gt_iff_lt] at h48
              refine AW_condF rfl ?_
              refine AW_skip ?_
              refine AW_region ?_
              refine AL_p (x_add rfl rfl rfl (IntWalk.i64_in _ (by omega))) ?_
              refine AL_p (x_move rfl rfl) ?_
              refine AL_nil ?_
              refine ⟨⟨k + 1, by omega⟩, rn [], ?_, by dsimp only; omega⟩
              exact ⟨by (repeat refine ⟨⟨_, rfl, by first | exact VLe.rf | exact vle_int (by dsimp only; omega)⟩, ?_⟩); exact trivial, by (repeat refine ⟨⟨_, rfl, by first | exact BLe.rf | exact BLe.box AllC.rf | exact BLe.arr (by first | exact filtTo_zero | exact filtTo_yes (by omega) (by rw [pickB_at (k := col.toNat) (by omega) rfl]; exact h48) | exact filtTo_no (by omega) (by rw [pickB_at (k := col.toNat) (by omega) rfl]; exact h48))⟩, ?_⟩); exact trivial, by repeat (first | exact trivial | refine ⟨⟨rfl, by first | (left; intro h; cases h) | (right; rfl), fun _ h => ⟨_, h⟩⟩, ?_⟩), rfl⟩
          · try simp only [decide_eq_true_eq, decide_eq_false_iff_not, Bool.not_eq_true, Bool.not_eq_false, Bool.not_eq_true', Bool.not_eq_false', beq_iff_eq, bne_iff_ne, beq_eq_false_iff_ne, bne_eq_false_iff_eq, Int.not_lt, Int.not_le, ge_iff_le, gt_iff_lt] at h36
            refine AW_condF rfl ?_
            refine AW_exit (BQ_hit ?_)
            refine AW_seq ?_
            refine AW_region ?_
            refine AL_p (x_loadN (n := 2) rfl rfl rfl (by kernel_rfl) rfl rfl) ?_
            refine AL_p (x_store (n := 2) rfl rfl rfl rfl (by kernel_rfl) rfl rfl rfl) ?_
            refine AL_p (x_assign rfl rfl) ?_
            refine AL_nil ?_
            refine AW_ret ?_
            exact ⟨rn [(9, 102), (0, 105)], ⟨⟨⟨_, rfl, VLe.rf⟩, ⟨_, rfl, by first | exact VLe.rf | exact vle_bool (by rw [hno])⟩, trivial⟩, ⟨⟨_, rfl, by first | exact BLe.rf | exact ble_eq (by rw [hno]; rfl)⟩, ⟨_, rfl, by first | exact BLe.rf | (refine BLe.arr ?_; rw [hno]; done) | (refine BLe.arr ?_; rw [hno]; exact filtTo_all (by omega))⟩, trivial⟩, trivial, rfl⟩⟩
        · try simp only [decide_eq_true_eq, decide_eq_false_iff_not, Bool.not_eq_true, Bool.not_eq_false, Bool.not_eq_true', Bool.not_eq_false', beq_iff_eq, bne_iff_ne, beq_eq_false_iff_ne, bne_eq_false_iff_eq, Int.not_lt, Int.not_le, ge_iff_le, gt_iff_lt] at h25
          have hno := relPick_no (r := a) (col := col) (v := v) (.inr (.inr h25))
          refine AW_condT rfl ?_
          refine AW_seq ?_
          refine AW_region ?_
          refine AL_p (x_build (zs := [.int .i64 0, .slice none 0 0]) (places := [(0, 1), (1, 1)]) rfl (by kernel_rfl) rfl rfl rfl rfl rfl) ?_
          refine AL_p (x_store (n := 2) rfl rfl rfl rfl (by kernel_rfl) rfl rfl rfl) ?_
          refine AL_p (x_assign rfl rfl) ?_
          refine AL_nil ?_
          refine AW_adopt (T := 50) (e := rowE) 103 102 1 rfl rfl rfl rfl rfl ?_
          refine AW_ret ?_
          exact ⟨rn [(9, 102), (0, 103)], ⟨⟨⟨_, rfl, VLe.rf⟩, ⟨_, rfl, by first | exact VLe.rf | exact vle_bool (by rw [hno])⟩, trivial⟩, ⟨⟨_, rfl, by first | exact BLe.rf | exact ble_eq (by rw [hno]; rfl)⟩, ⟨_, rfl, by first | exact BLe.rf | (refine BLe.arr ?_; rw [hno]; done) | (refine BLe.arr ?_; rw [hno]; exact filtTo_all (by omega))⟩, trivial⟩, trivial, rfl⟩⟩
  · try simp only [decide_eq_true_eq, decide_eq_false_iff_not, Bool.not_eq_true, Bool.not_eq_false, Bool.not_eq_true', Bool.not_eq_false', beq_iff_eq, bne_iff_ne, beq_eq_false_iff_ne, bne_eq_false_iff_eq, Int.not_lt, Int.not_le, ge_iff_le, gt_iff_lt] at h11
    have hno := relPick_no (r := a) (col := col) (v := v) (.inl h11)
    refine AL_o rfl rfl rfl rfl ?_
    refine AL_o rfl rfl rfl rfl ?_
    refine AL_p (x_pickT rfl rfl rfl) ?_
    refine AL_p (x_move rfl rfl) ?_
    refine AL_o rfl rfl rfl rfl ?_
    refine AL_o rfl rfl rfl rfl ?_
    refine AL_o rfl rfl rfl rfl ?_
    refine AL_o rfl rfl rfl rfl ?_
    refine AL_p (x_pickT rfl rfl rfl) ?_
    refine AL_p (x_move rfl rfl) ?_
    refine AL_o rfl rfl rfl rfl ?_
    refine AL_o rfl rfl rfl rfl ?_
    refine AL_o rfl rfl rfl rfl ?_
    refine AL_p (x_pickT rfl rfl rfl) ?_
    refine AL_nil ?_
    refine AW_condT rfl ?_
    refine AW_seq ?_
    refine AW_region ?_
    refine AL_p (x_build (zs := [.int .i64 0, .slice none 0 0]) (places := [(0, 1), (1, 1)]) rfl (by kernel_rfl) rfl rfl rfl rfl rfl) ?_
    refine AL_p (x_store (n := 2) rfl rfl rfl rfl (by kernel_rfl) rfl rfl rfl) ?_
    refine AL_p (x_assign rfl rfl) ?_
    refine AL_nil ?_
    refine AW_adopt (T := 50) (e := rowE) 103 102 1 rfl rfl rfl rfl rfl ?_
    refine AW_ret ?_
    exact ⟨rn [(9, 102), (0, 103)], ⟨⟨⟨_, rfl, VLe.rf⟩, ⟨_, rfl, by first | exact VLe.rf | exact vle_bool (by rw [hno])⟩, trivial⟩, ⟨⟨_, rfl, by first | exact BLe.rf | exact ble_eq (by rw [hno]; rfl)⟩, ⟨_, rfl, by first | exact BLe.rf | (refine BLe.arr ?_; rw [hno]; done) | (refine BLe.arr ?_; rw [hno]; exact filtTo_all (by omega))⟩, trivial⟩, trivial, rfl⟩⟩
theorem relPickS_c (a : Relt) (col : Int) (v : Val) (ha : smallRel a) (k : Nat) : AC Try.prog 21 [.agg (relC a), .one (.c (.int .i64 col)), .agg (valC v)] [] (.tup [.agg [.c (.int .i64 (relPick a col v).1.arity), .own k], .one (.c (.bool (relPick a col v).2))]) [(k, some (.arr 50 rowE (relPick a col v).1.rows true))] := AC.at (relPickS_c0 a col v ha) k
end Go.Proofs.Ytcgickpnckedcaa

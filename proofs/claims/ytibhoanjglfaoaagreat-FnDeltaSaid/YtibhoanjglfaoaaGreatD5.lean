/- Lemmas of the walks, part 5. -/
import Derived.Test.YtibhoanjglfaoaaGreatD4
import Derived.Sort.Grow
import Derived.Shelf.SlSortCmp.WholeK
import Derived.Test.YtibhoanjglfaoaaGreatRows
/- Draws (printed by walk.py) -/
namespace Go.Proofs.YtibhoanjglfaoaaGreat
open Go.RowKit
set_option linter.unusedVariables false
set_option linter.unusedSimpArgs false
set_option maxRecDepth 100000

set_option maxHeartbeats 4000000 in
theorem putO_t (rows : List (List Val)) (row : List Val) (hl : rows.length ≤ 1048575) (hm : ∀ r ∈ rows, r.length ≤ 1048576) (hr : row.length ≤ 1048576) (hs : Sorted rows) (hv : ∀ v ∈ row, valOk v = true) : AT Tryz.prog 34 [.one (.own 0), .agg (rowC row)] [(0, some (.arr 72 rowE (rows) false))] (.one (.own 1)) [(1, some (.arr 72 rowE (putRow rows row) false))] := by
  refine AT_body1 Tryz.func34 rfl rfl Tryz.ntmps34 rfl Tryz.results34 ?_
  refine AW_seq ?_
  refine AW_region ?_
  refine AL_p (x_box 100 rfl rfl rfl rfl rfl rfl rfl) ?_
  refine AL_p (x_assign rfl rfl) ?_
  refine AL_nil ?_
  refine AW_seq ?_
  refine AW_seq ?_
  refine AW_region ?_
  refine AL_p (x_move rfl rfl) ?_
  refine AL_p (x_loadN (n := 1) rfl rfl rfl (by kernel_rfl) rfl rfl) ?_
  refine AL_bc (x_callR rfl rfl rfl (hasS_c rows row (by omega) hm) rfl AllV.rf rfl rfl rfl rfl rfl) (fun b10 h10 => ?_)
  refine AL_nil ?_
  cases b10
  rotate_left
  · try simp only [tdy] at h10
    have hno := putRow_has h10
    refine AW_condT rfl ?_
    refine AW_seq ?_
    refine AW_region ?_
    refine AL_p (x_move rfl rfl) ?_
    refine AL_p (x_assign rfl rfl) ?_
    refine AL_nil ?_
    refine AW_ret ?_
    exact ⟨rn [(1, 0)], ⟨⟨⟨_, rfl, VLe.rf⟩, trivial⟩, ⟨⟨_, rfl, by first | (refine BLe.arr ?_; rw [hno]; done) | (refine BLe.arr ?_; rw [hno]; first | exact putTo_done (by omega) (by omega) (by omega) | exact putTo_end (by omega) (by omega) (by omega))⟩, trivial⟩, trivial, rfl⟩⟩
  try simp only [tdy] at h10
  have hno := putRow_no h10
  refine AW_condF rfl ?_
  refine AW_skip ?_
  refine AW_seq ?_
  refine AW_region ?_
  refine AL_p (y_bslice0 (E := 72) (e := rowE) 101 rfl rfl rfl (by kernel_rfl)) ?_
  refine AL_p (x_assign rfl rfl) ?_
  refine AL_nil ?_
  refine AW_seq ?_
  refine AW_region ?_
  refine AL_p (x_assign rfl rfl) ?_
  refine AL_nil ?_
  refine AW_seq ?_
  refine AW_seq ?_
  refine AW_region ?_
  refine AL_p (x_move rfl rfl) ?_
  refine AL_p (x_olen (E := 72) (n := 1) rfl rfl rfl (by kernel_rfl)) ?_
  refine AL_p (x_move rfl rfl) ?_
  refine AL_nil ?_
  refine AW_block ?_
  refine AW_shallow 101 rfl ?_
  refine AW_loop2 (ι := {q : Nat × Bool // (q.1) ≤ rows.length ∧ decide (pos rows row < (q.1)) = (q.2)}) (fun p => [(5, .one (.own 101)), (6, .one (.c (.bool (p.1.2)))), (15, .one (.c (.int .i64 ((p.1.1) : Int))))]) (fun p => [(101, some (.arr 72 rowE (putTo rows row (p.1.1)) false))]) [0, 3, 14] [0, 100] (fun p => rows.length - (p.1.1)) ⟨⟨0, false⟩, ⟨by omega, by simp⟩⟩ (rn []) ?_ ?_
  exact ⟨by (repeat refine ⟨⟨_, rfl, by first | exact VLe.rf | exact vle_int (by dsimp only; omega)⟩, ?_⟩); exact trivial, by (repeat refine ⟨⟨_, rfl, by first | exact BLe.rf | exact BLe.box AllC.rf | exact BLe.arr (by first | exact putTo_zero | exact putTo_behind (by omega) (by omega) | exact putTo_here (by omega) (by omega) | exact putTo_before (by omega) (by omega))⟩, ?_⟩); exact trivial, by repeat (first | exact trivial | refine ⟨⟨rfl, by first | (left; intro h; cases h) | (right; rfl), by first | exact (fun _ h => ⟨_, h⟩) | exact (fun _ _ => ⟨_, rfl⟩)⟩, ?_⟩), rfl⟩
  rintro ⟨⟨k, b900⟩, hinv⟩
  dsimp only
  obtain ⟨hk, h900⟩ := hinv
  have hk : k ≤ rows.length := hk
  refine AW_seq ?_
  refine AW_region ?_
  refine AL_b (x_lss rfl rfl rfl) (fun b16 h16 => ?_)
  refine AL_nil ?_
  refine AW_seq ?_
  cases b16
  · try simp only [tdy] at h16
    refine AW_condF rfl ?_
    refine AW_exit (BQ_hit ?_)
    refine AW_seq ?_
    refine AW_seq ?_
    refine AW_region ?_
    refine AL_p (x_move rfl rfl) ?_
    refine AL_p (x_not rfl rfl) ?_
    refine AL_nil ?_
    cases b900
    rotate_left
    · try simp only [tdy] at h900
      refine AW_condF rfl ?_
      refine AW_skip ?_
      refine AW_seq ?_
      refine AW_region ?_
      refine AL_p (x_move rfl rfl) ?_
      refine AL_p (x_assign rfl rfl) ?_
      refine AL_nil ?_
      refine AW_ret ?_
      exact ⟨rn [(1, 101)], ⟨⟨⟨_, rfl, VLe.rf⟩, trivial⟩, ⟨⟨_, rfl, by first | (refine BLe.arr ?_; rw [hno]; done) | (refine BLe.arr ?_; rw [hno]; first | exact putTo_done (by omega) (by omega) (by omega) | exact putTo_end (by omega) (by omega) (by omega))⟩, trivial⟩, trivial, rfl⟩⟩
    try simp only [tdy] at h900
    refine AW_condT rfl ?_
    refine AW_region ?_
    refine AL_p (x_move rfl rfl) ?_
    refine AL_p (x_loadN (n := 1) rfl rfl rfl (by kernel_rfl) rfl rfl) ?_
    refine AL_p (x_call1 rfl rfl rfl (rowS_c row hr 107) rfl rfl rfl rfl) ?_
    refine AL_p (y_bslice (E := 72) (e := rowE) [.tmp 46] ([row]) 108 rfl rfl rfl rfl rfl rfl rfl rfl FitL.rf rfl rfl rfl rfl rfl rfl (by kernel_rfl)) ?_
    refine AL_p (y_append 109 rfl rfl rfl rfl rfl rfl rfl rfl (by kernel_rfl) (by have := putTo_len (rows := rows) (row := row) (k := k) (by omega); simp only [List.length_append, List.length_cons, List.length_nil]; omega)) ?_
    refine AL_p (x_assign rfl rfl) ?_
    refine AL_nil ?_
    refine AW_seq ?_
    refine AW_region ?_
    refine AL_p (x_move rfl rfl) ?_
    refine AL_p (x_assign rfl rfl) ?_
    refine AL_nil ?_
    refine AW_ret ?_
    exact ⟨rn [(1, 109)], ⟨⟨⟨_, rfl, VLe.rf⟩, trivial⟩, ⟨⟨_, rfl, by first | (refine BLe.arr ?_; rw [hno]; done) | (refine BLe.arr ?_; rw [hno]; first | exact putTo_done (by omega) (by omega) (by omega) | exact putTo_end (by omega) (by omega) (by omega))⟩, trivial⟩, trivial, rfl⟩⟩
  try simp only [tdy] at h16
  refine AW_condT rfl ?_
  refine AW_skip ?_
  refine AW_seq ?_
  refine AW_block ?_
  refine AW_seq ?_
  refine AW_region ?_
  refine AL_p (x_move rfl rfl) ?_
  refine AL_p (x_assign rfl rfl) ?_
  refine AL_nil ?_
  refine AW_seq ?_
  refine AW_seq ?_
  refine AW_draw rfl ?_
  refine AL_p (x_move rfl rfl) ?_
  refine AL_p (x_not rfl rfl) ?_
  refine AL_p (x_move rfl rfl) ?_
  cases b900
  rotate_left
  · try simp only [tdy] at h900
    refine AL_o rfl rfl rfl rfl ?_
    refine AL_o rfl rfl rfl rfl ?_
    refine AL_o rfl rfl rfl rfl ?_
    refine AL_o rfl rfl rfl rfl ?_
    refine AL_o rfl rfl rfl rfl ?_
    refine AL_o rfl rfl rfl rfl ?_
    refine AL_o rfl rfl rfl rfl ?_
    refine AL_p (x_pickF rfl rfl rfl) ?_
    refine AL_nild (by kernel_rfl) ?_
    refine AW_condF rfl ?_
    refine AW_skip ?_
    refine AW_region ?_
    refine AL_p (x_move rfl rfl) ?_
    refine AL_p (x_move rfl rfl) ?_
    refine AL_p (x_move rfl rfl) ?_
    refine AL_p (x_oindex (n := 1) rfl rfl rfl rfl (by kernel_rfl) rfl (k := k) rfl (by omega)) ?_
    refine AL_p (x_oloadN (n := 1) rfl rfl rfl (by kernel_rfl) (by omega) rfl rfl) ?_
    refine AL_p (y_bslice (E := 72) (e := rowE) [.tmp 38] ([(rows[k]'(by omega))]) 102 rfl rfl rfl rfl rfl rfl rfl rfl FitL.rf rfl rfl rfl rfl rfl rfl (by kernel_rfl)) ?_
    refine AL_p (y_append 103 rfl rfl rfl rfl rfl rfl rfl rfl (by kernel_rfl) (by have := putTo_len (rows := rows) (row := row) (k := k) (by omega); simp only [List.length_append, List.length_cons, List.length_nil]; omega)) ?_
    refine AL_p (x_assign rfl rfl) ?_
    refine AL_nil ?_
    refine AW_region ?_
    refine AL_p (x_add rfl rfl rfl (IntWalk.i64_in _ (by omega))) ?_
    refine AL_p (x_move rfl rfl) ?_
    refine AL_nil ?_
    refine ⟨⟨⟨k + 1, true⟩, ⟨by omega, by rw [decide_eq_true_eq]; omega⟩⟩, rn [(101, 103)], ?_, by dsimp only; omega⟩
    exact ⟨by (repeat refine ⟨⟨_, rfl, by first | exact VLe.rf | exact vle_int (by dsimp only; omega)⟩, ?_⟩); exact trivial, by (repeat refine ⟨⟨_, rfl, by first | exact BLe.rf | exact BLe.box AllC.rf | exact BLe.arr (by first | exact putTo_zero | exact putTo_behind (by omega) (by omega) | exact putTo_here (by omega) (by omega) | exact putTo_before (by omega) (by omega))⟩, ?_⟩); exact trivial, by repeat (first | exact trivial | refine ⟨⟨rfl, by first | (left; intro h; cases h) | (right; rfl), by first | exact (fun _ h => ⟨_, h⟩) | exact (fun _ _ => ⟨_, rfl⟩)⟩, ?_⟩), rfl⟩
  try simp only [tdy] at h900
  refine AL_g rfl rfl (x_loadN (n := 1) rfl rfl rfl (by kernel_rfl) rfl rfl) ?_
  refine AL_g rfl rfl (x_move rfl rfl) ?_
  refine AL_g rfl rfl (x_move rfl rfl) ?_
  refine AL_g rfl rfl (x_oindex (n := 1) rfl rfl rfl rfl (by kernel_rfl) rfl (k := k) rfl (by omega)) ?_
  refine AL_g rfl rfl (x_oloadN (n := 1) rfl rfl rfl (by kernel_rfl) (by omega) rfl rfl) ?_
  refine AL_g rfl rfl (x_call0 rfl rfl rfl (orderS_c _ _) rfl rfl) ?_
  refine AL_gb rfl rfl (x_eql rfl rfl rfl) (fun b27 h27 => ?_)
  refine AL_p (x_pickT rfl rfl rfl) ?_
  refine AL_nild (by kernel_rfl) ?_
  cases b27
  · try simp only [tdy] at h27
    have hp : ¬ k = pos rows row := of_decide_eq_false ((putTo_lt hs hv h10 (k := k) (by omega) (by omega)).symm.trans (by simp [h27]))
    refine AW_condF rfl ?_
    refine AW_skip ?_
    refine AW_region ?_
    refine AL_p (x_move rfl rfl) ?_
    refine AL_p (x_move rfl rfl) ?_
    refine AL_p (x_move rfl rfl) ?_
    refine AL_p (x_oindex (n := 1) rfl rfl rfl rfl (by kernel_rfl) rfl (k := k) rfl (by omega)) ?_
    refine AL_p (x_oloadN (n := 1) rfl rfl rfl (by kernel_rfl) (by omega) rfl rfl) ?_
    refine AL_p (y_bslice (E := 72) (e := rowE) [.tmp 38] ([(rows[k]'(by omega))]) 102 rfl rfl rfl rfl rfl rfl rfl rfl FitL.rf rfl rfl rfl rfl rfl rfl (by kernel_rfl)) ?_
    refine AL_p (y_append 103 rfl rfl rfl rfl rfl rfl rfl rfl (by kernel_rfl) (by have := putTo_len (rows := rows) (row := row) (k := k) (by omega); simp only [List.length_append, List.length_cons, List.length_nil]; omega)) ?_
    refine AL_p (x_assign rfl rfl) ?_
    refine AL_nil ?_
    refine AW_region ?_
    refine AL_p (x_add rfl rfl rfl (IntWalk.i64_in _ (by omega))) ?_
    refine AL_p (x_move rfl rfl) ?_
    refine AL_nil ?_
    refine ⟨⟨⟨k + 1, false⟩, ⟨by omega, by rw [decide_eq_false_iff_not]; omega⟩⟩, rn [(101, 103)], ?_, by dsimp only; omega⟩
    exact ⟨by (repeat refine ⟨⟨_, rfl, by first | exact VLe.rf | exact vle_int (by dsimp only; omega)⟩, ?_⟩); exact trivial, by (repeat refine ⟨⟨_, rfl, by first | exact BLe.rf | exact BLe.box AllC.rf | exact BLe.arr (by first | exact putTo_zero | exact putTo_behind (by omega) (by omega) | exact putTo_here (by omega) (by omega) | exact putTo_before (by omega) (by omega))⟩, ?_⟩); exact trivial, by repeat (first | exact trivial | refine ⟨⟨rfl, by first | (left; intro h; cases h) | (right; rfl), by first | exact (fun _ h => ⟨_, h⟩) | exact (fun _ _ => ⟨_, rfl⟩)⟩, ?_⟩), rfl⟩
  try simp only [tdy] at h27
  have hp : k = pos rows row := of_decide_eq_true ((putTo_lt hs hv h10 (k := k) (by omega) (by omega)).symm.trans (by simp [h27]))
  refine AW_condT rfl ?_
  refine AW_seq ?_
  refine AW_region ?_
  refine AL_p (x_move rfl rfl) ?_
  refine AL_p (x_loadN (n := 1) rfl rfl rfl (by kernel_rfl) rfl rfl) ?_
  refine AL_p (x_call1 rfl rfl rfl (rowS_c row hr 104) rfl rfl rfl rfl) ?_
  refine AL_p (y_bslice (E := 72) (e := rowE) [.tmp 31] ([row]) 105 rfl rfl rfl rfl rfl rfl rfl rfl FitL.rf rfl rfl rfl rfl rfl rfl (by kernel_rfl)) ?_
  refine AL_p (y_append 106 rfl rfl rfl rfl rfl rfl rfl rfl (by kernel_rfl) (by have := putTo_len (rows := rows) (row := row) (k := k) (by omega); simp only [List.length_append, List.length_cons, List.length_nil]; omega)) ?_
  refine AL_p (x_assign rfl rfl) ?_
  refine AL_nil ?_
  refine AW_region ?_
  refine AL_p (x_assign rfl rfl) ?_
  refine AL_nil ?_
  refine AW_region ?_
  refine AL_p (x_move rfl rfl) ?_
  refine AL_p (x_move rfl rfl) ?_
  refine AL_p (x_move rfl rfl) ?_
  refine AL_p (x_oindex (n := 1) rfl rfl rfl rfl (by kernel_rfl) rfl (k := k) rfl (by omega)) ?_
  refine AL_p (x_oloadN (n := 1) rfl rfl rfl (by kernel_rfl) (by omega) rfl rfl) ?_
  refine AL_p (y_bslice (E := 72) (e := rowE) [.tmp 38] ([(rows[k]'(by omega))]) 102 rfl rfl rfl rfl rfl rfl rfl rfl FitL.rf rfl rfl rfl rfl rfl rfl (by kernel_rfl)) ?_
  refine AL_p (y_append 103 rfl rfl rfl rfl rfl rfl rfl rfl (by kernel_rfl) (by have := putTo_len (rows := rows) (row := row) (k := k) (by omega); simp only [List.length_append, List.length_cons, List.length_nil]; omega)) ?_
  refine AL_p (x_assign rfl rfl) ?_
  refine AL_nil ?_
  refine AW_region ?_
  refine AL_p (x_add rfl rfl rfl (IntWalk.i64_in _ (by omega))) ?_
  refine AL_p (x_move rfl rfl) ?_
  refine AL_nil ?_
  refine ⟨⟨⟨k + 1, true⟩, ⟨by omega, by rw [decide_eq_true_eq]; omega⟩⟩, rn [(101, 103)], ?_, by dsimp only; omega⟩
  exact ⟨by (repeat refine ⟨⟨_, rfl, by first | exact VLe.rf | exact vle_int (by dsimp only; omega)⟩, ?_⟩); exact trivial, by (repeat refine ⟨⟨_, rfl, by first | exact BLe.rf | exact BLe.box AllC.rf | exact BLe.arr (by first | exact putTo_zero | exact putTo_behind (by omega) (by omega) | exact putTo_here (by omega) (by omega) | exact putTo_before (by omega) (by omega))⟩, ?_⟩); exact trivial, by repeat (first | exact trivial | refine ⟨⟨rfl, by first | (left; intro h; cases h) | (right; rfl), by first | exact (fun _ h => ⟨_, h⟩) | exact (fun _ _ => ⟨_, rfl⟩)⟩, ?_⟩), rfl⟩

set_option maxHeartbeats 4000000 in
theorem drawRow0 (b : List Int) (c : Cur) (ar : Int) (ha : ar ≤ 8) (hb : b.length ≤ 1048576) : AC Tryz.prog 109 [.one (.ptr 200 0), .one (.c (.int .i64 ar))] [(200, some (curB b c))] (.agg [.own 0]) [(200, some (curB b (dVals b ar.toNat c).2)), (0, some (.arr 147 valE (dVals b ar.toNat c).1 true))] := by
  have hno : True := trivial
  refine AC_bodyC (n := 1) (k := 9) (T := [(4, .one (.ptr 9 0))]) (Lf := ((9, some (.box [.own 0])) :: [(200, some (curB b (dVals b ar.toNat c).2)), (0, some (.arr 147 valE (dVals b ar.toNat c).1 true))])) Tryz.func109 rfl rfl Tryz.ntmps109 rfl Tryz.results109 rfl rfl (by kernel_rfl) rfl rfl ⟨trivial, (by repeat (first | exact trivial | refine ⟨⟨_, rfl, BLe.rf⟩, ?_⟩)), (by repeat (first | exact trivial | refine ⟨⟨rfl, by first | (left; intro h; cases h) | (right; rfl), by first | exact (fun _ h => ⟨_, h⟩) | exact (fun _ _ => ⟨_, rfl⟩)⟩, ?_⟩)), rfl⟩ ?_
  refine AW_seq ?_
  refine AW_region ?_
  refine AL_p (x_alloc (z := .agg #[.slice none 0 0]) 100 rfl (by kernel_rfl) rfl rfl rfl rfl) ?_
  refine AL_nil ?_
  refine AW_seq ?_
  refine AW_region ?_
  refine AL_p (x_build (zs := [.slice none 0 0]) (places := [(0, 1)]) rfl (by kernel_rfl) rfl rfl rfl rfl rfl) ?_
  refine AL_p (x_alloc (z := .agg #[.slice none 0 0]) 101 rfl (by kernel_rfl) rfl rfl rfl rfl) ?_
  refine AL_p (x_store (n := 1) rfl rfl rfl rfl (by kernel_rfl) rfl rfl rfl) ?_
  refine AL_nil ?_
  refine AW_seq ?_
  refine AW_seq ?_
  refine AW_region ?_
  refine AL_p (x_assign rfl rfl) ?_
  refine AL_nil ?_
  refine AW_block ?_
  refine AW_adopt (T := 147) (e := valE) 102 101 0 rfl rfl rfl rfl rfl ?_
  refine AW_loop2 (ι := {q : Nat // q ≤ ar.toNat}) (fun p => [(6, .one (.c (.int .i64 (((p.1) : Int)))))]) (fun p => [(102, some (.arr 147 valE (dVals b (p.1) c).1 true)), (200, some (curB b (dVals b (p.1) c).2))]) [0, 1, 4, 5] [100, 101] (fun p => 9 - (p.1)) ⟨0, by omega⟩ (rn []) ?_ ?_
  exact ⟨by (repeat refine ⟨⟨_, rfl, by first | exact VLe.rf | exact vle_int (by dsimp only; omega)⟩, ?_⟩); exact trivial, by (repeat refine ⟨⟨_, rfl, by first | exact BLe.rf | exact BLe.box AllC.rf | exact BLe.arr (by exact rfl)⟩, ?_⟩); exact trivial, by repeat (first | exact trivial | refine ⟨⟨rfl, by first | (left; intro h; cases h) | (right; rfl), by first | exact (fun _ h => ⟨_, h⟩) | exact (fun _ _ => ⟨_, rfl⟩)⟩, ?_⟩), rfl⟩
  rintro ⟨k, hinv⟩
  dsimp only
  have hk := hinv
  have hln := (dVals_ok b k c).1
  refine AW_seq ?_
  refine AW_seq ?_
  refine AW_region ?_
  refine AL_p (x_move rfl rfl) ?_
  refine AL_p (x_move rfl rfl) ?_
  refine AL_b (x_lss rfl rfl rfl) (fun b10 h10 => ?_)
  refine AL_nil ?_
  cases b10
  · try simp only [tdy] at h10
    obtain rfl : k = ar.toNat := by omega
    refine AW_condF rfl ?_
    refine AW_exit (BQ_hit ?_)
    refine AW_seq ?_
    refine AW_region ?_
    refine AL_p (x_loadN (n := 1) rfl rfl rfl (by kernel_rfl) rfl rfl) ?_
    refine AL_p (x_store (n := 1) rfl rfl rfl rfl (by kernel_rfl) rfl rfl rfl) ?_
    refine AL_nil ?_
    refine AW_ret ?_
    exact ⟨rn [(9, 100), (0, 102)], ⟨⟨⟨_, rfl, VLe.rf⟩, trivial⟩, ⟨⟨_, rfl, by first | exact BLe.rf | exact ble_eq (by rw [hno]; first | done | rfl)⟩, ⟨_, rfl, by first | exact BLe.rf | exact ble_eq (by rw [hno]; first | done | rfl)⟩, ⟨_, rfl, by first | exact BLe.rf | (refine BLe.arr ?_; rw [hno]; first | done | rfl)⟩, trivial⟩, by repeat (first | exact trivial | refine ⟨⟨rfl, by first | (left; intro h; cases h) | (right; rfl), by first | exact (fun _ h => ⟨_, h⟩) | exact (fun _ _ => ⟨_, rfl⟩)⟩, ?_⟩), rfl⟩⟩
  try simp only [tdy] at h10
  refine AW_condT rfl ?_
  refine AW_skip ?_
  refine AW_seq ?_
  refine AW_block ?_
  refine AW_draw rfl ?_
  refine AL_p (x_field (off := 0) (o' := 0) rfl rfl rfl (by kernel_rfl) rfl) ?_
  refine AL_p (x_load1 rfl rfl rfl (by kernel_rfl) rfl) ?_
  refine AL_p (x_move rfl rfl) ?_
  refine AL_p (x_call (ks := []) (L := [(200, some _)]) (L' := [(200, some _)]) rfl rfl rfl (value_c b (dVals b k c).2 hb) rfl AllV.rf (caught_of rfl) rfl rfl rfl ⟨rfl, trivial⟩ rfl) ?_
  refine AL_p (y_bslice (E := 147) (e := valE) [.tmp 16] ([(dValue b (dVals b k c).2).1]) 103 rfl rfl rfl rfl rfl rfl rfl rfl FitL.rf rfl rfl rfl rfl rfl rfl (by kernel_rfl)) ?_
  refine AL_p (y_append 104 rfl rfl rfl rfl rfl rfl rfl rfl (by kernel_rfl) (by simp only [List.length_append, hln, List.length_cons, List.length_nil]; omega)) ?_
  refine AL_p (x_field (off := 0) (o' := 0) rfl rfl rfl (by kernel_rfl) rfl) ?_
  refine AL_p (x_store (n := 1) rfl rfl rfl rfl (by kernel_rfl) rfl rfl rfl) ?_
  refine AL_nild (by kernel_rfl) ?_
  refine AW_region ?_
  refine AL_p (x_move rfl rfl) ?_
  refine AL_p (x_add rfl rfl rfl (IntWalk.i64_in _ (by omega))) ?_
  refine AL_p (x_assign rfl rfl) ?_
  refine AL_nil ?_
  refine ⟨⟨k + 1, by omega⟩, rn [(102, 104)], ?_, by dsimp only; omega⟩
  exact ⟨by (repeat refine ⟨⟨_, rfl, by first | exact VLe.rf | exact vle_int (by dsimp only; omega)⟩, ?_⟩); exact trivial, by (repeat refine ⟨⟨_, rfl, by first | exact BLe.rf | exact BLe.box AllC.rf | exact BLe.arr (by exact rfl)⟩, ?_⟩); exact trivial, by repeat (first | exact trivial | refine ⟨⟨rfl, by first | (left; intro h; cases h) | (right; rfl), by first | exact (fun _ h => ⟨_, h⟩) | exact (fun _ _ => ⟨_, rfl⟩)⟩, ?_⟩), rfl⟩
theorem drawRow_c (b : List Int) (c : Cur) (ar : Int) (ha : ar ≤ 8) (hb : b.length ≤ 1048576) (k : Nat) (hk : Nat.beq k 200 = false) : AC Tryz.prog 109 [.one (.ptr 200 0), .one (.c (.int .i64 ar))] [(200, some (curB b c))] (.agg [.own k]) [(200, some (curB b (dVals b ar.toNat c).2)), (k, some (.arr 147 valE (dVals b ar.toNat c).1 true))] := AC.cur (drawRow0 b c ar ha hb) k hk aggOwn (fun _ => rfl)

set_option maxHeartbeats 4000000 in
theorem drawRowF_c (b : List Int) (c : Cur) (ar : Int) (ha : ar ≤ 8) (hb : b.length ≤ 1048576) : AC Tryz.prog 109 [.one (.ptr 200 0), .one (.c (.int .i64 ar))] [(200, some (curB b c))] (.agg [.sl valE (dVals b ar.toNat c).1]) [(200, some (curB b (dVals b ar.toNat c).2))] := by
  have hno : True := trivial
  refine AC_bodyC (n := 1) (k := 9) (T := [(4, .one (.ptr 9 0))]) (Lf := ((9, some (.box [.sl valE (dVals b ar.toNat c).1])) :: [(200, some (curB b (dVals b ar.toNat c).2))])) Tryz.func109 rfl rfl Tryz.ntmps109 rfl Tryz.results109 rfl rfl (by kernel_rfl) rfl rfl ⟨trivial, (by repeat (first | exact trivial | refine ⟨⟨_, rfl, BLe.rf⟩, ?_⟩)), (by repeat (first | exact trivial | refine ⟨⟨rfl, by first | (left; intro h; cases h) | (right; rfl), by first | exact (fun _ h => ⟨_, h⟩) | exact (fun _ _ => ⟨_, rfl⟩)⟩, ?_⟩)), rfl⟩ ?_
  refine AW_seq ?_
  refine AW_region ?_
  refine AL_p (x_alloc (z := .agg #[.slice none 0 0]) 100 rfl (by kernel_rfl) rfl rfl rfl rfl) ?_
  refine AL_nil ?_
  refine AW_seq ?_
  refine AW_region ?_
  refine AL_p (x_build (zs := [.slice none 0 0]) (places := [(0, 1)]) rfl (by kernel_rfl) rfl rfl rfl rfl rfl) ?_
  refine AL_p (x_alloc (z := .agg #[.slice none 0 0]) 101 rfl (by kernel_rfl) rfl rfl rfl rfl) ?_
  refine AL_p (x_store (n := 1) rfl rfl rfl rfl (by kernel_rfl) rfl rfl rfl) ?_
  refine AL_nil ?_
  refine AW_seq ?_
  refine AW_seq ?_
  refine AW_region ?_
  refine AL_p (x_assign rfl rfl) ?_
  refine AL_nil ?_
  refine AW_block ?_
  refine AW_adopt (T := 147) (e := valE) 102 101 0 rfl rfl rfl rfl rfl ?_
  refine AW_loop2 (ι := {q : Nat // q ≤ ar.toNat}) (fun p => [(6, .one (.c (.int .i64 (((p.1) : Int)))))]) (fun p => [(102, some (.arr 147 valE (dVals b (p.1) c).1 true)), (200, some (curB b (dVals b (p.1) c).2))]) [0, 1, 4, 5] [100, 101] (fun p => 9 - (p.1)) ⟨0, by omega⟩ (rn []) ?_ ?_
  exact ⟨by (repeat refine ⟨⟨_, rfl, by first | exact VLe.rf | exact vle_int (by dsimp only; omega)⟩, ?_⟩); exact trivial, by (repeat refine ⟨⟨_, rfl, by first | exact BLe.rf | exact BLe.box AllC.rf | exact BLe.arr (by exact rfl)⟩, ?_⟩); exact trivial, by repeat (first | exact trivial | refine ⟨⟨rfl, by first | (left; intro h; cases h) | (right; rfl), by first | exact (fun _ h => ⟨_, h⟩) | exact (fun _ _ => ⟨_, rfl⟩)⟩, ?_⟩), rfl⟩
  rintro ⟨k, hinv⟩
  dsimp only
  have hk := hinv
  have hln := (dVals_ok b k c).1
  refine AW_seq ?_
  refine AW_seq ?_
  refine AW_region ?_
  refine AL_p (x_move rfl rfl) ?_
  refine AL_p (x_move rfl rfl) ?_
  refine AL_b (x_lss rfl rfl rfl) (fun b10 h10 => ?_)
  refine AL_nil ?_
  cases b10
  · try simp only [tdy] at h10
    obtain rfl : k = ar.toNat := by omega
    refine AW_condF rfl ?_
    refine AW_exit (BQ_hit ?_)
    refine AW_seq ?_
    refine AW_region ?_
    refine AL_p (x_loadN (n := 1) rfl rfl rfl (by kernel_rfl) rfl rfl) ?_
    refine AL_p (x_store (n := 1) rfl rfl rfl rfl (by kernel_rfl) rfl rfl rfl) ?_
    refine AL_nil ?_
    refine AW_shutB 102 100 0 rfl rfl rfl rfl ?_
    refine AW_ret ?_
    exact ⟨rn [(9, 100)], ⟨⟨⟨_, rfl, VLe.rf⟩, trivial⟩, ⟨⟨_, rfl, by first | exact BLe.rf | exact ble_eq (by rw [hno]; first | done | rfl)⟩, ⟨_, rfl, by first | exact BLe.rf | exact ble_eq (by rw [hno]; first | done | rfl)⟩, trivial⟩, by repeat (first | exact trivial | refine ⟨⟨rfl, by first | (left; intro h; cases h) | (right; rfl), by first | exact (fun _ h => ⟨_, h⟩) | exact (fun _ _ => ⟨_, rfl⟩)⟩, ?_⟩), rfl⟩⟩
  try simp only [tdy] at h10
  refine AW_condT rfl ?_
  refine AW_skip ?_
  refine AW_seq ?_
  refine AW_block ?_
  refine AW_draw rfl ?_
  refine AL_p (x_field (off := 0) (o' := 0) rfl rfl rfl (by kernel_rfl) rfl) ?_
  refine AL_p (x_load1 rfl rfl rfl (by kernel_rfl) rfl) ?_
  refine AL_p (x_move rfl rfl) ?_
  refine AL_p (x_call (ks := []) (L := [(200, some _)]) (L' := [(200, some _)]) rfl rfl rfl (value_c b (dVals b k c).2 hb) rfl AllV.rf (caught_of rfl) rfl rfl rfl ⟨rfl, trivial⟩ rfl) ?_
  refine AL_p (y_bslice (E := 147) (e := valE) [.tmp 16] ([(dValue b (dVals b k c).2).1]) 103 rfl rfl rfl rfl rfl rfl rfl rfl FitL.rf rfl rfl rfl rfl rfl rfl (by kernel_rfl)) ?_
  refine AL_p (y_append 104 rfl rfl rfl rfl rfl rfl rfl rfl (by kernel_rfl) (by simp only [List.length_append, hln, List.length_cons, List.length_nil]; omega)) ?_
  refine AL_p (x_field (off := 0) (o' := 0) rfl rfl rfl (by kernel_rfl) rfl) ?_
  refine AL_p (x_store (n := 1) rfl rfl rfl rfl (by kernel_rfl) rfl rfl rfl) ?_
  refine AL_nild (by kernel_rfl) ?_
  refine AW_region ?_
  refine AL_p (x_move rfl rfl) ?_
  refine AL_p (x_add rfl rfl rfl (IntWalk.i64_in _ (by omega))) ?_
  refine AL_p (x_assign rfl rfl) ?_
  refine AL_nil ?_
  refine ⟨⟨k + 1, by omega⟩, rn [(102, 104)], ?_, by dsimp only; omega⟩
  exact ⟨by (repeat refine ⟨⟨_, rfl, by first | exact VLe.rf | exact vle_int (by dsimp only; omega)⟩, ?_⟩); exact trivial, by (repeat refine ⟨⟨_, rfl, by first | exact BLe.rf | exact BLe.box AllC.rf | exact BLe.arr (by exact rfl)⟩, ?_⟩); exact trivial, by repeat (first | exact trivial | refine ⟨⟨rfl, by first | (left; intro h; cases h) | (right; rfl), by first | exact (fun _ h => ⟨_, h⟩) | exact (fun _ _ => ⟨_, rfl⟩)⟩, ?_⟩), rfl⟩

set_option maxHeartbeats 4000000 in
theorem anyRow_c (b : List Int) (c : Cur) (hb : b.length ≤ 1048576) : AC Tryz.prog 136 [.one (.ptr 200 0)] [(200, some (curB b c))] (.agg (rowC (dAnyRow b c).1)) [(200, some (curB b (dAnyRow b c).2))] := by
  have hd0 := dBelow_lt b c (n := 4) (by decide)
  have hln : (dVals b (dBelow b c 4).1.toNat (dBelow b c 4).2).1.length = (dBelow b c 4).1.toNat := (dVals_ok b _ _).1
  have hd1 := dBelow_lt b (dBelow b (dRow0 b c).2 10).2 (n := 2) (by decide)
  refine AC_bodyC (n := 1) (k := 9) (T := [(2, .one (.ptr 9 0))]) (Lf := ((9, some (.box (rowC (dAnyRow b c).1))) :: [(200, some (curB b (dAnyRow b c).2))])) Tryz.func136 rfl rfl Tryz.ntmps136 rfl Tryz.results136 rfl rfl (by kernel_rfl) rfl rfl ⟨trivial, (by repeat (first | exact trivial | refine ⟨⟨_, rfl, BLe.rf⟩, ?_⟩)), (by repeat (first | exact trivial | refine ⟨⟨rfl, by first | (left; intro h; cases h) | (right; rfl), by first | exact (fun _ h => ⟨_, h⟩) | exact (fun _ _ => ⟨_, rfl⟩)⟩, ?_⟩)), rfl⟩ ?_
  refine AW_seq ?_
  refine AW_region ?_
  refine AL_p (x_alloc (z := .agg #[.slice none 0 0]) 100 rfl (by kernel_rfl) rfl rfl rfl rfl) ?_
  refine AL_nil ?_
  refine AW_seq ?_
  refine AW_region ?_
  refine AL_p (x_move rfl rfl) ?_
  refine AL_p (x_move rfl rfl) ?_
  refine AL_p (x_call (ks := []) (L := [(200, some _)]) (L' := [(200, some _)]) rfl rfl rfl (below_c b c hb 4) rfl AllV.rf (caught_of rfl) rfl rfl rfl ⟨rfl, trivial⟩ rfl) ?_
  refine AL_p (x_call (ks := []) (L := [(200, some _)]) (L' := [(200, some _), (101, some _)]) rfl rfl rfl (drawRow_c b (dBelow b c 4).2 (dBelow b c 4).1 (by omega) hb 101 rfl) rfl AllV.rf (caught_of rfl) rfl rfl rfl ⟨rfl, trivial⟩ rfl) ?_
  refine AL_p (x_alloc (z := .agg #[.slice none 0 0]) 102 rfl (by kernel_rfl) rfl rfl rfl rfl) ?_
  refine AL_p (x_store (n := 1) rfl rfl rfl rfl (by kernel_rfl) rfl rfl rfl) ?_
  refine AL_nil ?_
  refine AW_seq ?_
  refine AW_region ?_
  refine AL_p (x_move rfl rfl) ?_
  refine AL_p (x_call (ks := []) (L := [(200, some _)]) (L' := [(200, some _)]) rfl rfl rfl (below_c b (dRow0 b c).2 hb 10) rfl AllV.rf (caught_of rfl) rfl rfl rfl ⟨rfl, trivial⟩ rfl) ?_
  refine AL_p (x_assign rfl rfl) ?_
  refine AL_nil ?_
  refine AW_seq ?_
  refine AW_seq ?_
  refine AW_region ?_
  refine AL_p (x_move rfl rfl) ?_
  refine AL_b (x_eql rfl rfl rfl) (fun b12 h12 => ?_)
  refine AL_nil ?_
  cases b12
  rotate_left
  · try simp only [tdy] at h12
    have hno : dAnyRow b c = _ := if_pos (by omega)
    refine AW_condT rfl ?_
    refine AW_draw rfl ?_
    refine AL_p (x_field (off := 0) (o' := 0) rfl rfl rfl (by kernel_rfl) rfl) ?_
    refine AL_p (x_load1 rfl rfl rfl (by kernel_rfl) rfl) ?_
    refine AL_p (x_move rfl rfl) ?_
    refine AL_p (x_call (ks := []) (L := [(200, some _)]) (L' := [(200, some _)]) rfl rfl rfl (anyV_c b (dBelow b (dRow0 b c).2 10).2 hb) rfl AllV.rf (caught_of rfl) rfl rfl rfl ⟨rfl, trivial⟩ rfl) ?_
    refine AL_p (y_bslice (E := 147) (e := valE) [.tmp 16] ([(dAnyV b (dBelow b (dRow0 b c).2 10).2).1]) 103 rfl rfl rfl rfl rfl rfl rfl rfl FitL.rf rfl rfl rfl rfl rfl rfl (by kernel_rfl)) ?_
    refine AL_p (y_append 104 rfl rfl rfl rfl rfl rfl rfl rfl (by kernel_rfl) (by simp only [List.length_append, hln, List.length_cons, List.length_nil]; omega)) ?_
    refine AL_p (x_field (off := 0) (o' := 0) rfl rfl rfl (by kernel_rfl) rfl) ?_
    refine AL_p (x_store (n := 1) rfl rfl rfl rfl (by kernel_rfl) rfl rfl rfl) ?_
    refine AL_nild (by kernel_rfl) ?_
    refine AW_seq ?_
    refine AW_seq ?_
    refine AW_region ?_
    refine AL_p (x_move rfl rfl) ?_
    refine AL_b (x_eql rfl rfl rfl) (fun b21 h21 => ?_)
    refine AL_nil ?_
    cases b21
    rotate_left
    · exfalso; simp at h21; omega
    try simp only [tdy] at h21
    refine AW_condF rfl ?_
    refine AW_skip ?_
    refine AW_seq ?_
    refine AW_region ?_
    refine AL_p (x_loadN (n := 1) rfl rfl rfl (by kernel_rfl) rfl rfl) ?_
    refine AL_p (x_store (n := 1) rfl rfl rfl rfl (by kernel_rfl) rfl rfl rfl) ?_
    refine AL_nil ?_
    refine AW_shutB 104 100 0 rfl rfl rfl rfl ?_
    refine AW_ret ?_
    exact ⟨rn [(9, 100)], ⟨⟨⟨_, rfl, VLe.rf⟩, trivial⟩, ⟨⟨_, rfl, by first | exact BLe.rf | exact ble_eq (by rw [hno]; first | done | rfl)⟩, ⟨_, rfl, by first | exact BLe.rf | exact ble_eq (by rw [hno]; first | done | rfl)⟩, trivial⟩, by repeat (first | exact trivial | refine ⟨⟨rfl, by first | (left; intro h; cases h) | (right; rfl), by first | exact (fun _ h => ⟨_, h⟩) | exact (fun _ _ => ⟨_, rfl⟩)⟩, ?_⟩), rfl⟩⟩
  try simp only [tdy] at h12
  refine AW_condF rfl ?_
  refine AW_skip ?_
  refine AW_seq ?_
  refine AW_seq ?_
  refine AW_region ?_
  refine AL_p (x_move rfl rfl) ?_
  refine AL_b (x_eql rfl rfl rfl) (fun b21 h21 => ?_)
  refine AL_nil ?_
  cases b21
  · try simp only [tdy] at h21
    have hno : dAnyRow b c = _ := (if_neg (by omega)).trans (if_neg (by omega))
    refine AW_condF rfl ?_
    refine AW_skip ?_
    refine AW_seq ?_
    refine AW_region ?_
    refine AL_p (x_loadN (n := 1) rfl rfl rfl (by kernel_rfl) rfl rfl) ?_
    refine AL_p (x_store (n := 1) rfl rfl rfl rfl (by kernel_rfl) rfl rfl rfl) ?_
    refine AL_nil ?_
    refine AW_shutB 101 100 0 rfl rfl rfl rfl ?_
    refine AW_ret ?_
    exact ⟨rn [(9, 100)], ⟨⟨⟨_, rfl, VLe.rf⟩, trivial⟩, ⟨⟨_, rfl, by first | exact BLe.rf | exact ble_eq (by rw [hno]; first | done | rfl)⟩, ⟨_, rfl, by first | exact BLe.rf | exact ble_eq (by rw [hno]; first | done | rfl)⟩, trivial⟩, by repeat (first | exact trivial | refine ⟨⟨rfl, by first | (left; intro h; cases h) | (right; rfl), by first | exact (fun _ h => ⟨_, h⟩) | exact (fun _ _ => ⟨_, rfl⟩)⟩, ?_⟩), rfl⟩⟩
  try simp only [tdy] at h21
  have hno : dAnyRow b c = _ := (if_neg (by omega)).trans (if_pos (by omega))
  refine AW_condT rfl ?_
  refine AW_region ?_
  refine AL_p (x_move rfl rfl) ?_
  refine AL_p (x_move rfl rfl) ?_
  refine AL_p (x_call (ks := []) (L := [(200, some _)]) (L' := [(200, some _)]) rfl rfl rfl (below_c b (dBelow b (dRow0 b c).2 10).2 hb 2) rfl AllV.rf (caught_of rfl) rfl rfl rfl ⟨rfl, trivial⟩ rfl) ?_
  refine AL_p (x_add rfl rfl rfl (IntWalk.i64_in _ (by omega))) ?_
  refine AL_p (x_call (ks := []) (L := [(200, some _)]) (L' := [(200, some _), (105, some _)]) rfl rfl rfl (drawRow_c b (dBelow b (dBelow b (dRow0 b c).2 10).2 2).2 (6 + (dBelow b (dBelow b (dRow0 b c).2 10).2 2).1) (by omega) hb 105 rfl) rfl AllV.rf (caught_of rfl) rfl rfl rfl ⟨rfl, trivial⟩ rfl) ?_
  refine AL_p (x_store (n := 1) rfl rfl rfl rfl (by kernel_rfl) rfl rfl rfl) ?_
  refine AL_nil ?_
  refine AW_seq ?_
  refine AW_region ?_
  refine AL_p (x_loadN (n := 1) rfl rfl rfl (by kernel_rfl) rfl rfl) ?_
  refine AL_p (x_store (n := 1) rfl rfl rfl rfl (by kernel_rfl) rfl rfl rfl) ?_
  refine AL_nil ?_
  refine AW_shutB 105 100 0 rfl rfl rfl rfl ?_
  refine AW_ret ?_
  exact ⟨rn [(9, 100)], ⟨⟨⟨_, rfl, VLe.rf⟩, trivial⟩, ⟨⟨_, rfl, by first | exact BLe.rf | exact ble_eq (by rw [hno]; first | done | rfl)⟩, ⟨_, rfl, by first | exact BLe.rf | exact ble_eq (by rw [hno]; first | done | rfl)⟩, trivial⟩, by repeat (first | exact trivial | refine ⟨⟨rfl, by first | (left; intro h; cases h) | (right; rfl), by first | exact (fun _ h => ⟨_, h⟩) | exact (fun _ _ => ⟨_, rfl⟩)⟩, ?_⟩), rfl⟩⟩

set_option maxHeartbeats 4000000 in
theorem drawRel0 (b : List Int) (c : Cur) (ar : Int) (ha : ar ≤ 8) (hb : b.length ≤ 1048576) : AC Tryz.prog 117 [.one (.ptr 200 0), .one (.c (.int .i64 ar))] [(200, some (curB b c))] (.agg [.c (.int .i64 ar), .own 0]) [(200, some (curB b (dRel b ar c).2)), (0, some (.arr 72 rowE (dRel b ar c).1.rows false))] := by
  have hd0 := dBelow_lt b c (n := 6) (by decide)
  have hno : dRel b ar c = (⟨ar, (dPuts b ar (dBelow b c 6).1.toNat (dBelow b c 6).2).1⟩, (dPuts b ar (dBelow b c 6).1.toNat (dBelow b c 6).2).2) := rfl
  refine AC_bodyC (n := 2) (k := 9) (T := [(4, .one (.ptr 9 0))]) (Lf := ((9, some (.box [.c (.int .i64 ar), .own 0])) :: [(200, some (curB b (dRel b ar c).2)), (0, some (.arr 72 rowE (dRel b ar c).1.rows false))])) Tryz.func117 rfl rfl Tryz.ntmps117 rfl Tryz.results117 rfl rfl (by kernel_rfl) rfl rfl ⟨trivial, (by repeat (first | exact trivial | refine ⟨⟨_, rfl, BLe.rf⟩, ?_⟩)), (by repeat (first | exact trivial | refine ⟨⟨rfl, by first | (left; intro h; cases h) | (right; rfl), by first | exact (fun _ h => ⟨_, h⟩) | exact (fun _ _ => ⟨_, rfl⟩)⟩, ?_⟩)), rfl⟩ ?_
  refine AW_seq ?_
  refine AW_region ?_
  refine AL_p (x_alloc (z := .agg #[.int .i64 0, .slice none 0 0]) 100 rfl (by kernel_rfl) rfl rfl rfl rfl) ?_
  refine AL_nil ?_
  refine AW_seq ?_
  refine AW_region ?_
  refine AL_p (x_move rfl rfl) ?_
  refine AL_p (x_build (zs := [.int .i64 0, .slice none 0 0]) (places := [(0, 1), (1, 1)]) rfl (by kernel_rfl) rfl rfl rfl rfl rfl) ?_
  refine AL_p (x_alloc (z := .agg #[.int .i64 0, .slice none 0 0]) 101 rfl (by kernel_rfl) rfl rfl rfl rfl) ?_
  refine AL_p (x_store (n := 2) rfl rfl rfl rfl (by kernel_rfl) rfl rfl rfl) ?_
  refine AL_nil ?_
  refine AW_seq ?_
  refine AW_seq ?_
  refine AW_region ?_
  refine AL_p (x_move rfl rfl) ?_
  refine AL_p (x_call (ks := []) (L := [(200, some _)]) (L' := [(200, some _)]) rfl rfl rfl (below_c b c hb 6) rfl AllV.rf (caught_of rfl) rfl rfl rfl ⟨rfl, trivial⟩ rfl) ?_
  refine AL_p (x_assign rfl rfl) ?_
  refine AL_nil ?_
  refine AW_block ?_
  refine AW_adopt (T := 72) (e := rowE) 102 101 1 rfl rfl rfl rfl rfl ?_
  refine AW_shallow 102 rfl ?_
  refine AW_loop2 (ι := {q : Nat // (q : Int) ≤ (dBelow b c 6).1}) (fun p => [(6, .one (.c (.int .i64 ((dBelow b c 6).1 - ((p.1) : Int)))))]) (fun p => [(102, some (.arr 72 rowE (dPuts b ar (p.1) (dBelow b c 6).2).1 false)), (200, some (curB b (dPuts b ar (p.1) (dBelow b c 6).2).2))]) [0, 1, 4, 5] [100, 101] (fun p => (dBelow b c 6).1.toNat - (p.1)) ⟨0, by omega⟩ (rn []) ?_ ?_
  exact ⟨by (repeat refine ⟨⟨_, rfl, by first | exact VLe.rf | exact vle_int (by dsimp only; omega)⟩, ?_⟩); exact trivial, by (repeat refine ⟨⟨_, rfl, by first | exact BLe.rf | exact BLe.box AllC.rf | exact BLe.arr (by exact rfl)⟩, ?_⟩); exact trivial, by repeat (first | exact trivial | refine ⟨⟨rfl, by first | (left; intro h; cases h) | (right; rfl), by first | exact (fun _ h => ⟨_, h⟩) | exact (fun _ _ => ⟨_, rfl⟩)⟩, ?_⟩), rfl⟩
  rintro ⟨j, hinv⟩
  dsimp only
  have hj := hinv
  obtain ⟨s1, s2, s3, s4⟩ := dPuts_ok b ar j (dBelow b c 6).2
  obtain ⟨g1, g2, g3⟩ := dVals_ok b ar.toNat (dPuts b ar j (dBelow b c 6).2).2
  refine AW_seq ?_
  refine AW_seq ?_
  refine AW_region ?_
  refine AL_p (x_move rfl rfl) ?_
  refine AL_b (x_gtr rfl rfl rfl) (fun b12 h12 => ?_)
  refine AL_nil ?_
  cases b12
  · try simp only [tdy] at h12
    obtain rfl : j = (dBelow b c 6).1.toNat := by omega
    refine AW_condF rfl ?_
    refine AW_exit (BQ_hit ?_)
    refine AW_seq ?_
    refine AW_region ?_
    refine AL_p (x_loadN (n := 2) rfl rfl rfl (by kernel_rfl) rfl rfl) ?_
    refine AL_p (x_store (n := 2) rfl rfl rfl rfl (by kernel_rfl) rfl rfl rfl) ?_
    refine AL_nil ?_
    refine AW_ret ?_
    exact ⟨rn [(9, 100), (0, 102)], ⟨⟨⟨_, rfl, VLe.rf⟩, trivial⟩, ⟨⟨_, rfl, by first | exact BLe.rf | exact ble_eq (by rw [hno]; first | done | rfl)⟩, ⟨_, rfl, by first | exact BLe.rf | exact ble_eq (by rw [hno]; first | done | rfl)⟩, ⟨_, rfl, by first | exact BLe.rf | (refine BLe.arr ?_; rw [hno]; first | done | rfl)⟩, trivial⟩, by repeat (first | exact trivial | refine ⟨⟨rfl, by first | (left; intro h; cases h) | (right; rfl), by first | exact (fun _ h => ⟨_, h⟩) | exact (fun _ _ => ⟨_, rfl⟩)⟩, ?_⟩), rfl⟩⟩
  try simp only [tdy] at h12
  refine AW_condT rfl ?_
  refine AW_skip ?_
  refine AW_seq ?_
  refine AW_block ?_
  refine AW_draw rfl ?_
  refine AL_p (x_field (off := 1) (o' := 1) rfl rfl rfl (by kernel_rfl) rfl) ?_
  refine AL_p (x_load1 rfl rfl rfl (by kernel_rfl) rfl) ?_
  refine AL_p (x_move rfl rfl) ?_
  refine AL_p (x_move rfl rfl) ?_
  refine AL_p (x_call (ks := []) (L := [(200, some _)]) (L' := [(200, some _)]) rfl rfl rfl (drawRowF_c b (dPuts b ar j (dBelow b c 6).2).2 ar ha hb) rfl AllV.rf (caught_of rfl) rfl rfl rfl ⟨rfl, trivial⟩ rfl) ?_
  refine AL_p (x_call (ks := []) (L := [(102, some _)]) (L' := [(102, none), (103, some _)]) rfl rfl rfl (AT.lend1 (putO_t (dPuts b ar j (dBelow b c 6).2).1 (dVals b ar.toNat (dPuts b ar j (dBelow b c 6).2).2).1 (by omega) (fun x hx => by rw [s3 x hx]; omega) (by omega) s1 g2) 102 103 rfl (fun _ => rfl)) rfl AllV.rf (caught_of rfl) rfl rfl rfl ⟨rfl, trivial⟩ rfl) ?_
  refine AL_p (x_field (off := 1) (o' := 1) rfl rfl rfl (by kernel_rfl) rfl) ?_
  refine AL_p (x_store (n := 1) rfl rfl rfl rfl (by kernel_rfl) rfl rfl rfl) ?_
  refine AL_nild (by kernel_rfl) ?_
  refine AW_region ?_
  refine AL_p (x_move rfl rfl) ?_
  refine AL_p (x_sub rfl rfl rfl (IntWalk.i64_in _ (by omega))) ?_
  refine AL_p (x_assign rfl rfl) ?_
  refine AL_nil ?_
  refine ⟨⟨j + 1, by omega⟩, rn [(102, 103)], ?_, by dsimp only; omega⟩
  exact ⟨by (repeat refine ⟨⟨_, rfl, by first | exact VLe.rf | exact vle_int (by dsimp only; omega)⟩, ?_⟩); exact trivial, by (repeat refine ⟨⟨_, rfl, by first | exact BLe.rf | exact BLe.box AllC.rf | exact BLe.arr (by exact rfl)⟩, ?_⟩); exact trivial, by repeat (first | exact trivial | refine ⟨⟨rfl, by first | (left; intro h; cases h) | (right; rfl), by first | exact (fun _ h => ⟨_, h⟩) | exact (fun _ _ => ⟨_, rfl⟩)⟩, ?_⟩), rfl⟩
theorem drawRel_c (b : List Int) (c : Cur) (ar : Int) (ha : ar ≤ 8) (hb : b.length ≤ 1048576) (k : Nat) (hk : Nat.beq k 200 = false) : AC Tryz.prog 117 [.one (.ptr 200 0), .one (.c (.int .i64 ar))] [(200, some (curB b c))] (.agg [.c (.int .i64 ar), .own k]) [(200, some (curB b (dRel b ar c).2)), (k, some (.arr 72 rowE (dRel b ar c).1.rows false))] := AC.cur (drawRel0 b c ar ha hb) k hk aggRel (fun _ => rfl)

set_option maxHeartbeats 4000000 in
theorem full_c (ar n : Int) (ha : ar ≤ 8) (hn : n ≤ 400) : AC Tryz.prog 118 [.one (.c (.int .i64 ar)), .one (.c (.int .i64 n))] [] (.agg [.c (.int .i64 (dFull ar n).arity), .sl rowE (dFull ar n).rows]) [] := by
  refine AC_bodyC (n := 2) (k := 9) (T := [(4, .one (.ptr 9 0))]) (Lf := ((9, some (.box [.c (.int .i64 (dFull ar n).arity), .sl rowE (dFull ar n).rows])) :: [])) Tryz.func118 rfl rfl Tryz.ntmps118 rfl Tryz.results118 rfl rfl (by kernel_rfl) rfl rfl ⟨trivial, (by repeat (first | exact trivial | refine ⟨⟨_, rfl, BLe.rf⟩, ?_⟩)), (by repeat (first | exact trivial | refine ⟨⟨rfl, by first | (left; intro h; cases h) | (right; rfl), by first | exact (fun _ h => ⟨_, h⟩) | exact (fun _ _ => ⟨_, rfl⟩)⟩, ?_⟩)), rfl⟩ ?_
  refine AW_seq ?_
  refine AW_region ?_
  refine AL_p (x_alloc (z := .agg #[.int .i64 0, .slice none 0 0]) 100 rfl (by kernel_rfl) rfl rfl rfl rfl) ?_
  refine AL_nil ?_
  refine AW_seq ?_
  refine AW_region ?_
  refine AL_p (x_move rfl rfl) ?_
  refine AL_p (x_build (zs := [.int .i64 0, .slice none 0 0]) (places := [(0, 1), (1, 1)]) rfl (by kernel_rfl) rfl rfl rfl rfl rfl) ?_
  refine AL_p (x_alloc (z := .agg #[.int .i64 0, .slice none 0 0]) 101 rfl (by kernel_rfl) rfl rfl rfl rfl) ?_
  refine AL_p (x_store (n := 2) rfl rfl rfl rfl (by kernel_rfl) rfl rfl rfl) ?_
  refine AL_nil ?_
  refine AW_seq ?_
  refine AW_seq ?_
  refine AW_region ?_
  refine AL_p (x_assign rfl rfl) ?_
  refine AL_nil ?_
  refine AW_block ?_
  refine AW_adopt (T := 72) (e := rowE) 102 101 1 rfl rfl rfl rfl rfl ?_
  refine AW_loop2 (ι := {q : Nat // q ≤ n.toNat}) (fun p => [(6, .one (.c (.int .i64 (((p.1) : Int)))))]) (fun p => [(102, some (.arr 72 rowE ((List.range (p.1)).map fun (q : Nat) => List.replicate ar.toNat (⟨(q : Int), ⟨#[]⟩⟩ : Val)) true))]) [0, 1, 4, 5] [100, 101] (fun p => 401 - (p.1)) ⟨0, by omega⟩ (rn []) ?_ ?_
  exact ⟨by (repeat refine ⟨⟨_, rfl, by first | exact VLe.rf | exact vle_int (by dsimp only; omega)⟩, ?_⟩); exact trivial, by (repeat refine ⟨⟨_, rfl, by first | exact BLe.rf | exact BLe.box AllC.rf | exact BLe.arr (by first | rfl | simp [List.range_succ])⟩, ?_⟩); exact trivial, by repeat (first | exact trivial | refine ⟨⟨rfl, by first | (left; intro h; cases h) | (right; rfl), by first | exact (fun _ h => ⟨_, h⟩) | exact (fun _ _ => ⟨_, rfl⟩)⟩, ?_⟩), rfl⟩
  rintro ⟨k, hinv⟩
  dsimp only
  have hk := hinv
  refine AW_seq ?_
  refine AW_seq ?_
  refine AW_region ?_
  refine AL_p (x_move rfl rfl) ?_
  refine AL_p (x_move rfl rfl) ?_
  refine AL_b (x_lss rfl rfl rfl) (fun b13 h13 => ?_)
  refine AL_nil ?_
  cases b13
  · try simp only [tdy] at h13
    obtain rfl : k = n.toNat := by omega
    have hno : True := trivial
    refine AW_condF rfl ?_
    refine AW_exit (BQ_hit ?_)
    refine AW_seq ?_
    refine AW_region ?_
    refine AL_p (x_loadN (n := 2) rfl rfl rfl (by kernel_rfl) rfl rfl) ?_
    refine AL_p (x_store (n := 2) rfl rfl rfl rfl (by kernel_rfl) rfl rfl rfl) ?_
    refine AL_nil ?_
    refine AW_shutB 102 100 1 rfl rfl rfl rfl ?_
    refine AW_ret ?_
    exact ⟨rn [(9, 100)], ⟨⟨⟨_, rfl, VLe.rf⟩, trivial⟩, ⟨⟨_, rfl, by first | exact BLe.rf | exact ble_eq (by rw [hno]; first | done | rfl)⟩, trivial⟩, by repeat (first | exact trivial | refine ⟨⟨rfl, by first | (left; intro h; cases h) | (right; rfl), by first | exact (fun _ h => ⟨_, h⟩) | exact (fun _ _ => ⟨_, rfl⟩)⟩, ?_⟩), rfl⟩⟩
  try simp only [tdy] at h13
  refine AW_condT rfl ?_
  refine AW_skip ?_
  refine AW_seq ?_
  refine AW_block ?_
  refine AW_seq ?_
  refine AW_region ?_
  refine AL_p (x_build (zs := [.slice none 0 0]) (places := [(0, 1)]) rfl (by kernel_rfl) rfl rfl rfl rfl rfl) ?_
  refine AL_p (x_alloc (z := .agg #[.slice none 0 0]) 103 rfl (by kernel_rfl) rfl rfl rfl rfl) ?_
  refine AL_p (x_store (n := 1) rfl rfl rfl rfl (by kernel_rfl) rfl rfl rfl) ?_
  refine AL_nil ?_
  refine AW_seq ?_
  refine AW_seq ?_
  refine AW_region ?_
  refine AL_p (x_assign rfl rfl) ?_
  refine AL_nil ?_
  refine AW_block ?_
  refine AW_adopt (T := 147) (e := valE) 104 103 0 rfl rfl rfl rfl rfl ?_
  refine AW_loop2 (ι := {q : Nat // q ≤ ar.toNat}) (fun p => [(8, .one (.c (.int .i64 (((p.1) : Int)))))]) (fun p => [(104, some (.arr 147 valE (List.replicate (p.1) (⟨(k : Int), ⟨#[]⟩⟩ : Val)) true))]) [0, 1, 4, 5, 6, 7] [100, 101, 102, 103] (fun p => 9 - (p.1)) ⟨0, by omega⟩ (rn []) ?_ ?_
  exact ⟨by (repeat refine ⟨⟨_, rfl, by first | exact VLe.rf | exact vle_int (by dsimp only; omega)⟩, ?_⟩); exact trivial, by (repeat refine ⟨⟨_, rfl, by first | exact BLe.rf | exact BLe.box AllC.rf | exact BLe.arr (by first | rfl | exact List.replicate_succ'.symm)⟩, ?_⟩); exact trivial, by repeat (first | exact trivial | refine ⟨⟨rfl, by first | (left; intro h; cases h) | (right; rfl), by first | exact (fun _ h => ⟨_, h⟩) | exact (fun _ _ => ⟨_, rfl⟩)⟩, ?_⟩), rfl⟩
  rintro ⟨i, hinv⟩
  dsimp only
  have hi := hinv
  refine AW_seq ?_
  refine AW_seq ?_
  refine AW_region ?_
  refine AL_p (x_move rfl rfl) ?_
  refine AL_p (x_move rfl rfl) ?_
  refine AL_b (x_lss rfl rfl rfl) (fun b19 h19 => ?_)
  refine AL_nil ?_
  cases b19
  · try simp only [tdy] at h19
    obtain rfl : i = ar.toNat := by omega
    refine AW_condF rfl ?_
    refine AW_exit (BQ_hit ?_)
    refine AW_region ?_
    refine AL_p (x_field (off := 1) (o' := 1) rfl rfl rfl (by kernel_rfl) rfl) ?_
    refine AL_p (x_load1 rfl rfl rfl (by kernel_rfl) rfl) ?_
    refine AL_p (x_loadN (n := 1) rfl rfl rfl (by kernel_rfl) rfl rfl) ?_
    refine AL_p (y_bslice (E := 72) (e := rowE) [.tmp 31] ([List.replicate ar.toNat ⟨(k : Int), ⟨#[]⟩⟩]) 107 rfl rfl rfl rfl rfl rfl rfl rfl FitL.rf rfl rfl rfl rfl rfl rfl (by kernel_rfl)) ?_
    refine AL_p (y_append 108 rfl rfl rfl rfl rfl rfl rfl rfl (by kernel_rfl) (by simp; omega)) ?_
    refine AL_p (x_field (off := 1) (o' := 1) rfl rfl rfl (by kernel_rfl) rfl) ?_
    refine AL_p (x_store (n := 1) rfl rfl rfl rfl (by kernel_rfl) rfl rfl rfl) ?_
    refine AL_nil ?_
    refine AW_region ?_
    refine AL_p (x_move rfl rfl) ?_
    refine AL_p (x_add rfl rfl rfl (IntWalk.i64_in _ (by omega))) ?_
    refine AL_p (x_assign rfl rfl) ?_
    refine AL_nil ?_
    refine ⟨⟨k + 1, by omega⟩, rn [(102, 108)], ?_, by dsimp only; omega⟩
    exact ⟨by (repeat refine ⟨⟨_, rfl, by first | exact VLe.rf | exact vle_int (by dsimp only; omega)⟩, ?_⟩); exact trivial, by (repeat refine ⟨⟨_, rfl, by first | exact BLe.rf | exact BLe.box AllC.rf | exact BLe.arr (by first | rfl | simp [List.range_succ])⟩, ?_⟩); exact trivial, by repeat (first | exact trivial | refine ⟨⟨rfl, by first | (left; intro h; cases h) | (right; rfl), by first | exact (fun _ h => ⟨_, h⟩) | exact (fun _ _ => ⟨_, rfl⟩)⟩, ?_⟩), rfl⟩
  try simp only [tdy] at h19
  refine AW_condT rfl ?_
  refine AW_skip ?_
  refine AW_seq ?_
  refine AW_block ?_
  refine AW_region ?_
  refine AL_p (x_field (off := 0) (o' := 0) rfl rfl rfl (by kernel_rfl) rfl) ?_
  refine AL_p (x_load1 rfl rfl rfl (by kernel_rfl) rfl) ?_
  refine AL_p (x_move rfl rfl) ?_
  refine AL_p (x_build (zs := [.int .i64 0, .string ⟨#[]⟩]) (places := [(0, 1), (1, 1)]) rfl (by kernel_rfl) rfl rfl rfl rfl rfl) ?_
  refine AL_p (y_bslice (E := 147) (e := valE) [.tmp 25] ([⟨(k : Int), ⟨#[]⟩⟩]) 105 rfl rfl rfl rfl rfl rfl rfl rfl FitL.rf rfl rfl rfl rfl rfl rfl (by kernel_rfl)) ?_
  refine AL_p (y_append 106 rfl rfl rfl rfl rfl rfl rfl rfl (by kernel_rfl) (by simp; omega)) ?_
  refine AL_p (x_field (off := 0) (o' := 0) rfl rfl rfl (by kernel_rfl) rfl) ?_
  refine AL_p (x_store (n := 1) rfl rfl rfl rfl (by kernel_rfl) rfl rfl rfl) ?_
  refine AL_nil ?_
  refine AW_region ?_
  refine AL_p (x_move rfl rfl) ?_
  refine AL_p (x_add rfl rfl rfl (IntWalk.i64_in _ (by omega))) ?_
  refine AL_p (x_assign rfl rfl) ?_
  refine AL_nil ?_
  refine ⟨⟨i + 1, by omega⟩, rn [(104, 106)], ?_, by dsimp only; omega⟩
  exact ⟨by (repeat refine ⟨⟨_, rfl, by first | exact VLe.rf | exact vle_int (by dsimp only; omega)⟩, ?_⟩); exact trivial, by (repeat refine ⟨⟨_, rfl, by first | exact BLe.rf | exact BLe.box AllC.rf | exact BLe.arr (by first | rfl | exact List.replicate_succ'.symm)⟩, ?_⟩); exact trivial, by repeat (first | exact trivial | refine ⟨⟨rfl, by first | (left; intro h; cases h) | (right; rfl), by first | exact (fun _ h => ⟨_, h⟩) | exact (fun _ _ => ⟨_, rfl⟩)⟩, ?_⟩), rfl⟩
end Go.Proofs.YtibhoanjglfaoaaGreat

/- Draws (printed by walk.py) -/
namespace Go.Proofs.YtibhoanjglfaoaaGreat
open Go.RowKit
set_option linter.unusedVariables false
set_option linter.unusedSimpArgs false
set_option maxRecDepth 100000

theorem drawRel4_c (b : List Int) (c : Cur) (h : (dBelow b c 4).1 ≤ 8) (hb : b.length ≤ 1048576) (k : Nat) (hk : Nat.beq k 200 = false) : AC Tryz.prog 117 [.one (.ptr 200 0), .one (.c (.int .i64 (dBelow b c 4).1))] [(200, some (curB b (dBelow b c 4).2))] (.agg [.c (.int .i64 (dRel0 b c).1.arity), .own k]) [(200, some (curB b (dRel0 b c).2)), (k, some (.arr 72 rowE (dRel0 b c).1.rows false))] := drawRel_c b _ _ h hb k hk

set_option maxHeartbeats 4000000 in
theorem any_c (b : List Int) (c : Cur) (hb : b.length ≤ 1048576) : AC Tryz.prog 104 [.one (.ptr 200 0)] [(200, some (curB b c))] (.agg (relC (dAny b c).1)) [(200, some (curB b (dAny b c).2))] := by
  have hd0 := dBelow_lt b c (n := 4) (by decide)
  have hrs : (dRel0 b c).1.rows.length ≤ 5 := (dRel_srt b (dBelow b c 4).2 (ar := (dBelow b c 4).1) (by omega)).2
  have hsm : relSm (dRel0 b c).1 := dRel_sm b (dBelow b c 4).2 (ar := (dBelow b c 4).1) (by omega)
  refine AC_bodyC (n := 2) (k := 9) (T := [(2, .one (.ptr 9 0))]) (Lf := ((9, some (.box (relC (dAny b c).1))) :: [(200, some (curB b (dAny b c).2))])) Tryz.func104 rfl rfl Tryz.ntmps104 rfl Tryz.results104 rfl rfl (by kernel_rfl) rfl rfl ⟨trivial, (by repeat (first | exact trivial | refine ⟨⟨_, rfl, BLe.rf⟩, ?_⟩)), (by repeat (first | exact trivial | refine ⟨⟨rfl, by first | (left; intro h; cases h) | (right; rfl), by first | exact (fun _ h => ⟨_, h⟩) | exact (fun _ _ => ⟨_, rfl⟩)⟩, ?_⟩)), rfl⟩ ?_
  refine AW_seq ?_
  refine AW_region ?_
  refine AL_p (x_alloc (z := .agg #[.int .i64 0, .slice none 0 0]) 100 rfl (by kernel_rfl) rfl rfl rfl rfl) ?_
  refine AL_nil ?_
  refine AW_seq ?_
  refine AW_region ?_
  refine AL_p (x_move rfl rfl) ?_
  refine AL_p (x_move rfl rfl) ?_
  refine AL_p (x_call (ks := []) (L := [(200, some _)]) (L' := [(200, some _)]) rfl rfl rfl (below_c b c hb 4) rfl AllV.rf (caught_of rfl) rfl rfl rfl ⟨rfl, trivial⟩ rfl) ?_
  refine AL_p (x_call (ks := []) (L := [(200, some _)]) (L' := [(200, some _), (101, some _)]) rfl rfl rfl (drawRel4_c b c (by omega) hb 101 rfl) rfl AllV.rf (caught_of rfl) rfl rfl rfl ⟨rfl, trivial⟩ rfl) ?_
  refine AL_p (x_alloc (z := .agg #[.int .i64 0, .slice none 0 0]) 102 rfl (by kernel_rfl) rfl rfl rfl rfl) ?_
  refine AL_p (x_store (n := 2) rfl rfl rfl rfl (by kernel_rfl) rfl rfl rfl) ?_
  refine AL_nil ?_
  refine AW_seq ?_
  refine AW_region ?_
  refine AL_p (x_move rfl rfl) ?_
  refine AL_p (x_call (ks := []) (L := [(200, some _)]) (L' := [(200, some _)]) rfl rfl rfl (below_c b (dRel0 b c).2 hb 20) rfl AllV.rf (caught_of rfl) rfl rfl rfl ⟨rfl, trivial⟩ rfl) ?_
  refine AL_p (x_assign rfl rfl) ?_
  refine AL_nil ?_
  refine AW_seq ?_
  refine AW_region ?_
  refine AL_p (x_field (off := 1) (o' := 1) rfl rfl rfl (by kernel_rfl) rfl) ?_
  refine AL_p (x_load1 rfl rfl rfl (by kernel_rfl) rfl) ?_
  refine AL_p (x_olen (E := 72) (n := 1) rfl rfl rfl (by kernel_rfl)) ?_
  refine AL_p (x_assign rfl rfl) ?_
  refine AL_nil ?_
  refine AW_seq ?_
  refine AW_seq ?_
  refine AW_region ?_
  refine AL_p (x_move rfl rfl) ?_
  refine AL_b (x_eql rfl rfl rfl) (fun b17 h17 => ?_)
  refine AL_nil ?_
  cases b17
  rotate_left
  · try simp only [tdy] at h17
    have hno : dAny b c = _ := if_pos (by omega)
    refine AW_condT rfl ?_
    refine AW_region ?_
    refine AL_p (x_move rfl rfl) ?_
    refine AL_p (x_call (ks := []) (L := [(200, some _)]) (L' := [(200, some _)]) rfl rfl rfl (raw_c b (dBelow b (dRel0 b c).2 20).2 hb) rfl AllV.rf (caught_of rfl) rfl rfl rfl ⟨rfl, trivial⟩ rfl) ?_
    refine AL_p (x_field (off := 0) (o' := 0) rfl rfl rfl (by kernel_rfl) rfl) ?_
    refine AL_p (x_store (n := 1) rfl rfl rfl rfl (by kernel_rfl) rfl rfl rfl) ?_
    refine AL_nil ?_
    refine AW_seq ?_
    refine AW_seq ?_
    refine AW_region ?_
    refine AL_p (x_move rfl rfl) ?_
    refine AL_b (x_eql rfl rfl rfl) (fun b22 h22 => ?_)
    refine AL_p (x_move rfl rfl) ?_
    cases b22
    rotate_left
    · exfalso; simp at h22; omega
    try simp only [tdy] at h22
    refine AL_o rfl rfl rfl rfl ?_
    refine AL_o rfl rfl rfl rfl ?_
    refine AL_p (x_pickF rfl rfl rfl) ?_
    refine AL_nil ?_
    refine AW_condF rfl ?_
    refine AW_skip ?_
    refine AW_seq ?_
    refine AW_seq ?_
    refine AW_region ?_
    refine AL_p (x_move rfl rfl) ?_
    refine AL_b (x_eql rfl rfl rfl) (fun b36 h36 => ?_)
    refine AL_p (x_move rfl rfl) ?_
    cases b36
    rotate_left
    · exfalso; simp at h36; omega
    try simp only [tdy] at h36
    refine AL_o rfl rfl rfl rfl ?_
    refine AL_o rfl rfl rfl rfl ?_
    refine AL_p (x_pickF rfl rfl rfl) ?_
    refine AL_nil ?_
    refine AW_condF rfl ?_
    refine AW_skip ?_
    refine AW_seq ?_
    refine AW_seq ?_
    refine AW_region ?_
    refine AL_p (x_move rfl rfl) ?_
    refine AL_b (x_eql rfl rfl rfl) (fun b61 h61 => ?_)
    refine AL_p (x_move rfl rfl) ?_
    cases b61
    rotate_left
    · exfalso; simp at h61; omega
    try simp only [tdy] at h61
    refine AL_o rfl rfl rfl rfl ?_
    refine AL_o rfl rfl rfl rfl ?_
    refine AL_p (x_pickF rfl rfl rfl) ?_
    refine AL_nil ?_
    refine AW_condF rfl ?_
    refine AW_skip ?_
    refine AW_seq ?_
    refine AW_seq ?_
    refine AW_region ?_
    refine AL_p (x_move rfl rfl) ?_
    refine AL_b (x_eql rfl rfl rfl) (fun b79 h79 => ?_)
    refine AL_nil ?_
    cases b79
    rotate_left
    · exfalso; simp at h79; omega
    try simp only [tdy] at h79
    refine AW_condF rfl ?_
    refine AW_skip ?_
    refine AW_seq ?_
    refine AW_region ?_
    refine AL_p (x_loadN (n := 2) rfl rfl rfl (by kernel_rfl) rfl rfl) ?_
    refine AL_p (x_store (n := 2) rfl rfl rfl rfl (by kernel_rfl) rfl rfl rfl) ?_
    refine AL_nil ?_
    refine AW_shutB 101 100 1 rfl rfl rfl rfl ?_
    refine AW_ret ?_
    exact ⟨rn [(9, 100)], ⟨⟨⟨_, rfl, VLe.rf⟩, trivial⟩, ⟨⟨_, rfl, by first | exact BLe.rf | exact ble_eq (by rw [hno]; first | done | rfl)⟩, ⟨_, rfl, by first | exact BLe.rf | exact ble_eq (by rw [hno]; first | done | rfl)⟩, trivial⟩, by repeat (first | exact trivial | refine ⟨⟨rfl, by first | (left; intro h; cases h) | (right; rfl), by first | exact (fun _ h => ⟨_, h⟩) | exact (fun _ _ => ⟨_, rfl⟩)⟩, ?_⟩), rfl⟩⟩
  try simp only [tdy] at h17
  refine AW_condF rfl ?_
  refine AW_skip ?_
  refine AW_seq ?_
  refine AW_seq ?_
  refine AW_region ?_
  refine AL_p (x_move rfl rfl) ?_
  refine AL_b (x_eql rfl rfl rfl) (fun b22 h22 => ?_)
  refine AL_p (x_move rfl rfl) ?_
  cases b22
  rotate_left
  · try simp only [tdy] at h22
    refine AL_g rfl rfl (x_move rfl rfl) ?_
    refine AL_gb rfl rfl (x_gtr rfl rfl rfl) (fun b25 h25 => ?_)
    refine AL_p (x_pickT rfl rfl rfl) ?_
    refine AL_nil ?_
    cases b25
    · try simp only [tdy] at h25
      refine AW_condF rfl ?_
      refine AW_skip ?_
      refine AW_seq ?_
      refine AW_seq ?_
      refine AW_region ?_
      refine AL_p (x_move rfl rfl) ?_
      refine AL_b (x_eql rfl rfl rfl) (fun b36 h36 => ?_)
      refine AL_p (x_move rfl rfl) ?_
      cases b36
      rotate_left
      · exfalso; simp at h36; omega
      try simp only [tdy] at h36
      refine AL_o rfl rfl rfl rfl ?_
      refine AL_o rfl rfl rfl rfl ?_
      refine AL_p (x_pickF rfl rfl rfl) ?_
      refine AL_nil ?_
      refine AW_condF rfl ?_
      refine AW_skip ?_
      refine AW_seq ?_
      refine AW_seq ?_
      refine AW_region ?_
      refine AL_p (x_move rfl rfl) ?_
      refine AL_b (x_eql rfl rfl rfl) (fun b61 h61 => ?_)
      refine AL_p (x_move rfl rfl) ?_
      cases b61
      rotate_left
      · exfalso; simp at h61; omega
      try simp only [tdy] at h61
      refine AL_o rfl rfl rfl rfl ?_
      refine AL_o rfl rfl rfl rfl ?_
      refine AL_p (x_pickF rfl rfl rfl) ?_
      refine AL_nil ?_
      refine AW_condF rfl ?_
      refine AW_skip ?_
      refine AW_seq ?_
      refine AW_seq ?_
      refine AW_region ?_
      refine AL_p (x_move rfl rfl) ?_
      refine AL_b (x_eql rfl rfl rfl) (fun b79 h79 => ?_)
      refine AL_nil ?_
      cases b79
      rotate_left
      · exfalso; simp at h79; omega
      try simp only [tdy] at h79
      have hno : dAny b c = _ := (if_neg (by omega)).trans ((if_neg (by omega)).trans ((if_neg (by omega)).trans ((if_neg (by omega)).trans (if_neg (by omega)))))
      refine AW_condF rfl ?_
      refine AW_skip ?_
      refine AW_seq ?_
      refine AW_region ?_
      refine AL_p (x_loadN (n := 2) rfl rfl rfl (by kernel_rfl) rfl rfl) ?_
      refine AL_p (x_store (n := 2) rfl rfl rfl rfl (by kernel_rfl) rfl rfl rfl) ?_
      refine AL_nil ?_
      refine AW_shutB 101 100 1 rfl rfl rfl rfl ?_
      refine AW_ret ?_
      exact ⟨rn [(9, 100)], ⟨⟨⟨_, rfl, VLe.rf⟩, trivial⟩, ⟨⟨_, rfl, by first | exact BLe.rf | exact ble_eq (by rw [hno]; first | done | rfl)⟩, ⟨_, rfl, by first | exact BLe.rf | exact ble_eq (by rw [hno]; first | done | rfl)⟩, trivial⟩, by repeat (first | exact trivial | refine ⟨⟨rfl, by first | (left; intro h; cases h) | (right; rfl), by first | exact (fun _ h => ⟨_, h⟩) | exact (fun _ _ => ⟨_, rfl⟩)⟩, ?_⟩), rfl⟩⟩
    try simp only [tdy] at h25
    have hd1 := dBelow_lt b (dBelow b (dRel0 b c).2 20).2 (n := (dRel0 b c).1.rows.length) (by omega)
    have hno : dAny b c = _ := (if_neg (by omega)).trans (if_pos (by omega))
    refine AW_condT rfl ?_
    refine AW_draw rfl ?_
    refine AL_p (x_field (off := 1) (o' := 1) rfl rfl rfl (by kernel_rfl) rfl) ?_
    refine AL_p (x_load1 rfl rfl rfl (by kernel_rfl) rfl) ?_
    refine AL_p (x_move rfl rfl) ?_
    refine AL_p (x_move rfl rfl) ?_
    refine AL_p (x_call (ks := []) (L := [(200, some _)]) (L' := [(200, some _)]) rfl rfl rfl (below_c b (dBelow b (dRel0 b c).2 20).2 hb (dRel0 b c).1.rows.length) rfl AllV.rf (caught_of rfl) rfl rfl rfl ⟨rfl, trivial⟩ rfl) ?_
    refine AL_p (x_move rfl rfl) ?_
    refine AL_p (x_call (ks := []) (L := [(200, some _)]) (L' := [(200, some _)]) rfl rfl rfl (anyRow_c b (dBelow b (dBelow b (dRel0 b c).2 20).2 (dRel0 b c).1.rows.length).2 hb) rfl AllV.rf (caught_of rfl) rfl rfl rfl ⟨rfl, trivial⟩ rfl) ?_
    refine AL_p (x_oindex (n := 1) rfl rfl rfl rfl (by kernel_rfl) rfl (k := (dBelow b (dBelow b (dRel0 b c).2 20).2 (dRel0 b c).1.rows.length).1.toNat) (by omega) (by omega)) ?_
    refine AL_p (x_ostore ((dAnyRow b (dBelow b (dBelow b (dRel0 b c).2 20).2 (dRel0 b c).1.rows.length).2).1) rfl rfl rfl rfl (by kernel_rfl) rfl rfl rfl rfl FitL.rf rfl rfl (by omega)) ?_
    refine AL_nild (by kernel_rfl) ?_
    refine AW_seq ?_
    refine AW_seq ?_
    refine AW_region ?_
    refine AL_p (x_move rfl rfl) ?_
    refine AL_b (x_eql rfl rfl rfl) (fun b36 h36 => ?_)
    refine AL_p (x_move rfl rfl) ?_
    cases b36
    rotate_left
    · exfalso; simp at h36; omega
    try simp only [tdy] at h36
    refine AL_o rfl rfl rfl rfl ?_
    refine AL_o rfl rfl rfl rfl ?_
    refine AL_p (x_pickF rfl rfl rfl) ?_
    refine AL_nil ?_
    refine AW_condF rfl ?_
    refine AW_skip ?_
    refine AW_seq ?_
    refine AW_seq ?_
    refine AW_region ?_
    refine AL_p (x_move rfl rfl) ?_
    refine AL_b (x_eql rfl rfl rfl) (fun b61 h61 => ?_)
    refine AL_p (x_move rfl rfl) ?_
    cases b61
    rotate_left
    · exfalso; simp at h61; omega
    try simp only [tdy] at h61
    refine AL_o rfl rfl rfl rfl ?_
    refine AL_o rfl rfl rfl rfl ?_
    refine AL_p (x_pickF rfl rfl rfl) ?_
    refine AL_nil ?_
    refine AW_condF rfl ?_
    refine AW_skip ?_
    refine AW_seq ?_
    refine AW_seq ?_
    refine AW_region ?_
    refine AL_p (x_move rfl rfl) ?_
    refine AL_b (x_eql rfl rfl rfl) (fun b79 h79 => ?_)
    refine AL_nil ?_
    cases b79
    rotate_left
    · exfalso; simp at h79; omega
    try simp only [tdy] at h79
    refine AW_condF rfl ?_
    refine AW_skip ?_
    refine AW_seq ?_
    refine AW_region ?_
    refine AL_p (x_loadN (n := 2) rfl rfl rfl (by kernel_rfl) rfl rfl) ?_
    refine AL_p (x_store (n := 2) rfl rfl rfl rfl (by kernel_rfl) rfl rfl rfl) ?_
    refine AL_nil ?_
    refine AW_shutB 101 100 1 rfl rfl rfl rfl ?_
    refine AW_ret ?_
    exact ⟨rn [(9, 100)], ⟨⟨⟨_, rfl, VLe.rf⟩, trivial⟩, ⟨⟨_, rfl, by first | exact BLe.rf | exact ble_eq (by rw [hno]; first | done | rfl)⟩, ⟨_, rfl, by first | exact BLe.rf | exact ble_eq (by rw [hno]; first | done | rfl)⟩, trivial⟩, by repeat (first | exact trivial | refine ⟨⟨rfl, by first | (left; intro h; cases h) | (right; rfl), by first | exact (fun _ h => ⟨_, h⟩) | exact (fun _ _ => ⟨_, rfl⟩)⟩, ?_⟩), rfl⟩⟩
  try simp only [tdy] at h22
  refine AL_o rfl rfl rfl rfl ?_
  refine AL_o rfl rfl rfl rfl ?_
  refine AL_p (x_pickF rfl rfl rfl) ?_
  refine AL_nil ?_
  refine AW_condF rfl ?_
  refine AW_skip ?_
  refine AW_seq ?_
  refine AW_seq ?_
  refine AW_region ?_
  refine AL_p (x_move rfl rfl) ?_
  refine AL_b (x_eql rfl rfl rfl) (fun b36 h36 => ?_)
  refine AL_p (x_move rfl rfl) ?_
  cases b36
  rotate_left
  · try simp only [tdy] at h36
    refine AL_g rfl rfl (x_move rfl rfl) ?_
    refine AL_gb rfl rfl (x_gtr rfl rfl rfl) (fun b39 h39 => ?_)
    refine AL_p (x_pickT rfl rfl rfl) ?_
    refine AL_nil ?_
    cases b39
    · try simp only [tdy] at h39
      refine AW_condF rfl ?_
      refine AW_skip ?_
      refine AW_seq ?_
      refine AW_seq ?_
      refine AW_region ?_
      refine AL_p (x_move rfl rfl) ?_
      refine AL_b (x_eql rfl rfl rfl) (fun b61 h61 => ?_)
      refine AL_p (x_move rfl rfl) ?_
      cases b61
      rotate_left
      · exfalso; simp at h61; omega
      try simp only [tdy] at h61
      refine AL_o rfl rfl rfl rfl ?_
      refine AL_o rfl rfl rfl rfl ?_
      refine AL_p (x_pickF rfl rfl rfl) ?_
      refine AL_nil ?_
      refine AW_condF rfl ?_
      refine AW_skip ?_
      refine AW_seq ?_
      refine AW_seq ?_
      refine AW_region ?_
      refine AL_p (x_move rfl rfl) ?_
      refine AL_b (x_eql rfl rfl rfl) (fun b79 h79 => ?_)
      refine AL_nil ?_
      cases b79
      rotate_left
      · exfalso; simp at h79; omega
      try simp only [tdy] at h79
      have hno : dAny b c = _ := (if_neg (by omega)).trans ((if_neg (by omega)).trans ((if_neg (by omega)).trans ((if_neg (by omega)).trans (if_neg (by omega)))))
      refine AW_condF rfl ?_
      refine AW_skip ?_
      refine AW_seq ?_
      refine AW_region ?_
      refine AL_p (x_loadN (n := 2) rfl rfl rfl (by kernel_rfl) rfl rfl) ?_
      refine AL_p (x_store (n := 2) rfl rfl rfl rfl (by kernel_rfl) rfl rfl rfl) ?_
      refine AL_nil ?_
      refine AW_shutB 101 100 1 rfl rfl rfl rfl ?_
      refine AW_ret ?_
      exact ⟨rn [(9, 100)], ⟨⟨⟨_, rfl, VLe.rf⟩, trivial⟩, ⟨⟨_, rfl, by first | exact BLe.rf | exact ble_eq (by rw [hno]; first | done | rfl)⟩, ⟨_, rfl, by first | exact BLe.rf | exact ble_eq (by rw [hno]; first | done | rfl)⟩, trivial⟩, by repeat (first | exact trivial | refine ⟨⟨rfl, by first | (left; intro h; cases h) | (right; rfl), by first | exact (fun _ h => ⟨_, h⟩) | exact (fun _ _ => ⟨_, rfl⟩)⟩, ?_⟩), rfl⟩⟩
    try simp only [tdy] at h39
    have hno : dAny b c = _ := (if_neg (by omega)).trans ((if_neg (by omega)).trans (if_pos (by omega)))
    refine AW_condT rfl ?_
    refine AW_seq ?_
    refine AW_region ?_
    refine AL_p (x_field (off := 1) (o' := 1) rfl rfl rfl (by kernel_rfl) rfl) ?_
    refine AL_p (x_load1 rfl rfl rfl (by kernel_rfl) rfl) ?_
    refine AL_p (x_oindex (n := 1) rfl rfl rfl rfl (by kernel_rfl) rfl (k := 0) rfl (by omega)) ?_
    refine AL_p (x_oloadN (n := 1) rfl rfl rfl (by kernel_rfl) (by omega) rfl rfl) ?_
    refine AL_p (x_alloc (z := .agg #[.slice none 0 0]) 103 rfl (by kernel_rfl) rfl rfl rfl rfl) ?_
    refine AL_p (x_store (n := 1) rfl rfl rfl rfl (by kernel_rfl) rfl rfl rfl) ?_
    refine AL_nil ?_
    refine AW_seq ?_
    refine AW_draw rfl ?_
    refine AL_p (x_field (off := 1) (o' := 1) rfl rfl rfl (by kernel_rfl) rfl) ?_
    refine AL_p (x_load1 rfl rfl rfl (by kernel_rfl) rfl) ?_
    refine AL_p (x_field (off := 1) (o' := 1) rfl rfl rfl (by kernel_rfl) rfl) ?_
    refine AL_p (x_load1 rfl rfl rfl (by kernel_rfl) rfl) ?_
    refine AL_p (x_move rfl rfl) ?_
    refine AL_p (x_sub rfl rfl rfl (IntWalk.i64_in _ (by omega))) ?_
    refine AL_p (x_oindex (n := 1) rfl rfl rfl rfl (by kernel_rfl) rfl (k := (dRel0 b c).1.rows.length - 1) (by omega) (by omega)) ?_
    refine AL_p (x_oloadN (n := 1) rfl rfl rfl (by kernel_rfl) (by omega) rfl rfl) ?_
    refine AL_p (x_oindex (n := 1) rfl rfl rfl rfl (by kernel_rfl) rfl (k := 0) rfl (by omega)) ?_
    refine AL_p (x_ostore ((dRel0 b c).1.rows.getD ((dRel0 b c).1.rows.length - 1) []) rfl rfl rfl rfl (by kernel_rfl) rfl rfl rfl rfl (by rw [← getD_row (by omega)]; exact FitL.rf) rfl rfl (by omega)) ?_
    refine AL_nild (by kernel_rfl) ?_
    refine AW_region ?_
    refine AL_p (x_field (off := 1) (o' := 1) rfl rfl rfl (by kernel_rfl) rfl) ?_
    refine AL_p (x_load1 rfl rfl rfl (by kernel_rfl) rfl) ?_
    refine AL_p (x_move rfl rfl) ?_
    refine AL_p (x_sub rfl rfl rfl (IntWalk.i64_in _ (by omega))) ?_
    refine AL_p (x_loadN (n := 1) rfl rfl rfl (by kernel_rfl) rfl rfl) ?_
    refine AL_p (x_oindex (n := 1) rfl rfl rfl rfl (by kernel_rfl) rfl (k := (dRel0 b c).1.rows.length - 1) (by omega) (by simp; omega)) ?_
    refine AL_p (x_ostore ((dRel0 b c).1.rows.getD 0 []) rfl rfl rfl rfl (by kernel_rfl) rfl rfl rfl rfl (by rw [← getD_row (by omega)]; exact FitL.rf) rfl rfl (by simp; omega)) ?_
    refine AL_nil ?_
    refine AW_seq ?_
    refine AW_seq ?_
    refine AW_region ?_
    refine AL_p (x_move rfl rfl) ?_
    refine AL_b (x_eql rfl rfl rfl) (fun b61 h61 => ?_)
    refine AL_p (x_move rfl rfl) ?_
    cases b61
    rotate_left
    · exfalso; simp at h61; omega
    try simp only [tdy] at h61
    refine AL_o rfl rfl rfl rfl ?_
    refine AL_o rfl rfl rfl rfl ?_
    refine AL_p (x_pickF rfl rfl rfl) ?_
    refine AL_nil ?_
    refine AW_condF rfl ?_
    refine AW_skip ?_
    refine AW_seq ?_
    refine AW_seq ?_
    refine AW_region ?_
    refine AL_p (x_move rfl rfl) ?_
    refine AL_b (x_eql rfl rfl rfl) (fun b79 h79 => ?_)
    refine AL_nil ?_
    cases b79
    rotate_left
    · exfalso; simp at h79; omega
    try simp only [tdy] at h79
    refine AW_condF rfl ?_
    refine AW_skip ?_
    refine AW_seq ?_
    refine AW_region ?_
    refine AL_p (x_loadN (n := 2) rfl rfl rfl (by kernel_rfl) rfl rfl) ?_
    refine AL_p (x_store (n := 2) rfl rfl rfl rfl (by kernel_rfl) rfl rfl rfl) ?_
    refine AL_nil ?_
    refine AW_shutB 101 100 1 rfl rfl rfl rfl ?_
    refine AW_ret ?_
    exact ⟨rn [(9, 100)], ⟨⟨⟨_, rfl, VLe.rf⟩, trivial⟩, ⟨⟨_, rfl, by first | exact BLe.rf | exact ble_eq (by rw [hno]; first | done | rfl)⟩, ⟨_, rfl, by first | exact BLe.rf | exact ble_eq (by rw [hno]; first | done | rfl)⟩, trivial⟩, by repeat (first | exact trivial | refine ⟨⟨rfl, by first | (left; intro h; cases h) | (right; rfl), by first | exact (fun _ h => ⟨_, h⟩) | exact (fun _ _ => ⟨_, rfl⟩)⟩, ?_⟩), rfl⟩⟩
  try simp only [tdy] at h36
  refine AL_o rfl rfl rfl rfl ?_
  refine AL_o rfl rfl rfl rfl ?_
  refine AL_p (x_pickF rfl rfl rfl) ?_
  refine AL_nil ?_
  refine AW_condF rfl ?_
  refine AW_skip ?_
  refine AW_seq ?_
  refine AW_seq ?_
  refine AW_region ?_
  refine AL_p (x_move rfl rfl) ?_
  refine AL_b (x_eql rfl rfl rfl) (fun b61 h61 => ?_)
  refine AL_p (x_move rfl rfl) ?_
  cases b61
  · try simp only [tdy] at h61
    refine AL_o rfl rfl rfl rfl ?_
    refine AL_o rfl rfl rfl rfl ?_
    refine AL_p (x_pickF rfl rfl rfl) ?_
    refine AL_nil ?_
    refine AW_condF rfl ?_
    refine AW_skip ?_
    refine AW_seq ?_
    refine AW_seq ?_
    refine AW_region ?_
    refine AL_p (x_move rfl rfl) ?_
    refine AL_b (x_eql rfl rfl rfl) (fun b79 h79 => ?_)
    refine AL_nil ?_
    cases b79
    · try simp only [tdy] at h79
      have hno : dAny b c = _ := (if_neg (by omega)).trans ((if_neg (by omega)).trans ((if_neg (by omega)).trans ((if_neg (by omega)).trans (if_neg (by omega)))))
      refine AW_condF rfl ?_
      refine AW_skip ?_
      refine AW_seq ?_
      refine AW_region ?_
      refine AL_p (x_loadN (n := 2) rfl rfl rfl (by kernel_rfl) rfl rfl) ?_
      refine AL_p (x_store (n := 2) rfl rfl rfl rfl (by kernel_rfl) rfl rfl rfl) ?_
      refine AL_nil ?_
      refine AW_shutB 101 100 1 rfl rfl rfl rfl ?_
      refine AW_ret ?_
      exact ⟨rn [(9, 100)], ⟨⟨⟨_, rfl, VLe.rf⟩, trivial⟩, ⟨⟨_, rfl, by first | exact BLe.rf | exact ble_eq (by rw [hno]; first | done | rfl)⟩, ⟨_, rfl, by first | exact BLe.rf | exact ble_eq (by rw [hno]; first | done | rfl)⟩, trivial⟩, by repeat (first | exact trivial | refine ⟨⟨rfl, by first | (left; intro h; cases h) | (right; rfl), by first | exact (fun _ h => ⟨_, h⟩) | exact (fun _ _ => ⟨_, rfl⟩)⟩, ?_⟩), rfl⟩⟩
    try simp only [tdy] at h79
    have hno : dAny b c = _ := (if_neg (by omega)).trans ((if_neg (by omega)).trans ((if_neg (by omega)).trans ((if_neg (by omega)).trans (if_pos (by omega)))))
    have hd1 := dBelow_lt b (dBelow b (dRel0 b c).2 20).2 (n := 2) (by decide)
    have hd2 := dBelow_lt b (dBelow b (dBelow b (dRel0 b c).2 20).2 2).2 (n := 2) (by decide)
    refine AW_condT rfl ?_
    refine AW_region ?_
    refine AL_p (x_move rfl rfl) ?_
    refine AL_p (x_call (ks := []) (L := [(200, some _)]) (L' := [(200, some _)]) rfl rfl rfl (below_c b (dBelow b (dRel0 b c).2 20).2 hb 2) rfl AllV.rf (caught_of rfl) rfl rfl rfl ⟨rfl, trivial⟩ rfl) ?_
    refine AL_p (x_sub rfl rfl rfl (IntWalk.i64_in _ (by omega))) ?_
    refine AL_p (x_move rfl rfl) ?_
    refine AL_p (x_call (ks := []) (L := [(200, some _)]) (L' := [(200, some _)]) rfl rfl rfl (below_c b (dBelow b (dBelow b (dRel0 b c).2 20).2 2).2 hb 2) rfl AllV.rf (caught_of rfl) rfl rfl rfl ⟨rfl, trivial⟩ rfl) ?_
    refine AL_p (x_add rfl rfl rfl (IntWalk.i64_in _ (by omega))) ?_
    refine AL_p (x_call0 rfl rfl rfl (full_c 1 _ (by decide) (by omega)) rfl rfl) ?_
    refine AL_p (x_store (n := 2) rfl rfl rfl rfl (by kernel_rfl) rfl rfl rfl) ?_
    refine AL_nil ?_
    refine AW_seq ?_
    refine AW_region ?_
    refine AL_p (x_loadN (n := 2) rfl rfl rfl (by kernel_rfl) rfl rfl) ?_
    refine AL_p (x_store (n := 2) rfl rfl rfl rfl (by kernel_rfl) rfl rfl rfl) ?_
    refine AL_nil ?_
    refine AW_ret ?_
    exact ⟨rn [(9, 100)], ⟨⟨⟨_, rfl, VLe.rf⟩, trivial⟩, ⟨⟨_, rfl, by first | exact BLe.rf | exact ble_eq (by rw [hno]; first | done | rfl)⟩, ⟨_, rfl, by first | exact BLe.rf | exact ble_eq (by rw [hno]; first | done | rfl)⟩, trivial⟩, by repeat (first | exact trivial | refine ⟨⟨rfl, by first | (left; intro h; cases h) | (right; rfl), by first | exact (fun _ h => ⟨_, h⟩) | exact (fun _ _ => ⟨_, rfl⟩)⟩, ?_⟩), rfl⟩⟩
  try simp only [tdy] at h61
  refine AL_g rfl rfl (x_move rfl rfl) ?_
  refine AL_gb rfl rfl (x_gtr rfl rfl rfl) (fun b64 h64 => ?_)
  refine AL_p (x_pickT rfl rfl rfl) ?_
  refine AL_nil ?_
  cases b64
  · try simp only [tdy] at h64
    refine AW_condF rfl ?_
    refine AW_skip ?_
    refine AW_seq ?_
    refine AW_seq ?_
    refine AW_region ?_
    refine AL_p (x_move rfl rfl) ?_
    refine AL_b (x_eql rfl rfl rfl) (fun b79 h79 => ?_)
    refine AL_nil ?_
    cases b79
    rotate_left
    · exfalso; simp at h79; omega
    try simp only [tdy] at h79
    have hno : dAny b c = _ := (if_neg (by omega)).trans ((if_neg (by omega)).trans ((if_neg (by omega)).trans ((if_neg (by omega)).trans (if_neg (by omega)))))
    refine AW_condF rfl ?_
    refine AW_skip ?_
    refine AW_seq ?_
    refine AW_region ?_
    refine AL_p (x_loadN (n := 2) rfl rfl rfl (by kernel_rfl) rfl rfl) ?_
    refine AL_p (x_store (n := 2) rfl rfl rfl rfl (by kernel_rfl) rfl rfl rfl) ?_
    refine AL_nil ?_
    refine AW_shutB 101 100 1 rfl rfl rfl rfl ?_
    refine AW_ret ?_
    exact ⟨rn [(9, 100)], ⟨⟨⟨_, rfl, VLe.rf⟩, trivial⟩, ⟨⟨_, rfl, by first | exact BLe.rf | exact ble_eq (by rw [hno]; first | done | rfl)⟩, ⟨_, rfl, by first | exact BLe.rf | exact ble_eq (by rw [hno]; first | done | rfl)⟩, trivial⟩, by repeat (first | exact trivial | refine ⟨⟨rfl, by first | (left; intro h; cases h) | (right; rfl), by first | exact (fun _ h => ⟨_, h⟩) | exact (fun _ _ => ⟨_, rfl⟩)⟩, ?_⟩), rfl⟩⟩
  try simp only [tdy] at h64
  have hno : dAny b c = _ := (if_neg (by omega)).trans ((if_neg (by omega)).trans ((if_neg (by omega)).trans (if_pos (by omega))))
  refine AW_condT rfl ?_
  refine AW_draw rfl ?_
  refine AL_p (x_field (off := 1) (o' := 1) rfl rfl rfl (by kernel_rfl) rfl) ?_
  refine AL_p (x_load1 rfl rfl rfl (by kernel_rfl) rfl) ?_
  refine AL_p (x_field (off := 1) (o' := 1) rfl rfl rfl (by kernel_rfl) rfl) ?_
  refine AL_p (x_load1 rfl rfl rfl (by kernel_rfl) rfl) ?_
  refine AL_p (x_move rfl rfl) ?_
  refine AL_p (x_sub rfl rfl rfl (IntWalk.i64_in _ (by omega))) ?_
  refine AL_p (x_oindex (n := 1) rfl rfl rfl rfl (by kernel_rfl) rfl (k := (dRel0 b c).1.rows.length - 1) (by omega) (by omega)) ?_
  refine AL_p (x_oloadN (n := 1) rfl rfl rfl (by kernel_rfl) (by omega) rfl rfl) ?_
  refine AL_p (x_call1 rfl rfl rfl (rowS_c ((dRel0 b c).1.rows[(dRel0 b c).1.rows.length - 1]'(by omega)) (by have := (hsm.2 _ (List.getElem_mem (l := (dRel0 b c).1.rows) (n := (dRel0 b c).1.rows.length - 1) (by omega))).1; omega) 104) rfl rfl rfl rfl) ?_
  refine AL_p (y_bslice (E := 72) (e := rowE) [.tmp 74] ([(dRel0 b c).1.rows.getD ((dRel0 b c).1.rows.length - 1) []]) 105 rfl rfl rfl rfl rfl rfl rfl rfl (by rw [← getD_row (by omega)]; exact FitL.rf) rfl rfl rfl rfl rfl rfl (by kernel_rfl)) ?_
  refine AL_p (y_append 106 rfl rfl rfl rfl rfl rfl rfl rfl (by kernel_rfl) (by simp; omega)) ?_
  refine AL_p (x_field (off := 1) (o' := 1) rfl rfl rfl (by kernel_rfl) rfl) ?_
  refine AL_p (x_store (n := 1) rfl rfl rfl rfl (by kernel_rfl) rfl rfl rfl) ?_
  refine AL_nild (by kernel_rfl) ?_
  refine AW_seq ?_
  refine AW_seq ?_
  refine AW_region ?_
  refine AL_p (x_move rfl rfl) ?_
  refine AL_b (x_eql rfl rfl rfl) (fun b79 h79 => ?_)
  refine AL_nil ?_
  cases b79
  rotate_left
  · exfalso; simp at h79; omega
  try simp only [tdy] at h79
  refine AW_condF rfl ?_
  refine AW_skip ?_
  refine AW_seq ?_
  refine AW_region ?_
  refine AL_p (x_loadN (n := 2) rfl rfl rfl (by kernel_rfl) rfl rfl) ?_
  refine AL_p (x_store (n := 2) rfl rfl rfl rfl (by kernel_rfl) rfl rfl rfl) ?_
  refine AL_nil ?_
  refine AW_shutB 106 100 1 rfl rfl rfl rfl ?_
  refine AW_ret ?_
  exact ⟨rn [(9, 100)], ⟨⟨⟨_, rfl, VLe.rf⟩, trivial⟩, ⟨⟨_, rfl, by first | exact BLe.rf | exact ble_eq (by rw [hno]; first | done | rfl)⟩, ⟨_, rfl, by first | exact BLe.rf | exact ble_eq (by rw [hno]; first | done | rfl)⟩, trivial⟩, by repeat (first | exact trivial | refine ⟨⟨rfl, by first | (left; intro h; cases h) | (right; rfl), by first | exact (fun _ h => ⟨_, h⟩) | exact (fun _ _ => ⟨_, rfl⟩)⟩, ?_⟩), rfl⟩⟩
end Go.Proofs.YtibhoanjglfaoaaGreat

/- The abstract walk: a field of an element of an own array written anew. -/
namespace Go.Proofs.YtibhoanjglfaoaaGreat
open Go.RowKit
set_option linter.unusedVariables false
section ops
variable {P : Program} {N : Nat} {s : St} {ty : TypeId} {pos : String} {after : Array Edge} {gd : Option (Nat × Bool)}
theorem x_ofstore {α : Type} {e : Enc α} {f : α → List Cell} [hc : CellsOf e f] {T E n i k o : Nat} {x y : Operand} {X : AVal} {xs : List α} (x' : α) {A B C ds ds' : List Cell} {js : List Nat} {d1 d2 : Bool} (h : evo s.t x = some (.one (.optr k i o))) (hl : lkl s.l k = some (.arr E e xs d1)) (h2 : evo s.t y = some X) (hf : X.flat = true)
    (hT : sizeT P T = some n) (hn : X.cells.length = n) (hsol : X.cells.all (solid s.l) = true) (hmv : mvC s.l X.cells = some (ds, js, d2)) (hfit : FitL ds ds') (hnd : noDup js = true) (hkj : noId k js = true) (hi : i < xs.length)
    (hA : f xs[i] = A ++ (B ++ C)) (hAo : A.length = o) (hB : B.length = n) (hx' : f x' = A ++ (ds' ++ C)) :
    Stp P N ⟨none, .store T x y, ty, pos, after, gd⟩ s ⟨s.t, (k, some (.arr E e (xs.set i x') (d1 && d2))) :: (gones js ++ s.l)⟩ ⟨rdo x (.one (.optr k i o)) ++ rdo y X, (k, .arr E e xs d1) :: rlC s.l X.cells, [], (k, some (.arr E e (xs.set i x') (d1 && d2))) :: gones js, []⟩ := by
  refine ⟨fun K g s' a w hpre r => ?_, ⟨two_rd h h2, fun p hp => by
    rcases List.mem_cons.1 hp with rfl | hp
    · exact hl
    · exact rlC_self p hp, by simp⟩, by simp [Cert.upd]⟩
  obtain ⟨p1, p2, _⟩ := hpre
  have hk : lkl s'.l k = some (.arr E e xs d1) := p2 (k, .arr E e xs d1) (List.mem_cons_self ..)
  have p2' : ∀ p ∈ rlC s.l X.cells, lkl s'.l p.1 = some p.2 := fun p hp => p2 p (List.mem_cons_of_mem _ hp)
  have ha : a.eval x = .pointer (some ⟨g.ρ k, i * e.size + o, none⟩) := (eval_ok r (evs_of h) fun p hm => p1 p (List.mem_append_left _ hm) : CellR g s'.l w _ (.optr k i o)) _ _ _ _ _ hk
  have hv := eval_ok r (evs_of h2) fun p hm => p1 p (List.mem_append_right _ hm)
  have hs' : X.cells.all (solid s'.l) = true := List.all_eq_true.2 fun z hz => solid_of p2' hz (List.all_eq_true.1 hsol z hz)
  have hall := vr1_cells hs' r.mem hv hf
  have hmv' := mvC_of hmv p2'
  have hjn := noDup_of hnd
  have hkj' := noId_of hkj
  have hgone : ∀ j ∈ js, ∃ (α : Type) (T : TypeId) (e : Enc α) (xs : List α) (d : Bool), lkl s'.l j = some (.arr T e xs d) := fun j hj => (mvC_gone hmv' j hj).1
  obtain ⟨b', f1, f2, f3⟩ := mvC_ok r.mem hall hmv' hjn
  have hlen : (a.eval y).cells.size = n := by rw [← hn]; simpa using hall.len
  have hll : (a.eval y).cells.toList.length = n := by simpa using hlen
  rcases r.mem.arr k _ _ _ _ _ hk with ⟨rfl, _⟩ | ⟨cap, vs, bss, g1, g2, g3, g4, g5, g6, g7, g8, g9⟩
  · simp at hi
  have hlv : g.hd k ≠ .slice none 0 0 := by rw [g1]; intro e; cases e
  have hib : i < bss.length := by rw [g6.1]; exact hi
  obtain ⟨us, hus, hcell⟩ := g6.2 i xs[i] bss[i] (List.getElem?_eq_getElem hi) (List.getElem?_eq_getElem hib)
  have hul := e.len hus
  have hfr := hc.iff.1 hus
  rw [hA] at hfr
  obtain ⟨u1, ur, c1, cr, eu, ec, fr1, fr2⟩ := FR.app.1 hfr
  obtain ⟨u2, u3, c2, c3, eu2, ec2, fr3, fr4⟩ := FR.app.1 fr2
  have l1 : u1.length = o := by rw [fr1.length]; exact hAo
  have l2 : u2.length = n := by rw [fr3.length]; exact hB
  subst eu; subst eu2
  have l3 : o + n + u3.length = e.size := by rw [← hul]; simp [l1, l2]; omega
  have hfitc : i * e.size + o + n ≤ vs.size := by
    rw [g5]
    have : (i + 1) * e.size ≤ cap * e.size := Nat.mul_le_mul_right _ (by omega)
    rw [Nat.add_mul] at this; omega
  have one : ∀ v ∈ (a.eval y).cells.toList, v.oneCell' = true := FR.one f1
  have hst := run_storeCells_at P (g.ρ k) (i * e.size + o) E (a.eval y).cells.toList 0 vs w g4 (by rw [hll]; simpa using hfitc) one
  generalize hnew : (vs.toList.take (i * e.size + o) ++ (a.eval y).cells.toList ++ vs.toList.drop (i * e.size + o + (a.eval y).cells.toList.length)).toArray = new at *
  have hng : ∀ q, new[q]? = if i * e.size + o ≤ q ∧ q < i * e.size + o + n then (a.eval y).cells.toList[q - (i * e.size + o)]? else vs[q]? := fun q => by
    rw [← hnew, List.getElem?_toArray]
    have hl0 : (vs.toList.take (i * e.size + o)).length = i * e.size + o := by simp; omega
    rcases Nat.lt_or_ge q (i * e.size + o) with hq | hq
    · rw [if_neg (by omega), List.append_assoc, List.getElem?_append_left (by omega), List.getElem?_take, if_pos hq]; simp
    · rw [List.append_assoc, List.getElem?_append_right (by omega), hl0]
      rcases Nat.lt_or_ge q (i * e.size + o + n) with hq2 | hq2
      · rw [if_pos ⟨hq, hq2⟩, List.getElem?_append_left (by omega)]
      · rw [if_neg (by omega), List.getElem?_append_right (by omega), List.getElem?_drop, hll, show i * e.size + o + n + (q - (i * e.size + o) - n) = q by omega]; simp
  have hns : new.size = vs.size := by rw [← hnew]; simp; omega
  have hwk : (w.setRow (g.ρ k) new).heap[g.ρ k]? = some (.cells new E (0, 0)) := setRow_heap w _ _ _ E _ g4
  have hwo : ∀ b, b ≠ g.ρ k → (w.setRow (g.ρ k) new).heap[b]? = w.heap[b]? := fun b hb => setRow_other w _ b _ hb
  have hsz : (w.setRow (g.ρ k) new).heap.size = w.heap.size := by simp
  have hbk' : ∀ b ∈ b', b ≠ g.ρ k := fun b hb eq => by
    rcases f2 b hb with h3 | ⟨j, hj, h3, h4⟩
    · exact g8 (eq ▸ h3)
    · obtain ⟨_, _, _, _, _, h5⟩ := hgone j hj
      exact r.mem.dis j k _ _ (fun e => hkj' (e ▸ hj)) h5 hk h3 hlv (h4 ▸ eq)
  have hold : ∀ b ∈ bss[i], b ∈ bss.flatten := fun b hb => List.mem_flatten.2 ⟨_, List.getElem_mem hib, hb⟩
  have hc1 : ∀ b ∈ c1, b ∈ bss[i] := fun b hb => by rw [ec]; exact List.mem_append_left _ hb
  have hc3 : ∀ b ∈ c3, b ∈ bss[i] := fun b hb => by rw [ec, ec2]; exact List.mem_append_right _ (List.mem_append_right _ hb)
  have hbn : ∀ b ∈ c1 ++ (b' ++ c3), b ∈ b' ∨ b ∈ bss[i] := fun b hb => by
    rcases List.mem_append.1 hb with hb | hb
    · exact .inr (hc1 b hb)
    · rcases List.mem_append.1 hb with hb | hb
      · exact .inl hb
      · exact .inr (hc3 b hb)
  have hbk : ∀ b ∈ c1 ++ (b' ++ c3), b ≠ g.ρ k := fun b hb eq => by
    rcases hbn b hb with hb | hb
    · exact hbk' b hb eq
    · exact g8 (eq ▸ g7 b (hold b hb))
  have hrep : e.rep w (u1 ++ ((a.eval y).cells.toList ++ u3)) x' (c1 ++ (b' ++ c3)) := hc.iff.2 (by
    rw [hx']
    exact FR.app.2 ⟨u1, _, c1, _, rfl, rfl, fr1, FR.app.2 ⟨_, u3, b', c3, rfl, rfl, f1.fit hfit, fr4⟩⟩)
  have hE := g6.upd (w' := w.setRow (g.ρ k) new) (k := i) (x' := x') (b' := c1 ++ (b' ++ c3)) (e.keep hrep (fun b hb => hwo b (hbk b hb)) (Nat.le_of_eq hsz.symm)) (fun j u hu => by
      have hj := (List.getElem?_eq_some_iff.1 hu).1
      simp only [List.length_append, l1, hll] at hj
      rw [cell_of_heap hwk, hng]
      by_cases h1 : j < o
      · rw [if_neg (by omega)]
        rw [List.getElem?_append_left (by omega)] at hu
        have := hcell j u (by rw [List.getElem?_append_left (by omega)]; exact hu)
        rw [cell_of_heap g4] at this; exact this
      · rw [List.getElem?_append_right (by omega), l1] at hu
        by_cases h2 : j - o < n
        · rw [if_pos (by omega), show 0 + i * e.size + j - (i * e.size + o) = j - o by omega]
          rw [List.getElem?_append_left (by omega)] at hu; exact hu
        · rw [if_neg (by omega)]
          rw [List.getElem?_append_right (by omega), hll] at hu
          have := hcell j u (by rw [List.getElem?_append_right (by omega), List.getElem?_append_right (by omega), l1, l2]; exact hu)
          rw [cell_of_heap g4] at this; exact this) (fun q hq => by
      rw [cell_of_heap hwk, hng, cell_of_heap g4, if_neg (by rw [Nat.add_mul] at hq; omega)]) (fun q b hq hb c hcb => hwo c fun eq => g8 (eq ▸ g7 c (List.mem_flatten.2 ⟨b, List.mem_of_getElem? hb, hcb⟩))) (Nat.le_of_eq hsz.symm)
  have hmem : ∀ b ∈ (bss.set i (c1 ++ (b' ++ c3))).flatten, g.I b ∨ liveA g js b := fun b hb => by
    rcases flatten_set bss hib b hb with h3 | h3
    · rcases hbn b h3 with h3 | h3
      · exact f2 b h3
      · exact .inl (g7 b (hold b h3))
    · exact .inl (g7 b h3)
  obtain ⟨g', q1, q2, q3, q4, q5, q6, q7⟩ := arr_put (w' := w.setRow (g.ρ k) new) r.mem hk hlv hkj' hgone (xs := xs.set i x') (d := d1 && d2) (fp := (bss.set i (c1 ++ (b' ++ c3))).flatten) rfl rfl rfl hsz hwo
    (.inr ⟨cap, new, bss.set i (c1 ++ (b' ++ c3)), by rw [List.length_set]; exact g1, by rw [List.length_set]; exact g2, g3, hwk, hns.trans g5, hE, hmem, (fun hI => by
      rcases hI with hI | ⟨j, hj, h3, h4⟩
      · exact g8 hI
      · obtain ⟨_, _, _, _, _, h5⟩ := hgone j hj
        exact r.mem.dis j k _ _ (fun e => hkj' (e ▸ hj)) h5 hk h3 hlv h4.symm), fun _ => setAt_self⟩)
    (fun hd => by
      simp only [Bool.and_eq_true] at hd
      obtain ⟨rfl, rfl⟩ := hd
      obtain ⟨n1, n2⟩ := f3 rfl
      have hF := g9 rfl
      have hvk : ∀ b ∈ bss.flatten, Via g s'.l k b := fun b hb => ⟨α, E, e, xs, hk, .inr (by rw [hF]; exact hb)⟩
      have hfn : bss.flatten.Nodup := by rw [← hF]; exact (r.mem.fr k _ _ _ _ hk).1
      have hin : bss[i].Nodup := (List.pairwise_flatten.1 hfn).1 _ (List.getElem_mem hib)
      have hdj : ∀ c ∈ b', c ∉ bss.flatten := fun c hcb h3 => by
        obtain ⟨j, hj, hvj⟩ := n2 c hcb
        exact hkj' ((hvk c h3).disj r.mem hvj ▸ hj)
      have hnn : (c1 ++ (b' ++ c3)).Nodup := by
        rw [ec, ec2] at hin
        have h1 := List.nodup_append.1 hin
        have h2 := List.nodup_append.1 h1.2.1
        refine List.nodup_append.2 ⟨h1.1, List.nodup_append.2 ⟨n1, h2.2.1, fun x hx y hy e => ?_⟩, fun x hx y hy e => ?_⟩
        · subst e; exact hdj x hx (hold x (hc3 x hy))
        · subst e
          rcases List.mem_append.1 hy with hy | hy
          · exact hdj x hy (hold x (hc1 x hx))
          · exact h1.2.2 x hx x (List.mem_append_right _ hy) rfl
      refine ⟨nodup_set hnn bss i hib hfn (fun c hcb => by
        rcases hbn c hcb with h3 | h3
        · exact .inr (hdj c h3)
        · exact .inl h3), fun b hb => ⟨hmem b hb, ?_, ?_⟩⟩
      · rcases flatten_set bss hib b hb with h3 | h3
        · rcases hbn b h3 with h4 | h4
          · obtain ⟨j, hj, hvj⟩ := n2 b h4
            obtain ⟨c, t, h5⟩ := hvj.cells r.mem
            exact ⟨c, t, by rw [hwo b (hbk b h3)]; exact h5⟩
          · obtain ⟨c, t, h5⟩ := (hvk b (hold b h4)).cells r.mem
            exact ⟨c, t, by rw [hwo b (hbk b h3)]; exact h5⟩
        · obtain ⟨c, t, h4⟩ := (hvk b h3).cells r.mem
          exact ⟨c, t, by rw [hwo b fun eq => g8 (eq ▸ g7 b h3)]; exact h4⟩
      · rcases flatten_set bss hib b hb with h3 | h3
        · rcases hbn b h3 with h4 | h4
          · exact .inr (n2 b h4)
          · exact .inl ⟨rfl, by rw [hF]; exact hold b h4⟩
        · exact .inl ⟨rfl, by rw [hF]; exact h3⟩)
  unfold Oper.wp
  have hrun : (execOp a.eval ⟨none, .store T x y, ty, pos, after, gd⟩).run P w = .ok .skip (w.setRow (g.ρ k) new) := by
    unfold sizeT at hT
    split at hT
    · rename_i ti hti
      cases hT
      simp only [execOp, Instr.storeAt, ha, Instr.sureAddr, storeVar, sizeOf, typeInfo, Sem.run_bind, Sem.run_pure, program, Sem.run, hti, Result.andThen_ok, hlen, ne_eq, not_true_eq_false, if_false]
      rw [hst]; rfl
    · cases hT
  rw [hrun, Oper.upon_skip]
  exact ⟨g', r.next0 q5 q6 (Nat.le_of_eq hsz.symm) (fun j _ => q7 j) q3, q4 K⟩
end ops
end Go.Proofs.YtibhoanjglfaoaaGreat

/- Stores that are drawn (printed by walk.py) -/
namespace Go.Proofs.YtibhoanjglfaoaaGreat
open Go.RowKit
set_option linter.unusedVariables false
set_option linter.unusedSimpArgs false
set_option maxRecDepth 100000

set_option maxHeartbeats 4000000 in
theorem drawStore0 (b : List Int) (c : Cur) (hb : b.length ≤ 1048576) : AC Tryz.prog 72 [.one (.ptr 200 0)] [(200, some (curB b c))] (.agg [.own 0]) [(200, some (curB b (dStore b c).2)), (0, some (.arr 84 namedE (dStore b c).1 true))] := by
  have hd0 := dBelow_lt b c (n := 4) (by decide)
  have hsm := drawSt_sm b (dBelow b c 4).1.toNat (dBelow b c 4).2
  have hsl := hsm.len
  refine AC_bodyC (n := 1) (k := 9) (T := [(2, .one (.ptr 9 0))]) (Lf := ((9, some (.box [.own 0])) :: [(200, some (curB b (dStore b c).2)), (0, some (.arr 84 namedE (dStore b c).1 true))])) Tryz.func72 rfl rfl Tryz.ntmps72 rfl Tryz.results72 rfl rfl (by kernel_rfl) rfl rfl ⟨trivial, (by repeat (first | exact trivial | refine ⟨⟨_, rfl, BLe.rf⟩, ?_⟩)), (by repeat (first | exact trivial | refine ⟨⟨rfl, by first | (left; intro h; cases h) | (right; rfl), by first | exact (fun _ h => ⟨_, h⟩) | exact (fun _ _ => ⟨_, rfl⟩)⟩, ?_⟩)), rfl⟩ ?_
  refine AW_seq ?_
  refine AW_region ?_
  refine AL_p (x_alloc (z := .agg #[.slice none 0 0]) 100 rfl (by kernel_rfl) rfl rfl rfl rfl) ?_
  refine AL_nil ?_
  refine AW_seq ?_
  refine AW_region ?_
  refine AL_p (x_build (zs := [.slice none 0 0]) (places := [(0, 1)]) rfl (by kernel_rfl) rfl rfl rfl rfl rfl) ?_
  refine AL_p (x_alloc (z := .agg #[.slice none 0 0]) 101 rfl (by kernel_rfl) rfl rfl rfl rfl) ?_
  refine AL_p (x_store (n := 1) rfl rfl rfl rfl (by kernel_rfl) rfl rfl rfl) ?_
  refine AL_nil ?_
  refine AW_seq ?_
  refine AW_seq ?_
  refine AW_region ?_
  refine AL_p (x_move rfl rfl) ?_
  refine AL_p (x_call (ks := []) (L := [(200, some _)]) (L' := [(200, some _)]) rfl rfl rfl (below_c b c hb 4) rfl AllV.rf (caught_of rfl) rfl rfl rfl ⟨rfl, trivial⟩ rfl) ?_
  refine AL_p (x_assign rfl rfl) ?_
  refine AL_nil ?_
  refine AW_block ?_
  refine AW_adopt (T := 84) (e := namedE) 102 101 0 rfl rfl rfl rfl rfl ?_
  refine AW_loop2 (ι := {q : Nat // (q : Int) ≤ (dBelow b c 4).1}) (fun p => [(4, .one (.c (.int .i64 ((dBelow b c 4).1 - ((p.1) : Int)))))]) (fun p => [(102, some (.arr 84 namedE (drawSt b (p.1) (dBelow b c 4).2).1 true)), (200, some (curB b (drawSt b (p.1) (dBelow b c 4).2).2))]) [0, 2, 3] [100, 101] (fun p => (dBelow b c 4).1.toNat - (p.1)) ⟨0, by omega⟩ (rn []) ?_ ?_
  exact ⟨by (repeat refine ⟨⟨_, rfl, by first | exact VLe.rf | exact vle_int (by dsimp only; omega)⟩, ?_⟩); exact trivial, by (repeat refine ⟨⟨_, rfl, by first | exact BLe.rf | exact BLe.box AllC.rf | exact BLe.arr (by exact rfl)⟩, ?_⟩); exact trivial, by repeat (first | exact trivial | refine ⟨⟨rfl, by first | (left; intro h; cases h) | (right; rfl), by first | exact (fun _ h => ⟨_, h⟩) | exact (fun _ _ => ⟨_, rfl⟩)⟩, ?_⟩), rfl⟩
  rintro ⟨j, hinv⟩
  dsimp only
  have hj := hinv
  have hj2 := drawSt_sm b j (dBelow b c 4).2
  have hj3 := hj2.len
  have hje := dBelow_lt b (dWord b (drawSt b j (dBelow b c 4).2).2).2 (n := 3) (by decide)
  refine AW_seq ?_
  refine AW_seq ?_
  refine AW_region ?_
  refine AL_p (x_move rfl rfl) ?_
  refine AL_b (x_gtr rfl rfl rfl) (fun b9 h9 => ?_)
  refine AL_nil ?_
  cases b9
  rotate_left
  · try simp only [tdy] at h9
    refine AW_condT rfl ?_
    refine AW_skip ?_
    refine AW_seq ?_
    refine AW_block ?_
    refine AW_draw rfl ?_
    refine AL_p (x_loadN (n := 1) rfl rfl rfl (by kernel_rfl) rfl rfl) ?_
    refine AL_p (x_move rfl rfl) ?_
    refine AL_p (x_call (ks := []) (L := [(200, some _)]) (L' := [(200, some _)]) rfl rfl rfl (word_c b (drawSt b j (dBelow b c 4).2).2 hb) rfl AllV.rf (caught_of rfl) rfl rfl rfl ⟨rfl, trivial⟩ rfl) ?_
    refine AL_p (x_move rfl rfl) ?_
    refine AL_p (x_move rfl rfl) ?_
    refine AL_p (x_call (ks := []) (L := [(200, some _)]) (L' := [(200, some _)]) rfl rfl rfl (below_c b (dWord b (drawSt b j (dBelow b c 4).2).2).2 hb 3) rfl AllV.rf (caught_of rfl) rfl rfl rfl ⟨rfl, trivial⟩ rfl) ?_
    refine AL_p (x_call (ks := []) (L := [(200, some _)]) (L' := [(200, some _), (103, some _)]) rfl rfl rfl (drawRel_c b (dBelow b (dWord b (drawSt b j (dBelow b c 4).2).2).2 3).2 (dBelow b (dWord b (drawSt b j (dBelow b c 4).2).2).2 3).1 (by omega) hb 103 rfl) rfl AllV.rf (caught_of rfl) rfl rfl rfl ⟨rfl, trivial⟩ rfl) ?_
    refine AL_p (x_callR rfl rfl rfl (l12Set_c (drawSt b j (dBelow b c 4).2).1 (dWord b (drawSt b j (dBelow b c 4).2).2).1 (dRel b (dBelow b (dWord b (drawSt b j (dBelow b c 4).2).2).2 3).1 (dBelow b (dWord b (drawSt b j (dBelow b c 4).2).2).2 3).2).1 (by omega) (fun y hy => namedSm_small (hj2.all y hy)) (relSm_small (dRel_sm b (dBelow b (dWord b (drawSt b j (dBelow b c 4).2).2).2 3).2 (by omega))) 104) rfl ⟨V1Le.rf, V1Le.rf, V1Le.rf, trivial⟩ rfl rfl rfl rfl rfl) ?_
    refine AL_p (x_store (n := 1) rfl rfl rfl rfl (by kernel_rfl) rfl rfl rfl) ?_
    refine AL_nild (by kernel_rfl) ?_
    refine AW_region ?_
    refine AL_p (x_move rfl rfl) ?_
    refine AL_p (x_sub rfl rfl rfl (IntWalk.i64_in _ (by omega))) ?_
    refine AL_p (x_assign rfl rfl) ?_
    refine AL_nil ?_
    refine ⟨⟨j + 1, by omega⟩, rn [(102, 104)], ?_, by dsimp only; omega⟩
    exact ⟨by (repeat refine ⟨⟨_, rfl, by first | exact VLe.rf | exact vle_int (by dsimp only; omega)⟩, ?_⟩); exact trivial, by (repeat refine ⟨⟨_, rfl, by first | exact BLe.rf | exact BLe.box AllC.rf | exact BLe.arr (by exact rfl)⟩, ?_⟩); exact trivial, by repeat (first | exact trivial | refine ⟨⟨rfl, by first | (left; intro h; cases h) | (right; rfl), by first | exact (fun _ h => ⟨_, h⟩) | exact (fun _ _ => ⟨_, rfl⟩)⟩, ?_⟩), rfl⟩
  try simp only [tdy] at h9
  obtain rfl : j = (dBelow b c 4).1.toNat := by omega
  refine AW_condF rfl ?_
  refine AW_exit (BQ_hit ?_)
  refine AW_seq ?_
  refine AW_seq ?_
  refine AW_region ?_
  refine AL_p (x_move rfl rfl) ?_
  refine AL_p (x_call (ks := []) (L := [(200, some _)]) (L' := [(200, some _)]) rfl rfl rfl (below_c b (drawSt b (dBelow b c 4).1.toNat (dBelow b c 4).2).2 hb 25) rfl AllV.rf (caught_of rfl) rfl rfl rfl ⟨rfl, trivial⟩ rfl) ?_
  refine AL_b (x_eql rfl rfl rfl) (fun b22 h22 => ?_)
  refine AL_nil ?_
  cases b22
  · try simp only [tdy] at h22
    have hno : dStore b c = ((drawSt b (dBelow b c 4).1.toNat (dBelow b c 4).2).1, (dBelow b (drawSt b (dBelow b c 4).1.toNat (dBelow b c 4).2).2 25).2) := if_neg (by omega)
    refine AW_condF rfl ?_
    refine AW_skip ?_
    refine AW_seq ?_
    refine AW_region ?_
    refine AL_p (x_loadN (n := 1) rfl rfl rfl (by kernel_rfl) rfl rfl) ?_
    refine AL_p (x_store (n := 1) rfl rfl rfl rfl (by kernel_rfl) rfl rfl rfl) ?_
    refine AL_nil ?_
    refine AW_ret ?_
    exact ⟨rn [(9, 100), (0, 102)], ⟨⟨⟨_, rfl, VLe.rf⟩, trivial⟩, ⟨⟨_, rfl, by first | exact BLe.rf | exact ble_eq (by rw [hno]; first | done | rfl)⟩, ⟨_, rfl, by first | exact BLe.rf | exact ble_eq (by rw [hno]; first | done | rfl)⟩, ⟨_, rfl, by first | exact BLe.rf | (refine BLe.arr ?_; rw [hno]; first | done | rfl)⟩, trivial⟩, by repeat (first | exact trivial | refine ⟨⟨rfl, by first | (left; intro h; cases h) | (right; rfl), by first | exact (fun _ h => ⟨_, h⟩) | exact (fun _ _ => ⟨_, rfl⟩)⟩, ?_⟩), rfl⟩⟩
  try simp only [tdy] at h22
  have hno : dStore b c = (setRel (drawSt b (dBelow b c 4).1.toNat (dBelow b c 4).2).1 ⟨bigName, dFull 2 300⟩, (dBelow b (drawSt b (dBelow b c 4).1.toNat (dBelow b c 4).2).2 25).2) := if_pos (by omega)
  refine AW_condT rfl ?_
  refine AW_draw rfl ?_
  refine AL_p (x_loadN (n := 1) rfl rfl rfl (by kernel_rfl) rfl rfl) ?_
  refine AL_p (x_call0 rfl rfl rfl (full_c 2 300 (by decide) (by decide)) rfl rfl) ?_
  refine AL_p (x_callR rfl rfl rfl (l12Set_c (drawSt b (dBelow b c 4).1.toNat (dBelow b c 4).2).1 bigName (dFull 2 300) (by omega) (fun y hy => namedSm_small (hsm.all y hy)) (relSm_small (dFull_sm (by decide) (by decide))) 105) rfl ⟨V1Le.rf, V1Le.rf, V1Le.rf, trivial⟩ rfl rfl rfl rfl rfl) ?_
  refine AL_p (x_store (n := 1) rfl rfl rfl rfl (by kernel_rfl) rfl rfl rfl) ?_
  refine AL_nild (by kernel_rfl) ?_
  refine AW_seq ?_
  refine AW_region ?_
  refine AL_p (x_loadN (n := 1) rfl rfl rfl (by kernel_rfl) rfl rfl) ?_
  refine AL_p (x_store (n := 1) rfl rfl rfl rfl (by kernel_rfl) rfl rfl rfl) ?_
  refine AL_nil ?_
  refine AW_ret ?_
  exact ⟨rn [(9, 100), (0, 105)], ⟨⟨⟨_, rfl, VLe.rf⟩, trivial⟩, ⟨⟨_, rfl, by first | exact BLe.rf | exact ble_eq (by rw [hno]; first | done | rfl)⟩, ⟨_, rfl, by first | exact BLe.rf | exact ble_eq (by rw [hno]; first | done | rfl)⟩, ⟨_, rfl, by first | exact BLe.rf | (refine BLe.arr ?_; rw [hno]; first | done | rfl)⟩, trivial⟩, by repeat (first | exact trivial | refine ⟨⟨rfl, by first | (left; intro h; cases h) | (right; rfl), by first | exact (fun _ h => ⟨_, h⟩) | exact (fun _ _ => ⟨_, rfl⟩)⟩, ?_⟩), rfl⟩⟩
theorem drawStore_c (b : List Int) (c : Cur) (hb : b.length ≤ 1048576) (k : Nat) (hk : Nat.beq k 200 = false) : AC Tryz.prog 72 [.one (.ptr 200 0)] [(200, some (curB b c))] (.agg [.own k]) [(200, some (curB b (dStore b c).2)), (k, some (.arr 84 namedE (dStore b c).1 true))] := AC.cur (drawStore0 b c hb) k hk aggOwn (fun _ => rfl)

set_option maxHeartbeats 4000000 in
theorem anyStore_c (b : List Int) (c : Cur) (hb : b.length ≤ 1048576) : AC Tryz.prog 63 [.one (.ptr 200 0)] [(200, some (curB b c))] (.agg [.sl namedE (dStAny b c).1]) [(200, some (curB b (dStAny b c).2))] := by
  have hsm := dStore_sm b c
  have hsl := hsm.len
  refine AC_bodyC (n := 1) (k := 9) (T := [(2, .one (.ptr 9 0))]) (Lf := ((9, some (.box [.sl namedE (dStAny b c).1])) :: [(200, some (curB b (dStAny b c).2))])) Tryz.func63 rfl rfl Tryz.ntmps63 rfl Tryz.results63 rfl rfl (by kernel_rfl) rfl rfl ⟨trivial, (by repeat (first | exact trivial | refine ⟨⟨_, rfl, BLe.rf⟩, ?_⟩)), (by repeat (first | exact trivial | refine ⟨⟨rfl, by first | (left; intro h; cases h) | (right; rfl), by first | exact (fun _ h => ⟨_, h⟩) | exact (fun _ _ => ⟨_, rfl⟩)⟩, ?_⟩)), rfl⟩ ?_
  refine AW_seq ?_
  refine AW_region ?_
  refine AL_p (x_alloc (z := .agg #[.slice none 0 0]) 100 rfl (by kernel_rfl) rfl rfl rfl rfl) ?_
  refine AL_nil ?_
  refine AW_seq ?_
  refine AW_region ?_
  refine AL_p (x_move rfl rfl) ?_
  refine AL_p (x_call (ks := []) (L := [(200, some _)]) (L' := [(200, some _), (101, some _)]) rfl rfl rfl (drawStore_c b c hb 101 rfl) rfl AllV.rf (caught_of rfl) rfl rfl rfl ⟨rfl, trivial⟩ rfl) ?_
  refine AL_p (x_alloc (z := .agg #[.slice none 0 0]) 102 rfl (by kernel_rfl) rfl rfl rfl rfl) ?_
  refine AL_p (x_store (n := 1) rfl rfl rfl rfl (by kernel_rfl) rfl rfl rfl) ?_
  refine AL_nil ?_
  refine AW_seq ?_
  refine AW_region ?_
  refine AL_p (x_field (off := 0) (o' := 0) rfl rfl rfl (by kernel_rfl) rfl) ?_
  refine AL_p (x_load1 rfl rfl rfl (by kernel_rfl) rfl) ?_
  refine AL_p (x_olen (E := 84) (n := 3) rfl rfl rfl (by kernel_rfl)) ?_
  refine AL_p (x_assign rfl rfl) ?_
  refine AL_nil ?_
  refine AW_seq ?_
  refine AW_region ?_
  refine AL_p (x_move rfl rfl) ?_
  refine AL_p (x_call (ks := []) (L := [(200, some _)]) (L' := [(200, some _)]) rfl rfl rfl (below_c b (dStore b c).2 hb 16) rfl AllV.rf (caught_of rfl) rfl rfl rfl ⟨rfl, trivial⟩ rfl) ?_
  refine AL_p (x_assign rfl rfl) ?_
  refine AL_nil ?_
  refine AW_seq ?_
  refine AW_seq ?_
  refine AW_region ?_
  refine AL_p (x_move rfl rfl) ?_
  refine AL_b (x_eql rfl rfl rfl) (fun b16 h16 => ?_)
  refine AL_p (x_move rfl rfl) ?_
  cases b16
  rotate_left
  · try simp only [tdy] at h16
    refine AL_g rfl rfl (x_move rfl rfl) ?_
    refine AL_gb rfl rfl (x_gtr rfl rfl rfl) (fun b19 h19 => ?_)
    refine AL_p (x_pickT rfl rfl rfl) ?_
    refine AL_nil ?_
    cases b19
    · try simp only [tdy] at h19
      refine AW_condF rfl ?_
      refine AW_skip ?_
      refine AW_seq ?_
      refine AW_seq ?_
      refine AW_region ?_
      refine AL_p (x_move rfl rfl) ?_
      refine AL_b (x_eql rfl rfl rfl) (fun b31 h31 => ?_)
      refine AL_p (x_move rfl rfl) ?_
      cases b31
      rotate_left
      · exfalso; simp at h31; omega
      try simp only [tdy] at h31
      refine AL_o rfl rfl rfl rfl ?_
      refine AL_o rfl rfl rfl rfl ?_
      refine AL_p (x_pickF rfl rfl rfl) ?_
      refine AL_nil ?_
      refine AW_condF rfl ?_
      refine AW_skip ?_
      refine AW_seq ?_
      refine AW_seq ?_
      refine AW_region ?_
      refine AL_p (x_move rfl rfl) ?_
      refine AL_b (x_eql rfl rfl rfl) (fun b46 h46 => ?_)
      refine AL_p (x_move rfl rfl) ?_
      cases b46
      rotate_left
      · exfalso; simp at h46; omega
      try simp only [tdy] at h46
      refine AL_o rfl rfl rfl rfl ?_
      refine AL_o rfl rfl rfl rfl ?_
      refine AL_p (x_pickF rfl rfl rfl) ?_
      refine AL_nil ?_
      refine AW_condF rfl ?_
      refine AW_skip ?_
      refine AW_seq ?_
      refine AW_seq ?_
      refine AW_region ?_
      refine AL_p (x_move rfl rfl) ?_
      refine AL_b (x_eql rfl rfl rfl) (fun b71 h71 => ?_)
      refine AL_nil ?_
      cases b71
      rotate_left
      · exfalso; simp at h71; omega
      try simp only [tdy] at h71
      have hno : dStAny b c = _ := (if_neg (by omega)).trans ((if_neg (by omega)).trans ((if_neg (by omega)).trans (if_neg (by omega))))
      refine AW_condF rfl ?_
      refine AW_skip ?_
      refine AW_seq ?_
      refine AW_region ?_
      refine AL_p (x_loadN (n := 1) rfl rfl rfl (by kernel_rfl) rfl rfl) ?_
      refine AL_p (x_store (n := 1) rfl rfl rfl rfl (by kernel_rfl) rfl rfl rfl) ?_
      refine AL_nil ?_
      refine AW_shutB 101 100 0 rfl rfl rfl rfl ?_
      refine AW_ret ?_
      exact ⟨rn [(9, 100)], ⟨⟨⟨_, rfl, VLe.rf⟩, trivial⟩, ⟨⟨_, rfl, by first | exact BLe.rf | exact ble_eq (by rw [hno]; first | done | rfl)⟩, ⟨_, rfl, by first | exact BLe.rf | exact ble_eq (by rw [hno]; first | done | rfl)⟩, trivial⟩, by repeat (first | exact trivial | refine ⟨⟨rfl, by first | (left; intro h; cases h) | (right; rfl), by first | exact (fun _ h => ⟨_, h⟩) | exact (fun _ _ => ⟨_, rfl⟩)⟩, ?_⟩), rfl⟩⟩
    try simp only [tdy] at h19
    have hdi := dBelow_lt b (dBelow b (dStore b c).2 16).2 (n := ((dStore b c).1.length : Int)) (by omega)
    have hpk : (dStore b c).1[(dBelow b (dBelow b (dStore b c).2 16).2 ((dStore b c).1.length : Int)).1.toNat]'(by omega) = stPick b (dStore b c).1 (dBelow b (dStore b c).2 16).2 := (getD_nm (by omega)).symm
    have hno : dStAny b c = _ := if_pos (by omega)
    refine AW_condT rfl ?_
    refine AW_draw rfl ?_
    refine AL_p (x_field (off := 0) (o' := 0) rfl rfl rfl (by kernel_rfl) rfl) ?_
    refine AL_p (x_load1 rfl rfl rfl (by kernel_rfl) rfl) ?_
    refine AL_p (x_move rfl rfl) ?_
    refine AL_p (x_move rfl rfl) ?_
    refine AL_p (x_call (ks := []) (L := [(200, some _)]) (L' := [(200, some _)]) rfl rfl rfl (below_c b (dBelow b (dStore b c).2 16).2 hb ((dStore b c).1.length : Int)) rfl AllV.rf (caught_of rfl) rfl rfl rfl ⟨rfl, trivial⟩ rfl) ?_
    refine AL_p (x_move rfl rfl) ?_
    refine AL_p (x_call (ks := []) (L := [(200, some _)]) (L' := [(200, some _)]) rfl rfl rfl (text_c b (dBelow b (dBelow b (dStore b c).2 16).2 ((dStore b c).1.length : Int)).2 hb) rfl AllV.rf (caught_of rfl) rfl rfl rfl ⟨rfl, trivial⟩ rfl) ?_
    refine AL_p (x_oindex (n := 3) rfl rfl rfl rfl (by kernel_rfl) rfl (k := (dBelow b (dBelow b (dStore b c).2 16).2 ((dStore b c).1.length : Int)).1.toNat) (by omega) (by omega)) ?_
    refine AL_p (x_ofield (off := 0) (o' := 0) rfl rfl rfl (by kernel_rfl) rfl) ?_
    refine AL_p (x_ofstore (⟨(dText b (dBelow b (dBelow b (dStore b c).2 16).2 ((dStore b c).1.length : Int)).2).1, (stPick b (dStore b c).1 (dBelow b (dStore b c).2 16).2).rel⟩) (A := []) (B := [.c (.string ((dStore b c).1[(dBelow b (dBelow b (dStore b c).2 16).2 ((dStore b c).1.length : Int)).1.toNat]'(by omega)).name)]) (C := [.c (.int .i64 ((dStore b c).1[(dBelow b (dBelow b (dStore b c).2 16).2 ((dStore b c).1.length : Int)).1.toNat]'(by omega)).rel.arity), .sl rowE ((dStore b c).1[(dBelow b (dBelow b (dStore b c).2 16).2 ((dStore b c).1.length : Int)).1.toNat]'(by omega)).rel.rows]) rfl rfl rfl rfl (by kernel_rfl) rfl rfl rfl FitL.rf rfl rfl (by omega) rfl rfl rfl (by rw [hpk]; rfl)) ?_
    refine AL_nild (by kernel_rfl) ?_
    refine AW_seq ?_
    refine AW_seq ?_
    refine AW_region ?_
    refine AL_p (x_move rfl rfl) ?_
    refine AL_b (x_eql rfl rfl rfl) (fun b31 h31 => ?_)
    refine AL_p (x_move rfl rfl) ?_
    cases b31
    rotate_left
    · exfalso; simp at h31; omega
    try simp only [tdy] at h31
    refine AL_o rfl rfl rfl rfl ?_
    refine AL_o rfl rfl rfl rfl ?_
    refine AL_p (x_pickF rfl rfl rfl) ?_
    refine AL_nil ?_
    refine AW_condF rfl ?_
    refine AW_skip ?_
    refine AW_seq ?_
    refine AW_seq ?_
    refine AW_region ?_
    refine AL_p (x_move rfl rfl) ?_
    refine AL_b (x_eql rfl rfl rfl) (fun b46 h46 => ?_)
    refine AL_p (x_move rfl rfl) ?_
    cases b46
    rotate_left
    · exfalso; simp at h46; omega
    try simp only [tdy] at h46
    refine AL_o rfl rfl rfl rfl ?_
    refine AL_o rfl rfl rfl rfl ?_
    refine AL_p (x_pickF rfl rfl rfl) ?_
    refine AL_nil ?_
    refine AW_condF rfl ?_
    refine AW_skip ?_
    refine AW_seq ?_
    refine AW_seq ?_
    refine AW_region ?_
    refine AL_p (x_move rfl rfl) ?_
    refine AL_b (x_eql rfl rfl rfl) (fun b71 h71 => ?_)
    refine AL_nil ?_
    cases b71
    rotate_left
    · exfalso; simp at h71; omega
    try simp only [tdy] at h71
    refine AW_condF rfl ?_
    refine AW_skip ?_
    refine AW_seq ?_
    refine AW_region ?_
    refine AL_p (x_loadN (n := 1) rfl rfl rfl (by kernel_rfl) rfl rfl) ?_
    refine AL_p (x_store (n := 1) rfl rfl rfl rfl (by kernel_rfl) rfl rfl rfl) ?_
    refine AL_nil ?_
    refine AW_shutB 101 100 0 rfl rfl rfl rfl ?_
    refine AW_ret ?_
    exact ⟨rn [(9, 100)], ⟨⟨⟨_, rfl, VLe.rf⟩, trivial⟩, ⟨⟨_, rfl, by first | exact BLe.rf | exact ble_eq (by rw [hno]; first | done | rfl)⟩, ⟨_, rfl, by first | exact BLe.rf | exact ble_eq (by rw [hno]; first | done | rfl)⟩, trivial⟩, by repeat (first | exact trivial | refine ⟨⟨rfl, by first | (left; intro h; cases h) | (right; rfl), by first | exact (fun _ h => ⟨_, h⟩) | exact (fun _ _ => ⟨_, rfl⟩)⟩, ?_⟩), rfl⟩⟩
  try simp only [tdy] at h16
  refine AL_o rfl rfl rfl rfl ?_
  refine AL_o rfl rfl rfl rfl ?_
  refine AL_p (x_pickF rfl rfl rfl) ?_
  refine AL_nil ?_
  refine AW_condF rfl ?_
  refine AW_skip ?_
  refine AW_seq ?_
  refine AW_seq ?_
  refine AW_region ?_
  refine AL_p (x_move rfl rfl) ?_
  refine AL_b (x_eql rfl rfl rfl) (fun b31 h31 => ?_)
  refine AL_p (x_move rfl rfl) ?_
  cases b31
  rotate_left
  · try simp only [tdy] at h31
    refine AL_g rfl rfl (x_move rfl rfl) ?_
    refine AL_gb rfl rfl (x_gtr rfl rfl rfl) (fun b34 h34 => ?_)
    refine AL_p (x_pickT rfl rfl rfl) ?_
    refine AL_nil ?_
    cases b34
    · try simp only [tdy] at h34
      refine AW_condF rfl ?_
      refine AW_skip ?_
      refine AW_seq ?_
      refine AW_seq ?_
      refine AW_region ?_
      refine AL_p (x_move rfl rfl) ?_
      refine AL_b (x_eql rfl rfl rfl) (fun b46 h46 => ?_)
      refine AL_p (x_move rfl rfl) ?_
      cases b46
      rotate_left
      · exfalso; simp at h46; omega
      try simp only [tdy] at h46
      refine AL_o rfl rfl rfl rfl ?_
      refine AL_o rfl rfl rfl rfl ?_
      refine AL_p (x_pickF rfl rfl rfl) ?_
      refine AL_nil ?_
      refine AW_condF rfl ?_
      refine AW_skip ?_
      refine AW_seq ?_
      refine AW_seq ?_
      refine AW_region ?_
      refine AL_p (x_move rfl rfl) ?_
      refine AL_b (x_eql rfl rfl rfl) (fun b71 h71 => ?_)
      refine AL_nil ?_
      cases b71
      rotate_left
      · exfalso; simp at h71; omega
      try simp only [tdy] at h71
      have hno : dStAny b c = _ := (if_neg (by omega)).trans ((if_neg (by omega)).trans ((if_neg (by omega)).trans (if_neg (by omega))))
      refine AW_condF rfl ?_
      refine AW_skip ?_
      refine AW_seq ?_
      refine AW_region ?_
      refine AL_p (x_loadN (n := 1) rfl rfl rfl (by kernel_rfl) rfl rfl) ?_
      refine AL_p (x_store (n := 1) rfl rfl rfl rfl (by kernel_rfl) rfl rfl rfl) ?_
      refine AL_nil ?_
      refine AW_shutB 101 100 0 rfl rfl rfl rfl ?_
      refine AW_ret ?_
      exact ⟨rn [(9, 100)], ⟨⟨⟨_, rfl, VLe.rf⟩, trivial⟩, ⟨⟨_, rfl, by first | exact BLe.rf | exact ble_eq (by rw [hno]; first | done | rfl)⟩, ⟨_, rfl, by first | exact BLe.rf | exact ble_eq (by rw [hno]; first | done | rfl)⟩, trivial⟩, by repeat (first | exact trivial | refine ⟨⟨rfl, by first | (left; intro h; cases h) | (right; rfl), by first | exact (fun _ h => ⟨_, h⟩) | exact (fun _ _ => ⟨_, rfl⟩)⟩, ?_⟩), rfl⟩⟩
    try simp only [tdy] at h34
    have hdi := dBelow_lt b (dBelow b (dStore b c).2 16).2 (n := ((dStore b c).1.length : Int)) (by omega)
    have hpk : (dStore b c).1[(dBelow b (dBelow b (dStore b c).2 16).2 ((dStore b c).1.length : Int)).1.toNat]'(by omega) = stPick b (dStore b c).1 (dBelow b (dStore b c).2 16).2 := (getD_nm (by omega)).symm
    have hno : dStAny b c = _ := (if_neg (by omega)).trans (if_pos (by omega))
    refine AW_condT rfl ?_
    refine AW_draw rfl ?_
    refine AL_p (x_field (off := 0) (o' := 0) rfl rfl rfl (by kernel_rfl) rfl) ?_
    refine AL_p (x_load1 rfl rfl rfl (by kernel_rfl) rfl) ?_
    refine AL_p (x_move rfl rfl) ?_
    refine AL_p (x_move rfl rfl) ?_
    refine AL_p (x_call (ks := []) (L := [(200, some _)]) (L' := [(200, some _)]) rfl rfl rfl (below_c b (dBelow b (dStore b c).2 16).2 hb ((dStore b c).1.length : Int)) rfl AllV.rf (caught_of rfl) rfl rfl rfl ⟨rfl, trivial⟩ rfl) ?_
    refine AL_p (x_move rfl rfl) ?_
    refine AL_p (x_call (ks := []) (L := [(200, some _)]) (L' := [(200, some _)]) rfl rfl rfl (any_c b (dBelow b (dBelow b (dStore b c).2 16).2 ((dStore b c).1.length : Int)).2 hb) rfl AllV.rf (caught_of rfl) rfl rfl rfl ⟨rfl, trivial⟩ rfl) ?_
    refine AL_p (x_oindex (n := 3) rfl rfl rfl rfl (by kernel_rfl) rfl (k := (dBelow b (dBelow b (dStore b c).2 16).2 ((dStore b c).1.length : Int)).1.toNat) (by omega) (by omega)) ?_
    refine AL_p (x_ofield (off := 1) (o' := 1) rfl rfl rfl (by kernel_rfl) rfl) ?_
    refine AL_p (x_ofstore (⟨(stPick b (dStore b c).1 (dBelow b (dStore b c).2 16).2).name, (dAny b (dBelow b (dBelow b (dStore b c).2 16).2 ((dStore b c).1.length : Int)).2).1⟩) (A := [.c (.string ((dStore b c).1[(dBelow b (dBelow b (dStore b c).2 16).2 ((dStore b c).1.length : Int)).1.toNat]'(by omega)).name)]) (B := [.c (.int .i64 ((dStore b c).1[(dBelow b (dBelow b (dStore b c).2 16).2 ((dStore b c).1.length : Int)).1.toNat]'(by omega)).rel.arity), .sl rowE ((dStore b c).1[(dBelow b (dBelow b (dStore b c).2 16).2 ((dStore b c).1.length : Int)).1.toNat]'(by omega)).rel.rows]) (C := []) rfl rfl rfl rfl (by kernel_rfl) rfl rfl rfl FitL.rf rfl rfl (by omega) rfl rfl rfl (by rw [hpk]; rfl)) ?_
    refine AL_nild (by kernel_rfl) ?_
    refine AW_seq ?_
    refine AW_seq ?_
    refine AW_region ?_
    refine AL_p (x_move rfl rfl) ?_
    refine AL_b (x_eql rfl rfl rfl) (fun b46 h46 => ?_)
    refine AL_p (x_move rfl rfl) ?_
    cases b46
    rotate_left
    · exfalso; simp at h46; omega
    try simp only [tdy] at h46
    refine AL_o rfl rfl rfl rfl ?_
    refine AL_o rfl rfl rfl rfl ?_
    refine AL_p (x_pickF rfl rfl rfl) ?_
    refine AL_nil ?_
    refine AW_condF rfl ?_
    refine AW_skip ?_
    refine AW_seq ?_
    refine AW_seq ?_
    refine AW_region ?_
    refine AL_p (x_move rfl rfl) ?_
    refine AL_b (x_eql rfl rfl rfl) (fun b71 h71 => ?_)
    refine AL_nil ?_
    cases b71
    rotate_left
    · exfalso; simp at h71; omega
    try simp only [tdy] at h71
    refine AW_condF rfl ?_
    refine AW_skip ?_
    refine AW_seq ?_
    refine AW_region ?_
    refine AL_p (x_loadN (n := 1) rfl rfl rfl (by kernel_rfl) rfl rfl) ?_
    refine AL_p (x_store (n := 1) rfl rfl rfl rfl (by kernel_rfl) rfl rfl rfl) ?_
    refine AL_nil ?_
    refine AW_shutB 101 100 0 rfl rfl rfl rfl ?_
    refine AW_ret ?_
    exact ⟨rn [(9, 100)], ⟨⟨⟨_, rfl, VLe.rf⟩, trivial⟩, ⟨⟨_, rfl, by first | exact BLe.rf | exact ble_eq (by rw [hno]; first | done | rfl)⟩, ⟨_, rfl, by first | exact BLe.rf | exact ble_eq (by rw [hno]; first | done | rfl)⟩, trivial⟩, by repeat (first | exact trivial | refine ⟨⟨rfl, by first | (left; intro h; cases h) | (right; rfl), by first | exact (fun _ h => ⟨_, h⟩) | exact (fun _ _ => ⟨_, rfl⟩)⟩, ?_⟩), rfl⟩⟩
  try simp only [tdy] at h31
  refine AL_o rfl rfl rfl rfl ?_
  refine AL_o rfl rfl rfl rfl ?_
  refine AL_p (x_pickF rfl rfl rfl) ?_
  refine AL_nil ?_
  refine AW_condF rfl ?_
  refine AW_skip ?_
  refine AW_seq ?_
  refine AW_seq ?_
  refine AW_region ?_
  refine AL_p (x_move rfl rfl) ?_
  refine AL_b (x_eql rfl rfl rfl) (fun b46 h46 => ?_)
  refine AL_p (x_move rfl rfl) ?_
  cases b46
  rotate_left
  · try simp only [tdy] at h46
    refine AL_g rfl rfl (x_move rfl rfl) ?_
    refine AL_gb rfl rfl (x_gtr rfl rfl rfl) (fun b49 h49 => ?_)
    refine AL_p (x_pickT rfl rfl rfl) ?_
    refine AL_nil ?_
    cases b49
    · try simp only [tdy] at h49
      refine AW_condF rfl ?_
      refine AW_skip ?_
      refine AW_seq ?_
      refine AW_seq ?_
      refine AW_region ?_
      refine AL_p (x_move rfl rfl) ?_
      refine AL_b (x_eql rfl rfl rfl) (fun b71 h71 => ?_)
      refine AL_nil ?_
      cases b71
      rotate_left
      · exfalso; simp at h71; omega
      try simp only [tdy] at h71
      have hno : dStAny b c = _ := (if_neg (by omega)).trans ((if_neg (by omega)).trans ((if_neg (by omega)).trans (if_neg (by omega))))
      refine AW_condF rfl ?_
      refine AW_skip ?_
      refine AW_seq ?_
      refine AW_region ?_
      refine AL_p (x_loadN (n := 1) rfl rfl rfl (by kernel_rfl) rfl rfl) ?_
      refine AL_p (x_store (n := 1) rfl rfl rfl rfl (by kernel_rfl) rfl rfl rfl) ?_
      refine AL_nil ?_
      refine AW_shutB 101 100 0 rfl rfl rfl rfl ?_
      refine AW_ret ?_
      exact ⟨rn [(9, 100)], ⟨⟨⟨_, rfl, VLe.rf⟩, trivial⟩, ⟨⟨_, rfl, by first | exact BLe.rf | exact ble_eq (by rw [hno]; first | done | rfl)⟩, ⟨_, rfl, by first | exact BLe.rf | exact ble_eq (by rw [hno]; first | done | rfl)⟩, trivial⟩, by repeat (first | exact trivial | refine ⟨⟨rfl, by first | (left; intro h; cases h) | (right; rfl), by first | exact (fun _ h => ⟨_, h⟩) | exact (fun _ _ => ⟨_, rfl⟩)⟩, ?_⟩), rfl⟩⟩
    try simp only [tdy] at h49
    have hno : dStAny b c = _ := (if_neg (by omega)).trans ((if_neg (by omega)).trans (if_pos (by omega)))
    refine AW_condT rfl ?_
    refine AW_seq ?_
    refine AW_region ?_
    refine AL_p (x_field (off := 0) (o' := 0) rfl rfl rfl (by kernel_rfl) rfl) ?_
    refine AL_p (x_load1 rfl rfl rfl (by kernel_rfl) rfl) ?_
    refine AL_p (x_oindex (n := 3) rfl rfl rfl rfl (by kernel_rfl) rfl (k := 0) rfl (by omega)) ?_
    refine AL_p (x_oloadN (n := 3) rfl rfl rfl (by kernel_rfl) (by omega) rfl rfl) ?_
    refine AL_p (x_alloc (z := .agg #[.string ⟨#[]⟩, .int .i64 0, .slice none 0 0]) 103 rfl (by kernel_rfl) rfl rfl rfl rfl) ?_
    refine AL_p (x_store (n := 3) rfl rfl rfl rfl (by kernel_rfl) rfl rfl rfl) ?_
    refine AL_nil ?_
    refine AW_seq ?_
    refine AW_draw rfl ?_
    refine AL_p (x_field (off := 0) (o' := 0) rfl rfl rfl (by kernel_rfl) rfl) ?_
    refine AL_p (x_load1 rfl rfl rfl (by kernel_rfl) rfl) ?_
    refine AL_p (x_field (off := 0) (o' := 0) rfl rfl rfl (by kernel_rfl) rfl) ?_
    refine AL_p (x_load1 rfl rfl rfl (by kernel_rfl) rfl) ?_
    refine AL_p (x_move rfl rfl) ?_
    refine AL_p (x_sub rfl rfl rfl (IntWalk.i64_in _ (by omega))) ?_
    refine AL_p (x_oindex (n := 3) rfl rfl rfl rfl (by kernel_rfl) rfl (k := (dStore b c).1.length - 1) (by omega) (by omega)) ?_
    refine AL_p (x_oloadN (n := 3) rfl rfl rfl (by kernel_rfl) (by omega) rfl rfl) ?_
    refine AL_p (x_oindex (n := 3) rfl rfl rfl rfl (by kernel_rfl) rfl (k := 0) rfl (by omega)) ?_
    refine AL_p (x_ostore ((dStore b c).1.getD ((dStore b c).1.length - 1) noNamed) rfl rfl rfl rfl (by kernel_rfl) rfl rfl rfl rfl (by rw [getD_nm (by omega)]; exact FitL.rf) rfl rfl (by omega)) ?_
    refine AL_nild (by kernel_rfl) ?_
    refine AW_region ?_
    refine AL_p (x_field (off := 0) (o' := 0) rfl rfl rfl (by kernel_rfl) rfl) ?_
    refine AL_p (x_load1 rfl rfl rfl (by kernel_rfl) rfl) ?_
    refine AL_p (x_move rfl rfl) ?_
    refine AL_p (x_sub rfl rfl rfl (IntWalk.i64_in _ (by omega))) ?_
    refine AL_p (x_loadN (n := 3) rfl rfl rfl (by kernel_rfl) rfl rfl) ?_
    refine AL_p (x_oindex (n := 3) rfl rfl rfl rfl (by kernel_rfl) rfl (k := (dStore b c).1.length - 1) (by omega) (by simp; omega)) ?_
    refine AL_p (x_ostore ((dStore b c).1.getD 0 noNamed) rfl rfl rfl rfl (by kernel_rfl) rfl rfl rfl rfl (by rw [getD_nm (by omega)]; exact FitL.rf) rfl rfl (by simp; omega)) ?_
    refine AL_nil ?_
    refine AW_seq ?_
    refine AW_seq ?_
    refine AW_region ?_
    refine AL_p (x_move rfl rfl) ?_
    refine AL_b (x_eql rfl rfl rfl) (fun b71 h71 => ?_)
    refine AL_nil ?_
    cases b71
    rotate_left
    · exfalso; simp at h71; omega
    try simp only [tdy] at h71
    refine AW_condF rfl ?_
    refine AW_skip ?_
    refine AW_seq ?_
    refine AW_region ?_
    refine AL_p (x_loadN (n := 1) rfl rfl rfl (by kernel_rfl) rfl rfl) ?_
    refine AL_p (x_store (n := 1) rfl rfl rfl rfl (by kernel_rfl) rfl rfl rfl) ?_
    refine AL_nil ?_
    refine AW_shutB 101 100 0 rfl rfl rfl rfl ?_
    refine AW_ret ?_
    exact ⟨rn [(9, 100)], ⟨⟨⟨_, rfl, VLe.rf⟩, trivial⟩, ⟨⟨_, rfl, by first | exact BLe.rf | exact ble_eq (by rw [hno]; first | done | rfl)⟩, ⟨_, rfl, by first | exact BLe.rf | exact ble_eq (by rw [hno]; first | done | rfl)⟩, trivial⟩, by repeat (first | exact trivial | refine ⟨⟨rfl, by first | (left; intro h; cases h) | (right; rfl), by first | exact (fun _ h => ⟨_, h⟩) | exact (fun _ _ => ⟨_, rfl⟩)⟩, ?_⟩), rfl⟩⟩
  try simp only [tdy] at h46
  refine AL_o rfl rfl rfl rfl ?_
  refine AL_o rfl rfl rfl rfl ?_
  refine AL_p (x_pickF rfl rfl rfl) ?_
  refine AL_nil ?_
  refine AW_condF rfl ?_
  refine AW_skip ?_
  refine AW_seq ?_
  refine AW_seq ?_
  refine AW_region ?_
  refine AL_p (x_move rfl rfl) ?_
  refine AL_b (x_eql rfl rfl rfl) (fun b71 h71 => ?_)
  refine AL_nil ?_
  cases b71
  · try simp only [tdy] at h71
    have hno : dStAny b c = _ := (if_neg (by omega)).trans ((if_neg (by omega)).trans ((if_neg (by omega)).trans (if_neg (by omega))))
    refine AW_condF rfl ?_
    refine AW_skip ?_
    refine AW_seq ?_
    refine AW_region ?_
    refine AL_p (x_loadN (n := 1) rfl rfl rfl (by kernel_rfl) rfl rfl) ?_
    refine AL_p (x_store (n := 1) rfl rfl rfl rfl (by kernel_rfl) rfl rfl rfl) ?_
    refine AL_nil ?_
    refine AW_shutB 101 100 0 rfl rfl rfl rfl ?_
    refine AW_ret ?_
    exact ⟨rn [(9, 100)], ⟨⟨⟨_, rfl, VLe.rf⟩, trivial⟩, ⟨⟨_, rfl, by first | exact BLe.rf | exact ble_eq (by rw [hno]; first | done | rfl)⟩, ⟨_, rfl, by first | exact BLe.rf | exact ble_eq (by rw [hno]; first | done | rfl)⟩, trivial⟩, by repeat (first | exact trivial | refine ⟨⟨rfl, by first | (left; intro h; cases h) | (right; rfl), by first | exact (fun _ h => ⟨_, h⟩) | exact (fun _ _ => ⟨_, rfl⟩)⟩, ?_⟩), rfl⟩⟩
  try simp only [tdy] at h71
  have hno : dStAny b c = _ := (if_neg (by omega)).trans ((if_neg (by omega)).trans ((if_neg (by omega)).trans (if_pos (by omega))))
  refine AW_condT rfl ?_
  refine AW_seq ?_
  refine AW_region ?_
  refine AL_p (x_field (off := 0) (o' := 0) rfl rfl rfl (by kernel_rfl) rfl) ?_
  refine AL_p (x_load1 rfl rfl rfl (by kernel_rfl) rfl) ?_
  refine AL_p (x_olen (E := 84) (n := 3) rfl rfl rfl (by kernel_rfl)) ?_
  refine AL_p (x_assign rfl rfl) ?_
  refine AL_nil ?_
  refine AW_block ?_
  refine AW_loop2 (ι := {q : Nat × List Namedt × Cur // ((q.1) ≤ 25 ∧ (q.2.1).length ≤ 100 + (q.1)) ∧ (∀ y ∈ (q.2.1), namedSm y) ∧ dFill b (26 - (q.1)) (q.1) (q.2.1) (q.2.2) = dFill b (26 - (dStore b c).1.length) (dStore b c).1.length (dStore b c).1 (dBelow b (dStore b c).2 16).2}) (fun p => [(7, .one (.c (.int .i64 (((p.1.1) : Int)))))]) (fun p => [(101, some (.arr 84 namedE (p.1.2.1) true)), (200, some (curB b (p.1.2.2)))]) [0, 2, 3] [100, 102] (fun p => 26 - (p.1.1)) ⟨⟨(dStore b c).1.length, (dStore b c).1, (dBelow b (dStore b c).2 16).2⟩, ⟨⟨by first | omega | (dsimp only; omega), by first | omega | (dsimp only; omega)⟩, hsm.all, rfl⟩⟩ (rn []) ?_ ?_
  exact ⟨by (repeat refine ⟨⟨_, rfl, by first | exact VLe.rf | exact vle_int (by dsimp only; omega)⟩, ?_⟩); exact trivial, by (repeat refine ⟨⟨_, rfl, by first | exact BLe.rf | exact BLe.box AllC.rf | exact BLe.arr (by exact rfl)⟩, ?_⟩); exact trivial, by repeat (first | exact trivial | refine ⟨⟨rfl, by first | (left; intro h; cases h) | (right; rfl), by first | exact (fun _ h => ⟨_, h⟩) | exact (fun _ _ => ⟨_, rfl⟩)⟩, ?_⟩), rfl⟩
  rintro ⟨⟨i, st, cc⟩, hinv⟩
  dsimp only
  obtain ⟨⟨hi, hst⟩, hsa, hfl⟩ := hinv
  have hi : i ≤ 25 := hi
  have hst : st.length ≤ 100 + i := hst
  have hsa : ∀ y ∈ st, namedSm y := hsa
  have hfl : dFill b (26 - i) i st cc = dFill b (26 - (dStore b c).1.length) (dStore b c).1.length (dStore b c).1 (dBelow b (dStore b c).2 16).2 := hfl
  have hd1 := dBelow_lt b cc (n := 2) (by decide)
  refine AW_seq ?_
  refine AW_seq ?_
  refine AW_region ?_
  refine AL_p (x_move rfl rfl) ?_
  refine AL_p (x_move rfl rfl) ?_
  refine AL_p (x_call (ks := []) (L := [(200, some _)]) (L' := [(200, some _)]) rfl rfl rfl (below_c b cc hb 2) rfl AllV.rf (caught_of rfl) rfl rfl rfl ⟨rfl, trivial⟩ rfl) ?_
  refine AL_p (x_add rfl rfl rfl (IntWalk.i64_in _ (by omega))) ?_
  refine AL_b (x_lss rfl rfl rfl) (fun b79 h79 => ?_)
  refine AL_nil ?_
  cases b79
  · try simp only [tdy] at h79
    have hno := hno.trans (dFill_end hfl (by omega) (by omega))
    refine AW_condF rfl ?_
    refine AW_exit (BQ_hit ?_)
    refine AW_seq ?_
    refine AW_region ?_
    refine AL_p (x_loadN (n := 1) rfl rfl rfl (by kernel_rfl) rfl rfl) ?_
    refine AL_p (x_store (n := 1) rfl rfl rfl rfl (by kernel_rfl) rfl rfl rfl) ?_
    refine AL_nil ?_
    refine AW_shutB 101 100 0 rfl rfl rfl rfl ?_
    refine AW_ret ?_
    exact ⟨rn [(9, 100)], ⟨⟨⟨_, rfl, VLe.rf⟩, trivial⟩, ⟨⟨_, rfl, by first | exact BLe.rf | exact ble_eq (by rw [hno]; first | done | rfl)⟩, ⟨_, rfl, by first | exact BLe.rf | exact ble_eq (by rw [hno]; first | done | rfl)⟩, trivial⟩, by repeat (first | exact trivial | refine ⟨⟨rfl, by first | (left; intro h; cases h) | (right; rfl), by first | exact (fun _ h => ⟨_, h⟩) | exact (fun _ _ => ⟨_, rfl⟩)⟩, ?_⟩), rfl⟩⟩
  try simp only [tdy] at h79
  refine AW_condT rfl ?_
  refine AW_skip ?_
  refine AW_seq ?_
  refine AW_block ?_
  refine AW_draw rfl ?_
  refine AL_p (x_loadN (n := 1) rfl rfl rfl (by kernel_rfl) rfl rfl) ?_
  refine AL_p (x_move rfl rfl) ?_
  refine AL_p (x_add rfl rfl rfl (IntWalk.i64_in _ (by omega))) ?_
  refine AL_p (x_call0 rfl rfl rfl (numTextS_k (10 + (i : Int))) rfl rfl) ?_
  refine AL_p (x_sadd rfl rfl rfl (by have := numText_size (10 + (i : Int)); have e1 : (⟨#[122]⟩ : ByteArray).size = 1 := rfl; omega)) ?_
  refine AL_p (x_build (zs := [.int .i64 0, .slice none 0 0]) (places := [(0, 1), (1, 1)]) rfl (by kernel_rfl) rfl rfl rfl rfl rfl) ?_
  refine AL_p (x_callR rfl rfl rfl (l12Set_c st (zName i) ⟨0, []⟩ (by omega) (fun y hy => namedSm_small (hsa y hy)) (relSm_small noRel_sm) 104) rfl ⟨V1Le.rf, V1Le.rf, V1Le.agg ⟨CLe.rf, CLe.nil, trivial⟩, trivial⟩ rfl rfl rfl rfl rfl) ?_
  refine AL_p (x_store (n := 1) rfl rfl rfl rfl (by kernel_rfl) rfl rfl rfl) ?_
  refine AL_nild (by kernel_rfl) ?_
  refine AW_region ?_
  refine AL_p (x_move rfl rfl) ?_
  refine AL_p (x_add rfl rfl rfl (IntWalk.i64_in _ (by omega))) ?_
  refine AL_p (x_assign rfl rfl) ?_
  refine AL_nil ?_
  refine ⟨⟨⟨i + 1, setRel st ⟨zName i, ⟨0, []⟩⟩, (dBelow b cc 2).2⟩, ⟨⟨by omega, by have := setRel_len (rels := st) (nw := ⟨zName i, ⟨0, []⟩⟩); dsimp only; omega⟩, setRel_all (p := namedSm) ⟨zName_size i, noRel_sm⟩ hsa, dFill_on hfl (by omega) (by omega)⟩⟩, rn [(101, 104)], ?_, by dsimp only; omega⟩
  exact ⟨by (repeat refine ⟨⟨_, rfl, by first | exact VLe.rf | exact vle_int (by dsimp only; omega)⟩, ?_⟩); exact trivial, by (repeat refine ⟨⟨_, rfl, by first | exact BLe.rf | exact BLe.box AllC.rf | exact BLe.arr (by exact rfl)⟩, ?_⟩); exact trivial, by repeat (first | exact trivial | refine ⟨⟨rfl, by first | (left; intro h; cases h) | (right; rfl), by first | exact (fun _ h => ⟨_, h⟩) | exact (fun _ _ => ⟨_, rfl⟩)⟩, ?_⟩), rfl⟩
end Go.Proofs.YtibhoanjglfaoaaGreat

/- Functions of the library on rows (printed by walk.py) -/
namespace Go.Proofs.YtibhoanjglfaoaaGreat
open Go.RowKit
set_option linter.unusedVariables false
set_option linter.unusedSimpArgs false
set_option maxRecDepth 100000


theorem insNamed_T : ∃ i z, Tryz.prog.underlying 30 = some (.slice 84) ∧ Tryz.prog.info? 84 = some i ∧ i.zero = some z ∧ z.cells.size = 3 ∧ i.size = 3 ∧ i.bytes = 48 := by
  obtain ⟨hu, hn0, ti, z, hti, hz, hzs, htis, htib⟩ := arrT_spec (P := Tryz.prog) (T := 30) (E := 84) (n := 3) (b := 48) (by kernel_rfl)
  exact ⟨ti, z, hu, hti, hz, hzs, htis, htib⟩
set_option maxHeartbeats 4000000 in
set_option maxRecDepth 100000 in
theorem insNamed_end (w : World) (base : Option Addr) (n c i : Nat) (cells news : List Value) (vb vc m : Nat) (hown : w.ownsRow 0 84 3 (.slice base n c) n cells) (hu : w.ownsRow 0 84 3 (.slice (some ⟨vb, 0, none⟩) m vc) m news) (hin : i = n) (hm : 0 < m) (hm1 : m ≤ 1000) (hn : n ≤ 100000000) (hc63 : c ≤ 9223372036854775807) (h1 : ∀ u ∈ news, u.oneCell' = true) (hnc : n ≤ c) :
    Calls Tryz.prog 92 #[.slice base n c, .int .i64 (i : Int), .slice (some ⟨vb, 0, none⟩) m vc] w fun en w' => ∃ v', en = .returned v' ∧ w'.ownsRow 0 84 3 v' (n + m) (cells ++ news) ∧ w.grownBy w' (Value.slice base n c).ownBlock ∧ ∀ b, v'.ownBlock = some b → (Value.slice base n c).ownBlock = some b ∨ w.heap.size ≤ b := by
  subst hin
  obtain ⟨ti, z, hT, hti, hz, hzs, htis, htib⟩ := insNamed_T
  obtain ⟨v', w', q1, q2, q3, q4⟩ := run_app (P := Tryz.prog) w 30 30 84 ti z 3 48 hT hti hz htis htib hzs (by decide) _ _ _ hown ⟨vb, 0, none⟩ m vc news hu.1 (hu.cells rfl) h1 (by unfold maxLen; omega) (by omega)
  have hi : (0 : Int) ≤ (i : Int) := by omega
  have hz1 : ¬ ((m : Int) = 0) := by omega
  clear hown hu
  by_cases hci : c = i
  · subst hci
    go_enter Tryz.func92, Tryz.ntmps92
    go_wp2_with (at_builtin; refine Lib.wpList_append_run _ rfl _ _ _ _ rfl _ _ rfl rfl _ _ q1 ?_)
    go_ret
    exact ⟨v', rfl, q2, q3, q4⟩
  · go_enter Tryz.func92, Tryz.ntmps92
    go_wp2_with (at_builtin; refine Lib.wpList_append_run _ rfl _ _ _ _ rfl _ _ rfl rfl _ _ q1 ?_)
    go_ret
    exact ⟨v', rfl, q2, q3, q4⟩
set_option maxHeartbeats 4000000 in
set_option maxRecDepth 100000 in
theorem insNamed_shift (w : World) (g n c i : Nat) (cur : Array Value) (cells news : List Value) (vb vc m : Nat) (vcur : Array Value) (hg : w.heap[g]? = some (.cells cur 84 (0, 0))) (hgv : w.heap[vb]? = some (.cells vcur 84 (0, 0))) (hne : vb ≠ g) (hcs : cur.size = c * 3) (htk : cur.toList.take (n * 3) = cells) (hl : cells.length = n * 3) (hnv : ∀ j u, news[j]? = some u → w.cell? ((⟨vb, 0, none⟩ : Addr).add j) = some u) (hnl : news.length = m * 3)
    (hin : i < n) (hroom : n + m ≤ c) (hm : 0 < m) (hc63 : c ≤ 9223372036854775807) (h1 : ∀ u ∈ cells ++ news, u.oneCell' = true) (hvs : vcur.size = vc * 3) (hv1 : m ≤ vc) :
    Calls Tryz.prog 92 #[.slice (some ⟨g, 0, none⟩) n c, .int .i64 (i : Int), .slice (some ⟨vb, 0, none⟩) m vc] w fun en w' => en = .returned (.slice (some ⟨g, 0, none⟩) (n + m) c) ∧ w'.heap[g]? = some (.cells (cells.take (i * 3) ++ news ++ cells.drop (i * 3) ++ cur.toList.drop ((n + m) * 3)).toArray 84 (0, 0)) ∧ w.grownBy w' (some g) := by
  obtain ⟨ti, z, hT, hti, hz, hzs, htis, htib⟩ := insNamed_T
  have hsz : (Tryz.prog.info? 84).map (·.size) = some 3 := by rw [hti]; simp [htis]
  have hov : ∀ (W : World), W.heap = w.heap → ∀ lb cb, (callFunc 128 #[.slice (some ⟨vb, 0, none⟩) m vc, .slice (some ⟨g, ((i + m) * 3), none⟩) lb cb]).run Tryz.prog W = .ok (.value (.bool false)) W := fun W hW lb cb => by
    rw [run_callFunc_extern Tryz.func128 (by kernel_rfl) (by kernel_rfl) (by kernel_rfl) (e := Extern.SlicesOverlaps.overlaps #[30, 30] #[4]) (by kernel_rfl),
      Lib.run_overlaps_apart W 30 4 84 hT 3 (by intro w; simp [Go.sizeOf, typeInfo, hti, htis]) ⟨vb, 0, none⟩ ⟨g, ((i + m) * 3), none⟩ m vc lb cb hne 84 84 vcur.size cur.size (by simp [World.shape?, hW, hgv]) (by simp [World.shape?, hW, hg]) (by rw [hcs]; omega) (by simp [World.frozen?, hW, hgv]) (by simp [World.frozen?, hW, hgv])]
    rfl
  obtain ⟨A1, hA1⟩ : ∃ A1, A1 = (cur.toList.take ((i + m) * 3) ++ cells.drop (i * 3) ++ cur.toList.drop ((n + m) * 3)) := ⟨_, rfl⟩
  have hcur : cur.toList.length = c * 3 := by rw [← hcs, Array.length_toList]
  have hdl : (cells.drop (i * 3)).length = (n - i) * 3 := by rw [List.length_drop, hl]; omega
  have hcp1 : ∀ W : World, W.heap = w.heap → ∀ ty dc sc, (Builtin.copy_ #[30, 30] ty #[.slice (some ⟨g, ((i + m) * 3), none⟩) (n + m - (i + m)) dc, .slice (some ⟨g, ((i) * 3), none⟩) (n + m - i) sc]).run Tryz.prog W = .ok (goInt (n - i : Nat)) (W.setRow g A1.toArray) := fun W hW ty dc sc => by
    have hmn : Nat.min (n + m - i) (n + m - (i + m)) = n - i := by simp only [Nat.min_def]; split <;> omega
    have := run_copy_rowK (P := Tryz.prog) W 30 30 ty 84 3 g ((i + m) * 3) (n + m - (i + m)) dc ⟨g, ((i) * 3), none⟩ (n + m - i) sc cur 84 (cells.drop (i * 3)) hT hsz (by rw [hW]; exact hg) (by rw [hmn, hdl])
      (fun j v hj => by
        rw [Addr.add_lit, cell_of_row W g _ cur 84 (0, 0) (by rw [hW]; exact hg)]
        rw [List.getElem?_drop, ← htk, List.getElem?_take] at hj
        split at hj
        · simpa using hj
        · cases hj) (by rw [hdl, hcs]; omega) (fun v hv => h1 v (List.mem_append_left _ (List.mem_of_mem_drop hv)))
    rw [hmn] at this
    rw [this, hA1, hdl]
    have e : ((i + m) * 3) + (n - i) * 3 = (n + m) * 3 := by omega
    rw [e]
    try simp only [Nat.mul_one]
  have hA1l : A1.length = c * 3 := by rw [hA1]; simp [hdl, hcur]; omega
  have hcp2 : ∀ W0 : World, W0.heap = w.heap → ∀ ty dc, (Builtin.copy_ #[30, 30] ty #[.slice (some ⟨g, ((i) * 3), none⟩) (n + m - i) dc, .slice (some ⟨vb, 0, none⟩) m vc]).run Tryz.prog (W0.setRow g A1.toArray) = .ok (goInt m) ((W0.setRow g A1.toArray).setRow g (cells.take (i * 3) ++ news ++ cells.drop (i * 3) ++ cur.toList.drop ((n + m) * 3)).toArray) := fun W0 hW0 ty dc => by
    have hW : (W0.setRow g A1.toArray).heap[g]? = some (.cells A1.toArray 84 (0, 0)) := setRow_heap W0 g cur _ _ _ (by rw [hW0]; exact hg)
    have hWv : (W0.setRow g A1.toArray).heap[vb]? = w.heap[vb]? := (setRow_other W0 g vb _ hne).trans (by rw [hW0])
    generalize W0.setRow g A1.toArray = W at *
    have hmn : Nat.min m (n + m - i) = m := by simp only [Nat.min_def]; split <;> omega
    have := run_copy_rowK (P := Tryz.prog) W 30 30 ty 84 3 g ((i) * 3) (n + m - i) dc ⟨vb, 0, none⟩ m vc A1.toArray 84 news hT hsz hW (by rw [hmn, hnl]) (fun j v hj => by
        have h2 := hnv j v hj
        rw [Addr.add_lit] at h2 ⊢
        simp only [World.cell?, hWv] at h2 ⊢
        exact h2) (by rw [hnl, List.size_toArray, hA1l]; omega) (fun v hv => h1 v (List.mem_append_right _ hv))
    rw [hmn] at this
    rw [this]
    congr 3
    have hx := insRow (A := cur.toList) (C := cells) (N := news) (x := i * 3) (y := (i + m) * 3) (z := (n + m) * 3) (by rw [hl]; omega) (by rw [hnl]; omega) (by rw [hl, hnl]; omega) (by rw [hl]; exact htk) (by rw [hcur]; omega)
    rw [hA1]
    first | exact hx | simpa only [Nat.mul_one] using hx
  have hz1 : ¬ ((m : Int) = 0) := by omega
  have hz2 : ¬ ((i : Int) = (n : Int)) := by omega
  have hw1 : IntKind.i64.wrap ((i : Int) + (m : Int)) = (i : Int) + (m : Int) := by rw [IntKind.wrap_i64]; omega
  have hw2 : IntKind.i64.wrap ((n : Int) + (m : Int)) = (n : Int) + (m : Int) := by rw [IntKind.wrap_i64]; omega
  have hw3 : ¬ ((c : Int) < (n : Int) + (m : Int)) := by omega
  have hb1 : (0 : Int) ≤ (i : Int) + (m : Int) := by omega
  have hb1' : (0 : Int) ≤ (n : Int) + (m : Int) := by omega
  have hin' : i ≤ n := by omega
  have htn : ((i : Int) + (m : Int)).toNat = i + m := by omega
  have htn2 : ((n : Int) + (m : Int)).toNat = n + m := by omega
  have hb2 : ¬ (c = i + m) := by omega
  have hb3 : (i : Int) ≤ (n : Int) + (m : Int) := by omega
  have hb3' : (i : Int) + (m : Int) ≤ (n : Int) + (m : Int) := by omega
  have hb5 : (n : Int) + (m : Int) ≤ (c : Int) := by omega
  have hb4 : ¬ (c = i) := by omega
  have hgw : (w.setRow g A1.toArray).heap[g]? = some (.cells A1.toArray 84 (0, 0)) := setRow_heap w g cur _ _ _ hg
  have hgo : (w.setRow g A1.toArray).heap[vb]? = w.heap[vb]? := setRow_other w g vb _ hne
  clear hA1
  go_enter Tryz.func92, Tryz.ntmps92
  go_wp2_with (simp only [hov _ rfl])
  go_region_law (refine step_copy_runI rfl (.tmp 73) (.tmp 76) 30 30 rfl (.slice (some ⟨g, ((i + m) * 3), none⟩) (n + m - (i + m)) (c - (i + m))) (.slice (some ⟨g, ((i) * 3), none⟩) (n + m - i) (c - i)) (by simp [Act.eval, Act.put]) (by simp [Act.eval, Act.put]) (hcp1 _ (by rfl) _ _ _) ?_)
  go_wp2
  rw [hcp2 w.drew rfl]
  go_wp2
  go_ret
  refine ⟨rfl, ?_, ?_⟩
  · have hh := setRow_heap (w.drew.setRow g A1.toArray) g A1.toArray (cells.take (i * 3) ++ news ++ cells.drop (i * 3) ++ cur.toList.drop ((n + m) * 3)).toArray 84 (0, 0) hgw
    simpa only [List.append_assoc, Nat.mul_one] using hh
  · exact ⟨rfl, rfl, rfl, by simp, fun b hb hne => by
      have hb2 : b ≠ g := fun e => hne (by rw [e])
      exact (setRow_other _ g b _ hb2).trans (setRow_other w g b _ hb2)⟩

set_option maxHeartbeats 4000000 in
set_option maxRecDepth 100000 in
theorem insNamed_grow (w : World) (g n c i : Nat) (cur : Array Value) (cells news : List Value) (vb vc m : Nat) (hg : w.heap[g]? = some (.cells cur 84 (0, 0))) (hvbl : vb < w.heap.size) (hcs : cur.size = c * 3) (htk : cur.toList.take (n * 3) = cells) (hl : cells.length = n * 3) (hnv : ∀ j u, news[j]? = some u → w.cell? ((⟨vb, 0, none⟩ : Addr).add j) = some u) (hnl : news.length = m * 3)
    (hin : i < n) (hnc : n ≤ c) (hroom : c < n + m) (hm : 0 < m) (hm1 : m ≤ 1000) (hn : n ≤ 100000000) (hc63 : c ≤ 9223372036854775807) (h1 : ∀ u ∈ cells ++ news, u.oneCell' = true) :
    Calls Tryz.prog 92 #[.slice (some ⟨g, 0, none⟩) n c, .int .i64 (i : Int), .slice (some ⟨vb, 0, none⟩) m vc] w fun en w' => ∃ (G : Nat) (T : List Value), en = .returned (.slice (some ⟨w.heap.size, 0, none⟩) (n + m) G) ∧ n + m ≤ G ∧ G ≤ maxLen ∧ T.length = G * 3 ∧ T.take ((n + m) * 3) = cells.take (i * 3) ++ news ++ cells.drop (i * 3) ∧ w'.heap[w.heap.size]? = some (.cells T.toArray 84 (0, 0)) ∧ w.grownBy w' none := by
  obtain ⟨ti, z, hT, hti, hz, hzs, htis, htib⟩ := insNamed_T
  have hsz : (Tryz.prog.info? 84).map (·.size) = some 3 := by rw [hti]; simp [htis]
  have hgl : g < w.heap.size := (Array.getElem?_eq_some_iff.1 hg).1
  have hcell : ∀ j v, cells[j]? = some v → w.cell? ⟨g, j, none⟩ = some v := fun j v hj => by
    rw [cell_of_row w g _ cur 84 (0, 0) hg]
    rw [← htk, List.getElem?_take] at hj
    split at hj
    · simpa using hj
    · cases hj
  have hkk : (n : Int) + (m : Int) - (i : Int) = ((n + m - i : Nat) : Int) := by omega
  have hik : i + (n + m - i) = n + m := by omega
  have hold : (Builtin.firstCells ti.size i (.slice (some ⟨g, 0, none⟩) i c)).run Tryz.prog w.drew = .ok (cells.take (i * 3)).toArray w.drew := by
    rw [htis]
    exact run_firstCells_some w.drew 3 i ⟨g, 0, none⟩ i c (cells.take (i * 3)) (by rw [List.length_take, hl]; omega) (fun j v hj => by
      rw [Addr.add_lit, Nat.zero_add]
      rw [List.getElem?_take] at hj
      split at hj
      · exact hcell j v hj
      · cases hj)
  obtain ⟨G, hG⟩ : ∃ G, G = grownCap w (n + m) c 84 := ⟨_, rfl⟩
  obtain ⟨ROW, hROW⟩ : ∃ ROW : Array Value, ROW = (cells.take (i * 3)).toArray ++ Builtin.zeroCells z.cells (n + m - i) ++ Builtin.zeroCells z.cells (G - (n + m)) := ⟨_, rfl⟩
  have hrz : ∀ ty, (Builtin.append_ #[30, 3] ty #[.slice (some ⟨g, 0, none⟩) i c, .int .i64 ((n : Int) + (m : Int) - (i : Int))]).run Tryz.prog w = .ok (.slice (some ⟨w.heap.size, 0, none⟩) (n + m) G) (w.drew.alloc (.cells ROW 84)) := fun ty => by
    have h := Lib.run_append_grow_zeros (P := Tryz.prog) w 30 3 ty 84 ti z .i64 .i64 hT Tryz.underlying3 hti hz (some ⟨g, 0, none⟩) i c (cells.take (i * 3)).toArray.toList hold (n + m - i) (by omega) (by rw [htis]; decide) (by omega) (by omega) (by rw [htib]; omega) (by rw [htib, hik]; exact growslice_fits hroom (by omega))
    rw [hik, ← hG] at h
    rw [hkk, hROW]
    exact h
  have hGn : n + m ≤ G := by rw [hG]; exact grownCap_ge w _ _ _
  have hGm : G ≤ maxLen := by rw [hG]; exact grownCap_le_maxLen w (n + m) c 84 (by unfold maxLen; omega)
  have hG63 : G ≤ 9223372036854775807 := by unfold maxLen at hGm; omega
  have hRl : ROW.size = G * 3 := by
    rw [hROW, Array.size_append, Array.size_append, size_zeroCells, size_zeroCells, List.size_toArray, List.length_take, hl, hzs]
    omega
  have hRt : ROW.toList.take (i * 3) = cells.take (i * 3) := by
    rw [hROW]
    simp only [Array.toList_append, List.append_assoc]
    exact List.take_left' (by rw [List.length_take, hl]; omega)
  have hdl : (cells.drop (i * 3)).length = (n - i) * 3 := by rw [List.length_drop, hl]; omega
  obtain ⟨A1, hA1⟩ : ∃ A1, A1 = (ROW.toList.take (i * 3) ++ news ++ ROW.toList.drop ((i + m) * 3)) := ⟨_, rfl⟩
  have hrl : ROW.toList.length = G * 3 := by rw [← hRl, Array.length_toList]
  have hA1l : A1.length = G * 3 := by rw [hA1]; simp [hnl, hrl]; omega
  obtain ⟨A2, hA2⟩ : ∃ A2, A2 = (A1.take ((i + m) * 3) ++ cells.drop (i * 3) ++ A1.drop ((n + m) * 3)) := ⟨_, rfl⟩
  have hA2l : A2.length = G * 3 := by rw [hA2]; simp [hdl, hA1l]; omega
  have hcpA : ∀ W : World, W.heap[w.heap.size]? = some (.cells ROW 84 (0, 0)) → (∀ b, b < w.heap.size → W.heap[b]? = w.heap[b]?) → ∀ ty dc, (Builtin.copy_ #[30, 30] ty #[.slice (some ⟨w.heap.size, ((i) * 3), none⟩) (n + m - i) dc, .slice (some ⟨vb, 0, none⟩) m vc]).run Tryz.prog W = .ok (goInt m) (W.setRow w.heap.size A1.toArray) := fun W hW hWv ty dc => by
    have hmn : Nat.min m (n + m - i) = m := by simp only [Nat.min_def]; split <;> omega
    have := run_copy_rowK (P := Tryz.prog) W 30 30 ty 84 3 w.heap.size ((i) * 3) (n + m - i) dc ⟨vb, 0, none⟩ m vc ROW 84 news hT hsz hW (by rw [hmn, hnl]) (fun j v hj => by
        have h2 := hnv j v hj
        rw [Addr.add_lit] at h2 ⊢
        simp only [World.cell?, hWv vb hvbl] at h2 ⊢
        exact h2) (by rw [hnl, hRl]; omega) (fun v hv => h1 v (List.mem_append_right _ hv))
    rw [hmn] at this
    rw [this, hA1, hnl]
    have e : ((i) * 3) + m * 3 = (i + m) * 3 := by omega
    rw [e]
    try simp only [Nat.mul_one]
  have hcpB : ∀ W : World, W.heap[w.heap.size]? = some (.cells A1.toArray 84 (0, 0)) → (∀ b, b < w.heap.size → W.heap[b]? = w.heap[b]?) → ∀ ty dc sc, (Builtin.copy_ #[30, 30] ty #[.slice (some ⟨w.heap.size, ((i + m) * 3), none⟩) (n + m - (i + m)) dc, .slice (some ⟨g, ((i) * 3), none⟩) (n - i) sc]).run Tryz.prog W = .ok (goInt (n - i : Nat)) (W.setRow w.heap.size A2.toArray) := fun W hW hWv ty dc sc => by
    have hmn : Nat.min (n - i) (n + m - (i + m)) = n - i := by simp only [Nat.min_def]; split <;> omega
    have := run_copy_rowK (P := Tryz.prog) W 30 30 ty 84 3 w.heap.size ((i + m) * 3) (n + m - (i + m)) dc ⟨g, ((i) * 3), none⟩ (n - i) sc A1.toArray 84 (cells.drop (i * 3)) hT hsz hW (by rw [hmn, hdl]) (fun j v hj => by
        rw [List.getElem?_drop] at hj
        have h2 := hcell _ v hj
        rw [Addr.add_lit]
        simp only [World.cell?, hWv g hgl] at h2 ⊢
        first | exact h2 | simpa only [Nat.mul_one] using h2) (by rw [hdl, List.size_toArray, hA1l]; omega) (fun v hv => h1 v (List.mem_append_left _ (List.mem_of_mem_drop hv)))
    rw [hmn] at this
    rw [this, hA2, hdl]
    have e : ((i + m) * 3) + (n - i) * 3 = (n + m) * 3 := by omega
    rw [e]
    try simp only [Nat.mul_one]
  have hfin : A2.take ((n + m) * 3) = cells.take (i * 3) ++ news ++ cells.drop (i * 3) := by
    rw [hA2, List.take_left' (by rw [List.length_append, List.length_take, hA1l, hdl]; omega)]
    congr 1
    rw [hA1, hRt, List.take_left' (by rw [List.length_append, List.length_take, hl, hnl]; omega)]
  have hz1 : ¬ ((m : Int) = 0) := by omega
  have hz2 : ¬ ((i : Int) = (n : Int)) := by omega
  have hz3 : (c : Int) < (n : Int) + (m : Int) := by omega
  have hw1 : IntKind.i64.wrap ((i : Int) + (m : Int)) = (i : Int) + (m : Int) := by rw [IntKind.wrap_i64]; omega
  have hw2 : IntKind.i64.wrap ((n : Int) + (m : Int)) = (n : Int) + (m : Int) := by rw [IntKind.wrap_i64]; omega
  have hw3 : IntKind.i64.wrap ((n : Int) + (m : Int) - (i : Int)) = (n : Int) + (m : Int) - (i : Int) := by rw [IntKind.wrap_i64]; omega
  have hb1 : (0 : Int) ≤ (i : Int) + (m : Int) := by omega
  have hin' : i ≤ n := by omega
  have hic : i ≤ c := by omega
  have htn : ((i : Int) + (m : Int)).toNat = i + m := by omega
  have hb3 : (i : Int) ≤ (n : Int) + (m : Int) := by omega
  have hb3' : (i : Int) + (m : Int) ≤ (n : Int) + (m : Int) := by omega
  have hGi : ¬ (G = i) := by omega
  have hGim : ¬ (G = i + m) := by omega
  have hci : ¬ (c = i) := by omega
  have hA0 : ∀ W : World, W.heap = w.heap → ((W.alloc (.cells ROW 84)).heap[w.heap.size]? = some (.cells ROW 84 (0, 0)) ∧ ∀ b, b < w.heap.size → (W.alloc (.cells ROW 84)).heap[b]? = w.heap[b]?) := fun W hW => ⟨by rw [← hW]; exact heap_alloc_new W _, fun b hb => by rw [← hW] at hb ⊢; show (W.heap.push _)[b]? = _; rw [Array.getElem?_push, if_neg (Nat.ne_of_lt hb)]⟩
  have hB0 : ∀ W : World, W.heap[w.heap.size]? = some (.cells ROW 84 (0, 0)) → (∀ b, b < w.heap.size → W.heap[b]? = w.heap[b]?) → ((W.setRow w.heap.size A1.toArray).heap[w.heap.size]? = some (.cells A1.toArray 84 (0, 0)) ∧ ∀ b, b < w.heap.size → (W.setRow w.heap.size A1.toArray).heap[b]? = w.heap[b]?) := fun W h1 h2 => ⟨setRow_heap W _ _ _ _ _ h1, fun b hb => by rw [setRow_other W _ b _ (by omega)]; exact h2 b hb⟩
  obtain ⟨a1, a2⟩ := hA0 w.drew rfl
  obtain ⟨b1, b2⟩ := hB0 (w.drew.alloc (.cells ROW 84)) a1 a2
  have hcA := hcpA (w.alloc (.cells ROW 84)).drew a1 a2
  clear hkk hik hold hROW hG hA1 hA2 hcpA hA0 hB0 hRt hRl
  go_enter Tryz.func92, Tryz.ntmps92
  go_wp2_with (at_builtin; refine Lib.wpList_append_run _ rfl _ _ _ _ rfl _ _ rfl rfl _ _ (hrz _) ?_)
  first | (rw [hcA]; go_wp2_with fail) | skip
  go_region_law (refine step_copy_runI rfl (.tmp 50) (.tmp 53) 30 30 rfl (.slice (some ⟨w.heap.size, ((i + m) * 3), none⟩) (n + m - (i + m)) (G - (i + m))) (.slice (some ⟨g, ((i) * 3), none⟩) (n - i) (c - i)) (by simp [Act.eval, Act.put]) (by simp [Act.eval, Act.put]) (hcpB _ (by exact b1) (by exact b2) _ _ _) ?_)
  go_wp2
  go_ret
  refine ⟨G, A2, rfl, hGn, hGm, hA2l, hfin, ?_, ?_⟩
  · exact setRow_heap _ _ A1.toArray A2.toArray 84 (0, 0) b1
  · exact ⟨rfl, rfl, rfl, by simp, fun b hb _ => (setRow_other _ _ b _ (by omega)).trans (b2 b hb)⟩
theorem insNamed_t {α : Type} {e : Enc α} {f : α → List Cell} [hc : CellsOf e f] (he : e.size = 3) {d : Bool} {xs zs : List α} {i : Nat} (hi : i ≤ xs.length) (hz : 0 < zs.length) (hz1 : zs.length ≤ 1000) (hx : xs.length ≤ 100000000) :
    AT Tryz.prog 92 ([.one (.own 0), .one (.c (.int .i64 (i : Int)))] ++ [.one (.own 2)]) [(0, some (.arr 84 e xs d)), (2, some (.arr 84 e zs d))] (.one (.own 1)) [(1, some (.arr 84 e (xs.take i ++ zs ++ xs.drop i) d))] := by
  refine AT.row2 (rest := [.one (.c (.int .i64 (i : Int)))]) ⟨_, _, Tryz.func92, rfl, rfl⟩ (fun w v u vs cells news bs b2 hvs hown hu hF hF2 h1 hap => ?_) (fun x hx => by simp at hx; exact ⟨_, hx⟩)
  have hv1 : vs = [.int .i64 (i : Int)] := by
    cases vs with
    | nil => exact hvs.elim
    | cons a as' =>
      cases as' with
      | nil => have := hvs.1; cases this; rfl
      | cons _ _ => exact hvs.2.elim
  subst hv1
  obtain ⟨bs', q1, q2, q3⟩ := FR.ins (e := e) hF hF2 hi
  rw [he] at hown hu q1 ⊢
  have hln : (xs.take i ++ zs ++ xs.drop i).length = xs.length + zs.length := by simp; omega
  rw [hln]
  have hcl := hown.1
  rcases hu.2 with ⟨_, h0⟩ | ⟨vb, vc, vcur, rfl, _, g2, g3, g4, g5, g6⟩
  · omega
  have hap' : v.ownBlock ≠ some vb := hap vb rfl
  have hcut : i = xs.length → cells.take (i * 3) ++ news ++ cells.drop (i * 3) = cells ++ news := fun e0 => by
    rw [e0, ← hcl, List.take_length, List.drop_length, List.append_nil]
  show Calls Tryz.prog 92 #[v, .int .i64 (i : Int), .slice (some ⟨vb, 0, none⟩) zs.length vc] w _
  rcases hown.2 with ⟨rfl, h0⟩ | ⟨g, c, cur, rfl, _, r3, r4, r5, r6, r7⟩
  · rw [h0]
    refine (insNamed_end w none 0 0 i cells news vb vc zs.length (by rw [h0] at hown; exact hown) hu (by omega) hz hz1 (by omega) (by omega) (fun u hu => h1 u (List.mem_append_right _ hu)) (by omega)).mono ?_
    rintro en w' ⟨v', rfl, t1, t2, t3⟩
    exact ⟨v', _, rfl, by rw [hcut (by omega)]; exact t1, t2, t3, bs', q1, q2, q3⟩
  · have hne : vb ≠ g := fun e0 => hap' (by rw [e0]; rfl)
    have hc63 : c ≤ 9223372036854775807 := by unfold maxLen at r5; omega
    by_cases hin : i = xs.length
    · refine (insNamed_end w (some ⟨g, 0, none⟩) xs.length c i cells news vb vc zs.length hown hu hin hz hz1 hx hc63 (fun u hu => h1 u (List.mem_append_right _ hu)) r4).mono ?_
      rintro en w' ⟨v', rfl, t1, t2, t3⟩
      exact ⟨v', _, rfl, by rw [hcut hin]; exact t1, t2, t3, bs', q1, q2, q3⟩
    · have hnv := hu.cells (g := vb) rfl
      by_cases hroom : xs.length + zs.length ≤ c
      · refine (insNamed_shift w g xs.length c i cur cells news vb vc zs.length vcur r3 g2 hne r6 r7 hcl hnv hu.1 (by omega) hroom hz hc63 h1 g5 g3).mono ?_
        rintro en w' ⟨rfl, t1, t2⟩
        refine ⟨_, cells.take (i * 3) ++ news ++ cells.drop (i * 3), rfl, ⟨?_, .inr ⟨g, c, _, rfl, Nat.zero_le _, t1, hroom, r5, ?_, ?_⟩⟩, t2, fun b hb => .inl hb, bs', q1, q2, q3⟩
        · simp [hcl, hu.1]; omega
        · have hz := hu.1
          have hsz : cur.toList.length = c * 3 := by rw [Array.length_toList]; exact r6
          simp [hcl, hz, hsz]; omega
        · have hz := hu.1
          simp only [List.toList_toArray]
          exact List.take_left' (by simp [hcl, hz]; omega)
      · refine (insNamed_grow w g xs.length c i cur cells news vb vc zs.length r3 (Array.getElem?_eq_some_iff.1 g2).1 r6 r7 hcl hnv hu.1 (by omega) r4 (by omega) hz hz1 hx hc63 h1).mono ?_
        rintro en w' ⟨G, T, rfl, t1, t2, t3, t4, t5, t6⟩
        refine ⟨_, cells.take (i * 3) ++ news ++ cells.drop (i * 3), rfl, ⟨?_, .inr ⟨_, G, _, rfl, Nat.zero_le _, t5, t1, t2, ?_, ?_⟩⟩, ⟨t6.os, t6.tape, t6.output, t6.size, fun b hb _ => t6.block b hb (by simp)⟩, fun b hb => .inr ?_, bs', q1, q2, q3⟩
        · simp [hcl, hu.1]; omega
        · simp [t3]
        · simpa using t4
        · have hb' : some w.heap.size = some b := hb
          cases hb'; exact Nat.le_refl _
end Go.Proofs.YtibhoanjglfaoaaGreat

/- A row taken out, or put in (printed by walk.py) -/
namespace Go.Proofs.YtibhoanjglfaoaaGreat
open Go.RowKit
set_option linter.unusedVariables false
set_option linter.unusedSimpArgs false
set_option maxRecDepth 100000

set_option maxHeartbeats 4000000 in
theorem relDropS_c0 (r : Relt) (row : List Val) (hr : smallRel r) (hw : smallRow row) : AC Tryz.prog 107 [.agg (relC r), .agg (rowC row)] [] (.tup [.agg [.c (.int .i64 (relDrop r row).1.arity), .own 0], .one (.c (.int .i64 (relDrop r row).2))]) [(0, some (.arr 72 rowE (relDrop r row).1.rows true))] := by
  refine AC_bodyCT (n := 2) (k := 9) (T := [(4, .one (.ptr 9 0)), (5, .one (.c (.int .i64 (relDrop r row).2)))]) (Lf := ((9, some (.box [.c (.int .i64 (relDrop r row).1.arity), .own 0])) :: [(0, some (.arr 72 rowE (relDrop r row).1.rows true))])) Tryz.func107 rfl rfl Tryz.ntmps107 rfl Tryz.results107 rfl rfl rfl rfl (by kernel_rfl) rfl rfl ⟨trivial, (by repeat (first | exact trivial | refine ⟨⟨_, rfl, BLe.rf⟩, ?_⟩)), (by repeat (first | exact trivial | refine ⟨⟨rfl, by first | (left; intro h; cases h) | (right; rfl), by first | exact (fun _ h => ⟨_, h⟩) | exact (fun _ _ => ⟨_, rfl⟩)⟩, ?_⟩)), rfl⟩ ?_
  refine AW_aggmax 1 0 rfl rfl (fun hm1_0 => ?_)
  refine AW_seq ?_
  refine AW_region ?_
  refine AL_p (x_box 100 rfl rfl rfl rfl rfl rfl rfl) ?_
  refine AL_p (x_box 101 rfl rfl rfl rfl rfl rfl rfl) ?_
  refine AL_p (x_alloc (z := .agg #[.int .i64 0, .slice none 0 0]) 102 rfl (by kernel_rfl) rfl rfl rfl rfl) ?_
  refine AL_p (x_assign rfl rfl) ?_
  refine AL_nil ?_
  refine AW_seq ?_
  refine AW_seq ?_
  refine AW_region ?_
  refine AL_p (x_loadN (n := 2) rfl rfl rfl (by kernel_rfl) rfl rfl) ?_
  refine AL_b (x_call0 rfl rfl rfl (relOkS_c _ hr.1) rfl rfl) (fun b9 h9 => ?_)
  refine AL_p (x_not rfl rfl) ?_
  refine AL_p (x_move rfl rfl) ?_
  cases b9
  · try simp only [tdy] at h9
    have hno := relDrop_no (row := row) (fits_r h9)
    refine AL_o rfl rfl rfl rfl ?_
    refine AL_o rfl rfl rfl rfl ?_
    refine AL_o rfl rfl rfl rfl ?_
    refine AL_p (x_pickT rfl rfl rfl) ?_
    refine AL_p (x_move rfl rfl) ?_
    refine AL_o rfl rfl rfl rfl ?_
    refine AL_o rfl rfl rfl rfl ?_
    refine AL_o rfl rfl rfl rfl ?_
    refine AL_o rfl rfl rfl rfl ?_
    refine AL_o rfl rfl rfl rfl ?_
    refine AL_o rfl rfl rfl rfl ?_
    refine AL_p (x_pickT rfl rfl rfl) ?_
    refine AL_nil ?_
    refine AW_condT rfl ?_
    refine AW_seq ?_
    refine AW_region ?_
    refine AL_p (x_build (zs := [.int .i64 0, .slice none 0 0]) (places := [(0, 1), (1, 1)]) rfl (by kernel_rfl) rfl rfl rfl rfl rfl) ?_
    refine AL_p (x_store (n := 2) rfl rfl rfl rfl (by kernel_rfl) rfl rfl rfl) ?_
    refine AL_p (x_assign rfl rfl) ?_
    refine AL_nil ?_
    refine AW_adopt (T := 72) (e := rowE) 103 102 1 rfl rfl rfl rfl rfl ?_
    refine AW_ret ?_
    exact ⟨rn [(9, 102), (0, 103)], ⟨⟨⟨_, rfl, VLe.rf⟩, ⟨_, rfl, by first | (refine vle_int ?_; rw [hno]; done) | exact VLe.rf | (refine vle_int ?_; rw [hno]; apply Eq.symm; assumption) | exact vle_int (by rw [hno])⟩, trivial⟩, ⟨⟨_, rfl, by first | (refine ble_eq ?_; rw [hno]; done) | (refine ble_eq ?_; rw [hno]; rfl) | exact BLe.rf⟩, ⟨_, rfl, by first | (refine BLe.arr ?_; rw [hno]; done) | (refine BLe.arr ?_; rw [hno]; exact filtTo_all (by omega)) | (refine BLe.arr ?_; rw [hno]; rfl) | exact BLe.rf⟩, trivial⟩, trivial, rfl⟩⟩
  try simp only [tdy] at h9
  refine AL_g rfl rfl (x_loadN (n := 1) rfl rfl rfl (by kernel_rfl) rfl rfl) ?_
  refine AL_gb rfl rfl (x_call0 rfl rfl rfl (rowOkS_c _) rfl rfl) (fun b13 h13 => ?_)
  refine AL_g rfl rfl (x_not rfl rfl) ?_
  refine AL_p (x_pickF rfl rfl rfl) ?_
  refine AL_p (x_move rfl rfl) ?_
  cases b13
  · try simp only [tdy] at h13
    have hno := relDrop_no (r := r) (fits_row h13)
    refine AL_o rfl rfl rfl rfl ?_
    refine AL_o rfl rfl rfl rfl ?_
    refine AL_o rfl rfl rfl rfl ?_
    refine AL_o rfl rfl rfl rfl ?_
    refine AL_o rfl rfl rfl rfl ?_
    refine AL_o rfl rfl rfl rfl ?_
    refine AL_p (x_pickT rfl rfl rfl) ?_
    refine AL_nil ?_
    refine AW_condT rfl ?_
    refine AW_seq ?_
    refine AW_region ?_
    refine AL_p (x_build (zs := [.int .i64 0, .slice none 0 0]) (places := [(0, 1), (1, 1)]) rfl (by kernel_rfl) rfl rfl rfl rfl rfl) ?_
    refine AL_p (x_store (n := 2) rfl rfl rfl rfl (by kernel_rfl) rfl rfl rfl) ?_
    refine AL_p (x_assign rfl rfl) ?_
    refine AL_nil ?_
    refine AW_adopt (T := 72) (e := rowE) 103 102 1 rfl rfl rfl rfl rfl ?_
    refine AW_ret ?_
    exact ⟨rn [(9, 102), (0, 103)], ⟨⟨⟨_, rfl, VLe.rf⟩, ⟨_, rfl, by first | (refine vle_int ?_; rw [hno]; done) | exact VLe.rf | (refine vle_int ?_; rw [hno]; apply Eq.symm; assumption) | exact vle_int (by rw [hno])⟩, trivial⟩, ⟨⟨_, rfl, by first | (refine ble_eq ?_; rw [hno]; done) | (refine ble_eq ?_; rw [hno]; rfl) | exact BLe.rf⟩, ⟨_, rfl, by first | (refine BLe.arr ?_; rw [hno]; done) | (refine BLe.arr ?_; rw [hno]; exact filtTo_all (by omega)) | (refine BLe.arr ?_; rw [hno]; rfl) | exact BLe.rf⟩, trivial⟩, trivial, rfl⟩⟩
  try simp only [tdy] at h13
  refine AL_g rfl rfl (x_field (off := 0) (o' := 0) rfl rfl rfl (by kernel_rfl) rfl) ?_
  refine AL_g rfl rfl (x_load1 rfl rfl rfl (by kernel_rfl) rfl) ?_
  refine AL_g rfl rfl (x_len (E := 147) (n := 2) rfl rfl (by kernel_rfl)) ?_
  refine AL_g rfl rfl (x_field (off := 0) (o' := 0) rfl rfl rfl (by kernel_rfl) rfl) ?_
  refine AL_g rfl rfl (x_load1 rfl rfl rfl (by kernel_rfl) rfl) ?_
  refine AL_gb rfl rfl (x_neq rfl rfl rfl) (fun b22 h22 => ?_)
  refine AL_p (x_pickF rfl rfl rfl) ?_
  refine AL_nil ?_
  cases b22
  rotate_left
  · try simp only [tdy] at h22
    have hno := relDrop_no (fits_len h22)
    refine AW_condT rfl ?_
    refine AW_seq ?_
    refine AW_region ?_
    refine AL_p (x_build (zs := [.int .i64 0, .slice none 0 0]) (places := [(0, 1), (1, 1)]) rfl (by kernel_rfl) rfl rfl rfl rfl rfl) ?_
    refine AL_p (x_store (n := 2) rfl rfl rfl rfl (by kernel_rfl) rfl rfl rfl) ?_
    refine AL_p (x_assign rfl rfl) ?_
    refine AL_nil ?_
    refine AW_adopt (T := 72) (e := rowE) 103 102 1 rfl rfl rfl rfl rfl ?_
    refine AW_ret ?_
    exact ⟨rn [(9, 102), (0, 103)], ⟨⟨⟨_, rfl, VLe.rf⟩, ⟨_, rfl, by first | (refine vle_int ?_; rw [hno]; done) | exact VLe.rf | (refine vle_int ?_; rw [hno]; apply Eq.symm; assumption) | exact vle_int (by rw [hno])⟩, trivial⟩, ⟨⟨_, rfl, by first | (refine ble_eq ?_; rw [hno]; done) | (refine ble_eq ?_; rw [hno]; rfl) | exact BLe.rf⟩, ⟨_, rfl, by first | (refine BLe.arr ?_; rw [hno]; done) | (refine BLe.arr ?_; rw [hno]; exact filtTo_all (by omega)) | (refine BLe.arr ?_; rw [hno]; rfl) | exact BLe.rf⟩, trivial⟩, trivial, rfl⟩⟩
  try simp only [tdy] at h22
  have hno := relDrop_ok (fits_ok h9 h13 h22)
  refine AW_condF rfl ?_
  refine AW_skip ?_
  refine AW_seq ?_
  refine AW_region ?_
  refine AL_p (x_field (off := 0) (o' := 0) rfl rfl rfl (by kernel_rfl) rfl) ?_
  refine AL_p (x_load1 rfl rfl rfl (by kernel_rfl) rfl) ?_
  refine AL_p (x_build (zs := [.int .i64 0, .slice none 0 0]) (places := [(0, 1), (1, 1)]) rfl (by kernel_rfl) rfl rfl rfl rfl rfl) ?_
  refine AL_p (x_alloc (z := .agg #[.int .i64 0, .slice none 0 0]) 104 rfl (by kernel_rfl) rfl rfl rfl rfl) ?_
  refine AL_p (x_store (n := 2) rfl rfl rfl rfl (by kernel_rfl) rfl rfl rfl) ?_
  refine AL_nil ?_
  refine AW_seq ?_
  refine AW_seq ?_
  refine AW_region ?_
  refine AL_p (x_field (off := 1) (o' := 1) rfl rfl rfl (by kernel_rfl) rfl) ?_
  refine AL_p (x_load1 rfl rfl rfl (by kernel_rfl) rfl) ?_
  refine AL_p (x_len (E := 72) (n := 1) rfl rfl (by kernel_rfl)) ?_
  refine AL_p (x_move rfl rfl) ?_
  refine AL_nil ?_
  refine AW_block ?_
  refine AW_adopt (T := 72) (e := rowE) 105 104 1 rfl rfl rfl rfl rfl ?_
  refine AW_loop2 (ι := {q : Nat // q ≤ r.rows.length}) (fun p => [(31, .one (.c (.int .i64 ((p.1) : Int))))]) (fun p => [(105, some (.arr 72 rowE (filtTo (fun x => !sameRow x row) r.rows (p.1)) true))]) [2, 3, 4, 6, 30] [100, 101, 102, 104] (fun p => r.rows.length - (p.1)) ⟨0, by omega⟩ (rn []) ?_ ?_
  exact ⟨by (repeat refine ⟨⟨_, rfl, by first | exact VLe.rf | exact vle_int (by dsimp only; omega)⟩, ?_⟩); exact trivial, by (repeat refine ⟨⟨_, rfl, by first | exact BLe.rf | exact BLe.box AllC.rf | exact BLe.arr (by first | exact filtTo_zero | exact filtTo_yes (by omega) (by simp [h40]) | exact filtTo_no (by omega) (by simp [h40]))⟩, ?_⟩); exact trivial, by repeat (first | exact trivial | refine ⟨⟨rfl, by first | (left; intro h; cases h) | (right; rfl), by first | exact (fun _ h => ⟨_, h⟩) | exact (fun _ _ => ⟨_, rfl⟩)⟩, ?_⟩), rfl⟩
  rintro ⟨k, hinv⟩
  dsimp only
  have hl := hr.1
  refine AW_seq ?_
  refine AW_region ?_
  refine AL_b (x_lss rfl rfl rfl) (fun b32 h32 => ?_)
  refine AL_nil ?_
  refine AW_seq ?_
  cases b32
  · try simp only [tdy] at h32
    refine AW_condF rfl ?_
    refine AW_exit (BQ_hit ?_)
    refine AW_seq ?_
    refine AW_region ?_
    refine AL_p (x_loadN (n := 2) rfl rfl rfl (by kernel_rfl) rfl rfl) ?_
    refine AL_p (x_store (n := 2) rfl rfl rfl rfl (by kernel_rfl) rfl rfl rfl) ?_
    refine AL_p (x_assign rfl rfl) ?_
    refine AL_nil ?_
    refine AW_ret ?_
    exact ⟨rn [(9, 102), (0, 105)], ⟨⟨⟨_, rfl, VLe.rf⟩, ⟨_, rfl, by first | (refine vle_int ?_; rw [hno]; done) | exact VLe.rf | (refine vle_int ?_; rw [hno]; apply Eq.symm; assumption) | exact vle_int (by rw [hno])⟩, trivial⟩, ⟨⟨_, rfl, by first | (refine ble_eq ?_; rw [hno]; done) | (refine ble_eq ?_; rw [hno]; rfl) | exact BLe.rf⟩, ⟨_, rfl, by first | (refine BLe.arr ?_; rw [hno]; done) | (refine BLe.arr ?_; rw [hno]; exact filtTo_all (by omega)) | (refine BLe.arr ?_; rw [hno]; rfl) | exact BLe.rf⟩, trivial⟩, trivial, rfl⟩⟩
  try simp only [tdy] at h32
  refine AW_condT rfl ?_
  refine AW_skip ?_
  refine AW_seq ?_
  refine AW_block ?_
  refine AW_seq ?_
  refine AW_region ?_
  refine AL_p (x_move rfl rfl) ?_
  refine AL_p (x_assign rfl rfl) ?_
  refine AL_nil ?_
  refine AW_seq ?_
  refine AW_draw rfl ?_
  refine AL_p (x_field (off := 1) (o' := 1) rfl rfl rfl (by kernel_rfl) rfl) ?_
  refine AL_p (x_load1 rfl rfl rfl (by kernel_rfl) rfl) ?_
  refine AL_p (x_move rfl rfl) ?_
  refine AL_p (x_index (E := 72) (n := 1) rfl rfl rfl (by kernel_rfl) rfl (k := k) (by omega) (by omega)) ?_
  refine AL_p (x_eloadW (n := 1) rfl rfl (by kernel_rfl) rfl) ?_
  refine AL_p (x_loadN (n := 1) rfl rfl rfl (by kernel_rfl) rfl rfl) ?_
  refine AL_b (x_call0 rfl rfl rfl (sameRowS_c _ _ (hr.2 _ (List.getElem_mem _)).1) rfl rfl) (fun b40 h40 => ?_)
  refine AL_p (x_not rfl rfl) ?_
  refine AL_nild (by kernel_rfl) ?_
  cases b40
  rotate_left
  · try simp only [tdy] at h40
    refine AW_condF rfl ?_
    refine AW_skip ?_
    refine AW_region ?_
    refine AL_p (x_add rfl rfl rfl (IntWalk.i64_in _ (by omega))) ?_
    refine AL_p (x_move rfl rfl) ?_
    refine AL_nil ?_
    refine ⟨⟨k + 1, by omega⟩, rn [], ?_, by dsimp only; omega⟩
    exact ⟨by (repeat refine ⟨⟨_, rfl, by first | exact VLe.rf | exact vle_int (by dsimp only; omega)⟩, ?_⟩); exact trivial, by (repeat refine ⟨⟨_, rfl, by first | exact BLe.rf | exact BLe.box AllC.rf | exact BLe.arr (by first | exact filtTo_zero | exact filtTo_yes (by omega) (by simp [h40]) | exact filtTo_no (by omega) (by simp [h40]))⟩, ?_⟩); exact trivial, by repeat (first | exact trivial | refine ⟨⟨rfl, by first | (left; intro h; cases h) | (right; rfl), by first | exact (fun _ h => ⟨_, h⟩) | exact (fun _ _ => ⟨_, rfl⟩)⟩, ?_⟩), rfl⟩
  try simp only [tdy] at h40
  refine AW_condT rfl ?_
  refine AW_draw rfl ?_
  refine AL_p (x_field (off := 1) (o' := 1) rfl rfl rfl (by kernel_rfl) rfl) ?_
  refine AL_p (x_load1 rfl rfl rfl (by kernel_rfl) rfl) ?_
  refine AL_p (x_field (off := 1) (o' := 1) rfl rfl rfl (by kernel_rfl) rfl) ?_
  refine AL_p (x_load1 rfl rfl rfl (by kernel_rfl) rfl) ?_
  refine AL_p (x_move rfl rfl) ?_
  refine AL_p (x_index (E := 72) (n := 1) rfl rfl rfl (by kernel_rfl) rfl (k := k) (by omega) (by omega)) ?_
  refine AL_p (x_eloadW (n := 1) rfl rfl (by kernel_rfl) rfl) ?_
  refine AL_p (x_call1 rfl rfl rfl (rowS_c (r.rows[k]'(by omega)) (hr.2 _ (List.getElem_mem _)).1 106) rfl rfl rfl rfl) ?_
  refine AL_p (y_bslice (E := 72) (e := rowE) [.tmp 49] ([(r.rows[k]'(by omega))]) 107 rfl rfl rfl rfl rfl rfl rfl rfl FitL.rf rfl rfl rfl rfl rfl rfl (by kernel_rfl)) ?_
  refine AL_p (y_append 108 rfl rfl rfl rfl rfl rfl rfl rfl (by kernel_rfl) (by have := filtTo_len (p := (fun x => !sameRow x row)) (rows := r.rows) (k := k); have := hr.1; simp only [List.length_cons, List.length_nil]; omega)) ?_
  refine AL_p (x_field (off := 1) (o' := 1) rfl rfl rfl (by kernel_rfl) rfl) ?_
  refine AL_p (x_store (n := 1) rfl rfl rfl rfl (by kernel_rfl) rfl rfl rfl) ?_
  refine AL_nild (by kernel_rfl) ?_
  refine AW_region ?_
  refine AL_p (x_add rfl rfl rfl (IntWalk.i64_in _ (by omega))) ?_
  refine AL_p (x_move rfl rfl) ?_
  refine AL_nil ?_
  refine ⟨⟨k + 1, by omega⟩, rn [(105, 108)], ?_, by dsimp only; omega⟩
  exact ⟨by (repeat refine ⟨⟨_, rfl, by first | exact VLe.rf | exact vle_int (by dsimp only; omega)⟩, ?_⟩); exact trivial, by (repeat refine ⟨⟨_, rfl, by first | exact BLe.rf | exact BLe.box AllC.rf | exact BLe.arr (by first | exact filtTo_zero | exact filtTo_yes (by omega) (by simp [h40]) | exact filtTo_no (by omega) (by simp [h40]))⟩, ?_⟩); exact trivial, by repeat (first | exact trivial | refine ⟨⟨rfl, by first | (left; intro h; cases h) | (right; rfl), by first | exact (fun _ h => ⟨_, h⟩) | exact (fun _ _ => ⟨_, rfl⟩)⟩, ?_⟩), rfl⟩
theorem relDropS_c (r : Relt) (row : List Val) (hr : smallRel r) (hw : smallRow row) (k : Nat) : AC Tryz.prog 107 [.agg (relC r), .agg (rowC row)] [] (.tup [.agg [.c (.int .i64 (relDrop r row).1.arity), .own k], .one (.c (.int .i64 (relDrop r row).2))]) [(k, some (.arr 72 rowE (relDrop r row).1.rows true))] := AC.at (relDropS_c0 r row hr hw) k

set_option maxHeartbeats 4000000 in
theorem putS_c (rows : List (List Val)) (row : List Val) (hl : rows.length ≤ 1048575) (hm : ∀ r ∈ rows, r.length ≤ 1048576) (hr : row.length ≤ 1048576) (hs : Sorted rows) (hv : ∀ v ∈ row, valOk v = true) : AC Tryz.prog 34 [.one (.sl rowE rows), .agg (rowC row)] [] (.one (.sl rowE (putRow rows row))) [] := by
  refine AC_body1 Tryz.func34 rfl rfl Tryz.ntmps34 rfl Tryz.results34 ?_
  refine AW_seq ?_
  refine AW_region ?_
  refine AL_p (x_box 100 rfl rfl rfl rfl rfl rfl rfl) ?_
  refine AL_p (x_assign rfl rfl) ?_
  refine AL_nil ?_
  refine AW_seq ?_
  refine AW_seq ?_
  refine AW_region ?_
  refine AL_p (x_move rfl rfl) ?_
  refine AL_p (x_loadN (n := 1) rfl rfl rfl (by kernel_rfl) rfl rfl) ?_
  refine AL_b (x_call0 rfl rfl rfl (hasS_c _ _ (by omega) hm) rfl rfl) (fun b10 h10 => ?_)
  refine AL_nil ?_
  cases b10
  rotate_left
  · try simp only [tdy] at h10
    have hno := putRow_has h10
    refine AW_condT rfl ?_
    refine AW_seq ?_
    refine AW_region ?_
    refine AL_p (x_move rfl rfl) ?_
    refine AL_p (x_assign rfl rfl) ?_
    refine AL_nil ?_
    refine AW_ret ?_
    exact ⟨rn [], ⟨⟨_, rfl, by first | (refine vle_sl ?_; rw [hno]; done) | (refine vle_sl ?_; rw [hno]; first | exact putTo_done (by omega) (by omega) (by omega) | exact putTo_end (by omega) (by omega) (by omega))⟩, trivial⟩, trivial, trivial, rfl⟩
  try simp only [tdy] at h10
  have hno := putRow_no h10
  refine AW_condF rfl ?_
  refine AW_skip ?_
  refine AW_seq ?_
  refine AW_region ?_
  refine AL_p (y_bslice0 (E := 72) (e := rowE) 101 rfl rfl rfl (by kernel_rfl)) ?_
  refine AL_p (x_assign rfl rfl) ?_
  refine AL_nil ?_
  refine AW_seq ?_
  refine AW_region ?_
  refine AL_p (x_assign rfl rfl) ?_
  refine AL_nil ?_
  refine AW_seq ?_
  refine AW_seq ?_
  refine AW_region ?_
  refine AL_p (x_move rfl rfl) ?_
  refine AL_p (x_len (E := 72) (n := 1) rfl rfl (by kernel_rfl)) ?_
  refine AL_p (x_move rfl rfl) ?_
  refine AL_nil ?_
  refine AW_block ?_
  refine AW_shallow 101 rfl ?_
  refine AW_loop2 (ι := {q : Nat × Bool // (q.1) ≤ rows.length ∧ decide (pos rows row < (q.1)) = (q.2)}) (fun p => [(5, .one (.own 101)), (6, .one (.c (.bool (p.1.2)))), (15, .one (.c (.int .i64 ((p.1.1) : Int))))]) (fun p => [(101, some (.arr 72 rowE (putTo rows row (p.1.1)) false))]) [0, 3, 14] [100] (fun p => rows.length - (p.1.1)) ⟨⟨0, false⟩, ⟨by omega, by simp⟩⟩ (rn []) ?_ ?_
  exact ⟨by (repeat refine ⟨⟨_, rfl, by first | exact VLe.rf | exact vle_int (by dsimp only; omega)⟩, ?_⟩); exact trivial, by (repeat refine ⟨⟨_, rfl, by first | exact BLe.rf | exact BLe.box AllC.rf | exact BLe.arr (by first | exact putTo_zero | exact putTo_behind (by omega) (by omega) | exact putTo_here (by omega) (by omega) | exact putTo_before (by omega) (by omega))⟩, ?_⟩); exact trivial, by repeat (first | exact trivial | refine ⟨⟨rfl, by first | (left; intro h; cases h) | (right; rfl), by first | exact (fun _ h => ⟨_, h⟩) | exact (fun _ _ => ⟨_, rfl⟩)⟩, ?_⟩), rfl⟩
  rintro ⟨⟨k, b900⟩, hinv⟩
  dsimp only
  obtain ⟨hk, h900⟩ := hinv
  have hk : k ≤ rows.length := hk
  refine AW_seq ?_
  refine AW_region ?_
  refine AL_b (x_lss rfl rfl rfl) (fun b16 h16 => ?_)
  refine AL_nil ?_
  refine AW_seq ?_
  cases b16
  · try simp only [tdy] at h16
    refine AW_condF rfl ?_
    refine AW_exit (BQ_hit ?_)
    refine AW_seq ?_
    refine AW_seq ?_
    refine AW_region ?_
    refine AL_p (x_move rfl rfl) ?_
    refine AL_p (x_not rfl rfl) ?_
    refine AL_nil ?_
    cases b900
    rotate_left
    · try simp only [tdy] at h900
      refine AW_condF rfl ?_
      refine AW_skip ?_
      refine AW_seq ?_
      refine AW_region ?_
      refine AL_p (x_move rfl rfl) ?_
      refine AL_p (x_assign rfl rfl) ?_
      refine AL_nil ?_
      refine AW_shut 101 4 rfl rfl ?_
      refine AW_ret ?_
      exact ⟨rn [], ⟨⟨_, rfl, by first | (refine vle_sl ?_; rw [hno]; done) | (refine vle_sl ?_; rw [hno]; first | exact putTo_done (by omega) (by omega) (by omega) | exact putTo_end (by omega) (by omega) (by omega))⟩, trivial⟩, trivial, trivial, rfl⟩
    try simp only [tdy] at h900
    refine AW_condT rfl ?_
    refine AW_region ?_
    refine AL_p (x_move rfl rfl) ?_
    refine AL_p (x_loadN (n := 1) rfl rfl rfl (by kernel_rfl) rfl rfl) ?_
    refine AL_p (x_call1 rfl rfl rfl (rowS_c row hr 107) rfl rfl rfl rfl) ?_
    refine AL_p (y_bslice (E := 72) (e := rowE) [.tmp 46] ([row]) 108 rfl rfl rfl rfl rfl rfl rfl rfl FitL.rf rfl rfl rfl rfl rfl rfl (by kernel_rfl)) ?_
    refine AL_p (y_append 109 rfl rfl rfl rfl rfl rfl rfl rfl (by kernel_rfl) (by have := putTo_len (rows := rows) (row := row) (k := k) (by omega); simp only [List.length_append, List.length_cons, List.length_nil]; omega)) ?_
    refine AL_p (x_assign rfl rfl) ?_
    refine AL_nil ?_
    refine AW_seq ?_
    refine AW_region ?_
    refine AL_p (x_move rfl rfl) ?_
    refine AL_p (x_assign rfl rfl) ?_
    refine AL_nil ?_
    refine AW_shut 109 4 rfl rfl ?_
    refine AW_ret ?_
    exact ⟨rn [], ⟨⟨_, rfl, by first | (refine vle_sl ?_; rw [hno]; done) | (refine vle_sl ?_; rw [hno]; first | exact putTo_done (by omega) (by omega) (by omega) | exact putTo_end (by omega) (by omega) (by omega))⟩, trivial⟩, trivial, trivial, rfl⟩
  try simp only [tdy] at h16
  refine AW_condT rfl ?_
  refine AW_skip ?_
  refine AW_seq ?_
  refine AW_block ?_
  refine AW_seq ?_
  refine AW_region ?_
  refine AL_p (x_move rfl rfl) ?_
  refine AL_p (x_assign rfl rfl) ?_
  refine AL_nil ?_
  refine AW_seq ?_
  refine AW_seq ?_
  refine AW_draw rfl ?_
  refine AL_p (x_move rfl rfl) ?_
  refine AL_p (x_not rfl rfl) ?_
  refine AL_p (x_move rfl rfl) ?_
  cases b900
  rotate_left
  · try simp only [tdy] at h900
    refine AL_o rfl rfl rfl rfl ?_
    refine AL_o rfl rfl rfl rfl ?_
    refine AL_o rfl rfl rfl rfl ?_
    refine AL_o rfl rfl rfl rfl ?_
    refine AL_o rfl rfl rfl rfl ?_
    refine AL_o rfl rfl rfl rfl ?_
    refine AL_o rfl rfl rfl rfl ?_
    refine AL_p (x_pickF rfl rfl rfl) ?_
    refine AL_nild (by kernel_rfl) ?_
    refine AW_condF rfl ?_
    refine AW_skip ?_
    refine AW_region ?_
    refine AL_p (x_move rfl rfl) ?_
    refine AL_p (x_move rfl rfl) ?_
    refine AL_p (x_move rfl rfl) ?_
    refine AL_p (x_index (E := 72) (n := 1) rfl rfl rfl (by kernel_rfl) rfl (k := k) (by omega) (by omega)) ?_
    refine AL_p (x_eloadW (n := 1) rfl rfl (by kernel_rfl) rfl) ?_
    refine AL_p (y_bslice (E := 72) (e := rowE) [.tmp 38] ([(rows[k]'(by omega))]) 102 rfl rfl rfl rfl rfl rfl rfl rfl FitL.rf rfl rfl rfl rfl rfl rfl (by kernel_rfl)) ?_
    refine AL_p (y_append 103 rfl rfl rfl rfl rfl rfl rfl rfl (by kernel_rfl) (by have := putTo_len (rows := rows) (row := row) (k := k) (by omega); simp only [List.length_append, List.length_cons, List.length_nil]; omega)) ?_
    refine AL_p (x_assign rfl rfl) ?_
    refine AL_nil ?_
    refine AW_region ?_
    refine AL_p (x_add rfl rfl rfl (IntWalk.i64_in _ (by omega))) ?_
    refine AL_p (x_move rfl rfl) ?_
    refine AL_nil ?_
    refine ⟨⟨⟨k + 1, true⟩, ⟨by omega, by rw [decide_eq_true_eq]; omega⟩⟩, rn [(101, 103)], ?_, by dsimp only; omega⟩
    exact ⟨by (repeat refine ⟨⟨_, rfl, by first | exact VLe.rf | exact vle_int (by dsimp only; omega)⟩, ?_⟩); exact trivial, by (repeat refine ⟨⟨_, rfl, by first | exact BLe.rf | exact BLe.box AllC.rf | exact BLe.arr (by first | exact putTo_zero | exact putTo_behind (by omega) (by omega) | exact putTo_here (by omega) (by omega) | exact putTo_before (by omega) (by omega))⟩, ?_⟩); exact trivial, by repeat (first | exact trivial | refine ⟨⟨rfl, by first | (left; intro h; cases h) | (right; rfl), by first | exact (fun _ h => ⟨_, h⟩) | exact (fun _ _ => ⟨_, rfl⟩)⟩, ?_⟩), rfl⟩
  try simp only [tdy] at h900
  refine AL_g rfl rfl (x_loadN (n := 1) rfl rfl rfl (by kernel_rfl) rfl rfl) ?_
  refine AL_g rfl rfl (x_move rfl rfl) ?_
  refine AL_g rfl rfl (x_move rfl rfl) ?_
  refine AL_g rfl rfl (x_index (E := 72) (n := 1) rfl rfl rfl (by kernel_rfl) rfl (k := k) (by omega) (by omega)) ?_
  refine AL_g rfl rfl (x_eloadW (n := 1) rfl rfl (by kernel_rfl) rfl) ?_
  refine AL_g rfl rfl (x_call0 rfl rfl rfl (orderS_c _ _) rfl rfl) ?_
  refine AL_gb rfl rfl (x_eql rfl rfl rfl) (fun b27 h27 => ?_)
  refine AL_p (x_pickT rfl rfl rfl) ?_
  refine AL_nild (by kernel_rfl) ?_
  cases b27
  · try simp only [tdy] at h27
    have hp : ¬ k = pos rows row := of_decide_eq_false ((putTo_lt hs hv h10 (k := k) (by omega) (by omega)).symm.trans (by simp [h27]))
    refine AW_condF rfl ?_
    refine AW_skip ?_
    refine AW_region ?_
    refine AL_p (x_move rfl rfl) ?_
    refine AL_p (x_move rfl rfl) ?_
    refine AL_p (x_move rfl rfl) ?_
    refine AL_p (x_index (E := 72) (n := 1) rfl rfl rfl (by kernel_rfl) rfl (k := k) (by omega) (by omega)) ?_
    refine AL_p (x_eloadW (n := 1) rfl rfl (by kernel_rfl) rfl) ?_
    refine AL_p (y_bslice (E := 72) (e := rowE) [.tmp 38] ([(rows[k]'(by omega))]) 102 rfl rfl rfl rfl rfl rfl rfl rfl FitL.rf rfl rfl rfl rfl rfl rfl (by kernel_rfl)) ?_
    refine AL_p (y_append 103 rfl rfl rfl rfl rfl rfl rfl rfl (by kernel_rfl) (by have := putTo_len (rows := rows) (row := row) (k := k) (by omega); simp only [List.length_append, List.length_cons, List.length_nil]; omega)) ?_
    refine AL_p (x_assign rfl rfl) ?_
    refine AL_nil ?_
    refine AW_region ?_
    refine AL_p (x_add rfl rfl rfl (IntWalk.i64_in _ (by omega))) ?_
    refine AL_p (x_move rfl rfl) ?_
    refine AL_nil ?_
    refine ⟨⟨⟨k + 1, false⟩, ⟨by omega, by rw [decide_eq_false_iff_not]; omega⟩⟩, rn [(101, 103)], ?_, by dsimp only; omega⟩
    exact ⟨by (repeat refine ⟨⟨_, rfl, by first | exact VLe.rf | exact vle_int (by dsimp only; omega)⟩, ?_⟩); exact trivial, by (repeat refine ⟨⟨_, rfl, by first | exact BLe.rf | exact BLe.box AllC.rf | exact BLe.arr (by first | exact putTo_zero | exact putTo_behind (by omega) (by omega) | exact putTo_here (by omega) (by omega) | exact putTo_before (by omega) (by omega))⟩, ?_⟩); exact trivial, by repeat (first | exact trivial | refine ⟨⟨rfl, by first | (left; intro h; cases h) | (right; rfl), by first | exact (fun _ h => ⟨_, h⟩) | exact (fun _ _ => ⟨_, rfl⟩)⟩, ?_⟩), rfl⟩
  try simp only [tdy] at h27
  have hp : k = pos rows row := of_decide_eq_true ((putTo_lt hs hv h10 (k := k) (by omega) (by omega)).symm.trans (by simp [h27]))
  refine AW_condT rfl ?_
  refine AW_seq ?_
  refine AW_region ?_
  refine AL_p (x_move rfl rfl) ?_
  refine AL_p (x_loadN (n := 1) rfl rfl rfl (by kernel_rfl) rfl rfl) ?_
  refine AL_p (x_call1 rfl rfl rfl (rowS_c row hr 104) rfl rfl rfl rfl) ?_
  refine AL_p (y_bslice (E := 72) (e := rowE) [.tmp 31] ([row]) 105 rfl rfl rfl rfl rfl rfl rfl rfl FitL.rf rfl rfl rfl rfl rfl rfl (by kernel_rfl)) ?_
  refine AL_p (y_append 106 rfl rfl rfl rfl rfl rfl rfl rfl (by kernel_rfl) (by have := putTo_len (rows := rows) (row := row) (k := k) (by omega); simp only [List.length_append, List.length_cons, List.length_nil]; omega)) ?_
  refine AL_p (x_assign rfl rfl) ?_
  refine AL_nil ?_
  refine AW_region ?_
  refine AL_p (x_assign rfl rfl) ?_
  refine AL_nil ?_
  refine AW_region ?_
  refine AL_p (x_move rfl rfl) ?_
  refine AL_p (x_move rfl rfl) ?_
  refine AL_p (x_move rfl rfl) ?_
  refine AL_p (x_index (E := 72) (n := 1) rfl rfl rfl (by kernel_rfl) rfl (k := k) (by omega) (by omega)) ?_
  refine AL_p (x_eloadW (n := 1) rfl rfl (by kernel_rfl) rfl) ?_
  refine AL_p (y_bslice (E := 72) (e := rowE) [.tmp 38] ([(rows[k]'(by omega))]) 102 rfl rfl rfl rfl rfl rfl rfl rfl FitL.rf rfl rfl rfl rfl rfl rfl (by kernel_rfl)) ?_
  refine AL_p (y_append 103 rfl rfl rfl rfl rfl rfl rfl rfl (by kernel_rfl) (by have := putTo_len (rows := rows) (row := row) (k := k) (by omega); simp only [List.length_append, List.length_cons, List.length_nil]; omega)) ?_
  refine AL_p (x_assign rfl rfl) ?_
  refine AL_nil ?_
  refine AW_region ?_
  refine AL_p (x_add rfl rfl rfl (IntWalk.i64_in _ (by omega))) ?_
  refine AL_p (x_move rfl rfl) ?_
  refine AL_nil ?_
  refine ⟨⟨⟨k + 1, true⟩, ⟨by omega, by rw [decide_eq_true_eq]; omega⟩⟩, rn [(101, 103)], ?_, by dsimp only; omega⟩
  exact ⟨by (repeat refine ⟨⟨_, rfl, by first | exact VLe.rf | exact vle_int (by dsimp only; omega)⟩, ?_⟩); exact trivial, by (repeat refine ⟨⟨_, rfl, by first | exact BLe.rf | exact BLe.box AllC.rf | exact BLe.arr (by first | exact putTo_zero | exact putTo_behind (by omega) (by omega) | exact putTo_here (by omega) (by omega) | exact putTo_before (by omega) (by omega))⟩, ?_⟩); exact trivial, by repeat (first | exact trivial | refine ⟨⟨rfl, by first | (left; intro h; cases h) | (right; rfl), by first | exact (fun _ h => ⟨_, h⟩) | exact (fun _ _ => ⟨_, rfl⟩)⟩, ?_⟩), rfl⟩

set_option maxHeartbeats 4000000 in
theorem relAddS_c (r : Relt) (row : List Val) (hr : smallRel r) (hw : smallRow row) : AC Tryz.prog 108 [.agg (relC r), .agg (rowC row)] [] (.tup [.agg [.c (.int .i64 (relAdd r row).1.arity), .sl rowE (relAdd r row).1.rows], .one (.c (.int .i64 (relAdd r row).2))]) [] := by
  refine AC_bodyCT (n := 2) (k := 9) (T := [(4, .one (.ptr 9 0)), (5, .one (.c (.int .i64 (relAdd r row).2)))]) (Lf := ((9, some (.box [.c (.int .i64 (relAdd r row).1.arity), .sl rowE (relAdd r row).1.rows])) :: [])) Tryz.func108 rfl rfl Tryz.ntmps108 rfl Tryz.results108 rfl rfl rfl rfl (by kernel_rfl) rfl rfl ⟨trivial, (by repeat (first | exact trivial | refine ⟨⟨_, rfl, BLe.rf⟩, ?_⟩)), (by repeat (first | exact trivial | refine ⟨⟨rfl, by first | (left; intro h; cases h) | (right; rfl), by first | exact (fun _ h => ⟨_, h⟩) | exact (fun _ _ => ⟨_, rfl⟩)⟩, ?_⟩)), rfl⟩ ?_
  refine AW_aggmax 1 0 rfl rfl (fun hm1_0 => ?_)
  refine AW_seq ?_
  refine AW_region ?_
  refine AL_p (x_box 100 rfl rfl rfl rfl rfl rfl rfl) ?_
  refine AL_p (x_box 101 rfl rfl rfl rfl rfl rfl rfl) ?_
  refine AL_p (x_alloc (z := .agg #[.int .i64 0, .slice none 0 0]) 102 rfl (by kernel_rfl) rfl rfl rfl rfl) ?_
  refine AL_p (x_assign rfl rfl) ?_
  refine AL_nil ?_
  refine AW_seq ?_
  refine AW_seq ?_
  refine AW_region ?_
  refine AL_p (x_loadN (n := 2) rfl rfl rfl (by kernel_rfl) rfl rfl) ?_
  refine AL_b (x_call0 rfl rfl rfl (relOkS_c _ hr.1) rfl rfl) (fun b8 h8 => ?_)
  refine AL_p (x_not rfl rfl) ?_
  refine AL_p (x_move rfl rfl) ?_
  cases b8
  · try simp only [tdy] at h8
    have hno := relAdd_no (row := row) (fits_r h8)
    refine AL_o rfl rfl rfl rfl ?_
    refine AL_o rfl rfl rfl rfl ?_
    refine AL_o rfl rfl rfl rfl ?_
    refine AL_p (x_pickT rfl rfl rfl) ?_
    refine AL_p (x_move rfl rfl) ?_
    refine AL_o rfl rfl rfl rfl ?_
    refine AL_o rfl rfl rfl rfl ?_
    refine AL_o rfl rfl rfl rfl ?_
    refine AL_o rfl rfl rfl rfl ?_
    refine AL_o rfl rfl rfl rfl ?_
    refine AL_o rfl rfl rfl rfl ?_
    refine AL_p (x_pickT rfl rfl rfl) ?_
    refine AL_nil ?_
    refine AW_condT rfl ?_
    refine AW_seq ?_
    refine AW_region ?_
    refine AL_p (x_build (zs := [.int .i64 0, .slice none 0 0]) (places := [(0, 1), (1, 1)]) rfl (by kernel_rfl) rfl rfl rfl rfl rfl) ?_
    refine AL_p (x_store (n := 2) rfl rfl rfl rfl (by kernel_rfl) rfl rfl rfl) ?_
    refine AL_p (x_assign rfl rfl) ?_
    refine AL_nil ?_
    refine AW_ret ?_
    exact ⟨rn [(9, 102)], ⟨⟨⟨_, rfl, VLe.rf⟩, ⟨_, rfl, by first | (refine vle_int ?_; rw [hno]; done) | exact VLe.rf⟩, trivial⟩, ⟨⟨_, rfl, by first | (refine ble_eq ?_; rw [hno]; done) | (refine ble_eq ?_; rw [hno]; rfl) | (refine BLe.box ?_; rw [hno]; exact ⟨CLe.rf, CLe.nil, trivial⟩)⟩, trivial⟩, trivial, rfl⟩⟩
  try simp only [tdy] at h8
  refine AL_g rfl rfl (x_loadN (n := 1) rfl rfl rfl (by kernel_rfl) rfl rfl) ?_
  refine AL_gb rfl rfl (x_call0 rfl rfl rfl (rowOkS_c _) rfl rfl) (fun b12 h12 => ?_)
  refine AL_g rfl rfl (x_not rfl rfl) ?_
  refine AL_p (x_pickF rfl rfl rfl) ?_
  refine AL_p (x_move rfl rfl) ?_
  cases b12
  · try simp only [tdy] at h12
    have hno := relAdd_no (r := r) (fits_row h12)
    refine AL_o rfl rfl rfl rfl ?_
    refine AL_o rfl rfl rfl rfl ?_
    refine AL_o rfl rfl rfl rfl ?_
    refine AL_o rfl rfl rfl rfl ?_
    refine AL_o rfl rfl rfl rfl ?_
    refine AL_o rfl rfl rfl rfl ?_
    refine AL_p (x_pickT rfl rfl rfl) ?_
    refine AL_nil ?_
    refine AW_condT rfl ?_
    refine AW_seq ?_
    refine AW_region ?_
    refine AL_p (x_build (zs := [.int .i64 0, .slice none 0 0]) (places := [(0, 1), (1, 1)]) rfl (by kernel_rfl) rfl rfl rfl rfl rfl) ?_
    refine AL_p (x_store (n := 2) rfl rfl rfl rfl (by kernel_rfl) rfl rfl rfl) ?_
    refine AL_p (x_assign rfl rfl) ?_
    refine AL_nil ?_
    refine AW_ret ?_
    exact ⟨rn [(9, 102)], ⟨⟨⟨_, rfl, VLe.rf⟩, ⟨_, rfl, by first | (refine vle_int ?_; rw [hno]; done) | exact VLe.rf⟩, trivial⟩, ⟨⟨_, rfl, by first | (refine ble_eq ?_; rw [hno]; done) | (refine ble_eq ?_; rw [hno]; rfl) | (refine BLe.box ?_; rw [hno]; exact ⟨CLe.rf, CLe.nil, trivial⟩)⟩, trivial⟩, trivial, rfl⟩⟩
  try simp only [tdy] at h12
  refine AL_g rfl rfl (x_field (off := 0) (o' := 0) rfl rfl rfl (by kernel_rfl) rfl) ?_
  refine AL_g rfl rfl (x_load1 rfl rfl rfl (by kernel_rfl) rfl) ?_
  refine AL_g rfl rfl (x_len (E := 147) (n := 2) rfl rfl (by kernel_rfl)) ?_
  refine AL_g rfl rfl (x_field (off := 0) (o' := 0) rfl rfl rfl (by kernel_rfl) rfl) ?_
  refine AL_g rfl rfl (x_load1 rfl rfl rfl (by kernel_rfl) rfl) ?_
  refine AL_gb rfl rfl (x_neq rfl rfl rfl) (fun b21 h21 => ?_)
  refine AL_p (x_pickF rfl rfl rfl) ?_
  refine AL_nil ?_
  cases b21
  rotate_left
  · try simp only [tdy] at h21
    have hno := relAdd_no (fits_len h21)
    refine AW_condT rfl ?_
    refine AW_seq ?_
    refine AW_region ?_
    refine AL_p (x_build (zs := [.int .i64 0, .slice none 0 0]) (places := [(0, 1), (1, 1)]) rfl (by kernel_rfl) rfl rfl rfl rfl rfl) ?_
    refine AL_p (x_store (n := 2) rfl rfl rfl rfl (by kernel_rfl) rfl rfl rfl) ?_
    refine AL_p (x_assign rfl rfl) ?_
    refine AL_nil ?_
    refine AW_ret ?_
    exact ⟨rn [(9, 102)], ⟨⟨⟨_, rfl, VLe.rf⟩, ⟨_, rfl, by first | (refine vle_int ?_; rw [hno]; done) | exact VLe.rf⟩, trivial⟩, ⟨⟨_, rfl, by first | (refine ble_eq ?_; rw [hno]; done) | (refine ble_eq ?_; rw [hno]; rfl) | (refine BLe.box ?_; rw [hno]; exact ⟨CLe.rf, CLe.nil, trivial⟩)⟩, trivial⟩, trivial, rfl⟩⟩
  try simp only [tdy] at h21
  have hf := fits_ok h8 h12 h21
  obtain ⟨hs, hrv, h300⟩ := fits_sorted hf
  refine AW_condF rfl ?_
  refine AW_skip ?_
  refine AW_seq ?_
  refine AW_region ?_
  refine AL_p (x_loadN (n := 2) rfl rfl rfl (by kernel_rfl) rfl rfl) ?_
  refine AL_p (x_call1 rfl rfl rfl (copyS_c r hr 103) rfl rfl rfl rfl) ?_
  refine AL_p (x_alloc (z := .agg #[.int .i64 0, .slice none 0 0]) 104 rfl (by kernel_rfl) rfl rfl rfl rfl) ?_
  refine AL_p (x_store (n := 2) rfl rfl rfl rfl (by kernel_rfl) rfl rfl rfl) ?_
  refine AL_nil ?_
  refine AW_seq ?_
  refine AW_shutB 103 104 1 rfl rfl rfl rfl ?_
  refine AW_region ?_
  refine AL_p (x_field (off := 1) (o' := 1) rfl rfl rfl (by kernel_rfl) rfl) ?_
  refine AL_p (x_load1 rfl rfl rfl (by kernel_rfl) rfl) ?_
  refine AL_p (x_loadN (n := 1) rfl rfl rfl (by kernel_rfl) rfl rfl) ?_
  refine AL_p (x_call0 rfl rfl rfl (putS_c r.rows row (by omega) (fun x hx => (hr.2 x hx).1) hw.1 hs hrv) rfl rfl) ?_
  refine AL_p (x_field (off := 1) (o' := 1) rfl rfl rfl (by kernel_rfl) rfl) ?_
  refine AL_p (x_store (n := 1) rfl rfl rfl rfl (by kernel_rfl) rfl rfl rfl) ?_
  refine AL_nil ?_
  refine AW_seq ?_
  refine AW_seq ?_
  refine AW_region ?_
  refine AL_p (x_field (off := 1) (o' := 1) rfl rfl rfl (by kernel_rfl) rfl) ?_
  refine AL_p (x_load1 rfl rfl rfl (by kernel_rfl) rfl) ?_
  refine AL_p (x_len (E := 72) (n := 1) rfl rfl (by kernel_rfl)) ?_
  refine AL_b (x_gtr rfl rfl rfl) (fun b34 h34 => ?_)
  refine AL_nil ?_
  cases b34
  rotate_left
  · try simp only [tdy] at h34
    have hno := relAdd_big hf h34
    refine AW_condT rfl ?_
    refine AW_seq ?_
    refine AW_region ?_
    refine AL_p (x_build (zs := [.int .i64 0, .slice none 0 0]) (places := [(0, 1), (1, 1)]) rfl (by kernel_rfl) rfl rfl rfl rfl rfl) ?_
    refine AL_p (x_store (n := 2) rfl rfl rfl rfl (by kernel_rfl) rfl rfl rfl) ?_
    refine AL_p (x_assign rfl rfl) ?_
    refine AL_nil ?_
    refine AW_ret ?_
    exact ⟨rn [(9, 102)], ⟨⟨⟨_, rfl, VLe.rf⟩, ⟨_, rfl, by first | (refine vle_int ?_; rw [hno]; done) | exact VLe.rf⟩, trivial⟩, ⟨⟨_, rfl, by first | (refine ble_eq ?_; rw [hno]; done) | (refine ble_eq ?_; rw [hno]; rfl) | (refine BLe.box ?_; rw [hno]; exact ⟨CLe.rf, CLe.nil, trivial⟩)⟩, trivial⟩, trivial, rfl⟩⟩
  try simp only [tdy] at h34
  have hno := relAdd_ok hf (by omega)
  refine AW_condF rfl ?_
  refine AW_skip ?_
  refine AW_seq ?_
  refine AW_region ?_
  refine AL_p (x_loadN (n := 2) rfl rfl rfl (by kernel_rfl) rfl rfl) ?_
  refine AL_p (x_store (n := 2) rfl rfl rfl rfl (by kernel_rfl) rfl rfl rfl) ?_
  refine AL_p (x_assign rfl rfl) ?_
  refine AL_nil ?_
  refine AW_ret ?_
  exact ⟨rn [(9, 102)], ⟨⟨⟨_, rfl, VLe.rf⟩, ⟨_, rfl, by first | (refine vle_int ?_; rw [hno]; done) | exact VLe.rf⟩, trivial⟩, ⟨⟨_, rfl, by first | (refine ble_eq ?_; rw [hno]; done) | (refine ble_eq ?_; rw [hno]; rfl) | (refine BLe.box ?_; rw [hno]; exact ⟨CLe.rf, CLe.nil, trivial⟩)⟩, trivial⟩, trivial, rfl⟩⟩
end Go.Proofs.YtibhoanjglfaoaaGreat

/- Deltas that are drawn (printed by walk.py) -/
namespace Go.Proofs.YtibhoanjglfaoaaGreat
open Go.RowKit
set_option linter.unusedVariables false
set_option linter.unusedSimpArgs false
set_option maxRecDepth 100000

set_option maxHeartbeats 4000000 in
theorem next_c (b : List Int) (c : Cur) (hb : b.length ≤ 1048576) (rels : List Namedt) (hl : rels.length ≤ 1048576) (hn : ∀ y ∈ rels, nxSm y) : AC Tryz.prog 65 [.one (.ptr 200 0), .agg [.sl namedE rels]] [(200, some (curB b c))] (.agg [.sl namedE (dNext b rels c).1]) [(200, some (curB b (dNext b rels c).2))] := by
  have hno : True := trivial
  refine AC_bodyC (n := 1) (k := 9) (T := [(4, .one (.ptr 9 0))]) (Lf := ((9, some (.box [.sl namedE (dNext b rels c).1])) :: [(200, some (curB b (dNext b rels c).2))])) Tryz.func65 rfl rfl Tryz.ntmps65 rfl Tryz.results65 rfl rfl (by kernel_rfl) rfl rfl ⟨trivial, (by repeat (first | exact trivial | refine ⟨⟨_, rfl, BLe.rf⟩, ?_⟩)), (by repeat (first | exact trivial | refine ⟨⟨rfl, by first | (left; intro h; cases h) | (right; rfl), by first | exact (fun _ h => ⟨_, h⟩) | exact (fun _ _ => ⟨_, rfl⟩)⟩, ?_⟩)), rfl⟩ ?_
  refine AW_seq ?_
  refine AW_region ?_
  refine AL_p (x_box 100 rfl rfl rfl rfl rfl rfl rfl) ?_
  refine AL_p (x_alloc (z := .agg #[.slice none 0 0]) 101 rfl (by kernel_rfl) rfl rfl rfl rfl) ?_
  refine AL_nil ?_
  refine AW_seq ?_
  refine AW_region ?_
  refine AL_p (x_loadN (n := 1) rfl rfl rfl (by kernel_rfl) rfl rfl) ?_
  refine AL_p (x_call1 rfl rfl rfl (copySt_c rels hl (fun y hy => (hn y hy).1) 102) rfl rfl rfl rfl) ?_
  refine AL_p (x_alloc (z := .agg #[.slice none 0 0]) 103 rfl (by kernel_rfl) rfl rfl rfl rfl) ?_
  refine AL_p (x_store (n := 1) rfl rfl rfl rfl (by kernel_rfl) rfl rfl rfl) ?_
  refine AL_nil ?_
  refine AW_seq ?_
  refine AW_seq ?_
  refine AW_region ?_
  refine AL_p (x_field (off := 0) (o' := 0) rfl rfl rfl (by kernel_rfl) rfl) ?_
  refine AL_p (x_load1 rfl rfl rfl (by kernel_rfl) rfl) ?_
  refine AL_p (x_olen (E := 84) (n := 3) rfl rfl rfl (by kernel_rfl)) ?_
  refine AL_p (x_move rfl rfl) ?_
  refine AL_nil ?_
  refine AW_block ?_
  refine AW_shallow 102 rfl ?_
  refine AW_loop2 (ι := {q : Nat // q ≤ rels.length}) (fun p => [(16, .one (.c (.int .i64 ((p.1) : Int))))]) (fun p => [(102, some (.arr 84 namedE (nextTo b rels (p.1) c).1 false)), (200, some (curB b (nextTo b rels (p.1) c).2))]) [0, 4, 5, 15] [100, 101, 103] (fun p => rels.length - (p.1)) ⟨0, by omega⟩ (rn []) ?_ ?_
  exact ⟨by (repeat refine ⟨⟨_, rfl, by first | with_reducible exact VLe.rf | exact VLe.rf | exact vle_int (by dsimp only; omega)⟩, ?_⟩); exact trivial, by (repeat refine ⟨⟨_, rfl, by first | with_reducible exact BLe.rf | exact ble_eq (congrArg (fun q => curB b q.2) hs).symm | (refine BLe.arr ?_; first | rfl | exact (congrArg Prod.fst hs).symm) | exact BLe.rf | exact BLe.box AllC.rf⟩, ?_⟩); exact trivial, by repeat (first | exact trivial | refine ⟨⟨rfl, by first | (left; intro h; cases h) | (right; rfl), by first | exact (fun _ h => ⟨_, h⟩) | exact (fun _ _ => ⟨_, rfl⟩)⟩, ?_⟩), rfl⟩
  rintro ⟨k, hinv⟩
  dsimp only
  have hk := hinv
  obtain ⟨hle, hal⟩ := nextTo_sm (b := b) hn k c
  refine AW_seq ?_
  refine AW_region ?_
  refine AL_b (x_lss rfl rfl rfl) (fun b17 h17 => ?_)
  refine AL_nil ?_
  refine AW_seq ?_
  cases b17
  · try simp only [tdy] at h17
    obtain rfl : k = rels.length := by omega
    refine AW_condF rfl ?_
    refine AW_exit (BQ_hit ?_)
    refine AW_seq ?_
    refine AW_region ?_
    refine AL_p (x_loadN (n := 1) rfl rfl rfl (by kernel_rfl) rfl rfl) ?_
    refine AL_p (x_store (n := 1) rfl rfl rfl rfl (by kernel_rfl) rfl rfl rfl) ?_
    refine AL_nil ?_
    refine AW_shutB 102 101 0 rfl rfl rfl rfl ?_
    refine AW_ret ?_
    exact ⟨rn [(9, 101)], ⟨⟨⟨_, rfl, VLe.rf⟩, trivial⟩, ⟨⟨_, rfl, by first | exact BLe.rf | exact ble_eq (by rw [hno]; first | done | rfl)⟩, ⟨_, rfl, by first | exact BLe.rf | exact ble_eq (by rw [hno]; first | done | rfl)⟩, trivial⟩, by repeat (first | exact trivial | refine ⟨⟨rfl, by first | (left; intro h; cases h) | (right; rfl), by first | exact (fun _ h => ⟨_, h⟩) | exact (fun _ _ => ⟨_, rfl⟩)⟩, ?_⟩), rfl⟩⟩
  try simp only [tdy] at h17
  have hx := hal _ (List.getElem_mem (l := (nextTo b rels k c).1) (n := k) (by omega))
  have hE : ((nextTo b rels k c).1.getD k noNamed) = ((nextTo b rels k c).1[k]'(by omega)) := getD_nm (by omega)
  have hsz := hx.1.2.1
  refine AW_condT rfl ?_
  refine AW_skip ?_
  refine AW_seq ?_
  refine AW_block ?_
  refine AW_seq ?_
  refine AW_region ?_
  refine AL_p (x_move rfl rfl) ?_
  refine AL_p (x_assign rfl rfl) ?_
  refine AL_nil ?_
  refine AW_seq ?_
  refine AW_region ?_
  refine AL_p (x_field (off := 0) (o' := 0) rfl rfl rfl (by kernel_rfl) rfl) ?_
  refine AL_p (x_load1 rfl rfl rfl (by kernel_rfl) rfl) ?_
  refine AL_p (x_move rfl rfl) ?_
  refine AL_p (x_oindex (n := 3) rfl rfl rfl rfl (by kernel_rfl) rfl (k := k) rfl (by omega)) ?_
  refine AL_p (x_ofield (off := 1) (o' := 1) rfl rfl rfl (by kernel_rfl) rfl) ?_
  refine AL_p (x_oloadN (n := 2) rfl rfl rfl (by kernel_rfl) (by omega) rfl rfl) ?_
  refine AL_p (x_alloc (z := .agg #[.int .i64 0, .slice none 0 0]) 104 rfl (by kernel_rfl) rfl rfl rfl rfl) ?_
  refine AL_p (x_store (n := 2) rfl rfl rfl rfl (by kernel_rfl) rfl rfl rfl) ?_
  refine AL_nil ?_
  refine AW_seq ?_
  refine AW_region ?_
  refine AL_p (x_move rfl rfl) ?_
  refine AL_p (x_call (ks := []) (L := [(200, some _)]) (L' := [(200, some _)]) rfl rfl rfl (below_c b (nextTo b rels k c).2 hb 4) rfl AllV.rf (caught_of rfl) rfl rfl rfl ⟨rfl, trivial⟩ rfl) ?_
  refine AL_p (x_assign rfl rfl) ?_
  refine AL_nil ?_
  refine AW_seq ?_
  refine AW_seq ?_
  refine AW_region ?_
  refine AL_p (x_move rfl rfl) ?_
  refine AL_b (x_lss rfl rfl rfl) (fun b28 h28 => ?_)
  refine AL_p (x_move rfl rfl) ?_
  cases b28
  · try simp only [tdy] at h28
    have hD : nxDrop b ((nextTo b rels k c).1.getD k noNamed).rel (dBelow b (nextTo b rels k c).2 4).1 (dBelow b (nextTo b rels k c).2 4).2 = (((nextTo b rels k c).1[k]'(by omega)).rel, (dBelow b (nextTo b rels k c).2 4).2) := by rw [hE]; exact if_neg (by omega)
    have hDs : smallRel ((nextTo b rels k c).1[k]'(by omega)).rel ∧ ((nextTo b rels k c).1[k]'(by omega)).rel.arity ≤ 8 := ⟨hx.1.2, hx.2⟩
    refine AL_o rfl rfl rfl rfl ?_
    refine AL_o rfl rfl rfl rfl ?_
    refine AL_o rfl rfl rfl rfl ?_
    refine AL_o rfl rfl rfl rfl ?_
    refine AL_p (x_pickF rfl rfl rfl) ?_
    refine AL_nil ?_
    refine AW_condF rfl ?_
    refine AW_skip ?_
    refine AW_seq ?_
    refine AW_seq ?_
    refine AW_region ?_
    refine AL_p (x_move rfl rfl) ?_
    refine AL_b (x_gtr rfl rfl rfl) (fun b50 h50 => ?_)
    refine AL_nil ?_
    cases b50
    · try simp only [tdy] at h50
      have hA : nxAdd b ((nextTo b rels k c).1[k]'(by omega)).rel (dBelow b (nextTo b rels k c).2 4).1 (dBelow b (nextTo b rels k c).2 4).2 = (((nextTo b rels k c).1[k]'(by omega)).rel, (dBelow b (nextTo b rels k c).2 4).2) := if_neg (by omega)
      have hN : nxRel b ((nextTo b rels k c).1.getD k noNamed).rel (nextTo b rels k c).2 = (((nextTo b rels k c).1[k]'(by omega)).rel, (dBelow b (nextTo b rels k c).2 4).2) := by unfold nxRel; rw [hD]; exact hA
      have hs : (nextTo b rels (k + 1) c) = ((nextTo b rels k c).1.set k ⟨((nextTo b rels k c).1.getD k noNamed).name, ((nextTo b rels k c).1[k]'(by omega)).rel⟩, (dBelow b (nextTo b rels k c).2 4).2) := by show ((nextTo b rels k c).1.set k ⟨((nextTo b rels k c).1.getD k noNamed).name, (nxRel b ((nextTo b rels k c).1.getD k noNamed).rel (nextTo b rels k c).2).1⟩, (nxRel b ((nextTo b rels k c).1.getD k noNamed).rel (nextTo b rels k c).2).2) = _; rw [hN]
      refine AW_condF rfl ?_
      refine AW_skip ?_
      refine AW_region ?_
      refine AL_p (x_field (off := 0) (o' := 0) rfl rfl rfl (by kernel_rfl) rfl) ?_
      refine AL_p (x_load1 rfl rfl rfl (by kernel_rfl) rfl) ?_
      refine AL_p (x_move rfl rfl) ?_
      refine AL_p (x_loadN (n := 2) rfl rfl rfl (by kernel_rfl) rfl rfl) ?_
      refine AL_p (x_oindex (n := 3) rfl rfl rfl rfl (by kernel_rfl) rfl (k := k) rfl (by omega)) ?_
      refine AL_p (x_ofield (off := 1) (o' := 1) rfl rfl rfl (by kernel_rfl) rfl) ?_
      refine AL_p (x_ofstore (⟨((nextTo b rels k c).1.getD k noNamed).name, ((nextTo b rels k c).1[k]'(by omega)).rel⟩ : Namedt) (A := [.c (.string ((nextTo b rels k c).1[k]'(by omega)).name)]) (B := [.c (.int .i64 ((nextTo b rels k c).1[k]'(by omega)).rel.arity), .sl rowE ((nextTo b rels k c).1[k]'(by omega)).rel.rows]) (C := []) rfl rfl rfl rfl (by kernel_rfl) rfl rfl rfl FitL.rf rfl rfl (by omega) rfl rfl rfl (by rw [hE]; rfl)) ?_
      refine AL_nil ?_
      refine AW_region ?_
      refine AL_p (x_add rfl rfl rfl (IntWalk.i64_in _ (by omega))) ?_
      refine AL_p (x_move rfl rfl) ?_
      refine AL_nil ?_
      refine ⟨⟨k + 1, by omega⟩, rn [], ?_, by dsimp only; omega⟩
      exact ⟨by (repeat refine ⟨⟨_, rfl, by first | with_reducible exact VLe.rf | exact VLe.rf | exact vle_int (by dsimp only; omega)⟩, ?_⟩); exact trivial, by (repeat refine ⟨⟨_, rfl, by first | with_reducible exact BLe.rf | exact ble_eq (congrArg (fun q => curB b q.2) hs).symm | (refine BLe.arr ?_; first | rfl | exact (congrArg Prod.fst hs).symm) | exact BLe.rf | exact BLe.box AllC.rf⟩, ?_⟩); exact trivial, by repeat (first | exact trivial | refine ⟨⟨rfl, by first | (left; intro h; cases h) | (right; rfl), by first | exact (fun _ h => ⟨_, h⟩) | exact (fun _ _ => ⟨_, rfl⟩)⟩, ?_⟩), rfl⟩
    try simp only [tdy] at h50
    refine AW_condT rfl ?_
    refine AW_seq ?_
    refine AW_draw rfl ?_
    refine AL_p (x_loadN (n := 2) rfl rfl rfl (by kernel_rfl) rfl rfl) ?_
    refine AL_p (x_move rfl rfl) ?_
    refine AL_p (x_field (off := 0) (o' := 0) rfl rfl rfl (by kernel_rfl) rfl) ?_
    refine AL_p (x_load1 rfl rfl rfl (by kernel_rfl) rfl) ?_
    refine AL_p (x_call (ks := []) (L := [(200, some _)]) (L' := [(200, some _)]) rfl rfl rfl (drawRowF_c b (dBelow b (nextTo b rels k c).2 4).2 ((nextTo b rels k c).1[k]'(by omega)).rel.arity hDs.2 hb) rfl AllV.rf (caught_of rfl) rfl rfl rfl ⟨rfl, trivial⟩ rfl) ?_
    refine AL_p (x_call0 rfl rfl rfl (relAddS_c ((nextTo b rels k c).1[k]'(by omega)).rel (dVals b ((nextTo b rels k c).1[k]'(by omega)).rel.arity.toNat (dBelow b (nextTo b rels k c).2 4).2).1 hDs.1 (dVals_small b _ _ (by have := hDs.2; omega))) rfl rfl) ?_
    refine AL_p (x_move rfl rfl) ?_
    refine AL_p (x_extract rfl rfl rfl) ?_
    refine AL_p (x_extract rfl rfl rfl) ?_
    refine AL_p (x_alloc (z := .agg #[.int .i64 0, .slice none 0 0]) 106 rfl (by kernel_rfl) rfl rfl rfl rfl) ?_
    refine AL_p (x_store (n := 2) rfl rfl rfl rfl (by kernel_rfl) rfl rfl rfl) ?_
    refine AL_p (x_assign rfl rfl) ?_
    refine AL_nild (by kernel_rfl) ?_
    refine AW_seq ?_
    refine AW_region ?_
    refine AL_p (x_move rfl rfl) ?_
    refine AL_b (x_eql rfl rfl rfl) (fun b61 h61 => ?_)
    refine AL_nil ?_
    cases b61
    · try simp only [tdy] at h61
      have hA : nxAdd b ((nextTo b rels k c).1[k]'(by omega)).rel (dBelow b (nextTo b rels k c).2 4).1 (dBelow b (nextTo b rels k c).2 4).2 = (((nextTo b rels k c).1[k]'(by omega)).rel, (dVals b ((nextTo b rels k c).1[k]'(by omega)).rel.arity.toNat (dBelow b (nextTo b rels k c).2 4).2).2) := (if_pos (by omega)).trans (Prod.ext (if_neg (by omega)) rfl)
      have hN : nxRel b ((nextTo b rels k c).1.getD k noNamed).rel (nextTo b rels k c).2 = (((nextTo b rels k c).1[k]'(by omega)).rel, (dVals b ((nextTo b rels k c).1[k]'(by omega)).rel.arity.toNat (dBelow b (nextTo b rels k c).2 4).2).2) := by unfold nxRel; rw [hD]; exact hA
      have hs : (nextTo b rels (k + 1) c) = ((nextTo b rels k c).1.set k ⟨((nextTo b rels k c).1.getD k noNamed).name, ((nextTo b rels k c).1[k]'(by omega)).rel⟩, (dVals b ((nextTo b rels k c).1[k]'(by omega)).rel.arity.toNat (dBelow b (nextTo b rels k c).2 4).2).2) := by show ((nextTo b rels k c).1.set k ⟨((nextTo b rels k c).1.getD k noNamed).name, (nxRel b ((nextTo b rels k c).1.getD k noNamed).rel (nextTo b rels k c).2).1⟩, (nxRel b ((nextTo b rels k c).1.getD k noNamed).rel (nextTo b rels k c).2).2) = _; rw [hN]
      refine AW_condF rfl ?_
      refine AW_skip ?_
      refine AW_region ?_
      refine AL_p (x_field (off := 0) (o' := 0) rfl rfl rfl (by kernel_rfl) rfl) ?_
      refine AL_p (x_load1 rfl rfl rfl (by kernel_rfl) rfl) ?_
      refine AL_p (x_move rfl rfl) ?_
      refine AL_p (x_loadN (n := 2) rfl rfl rfl (by kernel_rfl) rfl rfl) ?_
      refine AL_p (x_oindex (n := 3) rfl rfl rfl rfl (by kernel_rfl) rfl (k := k) rfl (by omega)) ?_
      refine AL_p (x_ofield (off := 1) (o' := 1) rfl rfl rfl (by kernel_rfl) rfl) ?_
      refine AL_p (x_ofstore (⟨((nextTo b rels k c).1.getD k noNamed).name, ((nextTo b rels k c).1[k]'(by omega)).rel⟩ : Namedt) (A := [.c (.string ((nextTo b rels k c).1[k]'(by omega)).name)]) (B := [.c (.int .i64 ((nextTo b rels k c).1[k]'(by omega)).rel.arity), .sl rowE ((nextTo b rels k c).1[k]'(by omega)).rel.rows]) (C := []) rfl rfl rfl rfl (by kernel_rfl) rfl rfl rfl FitL.rf rfl rfl (by omega) rfl rfl rfl (by rw [hE]; rfl)) ?_
      refine AL_nil ?_
      refine AW_region ?_
      refine AL_p (x_add rfl rfl rfl (IntWalk.i64_in _ (by omega))) ?_
      refine AL_p (x_move rfl rfl) ?_
      refine AL_nil ?_
      refine ⟨⟨k + 1, by omega⟩, rn [], ?_, by dsimp only; omega⟩
      exact ⟨by (repeat refine ⟨⟨_, rfl, by first | with_reducible exact VLe.rf | exact VLe.rf | exact vle_int (by dsimp only; omega)⟩, ?_⟩); exact trivial, by (repeat refine ⟨⟨_, rfl, by first | with_reducible exact BLe.rf | exact ble_eq (congrArg (fun q => curB b q.2) hs).symm | (refine BLe.arr ?_; first | rfl | exact (congrArg Prod.fst hs).symm) | exact BLe.rf | exact BLe.box AllC.rf⟩, ?_⟩); exact trivial, by repeat (first | exact trivial | refine ⟨⟨rfl, by first | (left; intro h; cases h) | (right; rfl), by first | exact (fun _ h => ⟨_, h⟩) | exact (fun _ _ => ⟨_, rfl⟩)⟩, ?_⟩), rfl⟩
    try simp only [tdy] at h61
    have hA : nxAdd b ((nextTo b rels k c).1[k]'(by omega)).rel (dBelow b (nextTo b rels k c).2 4).1 (dBelow b (nextTo b rels k c).2 4).2 = ((relAdd ((nextTo b rels k c).1[k]'(by omega)).rel (dVals b ((nextTo b rels k c).1[k]'(by omega)).rel.arity.toNat (dBelow b (nextTo b rels k c).2 4).2).1).1, (dVals b ((nextTo b rels k c).1[k]'(by omega)).rel.arity.toNat (dBelow b (nextTo b rels k c).2 4).2).2) := (if_pos (by omega)).trans (Prod.ext (if_pos (by omega)) rfl)
    have hN : nxRel b ((nextTo b rels k c).1.getD k noNamed).rel (nextTo b rels k c).2 = ((relAdd ((nextTo b rels k c).1[k]'(by omega)).rel (dVals b ((nextTo b rels k c).1[k]'(by omega)).rel.arity.toNat (dBelow b (nextTo b rels k c).2 4).2).1).1, (dVals b ((nextTo b rels k c).1[k]'(by omega)).rel.arity.toNat (dBelow b (nextTo b rels k c).2 4).2).2) := by unfold nxRel; rw [hD]; exact hA
    have hs : (nextTo b rels (k + 1) c) = ((nextTo b rels k c).1.set k ⟨((nextTo b rels k c).1.getD k noNamed).name, (relAdd ((nextTo b rels k c).1[k]'(by omega)).rel (dVals b ((nextTo b rels k c).1[k]'(by omega)).rel.arity.toNat (dBelow b (nextTo b rels k c).2 4).2).1).1⟩, (dVals b ((nextTo b rels k c).1[k]'(by omega)).rel.arity.toNat (dBelow b (nextTo b rels k c).2 4).2).2) := by show ((nextTo b rels k c).1.set k ⟨((nextTo b rels k c).1.getD k noNamed).name, (nxRel b ((nextTo b rels k c).1.getD k noNamed).rel (nextTo b rels k c).2).1⟩, (nxRel b ((nextTo b rels k c).1.getD k noNamed).rel (nextTo b rels k c).2).2) = _; rw [hN]
    refine AW_condT rfl ?_
    refine AW_region ?_
    refine AL_p (x_loadN (n := 2) rfl rfl rfl (by kernel_rfl) rfl rfl) ?_
    refine AL_p (x_store (n := 2) rfl rfl rfl rfl (by kernel_rfl) rfl rfl rfl) ?_
    refine AL_nil ?_
    refine AW_region ?_
    refine AL_p (x_field (off := 0) (o' := 0) rfl rfl rfl (by kernel_rfl) rfl) ?_
    refine AL_p (x_load1 rfl rfl rfl (by kernel_rfl) rfl) ?_
    refine AL_p (x_move rfl rfl) ?_
    refine AL_p (x_loadN (n := 2) rfl rfl rfl (by kernel_rfl) rfl rfl) ?_
    refine AL_p (x_oindex (n := 3) rfl rfl rfl rfl (by kernel_rfl) rfl (k := k) rfl (by omega)) ?_
    refine AL_p (x_ofield (off := 1) (o' := 1) rfl rfl rfl (by kernel_rfl) rfl) ?_
    refine AL_p (x_ofstore (⟨((nextTo b rels k c).1.getD k noNamed).name, (relAdd ((nextTo b rels k c).1[k]'(by omega)).rel (dVals b ((nextTo b rels k c).1[k]'(by omega)).rel.arity.toNat (dBelow b (nextTo b rels k c).2 4).2).1).1⟩ : Namedt) (A := [.c (.string ((nextTo b rels k c).1[k]'(by omega)).name)]) (B := [.c (.int .i64 ((nextTo b rels k c).1[k]'(by omega)).rel.arity), .sl rowE ((nextTo b rels k c).1[k]'(by omega)).rel.rows]) (C := []) rfl rfl rfl rfl (by kernel_rfl) rfl rfl rfl FitL.rf rfl rfl (by omega) rfl rfl rfl (by rw [hE]; rfl)) ?_
    refine AL_nil ?_
    refine AW_region ?_
    refine AL_p (x_add rfl rfl rfl (IntWalk.i64_in _ (by omega))) ?_
    refine AL_p (x_move rfl rfl) ?_
    refine AL_nil ?_
    refine ⟨⟨k + 1, by omega⟩, rn [], ?_, by dsimp only; omega⟩
    exact ⟨by (repeat refine ⟨⟨_, rfl, by first | with_reducible exact VLe.rf | exact VLe.rf | exact vle_int (by dsimp only; omega)⟩, ?_⟩); exact trivial, by (repeat refine ⟨⟨_, rfl, by first | with_reducible exact BLe.rf | exact ble_eq (congrArg (fun q => curB b q.2) hs).symm | (refine BLe.arr ?_; first | rfl | exact (congrArg Prod.fst hs).symm) | exact BLe.rf | exact BLe.box AllC.rf⟩, ?_⟩); exact trivial, by repeat (first | exact trivial | refine ⟨⟨rfl, by first | (left; intro h; cases h) | (right; rfl), by first | exact (fun _ h => ⟨_, h⟩) | exact (fun _ _ => ⟨_, rfl⟩)⟩, ?_⟩), rfl⟩
  try simp only [tdy] at h28
  refine AL_g rfl rfl (x_field (off := 1) (o' := 1) rfl rfl rfl (by kernel_rfl) rfl) ?_
  refine AL_g rfl rfl (x_load1 rfl rfl rfl (by kernel_rfl) rfl) ?_
  refine AL_g rfl rfl (x_len (E := 72) (n := 1) rfl rfl (by kernel_rfl)) ?_
  refine AL_gb rfl rfl (x_gtr rfl rfl rfl) (fun b33 h33 => ?_)
  refine AL_p (x_pickT rfl rfl rfl) ?_
  refine AL_nil ?_
  cases b33
  · try simp only [tdy] at h33
    have hD : nxDrop b ((nextTo b rels k c).1.getD k noNamed).rel (dBelow b (nextTo b rels k c).2 4).1 (dBelow b (nextTo b rels k c).2 4).2 = (((nextTo b rels k c).1[k]'(by omega)).rel, (dBelow b (nextTo b rels k c).2 4).2) := by rw [hE]; exact if_neg (by omega)
    have hDs : smallRel ((nextTo b rels k c).1[k]'(by omega)).rel ∧ ((nextTo b rels k c).1[k]'(by omega)).rel.arity ≤ 8 := ⟨hx.1.2, hx.2⟩
    refine AW_condF rfl ?_
    refine AW_skip ?_
    refine AW_seq ?_
    refine AW_seq ?_
    refine AW_region ?_
    refine AL_p (x_move rfl rfl) ?_
    refine AL_b (x_gtr rfl rfl rfl) (fun b50 h50 => ?_)
    refine AL_nil ?_
    cases b50
    · try simp only [tdy] at h50
      have hA : nxAdd b ((nextTo b rels k c).1[k]'(by omega)).rel (dBelow b (nextTo b rels k c).2 4).1 (dBelow b (nextTo b rels k c).2 4).2 = (((nextTo b rels k c).1[k]'(by omega)).rel, (dBelow b (nextTo b rels k c).2 4).2) := if_neg (by omega)
      have hN : nxRel b ((nextTo b rels k c).1.getD k noNamed).rel (nextTo b rels k c).2 = (((nextTo b rels k c).1[k]'(by omega)).rel, (dBelow b (nextTo b rels k c).2 4).2) := by unfold nxRel; rw [hD]; exact hA
      have hs : (nextTo b rels (k + 1) c) = ((nextTo b rels k c).1.set k ⟨((nextTo b rels k c).1.getD k noNamed).name, ((nextTo b rels k c).1[k]'(by omega)).rel⟩, (dBelow b (nextTo b rels k c).2 4).2) := by show ((nextTo b rels k c).1.set k ⟨((nextTo b rels k c).1.getD k noNamed).name, (nxRel b ((nextTo b rels k c).1.getD k noNamed).rel (nextTo b rels k c).2).1⟩, (nxRel b ((nextTo b rels k c).1.getD k noNamed).rel (nextTo b rels k c).2).2) = _; rw [hN]
      refine AW_condF rfl ?_
      refine AW_skip ?_
      refine AW_region ?_
      refine AL_p (x_field (off := 0) (o' := 0) rfl rfl rfl (by kernel_rfl) rfl) ?_
      refine AL_p (x_load1 rfl rfl rfl (by kernel_rfl) rfl) ?_
      refine AL_p (x_move rfl rfl) ?_
      refine AL_p (x_loadN (n := 2) rfl rfl rfl (by kernel_rfl) rfl rfl) ?_
      refine AL_p (x_oindex (n := 3) rfl rfl rfl rfl (by kernel_rfl) rfl (k := k) rfl (by omega)) ?_
      refine AL_p (x_ofield (off := 1) (o' := 1) rfl rfl rfl (by kernel_rfl) rfl) ?_
      refine AL_p (x_ofstore (⟨((nextTo b rels k c).1.getD k noNamed).name, ((nextTo b rels k c).1[k]'(by omega)).rel⟩ : Namedt) (A := [.c (.string ((nextTo b rels k c).1[k]'(by omega)).name)]) (B := [.c (.int .i64 ((nextTo b rels k c).1[k]'(by omega)).rel.arity), .sl rowE ((nextTo b rels k c).1[k]'(by omega)).rel.rows]) (C := []) rfl rfl rfl rfl (by kernel_rfl) rfl rfl rfl FitL.rf rfl rfl (by omega) rfl rfl rfl (by rw [hE]; rfl)) ?_
      refine AL_nil ?_
      refine AW_region ?_
      refine AL_p (x_add rfl rfl rfl (IntWalk.i64_in _ (by omega))) ?_
      refine AL_p (x_move rfl rfl) ?_
      refine AL_nil ?_
      refine ⟨⟨k + 1, by omega⟩, rn [], ?_, by dsimp only; omega⟩
      exact ⟨by (repeat refine ⟨⟨_, rfl, by first | with_reducible exact VLe.rf | exact VLe.rf | exact vle_int (by dsimp only; omega)⟩, ?_⟩); exact trivial, by (repeat refine ⟨⟨_, rfl, by first | with_reducible exact BLe.rf | exact ble_eq (congrArg (fun q => curB b q.2) hs).symm | (refine BLe.arr ?_; first | rfl | exact (congrArg Prod.fst hs).symm) | exact BLe.rf | exact BLe.box AllC.rf⟩, ?_⟩); exact trivial, by repeat (first | exact trivial | refine ⟨⟨rfl, by first | (left; intro h; cases h) | (right; rfl), by first | exact (fun _ h => ⟨_, h⟩) | exact (fun _ _ => ⟨_, rfl⟩)⟩, ?_⟩), rfl⟩
    try simp only [tdy] at h50
    refine AW_condT rfl ?_
    refine AW_seq ?_
    refine AW_draw rfl ?_
    refine AL_p (x_loadN (n := 2) rfl rfl rfl (by kernel_rfl) rfl rfl) ?_
    refine AL_p (x_move rfl rfl) ?_
    refine AL_p (x_field (off := 0) (o' := 0) rfl rfl rfl (by kernel_rfl) rfl) ?_
    refine AL_p (x_load1 rfl rfl rfl (by kernel_rfl) rfl) ?_
    refine AL_p (x_call (ks := []) (L := [(200, some _)]) (L' := [(200, some _)]) rfl rfl rfl (drawRowF_c b (dBelow b (nextTo b rels k c).2 4).2 ((nextTo b rels k c).1[k]'(by omega)).rel.arity hDs.2 hb) rfl AllV.rf (caught_of rfl) rfl rfl rfl ⟨rfl, trivial⟩ rfl) ?_
    refine AL_p (x_call0 rfl rfl rfl (relAddS_c ((nextTo b rels k c).1[k]'(by omega)).rel (dVals b ((nextTo b rels k c).1[k]'(by omega)).rel.arity.toNat (dBelow b (nextTo b rels k c).2 4).2).1 hDs.1 (dVals_small b _ _ (by have := hDs.2; omega))) rfl rfl) ?_
    refine AL_p (x_move rfl rfl) ?_
    refine AL_p (x_extract rfl rfl rfl) ?_
    refine AL_p (x_extract rfl rfl rfl) ?_
    refine AL_p (x_alloc (z := .agg #[.int .i64 0, .slice none 0 0]) 106 rfl (by kernel_rfl) rfl rfl rfl rfl) ?_
    refine AL_p (x_store (n := 2) rfl rfl rfl rfl (by kernel_rfl) rfl rfl rfl) ?_
    refine AL_p (x_assign rfl rfl) ?_
    refine AL_nild (by kernel_rfl) ?_
    refine AW_seq ?_
    refine AW_region ?_
    refine AL_p (x_move rfl rfl) ?_
    refine AL_b (x_eql rfl rfl rfl) (fun b61 h61 => ?_)
    refine AL_nil ?_
    cases b61
    · try simp only [tdy] at h61
      have hA : nxAdd b ((nextTo b rels k c).1[k]'(by omega)).rel (dBelow b (nextTo b rels k c).2 4).1 (dBelow b (nextTo b rels k c).2 4).2 = (((nextTo b rels k c).1[k]'(by omega)).rel, (dVals b ((nextTo b rels k c).1[k]'(by omega)).rel.arity.toNat (dBelow b (nextTo b rels k c).2 4).2).2) := (if_pos (by omega)).trans (Prod.ext (if_neg (by omega)) rfl)
      have hN : nxRel b ((nextTo b rels k c).1.getD k noNamed).rel (nextTo b rels k c).2 = (((nextTo b rels k c).1[k]'(by omega)).rel, (dVals b ((nextTo b rels k c).1[k]'(by omega)).rel.arity.toNat (dBelow b (nextTo b rels k c).2 4).2).2) := by unfold nxRel; rw [hD]; exact hA
      have hs : (nextTo b rels (k + 1) c) = ((nextTo b rels k c).1.set k ⟨((nextTo b rels k c).1.getD k noNamed).name, ((nextTo b rels k c).1[k]'(by omega)).rel⟩, (dVals b ((nextTo b rels k c).1[k]'(by omega)).rel.arity.toNat (dBelow b (nextTo b rels k c).2 4).2).2) := by show ((nextTo b rels k c).1.set k ⟨((nextTo b rels k c).1.getD k noNamed).name, (nxRel b ((nextTo b rels k c).1.getD k noNamed).rel (nextTo b rels k c).2).1⟩, (nxRel b ((nextTo b rels k c).1.getD k noNamed).rel (nextTo b rels k c).2).2) = _; rw [hN]
      refine AW_condF rfl ?_
      refine AW_skip ?_
      refine AW_region ?_
      refine AL_p (x_field (off := 0) (o' := 0) rfl rfl rfl (by kernel_rfl) rfl) ?_
      refine AL_p (x_load1 rfl rfl rfl (by kernel_rfl) rfl) ?_
      refine AL_p (x_move rfl rfl) ?_
      refine AL_p (x_loadN (n := 2) rfl rfl rfl (by kernel_rfl) rfl rfl) ?_
      refine AL_p (x_oindex (n := 3) rfl rfl rfl rfl (by kernel_rfl) rfl (k := k) rfl (by omega)) ?_
      refine AL_p (x_ofield (off := 1) (o' := 1) rfl rfl rfl (by kernel_rfl) rfl) ?_
      refine AL_p (x_ofstore (⟨((nextTo b rels k c).1.getD k noNamed).name, ((nextTo b rels k c).1[k]'(by omega)).rel⟩ : Namedt) (A := [.c (.string ((nextTo b rels k c).1[k]'(by omega)).name)]) (B := [.c (.int .i64 ((nextTo b rels k c).1[k]'(by omega)).rel.arity), .sl rowE ((nextTo b rels k c).1[k]'(by omega)).rel.rows]) (C := []) rfl rfl rfl rfl (by kernel_rfl) rfl rfl rfl FitL.rf rfl rfl (by omega) rfl rfl rfl (by rw [hE]; rfl)) ?_
      refine AL_nil ?_
      refine AW_region ?_
      refine AL_p (x_add rfl rfl rfl (IntWalk.i64_in _ (by omega))) ?_
      refine AL_p (x_move rfl rfl) ?_
      refine AL_nil ?_
      refine ⟨⟨k + 1, by omega⟩, rn [], ?_, by dsimp only; omega⟩
      exact ⟨by (repeat refine ⟨⟨_, rfl, by first | with_reducible exact VLe.rf | exact VLe.rf | exact vle_int (by dsimp only; omega)⟩, ?_⟩); exact trivial, by (repeat refine ⟨⟨_, rfl, by first | with_reducible exact BLe.rf | exact ble_eq (congrArg (fun q => curB b q.2) hs).symm | (refine BLe.arr ?_; first | rfl | exact (congrArg Prod.fst hs).symm) | exact BLe.rf | exact BLe.box AllC.rf⟩, ?_⟩); exact trivial, by repeat (first | exact trivial | refine ⟨⟨rfl, by first | (left; intro h; cases h) | (right; rfl), by first | exact (fun _ h => ⟨_, h⟩) | exact (fun _ _ => ⟨_, rfl⟩)⟩, ?_⟩), rfl⟩
    try simp only [tdy] at h61
    have hA : nxAdd b ((nextTo b rels k c).1[k]'(by omega)).rel (dBelow b (nextTo b rels k c).2 4).1 (dBelow b (nextTo b rels k c).2 4).2 = ((relAdd ((nextTo b rels k c).1[k]'(by omega)).rel (dVals b ((nextTo b rels k c).1[k]'(by omega)).rel.arity.toNat (dBelow b (nextTo b rels k c).2 4).2).1).1, (dVals b ((nextTo b rels k c).1[k]'(by omega)).rel.arity.toNat (dBelow b (nextTo b rels k c).2 4).2).2) := (if_pos (by omega)).trans (Prod.ext (if_pos (by omega)) rfl)
    have hN : nxRel b ((nextTo b rels k c).1.getD k noNamed).rel (nextTo b rels k c).2 = ((relAdd ((nextTo b rels k c).1[k]'(by omega)).rel (dVals b ((nextTo b rels k c).1[k]'(by omega)).rel.arity.toNat (dBelow b (nextTo b rels k c).2 4).2).1).1, (dVals b ((nextTo b rels k c).1[k]'(by omega)).rel.arity.toNat (dBelow b (nextTo b rels k c).2 4).2).2) := by unfold nxRel; rw [hD]; exact hA
    have hs : (nextTo b rels (k + 1) c) = ((nextTo b rels k c).1.set k ⟨((nextTo b rels k c).1.getD k noNamed).name, (relAdd ((nextTo b rels k c).1[k]'(by omega)).rel (dVals b ((nextTo b rels k c).1[k]'(by omega)).rel.arity.toNat (dBelow b (nextTo b rels k c).2 4).2).1).1⟩, (dVals b ((nextTo b rels k c).1[k]'(by omega)).rel.arity.toNat (dBelow b (nextTo b rels k c).2 4).2).2) := by show ((nextTo b rels k c).1.set k ⟨((nextTo b rels k c).1.getD k noNamed).name, (nxRel b ((nextTo b rels k c).1.getD k noNamed).rel (nextTo b rels k c).2).1⟩, (nxRel b ((nextTo b rels k c).1.getD k noNamed).rel (nextTo b rels k c).2).2) = _; rw [hN]
    refine AW_condT rfl ?_
    refine AW_region ?_
    refine AL_p (x_loadN (n := 2) rfl rfl rfl (by kernel_rfl) rfl rfl) ?_
    refine AL_p (x_store (n := 2) rfl rfl rfl rfl (by kernel_rfl) rfl rfl rfl) ?_
    refine AL_nil ?_
    refine AW_region ?_
    refine AL_p (x_field (off := 0) (o' := 0) rfl rfl rfl (by kernel_rfl) rfl) ?_
    refine AL_p (x_load1 rfl rfl rfl (by kernel_rfl) rfl) ?_
    refine AL_p (x_move rfl rfl) ?_
    refine AL_p (x_loadN (n := 2) rfl rfl rfl (by kernel_rfl) rfl rfl) ?_
    refine AL_p (x_oindex (n := 3) rfl rfl rfl rfl (by kernel_rfl) rfl (k := k) rfl (by omega)) ?_
    refine AL_p (x_ofield (off := 1) (o' := 1) rfl rfl rfl (by kernel_rfl) rfl) ?_
    refine AL_p (x_ofstore (⟨((nextTo b rels k c).1.getD k noNamed).name, (relAdd ((nextTo b rels k c).1[k]'(by omega)).rel (dVals b ((nextTo b rels k c).1[k]'(by omega)).rel.arity.toNat (dBelow b (nextTo b rels k c).2 4).2).1).1⟩ : Namedt) (A := [.c (.string ((nextTo b rels k c).1[k]'(by omega)).name)]) (B := [.c (.int .i64 ((nextTo b rels k c).1[k]'(by omega)).rel.arity), .sl rowE ((nextTo b rels k c).1[k]'(by omega)).rel.rows]) (C := []) rfl rfl rfl rfl (by kernel_rfl) rfl rfl rfl FitL.rf rfl rfl (by omega) rfl rfl rfl (by rw [hE]; rfl)) ?_
    refine AL_nil ?_
    refine AW_region ?_
    refine AL_p (x_add rfl rfl rfl (IntWalk.i64_in _ (by omega))) ?_
    refine AL_p (x_move rfl rfl) ?_
    refine AL_nil ?_
    refine ⟨⟨k + 1, by omega⟩, rn [], ?_, by dsimp only; omega⟩
    exact ⟨by (repeat refine ⟨⟨_, rfl, by first | with_reducible exact VLe.rf | exact VLe.rf | exact vle_int (by dsimp only; omega)⟩, ?_⟩); exact trivial, by (repeat refine ⟨⟨_, rfl, by first | with_reducible exact BLe.rf | exact ble_eq (congrArg (fun q => curB b q.2) hs).symm | (refine BLe.arr ?_; first | rfl | exact (congrArg Prod.fst hs).symm) | exact BLe.rf | exact BLe.box AllC.rf⟩, ?_⟩); exact trivial, by repeat (first | exact trivial | refine ⟨⟨rfl, by first | (left; intro h; cases h) | (right; rfl), by first | exact (fun _ h => ⟨_, h⟩) | exact (fun _ _ => ⟨_, rfl⟩)⟩, ?_⟩), rfl⟩
  try simp only [tdy] at h33
  have hdi := dBelow_lt b (dBelow b (nextTo b rels k c).2 4).2 (n := (((nextTo b rels k c).1[k]'(by omega)).rel.rows.length : Int)) (by omega)
  have hat := getD_row (xs := ((nextTo b rels k c).1[k]'(by omega)).rel.rows) (k := (dBelow b (dBelow b (nextTo b rels k c).2 4).2 (((nextTo b rels k c).1[k]'(by omega)).rel.rows.length : Int)).1.toNat) (by omega)
  have hD : nxDrop b ((nextTo b rels k c).1.getD k noNamed).rel (dBelow b (nextTo b rels k c).2 4).1 (dBelow b (nextTo b rels k c).2 4).2 = ((relDrop ((nextTo b rels k c).1[k]'(by omega)).rel (((nextTo b rels k c).1[k]'(by omega)).rel.rows[(dBelow b (dBelow b (nextTo b rels k c).2 4).2 (((nextTo b rels k c).1[k]'(by omega)).rel.rows.length : Int)).1.toNat]'(by omega))).1, (dBelow b (dBelow b (nextTo b rels k c).2 4).2 (((nextTo b rels k c).1[k]'(by omega)).rel.rows.length : Int)).2) := by rw [hE]; exact (if_pos ⟨by omega, by omega⟩).trans (Prod.ext (congrArg (fun q => (relDrop ((nextTo b rels k c).1[k]'(by omega)).rel q).1) hat.symm) rfl)
  have hDs : smallRel (relDrop ((nextTo b rels k c).1[k]'(by omega)).rel (((nextTo b rels k c).1[k]'(by omega)).rel.rows[(dBelow b (dBelow b (nextTo b rels k c).2 4).2 (((nextTo b rels k c).1[k]'(by omega)).rel.rows.length : Int)).1.toNat]'(by omega))).1 ∧ (relDrop ((nextTo b rels k c).1[k]'(by omega)).rel (((nextTo b rels k c).1[k]'(by omega)).rel.rows[(dBelow b (dBelow b (nextTo b rels k c).2 4).2 (((nextTo b rels k c).1[k]'(by omega)).rel.rows.length : Int)).1.toNat]'(by omega))).1.arity ≤ 8 := ⟨relDrop_small hx.1.2, relDrop_ar hx.2⟩
  refine AW_condT rfl ?_
  refine AW_draw rfl ?_
  refine AL_p (x_loadN (n := 2) rfl rfl rfl (by kernel_rfl) rfl rfl) ?_
  refine AL_p (x_field (off := 1) (o' := 1) rfl rfl rfl (by kernel_rfl) rfl) ?_
  refine AL_p (x_load1 rfl rfl rfl (by kernel_rfl) rfl) ?_
  refine AL_p (x_move rfl rfl) ?_
  refine AL_p (x_field (off := 1) (o' := 1) rfl rfl rfl (by kernel_rfl) rfl) ?_
  refine AL_p (x_load1 rfl rfl rfl (by kernel_rfl) rfl) ?_
  refine AL_p (x_len (E := 72) (n := 1) rfl rfl (by kernel_rfl)) ?_
  refine AL_p (x_call (ks := []) (L := [(200, some _)]) (L' := [(200, some _)]) rfl rfl rfl (below_c b (dBelow b (nextTo b rels k c).2 4).2 hb (((nextTo b rels k c).1[k]'(by omega)).rel.rows.length : Int)) rfl AllV.rf (caught_of rfl) rfl rfl rfl ⟨rfl, trivial⟩ rfl) ?_
  refine AL_p (x_index (E := 72) (n := 1) rfl rfl rfl (by kernel_rfl) rfl (k := (dBelow b (dBelow b (nextTo b rels k c).2 4).2 (((nextTo b rels k c).1[k]'(by omega)).rel.rows.length : Int)).1.toNat) (by omega) (by omega)) ?_
  refine AL_p (x_eloadW (n := 1) rfl rfl (by kernel_rfl) rfl) ?_
  refine AL_p (x_call1 rfl rfl rfl (relDropS_c ((nextTo b rels k c).1[k]'(by omega)).rel (((nextTo b rels k c).1[k]'(by omega)).rel.rows[(dBelow b (dBelow b (nextTo b rels k c).2 4).2 (((nextTo b rels k c).1[k]'(by omega)).rel.rows.length : Int)).1.toNat]'(by omega)) hx.1.2 (hx.1.2.2 _ (List.getElem_mem _)) 105) rfl rfl rfl rfl) ?_
  refine AL_p (x_move rfl rfl) ?_
  refine AL_p (x_extract rfl rfl rfl) ?_
  refine AL_p (x_extract rfl rfl rfl) ?_
  refine AL_p (x_store (n := 2) rfl rfl rfl rfl (by kernel_rfl) rfl rfl rfl) ?_
  refine AL_nild (by kernel_rfl) ?_
  refine AW_seq ?_
  refine AW_seq ?_
  refine AW_shutB 105 104 1 rfl rfl rfl rfl ?_
  refine AW_region ?_
  refine AL_p (x_move rfl rfl) ?_
  refine AL_b (x_gtr rfl rfl rfl) (fun b50 h50 => ?_)
  refine AL_nil ?_
  cases b50
  · try simp only [tdy] at h50
    have hA : nxAdd b (relDrop ((nextTo b rels k c).1[k]'(by omega)).rel (((nextTo b rels k c).1[k]'(by omega)).rel.rows[(dBelow b (dBelow b (nextTo b rels k c).2 4).2 (((nextTo b rels k c).1[k]'(by omega)).rel.rows.length : Int)).1.toNat]'(by omega))).1 (dBelow b (nextTo b rels k c).2 4).1 (dBelow b (dBelow b (nextTo b rels k c).2 4).2 (((nextTo b rels k c).1[k]'(by omega)).rel.rows.length : Int)).2 = ((relDrop ((nextTo b rels k c).1[k]'(by omega)).rel (((nextTo b rels k c).1[k]'(by omega)).rel.rows[(dBelow b (dBelow b (nextTo b rels k c).2 4).2 (((nextTo b rels k c).1[k]'(by omega)).rel.rows.length : Int)).1.toNat]'(by omega))).1, (dBelow b (dBelow b (nextTo b rels k c).2 4).2 (((nextTo b rels k c).1[k]'(by omega)).rel.rows.length : Int)).2) := if_neg (by omega)
    have hN : nxRel b ((nextTo b rels k c).1.getD k noNamed).rel (nextTo b rels k c).2 = ((relDrop ((nextTo b rels k c).1[k]'(by omega)).rel (((nextTo b rels k c).1[k]'(by omega)).rel.rows[(dBelow b (dBelow b (nextTo b rels k c).2 4).2 (((nextTo b rels k c).1[k]'(by omega)).rel.rows.length : Int)).1.toNat]'(by omega))).1, (dBelow b (dBelow b (nextTo b rels k c).2 4).2 (((nextTo b rels k c).1[k]'(by omega)).rel.rows.length : Int)).2) := by unfold nxRel; rw [hD]; exact hA
    have hs : (nextTo b rels (k + 1) c) = ((nextTo b rels k c).1.set k ⟨((nextTo b rels k c).1.getD k noNamed).name, (relDrop ((nextTo b rels k c).1[k]'(by omega)).rel (((nextTo b rels k c).1[k]'(by omega)).rel.rows[(dBelow b (dBelow b (nextTo b rels k c).2 4).2 (((nextTo b rels k c).1[k]'(by omega)).rel.rows.length : Int)).1.toNat]'(by omega))).1⟩, (dBelow b (dBelow b (nextTo b rels k c).2 4).2 (((nextTo b rels k c).1[k]'(by omega)).rel.rows.length : Int)).2) := by show ((nextTo b rels k c).1.set k ⟨((nextTo b rels k c).1.getD k noNamed).name, (nxRel b ((nextTo b rels k c).1.getD k noNamed).rel (nextTo b rels k c).2).1⟩, (nxRel b ((nextTo b rels k c).1.getD k noNamed).rel (nextTo b rels k c).2).2) = _; rw [hN]
    refine AW_condF rfl ?_
    refine AW_skip ?_
    refine AW_region ?_
    refine AL_p (x_field (off := 0) (o' := 0) rfl rfl rfl (by kernel_rfl) rfl) ?_
    refine AL_p (x_load1 rfl rfl rfl (by kernel_rfl) rfl) ?_
    refine AL_p (x_move rfl rfl) ?_
    refine AL_p (x_loadN (n := 2) rfl rfl rfl (by kernel_rfl) rfl rfl) ?_
    refine AL_p (x_oindex (n := 3) rfl rfl rfl rfl (by kernel_rfl) rfl (k := k) rfl (by omega)) ?_
    refine AL_p (x_ofield (off := 1) (o' := 1) rfl rfl rfl (by kernel_rfl) rfl) ?_
    refine AL_p (x_ofstore (⟨((nextTo b rels k c).1.getD k noNamed).name, (relDrop ((nextTo b rels k c).1[k]'(by omega)).rel (((nextTo b rels k c).1[k]'(by omega)).rel.rows[(dBelow b (dBelow b (nextTo b rels k c).2 4).2 (((nextTo b rels k c).1[k]'(by omega)).rel.rows.length : Int)).1.toNat]'(by omega))).1⟩ : Namedt) (A := [.c (.string ((nextTo b rels k c).1[k]'(by omega)).name)]) (B := [.c (.int .i64 ((nextTo b rels k c).1[k]'(by omega)).rel.arity), .sl rowE ((nextTo b rels k c).1[k]'(by omega)).rel.rows]) (C := []) rfl rfl rfl rfl (by kernel_rfl) rfl rfl rfl FitL.rf rfl rfl (by omega) rfl rfl rfl (by rw [hE]; rfl)) ?_
    refine AL_nil ?_
    refine AW_region ?_
    refine AL_p (x_add rfl rfl rfl (IntWalk.i64_in _ (by omega))) ?_
    refine AL_p (x_move rfl rfl) ?_
    refine AL_nil ?_
    refine ⟨⟨k + 1, by omega⟩, rn [], ?_, by dsimp only; omega⟩
    exact ⟨by (repeat refine ⟨⟨_, rfl, by first | with_reducible exact VLe.rf | exact VLe.rf | exact vle_int (by dsimp only; omega)⟩, ?_⟩); exact trivial, by (repeat refine ⟨⟨_, rfl, by first | with_reducible exact BLe.rf | exact ble_eq (congrArg (fun q => curB b q.2) hs).symm | (refine BLe.arr ?_; first | rfl | exact (congrArg Prod.fst hs).symm) | exact BLe.rf | exact BLe.box AllC.rf⟩, ?_⟩); exact trivial, by repeat (first | exact trivial | refine ⟨⟨rfl, by first | (left; intro h; cases h) | (right; rfl), by first | exact (fun _ h => ⟨_, h⟩) | exact (fun _ _ => ⟨_, rfl⟩)⟩, ?_⟩), rfl⟩
  try simp only [tdy] at h50
  refine AW_condT rfl ?_
  refine AW_seq ?_
  refine AW_draw rfl ?_
  refine AL_p (x_loadN (n := 2) rfl rfl rfl (by kernel_rfl) rfl rfl) ?_
  refine AL_p (x_move rfl rfl) ?_
  refine AL_p (x_field (off := 0) (o' := 0) rfl rfl rfl (by kernel_rfl) rfl) ?_
  refine AL_p (x_load1 rfl rfl rfl (by kernel_rfl) rfl) ?_
  refine AL_p (x_call (ks := []) (L := [(200, some _)]) (L' := [(200, some _)]) rfl rfl rfl (drawRowF_c b (dBelow b (dBelow b (nextTo b rels k c).2 4).2 (((nextTo b rels k c).1[k]'(by omega)).rel.rows.length : Int)).2 (relDrop ((nextTo b rels k c).1[k]'(by omega)).rel (((nextTo b rels k c).1[k]'(by omega)).rel.rows[(dBelow b (dBelow b (nextTo b rels k c).2 4).2 (((nextTo b rels k c).1[k]'(by omega)).rel.rows.length : Int)).1.toNat]'(by omega))).1.arity hDs.2 hb) rfl AllV.rf (caught_of rfl) rfl rfl rfl ⟨rfl, trivial⟩ rfl) ?_
  refine AL_p (x_call0 rfl rfl rfl (relAddS_c (relDrop ((nextTo b rels k c).1[k]'(by omega)).rel (((nextTo b rels k c).1[k]'(by omega)).rel.rows[(dBelow b (dBelow b (nextTo b rels k c).2 4).2 (((nextTo b rels k c).1[k]'(by omega)).rel.rows.length : Int)).1.toNat]'(by omega))).1 (dVals b (relDrop ((nextTo b rels k c).1[k]'(by omega)).rel (((nextTo b rels k c).1[k]'(by omega)).rel.rows[(dBelow b (dBelow b (nextTo b rels k c).2 4).2 (((nextTo b rels k c).1[k]'(by omega)).rel.rows.length : Int)).1.toNat]'(by omega))).1.arity.toNat (dBelow b (dBelow b (nextTo b rels k c).2 4).2 (((nextTo b rels k c).1[k]'(by omega)).rel.rows.length : Int)).2).1 hDs.1 (dVals_small b _ _ (by have := hDs.2; omega))) rfl rfl) ?_
  refine AL_p (x_move rfl rfl) ?_
  refine AL_p (x_extract rfl rfl rfl) ?_
  refine AL_p (x_extract rfl rfl rfl) ?_
  refine AL_p (x_alloc (z := .agg #[.int .i64 0, .slice none 0 0]) 106 rfl (by kernel_rfl) rfl rfl rfl rfl) ?_
  refine AL_p (x_store (n := 2) rfl rfl rfl rfl (by kernel_rfl) rfl rfl rfl) ?_
  refine AL_p (x_assign rfl rfl) ?_
  refine AL_nild (by kernel_rfl) ?_
  refine AW_seq ?_
  refine AW_region ?_
  refine AL_p (x_move rfl rfl) ?_
  refine AL_b (x_eql rfl rfl rfl) (fun b61 h61 => ?_)
  refine AL_nil ?_
  cases b61
  · try simp only [tdy] at h61
    have hA : nxAdd b (relDrop ((nextTo b rels k c).1[k]'(by omega)).rel (((nextTo b rels k c).1[k]'(by omega)).rel.rows[(dBelow b (dBelow b (nextTo b rels k c).2 4).2 (((nextTo b rels k c).1[k]'(by omega)).rel.rows.length : Int)).1.toNat]'(by omega))).1 (dBelow b (nextTo b rels k c).2 4).1 (dBelow b (dBelow b (nextTo b rels k c).2 4).2 (((nextTo b rels k c).1[k]'(by omega)).rel.rows.length : Int)).2 = ((relDrop ((nextTo b rels k c).1[k]'(by omega)).rel (((nextTo b rels k c).1[k]'(by omega)).rel.rows[(dBelow b (dBelow b (nextTo b rels k c).2 4).2 (((nextTo b rels k c).1[k]'(by omega)).rel.rows.length : Int)).1.toNat]'(by omega))).1, (dVals b (relDrop ((nextTo b rels k c).1[k]'(by omega)).rel (((nextTo b rels k c).1[k]'(by omega)).rel.rows[(dBelow b (dBelow b (nextTo b rels k c).2 4).2 (((nextTo b rels k c).1[k]'(by omega)).rel.rows.length : Int)).1.toNat]'(by omega))).1.arity.toNat (dBelow b (dBelow b (nextTo b rels k c).2 4).2 (((nextTo b rels k c).1[k]'(by omega)).rel.rows.length : Int)).2).2) := (if_pos (by omega)).trans (Prod.ext (if_neg (by omega)) rfl)
    have hN : nxRel b ((nextTo b rels k c).1.getD k noNamed).rel (nextTo b rels k c).2 = ((relDrop ((nextTo b rels k c).1[k]'(by omega)).rel (((nextTo b rels k c).1[k]'(by omega)).rel.rows[(dBelow b (dBelow b (nextTo b rels k c).2 4).2 (((nextTo b rels k c).1[k]'(by omega)).rel.rows.length : Int)).1.toNat]'(by omega))).1, (dVals b (relDrop ((nextTo b rels k c).1[k]'(by omega)).rel (((nextTo b rels k c).1[k]'(by omega)).rel.rows[(dBelow b (dBelow b (nextTo b rels k c).2 4).2 (((nextTo b rels k c).1[k]'(by omega)).rel.rows.length : Int)).1.toNat]'(by omega))).1.arity.toNat (dBelow b (dBelow b (nextTo b rels k c).2 4).2 (((nextTo b rels k c).1[k]'(by omega)).rel.rows.length : Int)).2).2) := by unfold nxRel; rw [hD]; exact hA
    have hs : (nextTo b rels (k + 1) c) = ((nextTo b rels k c).1.set k ⟨((nextTo b rels k c).1.getD k noNamed).name, (relDrop ((nextTo b rels k c).1[k]'(by omega)).rel (((nextTo b rels k c).1[k]'(by omega)).rel.rows[(dBelow b (dBelow b (nextTo b rels k c).2 4).2 (((nextTo b rels k c).1[k]'(by omega)).rel.rows.length : Int)).1.toNat]'(by omega))).1⟩, (dVals b (relDrop ((nextTo b rels k c).1[k]'(by omega)).rel (((nextTo b rels k c).1[k]'(by omega)).rel.rows[(dBelow b (dBelow b (nextTo b rels k c).2 4).2 (((nextTo b rels k c).1[k]'(by omega)).rel.rows.length : Int)).1.toNat]'(by omega))).1.arity.toNat (dBelow b (dBelow b (nextTo b rels k c).2 4).2 (((nextTo b rels k c).1[k]'(by omega)).rel.rows.length : Int)).2).2) := by show ((nextTo b rels k c).1.set k ⟨((nextTo b rels k c).1.getD k noNamed).name, (nxRel b ((nextTo b rels k c).1.getD k noNamed).rel (nextTo b rels k c).2).1⟩, (nxRel b ((nextTo b rels k c).1.getD k noNamed).rel (nextTo b rels k c).2).2) = _; rw [hN]
    refine AW_condF rfl ?_
    refine AW_skip ?_
    refine AW_region ?_
    refine AL_p (x_field (off := 0) (o' := 0) rfl rfl rfl (by kernel_rfl) rfl) ?_
    refine AL_p (x_load1 rfl rfl rfl (by kernel_rfl) rfl) ?_
    refine AL_p (x_move rfl rfl) ?_
    refine AL_p (x_loadN (n := 2) rfl rfl rfl (by kernel_rfl) rfl rfl) ?_
    refine AL_p (x_oindex (n := 3) rfl rfl rfl rfl (by kernel_rfl) rfl (k := k) rfl (by omega)) ?_
    refine AL_p (x_ofield (off := 1) (o' := 1) rfl rfl rfl (by kernel_rfl) rfl) ?_
    refine AL_p (x_ofstore (⟨((nextTo b rels k c).1.getD k noNamed).name, (relDrop ((nextTo b rels k c).1[k]'(by omega)).rel (((nextTo b rels k c).1[k]'(by omega)).rel.rows[(dBelow b (dBelow b (nextTo b rels k c).2 4).2 (((nextTo b rels k c).1[k]'(by omega)).rel.rows.length : Int)).1.toNat]'(by omega))).1⟩ : Namedt) (A := [.c (.string ((nextTo b rels k c).1[k]'(by omega)).name)]) (B := [.c (.int .i64 ((nextTo b rels k c).1[k]'(by omega)).rel.arity), .sl rowE ((nextTo b rels k c).1[k]'(by omega)).rel.rows]) (C := []) rfl rfl rfl rfl (by kernel_rfl) rfl rfl rfl FitL.rf rfl rfl (by omega) rfl rfl rfl (by rw [hE]; rfl)) ?_
    refine AL_nil ?_
    refine AW_region ?_
    refine AL_p (x_add rfl rfl rfl (IntWalk.i64_in _ (by omega))) ?_
    refine AL_p (x_move rfl rfl) ?_
    refine AL_nil ?_
    refine ⟨⟨k + 1, by omega⟩, rn [], ?_, by dsimp only; omega⟩
    exact ⟨by (repeat refine ⟨⟨_, rfl, by first | with_reducible exact VLe.rf | exact VLe.rf | exact vle_int (by dsimp only; omega)⟩, ?_⟩); exact trivial, by (repeat refine ⟨⟨_, rfl, by first | with_reducible exact BLe.rf | exact ble_eq (congrArg (fun q => curB b q.2) hs).symm | (refine BLe.arr ?_; first | rfl | exact (congrArg Prod.fst hs).symm) | exact BLe.rf | exact BLe.box AllC.rf⟩, ?_⟩); exact trivial, by repeat (first | exact trivial | refine ⟨⟨rfl, by first | (left; intro h; cases h) | (right; rfl), by first | exact (fun _ h => ⟨_, h⟩) | exact (fun _ _ => ⟨_, rfl⟩)⟩, ?_⟩), rfl⟩
  try simp only [tdy] at h61
  have hA : nxAdd b (relDrop ((nextTo b rels k c).1[k]'(by omega)).rel (((nextTo b rels k c).1[k]'(by omega)).rel.rows[(dBelow b (dBelow b (nextTo b rels k c).2 4).2 (((nextTo b rels k c).1[k]'(by omega)).rel.rows.length : Int)).1.toNat]'(by omega))).1 (dBelow b (nextTo b rels k c).2 4).1 (dBelow b (dBelow b (nextTo b rels k c).2 4).2 (((nextTo b rels k c).1[k]'(by omega)).rel.rows.length : Int)).2 = ((relAdd (relDrop ((nextTo b rels k c).1[k]'(by omega)).rel (((nextTo b rels k c).1[k]'(by omega)).rel.rows[(dBelow b (dBelow b (nextTo b rels k c).2 4).2 (((nextTo b rels k c).1[k]'(by omega)).rel.rows.length : Int)).1.toNat]'(by omega))).1 (dVals b (relDrop ((nextTo b rels k c).1[k]'(by omega)).rel (((nextTo b rels k c).1[k]'(by omega)).rel.rows[(dBelow b (dBelow b (nextTo b rels k c).2 4).2 (((nextTo b rels k c).1[k]'(by omega)).rel.rows.length : Int)).1.toNat]'(by omega))).1.arity.toNat (dBelow b (dBelow b (nextTo b rels k c).2 4).2 (((nextTo b rels k c).1[k]'(by omega)).rel.rows.length : Int)).2).1).1, (dVals b (relDrop ((nextTo b rels k c).1[k]'(by omega)).rel (((nextTo b rels k c).1[k]'(by omega)).rel.rows[(dBelow b (dBelow b (nextTo b rels k c).2 4).2 (((nextTo b rels k c).1[k]'(by omega)).rel.rows.length : Int)).1.toNat]'(by omega))).1.arity.toNat (dBelow b (dBelow b (nextTo b rels k c).2 4).2 (((nextTo b rels k c).1[k]'(by omega)).rel.rows.length : Int)).2).2) := (if_pos (by omega)).trans (Prod.ext (if_pos (by omega)) rfl)
  have hN : nxRel b ((nextTo b rels k c).1.getD k noNamed).rel (nextTo b rels k c).2 = ((relAdd (relDrop ((nextTo b rels k c).1[k]'(by omega)).rel (((nextTo b rels k c).1[k]'(by omega)).rel.rows[(dBelow b (dBelow b (nextTo b rels k c).2 4).2 (((nextTo b rels k c).1[k]'(by omega)).rel.rows.length : Int)).1.toNat]'(by omega))).1 (dVals b (relDrop ((nextTo b rels k c).1[k]'(by omega)).rel (((nextTo b rels k c).1[k]'(by omega)).rel.rows[(dBelow b (dBelow b (nextTo b rels k c).2 4).2 (((nextTo b rels k c).1[k]'(by omega)).rel.rows.length : Int)).1.toNat]'(by omega))).1.arity.toNat (dBelow b (dBelow b (nextTo b rels k c).2 4).2 (((nextTo b rels k c).1[k]'(by omega)).rel.rows.length : Int)).2).1).1, (dVals b (relDrop ((nextTo b rels k c).1[k]'(by omega)).rel (((nextTo b rels k c).1[k]'(by omega)).rel.rows[(dBelow b (dBelow b (nextTo b rels k c).2 4).2 (((nextTo b rels k c).1[k]'(by omega)).rel.rows.length : Int)).1.toNat]'(by omega))).1.arity.toNat (dBelow b (dBelow b (nextTo b rels k c).2 4).2 (((nextTo b rels k c).1[k]'(by omega)).rel.rows.length : Int)).2).2) := by unfold nxRel; rw [hD]; exact hA
  have hs : (nextTo b rels (k + 1) c) = ((nextTo b rels k c).1.set k ⟨((nextTo b rels k c).1.getD k noNamed).name, (relAdd (relDrop ((nextTo b rels k c).1[k]'(by omega)).rel (((nextTo b rels k c).1[k]'(by omega)).rel.rows[(dBelow b (dBelow b (nextTo b rels k c).2 4).2 (((nextTo b rels k c).1[k]'(by omega)).rel.rows.length : Int)).1.toNat]'(by omega))).1 (dVals b (relDrop ((nextTo b rels k c).1[k]'(by omega)).rel (((nextTo b rels k c).1[k]'(by omega)).rel.rows[(dBelow b (dBelow b (nextTo b rels k c).2 4).2 (((nextTo b rels k c).1[k]'(by omega)).rel.rows.length : Int)).1.toNat]'(by omega))).1.arity.toNat (dBelow b (dBelow b (nextTo b rels k c).2 4).2 (((nextTo b rels k c).1[k]'(by omega)).rel.rows.length : Int)).2).1).1⟩, (dVals b (relDrop ((nextTo b rels k c).1[k]'(by omega)).rel (((nextTo b rels k c).1[k]'(by omega)).rel.rows[(dBelow b (dBelow b (nextTo b rels k c).2 4).2 (((nextTo b rels k c).1[k]'(by omega)).rel.rows.length : Int)).1.toNat]'(by omega))).1.arity.toNat (dBelow b (dBelow b (nextTo b rels k c).2 4).2 (((nextTo b rels k c).1[k]'(by omega)).rel.rows.length : Int)).2).2) := by show ((nextTo b rels k c).1.set k ⟨((nextTo b rels k c).1.getD k noNamed).name, (nxRel b ((nextTo b rels k c).1.getD k noNamed).rel (nextTo b rels k c).2).1⟩, (nxRel b ((nextTo b rels k c).1.getD k noNamed).rel (nextTo b rels k c).2).2) = _; rw [hN]
  refine AW_condT rfl ?_
  refine AW_region ?_
  refine AL_p (x_loadN (n := 2) rfl rfl rfl (by kernel_rfl) rfl rfl) ?_
  refine AL_p (x_store (n := 2) rfl rfl rfl rfl (by kernel_rfl) rfl rfl rfl) ?_
  refine AL_nil ?_
  refine AW_region ?_
  refine AL_p (x_field (off := 0) (o' := 0) rfl rfl rfl (by kernel_rfl) rfl) ?_
  refine AL_p (x_load1 rfl rfl rfl (by kernel_rfl) rfl) ?_
  refine AL_p (x_move rfl rfl) ?_
  refine AL_p (x_loadN (n := 2) rfl rfl rfl (by kernel_rfl) rfl rfl) ?_
  refine AL_p (x_oindex (n := 3) rfl rfl rfl rfl (by kernel_rfl) rfl (k := k) rfl (by omega)) ?_
  refine AL_p (x_ofield (off := 1) (o' := 1) rfl rfl rfl (by kernel_rfl) rfl) ?_
  refine AL_p (x_ofstore (⟨((nextTo b rels k c).1.getD k noNamed).name, (relAdd (relDrop ((nextTo b rels k c).1[k]'(by omega)).rel (((nextTo b rels k c).1[k]'(by omega)).rel.rows[(dBelow b (dBelow b (nextTo b rels k c).2 4).2 (((nextTo b rels k c).1[k]'(by omega)).rel.rows.length : Int)).1.toNat]'(by omega))).1 (dVals b (relDrop ((nextTo b rels k c).1[k]'(by omega)).rel (((nextTo b rels k c).1[k]'(by omega)).rel.rows[(dBelow b (dBelow b (nextTo b rels k c).2 4).2 (((nextTo b rels k c).1[k]'(by omega)).rel.rows.length : Int)).1.toNat]'(by omega))).1.arity.toNat (dBelow b (dBelow b (nextTo b rels k c).2 4).2 (((nextTo b rels k c).1[k]'(by omega)).rel.rows.length : Int)).2).1).1⟩ : Namedt) (A := [.c (.string ((nextTo b rels k c).1[k]'(by omega)).name)]) (B := [.c (.int .i64 ((nextTo b rels k c).1[k]'(by omega)).rel.arity), .sl rowE ((nextTo b rels k c).1[k]'(by omega)).rel.rows]) (C := []) rfl rfl rfl rfl (by kernel_rfl) rfl rfl rfl FitL.rf rfl rfl (by omega) rfl rfl rfl (by rw [hE]; rfl)) ?_
  refine AL_nil ?_
  refine AW_region ?_
  refine AL_p (x_add rfl rfl rfl (IntWalk.i64_in _ (by omega))) ?_
  refine AL_p (x_move rfl rfl) ?_
  refine AL_nil ?_
  refine ⟨⟨k + 1, by omega⟩, rn [], ?_, by dsimp only; omega⟩
  exact ⟨by (repeat refine ⟨⟨_, rfl, by first | with_reducible exact VLe.rf | exact VLe.rf | exact vle_int (by dsimp only; omega)⟩, ?_⟩); exact trivial, by (repeat refine ⟨⟨_, rfl, by first | with_reducible exact BLe.rf | exact ble_eq (congrArg (fun q => curB b q.2) hs).symm | (refine BLe.arr ?_; first | rfl | exact (congrArg Prod.fst hs).symm) | exact BLe.rf | exact BLe.box AllC.rf⟩, ?_⟩); exact trivial, by repeat (first | exact trivial | refine ⟨⟨rfl, by first | (left; intro h; cases h) | (right; rfl), by first | exact (fun _ h => ⟨_, h⟩) | exact (fun _ _ => ⟨_, rfl⟩)⟩, ?_⟩), rfl⟩

set_option maxHeartbeats 4000000 in
theorem drawOf_c (b : List Int) (hb : b.length ≤ 1048576) : AC Tryz.prog 21 [.one (.sl (intE .u8) b)] [] (.tup [.agg [.sl namedE (dOf b (dNew b)).1], .agg [.sl namedE (dOf b (dNew b)).2]]) [] := by
  have hsm := dAnyS_small b (dNew b)
  refine AC_bodyCC (n := 1) (n2 := 1) (k := 9) (k2 := 8) (T := [(2, .one (.ptr 9 0)), (3, .one (.ptr 8 0))]) (Lf := ((9, some (.box [.sl namedE (dOf b (dNew b)).1])) :: (8, some (.box [.sl namedE (dOf b (dNew b)).2])) :: [])) Tryz.func21 rfl rfl Tryz.ntmps21 rfl Tryz.results21 rfl rfl (by kernel_rfl) rfl rfl rfl (by kernel_rfl) rfl rfl ⟨trivial, (by repeat (first | exact trivial | refine ⟨⟨_, rfl, BLe.rf⟩, ?_⟩)), (by repeat (first | exact trivial | refine ⟨⟨rfl, by first | (left; intro h; cases h) | (right; rfl), by first | exact (fun _ h => ⟨_, h⟩) | exact (fun _ _ => ⟨_, rfl⟩)⟩, ?_⟩)), rfl⟩ ?_
  refine AW_seq ?_
  refine AW_region ?_
  refine AL_p (x_alloc (z := .agg #[.slice none 0 0]) 100 rfl (by kernel_rfl) rfl rfl rfl rfl) ?_
  refine AL_p (x_alloc (z := .agg #[.slice none 0 0]) 101 rfl (by kernel_rfl) rfl rfl rfl rfl) ?_
  refine AL_nil ?_
  refine AW_seq ?_
  refine AW_region ?_
  refine AL_p (x_move rfl rfl) ?_
  refine AL_p (x_call1 rfl rfl rfl (new_c b hb) rfl rfl rfl rfl) ?_
  refine AL_p (x_assign rfl rfl) ?_
  refine AL_nil ?_
  refine AW_seq ?_
  refine AW_region ?_
  refine AL_p (x_move rfl rfl) ?_
  refine AL_p (x_call (ks := []) (L := [(200, some _)]) (L' := [(200, some _)]) rfl rfl rfl (anyStore_c b (dNew b) hb) rfl AllV.rf (caught_of rfl) rfl rfl rfl ⟨rfl, trivial⟩ rfl) ?_
  refine AL_p (x_alloc (z := .agg #[.slice none 0 0]) 102 rfl (by kernel_rfl) rfl rfl rfl rfl) ?_
  refine AL_p (x_store (n := 1) rfl rfl rfl rfl (by kernel_rfl) rfl rfl rfl) ?_
  refine AL_nil ?_
  refine AW_seq ?_
  refine AW_region ?_
  refine AL_p (x_loadN (n := 1) rfl rfl rfl (by kernel_rfl) rfl rfl) ?_
  refine AL_p (x_call1 rfl rfl rfl (copySt_c (dStAny b (dNew b)).1 hsm.1 hsm.2 103) rfl rfl rfl rfl) ?_
  refine AL_p (x_alloc (z := .agg #[.slice none 0 0]) 104 rfl (by kernel_rfl) rfl rfl rfl rfl) ?_
  refine AL_p (x_store (n := 1) rfl rfl rfl rfl (by kernel_rfl) rfl rfl rfl) ?_
  refine AL_nil ?_
  refine AW_seq ?_
  refine AW_seq ?_
  refine AW_shutB 103 104 0 rfl rfl rfl rfl ?_
  refine AW_region ?_
  refine AL_p (x_loadN (n := 1) rfl rfl rfl (by kernel_rfl) rfl rfl) ?_
  refine AL_b (x_call0 rfl rfl rfl (storeOkS_c ⟨(dStAny b (dNew b)).1⟩ hsm) rfl rfl) (fun b14 h14 => ?_)
  refine AL_nil ?_
  cases b14
  · try simp only [tdy] at h14
    have hO : dOf2 b (dStAny b (dNew b)) = (dStAny b (dNew b)) := if_neg (by rw [h14]; simp)
    refine AW_condF rfl ?_
    refine AW_skip ?_
    refine AW_seq ?_
    refine AW_seq ?_
    refine AW_region ?_
    refine AL_p (x_move rfl rfl) ?_
    refine AL_p (x_call (ks := []) (L := [(200, some _)]) (L' := [(200, some _)]) rfl rfl rfl (below_c b (dStAny b (dNew b)).2 hb 8) rfl AllV.rf (caught_of rfl) rfl rfl rfl ⟨rfl, trivial⟩ rfl) ?_
    refine AL_b (x_eql rfl rfl rfl) (fun b20 h20 => ?_)
    refine AL_nil ?_
    cases b20
    · try simp only [tdy] at h20
      have hno : (dOf b (dNew b)) = ((dStAny b (dNew b)).1, (dStAny b (dNew b)).1) := Prod.ext rfl (by show (if (dBelow b (dOf2 b (dStAny b (dNew b))).2 8).1 = 0 then (dStAny b (dBelow b (dOf2 b (dStAny b (dNew b))).2 8).2).1 else (dOf2 b (dStAny b (dNew b))).1) = _; rw [hO]; exact if_neg h20)
      refine AW_condF rfl ?_
      refine AW_skip ?_
      refine AW_seq ?_
      refine AW_draw rfl ?_
      refine AL_p (x_loadN (n := 1) rfl rfl rfl (by kernel_rfl) rfl rfl) ?_
      refine AL_p (x_loadN (n := 1) rfl rfl rfl (by kernel_rfl) rfl rfl) ?_
      refine AL_p (x_store (n := 1) rfl rfl rfl rfl (by kernel_rfl) rfl rfl rfl) ?_
      refine AL_p (x_store (n := 1) rfl rfl rfl rfl (by kernel_rfl) rfl rfl rfl) ?_
      refine AL_nild (by kernel_rfl) ?_
      refine AW_ret ?_
      exact ⟨rn [(9, 100), (8, 101)], ⟨⟨⟨_, rfl, VLe.rf⟩, ⟨_, rfl, VLe.rf⟩, trivial⟩, ⟨⟨_, rfl, by first | exact BLe.rf | exact ble_eq (by rw [hno]; first | done | rfl)⟩, ⟨_, rfl, by first | exact BLe.rf | exact ble_eq (by rw [hno]; first | done | rfl)⟩, trivial⟩, by repeat (first | exact trivial | refine ⟨⟨rfl, by first | (left; intro h; cases h) | (right; rfl), by first | exact (fun _ h => ⟨_, h⟩) | exact (fun _ _ => ⟨_, rfl⟩)⟩, ?_⟩), rfl⟩⟩
    try simp only [tdy] at h20
    have hno : (dOf b (dNew b)) = ((dStAny b (dNew b)).1, (dStAny b (dBelow b (dStAny b (dNew b)).2 8).2).1) := Prod.ext rfl (by show (if (dBelow b (dOf2 b (dStAny b (dNew b))).2 8).1 = 0 then (dStAny b (dBelow b (dOf2 b (dStAny b (dNew b))).2 8).2).1 else (dOf2 b (dStAny b (dNew b))).1) = _; rw [hO]; exact if_pos h20)
    refine AW_condT rfl ?_
    refine AW_region ?_
    refine AL_p (x_move rfl rfl) ?_
    refine AL_p (x_call (ks := []) (L := [(200, some _)]) (L' := [(200, some _)]) rfl rfl rfl (anyStore_c b (dBelow b (dStAny b (dNew b)).2 8).2 hb) rfl AllV.rf (caught_of rfl) rfl rfl rfl ⟨rfl, trivial⟩ rfl) ?_
    refine AL_p (x_store (n := 1) rfl rfl rfl rfl (by kernel_rfl) rfl rfl rfl) ?_
    refine AL_nil ?_
    refine AW_seq ?_
    refine AW_draw rfl ?_
    refine AL_p (x_loadN (n := 1) rfl rfl rfl (by kernel_rfl) rfl rfl) ?_
    refine AL_p (x_loadN (n := 1) rfl rfl rfl (by kernel_rfl) rfl rfl) ?_
    refine AL_p (x_store (n := 1) rfl rfl rfl rfl (by kernel_rfl) rfl rfl rfl) ?_
    refine AL_p (x_store (n := 1) rfl rfl rfl rfl (by kernel_rfl) rfl rfl rfl) ?_
    refine AL_nild (by kernel_rfl) ?_
    refine AW_ret ?_
    exact ⟨rn [(9, 100), (8, 101)], ⟨⟨⟨_, rfl, VLe.rf⟩, ⟨_, rfl, VLe.rf⟩, trivial⟩, ⟨⟨_, rfl, by first | exact BLe.rf | exact ble_eq (by rw [hno]; first | done | rfl)⟩, ⟨_, rfl, by first | exact BLe.rf | exact ble_eq (by rw [hno]; first | done | rfl)⟩, trivial⟩, by repeat (first | exact trivial | refine ⟨⟨rfl, by first | (left; intro h; cases h) | (right; rfl), by first | exact (fun _ h => ⟨_, h⟩) | exact (fun _ _ => ⟨_, rfl⟩)⟩, ?_⟩), rfl⟩⟩
  try simp only [tdy] at h14
  have hO : dOf2 b (dStAny b (dNew b)) = dNext b (dStAny b (dNew b)).1 (dStAny b (dNew b)).2 := if_pos h14
  refine AW_condT rfl ?_
  refine AW_region ?_
  refine AL_p (x_move rfl rfl) ?_
  refine AL_p (x_loadN (n := 1) rfl rfl rfl (by kernel_rfl) rfl rfl) ?_
  refine AL_p (x_call (ks := []) (L := [(200, some _)]) (L' := [(200, some _)]) rfl rfl rfl (next_c b (dStAny b (dNew b)).2 hb (dStAny b (dNew b)).1 hsm.1 (nx_ok hsm h14)) rfl AllV.rf (caught_of rfl) rfl rfl rfl ⟨rfl, trivial⟩ rfl) ?_
  refine AL_p (x_store (n := 1) rfl rfl rfl rfl (by kernel_rfl) rfl rfl rfl) ?_
  refine AL_nil ?_
  refine AW_seq ?_
  refine AW_seq ?_
  refine AW_region ?_
  refine AL_p (x_move rfl rfl) ?_
  refine AL_p (x_call (ks := []) (L := [(200, some _)]) (L' := [(200, some _)]) rfl rfl rfl (below_c b (dNext b (dStAny b (dNew b)).1 (dStAny b (dNew b)).2).2 hb 8) rfl AllV.rf (caught_of rfl) rfl rfl rfl ⟨rfl, trivial⟩ rfl) ?_
  refine AL_b (x_eql rfl rfl rfl) (fun b20 h20 => ?_)
  refine AL_nil ?_
  cases b20
  · try simp only [tdy] at h20
    have hno : (dOf b (dNew b)) = ((dStAny b (dNew b)).1, (dNext b (dStAny b (dNew b)).1 (dStAny b (dNew b)).2).1) := Prod.ext rfl (by show (if (dBelow b (dOf2 b (dStAny b (dNew b))).2 8).1 = 0 then (dStAny b (dBelow b (dOf2 b (dStAny b (dNew b))).2 8).2).1 else (dOf2 b (dStAny b (dNew b))).1) = _; rw [hO]; exact if_neg h20)
    refine AW_condF rfl ?_
    refine AW_skip ?_
    refine AW_seq ?_
    refine AW_draw rfl ?_
    refine AL_p (x_loadN (n := 1) rfl rfl rfl (by kernel_rfl) rfl rfl) ?_
    refine AL_p (x_loadN (n := 1) rfl rfl rfl (by kernel_rfl) rfl rfl) ?_
    refine AL_p (x_store (n := 1) rfl rfl rfl rfl (by kernel_rfl) rfl rfl rfl) ?_
    refine AL_p (x_store (n := 1) rfl rfl rfl rfl (by kernel_rfl) rfl rfl rfl) ?_
    refine AL_nild (by kernel_rfl) ?_
    refine AW_ret ?_
    exact ⟨rn [(9, 100), (8, 101)], ⟨⟨⟨_, rfl, VLe.rf⟩, ⟨_, rfl, VLe.rf⟩, trivial⟩, ⟨⟨_, rfl, by first | exact BLe.rf | exact ble_eq (by rw [hno]; first | done | rfl)⟩, ⟨_, rfl, by first | exact BLe.rf | exact ble_eq (by rw [hno]; first | done | rfl)⟩, trivial⟩, by repeat (first | exact trivial | refine ⟨⟨rfl, by first | (left; intro h; cases h) | (right; rfl), by first | exact (fun _ h => ⟨_, h⟩) | exact (fun _ _ => ⟨_, rfl⟩)⟩, ?_⟩), rfl⟩⟩
  try simp only [tdy] at h20
  have hno : (dOf b (dNew b)) = ((dStAny b (dNew b)).1, (dStAny b (dBelow b (dNext b (dStAny b (dNew b)).1 (dStAny b (dNew b)).2).2 8).2).1) := Prod.ext rfl (by show (if (dBelow b (dOf2 b (dStAny b (dNew b))).2 8).1 = 0 then (dStAny b (dBelow b (dOf2 b (dStAny b (dNew b))).2 8).2).1 else (dOf2 b (dStAny b (dNew b))).1) = _; rw [hO]; exact if_pos h20)
  refine AW_condT rfl ?_
  refine AW_region ?_
  refine AL_p (x_move rfl rfl) ?_
  refine AL_p (x_call (ks := []) (L := [(200, some _)]) (L' := [(200, some _)]) rfl rfl rfl (anyStore_c b (dBelow b (dNext b (dStAny b (dNew b)).1 (dStAny b (dNew b)).2).2 8).2 hb) rfl AllV.rf (caught_of rfl) rfl rfl rfl ⟨rfl, trivial⟩ rfl) ?_
  refine AL_p (x_store (n := 1) rfl rfl rfl rfl (by kernel_rfl) rfl rfl rfl) ?_
  refine AL_nil ?_
  refine AW_seq ?_
  refine AW_draw rfl ?_
  refine AL_p (x_loadN (n := 1) rfl rfl rfl (by kernel_rfl) rfl rfl) ?_
  refine AL_p (x_loadN (n := 1) rfl rfl rfl (by kernel_rfl) rfl rfl) ?_
  refine AL_p (x_store (n := 1) rfl rfl rfl rfl (by kernel_rfl) rfl rfl rfl) ?_
  refine AL_p (x_store (n := 1) rfl rfl rfl rfl (by kernel_rfl) rfl rfl rfl) ?_
  refine AL_nild (by kernel_rfl) ?_
  refine AW_ret ?_
  exact ⟨rn [(9, 100), (8, 101)], ⟨⟨⟨_, rfl, VLe.rf⟩, ⟨_, rfl, VLe.rf⟩, trivial⟩, ⟨⟨_, rfl, by first | exact BLe.rf | exact ble_eq (by rw [hno]; first | done | rfl)⟩, ⟨_, rfl, by first | exact BLe.rf | exact ble_eq (by rw [hno]; first | done | rfl)⟩, trivial⟩, by repeat (first | exact trivial | refine ⟨⟨rfl, by first | (left; intro h; cases h) | (right; rfl), by first | exact (fun _ h => ⟨_, h⟩) | exact (fun _ _ => ⟨_, rfl⟩)⟩, ?_⟩), rfl⟩⟩

theorem drawOf_x (b : List Int) (hb : b.length ≤ 1048576) : ∃ (x y : Storet), (smallStore x ∧ smallStore y) ∧ AC Tryz.prog 21 [.one (.sl (intE .u8) b)] [] (.tup [.agg (storeC x), .agg (storeC y)]) [] := ⟨⟨_⟩, ⟨_⟩, dOf_small b _, drawOf_c b hb⟩
end Go.Proofs.YtibhoanjglfaoaaGreat

/- The order of rows once more: the program's compare functions only lay blocks behind the heap. -/
namespace Go.Proofs.YtibhoanjglfaoaaGreat
open Go.RowKit
set_option linter.unusedVariables false

/-- Draws and new blocks, nothing else. -/
def Lay (w w' : World) : Prop := ∃ q os, w' = Go.Sort.grow (w.drewN q) os
theorem Lay.refl (w : World) : Lay w w := ⟨0, #[], by rw [Go.Sort.grow_empty]; rfl⟩
theorem Lay.trans {a b c : World} (h : Lay a b) (k : Lay b c) : Lay a c := by
  obtain ⟨q, os, rfl⟩ := h
  obtain ⟨q', os', rfl⟩ := k
  refine ⟨q + q', os ++ os', ?_⟩
  have e : (Go.Sort.grow (a.drewN q) os).drewN q' = Go.Sort.grow (a.drewN (q + q')) os := by simp [Go.Sort.grow, World.drewN, Nat.add_assoc]
  rw [e, Go.Sort.grow_grow]
theorem Lay.alloc {a b : World} (h : Lay a b) (o : Obj) : Lay a (b.alloc o) := h.trans ⟨0, #[o], by rw [Go.Sort.alloc_eq_grow]; rfl⟩
theorem Lay.drewN {a b : World} (h : Lay a b) (n : Nat) : Lay a (b.drewN n) := h.trans ⟨n, #[], by rw [Go.Sort.grow_empty]⟩

set_option maxHeartbeats 400000 in
theorem byValue_lay (a b : Val) (w : World) (ha : valOk a = true) (hb : valOk b = true) :
    Calls Tryz.prog 125 #[.agg #[.int .i64 a.n, .string a.s], .agg #[.int .i64 b.n, .string b.s]] w fun e w' => e = .returned (.int .i64 (cmpVal a b)) ∧ Below w.heap.size w w' ∧ Lay w w' := by
  obtain ⟨a1, a2⟩ := valOk_range ha
  obtain ⟨b1, b2⟩ := valOk_range hb
  clear ha hb
  obtain ⟨an, sa⟩ := a
  obtain ⟨bn, sb⟩ := b
  dsimp only at *
  cases hqa : sa.toList.isEmpty <;> cases hqb : sb.toList.isEmpty
  all_goals
    have HR := Lib.hid (show cmpVal ⟨an, sa⟩ ⟨bn, sb⟩ = _ by simp only [cmpVal, hqa, hqb]; exact rfl)
    go_enter Tryz.func125, Tryz.ntmps125
    go_wp2_with (first | (go_at_call 156; refine (strCompare_any _ _ _).mono ?_; rintro e w' ⟨rfl, rfl⟩))
    go_ret
    refine ⟨ret_int ?_, ((Below.refl _ _).alloc (Nat.le_refl _) _).alloc (by simp) _, ((Lay.refl _).alloc _).alloc _⟩
    rw [HR.out]
    rfl

set_option maxHeartbeats 800000 in
theorem cmpFunc_lay (a : Option Addr) (n cap : Nat) (xs : List Val) (bs : List Nat) (b : Option Addr) (m cap' : Nat) (ys : List Val) (bs' : List Nat) (w : World) (h : SliceRep valE w a n cap xs bs) (h' : SliceRep valE w b m cap' ys bs')
    (hx : ∀ v ∈ xs, valOk v = true) (hy : ∀ v ∈ ys, valOk v = true) :
    Calls Tryz.prog 124 #[.slice a n cap, .slice b m cap', .func (.func 125) #[] #[]] w fun e w' => e = .returned (.int .i64 (cmpRow xs ys)) ∧ Below w.heap.size w w' ∧ Lay w w' := by
  have hmax := h.max
  have hmax' := h'.max
  obtain rfl := h.1
  obtain rfl := h'.1
  go_enter Tryz.func124, Tryz.ntmps124
  go_wp2
  go_loopw [13] (fun i W => ∃ k : Nat, k ≤ xs.length ∧ k ≤ ys.length ∧ i = .int .i64 k ∧ Hid (cmpRow xs ys = cmpRow (xs.drop k) (ys.drop k)) ∧ Held w [] W ∧ Lay w W) (fun i _ => xs.length - (intOf i).toNat)
  case atStart => exact ⟨0, Nat.zero_le _, Nat.zero_le _, rfl, rfl, Held.start w, Lay.refl w⟩
  case round =>
    obtain ⟨k, hk, hk', rfl, HC, H, HL⟩ := hrel
    by_cases hlt : k < xs.length
    · obtain ⟨g, off, rfl, c0, c1, hs, hn⟩ := (h.up H.below).val hlt
      by_cases hlt' : k < ys.length
      · obtain ⟨g', off', rfl, d0, d1, hs', hn'⟩ := (h'.up H.below).val hlt'
        have hvx := hx xs[k] (List.getElem_mem hlt)
        have hvy := hy ys[k] (List.getElem_mem hlt')
        have e0 := cell_alloc d0 (.cells #[.int .i64 xs[k].n, .string xs[k].s] 147)
        have e1 := cell_alloc d1 (.cells #[.int .i64 xs[k].n, .string xs[k].s] 147)
        have H1 := (H.alloc (.cells #[.int .i64 xs[k].n, .string xs[k].s] 147)).alloc (.cells #[.int .i64 ys[k].n, .string ys[k].s] 147)
        by_cases hz : cmpVal xs[k] ys[k] = 0
        · have hzb : (cmpVal xs[k] ys[k] != 0) = false := by simp [hz]
          have HC' : Hid (cmpRow xs ys = cmpRow (xs.drop (k + 1)) (ys.drop (k + 1))) := by
            have := HC.out
            rw [drop_cons hlt, drop_cons hlt', cmpRow, if_pos hz] at this
            exact this
          clear HC hz
          go_wp2_with fail
          refine (byValue_lay _ _ _ hvx hvy).mono ?_
          rintro e w1 ⟨rfl, hb1, hl1⟩
          have HL2 := ((HL.alloc (.cells #[.int .i64 xs[k].n, .string xs[k].s] 147)).alloc (.cells #[.int .i64 ys[k].n, .string ys[k].s] 147)).trans hl1
          have H2 := H1.up hb1
          clear H H1 hb1 c0 c1 d0 d1 e0 e1
          go_wp2_with fail
          go_roundw
          case rel => exact ⟨k + 1, by omega, by omega, by go_num, HC', H2, HL2⟩
          case measure => simp [intOf]; omega
        · have hzb : (cmpVal xs[k] ys[k] != 0) = true := by simp [hz]
          have HC' : Hid (cmpRow xs ys = cmpVal xs[k] ys[k]) := by
            have := HC.out
            rw [drop_cons hlt, drop_cons hlt', cmpRow, if_neg hz] at this
            exact this
          clear HC hz
          go_wp2_with fail
          refine (byValue_lay _ _ _ hvx hvy).mono ?_
          rintro e w1 ⟨rfl, hb1, hl1⟩
          have HL2 := ((HL.alloc (.cells #[.int .i64 xs[k].n, .string xs[k].s] 147)).alloc (.cells #[.int .i64 ys[k].n, .string ys[k].s] 147)).trans hl1
          have H2 := H1.up hb1
          clear H H1 hb1 c0 c1 d0 d1 e0 e1
          go_wp2_with fail
          go_ret
          exact ⟨ret_int HC'.out.symm, H2.below, HL2⟩
      · obtain rfl : k = ys.length := by omega
        have HC' : Hid (cmpRow xs ys = 1) := by
          have := HC.out
          rw [drop_cons hlt, List.drop_length, cmpRow] at this
          exact this
        have H1 := H.alloc (.cells #[.int .i64 xs[ys.length].n, .string xs[ys.length].s] 147)
        clear HC
        go_wp2_with fail
        go_ret
        exact ⟨ret_int HC'.out.symm, H1.below, HL.alloc _⟩
    · obtain rfl : k = xs.length := by omega
      by_cases hlt' : xs.length < ys.length
      · have HC' : Hid (cmpRow xs ys = -1) := by
          have := HC.out
          rw [drop_cons hlt', List.drop_length, cmpRow] at this
          exact this
        clear HC
        go_wp2_with fail
        go_ret
        exact ⟨ret_int HC'.out.symm, H.below, HL⟩
      · have HC' : Hid (cmpRow xs ys = 0) := by
          have := HC.out
          rw [show xs.length = ys.length by omega, List.drop_length, ← show xs.length = ys.length by omega, List.drop_length, cmpRow] at this
          exact this
        clear HC
        go_wp2_with fail
        go_ret
        exact ⟨ret_int HC'.out.symm, H.below, HL⟩

set_option maxHeartbeats 400000 in
theorem byRow_lay (a : Option Addr) (n cap : Nat) (xs : List Val) (bs : List Nat) (b : Option Addr) (m cap' : Nat) (ys : List Val) (bs' : List Nat) (w : World) (h : SliceRep valE w a n cap xs bs) (h' : SliceRep valE w b m cap' ys bs')
    (hx : ∀ v ∈ xs, valOk v = true) (hy : ∀ v ∈ ys, valOk v = true) :
    Calls Tryz.prog 82 #[.agg #[.slice a n cap], .agg #[.slice b m cap']] w fun e w' => e = .returned (.int .i64 (cmpRow xs ys)) ∧ Below w.heap.size w w' ∧ Lay w w' := by
  have H0 := ((Held.start w).box_ #[.slice a n cap] 72).box_ #[.slice b m cap'] 72
  go_enter Tryz.func82, Tryz.ntmps82
  go_wp2_with fail
  refine (cmpFunc_lay _ _ _ xs _ _ _ _ ys _ _ (h.up H0.below) (h'.up H0.below) hx hy).mono ?_
  rintro e w1 ⟨rfl, hb1, hl1⟩
  go_wp2_with fail
  go_ret
  exact ⟨rfl, (H0.up hb1).below, (((Lay.refl w).alloc _).alloc _).trans hl1⟩
end Go.Proofs.YtibhoanjglfaoaaGreat

/- What a function does with the elements of one array in its place. -/
namespace Go.Proofs.YtibhoanjglfaoaaGreat
open Go.RowKit
set_option linter.unusedVariables false

theorem AC.inplace {P : Program} {fid : FuncId} {rest : List AVal} {α : Type} {e : Enc α} {f : α → List Cell} [hc : CellsOf e f] {E : TypeId} {xs ys : List α} {d : Bool} (hfn : Callable P fid)
    (h : ∀ (w : World) (v : Value) (vs cells : List Value) (bs : List Nat) (g : Gh), All2 (VR1 g [(0, some (Blk.arr E e xs d))] w) vs rest → w.ownsRow 0 E e.size v xs.length cells → FR w cells (xs.flatMap f) bs → (∀ u ∈ cells, u.oneCell' = true) → (∀ b ∈ bs, v.ownBlock ≠ some b) →
      Calls P fid (v :: vs).toArray w fun en w' => en = .returned (.tuple #[]) ∧ ∃ cells' bs', w'.ownsRow 0 E e.size v ys.length cells' ∧ w.grownBy w' v.ownBlock ∧ FR w cells' (ys.flatMap f) bs' ∧ bs'.Perm bs) :
    AC P fid (.one (.own 0) :: rest) [(0, some (.arr E e xs d))] (.tup []) [(0, some (.arr E e ys d))] := by
  refine ⟨hfn, fun g w cargs m ha => ?_⟩
  have hk : lkl [(0, some (Blk.arr E e xs d))] 0 = some (.arr E e xs d) := rfl
  obtain ⟨cells, bs, r1, f1, i1, F1, ob1⟩ := (m.arr 0 _ _ _ _ _ hk).row
  have : ∃ v vs, cargs = (v :: vs).toArray := by
    cases hc' : cargs.toList with
    | nil => rw [hc'] at ha; exact ha.elim
    | cons v vs => exact ⟨v, vs, by rw [← hc', Array.toArray_toList]⟩
  obtain ⟨v, vs, rfl⟩ := this
  have hv : v = g.hd 0 := ha.1 _ _ _ _ _ hk
  subst hv
  have hlive : ∀ b, (g.hd 0).ownBlock = some b → g.hd 0 ≠ .slice none 0 0 := fun b hb e0 => by rw [e0] at hb; cases hb
  have hnI : ∀ b, (g.hd 0).ownBlock = some b → ¬ g.I b := fun b hb => by rw [ob1 b hb]; exact m.notI hk (hlive b hb)
  refine (h w _ vs cells bs g ha.2 r1 f1 (FR.one f1) (fun b hb e0 => hnI b e0 (i1 b hb))).mono ?_
  rintro en w' ⟨rfl, cells', bs', t1, t2, t3, t4⟩
  have hkeepI : ∀ b, g.I b → w'.heap[b]? = w.heap[b]? := fun b hb => t2.block b (m.ilt b hb) fun e0 => hnI b e0.symm hb
  have hI' : ∀ b ∈ bs', g.I b := fun b hb => i1 b (t4.mem_iff.1 hb)
  have hFR := t3.keep (w' := w') (fun b hb => hkeepI b (hI' b hb)) t2.size
  let g2 : Gh := ⟨g.I, g.ρ, g.hd, fun _ => bs'⟩
  have hlk : ∀ k b, lkl [(0, some (Blk.arr E e ys d))] k = some b → k = 0 ∧ b = .arr E e ys d := fun k b hb => by
    by_cases hk0 : k = 0
    · subst hk0; exact ⟨rfl, by cases hb; rfl⟩
    · rw [lkl_cons_ne (Ne.symm hk0)] at hb; cases hb
  have m2 : MemR g2 [(0, some (.arr E e ys d))] w' := by
    refine ⟨fun b hb => Nat.lt_of_lt_of_le (m.ilt b hb) t2.size, fun k cs hb => ?_, fun k β T e2 ys2 d2 hb => ?_, fun j k b b' hjk hj hk' => ?_, fun k β T e2 ys2 hb => ?_, fun j k β γ T U e2 e3 ys2 zs2 hjk hj hk' => ?_⟩
    · have := (hlk _ _ hb).2; cases this
    · obtain ⟨rfl, h2⟩ := hlk _ _ hb
      cases h2
      exact ArrR.ofRow (g := g2) (e := e) (f := f) (cells := cells') (bs := bs') t1 hFR hI' (fun _ => rfl) fun b hb => ⟨ob1 b hb, hnI b hb⟩
    · obtain ⟨rfl, _⟩ := hlk _ _ hj
      obtain ⟨rfl, _⟩ := hlk _ _ hk'
      exact absurd rfl hjk
    · obtain ⟨rfl, h2⟩ := hlk _ _ hb
      cases h2
      obtain ⟨n1, n2⟩ := m.fr 0 _ _ _ _ hk
      rw [F1 rfl] at n1 n2
      refine ⟨t4.nodup_iff.2 n1, fun b hb => ?_⟩
      obtain ⟨p1, c, t, p2⟩ := n2 b (t4.mem_iff.1 hb)
      exact ⟨p1, c, t, by rw [hkeepI b p1]; exact p2⟩
    · obtain ⟨rfl, _⟩ := hlk _ _ hj
      obtain ⟨rfl, _⟩ := hlk _ _ hk'
      exact absurd rfl hjk
  refine ⟨_, g2, rfl, m2, ⟨[], rfl, trivial⟩, ⟨t2.os, t2.tape, t2.output, t2.size, fun b hb hn => t2.block b hb fun e0 => hn 0 _ hk (hlive b e0.symm) (ob1 b e0.symm), fun _ h => h, fun _ h => .inl h, fun b hb => ?_, fun k hk' _ => ?_⟩⟩
  · obtain ⟨k, blk, h1, h2⟩ := hb
    obtain ⟨rfl, rfl⟩ := hlk _ _ h1
    left
    rcases h2 with ⟨h2, h3⟩ | ⟨β, T, e2, xs2, h2, h3⟩
    · exact ⟨0, _, hk, .inl ⟨h2, h3⟩⟩
    · cases h2
      exact ⟨0, _, hk, .inr ⟨_, _, _, _, rfl, by rw [F1 rfl]; exact t4.mem_iff.1 h3⟩⟩
  · simp [keys] at hk'
    subst hk'
    refine ⟨by simp [lk], ⟨fun cs' h => (by have := (hlk _ _ h).2; cases this), fun β T e2 xs2 d2 h => ?_⟩, fun cs h => (by rw [hk] at h; cases h)⟩
    obtain ⟨_, h2⟩ := hlk _ _ h
    cases h2
    exact ⟨_, _, _, _, _, hk, rfl, rfl, rfl⟩
end Go.Proofs.YtibhoanjglfaoaaGreat

/-
  DERIVED: THE SHELF's CONTRACTS AT THIS DUMP, IN PLAIN WORDS (tools/lay-plain.mjs out of 'TryShelf.lean', which tools/lay-shelf.mjs wrote): THE SAME DECLARATIONS UNDER THE SAME NAMES: 'import', 'namespace', 'open', 'def', 'theorem' AND NOTHING ELSE: no command of the shelf's: FOR A HAND-IN. Each laying: the table of numbers ('.._ren') and one theorem, a field a fact of the dump's own or the kernel's comparison; each contract: ONE APPLICATION.
-/
namespace Go.Proofs
open Go.Shelf
def Tryz.laysSort_ren : Go.Shelf.Ren := ⟨fun | 6 => 81 | 15 => 123 | 14 => 122 | 28 => 154 | 29 => 155 | 20 => 146 | 21 => 147 | 22 => 148 | 23 => 149 | 24 => 150 | 25 => 151 | 26 => 152 | 27 => 153 | 46 => 170 | 47 => 171 | 48 => 172 | 49 => 173 | 50 => 174 | 57 => 183 | n => n, fun | 22 => 61 | 24 => 72 | 25 => 111 | 3 => 3 | 39 => 151 | 0 => 0 | 53 => 177 | 55 => 179 | 4 => 4 | 46 => 171 | 45 => 170 | 50 => 155 | 5 => 5 | 9 => 9 | 66 => 191 | 70 => 195 | 76 => 201 | 77 => 202 | n => n, fun | n => n⟩
theorem Tryz.laysSort : Go.Proofs.SlLaysF0.n6 Tryz.prog Tryz.laysSort_ren := {
  mixed := by kernel_rfl
  f6 := ⟨Tryz.f81.name, by decide, Tryz.func81.trans (congrArg some (by kernel_rfl))⟩
  f14 := ⟨Tryz.f122.name, by decide, Tryz.func122.trans (congrArg some (by kernel_rfl))⟩
  f15 := Tryz.func123.trans (congrArg some (by kernel_rfl))
  f20 := ⟨Tryz.f146.name, by decide, Tryz.func146.trans (congrArg some (by kernel_rfl))⟩
  f21 := ⟨Tryz.f147.name, by decide, Tryz.func147.trans (congrArg some (by kernel_rfl))⟩
  f22 := ⟨Tryz.f148.name, by decide, Tryz.func148.trans (congrArg some (by kernel_rfl))⟩
  f23 := ⟨Tryz.f149.name, by decide, Tryz.func149.trans (congrArg some (by kernel_rfl))⟩
  f24 := ⟨Tryz.f150.name, by decide, Tryz.func150.trans (congrArg some (by kernel_rfl))⟩
  f25 := ⟨Tryz.f151.name, by decide, Tryz.func151.trans (congrArg some (by kernel_rfl))⟩
  f26 := ⟨Tryz.f152.name, by decide, Tryz.func152.trans (congrArg some (by kernel_rfl))⟩
  f27 := ⟨Tryz.f153.name, by decide, Tryz.func153.trans (congrArg some (by kernel_rfl))⟩
  f28 := Tryz.func154.trans (congrArg some (by kernel_rfl))
  f29 := Tryz.func155.trans (congrArg some (by kernel_rfl))
  f46 := ⟨Tryz.f170.name, by decide, Tryz.func170.trans (congrArg some (by kernel_rfl))⟩
  f47 := Tryz.func171.trans (congrArg some (by kernel_rfl))
  f48 := Tryz.func172.trans (congrArg some (by kernel_rfl))
  f49 := ⟨Tryz.f173.name, by decide, Tryz.func173.trans (congrArg some (by kernel_rfl))⟩
  f50 := ⟨Tryz.f174.name, by decide, Tryz.func174.trans (congrArg some (by kernel_rfl))⟩
  f57 := ⟨Tryz.f183.name, by decide, Tryz.func183.trans (congrArg some (by kernel_rfl))⟩
  t0 := Tryz.underlying0
  a0 := Tryz.isAgg0
  z0 := Tryz.sizeOf0
  v0 := Tryz.zeroValue0
  t3 := Tryz.underlying3
  a3 := Tryz.isAgg3
  z3 := Tryz.sizeOf3
  v3 := Tryz.zeroValue3
  t4 := Tryz.underlying4
  a4 := Tryz.isAgg4
  z4 := Tryz.sizeOf4
  v4 := Tryz.zeroValue4
  t5 := Tryz.underlying5
  a5 := Tryz.isAgg5
  z5 := Tryz.sizeOf5
  v5 := Tryz.zeroValue5
  t9 := Tryz.underlying9
  a9 := Tryz.isAgg9
  z9 := Tryz.sizeOf9
  v9 := Tryz.zeroValue9
  t22 := Tryz.underlying61
  a22 := Tryz.isAgg61
  z22 := Tryz.sizeOf61
  v22 := Tryz.zeroValue61
  t25 := Tryz.underlying111
  a25 := Tryz.isAgg111
  z25 := Tryz.sizeOf111
  v25 := Tryz.zeroValue111
  t39 := Tryz.underlying151
  a39 := Tryz.isAgg151
  z39 := Tryz.sizeOf151
  v39 := Tryz.zeroValue151
  t45 := Tryz.underlying170
  a45 := Tryz.isAgg170
  z45 := Tryz.sizeOf170
  v45 := Tryz.zeroValue170
  t46 := Tryz.underlying171
  a46 := Tryz.isAgg171
  z46 := Tryz.sizeOf171
  v46 := Tryz.zeroValue171
  t50 := Tryz.underlying155
  a50 := Tryz.isAgg155
  z50 := Tryz.sizeOf155
  v50 := Tryz.zeroValue155
  t53 := Tryz.underlying177
  a53 := Tryz.isAgg177
  z53 := Tryz.sizeOf177
  v53 := Tryz.zeroValue177
  t55 := Tryz.underlying179
  a55 := Tryz.isAgg179
  z55 := Tryz.sizeOf179
  v55 := Tryz.zeroValue179
  t66 := Tryz.underlying191
  a66 := Tryz.isAgg191
  z66 := Tryz.sizeOf191
  v66 := Tryz.zeroValue191
  t70 := Tryz.underlying195
  a70 := Tryz.isAgg195
  z70 := Tryz.sizeOf195
  v70 := Tryz.zeroValue195
  t76 := Tryz.underlying201
  a76 := Tryz.isAgg201
  z76 := Tryz.sizeOf201
  v76 := Tryz.zeroValue201
  t77 := Tryz.underlying202
  a77 := Tryz.isAgg202
  z77 := Tryz.sizeOf202
  v77 := Tryz.zeroValue202 }
end Go.Proofs

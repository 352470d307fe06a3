/- Lemmas of the walks, part 4. -/
import Derived.Test.YtibhoanjglfaoaaGreatD3
import Derived.Lib.AppendStr
import Derived.Lib.ConvBytes
import Derived.Lib.BufferRead
import Derived.Laws.CopyRow
import Derived.Laws.NewBlocks
import Derived.Lib.AppendZerosOnto
import Derived.Lib.Overlaps
import Derived.Lib.SliceRun
import Derived.Lib.JoinLaws
import Derived.Shelf.Spec.SlicesInsert
import Derived.Deep.RegionLaw
import Derived.Laws.Small
/- Stores and deltas copied (printed by walk.py) -/
namespace Go.Proofs.YtibhoanjglfaoaaGreat
open Go.RowKit
set_option linter.unusedVariables false
set_option linter.unusedSimpArgs false
set_option maxRecDepth 100000

set_option maxHeartbeats 4000000 in
theorem copyS_c0 (r : Relt) (hr : smallRel r) : AC Tryz.prog 75 [.agg (relC r)] [] (.agg [.c (.int .i64 r.arity), .own 0]) [(0, some (.arr 72 rowE r.rows true))] := by
  refine AC_bodyC (n := 2) (k := 9) (T := [(2, .one (.ptr 9 0))]) (Lf := ((9, some (.box [.c (.int .i64 r.arity), .own 0])) :: [(0, some (.arr 72 rowE r.rows true))])) Tryz.func75 rfl rfl Tryz.ntmps75 rfl Tryz.results75 rfl rfl (by kernel_rfl) rfl rfl ⟨trivial, (by repeat (first | exact trivial | refine ⟨⟨_, rfl, BLe.rf⟩, ?_⟩)), (by repeat (first | exact trivial | refine ⟨⟨rfl, by first | (left; intro h; cases h) | (right; rfl), by first | exact (fun _ h => ⟨_, h⟩) | exact (fun _ _ => ⟨_, rfl⟩)⟩, ?_⟩)), rfl⟩ ?_
  refine AW_seq ?_
  refine AW_region ?_
  refine AL_p (x_box 100 rfl rfl rfl rfl rfl rfl rfl) ?_
  refine AL_p (x_alloc (z := .agg #[.int .i64 0, .slice none 0 0]) 101 rfl (by kernel_rfl) rfl rfl rfl rfl) ?_
  refine AL_nil ?_
  refine AW_seq ?_
  refine AW_region ?_
  refine AL_p (x_field (off := 0) (o' := 0) rfl rfl rfl (by kernel_rfl) rfl) ?_
  refine AL_p (x_load1 rfl rfl rfl (by kernel_rfl) rfl) ?_
  refine AL_p (x_build (zs := [.int .i64 0, .slice none 0 0]) (places := [(0, 1), (1, 1)]) rfl (by kernel_rfl) rfl rfl rfl rfl rfl) ?_
  refine AL_p (x_alloc (z := .agg #[.int .i64 0, .slice none 0 0]) 102 rfl (by kernel_rfl) rfl rfl rfl rfl) ?_
  refine AL_p (x_store (n := 2) rfl rfl rfl rfl (by kernel_rfl) rfl rfl rfl) ?_
  refine AL_nil ?_
  refine AW_seq ?_
  refine AW_seq ?_
  refine AW_region ?_
  refine AL_p (x_field (off := 1) (o' := 1) rfl rfl rfl (by kernel_rfl) rfl) ?_
  refine AL_p (x_load1 rfl rfl rfl (by kernel_rfl) rfl) ?_
  refine AL_p (x_len (E := 72) (n := 1) rfl rfl (by kernel_rfl)) ?_
  refine AL_p (x_move rfl rfl) ?_
  refine AL_nil ?_
  refine AW_block ?_
  refine AW_adopt (T := 72) (e := rowE) 103 102 1 rfl rfl rfl rfl rfl ?_
  refine AW_loop2 (ι := {q : Nat // q ≤ r.rows.length}) (fun p => [(11, .one (.c (.int .i64 ((p.1) : Int))))]) (fun p => [(103, some (.arr 72 rowE (r.rows.take (p.1)) true))]) [1, 2, 3, 10] [100, 101, 102] (fun p => r.rows.length - (p.1)) ⟨0, by omega⟩ (rn []) ?_ ?_
  exact ⟨by (repeat refine ⟨⟨_, rfl, by first | exact VLe.rf | exact vle_int (by dsimp only; omega)⟩, ?_⟩); exact trivial, by (repeat refine ⟨⟨_, rfl, by first | exact BLe.rf | exact BLe.box AllC.rf | exact BLe.arr (by first | exact take_none | exact take_more (by omega))⟩, ?_⟩); exact trivial, by repeat (first | exact trivial | refine ⟨⟨rfl, by first | (left; intro h; cases h) | (right; rfl), by first | exact (fun _ h => ⟨_, h⟩) | exact (fun _ _ => ⟨_, rfl⟩)⟩, ?_⟩), rfl⟩
  rintro ⟨k, hinv⟩
  dsimp only
  have hl := hr.1
  refine AW_seq ?_
  refine AW_region ?_
  refine AL_b (x_lss rfl rfl rfl) (fun b12 h12 => ?_)
  refine AL_nil ?_
  refine AW_seq ?_
  cases b12
  · try simp only [tdy] at h12
    refine AW_condF rfl ?_
    refine AW_exit (BQ_hit ?_)
    refine AW_seq ?_
    refine AW_region ?_
    refine AL_p (x_loadN (n := 2) rfl rfl rfl (by kernel_rfl) rfl rfl) ?_
    refine AL_p (x_store (n := 2) rfl rfl rfl rfl (by kernel_rfl) rfl rfl rfl) ?_
    refine AL_nil ?_
    refine AW_ret ?_
    exact ⟨rn [(9, 101), (0, 103)], ⟨⟨⟨_, rfl, VLe.rf⟩, trivial⟩, ⟨⟨_, rfl, by first | exact BLe.rf | (subst_vars; exact BLe.rf)⟩, ⟨_, rfl, BLe.arr (List.take_of_length_le (by omega))⟩, trivial⟩, trivial, rfl⟩⟩
  try simp only [tdy] at h12
  refine AW_condT rfl ?_
  refine AW_skip ?_
  refine AW_seq ?_
  refine AW_block ?_
  refine AW_seq ?_
  refine AW_region ?_
  refine AL_p (x_move rfl rfl) ?_
  refine AL_p (x_assign rfl rfl) ?_
  refine AL_nil ?_
  refine AW_draw rfl ?_
  refine AL_p (x_field (off := 1) (o' := 1) rfl rfl rfl (by kernel_rfl) rfl) ?_
  refine AL_p (x_load1 rfl rfl rfl (by kernel_rfl) rfl) ?_
  refine AL_p (x_field (off := 1) (o' := 1) rfl rfl rfl (by kernel_rfl) rfl) ?_
  refine AL_p (x_load1 rfl rfl rfl (by kernel_rfl) rfl) ?_
  refine AL_p (x_move rfl rfl) ?_
  refine AL_p (x_index (E := 72) (n := 1) rfl rfl rfl (by kernel_rfl) rfl (k := k) (by omega) (by omega)) ?_
  refine AL_p (x_eloadW (n := 1) rfl rfl (by kernel_rfl) rfl) ?_
  refine AL_p (x_call1 rfl rfl rfl (rowS_c (r.rows[k]'(by omega)) (hr.2 _ (List.getElem_mem _)).1 104) rfl rfl rfl rfl) ?_
  refine AL_p (y_bslice (E := 72) (e := rowE) [.tmp 21] ([r.rows[k]'(by omega)]) 105 rfl rfl rfl rfl rfl rfl rfl rfl FitL.rf rfl rfl rfl rfl rfl rfl (by kernel_rfl)) ?_
  refine AL_p (y_append 106 rfl rfl rfl rfl rfl rfl rfl rfl (by kernel_rfl) (by have := hr.1; simp only [List.length_take, List.length_cons, List.length_nil]; omega)) ?_
  refine AL_p (x_field (off := 1) (o' := 1) rfl rfl rfl (by kernel_rfl) rfl) ?_
  refine AL_p (x_store (n := 1) rfl rfl rfl rfl (by kernel_rfl) rfl rfl rfl) ?_
  refine AL_nild (by kernel_rfl) ?_
  refine AW_region ?_
  refine AL_p (x_add rfl rfl rfl (IntWalk.i64_in _ (by omega))) ?_
  refine AL_p (x_move rfl rfl) ?_
  refine AL_nil ?_
  refine ⟨⟨k + 1, by omega⟩, rn [(103, 106)], ?_, by dsimp only; omega⟩
  exact ⟨by (repeat refine ⟨⟨_, rfl, by first | exact VLe.rf | exact vle_int (by dsimp only; omega)⟩, ?_⟩); exact trivial, by (repeat refine ⟨⟨_, rfl, by first | exact BLe.rf | exact BLe.box AllC.rf | exact BLe.arr (by first | exact take_none | exact take_more (by omega))⟩, ?_⟩); exact trivial, by repeat (first | exact trivial | refine ⟨⟨rfl, by first | (left; intro h; cases h) | (right; rfl), by first | exact (fun _ h => ⟨_, h⟩) | exact (fun _ _ => ⟨_, rfl⟩)⟩, ?_⟩), rfl⟩
theorem copyS_c (r : Relt) (hr : smallRel r) (k : Nat) : AC Tryz.prog 75 [.agg (relC r)] [] (.agg [.c (.int .i64 r.arity), .own k]) [(k, some (.arr 72 rowE r.rows true))] := AC.at (copyS_c0 r hr) k

set_option maxHeartbeats 4000000 in
theorem copyI_c0 (r : Relt) (hr : smallRel r) : AC Tryz.prog 68 [.agg (relC r)] [] (.agg [.c (.int .i64 r.arity), .own 0]) [(0, some (.arr 72 rowE r.rows true))] := by
  refine AC_bodyC (n := 2) (k := 9) (T := [(2, .one (.ptr 9 0))]) (Lf := ((9, some (.box [.c (.int .i64 r.arity), .own 0])) :: [(0, some (.arr 72 rowE r.rows true))])) Tryz.func68 rfl rfl Tryz.ntmps68 rfl Tryz.results68 rfl rfl (by kernel_rfl) rfl rfl ⟨trivial, (by repeat (first | exact trivial | refine ⟨⟨_, rfl, BLe.rf⟩, ?_⟩)), (by repeat (first | exact trivial | refine ⟨⟨rfl, by first | (left; intro h; cases h) | (right; rfl), by first | exact (fun _ h => ⟨_, h⟩) | exact (fun _ _ => ⟨_, rfl⟩)⟩, ?_⟩)), rfl⟩ ?_
  refine AW_seq ?_
  refine AW_region ?_
  refine AL_p (x_box 100 rfl rfl rfl rfl rfl rfl rfl) ?_
  refine AL_p (x_alloc (z := .agg #[.int .i64 0, .slice none 0 0]) 101 rfl (by kernel_rfl) rfl rfl rfl rfl) ?_
  refine AL_nil ?_
  refine AW_seq ?_
  refine AW_region ?_
  refine AL_p (x_field (off := 0) (o' := 0) rfl rfl rfl (by kernel_rfl) rfl) ?_
  refine AL_p (x_load1 rfl rfl rfl (by kernel_rfl) rfl) ?_
  refine AL_p (x_build (zs := [.int .i64 0, .slice none 0 0]) (places := [(0, 1), (1, 1)]) rfl (by kernel_rfl) rfl rfl rfl rfl rfl) ?_
  refine AL_p (x_alloc (z := .agg #[.int .i64 0, .slice none 0 0]) 102 rfl (by kernel_rfl) rfl rfl rfl rfl) ?_
  refine AL_p (x_store (n := 2) rfl rfl rfl rfl (by kernel_rfl) rfl rfl rfl) ?_
  refine AL_nil ?_
  refine AW_seq ?_
  refine AW_seq ?_
  refine AW_region ?_
  refine AL_p (x_field (off := 1) (o' := 1) rfl rfl rfl (by kernel_rfl) rfl) ?_
  refine AL_p (x_load1 rfl rfl rfl (by kernel_rfl) rfl) ?_
  refine AL_p (x_len (E := 72) (n := 1) rfl rfl (by kernel_rfl)) ?_
  refine AL_p (x_move rfl rfl) ?_
  refine AL_nil ?_
  refine AW_block ?_
  refine AW_adopt (T := 72) (e := rowE) 103 102 1 rfl rfl rfl rfl rfl ?_
  refine AW_loop2 (ι := {q : Nat // q ≤ r.rows.length}) (fun p => [(12, .one (.c (.int .i64 ((p.1) : Int))))]) (fun p => [(103, some (.arr 72 rowE (r.rows.take (p.1)) true))]) [2, 3, 10, 11] [100, 101, 102] (fun p => r.rows.length - (p.1)) ⟨0, by omega⟩ (rn []) ?_ ?_
  exact ⟨by (repeat refine ⟨⟨_, rfl, by first | exact VLe.rf | exact vle_int (by dsimp only; omega)⟩, ?_⟩); exact trivial, by (repeat refine ⟨⟨_, rfl, by first | exact BLe.rf | exact BLe.box AllC.rf | exact BLe.arr (by first | exact take_none | exact take_more (by omega))⟩, ?_⟩); exact trivial, by repeat (first | exact trivial | refine ⟨⟨rfl, by first | (left; intro h; cases h) | (right; rfl), by first | exact (fun _ h => ⟨_, h⟩) | exact (fun _ _ => ⟨_, rfl⟩)⟩, ?_⟩), rfl⟩
  rintro ⟨k, hinv⟩
  dsimp only
  have hl := hr.1
  refine AW_seq ?_
  refine AW_region ?_
  refine AL_b (x_lss rfl rfl rfl) (fun b13 h13 => ?_)
  refine AL_nil ?_
  refine AW_seq ?_
  cases b13
  · try simp only [tdy] at h13
    refine AW_condF rfl ?_
    refine AW_exit (BQ_hit ?_)
    refine AW_seq ?_
    refine AW_region ?_
    refine AL_p (x_loadN (n := 2) rfl rfl rfl (by kernel_rfl) rfl rfl) ?_
    refine AL_p (x_store (n := 2) rfl rfl rfl rfl (by kernel_rfl) rfl rfl rfl) ?_
    refine AL_nil ?_
    refine AW_ret ?_
    exact ⟨rn [(9, 101), (0, 103)], ⟨⟨⟨_, rfl, VLe.rf⟩, trivial⟩, ⟨⟨_, rfl, by first | exact BLe.rf | (subst_vars; exact BLe.rf)⟩, ⟨_, rfl, BLe.arr (List.take_of_length_le (by omega))⟩, trivial⟩, trivial, rfl⟩⟩
  try simp only [tdy] at h13
  refine AW_condT rfl ?_
  refine AW_skip ?_
  refine AW_seq ?_
  refine AW_block ?_
  refine AW_seq ?_
  refine AW_region ?_
  refine AL_p (x_index (E := 72) (n := 1) rfl rfl rfl (by kernel_rfl) rfl (k := k) (by omega) (by omega)) ?_
  refine AL_p (x_eloadW (n := 1) rfl rfl (by kernel_rfl) rfl) ?_
  refine AL_p (x_alloc (z := .agg #[.slice none 0 0]) 104 rfl (by kernel_rfl) rfl rfl rfl rfl) ?_
  refine AL_p (x_store (n := 1) rfl rfl rfl rfl (by kernel_rfl) rfl rfl rfl) ?_
  refine AL_nil ?_
  refine AW_draw rfl ?_
  refine AL_p (x_field (off := 1) (o' := 1) rfl rfl rfl (by kernel_rfl) rfl) ?_
  refine AL_p (x_load1 rfl rfl rfl (by kernel_rfl) rfl) ?_
  refine AL_p (x_loadN (n := 1) rfl rfl rfl (by kernel_rfl) rfl rfl) ?_
  refine AL_p (x_call1 rfl rfl rfl (rowI_c (r.rows[k]'(by omega)) (hr.2 _ (List.getElem_mem _)).1 105) rfl rfl rfl rfl) ?_
  refine AL_p (y_bslice (E := 72) (e := rowE) [.tmp 19] ([r.rows[k]'(by omega)]) 106 rfl rfl rfl rfl rfl rfl rfl rfl FitL.rf rfl rfl rfl rfl rfl rfl (by kernel_rfl)) ?_
  refine AL_p (y_append 107 rfl rfl rfl rfl rfl rfl rfl rfl (by kernel_rfl) (by have := hr.1; simp only [List.length_take, List.length_cons, List.length_nil]; omega)) ?_
  refine AL_p (x_field (off := 1) (o' := 1) rfl rfl rfl (by kernel_rfl) rfl) ?_
  refine AL_p (x_store (n := 1) rfl rfl rfl rfl (by kernel_rfl) rfl rfl rfl) ?_
  refine AL_nild (by kernel_rfl) ?_
  refine AW_region ?_
  refine AL_p (x_add rfl rfl rfl (IntWalk.i64_in _ (by omega))) ?_
  refine AL_p (x_move rfl rfl) ?_
  refine AL_nil ?_
  refine ⟨⟨k + 1, by omega⟩, rn [(103, 107)], ?_, by dsimp only; omega⟩
  exact ⟨by (repeat refine ⟨⟨_, rfl, by first | exact VLe.rf | exact vle_int (by dsimp only; omega)⟩, ?_⟩); exact trivial, by (repeat refine ⟨⟨_, rfl, by first | exact BLe.rf | exact BLe.box AllC.rf | exact BLe.arr (by first | exact take_none | exact take_more (by omega))⟩, ?_⟩); exact trivial, by repeat (first | exact trivial | refine ⟨⟨rfl, by first | (left; intro h; cases h) | (right; rfl), by first | exact (fun _ h => ⟨_, h⟩) | exact (fun _ _ => ⟨_, rfl⟩)⟩, ?_⟩), rfl⟩
theorem copyI_c (r : Relt) (hr : smallRel r) (k : Nat) : AC Tryz.prog 68 [.agg (relC r)] [] (.agg [.c (.int .i64 r.arity), .own k]) [(k, some (.arr 72 rowE r.rows true))] := AC.at (copyI_c0 r hr) k


set_option maxHeartbeats 4000000 in
theorem deltaBackI_c0 (d : Deltat) (hd : smallDelta d) : AC Tryz.prog 24 [.agg (deltaC d)] [] (.agg [.own 0]) [(0, some (.arr 65 changeE (deltaBack d).changes true))] := by
  refine AC_bodyC (n := 1) (k := 9) (T := [(2, .one (.ptr 9 0))]) (Lf := ((9, some (.box [.own 0])) :: [(0, some (.arr 65 changeE (deltaBack d).changes true))])) Tryz.func24 rfl rfl Tryz.ntmps24 rfl Tryz.results24 rfl rfl (by kernel_rfl) rfl rfl ⟨trivial, (by repeat (first | exact trivial | refine ⟨⟨_, rfl, BLe.rf⟩, ?_⟩)), (by repeat (first | exact trivial | refine ⟨⟨rfl, by first | (left; intro h; cases h) | (right; rfl), by first | exact (fun _ h => ⟨_, h⟩) | exact (fun _ _ => ⟨_, rfl⟩)⟩, ?_⟩)), rfl⟩ ?_
  refine AW_seq ?_
  refine AW_region ?_
  refine AL_p (x_box 100 rfl rfl rfl rfl rfl rfl rfl) ?_
  refine AL_p (x_alloc (z := .agg #[.slice none 0 0]) 101 rfl (by kernel_rfl) rfl rfl rfl rfl) ?_
  refine AL_nil ?_
  refine AW_seq ?_
  refine AW_region ?_
  refine AL_p (x_build (zs := [.slice none 0 0]) (places := [(0, 1)]) rfl (by kernel_rfl) rfl rfl rfl rfl rfl) ?_
  refine AL_p (x_alloc (z := .agg #[.slice none 0 0]) 102 rfl (by kernel_rfl) rfl rfl rfl rfl) ?_
  refine AL_p (x_store (n := 1) rfl rfl rfl rfl (by kernel_rfl) rfl rfl rfl) ?_
  refine AL_nil ?_
  refine AW_seq ?_
  refine AW_seq ?_
  refine AW_region ?_
  refine AL_p (x_loadN (n := 1) rfl rfl rfl (by kernel_rfl) rfl rfl) ?_
  refine AL_b (x_call0 rfl rfl rfl (deltaOkI_c _ hd) rfl rfl) (fun b8 h8 => ?_)
  refine AL_p (x_not rfl rfl) ?_
  refine AL_nil ?_
  cases b8
  · try simp only [tdy] at h8
    have hno := deltaBack_no h8
    refine AW_condT rfl ?_
    refine AW_seq ?_
    refine AW_region ?_
    refine AL_p (x_loadN (n := 1) rfl rfl rfl (by kernel_rfl) rfl rfl) ?_
    refine AL_p (x_store (n := 1) rfl rfl rfl rfl (by kernel_rfl) rfl rfl rfl) ?_
    refine AL_nil ?_
    refine AW_adopt (T := 65) (e := changeE) 109 101 0 rfl rfl rfl rfl rfl ?_
    refine AW_ret ?_
    exact ⟨rn [(9, 101), (0, 109)], ⟨⟨⟨_, rfl, VLe.rf⟩, trivial⟩, ⟨⟨_, rfl, by first | (refine ble_eq ?_; rw [hno]; done) | (refine ble_eq ?_; rw [hno]; rfl) | exact BLe.rf⟩, ⟨_, rfl, by first | (refine BLe.arr ?_; rw [hno]; done) | (refine BLe.arr ?_; rw [hno]; exact mapTo_all (by omega)) | exact BLe.rf⟩, trivial⟩, trivial, rfl⟩⟩
  try simp only [tdy] at h8
  have hno := deltaBack_ok h8
  refine AW_condF rfl ?_
  refine AW_skip ?_
  refine AW_seq ?_
  refine AW_seq ?_
  refine AW_region ?_
  refine AL_p (x_field (off := 0) (o' := 0) rfl rfl rfl (by kernel_rfl) rfl) ?_
  refine AL_p (x_load1 rfl rfl rfl (by kernel_rfl) rfl) ?_
  refine AL_p (x_len (E := 65) (n := 5) rfl rfl (by kernel_rfl)) ?_
  refine AL_p (x_move rfl rfl) ?_
  refine AL_nil ?_
  refine AW_block ?_
  refine AW_adopt (T := 65) (e := changeE) 103 102 0 rfl rfl rfl rfl rfl ?_
  refine AW_loop2 (ι := {q : Nat // q ≤ d.changes.length}) (fun p => [(14, .one (.c (.int .i64 ((p.1) : Int))))]) (fun p => [(103, some (.arr 65 changeE (mapTo backChange d.changes (p.1)) true))]) [2, 3, 12, 13] [100, 101, 102] (fun p => d.changes.length - (p.1)) ⟨0, by omega⟩ (rn []) ?_ ?_
  exact ⟨by (repeat refine ⟨⟨_, rfl, by first | exact VLe.rf | exact vle_int (by dsimp only; omega)⟩, ?_⟩); exact trivial, by (repeat refine ⟨⟨_, rfl, by first | exact BLe.rf | exact BLe.box AllC.rf | exact BLe.arr (by first | exact mapTo_zero | exact mapTo_more (by omega))⟩, ?_⟩); exact trivial, by repeat (first | exact trivial | refine ⟨⟨rfl, by first | (left; intro h; cases h) | (right; rfl), by first | exact (fun _ h => ⟨_, h⟩) | exact (fun _ _ => ⟨_, rfl⟩)⟩, ?_⟩), rfl⟩
  rintro ⟨k, hinv⟩
  dsimp only
  have hl := hd.1
  refine AW_seq ?_
  refine AW_region ?_
  refine AL_b (x_lss rfl rfl rfl) (fun b15 h15 => ?_)
  refine AL_nil ?_
  refine AW_seq ?_
  cases b15
  · try simp only [tdy] at h15
    refine AW_condF rfl ?_
    refine AW_exit (BQ_hit ?_)
    refine AW_seq ?_
    refine AW_region ?_
    refine AL_p (x_loadN (n := 1) rfl rfl rfl (by kernel_rfl) rfl rfl) ?_
    refine AL_p (x_store (n := 1) rfl rfl rfl rfl (by kernel_rfl) rfl rfl rfl) ?_
    refine AL_nil ?_
    refine AW_ret ?_
    exact ⟨rn [(9, 101), (0, 103)], ⟨⟨⟨_, rfl, VLe.rf⟩, trivial⟩, ⟨⟨_, rfl, by first | (refine ble_eq ?_; rw [hno]; done) | (refine ble_eq ?_; rw [hno]; rfl) | exact BLe.rf⟩, ⟨_, rfl, by first | (refine BLe.arr ?_; rw [hno]; done) | (refine BLe.arr ?_; rw [hno]; exact mapTo_all (by omega)) | exact BLe.rf⟩, trivial⟩, trivial, rfl⟩⟩
  try simp only [tdy] at h15
  refine AW_condT rfl ?_
  refine AW_skip ?_
  refine AW_seq ?_
  refine AW_block ?_
  refine AW_seq ?_
  refine AW_region ?_
  refine AL_p (x_index (E := 65) (n := 5) rfl rfl rfl (by kernel_rfl) rfl (k := k) (by omega) (by omega)) ?_
  refine AL_p (x_eloadW (n := 5) rfl rfl (by kernel_rfl) rfl) ?_
  refine AL_p (x_alloc (z := .agg #[.string ⟨#[]⟩, .int .i64 0, .slice none 0 0, .int .i64 0, .slice none 0 0]) 104 rfl (by kernel_rfl) rfl rfl rfl rfl) ?_
  refine AL_p (x_store (n := 5) rfl rfl rfl rfl (by kernel_rfl) rfl rfl rfl) ?_
  refine AL_nil ?_
  refine AW_draw rfl ?_
  refine AL_p (x_field (off := 0) (o' := 0) rfl rfl rfl (by kernel_rfl) rfl) ?_
  refine AL_p (x_load1 rfl rfl rfl (by kernel_rfl) rfl) ?_
  refine AL_p (x_field (off := 0) (o' := 0) rfl rfl rfl (by kernel_rfl) rfl) ?_
  refine AL_p (x_load1 rfl rfl rfl (by kernel_rfl) rfl) ?_
  refine AL_p (x_field (off := 3) (o' := 3) rfl rfl rfl (by kernel_rfl) rfl) ?_
  refine AL_p (x_loadN (n := 2) rfl rfl rfl (by kernel_rfl) rfl rfl) ?_
  refine AL_p (x_call1 rfl rfl rfl (copyI_c (d.changes[k]'(by omega)).minus (hd.2 (d.changes[k]'(by omega)) (List.getElem_mem _)).2.2 105) rfl rfl rfl rfl) ?_
  refine AL_p (x_field (off := 1) (o' := 1) rfl rfl rfl (by kernel_rfl) rfl) ?_
  refine AL_p (x_loadN (n := 2) rfl rfl rfl (by kernel_rfl) rfl rfl) ?_
  refine AL_p (x_call1 rfl rfl rfl (copyI_c (d.changes[k]'(by omega)).plus (hd.2 (d.changes[k]'(by omega)) (List.getElem_mem _)).2.1 106) rfl rfl rfl rfl) ?_
  refine AL_p (x_build (zs := [.string ⟨#[]⟩, .int .i64 0, .slice none 0 0, .int .i64 0, .slice none 0 0]) (places := [(0, 1), (1, 2), (3, 2)]) rfl (by kernel_rfl) rfl rfl rfl rfl rfl) ?_
  refine AL_p (y_bslice (E := 65) (e := changeE) [.tmp 28] ([backChange (d.changes[k]'(by omega))]) 107 rfl rfl rfl rfl rfl rfl rfl rfl FitL.rf rfl rfl rfl rfl rfl rfl (by kernel_rfl)) ?_
  refine AL_p (y_append 108 rfl rfl rfl rfl rfl rfl rfl rfl (by kernel_rfl) (by have := hd.1; have := mapTo_len (f := backChange) (xs := d.changes) (k := k); simp only [List.length_cons, List.length_nil]; omega)) ?_
  refine AL_p (x_field (off := 0) (o' := 0) rfl rfl rfl (by kernel_rfl) rfl) ?_
  refine AL_p (x_store (n := 1) rfl rfl rfl rfl (by kernel_rfl) rfl rfl rfl) ?_
  refine AL_nild (by kernel_rfl) ?_
  refine AW_region ?_
  refine AL_p (x_add rfl rfl rfl (IntWalk.i64_in _ (by omega))) ?_
  refine AL_p (x_move rfl rfl) ?_
  refine AL_nil ?_
  refine ⟨⟨k + 1, by omega⟩, rn [(103, 108)], ?_, by dsimp only; omega⟩
  exact ⟨by (repeat refine ⟨⟨_, rfl, by first | exact VLe.rf | exact vle_int (by dsimp only; omega)⟩, ?_⟩); exact trivial, by (repeat refine ⟨⟨_, rfl, by first | exact BLe.rf | exact BLe.box AllC.rf | exact BLe.arr (by first | exact mapTo_zero | exact mapTo_more (by omega))⟩, ?_⟩); exact trivial, by repeat (first | exact trivial | refine ⟨⟨rfl, by first | (left; intro h; cases h) | (right; rfl), by first | exact (fun _ h => ⟨_, h⟩) | exact (fun _ _ => ⟨_, rfl⟩)⟩, ?_⟩), rfl⟩
theorem deltaBackI_c (d : Deltat) (hd : smallDelta d) (k : Nat) : AC Tryz.prog 24 [.agg (deltaC d)] [] (.agg [.own k]) [(k, some (.arr 65 changeE (deltaBack d).changes true))] := AC.at (deltaBackI_c0 d hd) k

theorem siftN_c (a b : Relt) (ha : smallRel a) (hb : smallRel b) (k : Nat) : AC Tryz.prog 33 [.agg (relC a), .agg (relC b), .one (.c (.bool false))] [] (.agg [.c (.int .i64 a.arity), .own k]) [(k, some (.arr 72 rowE (a.rows.filter (fun r => !hasRow b.rows r)) true))] := by
  have h := siftS_c a b false ha hb k
  simpa only [beq_false] using h

set_option maxHeartbeats 4000000 in
theorem deltaOfI_c0 (a b : Storet) (ha : smallStore a) (hb : smallStore b) : AC Tryz.prog 22 [.agg (storeC a), .agg (storeC b)] [] (.tup [.agg [.own 0], .one (.c (.bool (deltaOf a b).2))]) [(0, some (.arr 65 changeE (deltaOf a b).1.changes true))] := by
  refine AC_bodyCT (n := 1) (k := 9) (T := [(4, .one (.ptr 9 0)), (5, .one (.c (.bool (deltaOf a b).2)))]) (Lf := ((9, some (.box [.own 0])) :: [(0, some (.arr 65 changeE (deltaOf a b).1.changes true))])) Tryz.func22 rfl rfl Tryz.ntmps22 rfl Tryz.results22 rfl rfl rfl rfl (by kernel_rfl) rfl rfl ⟨trivial, (by repeat (first | exact trivial | refine ⟨⟨_, rfl, BLe.rf⟩, ?_⟩)), (by repeat (first | exact trivial | refine ⟨⟨rfl, by first | (left; intro h; cases h) | (right; rfl), by first | exact (fun _ h => ⟨_, h⟩) | exact (fun _ _ => ⟨_, rfl⟩)⟩, ?_⟩)), rfl⟩ ?_
  refine AW_seq ?_
  refine AW_region ?_
  refine AL_p (x_box 100 rfl rfl rfl rfl rfl rfl rfl) ?_
  refine AL_p (x_box 101 rfl rfl rfl rfl rfl rfl rfl) ?_
  refine AL_p (x_alloc (z := .agg #[.slice none 0 0]) 102 rfl (by kernel_rfl) rfl rfl rfl rfl) ?_
  refine AL_p (x_assign rfl rfl) ?_
  refine AL_nil ?_
  refine AW_seq ?_
  refine AW_seq ?_
  refine AW_region ?_
  refine AL_p (x_loadN (n := 1) rfl rfl rfl (by kernel_rfl) rfl rfl) ?_
  refine AL_b (x_call0 rfl rfl rfl (storeOkI_c _ (by assumption)) rfl rfl) (fun b12 h12 => ?_)
  refine AL_p (x_not rfl rfl) ?_
  refine AL_p (x_move rfl rfl) ?_
  cases b12
  · try simp only [tdy] at h12
    have hno := deltaOf_a (b := b) h12
    refine AL_o rfl rfl rfl rfl ?_
    refine AL_o rfl rfl rfl rfl ?_
    refine AL_o rfl rfl rfl rfl ?_
    refine AL_p (x_pickT rfl rfl rfl) ?_
    refine AL_p (x_move rfl rfl) ?_
    refine AL_o rfl rfl rfl rfl ?_
    refine AL_o rfl rfl rfl rfl ?_
    refine AL_o rfl rfl rfl rfl ?_
    refine AL_o rfl rfl rfl rfl ?_
    refine AL_o rfl rfl rfl rfl ?_
    refine AL_o rfl rfl rfl rfl ?_
    refine AL_o rfl rfl rfl rfl ?_
    refine AL_p (x_pickT rfl rfl rfl) ?_
    refine AL_nil ?_
    refine AW_condT rfl ?_
    refine AW_seq ?_
    refine AW_region ?_
    refine AL_p (x_build (zs := [.slice none 0 0]) (places := [(0, 1)]) rfl (by kernel_rfl) rfl rfl rfl rfl rfl) ?_
    refine AL_p (x_store (n := 1) rfl rfl rfl rfl (by kernel_rfl) rfl rfl rfl) ?_
    refine AL_p (x_assign rfl rfl) ?_
    refine AL_nil ?_
    refine AW_adopt (T := 65) (e := changeE) 103 102 0 rfl rfl rfl rfl rfl ?_
    refine AW_ret ?_
    exact ⟨rn [(9, 102), (0, 103)], ⟨⟨⟨_, rfl, VLe.rf⟩, ⟨_, rfl, by first | (refine vle_bool ?_; rw [hno]; done) | exact VLe.rf | (refine vle_bool ?_; rw [hno]; apply Eq.symm; assumption) | exact vle_bool (by rw [hno])⟩, trivial⟩, ⟨⟨_, rfl, by first | (refine ble_eq ?_; rw [hno]; done) | (refine ble_eq ?_; rw [hno]; rfl) | exact BLe.rf⟩, ⟨_, rfl, by first | (refine BLe.arr ?_; rw [hno]; done) | (refine BLe.arr ?_; rw [hno]; rfl) | exact BLe.rf⟩, trivial⟩, trivial, rfl⟩⟩
  try simp only [tdy] at h12
  refine AL_g rfl rfl (x_loadN (n := 1) rfl rfl rfl (by kernel_rfl) rfl rfl) ?_
  refine AL_gb rfl rfl (x_call0 rfl rfl rfl (storeOkI_c _ (by assumption)) rfl rfl) (fun b16 h16 => ?_)
  refine AL_g rfl rfl (x_not rfl rfl) ?_
  refine AL_p (x_pickF rfl rfl rfl) ?_
  refine AL_p (x_move rfl rfl) ?_
  cases b16
  · try simp only [tdy] at h16
    have hno := deltaOf_b (a := a) h16
    refine AL_o rfl rfl rfl rfl ?_
    refine AL_o rfl rfl rfl rfl ?_
    refine AL_o rfl rfl rfl rfl ?_
    refine AL_o rfl rfl rfl rfl ?_
    refine AL_o rfl rfl rfl rfl ?_
    refine AL_o rfl rfl rfl rfl ?_
    refine AL_o rfl rfl rfl rfl ?_
    refine AL_p (x_pickT rfl rfl rfl) ?_
    refine AL_nil ?_
    refine AW_condT rfl ?_
    refine AW_seq ?_
    refine AW_region ?_
    refine AL_p (x_build (zs := [.slice none 0 0]) (places := [(0, 1)]) rfl (by kernel_rfl) rfl rfl rfl rfl rfl) ?_
    refine AL_p (x_store (n := 1) rfl rfl rfl rfl (by kernel_rfl) rfl rfl rfl) ?_
    refine AL_p (x_assign rfl rfl) ?_
    refine AL_nil ?_
    refine AW_adopt (T := 65) (e := changeE) 103 102 0 rfl rfl rfl rfl rfl ?_
    refine AW_ret ?_
    exact ⟨rn [(9, 102), (0, 103)], ⟨⟨⟨_, rfl, VLe.rf⟩, ⟨_, rfl, by first | (refine vle_bool ?_; rw [hno]; done) | exact VLe.rf | (refine vle_bool ?_; rw [hno]; apply Eq.symm; assumption) | exact vle_bool (by rw [hno])⟩, trivial⟩, ⟨⟨_, rfl, by first | (refine ble_eq ?_; rw [hno]; done) | (refine ble_eq ?_; rw [hno]; rfl) | exact BLe.rf⟩, ⟨_, rfl, by first | (refine BLe.arr ?_; rw [hno]; done) | (refine BLe.arr ?_; rw [hno]; rfl) | exact BLe.rf⟩, trivial⟩, trivial, rfl⟩⟩
  try simp only [tdy] at h16
  refine AL_g rfl rfl (x_field (off := 0) (o' := 0) rfl rfl rfl (by kernel_rfl) rfl) ?_
  refine AL_g rfl rfl (x_load1 rfl rfl rfl (by kernel_rfl) rfl) ?_
  refine AL_g rfl rfl (x_len (E := 84) (n := 3) rfl rfl (by kernel_rfl)) ?_
  refine AL_g rfl rfl (x_field (off := 0) (o' := 0) rfl rfl rfl (by kernel_rfl) rfl) ?_
  refine AL_g rfl rfl (x_load1 rfl rfl rfl (by kernel_rfl) rfl) ?_
  refine AL_g rfl rfl (x_len (E := 84) (n := 3) rfl rfl (by kernel_rfl)) ?_
  refine AL_gb rfl rfl (x_neq rfl rfl rfl) (fun b26 h26 => ?_)
  refine AL_p (x_pickF rfl rfl rfl) ?_
  refine AL_nil ?_
  cases b26
  rotate_left
  · try simp only [tdy] at h26
    have hno := deltaOf_len h26
    refine AW_condT rfl ?_
    refine AW_seq ?_
    refine AW_region ?_
    refine AL_p (x_build (zs := [.slice none 0 0]) (places := [(0, 1)]) rfl (by kernel_rfl) rfl rfl rfl rfl rfl) ?_
    refine AL_p (x_store (n := 1) rfl rfl rfl rfl (by kernel_rfl) rfl rfl rfl) ?_
    refine AL_p (x_assign rfl rfl) ?_
    refine AL_nil ?_
    refine AW_adopt (T := 65) (e := changeE) 103 102 0 rfl rfl rfl rfl rfl ?_
    refine AW_ret ?_
    exact ⟨rn [(9, 102), (0, 103)], ⟨⟨⟨_, rfl, VLe.rf⟩, ⟨_, rfl, by first | (refine vle_bool ?_; rw [hno]; done) | exact VLe.rf | (refine vle_bool ?_; rw [hno]; apply Eq.symm; assumption) | exact vle_bool (by rw [hno])⟩, trivial⟩, ⟨⟨_, rfl, by first | (refine ble_eq ?_; rw [hno]; done) | (refine ble_eq ?_; rw [hno]; rfl) | exact BLe.rf⟩, ⟨_, rfl, by first | (refine BLe.arr ?_; rw [hno]; done) | (refine BLe.arr ?_; rw [hno]; rfl) | exact BLe.rf⟩, trivial⟩, trivial, rfl⟩⟩
  try simp only [tdy] at h26
  refine AW_condF rfl ?_
  refine AW_skip ?_
  refine AW_seq ?_
  refine AW_region ?_
  refine AL_p (x_build (zs := [.slice none 0 0]) (places := [(0, 1)]) rfl (by kernel_rfl) rfl rfl rfl rfl rfl) ?_
  refine AL_p (x_alloc (z := .agg #[.slice none 0 0]) 104 rfl (by kernel_rfl) rfl rfl rfl rfl) ?_
  refine AL_p (x_store (n := 1) rfl rfl rfl rfl (by kernel_rfl) rfl rfl rfl) ?_
  refine AL_nil ?_
  refine AW_seq ?_
  refine AW_seq ?_
  refine AW_region ?_
  refine AL_p (x_field (off := 0) (o' := 0) rfl rfl rfl (by kernel_rfl) rfl) ?_
  refine AL_p (x_load1 rfl rfl rfl (by kernel_rfl) rfl) ?_
  refine AL_p (x_len (E := 84) (n := 3) rfl rfl (by kernel_rfl)) ?_
  refine AL_p (x_move rfl rfl) ?_
  refine AL_nil ?_
  refine AW_block ?_
  refine AW_adopt (T := 65) (e := changeE) 105 104 0 rfl rfl rfl rfl rfl ?_
  refine AW_loop2 (ι := {q : Nat // q ≤ a.rels.length ∧ AllAt (pairAt a.rels b.rels) q}) (fun p => [(33, .one (.c (.int .i64 ((p.1) : Int))))]) (fun p => [(105, some (.arr 65 changeE (ofTo a.rels b.rels (p.1)) true))]) [3, 4, 6, 31, 32] [100, 101, 102, 104] (fun p => a.rels.length - (p.1)) ⟨0, ⟨by omega, .zero⟩⟩ (rn []) ?_ ?_
  exact ⟨by (repeat refine ⟨⟨_, rfl, by first | exact VLe.rf | exact vle_int (by dsimp only; omega)⟩, ?_⟩); exact trivial, by (repeat refine ⟨⟨_, rfl, by first | exact BLe.rf | exact BLe.box AllC.rf | exact BLe.arr (by first | exact ofTo_zero | exact ofTo_yes (by omega) (by omega) (by simp only [ofAt]; omega) | exact ofTo_no (by omega) (by omega) (by simp only [ofAt]; omega))⟩, ?_⟩); exact trivial, by repeat (first | exact trivial | refine ⟨⟨rfl, by first | (left; intro h; cases h) | (right; rfl), by first | exact (fun _ h => ⟨_, h⟩) | exact (fun _ _ => ⟨_, rfl⟩)⟩, ?_⟩), rfl⟩
  rintro ⟨k, hinv⟩
  dsimp only
  have hk := hinv.1
  have hA := hinv.2
  have hl := ha.1
  refine AW_seq ?_
  refine AW_region ?_
  refine AL_b (x_lss rfl rfl rfl) (fun b34 h34 => ?_)
  refine AL_nil ?_
  refine AW_seq ?_
  cases b34
  · try simp only [tdy] at h34
    have hno := deltaOf_good h12 h16 h26 hA (by omega)
    refine AW_condF rfl ?_
    refine AW_exit (BQ_hit ?_)
    refine AW_seq ?_
    refine AW_region ?_
    refine AL_p (x_loadN (n := 1) rfl rfl rfl (by kernel_rfl) rfl rfl) ?_
    refine AL_p (x_store (n := 1) rfl rfl rfl rfl (by kernel_rfl) rfl rfl rfl) ?_
    refine AL_p (x_assign rfl rfl) ?_
    refine AL_nil ?_
    refine AW_ret ?_
    exact ⟨rn [(9, 102), (0, 105)], ⟨⟨⟨_, rfl, VLe.rf⟩, ⟨_, rfl, by first | (refine vle_bool ?_; rw [hno]; done) | exact VLe.rf | (refine vle_bool ?_; rw [hno]; apply Eq.symm; assumption) | exact vle_bool (by rw [hno])⟩, trivial⟩, ⟨⟨_, rfl, by first | (refine ble_eq ?_; rw [hno]; done) | (refine ble_eq ?_; rw [hno]; rfl) | exact BLe.rf⟩, ⟨_, rfl, by first | (refine BLe.arr ?_; rw [hno]; done) | (refine BLe.arr ?_; rw [hno]; rfl) | exact BLe.rf⟩, trivial⟩, trivial, rfl⟩⟩
  try simp only [tdy] at h34
  refine AW_condT rfl ?_
  refine AW_skip ?_
  refine AW_seq ?_
  refine AW_block ?_
  refine AW_seq ?_
  refine AW_region ?_
  refine AL_p (x_move rfl rfl) ?_
  refine AL_p (x_index (E := 84) (n := 3) rfl rfl rfl (by kernel_rfl) rfl (k := k) (by omega) (by omega)) ?_
  refine AL_p (x_eloadW (n := 3) rfl rfl (by kernel_rfl) rfl) ?_
  refine AL_p (x_alloc (z := .agg #[.string ⟨#[]⟩, .int .i64 0, .slice none 0 0]) 106 rfl (by kernel_rfl) rfl rfl rfl rfl) ?_
  refine AL_p (x_assign rfl rfl) ?_
  refine AL_p (x_store (n := 3) rfl rfl rfl rfl (by kernel_rfl) rfl rfl rfl) ?_
  refine AL_nil ?_
  refine AW_seq ?_
  refine AW_region ?_
  refine AL_p (x_field (off := 0) (o' := 0) rfl rfl rfl (by kernel_rfl) rfl) ?_
  refine AL_p (x_load1 rfl rfl rfl (by kernel_rfl) rfl) ?_
  refine AL_p (x_move rfl rfl) ?_
  refine AL_p (x_index (E := 84) (n := 3) rfl rfl rfl (by kernel_rfl) rfl (k := k) (by omega) (by omega)) ?_
  refine AL_p (x_eloadW (n := 3) rfl rfl (by kernel_rfl) rfl) ?_
  refine AL_p (x_alloc (z := .agg #[.string ⟨#[]⟩, .int .i64 0, .slice none 0 0]) 107 rfl (by kernel_rfl) rfl rfl rfl rfl) ?_
  refine AL_p (x_store (n := 3) rfl rfl rfl rfl (by kernel_rfl) rfl rfl rfl) ?_
  refine AL_nil ?_
  refine AW_seq ?_
  refine AW_seq ?_
  refine AW_region ?_
  refine AL_p (x_field (off := 0) (o' := 0) rfl rfl rfl (by kernel_rfl) rfl) ?_
  refine AL_p (x_load1 rfl rfl rfl (by kernel_rfl) rfl) ?_
  refine AL_p (x_field (off := 0) (o' := 0) rfl rfl rfl (by kernel_rfl) rfl) ?_
  refine AL_p (x_load1 rfl rfl rfl (by kernel_rfl) rfl) ?_
  refine AL_b (x_sneq rfl rfl rfl) (fun b47 h47 => ?_)
  refine AL_p (x_move rfl rfl) ?_
  cases b47
  rotate_left
  · try simp only [tdy] at h47
    have hno := deltaOf_bad (k := k) (by omega) (pairAt_name (by omega) (by omega) h47)
    refine AL_o rfl rfl rfl rfl ?_
    refine AL_o rfl rfl rfl rfl ?_
    refine AL_o rfl rfl rfl rfl ?_
    refine AL_o rfl rfl rfl rfl ?_
    refine AL_o rfl rfl rfl rfl ?_
    refine AL_o rfl rfl rfl rfl ?_
    refine AL_o rfl rfl rfl rfl ?_
    refine AL_p (x_pickT rfl rfl rfl) ?_
    refine AL_nil ?_
    refine AW_condT rfl ?_
    refine AW_seq ?_
    refine AW_region ?_
    refine AL_p (x_build (zs := [.slice none 0 0]) (places := [(0, 1)]) rfl (by kernel_rfl) rfl rfl rfl rfl rfl) ?_
    refine AL_p (x_store (n := 1) rfl rfl rfl rfl (by kernel_rfl) rfl rfl rfl) ?_
    refine AL_p (x_assign rfl rfl) ?_
    refine AL_nil ?_
    refine AW_adopt (T := 65) (e := changeE) 103 102 0 rfl rfl rfl rfl rfl ?_
    refine AW_ret (BQ_ret (BQ_ret ?_))
    exact ⟨rn [(9, 102), (0, 103)], ⟨⟨⟨_, rfl, VLe.rf⟩, ⟨_, rfl, by first | (refine vle_bool ?_; rw [hno]; done) | exact VLe.rf | (refine vle_bool ?_; rw [hno]; apply Eq.symm; assumption) | exact vle_bool (by rw [hno])⟩, trivial⟩, ⟨⟨_, rfl, by first | (refine ble_eq ?_; rw [hno]; done) | (refine ble_eq ?_; rw [hno]; rfl) | exact BLe.rf⟩, ⟨_, rfl, by first | (refine BLe.arr ?_; rw [hno]; done) | (refine BLe.arr ?_; rw [hno]; rfl) | exact BLe.rf⟩, trivial⟩, trivial, rfl⟩⟩
  try simp only [tdy] at h47
  refine AL_g rfl rfl (x_field (off := 1) (o' := 1) rfl rfl rfl (by kernel_rfl) rfl) ?_
  refine AL_g rfl rfl (x_field (off := 0) (o' := 1) rfl rfl rfl (by kernel_rfl) rfl) ?_
  refine AL_g rfl rfl (x_load1 rfl rfl rfl (by kernel_rfl) rfl) ?_
  refine AL_g rfl rfl (x_field (off := 1) (o' := 1) rfl rfl rfl (by kernel_rfl) rfl) ?_
  refine AL_g rfl rfl (x_field (off := 0) (o' := 1) rfl rfl rfl (by kernel_rfl) rfl) ?_
  refine AL_g rfl rfl (x_load1 rfl rfl rfl (by kernel_rfl) rfl) ?_
  refine AL_gb rfl rfl (x_neq rfl rfl rfl) (fun b55 h55 => ?_)
  refine AL_p (x_pickF rfl rfl rfl) ?_
  refine AL_nil ?_
  cases b55
  rotate_left
  · try simp only [tdy] at h55
    have hno := deltaOf_bad (k := k) (by omega) (pairAt_ar (by omega) (by omega) h55)
    refine AW_condT rfl ?_
    refine AW_seq ?_
    refine AW_region ?_
    refine AL_p (x_build (zs := [.slice none 0 0]) (places := [(0, 1)]) rfl (by kernel_rfl) rfl rfl rfl rfl rfl) ?_
    refine AL_p (x_store (n := 1) rfl rfl rfl rfl (by kernel_rfl) rfl rfl rfl) ?_
    refine AL_p (x_assign rfl rfl) ?_
    refine AL_nil ?_
    refine AW_adopt (T := 65) (e := changeE) 103 102 0 rfl rfl rfl rfl rfl ?_
    refine AW_ret (BQ_ret (BQ_ret ?_))
    exact ⟨rn [(9, 102), (0, 103)], ⟨⟨⟨_, rfl, VLe.rf⟩, ⟨_, rfl, by first | (refine vle_bool ?_; rw [hno]; done) | exact VLe.rf | (refine vle_bool ?_; rw [hno]; apply Eq.symm; assumption) | exact vle_bool (by rw [hno])⟩, trivial⟩, ⟨⟨_, rfl, by first | (refine ble_eq ?_; rw [hno]; done) | (refine ble_eq ?_; rw [hno]; rfl) | exact BLe.rf⟩, ⟨_, rfl, by first | (refine BLe.arr ?_; rw [hno]; done) | (refine BLe.arr ?_; rw [hno]; rfl) | exact BLe.rf⟩, trivial⟩, trivial, rfl⟩⟩
  try simp only [tdy] at h55
  have z1 := Nat.le_trans (List.length_filter_le (fun r => !hasRow (a.rels[k]'(by omega)).rel.rows r) (b.rels[k]'(by omega)).rel.rows) ((hb.2 (b.rels[k]'(by omega)) (List.getElem_mem _)).2).1
  have z2 := Nat.le_trans (List.length_filter_le (fun r => !hasRow (b.rels[k]'(by omega)).rel.rows r) (a.rels[k]'(by omega)).rel.rows) ((ha.2 (a.rels[k]'(by omega)) (List.getElem_mem _)).2).1
  refine AW_condF rfl ?_
  refine AW_skip ?_
  refine AW_seq ?_
  refine AW_draw rfl ?_
  refine AL_p (x_field (off := 0) (o' := 0) rfl rfl rfl (by kernel_rfl) rfl) ?_
  refine AL_p (x_load1 rfl rfl rfl (by kernel_rfl) rfl) ?_
  refine AL_p (x_field (off := 1) (o' := 1) rfl rfl rfl (by kernel_rfl) rfl) ?_
  refine AL_p (x_loadN (n := 2) rfl rfl rfl (by kernel_rfl) rfl rfl) ?_
  refine AL_p (x_field (off := 1) (o' := 1) rfl rfl rfl (by kernel_rfl) rfl) ?_
  refine AL_p (x_loadN (n := 2) rfl rfl rfl (by kernel_rfl) rfl rfl) ?_
  refine AL_p (x_call1 rfl rfl rfl (minusI_c (b.rels[k]'(by omega)).rel (a.rels[k]'(by omega)).rel ((hb.2 (b.rels[k]'(by omega)) (List.getElem_mem _)).2) ((ha.2 (a.rels[k]'(by omega)) (List.getElem_mem _)).2).1 (relOk_sorted (storeOk_rel h12 (k := k) (by omega))) (relOk_vals2 (storeOk_rel h16 (k := k) (by omega))) 108) rfl rfl rfl rfl) ?_
  refine AL_p (x_field (off := 1) (o' := 1) rfl rfl rfl (by kernel_rfl) rfl) ?_
  refine AL_p (x_loadN (n := 2) rfl rfl rfl (by kernel_rfl) rfl rfl) ?_
  refine AL_p (x_field (off := 1) (o' := 1) rfl rfl rfl (by kernel_rfl) rfl) ?_
  refine AL_p (x_loadN (n := 2) rfl rfl rfl (by kernel_rfl) rfl rfl) ?_
  refine AL_p (x_call1 rfl rfl rfl (minusI_c (a.rels[k]'(by omega)).rel (b.rels[k]'(by omega)).rel ((ha.2 (a.rels[k]'(by omega)) (List.getElem_mem _)).2) ((hb.2 (b.rels[k]'(by omega)) (List.getElem_mem _)).2).1 (relOk_sorted (storeOk_rel h16 (k := k) (by omega))) (relOk_vals2 (storeOk_rel h12 (k := k) (by omega))) 109) rfl rfl rfl rfl) ?_
  refine AL_p (x_build (zs := [.string ⟨#[]⟩, .int .i64 0, .slice none 0 0, .int .i64 0, .slice none 0 0]) (places := [(0, 1), (1, 2), (3, 2)]) rfl (by kernel_rfl) rfl rfl rfl rfl rfl) ?_
  refine AL_p (x_alloc (z := .agg #[.string ⟨#[]⟩, .int .i64 0, .slice none 0 0, .int .i64 0, .slice none 0 0]) 110 rfl (by kernel_rfl) rfl rfl rfl rfl) ?_
  refine AL_p (x_store (n := 5) rfl rfl rfl rfl (by kernel_rfl) rfl rfl rfl) ?_
  refine AL_nild (by kernel_rfl) ?_
  refine AW_seq ?_
  refine AW_region ?_
  refine AL_p (x_field (off := 1) (o' := 1) rfl rfl rfl (by kernel_rfl) rfl) ?_
  refine AL_p (x_field (off := 1) (o' := 2) rfl rfl rfl (by kernel_rfl) rfl) ?_
  refine AL_p (x_load1 rfl rfl rfl (by kernel_rfl) rfl) ?_
  refine AL_p (x_olen (E := 72) (n := 1) rfl rfl rfl (by kernel_rfl)) ?_
  refine AL_p (x_field (off := 3) (o' := 3) rfl rfl rfl (by kernel_rfl) rfl) ?_
  refine AL_p (x_field (off := 1) (o' := 4) rfl rfl rfl (by kernel_rfl) rfl) ?_
  refine AL_p (x_load1 rfl rfl rfl (by kernel_rfl) rfl) ?_
  refine AL_p (x_olen (E := 72) (n := 1) rfl rfl rfl (by kernel_rfl)) ?_
  refine AL_p (x_add rfl rfl rfl (IntWalk.i64_in _ (by omega))) ?_
  refine AL_b (x_gtr rfl rfl rfl) (fun b80 h80 => ?_)
  refine AL_nil ?_
  cases b80
  · try simp only [tdy] at h80
    refine AW_condF rfl ?_
    refine AW_skip ?_
    refine AW_region ?_
    refine AL_p (x_add rfl rfl rfl (IntWalk.i64_in _ (by omega))) ?_
    refine AL_p (x_move rfl rfl) ?_
    refine AL_nil ?_
    refine ⟨⟨k + 1, ⟨by omega, hA.succ (by omega) (pairAt_yes (by omega) (by omega) h47 h55)⟩⟩, rn [], ?_, by dsimp only; omega⟩
    exact ⟨by (repeat refine ⟨⟨_, rfl, by first | exact VLe.rf | exact vle_int (by dsimp only; omega)⟩, ?_⟩); exact trivial, by (repeat refine ⟨⟨_, rfl, by first | exact BLe.rf | exact BLe.box AllC.rf | exact BLe.arr (by first | exact ofTo_zero | exact ofTo_yes (by omega) (by omega) (by simp only [ofAt]; omega) | exact ofTo_no (by omega) (by omega) (by simp only [ofAt]; omega))⟩, ?_⟩); exact trivial, by repeat (first | exact trivial | refine ⟨⟨rfl, by first | (left; intro h; cases h) | (right; rfl), by first | exact (fun _ h => ⟨_, h⟩) | exact (fun _ _ => ⟨_, rfl⟩)⟩, ?_⟩), rfl⟩
  try simp only [tdy] at h80
  refine AW_condT rfl ?_
  refine AW_region ?_
  refine AL_p (x_field (off := 0) (o' := 0) rfl rfl rfl (by kernel_rfl) rfl) ?_
  refine AL_p (x_load1 rfl rfl rfl (by kernel_rfl) rfl) ?_
  refine AL_p (x_loadN (n := 5) rfl rfl rfl (by kernel_rfl) rfl rfl) ?_
  refine AL_p (y_bslice (E := 65) (e := changeE) [.tmp 83] ([ofAt (a.rels[k]'(by omega)) (b.rels[k]'(by omega))]) 111 rfl rfl rfl rfl rfl rfl rfl rfl FitL.rf rfl rfl rfl rfl rfl rfl (by kernel_rfl)) ?_
  refine AL_p (y_append 112 rfl rfl rfl rfl rfl rfl rfl rfl (by kernel_rfl) (by have := ha.1; have := ofTo_len (a := a.rels) (b := b.rels) (k := k); simp only [List.length_cons, List.length_nil]; omega)) ?_
  refine AL_p (x_field (off := 0) (o' := 0) rfl rfl rfl (by kernel_rfl) rfl) ?_
  refine AL_p (x_store (n := 1) rfl rfl rfl rfl (by kernel_rfl) rfl rfl rfl) ?_
  refine AL_nil ?_
  refine AW_region ?_
  refine AL_p (x_add rfl rfl rfl (IntWalk.i64_in _ (by omega))) ?_
  refine AL_p (x_move rfl rfl) ?_
  refine AL_nil ?_
  refine ⟨⟨k + 1, ⟨by omega, hA.succ (by omega) (pairAt_yes (by omega) (by omega) h47 h55)⟩⟩, rn [(105, 112)], ?_, by dsimp only; omega⟩
  exact ⟨by (repeat refine ⟨⟨_, rfl, by first | exact VLe.rf | exact vle_int (by dsimp only; omega)⟩, ?_⟩); exact trivial, by (repeat refine ⟨⟨_, rfl, by first | exact BLe.rf | exact BLe.box AllC.rf | exact BLe.arr (by first | exact ofTo_zero | exact ofTo_yes (by omega) (by omega) (by simp only [ofAt]; omega) | exact ofTo_no (by omega) (by omega) (by simp only [ofAt]; omega))⟩, ?_⟩); exact trivial, by repeat (first | exact trivial | refine ⟨⟨rfl, by first | (left; intro h; cases h) | (right; rfl), by first | exact (fun _ h => ⟨_, h⟩) | exact (fun _ _ => ⟨_, rfl⟩)⟩, ?_⟩), rfl⟩
theorem deltaOfI_c (a b : Storet) (ha : smallStore a) (hb : smallStore b) (k : Nat) : AC Tryz.prog 22 [.agg (storeC a), .agg (storeC b)] [] (.tup [.agg [.own k], .one (.c (.bool (deltaOf a b).2))]) [(k, some (.arr 65 changeE (deltaOf a b).1.changes true))] := AC.at (deltaOfI_c0 a b ha hb) k

set_option maxHeartbeats 4000000 in
theorem deltaOfS_c0 (a b : Storet) (ha : smallStore a) (hb : smallStore b) : AC Tryz.prog 23 [.agg (storeC a), .agg (storeC b)] [] (.tup [.agg [.own 0], .one (.c (.bool (deltaOf a b).2))]) [(0, some (.arr 65 changeE (deltaOf a b).1.changes true))] := by
  refine AC_bodyCT (n := 1) (k := 9) (T := [(4, .one (.ptr 9 0)), (5, .one (.c (.bool (deltaOf a b).2)))]) (Lf := ((9, some (.box [.own 0])) :: [(0, some (.arr 65 changeE (deltaOf a b).1.changes true))])) Tryz.func23 rfl rfl Tryz.ntmps23 rfl Tryz.results23 rfl rfl rfl rfl (by kernel_rfl) rfl rfl ⟨trivial, (by repeat (first | exact trivial | refine ⟨⟨_, rfl, BLe.rf⟩, ?_⟩)), (by repeat (first | exact trivial | refine ⟨⟨rfl, by first | (left; intro h; cases h) | (right; rfl), by first | exact (fun _ h => ⟨_, h⟩) | exact (fun _ _ => ⟨_, rfl⟩)⟩, ?_⟩)), rfl⟩ ?_
  refine AW_seq ?_
  refine AW_region ?_
  refine AL_p (x_box 100 rfl rfl rfl rfl rfl rfl rfl) ?_
  refine AL_p (x_box 101 rfl rfl rfl rfl rfl rfl rfl) ?_
  refine AL_p (x_alloc (z := .agg #[.slice none 0 0]) 102 rfl (by kernel_rfl) rfl rfl rfl rfl) ?_
  refine AL_p (x_assign rfl rfl) ?_
  refine AL_nil ?_
  refine AW_seq ?_
  refine AW_seq ?_
  refine AW_region ?_
  refine AL_p (x_loadN (n := 1) rfl rfl rfl (by kernel_rfl) rfl rfl) ?_
  refine AL_b (x_call0 rfl rfl rfl (storeOkS_c _ (by assumption)) rfl rfl) (fun b12 h12 => ?_)
  refine AL_p (x_not rfl rfl) ?_
  refine AL_p (x_move rfl rfl) ?_
  cases b12
  · try simp only [tdy] at h12
    have hno := deltaOf_a (b := b) h12
    refine AL_o rfl rfl rfl rfl ?_
    refine AL_o rfl rfl rfl rfl ?_
    refine AL_o rfl rfl rfl rfl ?_
    refine AL_p (x_pickT rfl rfl rfl) ?_
    refine AL_p (x_move rfl rfl) ?_
    refine AL_o rfl rfl rfl rfl ?_
    refine AL_o rfl rfl rfl rfl ?_
    refine AL_o rfl rfl rfl rfl ?_
    refine AL_o rfl rfl rfl rfl ?_
    refine AL_o rfl rfl rfl rfl ?_
    refine AL_o rfl rfl rfl rfl ?_
    refine AL_o rfl rfl rfl rfl ?_
    refine AL_p (x_pickT rfl rfl rfl) ?_
    refine AL_nil ?_
    refine AW_condT rfl ?_
    refine AW_seq ?_
    refine AW_region ?_
    refine AL_p (x_build (zs := [.slice none 0 0]) (places := [(0, 1)]) rfl (by kernel_rfl) rfl rfl rfl rfl rfl) ?_
    refine AL_p (x_store (n := 1) rfl rfl rfl rfl (by kernel_rfl) rfl rfl rfl) ?_
    refine AL_p (x_assign rfl rfl) ?_
    refine AL_nil ?_
    refine AW_adopt (T := 65) (e := changeE) 103 102 0 rfl rfl rfl rfl rfl ?_
    refine AW_ret ?_
    exact ⟨rn [(9, 102), (0, 103)], ⟨⟨⟨_, rfl, VLe.rf⟩, ⟨_, rfl, by first | (refine vle_bool ?_; rw [hno]; done) | exact VLe.rf | (refine vle_bool ?_; rw [hno]; apply Eq.symm; assumption) | exact vle_bool (by rw [hno])⟩, trivial⟩, ⟨⟨_, rfl, by first | (refine ble_eq ?_; rw [hno]; done) | (refine ble_eq ?_; rw [hno]; rfl) | exact BLe.rf⟩, ⟨_, rfl, by first | (refine BLe.arr ?_; rw [hno]; done) | (refine BLe.arr ?_; rw [hno]; rfl) | exact BLe.rf⟩, trivial⟩, trivial, rfl⟩⟩
  try simp only [tdy] at h12
  refine AL_g rfl rfl (x_loadN (n := 1) rfl rfl rfl (by kernel_rfl) rfl rfl) ?_
  refine AL_gb rfl rfl (x_call0 rfl rfl rfl (storeOkS_c _ (by assumption)) rfl rfl) (fun b16 h16 => ?_)
  refine AL_g rfl rfl (x_not rfl rfl) ?_
  refine AL_p (x_pickF rfl rfl rfl) ?_
  refine AL_p (x_move rfl rfl) ?_
  cases b16
  · try simp only [tdy] at h16
    have hno := deltaOf_b (a := a) h16
    refine AL_o rfl rfl rfl rfl ?_
    refine AL_o rfl rfl rfl rfl ?_
    refine AL_o rfl rfl rfl rfl ?_
    refine AL_o rfl rfl rfl rfl ?_
    refine AL_o rfl rfl rfl rfl ?_
    refine AL_o rfl rfl rfl rfl ?_
    refine AL_o rfl rfl rfl rfl ?_
    refine AL_p (x_pickT rfl rfl rfl) ?_
    refine AL_nil ?_
    refine AW_condT rfl ?_
    refine AW_seq ?_
    refine AW_region ?_
    refine AL_p (x_build (zs := [.slice none 0 0]) (places := [(0, 1)]) rfl (by kernel_rfl) rfl rfl rfl rfl rfl) ?_
    refine AL_p (x_store (n := 1) rfl rfl rfl rfl (by kernel_rfl) rfl rfl rfl) ?_
    refine AL_p (x_assign rfl rfl) ?_
    refine AL_nil ?_
    refine AW_adopt (T := 65) (e := changeE) 103 102 0 rfl rfl rfl rfl rfl ?_
    refine AW_ret ?_
    exact ⟨rn [(9, 102), (0, 103)], ⟨⟨⟨_, rfl, VLe.rf⟩, ⟨_, rfl, by first | (refine vle_bool ?_; rw [hno]; done) | exact VLe.rf | (refine vle_bool ?_; rw [hno]; apply Eq.symm; assumption) | exact vle_bool (by rw [hno])⟩, trivial⟩, ⟨⟨_, rfl, by first | (refine ble_eq ?_; rw [hno]; done) | (refine ble_eq ?_; rw [hno]; rfl) | exact BLe.rf⟩, ⟨_, rfl, by first | (refine BLe.arr ?_; rw [hno]; done) | (refine BLe.arr ?_; rw [hno]; rfl) | exact BLe.rf⟩, trivial⟩, trivial, rfl⟩⟩
  try simp only [tdy] at h16
  refine AL_g rfl rfl (x_field (off := 0) (o' := 0) rfl rfl rfl (by kernel_rfl) rfl) ?_
  refine AL_g rfl rfl (x_load1 rfl rfl rfl (by kernel_rfl) rfl) ?_
  refine AL_g rfl rfl (x_len (E := 84) (n := 3) rfl rfl (by kernel_rfl)) ?_
  refine AL_g rfl rfl (x_field (off := 0) (o' := 0) rfl rfl rfl (by kernel_rfl) rfl) ?_
  refine AL_g rfl rfl (x_load1 rfl rfl rfl (by kernel_rfl) rfl) ?_
  refine AL_g rfl rfl (x_len (E := 84) (n := 3) rfl rfl (by kernel_rfl)) ?_
  refine AL_gb rfl rfl (x_neq rfl rfl rfl) (fun b26 h26 => ?_)
  refine AL_p (x_pickF rfl rfl rfl) ?_
  refine AL_nil ?_
  cases b26
  rotate_left
  · try simp only [tdy] at h26
    have hno := deltaOf_len h26
    refine AW_condT rfl ?_
    refine AW_seq ?_
    refine AW_region ?_
    refine AL_p (x_build (zs := [.slice none 0 0]) (places := [(0, 1)]) rfl (by kernel_rfl) rfl rfl rfl rfl rfl) ?_
    refine AL_p (x_store (n := 1) rfl rfl rfl rfl (by kernel_rfl) rfl rfl rfl) ?_
    refine AL_p (x_assign rfl rfl) ?_
    refine AL_nil ?_
    refine AW_adopt (T := 65) (e := changeE) 103 102 0 rfl rfl rfl rfl rfl ?_
    refine AW_ret ?_
    exact ⟨rn [(9, 102), (0, 103)], ⟨⟨⟨_, rfl, VLe.rf⟩, ⟨_, rfl, by first | (refine vle_bool ?_; rw [hno]; done) | exact VLe.rf | (refine vle_bool ?_; rw [hno]; apply Eq.symm; assumption) | exact vle_bool (by rw [hno])⟩, trivial⟩, ⟨⟨_, rfl, by first | (refine ble_eq ?_; rw [hno]; done) | (refine ble_eq ?_; rw [hno]; rfl) | exact BLe.rf⟩, ⟨_, rfl, by first | (refine BLe.arr ?_; rw [hno]; done) | (refine BLe.arr ?_; rw [hno]; rfl) | exact BLe.rf⟩, trivial⟩, trivial, rfl⟩⟩
  try simp only [tdy] at h26
  refine AW_condF rfl ?_
  refine AW_skip ?_
  refine AW_seq ?_
  refine AW_region ?_
  refine AL_p (x_build (zs := [.slice none 0 0]) (places := [(0, 1)]) rfl (by kernel_rfl) rfl rfl rfl rfl rfl) ?_
  refine AL_p (x_alloc (z := .agg #[.slice none 0 0]) 104 rfl (by kernel_rfl) rfl rfl rfl rfl) ?_
  refine AL_p (x_store (n := 1) rfl rfl rfl rfl (by kernel_rfl) rfl rfl rfl) ?_
  refine AL_nil ?_
  refine AW_seq ?_
  refine AW_seq ?_
  refine AW_region ?_
  refine AL_p (x_field (off := 0) (o' := 0) rfl rfl rfl (by kernel_rfl) rfl) ?_
  refine AL_p (x_load1 rfl rfl rfl (by kernel_rfl) rfl) ?_
  refine AL_p (x_len (E := 84) (n := 3) rfl rfl (by kernel_rfl)) ?_
  refine AL_p (x_move rfl rfl) ?_
  refine AL_nil ?_
  refine AW_block ?_
  refine AW_adopt (T := 65) (e := changeE) 105 104 0 rfl rfl rfl rfl rfl ?_
  refine AW_loop2 (ι := {q : Nat // q ≤ a.rels.length ∧ AllAt (pairAt a.rels b.rels) q}) (fun p => [(33, .one (.c (.int .i64 ((p.1) : Int))))]) (fun p => [(105, some (.arr 65 changeE (ofTo a.rels b.rels (p.1)) true))]) [2, 3, 4, 6, 32] [100, 101, 102, 104] (fun p => a.rels.length - (p.1)) ⟨0, ⟨by omega, .zero⟩⟩ (rn []) ?_ ?_
  exact ⟨by (repeat refine ⟨⟨_, rfl, by first | exact VLe.rf | exact vle_int (by dsimp only; omega)⟩, ?_⟩); exact trivial, by (repeat refine ⟨⟨_, rfl, by first | exact BLe.rf | exact BLe.box AllC.rf | exact BLe.arr (by first | exact ofTo_zero | exact ofTo_yes (by omega) (by omega) (by simp only [ofAt]; omega) | exact ofTo_no (by omega) (by omega) (by simp only [ofAt]; omega))⟩, ?_⟩); exact trivial, by repeat (first | exact trivial | refine ⟨⟨rfl, by first | (left; intro h; cases h) | (right; rfl), by first | exact (fun _ h => ⟨_, h⟩) | exact (fun _ _ => ⟨_, rfl⟩)⟩, ?_⟩), rfl⟩
  rintro ⟨k, hinv⟩
  dsimp only
  have hk := hinv.1
  have hA := hinv.2
  have hl := ha.1
  refine AW_seq ?_
  refine AW_region ?_
  refine AL_b (x_lss rfl rfl rfl) (fun b34 h34 => ?_)
  refine AL_nil ?_
  refine AW_seq ?_
  cases b34
  · try simp only [tdy] at h34
    have hno := deltaOf_good h12 h16 h26 hA (by omega)
    refine AW_condF rfl ?_
    refine AW_exit (BQ_hit ?_)
    refine AW_seq ?_
    refine AW_region ?_
    refine AL_p (x_loadN (n := 1) rfl rfl rfl (by kernel_rfl) rfl rfl) ?_
    refine AL_p (x_store (n := 1) rfl rfl rfl rfl (by kernel_rfl) rfl rfl rfl) ?_
    refine AL_p (x_assign rfl rfl) ?_
    refine AL_nil ?_
    refine AW_ret ?_
    exact ⟨rn [(9, 102), (0, 105)], ⟨⟨⟨_, rfl, VLe.rf⟩, ⟨_, rfl, by first | (refine vle_bool ?_; rw [hno]; done) | exact VLe.rf | (refine vle_bool ?_; rw [hno]; apply Eq.symm; assumption) | exact vle_bool (by rw [hno])⟩, trivial⟩, ⟨⟨_, rfl, by first | (refine ble_eq ?_; rw [hno]; done) | (refine ble_eq ?_; rw [hno]; rfl) | exact BLe.rf⟩, ⟨_, rfl, by first | (refine BLe.arr ?_; rw [hno]; done) | (refine BLe.arr ?_; rw [hno]; rfl) | exact BLe.rf⟩, trivial⟩, trivial, rfl⟩⟩
  try simp only [tdy] at h34
  refine AW_condT rfl ?_
  refine AW_skip ?_
  refine AW_seq ?_
  refine AW_block ?_
  refine AW_seq ?_
  refine AW_region ?_
  refine AL_p (x_move rfl rfl) ?_
  refine AL_p (x_assign rfl rfl) ?_
  refine AL_nil ?_
  refine AW_seq ?_
  refine AW_region ?_
  refine AL_p (x_field (off := 0) (o' := 0) rfl rfl rfl (by kernel_rfl) rfl) ?_
  refine AL_p (x_load1 rfl rfl rfl (by kernel_rfl) rfl) ?_
  refine AL_p (x_move rfl rfl) ?_
  refine AL_p (x_index (E := 84) (n := 3) rfl rfl rfl (by kernel_rfl) rfl (k := k) (by omega) (by omega)) ?_
  refine AL_p (x_eloadW (n := 3) rfl rfl (by kernel_rfl) rfl) ?_
  refine AL_p (x_alloc (z := .agg #[.string ⟨#[]⟩, .int .i64 0, .slice none 0 0]) 106 rfl (by kernel_rfl) rfl rfl rfl rfl) ?_
  refine AL_p (x_store (n := 3) rfl rfl rfl rfl (by kernel_rfl) rfl rfl rfl) ?_
  refine AL_nil ?_
  refine AW_seq ?_
  refine AW_region ?_
  refine AL_p (x_field (off := 0) (o' := 0) rfl rfl rfl (by kernel_rfl) rfl) ?_
  refine AL_p (x_load1 rfl rfl rfl (by kernel_rfl) rfl) ?_
  refine AL_p (x_move rfl rfl) ?_
  refine AL_p (x_index (E := 84) (n := 3) rfl rfl rfl (by kernel_rfl) rfl (k := k) (by omega) (by omega)) ?_
  refine AL_p (x_eloadW (n := 3) rfl rfl (by kernel_rfl) rfl) ?_
  refine AL_p (x_alloc (z := .agg #[.string ⟨#[]⟩, .int .i64 0, .slice none 0 0]) 107 rfl (by kernel_rfl) rfl rfl rfl rfl) ?_
  refine AL_p (x_store (n := 3) rfl rfl rfl rfl (by kernel_rfl) rfl rfl rfl) ?_
  refine AL_nil ?_
  refine AW_seq ?_
  refine AW_seq ?_
  refine AW_region ?_
  refine AL_p (x_field (off := 0) (o' := 0) rfl rfl rfl (by kernel_rfl) rfl) ?_
  refine AL_p (x_load1 rfl rfl rfl (by kernel_rfl) rfl) ?_
  refine AL_p (x_field (off := 0) (o' := 0) rfl rfl rfl (by kernel_rfl) rfl) ?_
  refine AL_p (x_load1 rfl rfl rfl (by kernel_rfl) rfl) ?_
  refine AL_b (x_sneq rfl rfl rfl) (fun b50 h50 => ?_)
  refine AL_p (x_move rfl rfl) ?_
  cases b50
  rotate_left
  · try simp only [tdy] at h50
    have hno := deltaOf_bad (k := k) (by omega) (pairAt_name (by omega) (by omega) h50)
    refine AL_o rfl rfl rfl rfl ?_
    refine AL_o rfl rfl rfl rfl ?_
    refine AL_o rfl rfl rfl rfl ?_
    refine AL_o rfl rfl rfl rfl ?_
    refine AL_o rfl rfl rfl rfl ?_
    refine AL_o rfl rfl rfl rfl ?_
    refine AL_o rfl rfl rfl rfl ?_
    refine AL_p (x_pickT rfl rfl rfl) ?_
    refine AL_nil ?_
    refine AW_condT rfl ?_
    refine AW_seq ?_
    refine AW_region ?_
    refine AL_p (x_build (zs := [.slice none 0 0]) (places := [(0, 1)]) rfl (by kernel_rfl) rfl rfl rfl rfl rfl) ?_
    refine AL_p (x_store (n := 1) rfl rfl rfl rfl (by kernel_rfl) rfl rfl rfl) ?_
    refine AL_p (x_assign rfl rfl) ?_
    refine AL_nil ?_
    refine AW_adopt (T := 65) (e := changeE) 103 102 0 rfl rfl rfl rfl rfl ?_
    refine AW_ret (BQ_ret (BQ_ret ?_))
    exact ⟨rn [(9, 102), (0, 103)], ⟨⟨⟨_, rfl, VLe.rf⟩, ⟨_, rfl, by first | (refine vle_bool ?_; rw [hno]; done) | exact VLe.rf | (refine vle_bool ?_; rw [hno]; apply Eq.symm; assumption) | exact vle_bool (by rw [hno])⟩, trivial⟩, ⟨⟨_, rfl, by first | (refine ble_eq ?_; rw [hno]; done) | (refine ble_eq ?_; rw [hno]; rfl) | exact BLe.rf⟩, ⟨_, rfl, by first | (refine BLe.arr ?_; rw [hno]; done) | (refine BLe.arr ?_; rw [hno]; rfl) | exact BLe.rf⟩, trivial⟩, trivial, rfl⟩⟩
  try simp only [tdy] at h50
  refine AL_g rfl rfl (x_field (off := 1) (o' := 1) rfl rfl rfl (by kernel_rfl) rfl) ?_
  refine AL_g rfl rfl (x_field (off := 0) (o' := 1) rfl rfl rfl (by kernel_rfl) rfl) ?_
  refine AL_g rfl rfl (x_load1 rfl rfl rfl (by kernel_rfl) rfl) ?_
  refine AL_g rfl rfl (x_field (off := 1) (o' := 1) rfl rfl rfl (by kernel_rfl) rfl) ?_
  refine AL_g rfl rfl (x_field (off := 0) (o' := 1) rfl rfl rfl (by kernel_rfl) rfl) ?_
  refine AL_g rfl rfl (x_load1 rfl rfl rfl (by kernel_rfl) rfl) ?_
  refine AL_gb rfl rfl (x_neq rfl rfl rfl) (fun b58 h58 => ?_)
  refine AL_p (x_pickF rfl rfl rfl) ?_
  refine AL_nil ?_
  cases b58
  rotate_left
  · try simp only [tdy] at h58
    have hno := deltaOf_bad (k := k) (by omega) (pairAt_ar (by omega) (by omega) h58)
    refine AW_condT rfl ?_
    refine AW_seq ?_
    refine AW_region ?_
    refine AL_p (x_build (zs := [.slice none 0 0]) (places := [(0, 1)]) rfl (by kernel_rfl) rfl rfl rfl rfl rfl) ?_
    refine AL_p (x_store (n := 1) rfl rfl rfl rfl (by kernel_rfl) rfl rfl rfl) ?_
    refine AL_p (x_assign rfl rfl) ?_
    refine AL_nil ?_
    refine AW_adopt (T := 65) (e := changeE) 103 102 0 rfl rfl rfl rfl rfl ?_
    refine AW_ret (BQ_ret (BQ_ret ?_))
    exact ⟨rn [(9, 102), (0, 103)], ⟨⟨⟨_, rfl, VLe.rf⟩, ⟨_, rfl, by first | (refine vle_bool ?_; rw [hno]; done) | exact VLe.rf | (refine vle_bool ?_; rw [hno]; apply Eq.symm; assumption) | exact vle_bool (by rw [hno])⟩, trivial⟩, ⟨⟨_, rfl, by first | (refine ble_eq ?_; rw [hno]; done) | (refine ble_eq ?_; rw [hno]; rfl) | exact BLe.rf⟩, ⟨_, rfl, by first | (refine BLe.arr ?_; rw [hno]; done) | (refine BLe.arr ?_; rw [hno]; rfl) | exact BLe.rf⟩, trivial⟩, trivial, rfl⟩⟩
  try simp only [tdy] at h58
  have z1 := Nat.le_trans (List.length_filter_le (fun r => !hasRow (a.rels[k]'(by omega)).rel.rows r) (b.rels[k]'(by omega)).rel.rows) ((hb.2 (b.rels[k]'(by omega)) (List.getElem_mem _)).2).1
  have z2 := Nat.le_trans (List.length_filter_le (fun r => !hasRow (b.rels[k]'(by omega)).rel.rows r) (a.rels[k]'(by omega)).rel.rows) ((ha.2 (a.rels[k]'(by omega)) (List.getElem_mem _)).2).1
  refine AW_condF rfl ?_
  refine AW_skip ?_
  refine AW_seq ?_
  refine AW_draw rfl ?_
  refine AL_p (x_field (off := 0) (o' := 0) rfl rfl rfl (by kernel_rfl) rfl) ?_
  refine AL_p (x_load1 rfl rfl rfl (by kernel_rfl) rfl) ?_
  refine AL_p (x_field (off := 1) (o' := 1) rfl rfl rfl (by kernel_rfl) rfl) ?_
  refine AL_p (x_loadN (n := 2) rfl rfl rfl (by kernel_rfl) rfl rfl) ?_
  refine AL_p (x_field (off := 1) (o' := 1) rfl rfl rfl (by kernel_rfl) rfl) ?_
  refine AL_p (x_loadN (n := 2) rfl rfl rfl (by kernel_rfl) rfl rfl) ?_
  refine AL_p (x_call1 rfl rfl rfl (siftN_c (b.rels[k]'(by omega)).rel (a.rels[k]'(by omega)).rel ((hb.2 (b.rels[k]'(by omega)) (List.getElem_mem _)).2) ((ha.2 (a.rels[k]'(by omega)) (List.getElem_mem _)).2) 108) rfl rfl rfl rfl) ?_
  refine AL_p (x_field (off := 1) (o' := 1) rfl rfl rfl (by kernel_rfl) rfl) ?_
  refine AL_p (x_loadN (n := 2) rfl rfl rfl (by kernel_rfl) rfl rfl) ?_
  refine AL_p (x_field (off := 1) (o' := 1) rfl rfl rfl (by kernel_rfl) rfl) ?_
  refine AL_p (x_loadN (n := 2) rfl rfl rfl (by kernel_rfl) rfl rfl) ?_
  refine AL_p (x_call1 rfl rfl rfl (siftN_c (a.rels[k]'(by omega)).rel (b.rels[k]'(by omega)).rel ((ha.2 (a.rels[k]'(by omega)) (List.getElem_mem _)).2) ((hb.2 (b.rels[k]'(by omega)) (List.getElem_mem _)).2) 109) rfl rfl rfl rfl) ?_
  refine AL_p (x_build (zs := [.string ⟨#[]⟩, .int .i64 0, .slice none 0 0, .int .i64 0, .slice none 0 0]) (places := [(0, 1), (1, 2), (3, 2)]) rfl (by kernel_rfl) rfl rfl rfl rfl rfl) ?_
  refine AL_p (x_alloc (z := .agg #[.string ⟨#[]⟩, .int .i64 0, .slice none 0 0, .int .i64 0, .slice none 0 0]) 110 rfl (by kernel_rfl) rfl rfl rfl rfl) ?_
  refine AL_p (x_store (n := 5) rfl rfl rfl rfl (by kernel_rfl) rfl rfl rfl) ?_
  refine AL_nild (by kernel_rfl) ?_
  refine AW_seq ?_
  refine AW_region ?_
  refine AL_p (x_field (off := 1) (o' := 1) rfl rfl rfl (by kernel_rfl) rfl) ?_
  refine AL_p (x_field (off := 1) (o' := 2) rfl rfl rfl (by kernel_rfl) rfl) ?_
  refine AL_p (x_load1 rfl rfl rfl (by kernel_rfl) rfl) ?_
  refine AL_p (x_olen (E := 72) (n := 1) rfl rfl rfl (by kernel_rfl)) ?_
  refine AL_p (x_field (off := 3) (o' := 3) rfl rfl rfl (by kernel_rfl) rfl) ?_
  refine AL_p (x_field (off := 1) (o' := 4) rfl rfl rfl (by kernel_rfl) rfl) ?_
  refine AL_p (x_load1 rfl rfl rfl (by kernel_rfl) rfl) ?_
  refine AL_p (x_olen (E := 72) (n := 1) rfl rfl rfl (by kernel_rfl)) ?_
  refine AL_p (x_add rfl rfl rfl (IntWalk.i64_in _ (by omega))) ?_
  refine AL_b (x_gtr rfl rfl rfl) (fun b83 h83 => ?_)
  refine AL_nil ?_
  cases b83
  · try simp only [tdy] at h83
    refine AW_condF rfl ?_
    refine AW_skip ?_
    refine AW_region ?_
    refine AL_p (x_add rfl rfl rfl (IntWalk.i64_in _ (by omega))) ?_
    refine AL_p (x_move rfl rfl) ?_
    refine AL_nil ?_
    refine ⟨⟨k + 1, ⟨by omega, hA.succ (by omega) (pairAt_yes (by omega) (by omega) h50 h58)⟩⟩, rn [], ?_, by dsimp only; omega⟩
    exact ⟨by (repeat refine ⟨⟨_, rfl, by first | exact VLe.rf | exact vle_int (by dsimp only; omega)⟩, ?_⟩); exact trivial, by (repeat refine ⟨⟨_, rfl, by first | exact BLe.rf | exact BLe.box AllC.rf | exact BLe.arr (by first | exact ofTo_zero | exact ofTo_yes (by omega) (by omega) (by simp only [ofAt]; omega) | exact ofTo_no (by omega) (by omega) (by simp only [ofAt]; omega))⟩, ?_⟩); exact trivial, by repeat (first | exact trivial | refine ⟨⟨rfl, by first | (left; intro h; cases h) | (right; rfl), by first | exact (fun _ h => ⟨_, h⟩) | exact (fun _ _ => ⟨_, rfl⟩)⟩, ?_⟩), rfl⟩
  try simp only [tdy] at h83
  refine AW_condT rfl ?_
  refine AW_region ?_
  refine AL_p (x_field (off := 0) (o' := 0) rfl rfl rfl (by kernel_rfl) rfl) ?_
  refine AL_p (x_load1 rfl rfl rfl (by kernel_rfl) rfl) ?_
  refine AL_p (x_loadN (n := 5) rfl rfl rfl (by kernel_rfl) rfl rfl) ?_
  refine AL_p (y_bslice (E := 65) (e := changeE) [.tmp 86] ([ofAt (a.rels[k]'(by omega)) (b.rels[k]'(by omega))]) 111 rfl rfl rfl rfl rfl rfl rfl rfl FitL.rf rfl rfl rfl rfl rfl rfl (by kernel_rfl)) ?_
  refine AL_p (y_append 112 rfl rfl rfl rfl rfl rfl rfl rfl (by kernel_rfl) (by have := ha.1; have := ofTo_len (a := a.rels) (b := b.rels) (k := k); simp only [List.length_cons, List.length_nil]; omega)) ?_
  refine AL_p (x_field (off := 0) (o' := 0) rfl rfl rfl (by kernel_rfl) rfl) ?_
  refine AL_p (x_store (n := 1) rfl rfl rfl rfl (by kernel_rfl) rfl rfl rfl) ?_
  refine AL_nil ?_
  refine AW_region ?_
  refine AL_p (x_add rfl rfl rfl (IntWalk.i64_in _ (by omega))) ?_
  refine AL_p (x_move rfl rfl) ?_
  refine AL_nil ?_
  refine ⟨⟨k + 1, ⟨by omega, hA.succ (by omega) (pairAt_yes (by omega) (by omega) h50 h58)⟩⟩, rn [(105, 112)], ?_, by dsimp only; omega⟩
  exact ⟨by (repeat refine ⟨⟨_, rfl, by first | exact VLe.rf | exact vle_int (by dsimp only; omega)⟩, ?_⟩); exact trivial, by (repeat refine ⟨⟨_, rfl, by first | exact BLe.rf | exact BLe.box AllC.rf | exact BLe.arr (by first | exact ofTo_zero | exact ofTo_yes (by omega) (by omega) (by simp only [ofAt]; omega) | exact ofTo_no (by omega) (by omega) (by simp only [ofAt]; omega))⟩, ?_⟩); exact trivial, by repeat (first | exact trivial | refine ⟨⟨rfl, by first | (left; intro h; cases h) | (right; rfl), by first | exact (fun _ h => ⟨_, h⟩) | exact (fun _ _ => ⟨_, rfl⟩)⟩, ?_⟩), rfl⟩
theorem deltaOfS_c (a b : Storet) (ha : smallStore a) (hb : smallStore b) (k : Nat) : AC Tryz.prog 23 [.agg (storeC a), .agg (storeC b)] [] (.tup [.agg [.own k], .one (.c (.bool (deltaOf a b).2))]) [(k, some (.arr 65 changeE (deltaOf a b).1.changes true))] := AC.at (deltaOfS_c0 a b ha hb) k
end Go.Proofs.YtibhoanjglfaoaaGreat

/- Stores that are drawn (printed by walk.py) -/
namespace Go.Proofs.YtibhoanjglfaoaaGreat
open Go.RowKit
set_option linter.unusedVariables false
set_option linter.unusedSimpArgs false
set_option maxRecDepth 100000

set_option maxHeartbeats 4000000 in
theorem l12Set_c0 (rels : List Namedt) (nm : ByteArray) (r : Relt) (hs : rels.length ≤ 1048575) (hm : ∀ y ∈ rels, smallNamed y) (hr : smallRel r) : AC Tryz.prog 35 [.agg [.sl namedE rels], .one (.c (.string nm)), .agg (relC r)] [] (.agg [.own 0]) [(0, some (.arr 84 namedE (setRel rels (⟨nm, r⟩ : Namedt)) true))] := by
  refine AC_bodyC (n := 1) (k := 9) (T := [(6, .one (.ptr 9 0))]) (Lf := ((9, some (.box [.own 0])) :: [(0, some (.arr 84 namedE (setRel rels (⟨nm, r⟩ : Namedt)) true))])) Tryz.func35 rfl rfl Tryz.ntmps35 rfl Tryz.results35 rfl rfl (by kernel_rfl) rfl rfl ⟨trivial, (by repeat (first | exact trivial | refine ⟨⟨_, rfl, BLe.rf⟩, ?_⟩)), (by repeat (first | exact trivial | refine ⟨⟨rfl, by first | (left; intro h; cases h) | (right; rfl), by first | exact (fun _ h => ⟨_, h⟩) | exact (fun _ _ => ⟨_, rfl⟩)⟩, ?_⟩)), rfl⟩ ?_
  refine AW_seq ?_
  refine AW_region ?_
  refine AL_p (x_box 100 rfl rfl rfl rfl rfl rfl rfl) ?_
  refine AL_p (x_box 101 rfl rfl rfl rfl rfl rfl rfl) ?_
  refine AL_p (x_alloc (z := .agg #[.slice none 0 0]) 102 rfl (by kernel_rfl) rfl rfl rfl rfl) ?_
  refine AL_nil ?_
  refine AW_seq ?_
  refine AW_region ?_
  refine AL_p (x_build (zs := [.slice none 0 0]) (places := [(0, 1)]) rfl (by kernel_rfl) rfl rfl rfl rfl rfl) ?_
  refine AL_p (x_alloc (z := .agg #[.slice none 0 0]) 103 rfl (by kernel_rfl) rfl rfl rfl rfl) ?_
  refine AL_p (x_store (n := 1) rfl rfl rfl rfl (by kernel_rfl) rfl rfl rfl) ?_
  refine AL_nil ?_
  refine AW_seq ?_
  refine AW_region ?_
  refine AL_p (x_assign rfl rfl) ?_
  refine AL_nil ?_
  refine AW_seq ?_
  refine AW_seq ?_
  refine AW_region ?_
  refine AL_p (x_field (off := 0) (o' := 0) rfl rfl rfl (by kernel_rfl) rfl) ?_
  refine AL_p (x_load1 rfl rfl rfl (by kernel_rfl) rfl) ?_
  refine AL_p (x_len (E := 84) (n := 3) rfl rfl (by kernel_rfl)) ?_
  refine AL_p (x_move rfl rfl) ?_
  refine AL_nil ?_
  refine AW_block ?_
  refine AW_adopt (T := 84) (e := namedE) 104 103 0 rfl rfl rfl rfl rfl ?_
  refine AW_loop2 (ι := {q : Nat × Bool // (q.1) ≤ rels.length ∧ (setTo rels (⟨nm, r⟩ : Namedt) (q.1)).1 = (q.2)}) (fun p => [(8, .one (.c (.bool (p.1.2)))), (14, .one (.c (.int .i64 ((p.1.1) : Int))))]) (fun p => [(104, some (.arr 84 namedE (setTo rels (⟨nm, r⟩ : Namedt) (p.1.1)).2 true))]) [1, 3, 5, 6, 7, 13] [100, 101, 102, 103] (fun p => rels.length - (p.1.1)) ⟨⟨0, false⟩, ⟨by omega, rfl⟩⟩ (rn []) ?_ ?_
  exact ⟨by (repeat refine ⟨⟨_, rfl, by first | exact VLe.rf | exact vle_int (by dsimp only; omega)⟩, ?_⟩); exact trivial, by (repeat refine ⟨⟨_, rfl, by first | exact BLe.rf | exact BLe.box AllC.rf | exact BLe.arr (by first | rfl | exact (congrArg Prod.snd hs2).symm)⟩, ?_⟩); exact trivial, by repeat (first | exact trivial | refine ⟨⟨rfl, by first | (left; intro h; cases h) | (right; rfl), by first | exact (fun _ h => ⟨_, h⟩) | exact (fun _ _ => ⟨_, rfl⟩)⟩, ?_⟩), rfl⟩
  rintro ⟨⟨k, b900⟩, hinv⟩
  dsimp only
  obtain ⟨hk, h900⟩ := hinv
  have hk : k ≤ rels.length := hk
  refine AW_seq ?_
  refine AW_region ?_
  refine AL_b (x_lss rfl rfl rfl) (fun b15 h15 => ?_)
  refine AL_nil ?_
  refine AW_seq ?_
  cases b15
  · try simp only [tdy] at h15
    obtain rfl : k = rels.length := by omega
    refine AW_condF rfl ?_
    refine AW_exit (BQ_hit ?_)
    refine AW_seq ?_
    refine AW_seq ?_
    refine AW_region ?_
    refine AL_p (x_move rfl rfl) ?_
    refine AL_p (x_not rfl rfl) ?_
    refine AL_nil ?_
    cases b900
    rotate_left
    · try simp only [tdy] at h900
      have hno : setRel rels (⟨nm, r⟩ : Namedt) = (setTo rels (⟨nm, r⟩ : Namedt) rels.length).2 := by unfold setRel; rw [h900]; rfl
      refine AW_condF rfl ?_
      refine AW_skip ?_
      refine AW_seq ?_
      refine AW_region ?_
      refine AL_p (x_loadN (n := 1) rfl rfl rfl (by kernel_rfl) rfl rfl) ?_
      refine AL_p (x_store (n := 1) rfl rfl rfl rfl (by kernel_rfl) rfl rfl rfl) ?_
      refine AL_nil ?_
      refine AW_ret ?_
      exact ⟨rn [(9, 102), (0, 104)], ⟨⟨⟨_, rfl, VLe.rf⟩, trivial⟩, ⟨⟨_, rfl, by first | exact BLe.rf | (subst_vars; exact BLe.rf)⟩, ⟨_, rfl, BLe.arr hno.symm⟩, trivial⟩, trivial, rfl⟩⟩
    try simp only [tdy] at h900
    have hno : setRel rels (⟨nm, r⟩ : Namedt) = (setTo rels (⟨nm, r⟩ : Namedt) rels.length).2 ++ [(⟨nm, r⟩ : Namedt)] := by unfold setRel; rw [h900]; rfl
    refine AW_condT rfl ?_
    refine AW_draw rfl ?_
    refine AL_p (x_field (off := 0) (o' := 0) rfl rfl rfl (by kernel_rfl) rfl) ?_
    refine AL_p (x_load1 rfl rfl rfl (by kernel_rfl) rfl) ?_
    refine AL_p (x_move rfl rfl) ?_
    refine AL_p (x_loadN (n := 2) rfl rfl rfl (by kernel_rfl) rfl rfl) ?_
    refine AL_p (x_call1 rfl rfl rfl (copyS_c r hr 111) rfl rfl rfl rfl) ?_
    refine AL_p (x_build (zs := [.string ⟨#[]⟩, .int .i64 0, .slice none 0 0]) (places := [(0, 1), (1, 2)]) rfl (by kernel_rfl) rfl rfl rfl rfl rfl) ?_
    refine AL_p (y_bslice (E := 84) (e := namedE) [.tmp 73] ([(⟨nm, r⟩ : Namedt)]) 112 rfl rfl rfl rfl rfl rfl rfl rfl FitL.rf rfl rfl rfl rfl rfl rfl (by kernel_rfl)) ?_
    refine AL_p (y_append 113 rfl rfl rfl rfl rfl rfl rfl rfl (by kernel_rfl) (by have := setTo_len2 (rels := rels) (nw := (⟨nm, r⟩ : Namedt)) rels.length; simp only [List.length_append, List.length_cons, List.length_nil]; omega)) ?_
    refine AL_p (x_field (off := 0) (o' := 0) rfl rfl rfl (by kernel_rfl) rfl) ?_
    refine AL_p (x_store (n := 1) rfl rfl rfl rfl (by kernel_rfl) rfl rfl rfl) ?_
    refine AL_nild (by kernel_rfl) ?_
    refine AW_seq ?_
    refine AW_region ?_
    refine AL_p (x_loadN (n := 1) rfl rfl rfl (by kernel_rfl) rfl rfl) ?_
    refine AL_p (x_store (n := 1) rfl rfl rfl rfl (by kernel_rfl) rfl rfl rfl) ?_
    refine AL_nil ?_
    refine AW_ret ?_
    exact ⟨rn [(9, 102), (0, 113)], ⟨⟨⟨_, rfl, VLe.rf⟩, trivial⟩, ⟨⟨_, rfl, by first | exact BLe.rf | (subst_vars; exact BLe.rf)⟩, ⟨_, rfl, BLe.arr hno.symm⟩, trivial⟩, trivial, rfl⟩⟩
  try simp only [tdy] at h15
  refine AW_condT rfl ?_
  refine AW_skip ?_
  refine AW_seq ?_
  refine AW_block ?_
  refine AW_seq ?_
  refine AW_region ?_
  refine AL_p (x_move rfl rfl) ?_
  refine AL_p (x_assign rfl rfl) ?_
  refine AL_nil ?_
  refine AW_seq ?_
  refine AW_seq ?_
  refine AW_region ?_
  refine AL_p (x_move rfl rfl) ?_
  refine AL_p (x_not rfl rfl) ?_
  refine AL_p (x_move rfl rfl) ?_
  cases b900
  rotate_left
  · try simp only [tdy] at h900
    refine AL_o rfl rfl rfl rfl ?_
    refine AL_o rfl rfl rfl rfl ?_
    refine AL_o rfl rfl rfl rfl ?_
    refine AL_o rfl rfl rfl rfl ?_
    refine AL_o rfl rfl rfl rfl ?_
    refine AL_o rfl rfl rfl rfl ?_
    refine AL_o rfl rfl rfl rfl ?_
    refine AL_o rfl rfl rfl rfl ?_
    refine AL_p (x_pickF rfl rfl rfl) ?_
    refine AL_nil ?_
    refine AW_condF rfl ?_
    refine AW_skip ?_
    refine AW_seq ?_
    refine AW_region ?_
    refine AL_p (x_field (off := 0) (o' := 0) rfl rfl rfl (by kernel_rfl) rfl) ?_
    refine AL_p (x_load1 rfl rfl rfl (by kernel_rfl) rfl) ?_
    refine AL_p (x_move rfl rfl) ?_
    refine AL_p (x_index (E := 84) (n := 3) rfl rfl rfl (by kernel_rfl) rfl (k := k) rfl (by omega)) ?_
    refine AL_p (x_efield (off := 0) (o' := 0) rfl rfl (by kernel_rfl) rfl) ?_
    refine AL_p (x_eload1 rfl rfl (by kernel_rfl) rfl) ?_
    refine AL_p (x_move rfl rfl) ?_
    refine AL_b (x_sneq rfl rfl rfl) (fun b45 h45 => ?_)
    refine AL_nil ?_
    cases b45
    · try simp only [tdy] at h45
      have hs2 := setTo_skip (nw := (⟨nm, r⟩ : Namedt)) (k := k) (by omega) h900 (show (!((rels[k]'(by omega)).name == nm)) = false by rw [h45]; rfl)
      refine AW_condF rfl ?_
      refine AW_skip ?_
      refine AW_region ?_
      refine AL_p (x_add rfl rfl rfl (IntWalk.i64_in _ (by omega))) ?_
      refine AL_p (x_move rfl rfl) ?_
      refine AL_nil ?_
      refine ⟨⟨⟨k + 1, true⟩, ⟨by omega, congrArg Prod.fst hs2⟩⟩, rn [], ?_, by dsimp only; omega⟩
      exact ⟨by (repeat refine ⟨⟨_, rfl, by first | exact VLe.rf | exact vle_int (by dsimp only; omega)⟩, ?_⟩); exact trivial, by (repeat refine ⟨⟨_, rfl, by first | exact BLe.rf | exact BLe.box AllC.rf | exact BLe.arr (by first | rfl | exact (congrArg Prod.snd hs2).symm)⟩, ?_⟩); exact trivial, by repeat (first | exact trivial | refine ⟨⟨rfl, by first | (left; intro h; cases h) | (right; rfl), by first | exact (fun _ h => ⟨_, h⟩) | exact (fun _ _ => ⟨_, rfl⟩)⟩, ?_⟩), rfl⟩
    try simp only [tdy] at h45
    have hs2 := setTo_skip (nw := (⟨nm, r⟩ : Namedt)) (k := k) (by omega) h900 (show (!((rels[k]'(by omega)).name == nm)) = true by rw [h45]; rfl)
    refine AW_condT rfl ?_
    refine AW_draw rfl ?_
    refine AL_p (x_field (off := 0) (o' := 0) rfl rfl rfl (by kernel_rfl) rfl) ?_
    refine AL_p (x_load1 rfl rfl rfl (by kernel_rfl) rfl) ?_
    refine AL_p (x_field (off := 0) (o' := 0) rfl rfl rfl (by kernel_rfl) rfl) ?_
    refine AL_p (x_load1 rfl rfl rfl (by kernel_rfl) rfl) ?_
    refine AL_p (x_move rfl rfl) ?_
    refine AL_p (x_index (E := 84) (n := 3) rfl rfl rfl (by kernel_rfl) rfl (k := k) rfl (by omega)) ?_
    refine AL_p (x_efield (off := 0) (o' := 0) rfl rfl (by kernel_rfl) rfl) ?_
    refine AL_p (x_eload1 rfl rfl (by kernel_rfl) rfl) ?_
    refine AL_p (x_field (off := 0) (o' := 0) rfl rfl rfl (by kernel_rfl) rfl) ?_
    refine AL_p (x_load1 rfl rfl rfl (by kernel_rfl) rfl) ?_
    refine AL_p (x_move rfl rfl) ?_
    refine AL_p (x_index (E := 84) (n := 3) rfl rfl rfl (by kernel_rfl) rfl (k := k) rfl (by omega)) ?_
    refine AL_p (x_efield (off := 1) (o' := 1) rfl rfl (by kernel_rfl) rfl) ?_
    refine AL_p (x_eloadN (n := 2) rfl rfl (by kernel_rfl) rfl rfl) ?_
    refine AL_p (x_call1 rfl rfl rfl (copyS_c (rels[k]'(by omega)).rel (hm _ (List.getElem_mem _)).2 105) rfl rfl rfl rfl) ?_
    refine AL_p (x_build (zs := [.string ⟨#[]⟩, .int .i64 0, .slice none 0 0]) (places := [(0, 1), (1, 2)]) rfl (by kernel_rfl) rfl rfl rfl rfl rfl) ?_
    refine AL_p (y_bslice (E := 84) (e := namedE) [.tmp 61] ([(rels[k]'(by omega))]) 106 rfl rfl rfl rfl rfl rfl rfl rfl FitL.rf rfl rfl rfl rfl rfl rfl (by kernel_rfl)) ?_
    refine AL_p (y_append 107 rfl rfl rfl rfl rfl rfl rfl rfl (by kernel_rfl) (by have := setTo_len2 (rels := rels) (nw := (⟨nm, r⟩ : Namedt)) k; simp only [List.length_append, List.length_cons, List.length_nil]; omega)) ?_
    refine AL_p (x_field (off := 0) (o' := 0) rfl rfl rfl (by kernel_rfl) rfl) ?_
    refine AL_p (x_store (n := 1) rfl rfl rfl rfl (by kernel_rfl) rfl rfl rfl) ?_
    refine AL_nild (by kernel_rfl) ?_
    refine AW_region ?_
    refine AL_p (x_add rfl rfl rfl (IntWalk.i64_in _ (by omega))) ?_
    refine AL_p (x_move rfl rfl) ?_
    refine AL_nil ?_
    refine ⟨⟨⟨k + 1, true⟩, ⟨by omega, congrArg Prod.fst hs2⟩⟩, rn [(104, 107)], ?_, by dsimp only; omega⟩
    exact ⟨by (repeat refine ⟨⟨_, rfl, by first | exact VLe.rf | exact vle_int (by dsimp only; omega)⟩, ?_⟩); exact trivial, by (repeat refine ⟨⟨_, rfl, by first | exact BLe.rf | exact BLe.box AllC.rf | exact BLe.arr (by first | rfl | exact (congrArg Prod.snd hs2).symm)⟩, ?_⟩); exact trivial, by repeat (first | exact trivial | refine ⟨⟨rfl, by first | (left; intro h; cases h) | (right; rfl), by first | exact (fun _ h => ⟨_, h⟩) | exact (fun _ _ => ⟨_, rfl⟩)⟩, ?_⟩), rfl⟩
  try simp only [tdy] at h900
  refine AL_g rfl rfl (x_move rfl rfl) ?_
  refine AL_g rfl rfl (x_field (off := 0) (o' := 0) rfl rfl rfl (by kernel_rfl) rfl) ?_
  refine AL_g rfl rfl (x_load1 rfl rfl rfl (by kernel_rfl) rfl) ?_
  refine AL_g rfl rfl (x_move rfl rfl) ?_
  refine AL_g rfl rfl (x_index (E := 84) (n := 3) rfl rfl rfl (by kernel_rfl) rfl (k := k) rfl (by omega)) ?_
  refine AL_g rfl rfl (x_efield (off := 0) (o' := 0) rfl rfl (by kernel_rfl) rfl) ?_
  refine AL_g rfl rfl (x_eload1 rfl rfl (by kernel_rfl) rfl) ?_
  refine AL_gb rfl rfl (x_sleq rfl rfl rfl) (fun b27 h27 => ?_)
  refine AL_p (x_pickT rfl rfl rfl) ?_
  refine AL_nil ?_
  cases b27
  · try simp only [tdy] at h27
    refine AW_condF rfl ?_
    refine AW_skip ?_
    refine AW_seq ?_
    refine AW_region ?_
    refine AL_p (x_field (off := 0) (o' := 0) rfl rfl rfl (by kernel_rfl) rfl) ?_
    refine AL_p (x_load1 rfl rfl rfl (by kernel_rfl) rfl) ?_
    refine AL_p (x_move rfl rfl) ?_
    refine AL_p (x_index (E := 84) (n := 3) rfl rfl rfl (by kernel_rfl) rfl (k := k) rfl (by omega)) ?_
    refine AL_p (x_efield (off := 0) (o' := 0) rfl rfl (by kernel_rfl) rfl) ?_
    refine AL_p (x_eload1 rfl rfl (by kernel_rfl) rfl) ?_
    refine AL_p (x_move rfl rfl) ?_
    refine AL_b (x_sneq rfl rfl rfl) (fun b45 h45 => ?_)
    refine AL_nil ?_
    cases b45
    · try simp only [tdy] at h45
      have hs2 := setTo_next (nw := (⟨nm, r⟩ : Namedt)) (k := k) (by omega) h900 h27 (show (!((rels[k]'(by omega)).name == nm)) = false by rw [h45]; rfl)
      refine AW_condF rfl ?_
      refine AW_skip ?_
      refine AW_region ?_
      refine AL_p (x_add rfl rfl rfl (IntWalk.i64_in _ (by omega))) ?_
      refine AL_p (x_move rfl rfl) ?_
      refine AL_nil ?_
      refine ⟨⟨⟨k + 1, false⟩, ⟨by omega, congrArg Prod.fst hs2⟩⟩, rn [], ?_, by dsimp only; omega⟩
      exact ⟨by (repeat refine ⟨⟨_, rfl, by first | exact VLe.rf | exact vle_int (by dsimp only; omega)⟩, ?_⟩); exact trivial, by (repeat refine ⟨⟨_, rfl, by first | exact BLe.rf | exact BLe.box AllC.rf | exact BLe.arr (by first | rfl | exact (congrArg Prod.snd hs2).symm)⟩, ?_⟩); exact trivial, by repeat (first | exact trivial | refine ⟨⟨rfl, by first | (left; intro h; cases h) | (right; rfl), by first | exact (fun _ h => ⟨_, h⟩) | exact (fun _ _ => ⟨_, rfl⟩)⟩, ?_⟩), rfl⟩
    try simp only [tdy] at h45
    have hs2 := setTo_next (nw := (⟨nm, r⟩ : Namedt)) (k := k) (by omega) h900 h27 (show (!((rels[k]'(by omega)).name == nm)) = true by rw [h45]; rfl)
    refine AW_condT rfl ?_
    refine AW_draw rfl ?_
    refine AL_p (x_field (off := 0) (o' := 0) rfl rfl rfl (by kernel_rfl) rfl) ?_
    refine AL_p (x_load1 rfl rfl rfl (by kernel_rfl) rfl) ?_
    refine AL_p (x_field (off := 0) (o' := 0) rfl rfl rfl (by kernel_rfl) rfl) ?_
    refine AL_p (x_load1 rfl rfl rfl (by kernel_rfl) rfl) ?_
    refine AL_p (x_move rfl rfl) ?_
    refine AL_p (x_index (E := 84) (n := 3) rfl rfl rfl (by kernel_rfl) rfl (k := k) rfl (by omega)) ?_
    refine AL_p (x_efield (off := 0) (o' := 0) rfl rfl (by kernel_rfl) rfl) ?_
    refine AL_p (x_eload1 rfl rfl (by kernel_rfl) rfl) ?_
    refine AL_p (x_field (off := 0) (o' := 0) rfl rfl rfl (by kernel_rfl) rfl) ?_
    refine AL_p (x_load1 rfl rfl rfl (by kernel_rfl) rfl) ?_
    refine AL_p (x_move rfl rfl) ?_
    refine AL_p (x_index (E := 84) (n := 3) rfl rfl rfl (by kernel_rfl) rfl (k := k) rfl (by omega)) ?_
    refine AL_p (x_efield (off := 1) (o' := 1) rfl rfl (by kernel_rfl) rfl) ?_
    refine AL_p (x_eloadN (n := 2) rfl rfl (by kernel_rfl) rfl rfl) ?_
    refine AL_p (x_call1 rfl rfl rfl (copyS_c (rels[k]'(by omega)).rel (hm _ (List.getElem_mem _)).2 105) rfl rfl rfl rfl) ?_
    refine AL_p (x_build (zs := [.string ⟨#[]⟩, .int .i64 0, .slice none 0 0]) (places := [(0, 1), (1, 2)]) rfl (by kernel_rfl) rfl rfl rfl rfl rfl) ?_
    refine AL_p (y_bslice (E := 84) (e := namedE) [.tmp 61] ([(rels[k]'(by omega))]) 106 rfl rfl rfl rfl rfl rfl rfl rfl FitL.rf rfl rfl rfl rfl rfl rfl (by kernel_rfl)) ?_
    refine AL_p (y_append 107 rfl rfl rfl rfl rfl rfl rfl rfl (by kernel_rfl) (by have := setTo_len2 (rels := rels) (nw := (⟨nm, r⟩ : Namedt)) k; simp only [List.length_append, List.length_cons, List.length_nil]; omega)) ?_
    refine AL_p (x_field (off := 0) (o' := 0) rfl rfl rfl (by kernel_rfl) rfl) ?_
    refine AL_p (x_store (n := 1) rfl rfl rfl rfl (by kernel_rfl) rfl rfl rfl) ?_
    refine AL_nild (by kernel_rfl) ?_
    refine AW_region ?_
    refine AL_p (x_add rfl rfl rfl (IntWalk.i64_in _ (by omega))) ?_
    refine AL_p (x_move rfl rfl) ?_
    refine AL_nil ?_
    refine ⟨⟨⟨k + 1, false⟩, ⟨by omega, congrArg Prod.fst hs2⟩⟩, rn [(104, 107)], ?_, by dsimp only; omega⟩
    exact ⟨by (repeat refine ⟨⟨_, rfl, by first | exact VLe.rf | exact vle_int (by dsimp only; omega)⟩, ?_⟩); exact trivial, by (repeat refine ⟨⟨_, rfl, by first | exact BLe.rf | exact BLe.box AllC.rf | exact BLe.arr (by first | rfl | exact (congrArg Prod.snd hs2).symm)⟩, ?_⟩); exact trivial, by repeat (first | exact trivial | refine ⟨⟨rfl, by first | (left; intro h; cases h) | (right; rfl), by first | exact (fun _ h => ⟨_, h⟩) | exact (fun _ _ => ⟨_, rfl⟩)⟩, ?_⟩), rfl⟩
  try simp only [tdy] at h27
  refine AW_condT rfl ?_
  refine AW_seq ?_
  refine AW_draw rfl ?_
  refine AL_p (x_field (off := 0) (o' := 0) rfl rfl rfl (by kernel_rfl) rfl) ?_
  refine AL_p (x_load1 rfl rfl rfl (by kernel_rfl) rfl) ?_
  refine AL_p (x_move rfl rfl) ?_
  refine AL_p (x_loadN (n := 2) rfl rfl rfl (by kernel_rfl) rfl rfl) ?_
  refine AL_p (x_call1 rfl rfl rfl (copyS_c r hr 108) rfl rfl rfl rfl) ?_
  refine AL_p (x_build (zs := [.string ⟨#[]⟩, .int .i64 0, .slice none 0 0]) (places := [(0, 1), (1, 2)]) rfl (by kernel_rfl) rfl rfl rfl rfl rfl) ?_
  refine AL_p (y_bslice (E := 84) (e := namedE) [.tmp 34] ([(⟨nm, r⟩ : Namedt)]) 109 rfl rfl rfl rfl rfl rfl rfl rfl FitL.rf rfl rfl rfl rfl rfl rfl (by kernel_rfl)) ?_
  refine AL_p (y_append 110 rfl rfl rfl rfl rfl rfl rfl rfl (by kernel_rfl) (by have := setTo_len2 (rels := rels) (nw := (⟨nm, r⟩ : Namedt)) k; simp only [List.length_append, List.length_cons, List.length_nil]; omega)) ?_
  refine AL_p (x_field (off := 0) (o' := 0) rfl rfl rfl (by kernel_rfl) rfl) ?_
  refine AL_p (x_store (n := 1) rfl rfl rfl rfl (by kernel_rfl) rfl rfl rfl) ?_
  refine AL_nild (by kernel_rfl) ?_
  refine AW_region ?_
  refine AL_p (x_assign rfl rfl) ?_
  refine AL_nil ?_
  refine AW_seq ?_
  refine AW_region ?_
  refine AL_p (x_field (off := 0) (o' := 0) rfl rfl rfl (by kernel_rfl) rfl) ?_
  refine AL_p (x_load1 rfl rfl rfl (by kernel_rfl) rfl) ?_
  refine AL_p (x_move rfl rfl) ?_
  refine AL_p (x_index (E := 84) (n := 3) rfl rfl rfl (by kernel_rfl) rfl (k := k) rfl (by omega)) ?_
  refine AL_p (x_efield (off := 0) (o' := 0) rfl rfl (by kernel_rfl) rfl) ?_
  refine AL_p (x_eload1 rfl rfl (by kernel_rfl) rfl) ?_
  refine AL_p (x_move rfl rfl) ?_
  refine AL_b (x_sneq rfl rfl rfl) (fun b45 h45 => ?_)
  refine AL_nil ?_
  cases b45
  · try simp only [tdy] at h45
    have hs2 := setTo_next (nw := (⟨nm, r⟩ : Namedt)) (k := k) (by omega) h900 h27 (show (!((rels[k]'(by omega)).name == nm)) = false by rw [h45]; rfl)
    refine AW_condF rfl ?_
    refine AW_skip ?_
    refine AW_region ?_
    refine AL_p (x_add rfl rfl rfl (IntWalk.i64_in _ (by omega))) ?_
    refine AL_p (x_move rfl rfl) ?_
    refine AL_nil ?_
    refine ⟨⟨⟨k + 1, true⟩, ⟨by omega, congrArg Prod.fst hs2⟩⟩, rn [(104, 110)], ?_, by dsimp only; omega⟩
    exact ⟨by (repeat refine ⟨⟨_, rfl, by first | exact VLe.rf | exact vle_int (by dsimp only; omega)⟩, ?_⟩); exact trivial, by (repeat refine ⟨⟨_, rfl, by first | exact BLe.rf | exact BLe.box AllC.rf | exact BLe.arr (by first | rfl | exact (congrArg Prod.snd hs2).symm)⟩, ?_⟩); exact trivial, by repeat (first | exact trivial | refine ⟨⟨rfl, by first | (left; intro h; cases h) | (right; rfl), by first | exact (fun _ h => ⟨_, h⟩) | exact (fun _ _ => ⟨_, rfl⟩)⟩, ?_⟩), rfl⟩
  try simp only [tdy] at h45
  have hs2 := setTo_next (nw := (⟨nm, r⟩ : Namedt)) (k := k) (by omega) h900 h27 (show (!((rels[k]'(by omega)).name == nm)) = true by rw [h45]; rfl)
  refine AW_condT rfl ?_
  refine AW_draw rfl ?_
  refine AL_p (x_field (off := 0) (o' := 0) rfl rfl rfl (by kernel_rfl) rfl) ?_
  refine AL_p (x_load1 rfl rfl rfl (by kernel_rfl) rfl) ?_
  refine AL_p (x_field (off := 0) (o' := 0) rfl rfl rfl (by kernel_rfl) rfl) ?_
  refine AL_p (x_load1 rfl rfl rfl (by kernel_rfl) rfl) ?_
  refine AL_p (x_move rfl rfl) ?_
  refine AL_p (x_index (E := 84) (n := 3) rfl rfl rfl (by kernel_rfl) rfl (k := k) rfl (by omega)) ?_
  refine AL_p (x_efield (off := 0) (o' := 0) rfl rfl (by kernel_rfl) rfl) ?_
  refine AL_p (x_eload1 rfl rfl (by kernel_rfl) rfl) ?_
  refine AL_p (x_field (off := 0) (o' := 0) rfl rfl rfl (by kernel_rfl) rfl) ?_
  refine AL_p (x_load1 rfl rfl rfl (by kernel_rfl) rfl) ?_
  refine AL_p (x_move rfl rfl) ?_
  refine AL_p (x_index (E := 84) (n := 3) rfl rfl rfl (by kernel_rfl) rfl (k := k) rfl (by omega)) ?_
  refine AL_p (x_efield (off := 1) (o' := 1) rfl rfl (by kernel_rfl) rfl) ?_
  refine AL_p (x_eloadN (n := 2) rfl rfl (by kernel_rfl) rfl rfl) ?_
  refine AL_p (x_call1 rfl rfl rfl (copyS_c (rels[k]'(by omega)).rel (hm _ (List.getElem_mem _)).2 105) rfl rfl rfl rfl) ?_
  refine AL_p (x_build (zs := [.string ⟨#[]⟩, .int .i64 0, .slice none 0 0]) (places := [(0, 1), (1, 2)]) rfl (by kernel_rfl) rfl rfl rfl rfl rfl) ?_
  refine AL_p (y_bslice (E := 84) (e := namedE) [.tmp 61] ([(rels[k]'(by omega))]) 106 rfl rfl rfl rfl rfl rfl rfl rfl FitL.rf rfl rfl rfl rfl rfl rfl (by kernel_rfl)) ?_
  refine AL_p (y_append 107 rfl rfl rfl rfl rfl rfl rfl rfl (by kernel_rfl) (by have := setTo_len2 (rels := rels) (nw := (⟨nm, r⟩ : Namedt)) k; simp only [List.length_append, List.length_cons, List.length_nil]; omega)) ?_
  refine AL_p (x_field (off := 0) (o' := 0) rfl rfl rfl (by kernel_rfl) rfl) ?_
  refine AL_p (x_store (n := 1) rfl rfl rfl rfl (by kernel_rfl) rfl rfl rfl) ?_
  refine AL_nild (by kernel_rfl) ?_
  refine AW_region ?_
  refine AL_p (x_add rfl rfl rfl (IntWalk.i64_in _ (by omega))) ?_
  refine AL_p (x_move rfl rfl) ?_
  refine AL_nil ?_
  refine ⟨⟨⟨k + 1, true⟩, ⟨by omega, congrArg Prod.fst hs2⟩⟩, rn [(104, 107)], ?_, by dsimp only; omega⟩
  exact ⟨by (repeat refine ⟨⟨_, rfl, by first | exact VLe.rf | exact vle_int (by dsimp only; omega)⟩, ?_⟩); exact trivial, by (repeat refine ⟨⟨_, rfl, by first | exact BLe.rf | exact BLe.box AllC.rf | exact BLe.arr (by first | rfl | exact (congrArg Prod.snd hs2).symm)⟩, ?_⟩); exact trivial, by repeat (first | exact trivial | refine ⟨⟨rfl, by first | (left; intro h; cases h) | (right; rfl), by first | exact (fun _ h => ⟨_, h⟩) | exact (fun _ _ => ⟨_, rfl⟩)⟩, ?_⟩), rfl⟩
theorem l12Set_c (rels : List Namedt) (nm : ByteArray) (r : Relt) (hs : rels.length ≤ 1048575) (hm : ∀ y ∈ rels, smallNamed y) (hr : smallRel r) (k : Nat) : AC Tryz.prog 35 [.agg [.sl namedE rels], .one (.c (.string nm)), .agg (relC r)] [] (.agg [.own k]) [(k, some (.arr 84 namedE (setRel rels (⟨nm, r⟩ : Namedt)) true))] := AC.at (l12Set_c0 rels nm r hs hm hr) k

set_option maxHeartbeats 4000000 in
theorem copySt_c0 (rels : List Namedt) (hs : rels.length ≤ 1048576) (hm : ∀ y ∈ rels, smallNamed y) : AC Tryz.prog 31 [.agg [.sl namedE rels]] [] (.agg [.own 0]) [(0, some (.arr 84 namedE rels true))] := by
  refine AC_bodyC (n := 1) (k := 9) (T := [(2, .one (.ptr 9 0))]) (Lf := ((9, some (.box [.own 0])) :: [(0, some (.arr 84 namedE rels true))])) Tryz.func31 rfl rfl Tryz.ntmps31 rfl Tryz.results31 rfl rfl (by kernel_rfl) rfl rfl ⟨trivial, (by repeat (first | exact trivial | refine ⟨⟨_, rfl, BLe.rf⟩, ?_⟩)), (by repeat (first | exact trivial | refine ⟨⟨rfl, by first | (left; intro h; cases h) | (right; rfl), by first | exact (fun _ h => ⟨_, h⟩) | exact (fun _ _ => ⟨_, rfl⟩)⟩, ?_⟩)), rfl⟩ ?_
  refine AW_seq ?_
  refine AW_region ?_
  refine AL_p (x_box 100 rfl rfl rfl rfl rfl rfl rfl) ?_
  refine AL_p (x_alloc (z := .agg #[.slice none 0 0]) 101 rfl (by kernel_rfl) rfl rfl rfl rfl) ?_
  refine AL_nil ?_
  refine AW_seq ?_
  refine AW_region ?_
  refine AL_p (x_build (zs := [.slice none 0 0]) (places := [(0, 1)]) rfl (by kernel_rfl) rfl rfl rfl rfl rfl) ?_
  refine AL_p (x_alloc (z := .agg #[.slice none 0 0]) 102 rfl (by kernel_rfl) rfl rfl rfl rfl) ?_
  refine AL_p (x_store (n := 1) rfl rfl rfl rfl (by kernel_rfl) rfl rfl rfl) ?_
  refine AL_nil ?_
  refine AW_seq ?_
  refine AW_seq ?_
  refine AW_region ?_
  refine AL_p (x_field (off := 0) (o' := 0) rfl rfl rfl (by kernel_rfl) rfl) ?_
  refine AL_p (x_load1 rfl rfl rfl (by kernel_rfl) rfl) ?_
  refine AL_p (x_len (E := 84) (n := 3) rfl rfl (by kernel_rfl)) ?_
  refine AL_p (x_move rfl rfl) ?_
  refine AL_nil ?_
  refine AW_block ?_
  refine AW_adopt (T := 84) (e := namedE) 103 102 0 rfl rfl rfl rfl rfl ?_
  refine AW_loop2 (ι := {q : Nat // q ≤ rels.length}) (fun p => [(9, .one (.c (.int .i64 ((p.1) : Int))))]) (fun p => [(103, some (.arr 84 namedE (rels.take (p.1)) true))]) [1, 2, 3, 8] [100, 101, 102] (fun p => rels.length - (p.1)) ⟨0, by omega⟩ (rn []) ?_ ?_
  exact ⟨by (repeat refine ⟨⟨_, rfl, by first | exact VLe.rf | exact vle_int (by dsimp only; omega)⟩, ?_⟩); exact trivial, by (repeat refine ⟨⟨_, rfl, by first | exact BLe.rf | exact BLe.box AllC.rf | exact BLe.arr (by first | exact take_none | exact take_more (by omega))⟩, ?_⟩); exact trivial, by repeat (first | exact trivial | refine ⟨⟨rfl, by first | (left; intro h; cases h) | (right; rfl), by first | exact (fun _ h => ⟨_, h⟩) | exact (fun _ _ => ⟨_, rfl⟩)⟩, ?_⟩), rfl⟩
  rintro ⟨k, hinv⟩
  dsimp only
  have hk := hinv
  refine AW_seq ?_
  refine AW_region ?_
  refine AL_b (x_lss rfl rfl rfl) (fun b10 h10 => ?_)
  refine AL_nil ?_
  refine AW_seq ?_
  cases b10
  · try simp only [tdy] at h10
    refine AW_condF rfl ?_
    refine AW_exit (BQ_hit ?_)
    refine AW_seq ?_
    refine AW_region ?_
    refine AL_p (x_loadN (n := 1) rfl rfl rfl (by kernel_rfl) rfl rfl) ?_
    refine AL_p (x_store (n := 1) rfl rfl rfl rfl (by kernel_rfl) rfl rfl rfl) ?_
    refine AL_nil ?_
    refine AW_ret ?_
    exact ⟨rn [(9, 101), (0, 103)], ⟨⟨⟨_, rfl, VLe.rf⟩, trivial⟩, ⟨⟨_, rfl, by first | exact BLe.rf | (subst_vars; exact BLe.rf)⟩, ⟨_, rfl, BLe.arr (List.take_of_length_le (by omega))⟩, trivial⟩, trivial, rfl⟩⟩
  try simp only [tdy] at h10
  refine AW_condT rfl ?_
  refine AW_skip ?_
  refine AW_seq ?_
  refine AW_block ?_
  refine AW_seq ?_
  refine AW_region ?_
  refine AL_p (x_move rfl rfl) ?_
  refine AL_p (x_assign rfl rfl) ?_
  refine AL_nil ?_
  refine AW_draw rfl ?_
  refine AL_p (x_field (off := 0) (o' := 0) rfl rfl rfl (by kernel_rfl) rfl) ?_
  refine AL_p (x_load1 rfl rfl rfl (by kernel_rfl) rfl) ?_
  refine AL_p (x_field (off := 0) (o' := 0) rfl rfl rfl (by kernel_rfl) rfl) ?_
  refine AL_p (x_load1 rfl rfl rfl (by kernel_rfl) rfl) ?_
  refine AL_p (x_move rfl rfl) ?_
  refine AL_p (x_index (E := 84) (n := 3) rfl rfl rfl (by kernel_rfl) rfl (k := k) rfl (by omega)) ?_
  refine AL_p (x_efield (off := 0) (o' := 0) rfl rfl (by kernel_rfl) rfl) ?_
  refine AL_p (x_eload1 rfl rfl (by kernel_rfl) rfl) ?_
  refine AL_p (x_field (off := 0) (o' := 0) rfl rfl rfl (by kernel_rfl) rfl) ?_
  refine AL_p (x_load1 rfl rfl rfl (by kernel_rfl) rfl) ?_
  refine AL_p (x_move rfl rfl) ?_
  refine AL_p (x_index (E := 84) (n := 3) rfl rfl rfl (by kernel_rfl) rfl (k := k) rfl (by omega)) ?_
  refine AL_p (x_efield (off := 1) (o' := 1) rfl rfl (by kernel_rfl) rfl) ?_
  refine AL_p (x_eloadN (n := 2) rfl rfl (by kernel_rfl) rfl rfl) ?_
  refine AL_p (x_call1 rfl rfl rfl (copyS_c (rels[k]'(by omega)).rel (hm _ (List.getElem_mem _)).2 104) rfl rfl rfl rfl) ?_
  refine AL_p (x_build (zs := [.string ⟨#[]⟩, .int .i64 0, .slice none 0 0]) (places := [(0, 1), (1, 2)]) rfl (by kernel_rfl) rfl rfl rfl rfl rfl) ?_
  refine AL_p (y_bslice (E := 84) (e := namedE) [.tmp 27] ([(rels[k]'(by omega))]) 105 rfl rfl rfl rfl rfl rfl rfl rfl FitL.rf rfl rfl rfl rfl rfl rfl (by kernel_rfl)) ?_
  refine AL_p (y_append 106 rfl rfl rfl rfl rfl rfl rfl rfl (by kernel_rfl) (by simp only [List.length_take, List.length_cons, List.length_nil]; omega)) ?_
  refine AL_p (x_field (off := 0) (o' := 0) rfl rfl rfl (by kernel_rfl) rfl) ?_
  refine AL_p (x_store (n := 1) rfl rfl rfl rfl (by kernel_rfl) rfl rfl rfl) ?_
  refine AL_nild (by kernel_rfl) ?_
  refine AW_region ?_
  refine AL_p (x_add rfl rfl rfl (IntWalk.i64_in _ (by omega))) ?_
  refine AL_p (x_move rfl rfl) ?_
  refine AL_nil ?_
  refine ⟨⟨k + 1, by omega⟩, rn [(103, 106)], ?_, by dsimp only; omega⟩
  exact ⟨by (repeat refine ⟨⟨_, rfl, by first | exact VLe.rf | exact vle_int (by dsimp only; omega)⟩, ?_⟩); exact trivial, by (repeat refine ⟨⟨_, rfl, by first | exact BLe.rf | exact BLe.box AllC.rf | exact BLe.arr (by first | exact take_none | exact take_more (by omega))⟩, ?_⟩); exact trivial, by repeat (first | exact trivial | refine ⟨⟨rfl, by first | (left; intro h; cases h) | (right; rfl), by first | exact (fun _ h => ⟨_, h⟩) | exact (fun _ _ => ⟨_, rfl⟩)⟩, ?_⟩), rfl⟩
theorem copySt_c (rels : List Namedt) (hs : rels.length ≤ 1048576) (hm : ∀ y ∈ rels, smallNamed y) (k : Nat) : AC Tryz.prog 31 [.agg [.sl namedE rels]] [] (.agg [.own k]) [(k, some (.arr 84 namedE rels true))] := AC.at (copySt_c0 rels hs hm) k
end Go.Proofs.YtibhoanjglfaoaaGreat

/- A contract that takes arrays and leaves others, under other numbers. -/
namespace Go.Proofs.YtibhoanjglfaoaaGreat
open Go.RowKit
set_option linter.unusedVariables false

theorem all2_unren {r : Nat → Nat} {l L : Locs} {g : Gh} {w : World} (hL : LeL r l L) : ∀ {vs : List Value} {xs : List AVal}, All2 (VR1 g l w) vs (xs.map (AVal.ren1 r)) → All2 (VR1 (g.ren r) L w) vs xs
  | [], [], _ => trivial
  | v :: vs, x :: xs, h => ⟨VR1.unren hL h.1, all2_unren hL h.2⟩
  | [], _ :: _, h => by cases h
  | _ :: _, [], h => by cases h
/-- A contract that takes the blocks L: what becomes of them is not told. -/
structure AT (P : Program) (f : FuncId) (args : List AVal) (L : Locs) (res : AVal) (L' : Locs) : Prop where
  fn : Callable P f
  run : ∀ (g : Gh) (w : World) (cargs : Array Value), MemR g L w → All2 (VR1 g L w) cargs.toList args →
    Calls P f cargs w fun e w' => ∃ v g', e = .returned v ∧ MemR g' L' w' ∧ VR g' L' w' v res ∧ Step [] g L w g' L' w'
section body
variable {P : Program} {N : Nat} {f : FuncId} {fn : Func} {c : Code} {args : List AVal} {L L' : Locs}
theorem AT_of {res : AVal} {T : Tmps} (hf : P.funcs[f]? = some fn) (hb : fn.body = some c) (hn : (fn.name == "runtime.NumGoroutine") = false) (hN : fn.ntmps = N) (hA : Nat.ble args.length N = true)
    (hr : ∀ (g : Gh) (a : Act) (w : World), Rep N g ⟨T, L'⟩ a w → ∃ v, (results fn a.tmps).run P w = .ok v w ∧ VR g L' w v res)
    (h : AW P N [] c (RetS [] T L') (RetQ [] T L') ⟨args0 args 0, L⟩) : AT P f args L res L' := by
  refine ⟨⟨fn, c, hf, hb, hn⟩, fun g w cargs m ha => ?_⟩
  subst hN
  have R := entry_rep m ha (Nat.le_of_ble_eq_true hA)
  refine calls_of_wp hf hb (Go.wp_mono (h g _ w R) ?_)
  rintro e a1 w1 ⟨g1, s1, R1, hs, hR⟩
  have fin : RetS [] T L' s1 → a1.defers = [] ∧ ∃ v, (results fn a1.tmps).run P w1 = .ok v w1 ∧ ∃ v' g', Ending.returned v = .returned v' ∧ MemR g' L' w1 ∧ VR g' L' w1 v' res ∧ Step [] g L w g' L' w1 := by
    rintro ⟨r, hle⟩
    have R2 := R1.le hle
    obtain ⟨v, h1, h2⟩ := hr _ a1 w1 R2
    exact ⟨R1.defers, v, h1, v, _, rfl, R2.mem, h2, hs.trans m R1.mem (Step.unren hle.l hle.k)⟩
  cases e with
  | normal => exact fin hR
  | ret => exact fin hR
  | exit id => exact hR
  | goto l => exact hR
  | panic ch => exact hR.elim
  | outgrown => exact hR.elim
theorem AT_body1 {r : Nat} {x : AVal} (hf : P.funcs[f]? = some fn) (hb : fn.body = some c) (hn : (fn.name == "runtime.NumGoroutine") = false) (hN : fn.ntmps = N) (hA : Nat.ble args.length N = true) (hr : fn.results = #[.tmp r])
    (h : AW P N [] c (RetS [] [(r, x)] L') (RetQ [] [(r, x)] L') ⟨args0 args 0, L⟩) : AT P f args L x L' :=
  AT_of hf hb hn hN hA (fun g a w R => ⟨_, results_tmp hr _ _ _, R.tmp r x lk_cons_self⟩) h
end body
/-- The lent blocks l are all gone behind the call. -/
theorem AT.lend {P : Program} {f : FuncId} {args : List AVal} {L L' l l' : Locs} {res' : AVal} (r s : Nat → Nat) (h : AT P f args L (res'.ren s) L') (hL : LeL r l L) (hi : injL r (keys L) = true) (hL' : LeL s L' l') (hi' : injL s (keys l') = true)
    (hg : ∀ k ∈ keys l, lk l' k = some none) (hb : ∀ k cs, lkl l k ≠ some (.box cs)) : AC P f (args.map (AVal.ren1 r)) l res' l' :=
  ⟨h.fn, fun g w cargs m ha => (h.run (g.ren r) w cargs (m.unren hL hi) (all2_unren hL ha)).mono (by
    rintro e w' ⟨v, g1, rfl, m1, hv, hs⟩
    have m0 := m.unren hL hi
    have A : Step [] g l w (g.ren r) L w := Step.unren hL trivial
    have B : Step [] (g.ren r) L w g1 L' w' := hs
    have C : Step [] g1 L' w' (g1.ren s) l' w' := Step.unren hL' trivial
    have T := (A.trans m m0 B).trans m m1 C
    refine ⟨v, g1.ren s, rfl, m1.unren hL' hi', VR.unren hL' hv, { T with base := fun k hk hn => ?_ }⟩
    have h1 := hg k hk
    have h2 : lkl l' k = none := by unfold lkl; rw [h1]
    exact ⟨by rw [h1]; simp, okK.gone h2, fun cs hc => absurd hc (hb k cs)⟩)⟩
/-- One array is taken, one is left. -/
theorem AT.lend1 {P : Program} {f : FuncId} {rest : List AVal} {α β : Type} {T U : TypeId} {e : Enc α} {e' : Enc β} {xs : List α} {ys : List β} {d d' : Bool}
    (h : AT P f (.one (.own 0) :: rest) [(0, some (.arr T e xs d))] (.one (.own 1)) [(1, some (.arr U e' ys d'))]) (a c : Nat) (hac : Nat.beq a c = false) (hrest : ∀ r, rest.map (AVal.ren1 r) = rest) :
    AC P f (.one (.own a) :: rest) [(a, some (.arr T e xs d))] (.one (.own c)) [(a, none), (c, some (.arr U e' ys d'))] := by
  have hne : a ≠ c := fun h => by rw [h, Nat.beq_refl] at hac; cases hac
  have hs : (fun k => bif Nat.beq k a then 0 else 1) c = 1 := by
    show (bif Nat.beq c a then 0 else 1) = 1
    have : Nat.beq c a = false := by
      cases e : Nat.beq c a
      · rfl
      · exact absurd (Nat.eq_of_beq_eq_true e).symm hne
    rw [this]; rfl
  have := AT.lend (res' := .one (.own c)) (l := [(a, some (.arr T e xs d))]) (l' := [(a, none), (c, some (.arr U e' ys d'))]) (fun _ => a) (fun k => bif Nat.beq k a then 0 else 1) (L := [(0, some (.arr T e xs d))]) (L' := [(1, some (.arr U e' ys d'))])
    (by show AT P f _ _ (.one (.own _)) _; rw [hs]; exact h) ⟨⟨.arr T e xs d, by simp [lkl, lk], (BLe.rf : BLe (.arr T e xs d) (.arr T e xs d))⟩, trivial⟩ (by simp [injL, keys]) ⟨⟨_, by rw [hs]; rfl, BLe.rf⟩, trivial⟩ (by
      have h2 : Nat.beq c a = false := by
        cases e : Nat.beq c a
        · rfl
        · exact absurd (Nat.eq_of_beq_eq_true e).symm hne
      simp [injL, keys, h2]
      rfl) (fun k hk => by simp [keys] at hk; subst hk; simp [lk]) (fun k cs hc => by
        cases hq : Nat.beq a k <;> simp [lkl, lk, hq] at hc)
  rw [List.map_cons, hrest] at this
  exact this
end Go.Proofs.YtibhoanjglfaoaaGreat

/- Texts and bytes in the abstract walk: the bytes of a text, appended. -/
namespace Go.Proofs.YtibhoanjglfaoaaGreat
open Go.RowKit
set_option linter.unusedVariables false

theorem u8_fine (b : UInt8) : (Lit.int .u8 (b.toNat : Int)).wf = true := by
  have := b.toNat_lt
  simp only [Lit.wf, Bool.and_eq_true, decide_eq_true_eq]
  have h1 : IntKind.u8.min = 0 := rfl
  have h2 : IntKind.u8.max = 255 := rfl
  rw [h1, h2]; omega
theorem FR.bytes {w : World} : ∀ (l : List UInt8), FR w (l.map fun b => Value.int .u8 b.toNat) ((l.map fun b => (b.toNat : Int)).flatMap fun n => [Cell.c (.int .u8 n)]) []
  | [] => rfl
  | b :: l => ⟨[], [], rfl, ⟨rfl, u8_fine b, rfl⟩, FR.bytes l⟩
section ops
variable {P : Program} {N : Nat} {s : St} {d : Nat} {ty : TypeId} {pos : String} {after : Array Edge} {gd : Option (Nat × Bool)}
/-- New blocks that nobody writes. -/
def Gh.more (g : Gh) (w w' : World) : Gh := { g with I := fun b => g.I b ∨ (w.heap.size ≤ b ∧ b < w'.heap.size) }
theorem MemR.grow {g : Gh} {l : Locs} {w w' : World} (m : MemR g l w) (hk : ∀ b, b < w.heap.size → w'.heap[b]? = w.heap[b]?) (hs : w.heap.size ≤ w'.heap.size) : MemR (g.more w w') l w' where
  ilt := fun b hb => hb.elim (fun h => Nat.lt_of_lt_of_le (m.ilt b h) hs) fun h => h.2
  box := fun k cs hl => by
    obtain ⟨vs, t, h1, h2, h3⟩ := m.box k cs hl
    have hlt : g.ρ k < w.heap.size := (Array.getElem?_eq_some_iff.1 h1).1
    refine ⟨vs, t, (hk _ hlt).trans h1, h2.mono fun a b _ hr => CellR.step (fun b hb => hk b (m.ilt b hb)) (fun _ h => .inl h) hs (fun _ _ => okK.same rfl rfl rfl) hr, fun h => h.elim h3 fun h => ?_⟩
    have h4 : w.heap.size ≤ g.ρ k := h.1
    omega
  arr := fun k α T e xs d hl => by
    rcases m.arr k α T e xs d hl with h | ⟨cap, vs, bss, h1, h2, h3, h4, h5, h6, h7, h8, h9⟩
    · exact .inl h
    · have hlt : g.ρ k < w.heap.size := (Array.getElem?_eq_some_iff.1 h4).1
      refine .inr ⟨cap, vs, bss, h1, h2, h3, (hk _ hlt).trans h4, h5, h6.keep (hk _ hlt) (fun b hb => hk b (m.ilt b (h7 b hb))) hs, fun b hb => .inl (h7 b hb), fun h => h.elim h8 fun h => ?_, h9⟩
      have h10 : w.heap.size ≤ g.ρ k := h.1
      omega
  dis := fun j k b b' h1 h2 h3 h4 h5 => m.dis j k b b' h1 h2 h3 (by cases b <;> exact h4) (by cases b' <;> exact h5)
  fr := fun k α T e xs hl => by
    obtain ⟨h1, h2⟩ := m.fr k α T e xs hl
    refine ⟨h1, fun b hb => ⟨.inl (h2 b hb).1, ?_⟩⟩
    obtain ⟨c, t, h⟩ := (h2 b hb).2
    exact ⟨c, t, (hk b (m.ilt b (h2 b hb).1)).trans h⟩
  fd := m.fd
end ops
end Go.Proofs.YtibhoanjglfaoaaGreat

/- Parts of slices and of texts; texts made of bytes; own arrays that are given up to be read alone. -/
namespace Go.Proofs.YtibhoanjglfaoaaGreat
open Go.RowKit
set_option linter.unusedVariables false

theorem run_sliceOf {P : Program} {T E n : Nat} (hT : sliceT P T = some (E, n)) (w : World) (a : Option Addr) (len cap : Nat) {lo hi : Option Value} {l h : Nat} (hlo : (lo = none ∧ l = 0) ∨ ∃ k, lo = some (.int k (l : Int))) (hhi : (hi = none ∧ h = len) ∨ ∃ k, hi = some (.int k (h : Int)))
    (h1 : l ≤ h) (h2 : h ≤ cap) : (Instr.sliceAt T (.slice a len cap) lo hi none).run P w = .ok (.slice (if cap = l then a else a.map (·.add (l * n))) (h - l) (cap - l)) w := by
  obtain ⟨hu, ii, hii, rfl⟩ := sliceT_spec hT
  have e1 : (0 : Int) ≤ (l : Int) ∧ (l : Int) ≤ (h : Int) := by omega
  have e2 : (0 : Int) ≤ (h : Int) ∧ (h : Int) ≤ (cap : Int) := by omega
  rcases hlo with ⟨rfl, rfl⟩ | ⟨k, rfl⟩ <;> rcases hhi with ⟨rfl, rfl⟩ | ⟨k', rfl⟩ <;>
    simp [Instr.sliceAt, Instr.slice, run_underlying hu, Instr.sliceBounds, run_sliceBound, sizeOf, typeInfo, *]
/-- A bound of a part: an operand, or the usual one. -/
inductive OB (t : Tmps) (dv : Nat) : Option Operand → List (Nat × AVal) → Nat → Prop
  | no : OB t dv none [] dv
  | yes {o : Operand} {k : IntKind} {v : Int} {l : Nat} (h : evo t o = some (.one (.c (.int k v)))) (hv : v = (l : Int)) : OB t dv (some o) (rdo o (.one (.c (.int k v)))) l
theorem OB.rd {t : Tmps} {dv : Nat} {o : Option Operand} {rd : List (Nat × AVal)} {l : Nat} (h : OB t dv o rd l) : ∀ p ∈ rd, lk t p.1 = some p.2 := by
  cases h with
  | no => intro p hp; cases hp
  | yes h hv => exact rdo_of h
theorem OB.ev {N : Nat} {t : Tmps} {dv : Nat} {o : Option Operand} {rd : List (Nat × AVal)} {l : Nat} (h : OB t dv o rd l) {g : Gh} {s : St} {a : Act} {w : World} (r : Rep N g s a w) (hr : ∀ p ∈ rd, lk s.t p.1 = some p.2) :
    (o.map a.eval = none ∧ l = dv) ∨ ∃ k, o.map a.eval = some (.int k (l : Int)) := by
  cases h with
  | no => exact .inl ⟨rfl, rfl⟩
  | yes h hv =>
    have e4 := (eval_ok r (evs_of h) hr : CellR g s.l w _ (.c _)).1
    subst hv
    exact .inr ⟨_, congrArg some e4⟩
section ops
variable {P : Program} {N : Nat} {s : St} {d : Nat} {ty : TypeId} {pos : String} {after : Array Edge} {gd : Option (Nat × Bool)}
/-- A part of an own array. -/
theorem x_oslice {α : Type} {e : Enc α} {xs : List α} {dp : Bool} {T E n l h K : Nat} {x : Operand} {lo hi : Option Operand} {rl rh : List (Nat × AVal)} (hN : Nat.blt d N = true) (hx : evo s.t x = some (.one (.own K))) (hl : lkl s.l K = some (.arr E e xs dp)) (hT : sliceT P T = some (E, n)) (hz : e.size = n) (ho : OB s.t 0 lo rl l) (hh : OB s.t xs.length hi rh h)
    (h1 : l ≤ h) (h2 : h ≤ xs.length) :
    Stp P N ⟨some d, .slice T x lo hi none, ty, pos, after, gd⟩ s ⟨(d, .one (.osl K l (h - l))) :: s.t, s.l⟩ ⟨rdo x (.one (.own K)) ++ (rl ++ rh), [(K, .arr E e xs dp)], [(d, .one (.osl K l (h - l)))], [], []⟩ :=
  Stp.pure rfl hN (fun p hp => by rcases List.mem_append.1 hp with hp | hp; exact rdo_of hx p hp; rcases List.mem_append.1 hp with hp | hp; exact ho.rd p hp; exact hh.rd p hp) (by simpa using hl) fun g s' a w ht hl' r => by
    have hK : lkl s'.l K = some (.arr E e xs dp) := hl' (K, .arr E e xs dp) (by simp)
    have e1 : a.eval x = g.hd K := (eval_ok r (evs_of hx) fun p hp => ht p (List.mem_append_left _ hp) : CellR g s'.l w _ (.own K)) _ _ _ _ _ hK
    have q1 := ho.ev r fun p hp => ht p (List.mem_append_right _ (List.mem_append_left _ hp))
    have q2 := hh.ev r fun p hp => ht p (List.mem_append_right _ (List.mem_append_right _ hp))
    rcases r.mem.arr K α E e xs dp hK with ⟨f1, f2, _⟩ | ⟨cap, vs, bss, f1, f2, f3, _⟩
    · subst f1
      have : h = 0 := by simpa using h2
      subst this
      have : l = 0 := by omega
      subst this
      have hrun := run_sliceOf hT w none 0 0 q1 q2 h1 h2
      refine ⟨.slice none 0 0, by simp only [execOp, e1, f2, Sem.run_bind, Option.map_none, hrun, Result.andThen_ok, Sem.run_pure]; rfl, fun β U f ys dq hq => .inl ⟨f2, rfl, rfl, rfl⟩⟩
    · have hrun := run_sliceOf hT w (some ⟨g.ρ K, 0, none⟩) xs.length cap q1 q2 h1 (by omega)
      refine ⟨_, by simp only [execOp, e1, f1, Sem.run_bind, Option.map_none, hrun, Result.andThen_ok, Sem.run_pure]; rfl, fun β U f ys dq hq => ?_⟩
      rw [hK] at hq; cases hq
      refine .inr ⟨xs.length, cap, if cap = l then 0 else l * n, f1, ?_, by omega, f2, fun hlc => by rw [if_neg (by omega), hz]⟩
      split <;> simp [addr_add]
theorem x_osllen {α : Type} {e : Enc α} {xs : List α} {dp : Bool} {T E n K l0 n0 : Nat} {x : Operand} (hN : Nat.blt d N = true) (h : evo s.t x = some (.one (.osl K l0 n0))) (hl : lkl s.l K = some (.arr E e xs dp)) (hT : sliceT P T = some (E, n)) (hb : n0 ≤ xs.length) :
    Stp P N ⟨some d, .call { callee := .builtin .len, args := #[x], argTypes := #[T] }, ty, pos, after, gd⟩ s ⟨(d, .one (.c (.int .i64 (n0 : Int)))) :: s.t, s.l⟩ ⟨rdo x (.one (.osl K l0 n0)), [(K, .arr E e xs dp)], [(d, .one (.c (.int .i64 (n0 : Int))))], [], []⟩ :=
  Stp.pure rfl hN (rdo_of h) (by simpa using hl) fun g s' a w ht hl' r => by
    have hK : lkl s'.l K = some (.arr E e xs dp) := hl' (K, .arr E e xs dp) (by simp)
    have hm : n0 ≤ maxLen := by
      rcases r.mem.arr K α E e xs dp hK with ⟨f1, f2, _⟩ | ⟨cap, vs, bss, f1, f2, f3, _⟩
      · subst f1; simp at hb; unfold maxLen; omega
      · omega
    rcases (eval_ok r (evs_of h) ht : CellR g s'.l w _ (.osl K l0 n0)) _ _ _ _ _ hK with ⟨f1, f2, f3, f4⟩ | ⟨len, cap, off, f1, f2, f3, f4, f5⟩
    · subst f4
      refine ⟨_, run_builtin rfl (v := .int .i64 ((0 : Nat) : Int)) ?_, rfl, wf_len hm⟩
      simp [builtin, Builtin.len_, run_underlying (sliceT_spec hT).1, f2, goInt]
    · refine ⟨_, run_builtin rfl (v := .int .i64 (n0 : Int)) ?_, rfl, wf_len hm⟩
      simp [builtin, Builtin.len_, run_underlying (sliceT_spec hT).1, f2, goInt]
theorem x_oslindex {α : Type} {e : Enc α} {xs : List α} {dp : Bool} {T E n K l0 n0 : Nat} {x ix : Operand} {ik : IntKind} {v : Int} {k : Nat} (hN : Nat.blt d N = true) (h : evo s.t x = some (.one (.osl K l0 n0))) (hl : lkl s.l K = some (.arr E e xs dp)) (h2 : evo s.t ix = some (.one (.c (.int ik v)))) (hT : sliceT P T = some (E, n)) (hz : e.size = n) (hv : v = (k : Int)) (hk : k < n0) {k1 : Nat} (hk1 : l0 + k = k1) :
    Stp P N ⟨some d, .indexAddr T x ix, ty, pos, after, gd⟩ s ⟨(d, .one (.optr K k1 0)) :: s.t, s.l⟩ ⟨rdo x (.one (.osl K l0 n0)) ++ rdo ix (.one (.c (.int ik v))), [(K, .arr E e xs dp)], [(d, .one (.optr K k1 0))], [], []⟩ :=
  Stp.pure rfl hN (fun p hp => by rcases List.mem_append.1 hp with hp | hp; exact rdo_of h p hp; exact rdo_of h2 p hp) (by simpa using hl) fun g s' a w ht hl' r => by
    subst hk1
    have hK : lkl s'.l K = some (.arr E e xs dp) := hl' (K, .arr E e xs dp) (by simp)
    have e4 : a.eval ix = .int ik v := (eval_ok r (evs_of h2) fun p hp => ht p (List.mem_append_right _ hp) : CellR g s'.l w _ (.c (.int ik v))).1
    rcases (eval_ok r (evs_of h) fun p hp => ht p (List.mem_append_left _ hp) : CellR g s'.l w _ (.osl K l0 n0)) _ _ _ _ _ hK with ⟨f1, f2, f3, f4⟩ | ⟨len, cap, off, f1, f2, f3, f4, f5⟩
    · omega
    · subst hv; subst hz
      have hrun := run_indexAt hT w (g.ρ K) off n0 (cap - l0) k ik hk
      refine ⟨_, by simp only [execOp, f2, e4, Sem.run_bind, Sem.run_pure, Result.andThen_ok, hrun]; rfl, fun β U f ys dq hq => ?_⟩
      rw [hK] at hq; cases hq
      rw [f5 (by omega), Nat.add_zero, Nat.add_mul]
end ops
/-! ### An own array is given up: nobody writes it any more -/
theorem box_re2 {g : Gh} {l : Locs} {w : World} (m : MemR g l w) {b : Nat} {cs cs' : List Cell} (hb : lkl l b = some (.box cs)) (h : ∀ (vs : Array Value) (t : TypeId), w.heap[g.ρ b]? = some (.cells vs t (0, 0)) → All2 (CellR g l w) vs.toList cs → All2 (CellR g l w) vs.toList cs') :
    MemR g ((b, some (.box cs')) :: l) w ∧ (∀ K, Step K g l w g ((b, some (.box cs')) :: l) w) ∧ ∀ j, okK g l g ((b, some (.box cs')) :: l) j := by
  obtain ⟨vs, t, h1, h2, h3⟩ := m.box b cs hb
  have h4 := box_set m hb (vs := vs.toList) (vs' := vs.toList) (T := t) (by simpa using h1) (h _ _ h1 h2)
  have e : w.setRow (g.ρ b) vs.toList.toArray = w := by
    simp only [Array.toArray_toList]
    have hh : (w.setRow (g.ρ b) vs).heap = w.heap := Array.ext_getElem? fun i => by
      by_cases hi : i = g.ρ b
      · subst hi; rw [setRow_heap w _ _ _ t _ h1, h1]
      · exact setRow_other w _ i _ hi
    have h5 : w.setRow (g.ρ b) vs = { w with heap := (w.setRow (g.ρ b) vs).heap } := rfl
    rw [h5, hh]
  rw [e] at h4
  exact ⟨h4.1, h4.2.1, h4.2.2.2⟩
def Gh.shut (g : Gh) (k : Nat) : Gh := { g with I := fun b => g.I b ∨ (g.hd k ≠ .slice none 0 0 ∧ b = g.ρ k) }
section shut
variable {g : Gh} {l : Locs} {w : World}
theorem shut_mem (m : MemR g l w) {k : Nat} {α : Type} {T : TypeId} {e : Enc α} {xs : List α} {dp : Bool} (hk : lkl l k = some (.arr T e xs dp)) :
    MemR (g.shut k) ((k, none) :: l) w ∧ (∀ K, Step K g l w (g.shut k) ((k, none) :: l) w) ∧ CellR (g.shut k) ((k, none) :: l) w (g.hd k) (.sl e xs) ∧ ∀ j, okK g l (g.shut k) ((k, none) :: l) j := by
  have live : g.hd k ≠ .slice none 0 0 → liv g k (.arr T e xs dp) := fun h => h
  have hlt : ∀ b, (g.shut k).I b → b < w.heap.size := fun b hb => hb.elim (m.ilt b) fun h => by rw [h.2]; exact m.lt hk (live h.1)
  have hu : ∀ j, j ≠ k → lkl ((k, none) :: l) j = none ∨ Untouched g l w (g.shut k) ((k, none) :: l) w j := fun j hj =>
    .inr ⟨lkl_cons_ne (Ne.symm hj), rfl, rfl, rfl, fun b hb hl => ⟨rfl, fun h => h.elim (m.notI hb hl) fun h => m.dis j k b _ hj hb hk hl (live h.1) h.2⟩⟩
  have ok : ∀ j, okK g l (g.shut k) ((k, none) :: l) j := fun j => by
    by_cases e : j = k
    · subst e; exact okK.gone lkl_cons_self
    · exact okK.same (lkl_cons_ne (Ne.symm e)) rfl rfl
  have no : ∀ {b : Blk}, lkl ((k, none) :: l) k = some b → False := fun h => by rw [lkl_cons_self] at h; cases h
  refine ⟨m.set1 k (fun _ _ => rfl) (fun _ h => .inl h) (Nat.le_refl _) hlt hu (.inl (ok k)) (fun cs h => (no h).elim) (fun α T e xs d h => (no h).elim) (fun j b b' _ _ _ h => (no h).elim) (fun α T e xs h => (no h).elim) (fun j α β T U e f xs ys _ _ _ h => (no h).elim), fun K => ?_, ?_, ok⟩
  · refine ⟨rfl, rfl, rfl, Nat.le_refl _, fun _ _ _ => rfl, fun _ h => .inl h, fun b h => h.elim .inl fun h => .inr (.inr ⟨k, _, hk, .inl ⟨live h.1, h.2⟩⟩), own_set1 k hu (fun b h => (no h).elim) (fun α T e xs h => (no h).elim), fun j hj hn => ?_⟩
    refine ⟨?_, ok j, fun cs hc => ?_⟩
    · by_cases e : k = j
      · subst e; rw [lk_cons_self]; simp
      · rw [lk_cons_ne e]; exact hn
    · by_cases e : k = j
      · subst e; rw [hk] at hc; cases hc
      · exact ⟨cs, by rw [lkl_cons_ne e]; exact hc⟩
  · obtain ⟨a, n, cap, bs, h1, h2, h3, _⟩ := (m.arr k _ _ _ _ _ hk).slice
    exact ⟨a, n, cap, bs, h1, h2, fun b hb => h3 b hb⟩
variable {P : Program} {N : Nat} {K : List Nat} {Kn : St → Prop} {Q : Exit → St → Prop} {s : St}
theorem AW_shut {α : Type} {T : TypeId} {e : Enc α} {xs : List α} {dp : Bool} {c : Code} (k t : Nat) (ht : lk s.t t = some (.one (.own k))) (hk : lkl s.l k = some (.arr T e xs dp))
    (h : AW P N K c Kn Q ⟨(t, .one (.sl e xs)) :: s.t, (k, none) :: s.l⟩) : AW P N K c Kn Q s := fun g a w r => by
  obtain ⟨m1, st1, c1, ok1⟩ := shut_mem r.mem hk
  have r1 := r.next0 (g' := g.shut k) (l' := (k, none) :: s.l) (w' := w) (fun _ _ => rfl) (fun _ h => .inl h) (Nat.le_refl _) (fun j _ => ok1 j) m1
  have hv : a.tmps.getD t undef = g.hd k := (r.tmp t _ ht : CellR g s.l w _ (.own k)) _ _ _ _ _ hk
  have r2 : Rep N (g.shut k) ⟨(t, .one (.sl e xs)) :: s.t, (k, none) :: s.l⟩ a w := ⟨r1.size, r1.defers, fun j x hj => by
    by_cases hjt : t = j
    · subst hjt
      rw [lk_cons_self] at hj; cases hj
      rw [hv]; exact c1
    · rw [lk_cons_ne hjt] at hj
      exact r1.tmp j x hj, m1⟩
  exact Go.wp_mono (h _ a w r2) fun e a1 w1 h1 => h1.trans r.mem m1 (st1 K)
/-- .. where it lies in a variable. -/
theorem AW_shutB {α : Type} {T : TypeId} {e : Enc α} {xs : List α} {dp : Bool} {c : Code} (k b off : Nat) {cs cs' : List Cell} (hb : lkl s.l b = some (.box cs)) (hc : nthC cs off = some (.own k)) (hcs : cs.set off (.sl e xs) = cs') (hk : lkl s.l k = some (.arr T e xs dp))
    (h : AW P N K c Kn Q ⟨s.t, (b, some (.box cs')) :: (k, none) :: s.l⟩) : AW P N K c Kn Q s := fun g a w r => by
  obtain ⟨m1, st1, c1, ok1⟩ := shut_mem r.mem hk
  have hkb : k ≠ b := fun e => by subst e; rw [hb] at hk; cases hk
  have hb' : lkl ((k, none) :: s.l) b = some (.box cs) := by rw [lkl_cons_ne hkb]; exact hb
  obtain ⟨m2, st2, ok2⟩ := box_re2 m1 hb' (cs' := cs') (fun vs ty hh hv => by
    obtain ⟨vs0, t0, z1, z2, z3⟩ := r.mem.box b cs hb
    have e0 : vs0 = vs := by
      have hh' : w.heap[g.ρ b]? = some (.cells vs ty (0, 0)) := hh
      rw [z1] at hh'; cases hh'; rfl
    subst e0
    obtain ⟨v, h1, h2⟩ := z2.get (nthC_get hc)
    have hvk : v = g.hd k := h2 _ _ _ _ _ hk
    have h3 := hv.set (i := off) (v := v) (x := .sl e xs) (hvk ▸ c1)
    rw [hcs] at h3
    have h4 : vs0.toList.set off v = vs0.toList := by
      obtain ⟨hl, rfl⟩ := List.getElem?_eq_some_iff.1 h1
      exact List.set_getElem_self hl
    rwa [h4] at h3)
  have r2 := r.next0 (g' := g.shut k) (l' := (b, some (.box cs')) :: (k, none) :: s.l) (w' := w) (fun _ _ => rfl) (fun _ h => .inl h) (Nat.le_refl _) (fun j hj => (ok1 j).trans (ok2 j)) m2
  exact Go.wp_mono (h _ a w r2) fun e a1 w1 h1 => h1.trans r.mem m2 ((st1 K).trans r.mem m1 (st2 K))
end shut
end Go.Proofs.YtibhoanjglfaoaaGreat

/- Operations whose new array is at once given up to be read alone. -/
namespace Go.Proofs.YtibhoanjglfaoaaGreat
open Go.RowKit
set_option linter.unusedVariables false

theorem above : ∀ L : List Nat, ∃ k, ∀ i ∈ L, i < k
  | [] => ⟨0, fun i h => by cases h⟩
  | a :: L => by
    obtain ⟨k, hk⟩ := above L
    refine ⟨max (a + 1) k, fun i hi => ?_⟩
    rcases List.mem_cons.1 hi with rfl | hi
    · omega
    · have := hk i hi; omega
section
variable {g g' : Gh} {l l' : Locs} {w w' : World}
theorem okK.congr {l2 : Locs} (h : ∀ j, lkl l' j = lkl l2 j) {k : Nat} (hk : okK g l g' l' k) : okK g l g' l2 k :=
  ⟨fun cs hc => hk.1 cs (by rw [h]; exact hc), fun α T e xs d hc => hk.2 α T e xs d (by rw [h]; exact hc)⟩
theorem okK.back {l2 : Locs} (h : ∀ j, lkl l j = lkl l2 j) {k : Nat} : okK g l g l2 k := okK.same (h k).symm rfl rfl
theorem MemR.congr (h : ∀ j, lkl l j = lkl l' j) (m : MemR g l w) : MemR g l' w := by
  refine ⟨m.ilt, fun k cs hc => ?_, fun k α T e xs d hc => m.arr k _ _ _ _ _ (by rw [h]; exact hc), fun j k b b' hjk h1 h2 => m.dis j k _ _ hjk (by rw [h]; exact h1) (by rw [h]; exact h2), fun k α T e xs hc => m.fr k _ _ _ _ (by rw [h]; exact hc), fun j k α β T U e f xs ys hjk h1 h2 => m.fd j k _ _ _ _ _ _ _ _ hjk (by rw [h]; exact h1) (by rw [h]; exact h2)⟩
  obtain ⟨vs, t, h1, h2, h3⟩ := m.box k cs (by rw [h]; exact hc)
  exact ⟨vs, t, h1, h2.mono fun a c _ hr => CellR.step (fun _ _ => rfl) (fun _ h => h) (Nat.le_refl _) (fun i _ => okK.back h) hr, h3⟩
theorem VR.congr (h : ∀ j, lkl l j = lkl l' j) {v : Value} {x : AVal} (hv : VR g l w v x) : VR g l' w v x := hv.step (fun _ _ => rfl) (fun _ h => h) (Nat.le_refl _) (fun i _ => okK.back h)
theorem OwnB.congr (h : ∀ j, lkl l j = lkl l' j) {b : Nat} (hb : OwnB g l b) : OwnB g l' b := by
  obtain ⟨k, blk, h1, h2⟩ := hb
  exact ⟨k, blk, by rw [← h]; exact h1, h2⟩
end
theorem OpOK.frz {P : Program} {N d : Nat} {o : Oper} {rt : List (Nat × AVal)} {rl : List (Nat × Blk)} {α : Type} {T : TypeId} {e : Enc α} {xs : List α} {dp : Bool} {L : List Nat}
    (h : ∀ k, (∀ i ∈ L, i < k) → OpOK P N o ⟨rt, rl, [(d, .one (.own k))], [(k, some (.arr T e xs dp))], [k]⟩) : OpOK P N o ⟨rt, rl, [(d, .one (.sl e xs))], [], []⟩ := fun K g s a w hp r => by
  obtain ⟨k, hk⟩ := above (L ++ (keys s.l ++ s.ids))
  have hkl : lk s.l k = none := by
    cases hq : lk s.l k with
    | none => rfl
    | some y =>
      have h1 : k ∈ keys s.l := List.mem_map.2 ⟨_, lk_mem hq, rfl⟩
      have := hk k (List.mem_append_right _ (List.mem_append_left _ h1))
      omega
  have hki : k ∉ s.ids := fun hm => by
    have := hk k (List.mem_append_right _ (List.mem_append_right _ hm))
    omega
  have hkk : lkl s.l k = none := by unfold lkl; rw [hkl]
  have h1 := h k (fun i hi => hk i (List.mem_append_left _ hi)) K g s a w ⟨hp.1, hp.2.1, fun j hj => by simp at hj; subst hj; exact ⟨hkl, hki⟩⟩ r
  refine Oper.wp_mono ?_ h1
  rintro a' w' ⟨g', r', st⟩
  have hu : (Cert.upd ⟨rt, rl, [(d, .one (.own k))], [(k, some (.arr T e xs dp))], [k]⟩ s) = ⟨(d, .one (.own k)) :: s.t, (k, some (.arr T e xs dp)) :: s.l⟩ := rfl
  rw [hu] at r' st
  have hka : lkl ((k, some (Blk.arr T e xs dp)) :: s.l) k = some (.arr T e xs dp) := lkl_cons_self
  obtain ⟨m1, st1, c1, ok1⟩ := shut_mem r'.mem hka
  have T2 := Step.trans r.mem r'.mem st (st1 K)
  have hl : ∀ j, lkl ((k, none) :: (k, some (Blk.arr T e xs dp)) :: s.l) j = lkl s.l j := fun j => by
    by_cases q : k = j
    · subst q; rw [lkl_cons_self, hkk]
    · rw [lkl_cons_ne q, lkl_cons_ne q]
  have hv : a'.tmps.getD d undef = g'.hd k := (r'.tmp d _ (lk_cons_self ..) : CellR g' _ w' _ (.own k)) _ _ _ _ _ hka
  refine ⟨g'.shut k, ⟨r'.size, r'.defers, fun j x hj => ?_, m1.congr hl⟩, ⟨T2.os, T2.tape, T2.output, T2.size, T2.keep, T2.imm, T2.imm', fun b hb => T2.own b (OwnB.congr (fun j => (hl j).symm) hb), fun j hj hn => ?_⟩⟩
  · have hj : lk ((d, AVal.one (.sl e xs)) :: s.t) j = some x := hj
    by_cases hjt : d = j
    · subst hjt
      rw [lk_cons_self] at hj; cases hj
      rw [hv]; exact VR.congr (x := .one (.sl e xs)) hl c1
    · rw [lk_cons_ne hjt] at hj
      have h2 := r'.tmp j x (by show lk ((d, AVal.one (.own k)) :: s.t) j = some x; rw [lk_cons_ne hjt]; exact hj)
      have h3 : VR (g'.shut k) ((k, none) :: (k, some (Blk.arr T e xs dp)) :: s.l) w' (a'.tmps.getD j undef) x := h2.step (fun _ _ => rfl) (fun _ h => .inl h) (Nat.le_refl _) (fun i _ => ok1 i)
      exact VR.congr hl h3
  · obtain ⟨z1, z2, z3⟩ := T2.base j hj hn
    exact ⟨hn, okK.congr hl z2, fun cs hc => ⟨cs, hc⟩⟩
section ops
variable {P : Program} {N : Nat} {s : St} {d : Nat} {ty : TypeId} {pos : String} {after : Array Edge} {gd : Option (Nat × Bool)}
end ops
end Go.Proofs.YtibhoanjglfaoaaGreat

/- Loads from the elements of an own array, in the abstract walk. -/
namespace Go.Proofs.YtibhoanjglfaoaaGreat
open Go.RowKit
set_option linter.unusedVariables false
section
variable {P : Program} {N d : Nat} {s : St} {ty : TypeId} {pos : String} {after : Array Edge} {gd : Option (Nat × Bool)}
theorem op_cells {α : Type} {e : Enc α} {f : α → List Cell} [hc : CellsOf e f] {g : Gh} {l : Locs} {w : World} (m : MemR g l w) {k i : Nat} {T : TypeId} {xs : List α} {dp : Bool} (hk : lkl l k = some (.arr T e xs dp)) (hi : i < xs.length) :
    ∃ cs : List Value, All2 (CellR g l w) cs (f xs[i]) ∧ ∀ j u, cs[j]? = some u → w.cell? ⟨g.ρ k, i * e.size + j, none⟩ = some u := by
  rcases m.arr k α T e xs dp hk with ⟨h1, _, _⟩ | ⟨cap, vs, bss, h1, h2, h3, h4, h5, h6, h7, h8, h9⟩
  · subst h1; simp at hi
  · have hi' : i < bss.length := by rw [h6.1]; exact hi
    obtain ⟨cs, q1, q2⟩ := h6.2 i xs[i] bss[i] (List.getElem?_eq_getElem hi) (List.getElem?_eq_getElem hi')
    exact ⟨cs, (hc.iff.1 q1).all2 (fun b hb => h7 b (List.mem_flatten.2 ⟨_, List.getElem_mem hi', hb⟩)), fun j u hu => by have := q2 j u hu; rwa [Nat.zero_add] at this⟩
theorem x_oload1 {α : Type} {e : Enc α} {f : α → List Cell} [hc : CellsOf e f] {T E k i off : Nat} {x : Operand} {xs : List α} {dp : Bool} {y : Cell} (hN : Nat.blt d N = true) (h : evo s.t x = some (.one (.optr k i off))) (hl : lkl s.l k = some (.arr E e xs dp)) (hT : kindT P T = some none) (hi : i < xs.length) (hy : nthC (f xs[i]) off = some y) :
    Stp P N ⟨some d, .load T x, ty, pos, after, gd⟩ s ⟨(d, .one y) :: s.t, s.l⟩ ⟨rdo x (.one (.optr k i off)), [(k, .arr E e xs dp)], [(d, .one y)], [], []⟩ :=
  Stp.pure rfl hN (rdo_of h) (by simpa using hl) fun g s' a w ht hl' r => by
    have hk : lkl s'.l k = some (.arr E e xs dp) := hl' (k, .arr E e xs dp) (by simp)
    have hv : a.eval x = .pointer (some ⟨g.ρ k, i * e.size + off, none⟩) := eval_ok r (evs_of h) ht _ _ _ _ _ hk
    obtain ⟨cs, h2, h3⟩ := op_cells r.mem hk hi
    obtain ⟨v, h4, h5⟩ := h2.get (nthC_get hy)
    exact ⟨v, by simp only [execOp, Instr.loadAt, hv, Instr.sureAddr, Sem.run_bind, Sem.run_pure, Result.andThen_ok, run_load_one hT (h3 off v h4)], h5⟩
theorem x_oloadN {α : Type} {e : Enc α} {f : α → List Cell} [hc : CellsOf e f] {T E k i off n : Nat} {x : Operand} {xs : List α} {dp : Bool} {cs1 ys : List Cell} (hN : Nat.blt d N = true) (h : evo s.t x = some (.one (.optr k i off))) (hl : lkl s.l k = some (.arr E e xs dp)) (hT : kindT P T = some (some n)) (hi : i < xs.length) (hd : drC off (f xs[i]) = some cs1) (hy : tkC n cs1 = some ys) :
    Stp P N ⟨some d, .load T x, ty, pos, after, gd⟩ s ⟨(d, .agg ys) :: s.t, s.l⟩ ⟨rdo x (.one (.optr k i off)), [(k, .arr E e xs dp)], [(d, .agg ys)], [], []⟩ :=
  Stp.pure rfl hN (rdo_of h) (by simpa using hl) fun g s' a w ht hl' r => by
    have hk : lkl s'.l k = some (.arr E e xs dp) := hl' (k, .arr E e xs dp) (by simp)
    have hv : a.eval x = .pointer (some ⟨g.ρ k, i * e.size + off, none⟩) := eval_ok r (evs_of h) ht _ _ _ _ _ hk
    obtain ⟨cs, h2, h3⟩ := op_cells r.mem hk hi
    have h4 := (h2.drop off).take n
    rw [← drC_eq hd, ← (tkC_eq hy).1] at h4
    have hrun := run_load_agg hT (w := w) (a := ⟨g.ρ k, i * e.size + off, none⟩) (vs := (cs.drop off).take n) (by rw [h4.len]; exact (tkC_eq hy).2) (fun j v hj => by
      rw [List.getElem?_take] at hj
      split at hj
      · rw [addr_add, Nat.add_assoc]; exact h3 _ v (by simpa using hj)
      · cases hj)
    exact ⟨_, by simp only [execOp, Instr.loadAt, hv, Instr.sureAddr, Sem.run_bind, Sem.run_pure, Result.andThen_ok, hrun], ⟨_, rfl, h4⟩⟩
end
end Go.Proofs.YtibhoanjglfaoaaGreat

/- From a contract of the abstract walk back to a call in a world. -/
namespace Go.Proofs.YtibhoanjglfaoaaGreat
open Go.RowKit
set_option linter.unusedVariables false

/-- All memory that stands is read alone. -/
def allI (w : World) : Gh := ⟨fun b => b < w.heap.size, id, fun _ => .slice none 0 0, fun _ => []⟩
theorem allI_mem (w : World) : MemR (allI w) [] w :=
  ⟨fun b hb => hb, fun k cs hk => (by simp [lkl, lk] at hk), fun k α T e xs d hk => (by simp [lkl, lk] at hk), fun j k b b' _ hj => (by simp [lkl, lk] at hj), fun k α T e xs hk => (by simp [lkl, lk] at hk), fun j k α β T U e f xs ys _ hj => (by simp [lkl, lk] at hj)⟩
theorem Step.below {g g' : Gh} {w w' : World} (h : Step (keys ([] : Locs)) g [] w g' [] w') : Below w.heap.size w w' :=
  ⟨h.os, h.tape, h.output, h.size, fun b hb => h.keep b hb fun k blk hk => (by simp [lkl, lk] at hk)⟩
theorem AC.calls {P : Program} {f : FuncId} {args : List AVal} {v : Value} (h : AC P f args [] (.one (.c v)) []) (w : World) (cargs : Array Value) (ha : All2 (VR1 (allI w) [] w) cargs.toList args) :
    Calls P f cargs w fun e w' => e = .returned v ∧ Below w.heap.size w w' :=
  (h.run (allI w) w cargs (allI_mem w) ha).mono fun e w' ⟨u, g', he, _, hv, hs⟩ => ⟨by rw [he, show u = v from hv.1], hs.below⟩
theorem arg_sl {α : Type} {e : Enc α} {w : World} {a : Option Addr} {n cap : Nat} {xs : List α} {b : List Nat} (h : SliceRep e w a n cap xs b) (hb : ∀ i ∈ b, i < w.heap.size) : VR1 (allI w) [] w (.slice a n cap) (.one (.sl e xs)) := ⟨a, n, cap, b, rfl, h, hb⟩
end Go.Proofs.YtibhoanjglfaoaaGreat

/- From contracts that leave own memory to calls in a world: what is handed back is fresh. -/
namespace Go.Proofs.YtibhoanjglfaoaaGreat
open Go.RowKit
set_option linter.unusedVariables false

end Go.Proofs.YtibhoanjglfaoaaGreat

/- The abstract walk: make. -/
namespace Go.Proofs.YtibhoanjglfaoaaGreat
open Go.RowKit
set_option linter.unusedVariables false

section ops
variable {P : Program} {N : Nat} {s : St} {d : Nat} {ty : TypeId} {pos : String} {after : Array Edge} {gd : Option (Nat × Bool)}
end ops
end Go.Proofs.YtibhoanjglfaoaaGreat

/- The abstract walk: an element of an own array written anew. -/
namespace Go.Proofs.YtibhoanjglfaoaaGreat
open Go.RowKit
set_option linter.unusedVariables false
section
variable {g : Gh} {l : Locs} {w w' : World}
/-- The array k holds other elements; the arrays js are gone into it. -/
theorem arr_put (m : MemR g l w) {k : Nat} {α : Type} {T : TypeId} {e : Enc α} {xs0 xs : List α} {d0 d : Bool} (hk : lkl l k = some (.arr T e xs0 d0)) (hlv : g.hd k ≠ .slice none 0 0) {js : List Nat} (hkj : k ∉ js)
    (hjs : ∀ j ∈ js, ∃ (α : Type) (T : TypeId) (e : Enc α) (xs : List α) (d : Bool), lkl l j = some (.arr T e xs d)) {fp : List Nat}
    (hos : w'.os = w.os) (htp : w'.tape = w.tape) (hout : w'.output = w.output) (hs : w'.heap.size = w.heap.size) (hkeep : ∀ b, b ≠ g.ρ k → w'.heap[b]? = w.heap[b]?)
    (hA : ArrR ⟨fun b => g.I b ∨ liveA g js b, g.ρ, g.hd, setAt g.F k fp⟩ w' k T e xs d)
    (hfp : d = true → fp.Nodup ∧ ∀ b ∈ fp, (g.I b ∨ liveA g js b) ∧ (∃ c t, w'.heap[b]? = some (.cells c t (0, 0))) ∧ ((d0 = true ∧ b ∈ g.F k) ∨ ∃ j ∈ js, Via g l j b)) :
    ∃ g', g'.ρ k = g.ρ k ∧ g'.hd k = g.hd k ∧ MemR g' ((k, some (.arr T e xs d)) :: (gones js ++ l)) w' ∧ (∀ K, Step K g l w g' ((k, some (.arr T e xs d)) :: (gones js ++ l)) w') ∧
      (∀ b, g.I b → w'.heap[b]? = w.heap[b]?) ∧ (∀ b, g.I b → g'.I b) ∧ ∀ j, okK g l g' ((k, some (.arr T e xs d)) :: (gones js ++ l)) j := by
  let g' : Gh := ⟨fun b => g.I b ∨ liveA g js b, g.ρ, g.hd, setAt g.F k fp⟩
  have hnI := m.notI hk hlv
  have hi : ∀ b, g.I b → w'.heap[b]? = w.heap[b]? := fun b hb => hkeep b fun e => hnI (e ▸ hb)
  have hl' : ∀ j, j ≠ k → lkl ((k, some (.arr T e xs d)) :: (gones js ++ l)) j = if j ∈ js then none else lkl l j := fun j hj => by
    rw [lkl_cons_ne (Ne.symm hj), lkl_gones]
  have hu : ∀ j, j ≠ k → lkl ((k, some (.arr T e xs d)) :: (gones js ++ l)) j = none ∨ Untouched g l w g' ((k, some (.arr T e xs d)) :: (gones js ++ l)) w' j := fun j hj => by
    by_cases h : j ∈ js
    · left; rw [hl' j hj, if_pos h]
    · right
      refine ⟨by rw [hl' j hj, if_neg h], rfl, rfl, setAt_ne hj, fun b hb hlv' => ⟨hkeep _ (m.dis j k _ _ hj hb hk hlv' hlv), fun hI => ?_⟩⟩
      rcases hI with hI | ⟨i, hij, hil, e⟩
      · exact m.notI hb hlv' hI
      · obtain ⟨_, _, _, _, _, h1⟩ := hjs i hij
        exact m.dis j i _ _ (fun e => h (e ▸ hij)) hb h1 hlv' hil e
  have ok : ∀ j, okK g l g' ((k, some (.arr T e xs d)) :: (gones js ++ l)) j := fun j => by
    by_cases hj : j = k
    · subst hj
      refine ⟨fun cs hc => ?_, fun β U e2 ys dd hc => ?_⟩
      · rw [lkl_cons_self] at hc; cases hc
      · rw [lkl_cons_self] at hc; cases hc
        exact ⟨α, T, e, xs0, d0, hk, rfl, rfl, rfl⟩
    · rcases hu j hj with h | h
      · exact okK.gone h
      · exact h.ok
  have hlt : ∀ b, g'.I b → b < w'.heap.size := fun b hb => by
    rw [hs]
    rcases hb with hb | ⟨i, hij, hil, e⟩
    · exact m.ilt b hb
    · obtain ⟨_, _, _, _, _, h1⟩ := hjs i hij
      rw [e]; exact m.lt h1 hil
  refine ⟨g', rfl, rfl, m.set1 k hi (fun b hb => .inl hb) (Nat.le_of_eq hs.symm) hlt hu (.inl (ok k)) (fun cs hc => ?_) (fun β U e2 ys d2 hc => ?_) (fun j b b' hj h1 h2 h3 l1 l2 => m.dis j k _ _ hj h2 hk l1 hlv) (fun β U e2 ys hc => ?_) (fun j β γ U V e2 e3 ys zs hj h1 h2 h3 => ?_), fun K => ?_, hi, fun b hb => .inl hb, ok⟩
  · rw [lkl_cons_self] at hc; cases hc
  · rw [lkl_cons_self] at hc; cases hc; exact hA
  · rw [lkl_cons_self] at hc; cases hc
    rw [show g'.F k = fp from setAt_self]
    obtain ⟨n1, n2⟩ := hfp rfl
    exact ⟨n1, fun b hb => ⟨(n2 b hb).1, (n2 b hb).2.1⟩⟩
  · rw [lkl_cons_self] at h3; cases h3
    rw [show g'.F k = fp from setAt_self]
    intro b hb hb'
    rcases ((hfp rfl).2 b hb').2.2 with ⟨rfl, h5⟩ | ⟨i, hij, hvia⟩
    · exact m.fd j k _ _ _ _ _ _ _ _ hj h2 hk b hb h5
    · have : j = i := Via.disj m (b := b) ⟨β, U, e2, ys, h2, .inr hb⟩ hvia
      subst this
      rw [hl' j hj, if_pos hij] at h1; cases h1
  · refine ⟨hos, htp, hout, Nat.le_of_eq hs.symm, fun b hb hn => hkeep b (hn k _ hk hlv), fun b hb => .inl hb, fun b hb => ?_, own_set1 k hu (fun b hb hl => .inl (OwnB.of_live hk hlv)) (fun β U e2 ys hc b hb => ?_), fun j hj hn => ?_⟩
    · rcases hb with hb | ⟨i, hij, hil, e⟩
      · exact .inl hb
      · obtain ⟨_, _, _, _, _, h1⟩ := hjs i hij
        exact .inr (.inr (e ▸ OwnB.of_live h1 hil))
    · rw [lkl_cons_self] at hc; cases hc
      rw [show g'.F k = fp from setAt_self] at hb
      rcases ((hfp rfl).2 b hb).2.2 with ⟨rfl, h5⟩ | ⟨i, hij, hvia⟩
      · exact .inl ⟨k, _, hk, .inr ⟨_, _, _, _, rfl, h5⟩⟩
      · exact .inl hvia.own
    · refine ⟨?_, ok j, fun cs hc => ?_⟩
      · by_cases hjk : j = k
        · subst hjk; rw [lk_cons_self]; simp
        · rw [lk_cons_ne (Ne.symm hjk), lk_gones]
          split
          · simp
          · exact hn
      · have hjk : j ≠ k := fun e => by subst e; rw [hk] at hc; cases hc
        refine ⟨cs, ?_⟩
        rw [hl' j hjk, if_neg]
        · exact hc
        · intro hjj
          obtain ⟨_, _, _, _, _, h1⟩ := hjs j hjj
          rw [hc] at h1; cases h1
end
section ops
variable {P : Program} {N : Nat} {s : St} {ty : TypeId} {pos : String} {after : Array Edge} {gd : Option (Nat × Bool)}
/-- A whole element written. -/
theorem x_ostore {α : Type} {e : Enc α} {f : α → List Cell} [hc : CellsOf e f] {T E n i k : Nat} {x y : Operand} {X : AVal} {xs : List α} (x' : α) {ds : List Cell} {js : List Nat} {d1 d2 : Bool} (h : evo s.t x = some (.one (.optr k i 0))) (hl : lkl s.l k = some (.arr E e xs d1)) (h2 : evo s.t y = some X) (hf : X.flat = true)
    (hT : sizeT P T = some n) (hn : X.cells.length = n) (hes : e.size = n) (hsol : X.cells.all (solid s.l) = true) (hmv : mvC s.l X.cells = some (ds, js, d2)) (hfit : FitL ds (f x')) (hnd : noDup js = true) (hkj : noId k js = true) (hi : i < xs.length) :
    Stp P N ⟨none, .store T x y, ty, pos, after, gd⟩ s ⟨s.t, (k, some (.arr E e (xs.set i x') (d1 && d2))) :: (gones js ++ s.l)⟩ ⟨rdo x (.one (.optr k i 0)) ++ rdo y X, (k, .arr E e xs d1) :: rlC s.l X.cells, [], (k, some (.arr E e (xs.set i x') (d1 && d2))) :: gones js, []⟩ := by
  refine ⟨fun K g s' a w hpre r => ?_, ⟨two_rd h h2, fun p hp => by
    rcases List.mem_cons.1 hp with rfl | hp
    · exact hl
    · exact rlC_self p hp, by simp⟩, by simp [Cert.upd]⟩
  obtain ⟨p1, p2, _⟩ := hpre
  have hk : lkl s'.l k = some (.arr E e xs d1) := p2 (k, .arr E e xs d1) (List.mem_cons_self ..)
  have p2' : ∀ p ∈ rlC s.l X.cells, lkl s'.l p.1 = some p.2 := fun p hp => p2 p (List.mem_cons_of_mem _ hp)
  have ha : a.eval x = .pointer (some ⟨g.ρ k, i * e.size + 0, none⟩) := (eval_ok r (evs_of h) fun p hm => p1 p (List.mem_append_left _ hm) : CellR g s'.l w _ (.optr k i 0)) _ _ _ _ _ hk
  have hv := eval_ok r (evs_of h2) fun p hm => p1 p (List.mem_append_right _ hm)
  have hs' : X.cells.all (solid s'.l) = true := List.all_eq_true.2 fun z hz => solid_of p2' hz (List.all_eq_true.1 hsol z hz)
  have hall := vr1_cells hs' r.mem hv hf
  have hmv' := mvC_of hmv p2'
  have hjn := noDup_of hnd
  have hkj' := noId_of hkj
  have hgone : ∀ j ∈ js, ∃ (α : Type) (T : TypeId) (e : Enc α) (xs : List α) (d : Bool), lkl s'.l j = some (.arr T e xs d) := fun j hj => (mvC_gone hmv' j hj).1
  obtain ⟨b', f1, f2, f3⟩ := mvC_ok r.mem hall hmv' hjn
  have hrep := hc.iff.2 (f1.fit hfit)
  have hlen : (a.eval y).cells.size = n := by rw [← hn]; simpa using hall.len
  have hll : (a.eval y).cells.toList.length = e.size := e.len hrep
  rcases r.mem.arr k _ _ _ _ _ hk with ⟨rfl, _⟩ | ⟨cap, vs, bss, g1, g2, g3, g4, g5, g6, g7, g8, g9⟩
  · simp at hi
  have hlv : g.hd k ≠ .slice none 0 0 := by rw [g1]; intro e; cases e
  have hib : i < bss.length := by rw [g6.1]; exact hi
  have hfitc : i * e.size + (a.eval y).cells.toList.length ≤ vs.size := by
    rw [hll, g5]
    have : (i + 1) * e.size ≤ cap * e.size := Nat.mul_le_mul_right _ (by omega)
    rw [Nat.add_mul] at this; omega
  have one : ∀ v ∈ (a.eval y).cells.toList, v.oneCell' = true := FR.one f1
  have hst := run_storeCells_at P (g.ρ k) (i * e.size) E (a.eval y).cells.toList 0 vs w g4 (by simpa using hfitc) one
  generalize hnew : (vs.toList.take (i * e.size) ++ (a.eval y).cells.toList ++ vs.toList.drop (i * e.size + (a.eval y).cells.toList.length)).toArray = new at *
  have hng : ∀ q, new[q]? = if i * e.size ≤ q ∧ q < i * e.size + e.size then (a.eval y).cells.toList[q - i * e.size]? else vs[q]? := fun q => by
    rw [← hnew, List.getElem?_toArray]
    have hl0 : (vs.toList.take (i * e.size)).length = i * e.size := by simp; omega
    rcases Nat.lt_or_ge q (i * e.size) with hq | hq
    · rw [if_neg (by omega), List.append_assoc, List.getElem?_append_left (by omega), List.getElem?_take, if_pos hq]; simp
    · rw [List.append_assoc, List.getElem?_append_right (by omega), hl0]
      rcases Nat.lt_or_ge q (i * e.size + e.size) with hq2 | hq2
      · rw [if_pos ⟨hq, hq2⟩, List.getElem?_append_left (by omega)]
      · rw [if_neg (by omega), List.getElem?_append_right (by omega), List.getElem?_drop, hll, show i * e.size + e.size + (q - i * e.size - e.size) = q by omega]; simp
  have hns : new.size = vs.size := by rw [← hnew]; simp; omega
  have hwk : (w.setRow (g.ρ k) new).heap[g.ρ k]? = some (.cells new E (0, 0)) := setRow_heap w _ _ _ E _ g4
  have hwo : ∀ b, b ≠ g.ρ k → (w.setRow (g.ρ k) new).heap[b]? = w.heap[b]? := fun b hb => setRow_other w _ b _ hb
  have hsz : (w.setRow (g.ρ k) new).heap.size = w.heap.size := by simp
  have hbk : ∀ b ∈ b', b ≠ g.ρ k := fun b hb eq => by
    rcases f2 b hb with h3 | ⟨j, hj, h3, h4⟩
    · exact g8 (eq ▸ h3)
    · obtain ⟨_, _, _, _, _, h5⟩ := hgone j hj
      exact r.mem.dis j k _ _ (fun e => hkj' (e ▸ hj)) h5 hk h3 hlv (h4 ▸ eq)
  have hE := g6.upd (w' := w.setRow (g.ρ k) new) (k := i) (x' := x') (b' := b') (e.keep hrep (fun b hb => hwo b (hbk b hb)) (Nat.le_of_eq hsz.symm)) (fun j u hu => by
      have hj := (List.getElem?_eq_some_iff.1 hu).1
      rw [cell_of_heap hwk, hng, if_pos (by omega), show 0 + i * e.size + j - i * e.size = j by omega, hu]) (fun q hq => by
      rw [cell_of_heap hwk, hng, cell_of_heap g4, if_neg (by rw [Nat.add_mul] at hq; omega)]) (fun q b hq hb c hcb => hwo c fun eq => g8 (eq ▸ g7 c (List.mem_flatten.2 ⟨b, List.mem_of_getElem? hb, hcb⟩))) (Nat.le_of_eq hsz.symm)
  have hmem : ∀ b ∈ (bss.set i b').flatten, g.I b ∨ liveA g js b := fun b hb => by
    rcases flatten_set bss hib b hb with h3 | h3
    · exact f2 b h3
    · exact .inl (g7 b h3)
  obtain ⟨g', q1, q2, q3, q4, q5, q6, q7⟩ := arr_put (w' := w.setRow (g.ρ k) new) r.mem hk hlv hkj' hgone (xs := xs.set i x') (d := d1 && d2) (fp := (bss.set i b').flatten) rfl rfl rfl hsz hwo
    (.inr ⟨cap, new, bss.set i b', by rw [List.length_set]; exact g1, by rw [List.length_set]; exact g2, g3, hwk, hns.trans g5, hE, hmem, (fun hI => by
      rcases hI with hI | ⟨j, hj, h3, h4⟩
      · exact g8 hI
      · obtain ⟨_, _, _, _, _, h5⟩ := hgone j hj
        exact r.mem.dis j k _ _ (fun e => hkj' (e ▸ hj)) h5 hk h3 hlv h4.symm), fun _ => setAt_self⟩)
    (fun hd => by
      simp only [Bool.and_eq_true] at hd
      obtain ⟨rfl, rfl⟩ := hd
      obtain ⟨n1, n2⟩ := f3 rfl
      have hF := g9 rfl
      have hvk : ∀ b ∈ bss.flatten, Via g s'.l k b := fun b hb => ⟨α, E, e, xs, hk, .inr (by rw [hF]; exact hb)⟩
      refine ⟨nodup_set n1 bss i hib (by rw [← hF]; exact (r.mem.fr k _ _ _ _ hk).1) (fun c hcb => .inr fun h3 => by
        obtain ⟨j, hj, hvj⟩ := n2 c hcb
        exact hkj' ((hvk c h3).disj r.mem hvj ▸ hj)), fun b hb => ⟨hmem b hb, ?_, ?_⟩⟩
      · rcases flatten_set bss hib b hb with h3 | h3
        · obtain ⟨j, hj, hvj⟩ := n2 b h3
          obtain ⟨c, t, h4⟩ := hvj.cells r.mem
          exact ⟨c, t, by rw [hwo b (hbk b h3)]; exact h4⟩
        · obtain ⟨c, t, h4⟩ := (hvk b h3).cells r.mem
          exact ⟨c, t, by rw [hwo b fun eq => g8 (eq ▸ g7 b h3)]; exact h4⟩
      · rcases flatten_set bss hib b hb with h3 | h3
        · exact .inr (n2 b h3)
        · exact .inl ⟨rfl, by rw [hF]; exact h3⟩)
  unfold Oper.wp
  have hrun : (execOp a.eval ⟨none, .store T x y, ty, pos, after, gd⟩).run P w = .ok .skip (w.setRow (g.ρ k) new) := by
    unfold sizeT at hT
    split at hT
    · rename_i ti hti
      cases hT
      simp only [execOp, Instr.storeAt, ha, Instr.sureAddr, storeVar, sizeOf, typeInfo, Sem.run_bind, Sem.run_pure, program, Sem.run, hti, Result.andThen_ok, hlen, ne_eq, not_true_eq_false, if_false]
      simp only [Nat.add_zero] at hst ⊢
      rw [hst]; rfl
    · cases hT
  rw [hrun, Oper.upon_skip]
  exact ⟨g', r.next0 q5 q6 (Nat.le_of_eq hsz.symm) (fun j _ => q7 j) q3, q4 K⟩
end ops
/-! filled from the front -/
end Go.Proofs.YtibhoanjglfaoaaGreat

/- Elements ars the cells that hold them: what a function that moves elements about does with an array of one's own, footprint and all. -/
namespace Go.Proofs.YtibhoanjglfaoaaGreat
open Go.RowKit
set_option linter.unusedVariables false

/-- A datum, the cells that hold it, and its footprint. -/
structure Raw (α : Type) where
  x : α
  vs : List Value
  b : List Nat
def rxC {α : Type} (e : Enc α) (r : Raw α) (n j : Nat) : List Cell := match n with | 0 => [] | n + 1 => .rx e r.x r.vs r.b j :: rxC e r n (j + 1)
theorem rxC_len {α : Type} {e : Enc α} {r : Raw α} : ∀ {n j : Nat}, (rxC e r n j).length = n
  | 0, _ => rfl
  | n + 1, j => by rw [rxC, List.length_cons, rxC_len]
theorem rxC_lt {α : Type} {e : Enc α} {w : World} {r : Raw α} : ∀ {n j : Nat} {cs : List Value} {b : List Nat}, FR w cs (rxC e r n j) b → ∀ i ∈ b, i < w.heap.size
  | 0, j, [], b, h, i, hi => by
    have : b = [] := h
    subst this; cases hi
  | 0, j, _ :: _, b, h, i, hi => h.elim
  | n + 1, j, [], b, h, i, hi => h.elim
  | n + 1, j, c :: cs, b, h, i, hi => by
    obtain ⟨b1, b2, rfl, ⟨_, h1, rfl⟩, h2⟩ := h
    rcases List.mem_append.1 hi with hi | hi
    · exact e.lt h1 i hi
    · exact rxC_lt h2 i hi
/-- Raw elements of e. -/
def rawE {α : Type} (e : Enc α) : Enc (Raw α) where
  size := e.size
  rep := fun w cs r b => FR w cs (rxC e r e.size 0) b
  len := fun h => by rw [FR.length h, rxC_len]
  keep := fun h hk hs => FR.keep h hk hs
  lt := fun h => rxC_lt h
instance {α : Type} (e : Enc α) : CellsOf (rawE e) (fun r => rxC e r e.size 0) := ⟨Iff.rfl⟩
/-- A raw element's footprint ars its cells say it: once for each cell. -/
def rep3 (n : Nat) (b : List Nat) : List Nat := match n with | 0 => [] | n + 1 => b ++ rep3 n b
theorem rep3_mem {n : Nat} {b : List Nat} {i : Nat} : i ∈ rep3 n b → i ∈ b := by
  induction n with
  | zero => intro h; cases h
  | succ n ih => intro h; rcases List.mem_append.1 h with h | h; exact h; exact ih h
theorem FR.toRx {α : Type} {e : Enc α} {w : World} {r : Raw α} (hr : e.rep w r.vs r.x r.b) (h1 : ∀ u ∈ r.vs, u.oneCell' = true) : ∀ {n j : Nat}, n + j = r.vs.length → FR w (r.vs.drop j) (rxC e r n j) (rep3 n r.b)
  | 0, j, h => by rw [List.drop_eq_nil_of_le (by omega)]; exact rfl
  | n + 1, j, h => by
    rw [List.drop_eq_getElem_cons (by omega)]
    exact ⟨_, _, rfl, ⟨⟨List.getElem?_eq_getElem (by omega), h1 _ (List.getElem_mem _)⟩, hr, rfl⟩, FR.toRx hr h1 (by omega)⟩
theorem FR.ofRx {α : Type} {e : Enc α} {w : World} {r : Raw α} : ∀ {n j : Nat} {cs : List Value} {b : List Nat}, FR w cs (rxC e r n j) b → ∀ i u, cs[i]? = some u → r.vs[j + i]? = some u
  | 0, j, [], b, h, i, u, hu => by simp at hu
  | 0, j, _ :: _, b, h, i, u, hu => h.elim
  | n + 1, j, [], b, h, i, u, hu => h.elim
  | n + 1, j, c :: cs, b, h, i, u, hu => by
    obtain ⟨b1, b2, rfl, ⟨h0, h1, rfl⟩, h2⟩ := h
    cases i with
    | zero => simp at hu; subst hu; exact h0.1
    | succ i =>
      have := FR.ofRx h2 i u (by simpa using hu)
      rwa [show j + 1 + i = j + (i + 1) by omega] at this
theorem rx_rep {α : Type} {e : Enc α} (h0 : 0 < e.size) {w : World} {r : Raw α} {cs : List Value} {b : List Nat} (h : FR w cs (rxC e r e.size 0) b) : cs = r.vs ∧ e.rep w r.vs r.x r.b := by
  have hl := FR.length h
  rw [rxC_len] at hl
  have hrep : e.rep w r.vs r.x r.b := by
    obtain ⟨n, hn⟩ : ∃ n, e.size = n + 1 := ⟨e.size - 1, by omega⟩
    rw [hn] at h
    cases cs with
    | nil => exact h.elim
    | cons c cs =>
      obtain ⟨_, _, _, ⟨_, h1, _⟩, _⟩ := h
      exact h1
  refine ⟨List.ext_getElem? fun i => ?_, hrep⟩
  by_cases hi : i < cs.length
  · rw [List.getElem?_eq_getElem hi]
    have := FR.ofRx h i _ (List.getElem?_eq_getElem hi)
    rw [Nat.zero_add] at this
    exact this.symm
  · rw [List.getElem?_eq_none (by omega), List.getElem?_eq_none (by rw [e.len hrep]; omega)]
def feet {α : Type} (zs : List (Raw α)) : List Nat := (zs.map Raw.b).flatten
/-- An array's cells ars raw elements. -/
theorem raw_of {α : Type} {e : Enc α} {f : α → List Cell} [hc : CellsOf e f] {w : World} : ∀ {xs : List α} {cells : List Value} {bs : List Nat}, FR w cells (xs.flatMap f) bs →
    ∃ zs : List (Raw α), zs.map Raw.x = xs ∧ feet zs = bs ∧ ∃ b3, FR w cells (zs.flatMap fun r => rxC e r e.size 0) b3 ∧ ∀ i ∈ b3, i ∈ bs
  | [], [], bs, h => ⟨[], rfl, (show bs = [] from h).symm, [], rfl, fun i hi => by cases hi⟩
  | [], _ :: _, bs, h => h.elim
  | x :: xs, cells, bs, h => by
    rw [List.flatMap_cons] at h
    obtain ⟨v1, v2, b1, b2, rfl, rfl, h1, h2⟩ := FR.app.1 h
    obtain ⟨zs, q1, q2, b3, q3, q4⟩ := raw_of (e := e) h2
    have hr := hc.iff.2 h1
    refine ⟨⟨x, v1, b1⟩ :: zs, by rw [List.map_cons, q1], by unfold feet at *; rw [List.map_cons, List.flatten_cons, q2], rep3 e.size b1 ++ b3, ?_, fun i hi => ?_⟩
    · rw [List.flatMap_cons]
      refine FR.app.2 ⟨v1, v2, _, b3, rfl, rfl, ?_, q3⟩
      have := FR.toRx (r := ⟨x, v1, b1⟩) hr (FR.one h1) (n := e.size) (j := 0) (by simp [e.len hr])
      rwa [List.drop_zero] at this
    · rcases List.mem_append.1 hi with hi | hi
      · exact List.mem_append_left _ (rep3_mem hi)
      · exact List.mem_append_right _ (q4 i hi)
/-- .. and back. -/
theorem raw_to {α : Type} {e : Enc α} {f : α → List Cell} [hc : CellsOf e f] (h0 : 0 < e.size) {w : World} : ∀ {zs : List (Raw α)} {cells : List Value} {b3 : List Nat}, FR w cells (zs.flatMap fun r => rxC e r e.size 0) b3 → FR w cells ((zs.map Raw.x).flatMap f) (feet zs)
  | [], [], b3, h => rfl
  | [], _ :: _, b3, h => h.elim
  | r :: zs, cells, b3, h => by
    rw [List.flatMap_cons] at h
    obtain ⟨v1, v2, b1, b2, rfl, rfl, h1, h2⟩ := FR.app.1 h
    obtain ⟨rfl, hr⟩ := rx_rep h0 h1
    rw [List.map_cons, List.flatMap_cons]
    exact FR.app.2 ⟨_, _, r.b, feet zs, rfl, by simp [feet], hc.iff.1 hr, raw_to h0 h2⟩
theorem CLe.rx {α : Type} {e : Enc α} {f : α → List Cell} [hc : CellsOf e f] {x : α} {vs : List Value} {b : List Nat} {j : Nat} {y : Cell} (h : nthC (f x) j = some y) : CLe (.rx e x vs b j) y := fun g l w v h1 => by
  obtain ⟨v', h2, h3⟩ := ((hc.iff.1 h1.2.1).all2 h1.2.2).get (nthC_get h)
  have h4 := h1.1.1
  rw [h4] at h2; cases h2
  exact h3
theorem feet_sub {α : Type} {zs ys : List (Raw α)} (h : zs.Sublist ys) : (feet zs).Sublist (feet ys) := by
  unfold feet
  induction h with
  | slnil => exact List.Sublist.slnil
  | cons a h ih => rw [List.map_cons, List.flatten_cons]; exact ih.trans (List.sublist_append_right _ _)
  | cons_cons a h ih => rw [List.map_cons, List.map_cons, List.flatten_cons, List.flatten_cons]; exact (List.Sublist.refl _).append ih
theorem feet_perm {α : Type} {zs ys : List (Raw α)} (h : zs.Perm ys) : (feet zs).Perm (feet ys) := by
  unfold feet
  exact (h.map Raw.b).flatten
/-- What moves raw elements about moves the elements with all that is theirs. -/
theorem AT.raw {P : Program} {fid : FuncId} {rest : List AVal} {α : Type} {e : Enc α} {f : α → List Cell} [hc : CellsOf e f] (h0 : 0 < e.size) {E : TypeId} {xs ys : List α} (hfn : Callable P fid)
    (h : ∀ zs : List (Raw α), zs.map Raw.x = xs → ∃ us : List (Raw α), us.map Raw.x = ys ∧ ((feet zs).Nodup → (feet us).Nodup) ∧ (∀ b ∈ feet us, b ∈ feet zs) ∧
      AT P fid (.one (.own 0) :: rest) [(0, some (.arr E (rawE e) zs false))] (.one (.own 1)) [(1, some (.arr E (rawE e) us false))]) (hrest : rest.flatMap AVal.ids1 = []) :
    AT P fid (.one (.own 0) :: rest) [(0, some (.arr E e xs true))] (.one (.own 1)) [(1, some (.arr E e ys true))] := by
  refine ⟨hfn, fun g w cargs m ha => ?_⟩
  have hk : lkl [(0, some (Blk.arr E e xs true))] 0 = some (.arr E e xs true) := rfl
  have hA0 := m.arr 0 _ _ _ _ _ hk
  obtain ⟨cells, bs, r1, f1, i1, F1, ob1⟩ := hA0.row
  obtain ⟨zs, q1, q2, b3, q3, q4⟩ := raw_of (e := e) f1
  obtain ⟨us, u1, u2, u3, hus⟩ := h zs q1
  have hF : g.F 0 = feet zs := by rw [F1 rfl, q2]
  have hlen : zs.length = xs.length := by rw [← q1, List.length_map]
  have m1 : MemR g [(0, some (.arr E (rawE e) zs false))] w := by
    have hlk : ∀ k b, lkl [(0, some (Blk.arr E (rawE e) zs false))] k = some b → k = 0 ∧ b = .arr E (rawE e) zs false := fun k b hb => by
      by_cases hk0 : k = 0
      · subst hk0; exact ⟨rfl, by cases hb; rfl⟩
      · rw [lkl_cons_ne (Ne.symm hk0)] at hb; cases hb
    refine ⟨m.ilt, fun k cs hb => ?_, fun k β T e2 ys2 d hb => ?_, fun j k b b' hjk hj hk' => ?_, fun k β T e2 ys2 hb => ?_, fun j k β γ T U e2 e3 ys2 zs2 hjk hj hk' => ?_⟩
    · have := (hlk _ _ hb).2; cases this
    · obtain ⟨rfl, h2⟩ := hlk _ _ hb
      cases h2
      refine ArrR.ofRow (e := rawE e) (f := fun r => rxC e r e.size 0) (cells := cells) (bs := b3) (by rw [hlen]; exact r1) q3 (fun b hb => i1 b (q4 b hb)) (fun h => by cases h) fun b hb => ?_
      refine ⟨ob1 b hb, ?_⟩
      rw [ob1 b hb]
      exact m.notI hk (fun e0 => by rw [e0] at hb; cases hb)
    · obtain ⟨rfl, _⟩ := hlk _ _ hj
      obtain ⟨rfl, _⟩ := hlk _ _ hk'
      exact absurd rfl hjk
    · have := (hlk _ _ hb).2; cases this
    · have := (hlk _ _ hj).2; cases this
  have ha1 : All2 (VR1 g [(0, some (.arr E (rawE e) zs false))] w) cargs.toList (.one (.own 0) :: rest) := by
    generalize cargs.toList = vs at ha
    cases vs with
    | nil => exact ha
    | cons v vs =>
      have hv : v = g.hd 0 := ha.1 _ _ _ _ _ hk
      refine ⟨fun β U e2 ys dd hcx => hv, ha.2.mono fun a b hb hr => VR1.step (fun _ _ => rfl) (fun _ h => h) (Nat.le_refl _) (fun k hk => ?_) hr⟩
      have : k ∈ rest.flatMap AVal.ids1 := List.mem_flatMap.2 ⟨b, hb, hk⟩
      rw [hrest] at this; cases this
  refine (hus.run g w cargs m1 ha1).mono ?_
  rintro r w' ⟨v, g1, rfl, m2, hv, hs⟩
  have hk2 : lkl [(1, some (Blk.arr E (rawE e) us false))] 1 = some (.arr E (rawE e) us false) := rfl
  obtain ⟨cells', b4, t1, t2, t3, _, t5⟩ := (m2.arr 1 _ _ _ _ _ hk2).row
  have t6 := raw_to (f := f) h0 t2
  rw [u1] at t6
  have hul : us.length = ys.length := by rw [← u1, List.length_map]
  obtain ⟨n1, n2⟩ := m.fr 0 _ _ _ _ hk
  rw [hF] at n1 n2
  have hin : ∀ b ∈ feet us, g.I b ∧ g1.I b ∧ ∃ c t, w'.heap[b]? = some (.cells c t (0, 0)) := fun b hb => by
    obtain ⟨p1, c, t, p2⟩ := n2 b (u3 b hb)
    exact ⟨p1, hs.imm b p1, c, t, by rw [m1.imm_keep hs p1]; exact p2⟩
  let g2 : Gh := ⟨g1.I, g1.ρ, g1.hd, fun _ => feet us⟩
  have hlk : ∀ k b, lkl [(1, some (Blk.arr E e ys true))] k = some b → k = 1 ∧ b = .arr E e ys true := fun k b hb => by
    by_cases hk0 : k = 1
    · subst hk0; exact ⟨rfl, by cases hb; rfl⟩
    · rw [lkl_cons_ne (Ne.symm hk0)] at hb; cases hb
  have m3 : MemR g2 [(1, some (.arr E e ys true))] w' := by
    refine ⟨m2.ilt, fun k cs hb => ?_, fun k β T e2 ys2 d hb => ?_, fun j k b b' hjk hj hk' => ?_, fun k β T e2 ys2 hb => ?_, fun j k β γ T U e2 e3 ys2 zs2 hjk hj hk' => ?_⟩
    · have := (hlk _ _ hb).2; cases this
    · obtain ⟨rfl, h2⟩ := hlk _ _ hb
      cases h2
      refine ArrR.ofRow (g := g2) (e := e) (f := f) (cells := cells') (bs := feet us) (by rw [← hul]; exact t1) t6 (fun b hb => (hin b hb).2.1) (fun _ => rfl) fun b hb => ?_
      refine ⟨t5 b hb, ?_⟩
      show ¬ g1.I b
      rw [t5 b hb]
      exact m2.notI hk2 (fun e0 => by
        have hb' : (g1.hd 1).ownBlock = some b := hb
        rw [e0] at hb'; cases hb')
    · obtain ⟨rfl, _⟩ := hlk _ _ hj
      obtain ⟨rfl, _⟩ := hlk _ _ hk'
      exact absurd rfl hjk
    · exact ⟨u2 n1, fun b hb => (hin b hb).2⟩
    · obtain ⟨rfl, _⟩ := hlk _ _ hj
      obtain ⟨rfl, _⟩ := hlk _ _ hk'
      exact absurd rfl hjk
  have hown : ∀ b, OwnB g [(0, some (.arr E (rawE e) zs false))] b → OwnB g [(0, some (.arr E e xs true))] b := fun b hb => by
    obtain ⟨k, blk, h1, h2⟩ := hb
    by_cases hk0 : k = 0
    · subst hk0
      cases h1
      rcases h2 with ⟨h2, h3⟩ | ⟨_, _, _, _, h2, _⟩
      · exact ⟨0, _, rfl, .inl ⟨h2, h3⟩⟩
      · cases h2
    · rw [lkl_cons_ne (Ne.symm hk0)] at h1; cases h1
  refine ⟨v, g2, rfl, m3, fun β U e2 ys2 dd hcx => ?_, ⟨hs.os, hs.tape, hs.output, hs.size, fun b hb hn => hs.keep b hb fun k blk h1 h2 => ?_, hs.imm, fun b hb => ?_, fun b hb => ?_, fun k hk => by cases hk⟩⟩
  · show v = g1.hd 1
    exact hv _ _ _ _ _ hk2
  · by_cases hk0 : k = 0
    · subst hk0
      cases h1
      exact hn 0 _ rfl h2
    · rw [lkl_cons_ne (Ne.symm hk0)] at h1; cases h1
  · rcases hs.imm' b hb with h1 | h1 | h1
    · exact .inl h1
    · exact .inr (.inl h1)
    · exact .inr (.inr (hown b h1))
  · obtain ⟨k, blk, h1, h2⟩ := hb
    obtain ⟨rfl, rfl⟩ := hlk _ _ h1
    rcases h2 with ⟨h2, h3⟩ | ⟨β, T, e2, xs2, h2, h3⟩
    · rcases hs.own b ⟨1, _, rfl, .inl ⟨h2, h3⟩⟩ with h4 | h4
      · exact .inl (hown b h4)
      · exact .inr h4
    · left
      exact ⟨0, _, rfl, .inr ⟨_, _, _, _, rfl, by rw [hF]; exact u3 b h3⟩⟩
end Go.Proofs.YtibhoanjglfaoaaGreat

/- Contracts told of the cells of a row, ars contracts of arrays of one's own. -/
namespace Go.Proofs.YtibhoanjglfaoaaGreat
open Go.RowKit
set_option linter.unusedVariables false

section
variable {g : Gh} {l : Locs} {w w' : World}
/-- A row of one's own made anew out of others, ars it is seen from numbers. -/
theorem row_lay (m : MemR g l w) {k k' : Nat} (hk' : lk l k' = none) (hki : k' ∉ l.ids) {js : List Nat} (hkj : k ∈ js) (hjs : ∀ j ∈ js, ∃ (α : Type) (T : TypeId) (e : Enc α) (xs : List α) (d : Bool), lkl l j = some (.arr T e xs d))
    {α : Type} {E : TypeId} {e : Enc α} {f : α → List Cell} [hc : CellsOf e f] {zs : List α} {d : Bool} {cells : List Value} {b3 : List Nat} {v' : Value}
    (hF : FR w cells (zs.flatMap f) b3) (hI : ∀ b ∈ b3, g.I b) (hob : ∀ b, (g.hd k).ownBlock = some b → b = g.ρ k)
    (hrow : w'.ownsRow 0 E e.size v' zs.length cells) (hgr : w.grownBy w' (g.hd k).ownBlock) (hblk : ∀ b, v'.ownBlock = some b → (g.hd k).ownBlock = some b ∨ w.heap.size ≤ b)
    (hd : d = true → b3.Nodup ∧ ∀ b ∈ b3, ∃ j ∈ js, Via g l j b) :
    ∃ g', g'.hd k' = v' ∧ MemR g' ((k', some (.arr E e zs d)) :: (gones js ++ l)) w' ∧ (∀ K, Step K g l w g' ((k', some (.arr E e zs d)) :: (gones js ++ l)) w') := by
  obtain ⟨α0, T0, e0, xs0, d0, hk0⟩ := hjs k hkj
  have hlive : ∀ b, (g.hd k).ownBlock = some b → g.hd k ≠ .slice none 0 0 := fun b hb e => by rw [e] at hb; cases hb
  have hnI : ∀ b, (g.hd k).ownBlock = some b → ¬ g.I b := fun b hb => by rw [hob b hb]; exact m.notI hk0 (hlive b hb)
  have hkeepI : ∀ b, g.I b → w'.heap[b]? = w.heap[b]? := fun b hb => hgr.block b (m.ilt b hb) fun e => hnI b e.symm hb
  have hFR := hF.keep (w' := w') (fun b hb => hkeepI b (hI b hb)) hgr.size
  have hIb : ∀ b, v'.ownBlock = some b → ¬ (g.I b ∨ liveA g [] b) := fun b hb h => by
    rcases h with h | ⟨j, hj, _⟩
    · rcases hblk b hb with h1 | h1
      · exact hnI b h1 h
      · have := m.ilt b h; omega
    · cases hj
  obtain ⟨g', q1, q2, q3, q4, q5, q6, q7⟩ := arr_new (w' := w') m hk' hki (js := js) (fz := []) (fun _ h => by cases h) hjs (T := E) (e := e) (xs := zs) (d := d) (blk := (v'.ownBlock).getD 0) (v := v') (fp := b3)
    hgr.os hgr.tape hgr.output hgr.size (fun b hb hn => hgr.block b hb fun e => hn k hkj (by simp) (hlive b e.symm) (hob b e.symm))
    (ArrR.lay hrow hFR (fun b hb => .inl (hI b hb)) (fun b hb => ⟨by rw [hb]; rfl, hIb b hb⟩))
    (fun hv => by
      rcases hrow.2 with ⟨h1, _⟩ | ⟨b, cap, cur, h1, _, h3, _⟩
      · exact absurd h1 hv
      · have hb : v'.ownBlock = some b := by rw [h1]; rfl
        rw [hb]
        refine ⟨(Array.getElem?_eq_some_iff.1 h3).1, ?_⟩
        rcases hblk b hb with h | h
        · exact .inr ⟨k, hkj, by simp, hlive b h, hob b h⟩
        · exact .inl h)
    (fun hdd => ⟨(hd hdd).1, fun b hb => ⟨.inl (hI b hb), by
      obtain ⟨j, hj, hv⟩ := (hd hdd).2 b hb
      obtain ⟨c, t, h⟩ := hv.cells m
      exact ⟨c, t, by rw [hkeepI b (hI b hb)]; exact h⟩, (hd hdd).2 b hb⟩⟩)
  exact ⟨g', q2, q3, q4⟩
end
/-- Only the last-made array is left. -/
theorem MemR.last {g : Gh} {l : Locs} {w : World} {k : Nat} {b : Blk} (m : MemR g ((k, some b) :: l) w) : MemR g [(k, some b)] w := by
  have hlk : ∀ j c, lkl [(k, some b)] j = some c → lkl ((k, some b) :: l) j = some c := fun j c hc => by
    by_cases h : k = j
    · subst h; rw [lkl_cons_self] at hc ⊢; exact hc
    · rw [lkl_cons_ne h] at hc; cases hc
  refine ⟨m.ilt, fun j cs hc => ?_, fun j β T e2 ys2 d hc => m.arr j _ _ _ _ _ (hlk _ _ hc), fun i j b1 b2 hij h1 h2 => m.dis i j _ _ hij (hlk _ _ h1) (hlk _ _ h2), fun j β T e2 ys2 hc => m.fr j _ _ _ _ (hlk _ _ hc), fun i j β γ T U e2 e3 y2 z2 hij h1 h2 => m.fd i j _ _ _ _ _ _ _ _ hij (hlk _ _ h1) (hlk _ _ h2)⟩
  obtain ⟨vs, t, h1, h2, h3⟩ := m.box j cs (hlk _ _ hc)
  refine ⟨vs, t, h1, h2.mono fun a c hcm hr => ?_, h3⟩
  exact CellR.step (fun _ _ => rfl) (fun _ h => h) (Nat.le_refl _) (fun i _ => ⟨fun cs' h => ⟨rfl, cs', hlk _ _ h⟩, fun β T e2 xs d h => ⟨β, T, e2, xs, d, hlk _ _ h, rfl, rfl, rfl⟩⟩) hr
theorem Step.last {g g' : Gh} {l0 l : Locs} {w w' : World} {k : Nat} {b : Blk} (h : Step [] g l0 w g' ((k, some b) :: l) w') : Step [] g l0 w g' [(k, some b)] w' :=
  ⟨h.os, h.tape, h.output, h.size, h.keep, h.imm, h.imm', (fun c hc => by
    obtain ⟨j, blk, h1, h2⟩ := hc
    refine h.own c ⟨j, blk, ?_, h2⟩
    by_cases e : k = j
    · subst e; rw [lkl_cons_self] at h1 ⊢; exact h1
    · rw [lkl_cons_ne e] at h1; exact absurd h1 (by simp [lkl, lk])), fun k hk => by cases hk⟩
/-- .. of two rows: the second lies apart. -/
theorem AT.row2 {P : Program} {fid : FuncId} {rest : List AVal} {α : Type} {e : Enc α} {f : α → List Cell} [hc : CellsOf e f] {E : TypeId} {xs zs ys : List α} {d : Bool} (hfn : Callable P fid)
    (h : ∀ (w : World) (v u : Value) (vs : List Value) (cells news : List Value) (bs b2 : List Nat), All2 (fun v x => x = AVal.one (.c v)) vs rest → w.ownsRow 0 E e.size v xs.length cells → w.ownsRow 0 E e.size u zs.length news → FR w cells (xs.flatMap f) bs → FR w news (zs.flatMap f) b2 → (∀ u ∈ cells ++ news, u.oneCell' = true) →
      (∀ b, u.ownBlock = some b → v.ownBlock ≠ some b) →
      Calls P fid ((v :: vs) ++ [u]).toArray w fun en w' => ∃ v' cells', en = .returned v' ∧ w'.ownsRow 0 E e.size v' ys.length cells' ∧ w.grownBy w' v.ownBlock ∧ (∀ b, v'.ownBlock = some b → v.ownBlock = some b ∨ w.heap.size ≤ b) ∧
        ∃ bs', FR w cells' (ys.flatMap f) bs' ∧ ((bs ++ b2).Nodup → bs'.Nodup) ∧ ∀ b ∈ bs', b ∈ bs ++ b2)
    (hrest : ∀ x ∈ rest, ∃ v, x = AVal.one (.c v)) :
    AT P fid ((.one (.own 0) :: rest) ++ [.one (.own 2)]) [(0, some (.arr E e xs d)), (2, some (.arr E e zs d))] (.one (.own 1)) [(1, some (.arr E e ys d))] := by
  refine ⟨hfn, fun g w cargs m ha => ?_⟩
  have hk : lkl [(0, some (Blk.arr E e xs d)), (2, some (Blk.arr E e zs d))] 0 = some (.arr E e xs d) := rfl
  have hk2 : lkl [(0, some (Blk.arr E e xs d)), (2, some (Blk.arr E e zs d))] 2 = some (.arr E e zs d) := rfl
  obtain ⟨cells, bs, r1, f1, i1, F1, ob1⟩ := (m.arr 0 _ _ _ _ _ hk).row
  obtain ⟨news, b2, r2, f2, i2, F2, ob2⟩ := (m.arr 2 _ _ _ _ _ hk2).row
  have : ∃ v vs u, cargs = ((v :: vs) ++ [u]).toArray ∧ All2 (VR1 g [(0, some (Blk.arr E e xs d)), (2, some (Blk.arr E e zs d))] w) vs rest ∧ v = g.hd 0 ∧ u = g.hd 2 := by
    obtain ⟨l1, l2, h1, h2, h3⟩ := All2.split ha
    cases l1 with
    | nil => exact h2.elim
    | cons v vs =>
      cases l2 with
      | nil => exact h3.elim
      | cons u us =>
        cases us with
        | cons _ _ => exact h3.2.elim
        | nil => exact ⟨v, vs, u, by have q := congrArg List.toArray h1; simpa using q, h2.2, h2.1 _ _ _ _ _ hk, h3.1 _ _ _ _ _ hk2⟩
  obtain ⟨v, vs, u, rfl, ha2, rfl, rfl⟩ := this
  have hvs : All2 (fun v x => x = AVal.one (.c v)) vs rest := ha2.mono fun a x hx hr => by
    obtain ⟨y, rfl⟩ := hrest x hx
    have := (hr : CellR g _ w a (.c y)).1
    rw [this]
  have hlive : ∀ k b, (g.hd k).ownBlock = some b → g.hd k ≠ .slice none 0 0 := fun k b hb e => by rw [e] at hb; cases hb
  refine (h w _ _ vs cells news bs b2 hvs r1 r2 f1 f2 (fun u hu => (List.mem_append.1 hu).elim (FR.one f1 u) (FR.one f2 u)) (fun b hb e0 => ?_)).mono ?_
  · have q1 := ob1 b e0
    have q2 := ob2 b hb
    exact m.dis 0 2 _ _ (by decide) hk hk2 (hlive 0 b e0) (hlive 2 b hb) (q1.symm.trans q2)
  · rintro en w' ⟨v', cells', rfl, t1, t2, t3, bs', t4, t5, t6⟩
    obtain ⟨g', s1, s2, s3⟩ := row_lay (w' := w') m (k := 0) (k' := 1) rfl (by simp [Locs.ids]) (js := [0, 2]) (by simp) (fun j hj => by
        simp at hj
        rcases hj with rfl | rfl
        · exact ⟨α, E, e, xs, d, hk⟩
        · exact ⟨α, E, e, zs, d, hk2⟩) (zs := ys) (d := d) t4 (fun b hb => (List.mem_append.1 (t6 b hb)).elim (i1 b) (i2 b)) ob1 t1 t2 t3 (fun hd => by
      subst hd
      have v1 : ∀ b ∈ bs, Via g _ 0 b := fun b hb => ⟨α, E, e, xs, hk, .inr (by rw [F1 rfl]; exact hb)⟩
      have v2 : ∀ b ∈ b2, Via g _ 2 b := fun b hb => ⟨α, E, e, zs, hk2, .inr (by rw [F2 rfl]; exact hb)⟩
      refine ⟨t5 (List.nodup_append.2 ⟨by rw [← F1 rfl]; exact (m.fr 0 _ _ _ _ hk).1, by rw [← F2 rfl]; exact (m.fr 2 _ _ _ _ hk2).1, fun x hx y hy exy => ?_⟩), fun b hb => ?_⟩
      · subst exy
        have := (v1 x hx).disj m (v2 x hy)
        cases this
      · rcases List.mem_append.1 (t6 b hb) with hb | hb
        · exact ⟨0, by simp, v1 b hb⟩
        · exact ⟨2, by simp, v2 b hb⟩)
    exact ⟨v', g', rfl, s2.last, fun β U e2 ys2 dd hcx => s1.symm, (s3 []).last⟩
/-- .. under numbers of the caller's. -/
theorem AT.lend2 {P : Program} {f : FuncId} {rest : List AVal} {α : Type} {T : TypeId} {e : Enc α} {xs zs ys : List α} {d : Bool}
    (h : AT P f ((.one (.own 0) :: rest) ++ [.one (.own 2)]) [(0, some (.arr T e xs d)), (2, some (.arr T e zs d))] (.one (.own 1)) [(1, some (.arr T e ys d))]) (a b c : Nat) (hac : Nat.beq a c = false) (hbc : Nat.beq b c = false) (hab : Nat.beq a b = false) (hrest : ∀ r, rest.map (AVal.ren1 r) = rest) :
    AC P f ((.one (.own a) :: rest) ++ [.one (.own b)]) [(a, some (.arr T e xs d)), (b, some (.arr T e zs d))] (.one (.own c)) [(a, none), (b, none), (c, some (.arr T e ys d))] := by
  have key : ∀ {p q : Nat}, Nat.beq p q = false → Nat.beq q p = false := fun {p q} h => by
    cases e : Nat.beq q p
    · rfl
    · have h1 := Nat.eq_of_beq_eq_true e
      subst h1
      rw [Nat.beq_refl] at h; cases h
  have hcc : Nat.beq c c = true := Nat.beq_refl c
  have haa : Nat.beq a a = true := Nat.beq_refl a
  have hca := key hac
  have hcb := key hbc
  have hba := key hab
  let r1 : Nat → Nat := fun k => bif Nat.beq k 0 then a else b
  let s1 : Nat → Nat := fun k => bif Nat.beq k c then 1 else bif Nat.beq k a then 0 else 2
  have z20 : Nat.beq 2 0 = false := rfl
  have z10 : Nat.beq 1 0 = false := rfl
  have z12 : Nat.beq 1 2 = false := rfl
  have sc : s1 c = 1 := by show (bif Nat.beq c c then 1 else _) = 1; rw [hcc]; rfl
  have sa : s1 a = 0 := by show (bif Nat.beq a c then 1 else bif Nat.beq a a then 0 else 2) = 0; rw [hac, haa]; rfl
  have sb : s1 b = 2 := by show (bif Nat.beq b c then 1 else bif Nat.beq b a then 0 else 2) = 2; rw [hbc, hba]; rfl
  have := AT.lend (P := P) (f := f) (args := (.one (.own 0) :: rest) ++ [.one (.own 2)]) (res' := .one (.own c)) (l := [(a, some (.arr T e xs d)), (b, some (.arr T e zs d))]) (l' := [(a, none), (b, none), (c, some (.arr T e ys d))]) r1 s1 (L := [(0, some (.arr T e xs d)), (2, some (.arr T e zs d))]) (L' := [(1, some (.arr T e ys d))])
    (by show AT P f _ _ (.one (.own (s1 c))) _; rw [sc]; exact h)
    ⟨⟨.arr T e xs d, by show lkl _ a = _; rw [lkl_cons_self], BLe.rf⟩, ⟨.arr T e zs d, by show lkl _ b = _; rw [lkl_cons_ne (fun q => by subst q; rw [haa] at hab; cases hab), lkl_cons_self], BLe.rf⟩, trivial⟩ (by simp [injL, keys, r1, hba, z20])
    ⟨⟨_, by rw [sc]; rfl, BLe.rf⟩, trivial⟩ (by
      simp [injL, keys, sa, sb, sc, z20, z10, z12]) (fun k hk => by
      simp [keys] at hk
      rcases hk with rfl | rfl
      · rw [lk_cons_self]
      · rw [lk_cons_ne (fun q => by subst q; rw [haa] at hab; cases hab), lk_cons_self]) (fun k cs hc => by
        by_cases q : a = k
        · subst q; rw [lkl_cons_self] at hc; cases hc
        · rw [lkl_cons_ne q] at hc
          by_cases q : b = k
          · subst q; rw [lkl_cons_self] at hc; cases hc
          · rw [lkl_cons_ne q] at hc; cases hc)
  rw [List.map_append, List.map_cons, hrest] at this
  exact this
/-! ### Elements of some cells, copied and cleared -/
theorem run_copy_rowK {P : Program} (w : World) (dT sT ty elem : TypeId) (k g o dLen dCap : Nat) (a : Addr) (sLen sCap : Nat) (cur : Array Value) (t : TypeId) (cs : List Value)
    (hu : P.underlying dT = some (.slice elem)) (hs : (P.info? elem).map (·.size) = some k)
    (hg : w.heap[g]? = some (.cells cur t (0, 0))) (hn : cs.length = Nat.min sLen dLen * k)
    (hsrc : ∀ j v, cs[j]? = some v → w.cell? (a.add j) = some v) (hfit : o + cs.length ≤ cur.size) (h1 : ∀ v ∈ cs, v.oneCell' = true) :
    (Builtin.copy_ #[dT, sT] ty #[.slice (some ⟨g, o, none⟩) dLen dCap, .slice (some a) sLen sCap]).run P w =
      .ok (goInt (Nat.min sLen dLen)) (w.setRow g (cur.toList.take o ++ cs ++ cur.toList.drop (o + cs.length)).toArray) := by
  have hl := run_loadCells_list (P := P) w a cs hsrc
  have hst := run_storeCells_at P g o t cs 0 cur w hg (by simpa using hfit) h1
  cases hq : P.info? elem with
  | none => simp [hq] at hs
  | some i =>
    have hi : i.size = k := by simpa [hq] using hs
    simp [Builtin.copy_, run_underlying hu, Builtin.lenOf, Builtin.firstCells, sizeOf, typeInfo, hq, hi, ← hn, hl, hst]
theorem insRow {A C N : List Value} {x y z : Nat} (hx : x ≤ C.length) (hy : y = x + N.length) (hz : z = C.length + N.length) (hA : A.take C.length = C) (hlen : z ≤ A.length) :
    ((A.take y ++ C.drop x ++ A.drop z).take x ++ N ++ (A.take y ++ C.drop x ++ A.drop z).drop (x + N.length)) = C.take x ++ N ++ C.drop x ++ A.drop z := by
  subst hy; subst hz
  have e1 : (A.take (x + N.length) ++ C.drop x ++ A.drop (C.length + N.length)).take x = C.take x := by
    have e0 : C.take x = A.take x := by
      conv => lhs; rw [← hA]
      rw [List.take_take, Nat.min_eq_left hx]
    rw [List.append_assoc, List.take_append_of_le_length (by simp; omega), List.take_take, Nat.min_eq_left (by omega), e0]
  have e2 : (A.take (x + N.length) ++ C.drop x ++ A.drop (C.length + N.length)).drop (x + N.length) = C.drop x ++ A.drop (C.length + N.length) := by
    rw [List.append_assoc, List.drop_left' (by simp; omega)]
  rw [e1, e2, List.append_assoc, List.append_assoc, List.append_assoc]
theorem FR.flatLen {α : Type} {e : Enc α} {f : α → List Cell} [hc : CellsOf e f] {w : World} : ∀ {xs : List α} {vs : List Value} {b : List Nat}, FR w vs (xs.flatMap f) b → vs.length = xs.length * e.size
  | [], [], b, h => by simp
  | [], _ :: _, b, h => h.elim
  | x :: xs, vs, b, h => by
    rw [List.flatMap_cons] at h
    obtain ⟨v1, v2, b1, b2, rfl, rfl, h1, h2⟩ := FR.app.1 h
    have l1 := e.len (hc.iff.2 h1)
    have l2 := FR.flatLen (e := e) h2
    rw [List.length_append, l1, l2, List.length_cons, Nat.add_mul]; omega
theorem FR.parts {α : Type} {e : Enc α} {f : α → List Cell} [hc : CellsOf e f] {w : World} {xs : List α} {cells : List Value} {bs : List Nat} (h : FR w cells (xs.flatMap f) bs) {i : Nat} (hi : i ≤ xs.length) :
    ∃ b1 b3, bs = b1 ++ b3 ∧ FR w (cells.take (i * e.size)) ((xs.take i).flatMap f) b1 ∧ FR w (cells.drop (i * e.size)) ((xs.drop i).flatMap f) b3 := by
  have e0 : xs.flatMap f = (xs.take i).flatMap f ++ (xs.drop i).flatMap f := by rw [← List.flatMap_append, List.take_append_drop]
  rw [e0] at h
  obtain ⟨v1, v2, b1, b3, rfl, rfl, h1, h2⟩ := FR.app.1 h
  have l1 := FR.flatLen (e := e) h1
  rw [List.length_take, Nat.min_eq_left hi] at l1
  exact ⟨b1, b3, rfl, by rw [List.take_left' l1]; exact h1, by rw [List.drop_left' l1]; exact h2⟩
theorem FR.ins {α : Type} {e : Enc α} {f : α → List Cell} [hc : CellsOf e f] {w : World} {xs zs : List α} {cells news : List Value} {bs b2 : List Nat} (h : FR w cells (xs.flatMap f) bs) (h2 : FR w news (zs.flatMap f) b2) {i : Nat} (hi : i ≤ xs.length) :
    ∃ bs', FR w (cells.take (i * e.size) ++ news ++ cells.drop (i * e.size)) ((xs.take i ++ zs ++ xs.drop i).flatMap f) bs' ∧ ((bs ++ b2).Nodup → bs'.Nodup) ∧ ∀ b ∈ bs', b ∈ bs ++ b2 := by
  obtain ⟨b1, b3, rfl, q1, q3⟩ := FR.parts (e := e) h hi
  refine ⟨b1 ++ b2 ++ b3, ?_, fun hn => ?_, fun b hb => ?_⟩
  · rw [List.flatMap_append, List.flatMap_append]
    exact FR.app.2 ⟨_, _, _, _, rfl, rfl, FR.app.2 ⟨_, _, _, _, rfl, rfl, q1, h2⟩, q3⟩
  · have hp : (b1 ++ b3 ++ b2).Perm (b1 ++ b2 ++ b3) := by
      rw [List.append_assoc, List.append_assoc]
      exact List.Perm.append_left b1 List.perm_append_comm
    exact hp.nodup_iff.1 hn
  · simp only [List.mem_append] at hb ⊢
    rcases hb with (hb | hb) | hb <;> simp [hb]
end Go.Proofs.YtibhoanjglfaoaaGreat

/- Results that nobody writes any more; arrays whose elements are shared; appending and clearing in regions. -/
namespace Go.Proofs.YtibhoanjglfaoaaGreat
open Go.RowKit
set_option linter.unusedVariables false

/-! ### An array's elements are no longer its own alone -/
section
variable {g : Gh} {l : Locs} {w : World}
theorem shallow_mem (m : MemR g l w) {k : Nat} {α : Type} {T : TypeId} {e : Enc α} {xs : List α} {dp : Bool} (hk : lkl l k = some (.arr T e xs dp)) :
    MemR g ((k, some (.arr T e xs false)) :: l) w ∧ (∀ K, Step K g l w g ((k, some (.arr T e xs false)) :: l) w) ∧ ∀ j, okK g l g ((k, some (.arr T e xs false)) :: l) j := by
  have ok : ∀ j, okK g l g ((k, some (.arr T e xs false)) :: l) j := fun j => by
    by_cases q : k = j
    · subst q
      exact ⟨fun cs h => (by rw [lkl_cons_self] at h; cases h), fun β U e2 ys d h => by rw [lkl_cons_self] at h; cases h; exact ⟨_, _, _, _, _, hk, rfl, rfl, rfl⟩⟩
    · exact okK.same (lkl_cons_ne q) rfl rfl
  have back : ∀ j b, lkl ((k, some (Blk.arr T e xs false)) :: l) j = some b → ∃ b', lkl l j = some b' ∧ (liv g j b ↔ liv g j b') ∧ (∀ (β : Type) (U : TypeId) (e2 : Enc β) (ys : List β), b = .arr U e2 ys true → b' = .arr U e2 ys true) := fun j b h => by
    by_cases q : k = j
    · subst q
      rw [lkl_cons_self] at h; cases h
      exact ⟨_, hk, Iff.rfl, fun β U e2 ys h => by cases h⟩
    · rw [lkl_cons_ne q] at h
      exact ⟨b, h, Iff.rfl, fun _ _ _ _ h => h⟩
  refine ⟨⟨m.ilt, fun j cs h => ?_, fun j β U e2 ys d h => ?_, fun i j b b' hij h1 h2 l1 l2 => ?_, fun j β U e2 ys h => ?_, fun i j β γ U V e2 e3 ys zs hij h1 h2 => ?_⟩, fun K => ⟨rfl, rfl, rfl, Nat.le_refl _, fun _ _ _ => rfl, fun _ h => h, fun _ h => .inl h, fun b hb => ?_, fun j hj hn => ⟨?_, ok j, fun cs hc => ?_⟩⟩, ok⟩
  · by_cases q : k = j
    · subst q; rw [lkl_cons_self] at h; cases h
    · rw [lkl_cons_ne q] at h
      obtain ⟨vs, t, h1, h2, h3⟩ := m.box j cs h
      exact ⟨vs, t, h1, h2.mono fun a c _ hr => CellR.step (fun _ _ => rfl) (fun _ h => h) (Nat.le_refl _) (fun i _ => ok i) hr, h3⟩
  · by_cases q : k = j
    · subst q
      rw [lkl_cons_self] at h; cases h
      rcases m.arr k _ _ _ _ _ hk with ⟨h1, h2, _⟩ | ⟨cap, vs, bss, h1, h2, h3, h4, h5, h6, h7, h8, _⟩
      · exact .inl ⟨h1, h2, fun h => by cases h⟩
      · exact .inr ⟨cap, vs, bss, h1, h2, h3, h4, h5, h6, h7, h8, fun h => by cases h⟩
    · rw [lkl_cons_ne q] at h
      exact m.arr j _ _ _ _ _ h
  · obtain ⟨c, q1, q2, _⟩ := back i b h1
    obtain ⟨c', q3, q4, _⟩ := back j b' h2
    exact m.dis i j _ _ hij q1 q3 (q2.1 l1) (q4.1 l2)
  · obtain ⟨c, q1, _, q3⟩ := back j _ h
    rw [q3 _ _ _ _ rfl] at q1
    exact m.fr j _ _ _ _ q1
  · obtain ⟨c, q1, _, q3⟩ := back i _ h1
    obtain ⟨c', q4, _, q6⟩ := back j _ h2
    rw [q3 _ _ _ _ rfl] at q1
    rw [q6 _ _ _ _ rfl] at q4
    exact m.fd i j _ _ _ _ _ _ _ _ hij q1 q4
  · obtain ⟨j, blk, h1, h2⟩ := hb
    obtain ⟨c, q1, q2, q3⟩ := back j blk h1
    rcases h2 with ⟨h2, h3⟩ | ⟨β, U, e2, ys, h2, h3⟩
    · exact .inl ⟨j, c, q1, .inl ⟨q2.1 h2, h3⟩⟩
    · exact .inl ⟨j, c, q1, .inr ⟨β, U, e2, ys, q3 _ _ _ _ h2, h3⟩⟩
  · by_cases q : k = j
    · subst q; rw [lk_cons_self]; simp
    · rw [lk_cons_ne q]; exact hn
  · by_cases q : k = j
    · subst q; rw [hk] at hc; cases hc
    · exact ⟨cs, by rw [lkl_cons_ne q]; exact hc⟩
variable {P : Program} {N : Nat} {K : List Nat} {Kn : St → Prop} {Q : Exit → St → Prop} {s : St}
theorem AW_shallow {α : Type} {T : TypeId} {e : Enc α} {xs : List α} {dp : Bool} {c : Code} (k : Nat) (hk : lkl s.l k = some (.arr T e xs dp))
    (h : AW P N K c Kn Q ⟨s.t, (k, some (.arr T e xs false)) :: s.l⟩) : AW P N K c Kn Q s := fun g a w r => by
  obtain ⟨m1, st1, ok1⟩ := shallow_mem r.mem hk
  have r1 := r.next0 (g' := g) (l' := (k, some (.arr T e xs false)) :: s.l) (w' := w) (fun _ _ => rfl) (fun _ h => h) (Nat.le_refl _) (fun j _ => ok1 j) m1
  exact Go.wp_mono (h g a w r1) fun e a1 w1 h1 => h1.trans r.mem m1 (st1 K)
end

/-! ### A result that is given up to be read alone -/
def frzC {α : Type} (e : Enc α) (xs : List α) : Cell → Cell
  | .own _ => .sl e xs
  | c => c
def AVal.frz1 {α : Type} (e : Enc α) (xs : List α) : AVal → AVal
  | .one x => .one (frzC e xs x)
  | .agg xs' => .agg (xs'.map (frzC e xs))
  | .tup xs' => .tup xs'
def AVal.frz {α : Type} (e : Enc α) (xs : List α) : AVal → AVal
  | .tup xs' => .tup (xs'.map (AVal.frz1 e xs))
  | x => x.frz1 e xs
section
variable {g g' : Gh} {w : World} {α : Type} {T : TypeId} {e : Enc α} {xs : List α} {d : Bool}
theorem frzC_ok (hs : CellR g' [] w (g.hd 0) (.sl e xs)) {v : Value} {c : Cell} (hc : cleanC c = true) (hi : ∀ k ∈ c.ids, k = 0) (h : CellR g [(0, some (.arr T e xs d))] w v c) : CellR g' [] w v (frzC e xs c) := by
  cases c with
  | c u => exact h
  | own k =>
    have hk0 : k = 0 := hi k (by simp [Cell.ids])
    subst hk0
    have : v = g.hd 0 := h _ _ _ _ _ rfl
    rw [this]; exact hs
  | any => trivial
  | _ => cases hc
theorem frz1_ok (hs : CellR g' [] w (g.hd 0) (.sl e xs)) : ∀ {v : Value} {x : AVal}, cleanV x = true → (∀ k ∈ x.ids1, k = 0) → VR1 g [(0, some (.arr T e xs d))] w v x → VR1 g' [] w v (x.frz1 e xs)
  | v, .one c, hc, hi, h => frzC_ok hs hc hi h
  | v, .agg cs, hc, hi, ⟨vs, h1, h2⟩ => by
    refine ⟨vs, h1, ?_⟩
    clear h1
    have hc' : ∀ c ∈ cs, cleanC c = true := fun c hm => List.all_eq_true.1 hc c hm
    have hi' : ∀ c ∈ cs, ∀ k ∈ c.ids, k = 0 := fun c hm k hk => hi k (List.mem_flatMap.2 ⟨c, hm, hk⟩)
    clear hc hi
    induction cs generalizing vs with
    | nil => cases vs with | nil => trivial | cons _ _ => exact h2.elim
    | cons c cs ih =>
      cases vs with
      | nil => exact h2.elim
      | cons u us => exact ⟨frzC_ok hs (hc' c (by simp)) (hi' c (by simp)) h2.1, ih us h2.2 (fun c hm => hc' c (by simp [hm])) (fun c hm => hi' c (by simp [hm]))⟩
  | v, .tup _, _, _, h => h.elim
end
theorem AC.frz {P : Program} {f : FuncId} {args : List AVal} {res : AVal} {α : Type} {T : TypeId} {e : Enc α} {xs : List α} {d : Bool} (h : AC P f args [] res [(0, some (.arr T e xs d))]) (hc : cleanV res = true) (hi : ∀ k ∈ res.ids, k = 0) : AC P f args [] (res.frz e xs) [] := by
  refine ⟨h.fn, fun g w cargs m ha => (h.run g w cargs m ha).mono ?_⟩
  rintro r w' ⟨v, g1, rfl, m1, hv, hs⟩
  have hk : lkl [(0, some (Blk.arr T e xs d))] 0 = some (.arr T e xs d) := rfl
  obtain ⟨m2, s2, c2, _⟩ := shut_mem m1 hk
  have T1 := Step.trans m m1 hs (s2 [])
  have no : ∀ k b, lkl [] k ≠ some b := fun k b h => by simp [lkl, lk] at h
  have m3 : MemR (g1.shut 0) [] w' := ⟨m2.ilt, fun k cs h => (no _ _ h).elim, fun k β T e2 ys d h => (no _ _ h).elim, fun j k b b' _ h => (no _ _ h).elim, fun k β T e2 ys h => (no _ _ h).elim, fun j k β γ T U e2 e3 ys zs _ h => (no _ _ h).elim⟩
  have hsl : CellR (g1.shut 0) [] w' (g1.hd 0) (.sl e xs) := c2
  refine ⟨v, g1.shut 0, rfl, m3, ?_, ⟨T1.os, T1.tape, T1.output, T1.size, T1.keep, T1.imm, T1.imm', fun b hb => ?_, fun k hk => by cases hk⟩⟩
  · cases res with
    | one x => exact frz1_ok (d := d) (T := T) hsl hc (fun k hk => hi k hk) hv
    | agg cs => exact frz1_ok (x := .agg cs) (d := d) (T := T) hsl hc (fun k hk => hi k hk) hv
    | tup ys =>
      obtain ⟨vs, h1, h2⟩ := hv
      refine ⟨vs, h1, ?_⟩
      clear h1
      have hc' : ∀ y ∈ ys, cleanV y = true := fun y hm => by
        have := List.all_eq_true.1 hc y hm
        cases y with
        | one _ => exact this
        | agg _ => exact this
        | tup _ => cases this
      have hi' : ∀ y ∈ ys, ∀ k ∈ y.ids1, k = 0 := fun y hm k hk => hi k (List.mem_flatMap.2 ⟨y, hm, hk⟩)
      clear hc hi h ha
      induction ys generalizing vs with
      | nil => cases vs with | nil => trivial | cons _ _ => exact h2.elim
      | cons y ys ih =>
        cases vs with
        | nil => exact h2.elim
        | cons u us => exact ⟨frz1_ok (d := d) (T := T) hsl (hc' y (by simp)) (hi' y (by simp)) h2.1, ih us h2.2 (fun y hm => hc' y (by simp [hm])) (fun y hm => hi' y (by simp [hm]))⟩
  · obtain ⟨k, blk, h1, _⟩ := hb
    exact (no _ _ h1).elim

/-! ### append and clear, where their runs are known by equations -/
end Go.Proofs.YtibhoanjglfaoaaGreat

/- Rules for the draws' contracts: a cursor that is lent while an array is left, two results in variables. -/
namespace Go.Proofs.YtibhoanjglfaoaaGreat
open Go.RowKit
set_option linter.unusedVariables false

def rnC (j : Nat) : Nat := bif Nat.beq j 200 then 200 else 0
theorem rnC_k {k : Nat} (hk : Nat.beq k 200 = false) : rnC k = 0 := by unfold rnC; rw [hk]; rfl
theorem curB_ren (b : List Int) (c : Cur) (r : Nat → Nat) : (curB b c).ren r = curB b c := rfl
/-- The array that is left beside a cursor, under another number. -/
theorem AC.cur {P : Program} {f : FuncId} {args : List AVal} {bs : List Int} {c c' : Cur} {res res0 : AVal} {blk : Blk} (h : AC P f args [(200, some (curB bs c))] res0 [(200, some (curB bs c')), (0, some blk)]) (k : Nat) (hk : Nat.beq k 200 = false)
    (hres : ∀ r : Nat → Nat, r k = 0 → res.ren r = res0) (hbl : ∀ r : Nat → Nat, blk.ren r = blk) : AC P f args [(200, some (curB bs c))] res [(200, some (curB bs c')), (k, some blk)] := by
  have hL : LeL rnC [(200, some (curB bs c')), (0, some blk)] [(200, some (curB bs c')), (k, some blk)] :=
    ⟨⟨curB bs c', rfl, by rw [curB_ren]; exact BLe.rf⟩, ⟨blk, by rw [rnC_k hk]; rfl, by rw [hbl]; exact BLe.rf⟩, trivial⟩
  have hi : injL rnC (keys [(200, some (curB bs c')), (k, some blk)]) = true := by
    have h2 : rnC 200 = 200 := rfl
    simp [injL, keys, rnC_k hk, h2]
    exact .inr rfl
  have hK : LeK rnC [(200, some (curB bs c')), (0, some blk)] [(200, some (curB bs c')), (k, some blk)] (keys [(200, some (curB bs c))]) :=
    ⟨⟨rfl, .inl (by simp [lk]), fun cs _ => ⟨_, rfl⟩⟩, trivial⟩
  refine ⟨h.fn, fun g w cargs m ha => (h.run g w cargs m ha).mono ?_⟩
  rintro e w' ⟨v, g1, rfl, m1, hv, hs⟩
  exact ⟨v, g1.ren rnC, rfl, m1.unren hL hi, VR.unren hL (by rw [hres rnC (rnC_k hk)]; exact hv), hs.trans m m1 (Step.unren hL hK)⟩
theorem aggOwn {k : Nat} (r : Nat → Nat) (h : r k = 0) : (AVal.agg [.own k]).ren r = .agg [.own 0] := by
  show AVal.agg [.own (r k)] = _
  rw [h]
theorem aggRel {k : Nat} {n : Int} (r : Nat → Nat) (h : r k = 0) : (AVal.agg [.c (.int .i64 n), .own k]).ren r = .agg [.c (.int .i64 n), .own 0] := by
  show AVal.agg [.c (.int .i64 n), .own (r k)] = _
  rw [h]
/-- What a slot holds, said in other words. -/
theorem AW_slot {P : Program} {N : Nat} {K : List Nat} {c : Code} {Kn : St → Prop} {Q : Exit → St → Prop} {s : St} {t : Nat} {x y : AVal} (ht : lk s.t t = some x) (h : x = y) (hA : AW P N K c Kn Q ⟨(t, y) :: s.t, s.l⟩) : AW P N K c Kn Q s := fun g a w r =>
  hA g a w ⟨r.size, r.defers, fun k z hk => by
    by_cases e : t = k
    · subst e; rw [lk_cons_self] at hk; cases hk; exact r.tmp _ _ (h ▸ ht)
    · rw [lk_cons_ne e] at hk; exact r.tmp k z hk, r.mem⟩
theorem x_assign_any {P : Program} {N d : Nat} {s : St} {ty : TypeId} {pos : String} {after : Array Edge} {gd : Option (Nat × Bool)} {v : Value} (hN : Nat.blt d N = true) :
    Stp P N ⟨some d, .assign (.const v), ty, pos, after, gd⟩ s ⟨(d, .one .any) :: s.t, s.l⟩ ⟨[], [], [(d, .one .any)], [], []⟩ :=
  ⟨OpOK.pure rfl (blt_lt hN) fun g s a w ht hl r => ⟨a.eval (.const v), by simp [execOp], trivial⟩, ⟨by simp, by simp, by simp⟩, rfl⟩
section results
variable {P : Program} {f : FuncId} {fn : Func} {c : Code} {N : Nat} {args : List AVal} {L L' : Locs}
theorem AC_bodyCC {ty ty2 : TypeId} {r r2 n n2 k k2 : Nat} {cs cs2 : List Cell} {T : Tmps} {Lf : Locs} (hf : P.funcs[f]? = some fn) (hb : fn.body = some c) (hn : (fn.name == "runtime.NumGoroutine") = false) (hN : fn.ntmps = N) (hA : Nat.ble args.length N = true) (hr : fn.results = #[.cell r ty, .cell r2 ty2])
    (ht : lk T r = some (.one (.ptr k 0))) (hl : lkl Lf k = some (.box cs)) (hk : kindT P ty = some (some n)) (hcn : cs.length = n) (ht2 : lk T r2 = some (.one (.ptr k2 0))) (hl2 : lkl Lf k2 = some (.box cs2)) (hk2 : kindT P ty2 = some (some n2)) (hcn2 : cs2.length = n2)
    (hren : (AVal.tup [.agg cs, .agg cs2]).ren (rn []) = .tup [.agg cs, .agg cs2]) (hle : LeS (keys L) (rn []) ⟨T, Lf⟩ ⟨[], L'⟩)
    (h : AW P N (keys L) c (RetS (keys L) T Lf) (RetQ (keys L) T Lf) ⟨args0 args 0, L⟩) : AC P f args L (.tup [.agg cs, .agg cs2]) L' :=
  AC_ofB hf hb hn hN hA hren hle (fun g a w R => by
    obtain ⟨ad, v, h1, h2, h3⟩ := run_results_c R ht hl hk hcn
    obtain ⟨ad2, v2, g1, g2, g3⟩ := run_results_c R ht2 hl2 hk2 hcn2
    refine ⟨.tuple #[v, v2], ?_, ⟨[v, v2], rfl, h3, g3, trivial⟩⟩
    simp only [Array.getD_eq_getD_getElem?] at h1 g1
    simp [results, hr, h1, h2, g1, g2]) h
end results
theorem rem_wf {m n : Int} (h0 : 0 ≤ m) (h1 : m ≤ 4294967295) (hn : 0 < n) : (Lit.int .i64 (m.tmod n)).wf = true := by
  rw [Int.tmod_eq_emod_of_nonneg h0]
  have h2 := Int.emod_nonneg m (show n ≠ 0 by omega)
  have h3 : m % n ≤ m := by
    by_cases h : m < n
    · rw [Int.emod_eq_of_lt h0 h]; exact Int.le_refl _
    · have := Int.emod_lt_of_pos m hn; omega
  exact WalkArith.wf_i64 (by omega)
theorem mul_in {m n : Int} (h : 0 ≤ m ∧ m < 65536) (h2 : 0 ≤ n ∧ n < 65536) : -9223372036854775808 ≤ m * n ∧ m * n ≤ 9223372036854775807 := by
  have a1 := Int.mul_nonneg h.1 h2.1
  have a2 : m * n ≤ 65536 * 65536 := Int.mul_le_mul (by omega) (by omega) h2.1 (by decide)
  omega
theorem getD_row {xs : List (List Val)} {k : Nat} (h : k < xs.length) : xs[k] = xs.getD k [] := by simp [List.getD, h]
theorem getD_txt {xs : List ByteArray} {k : Nat} (h : k < xs.length) : xs[k] = xs.getD k ⟨#[]⟩ := by simp [List.getD, h]
theorem pow_step {k : Nat} (h : k < 6) : IntKind.i64.wrap ((256 : Int) ^ k * 256) = (256 : Int) ^ (k + 1) := by
  have := pow_256 (m := k + 1) (by omega)
  rw [← Int.pow_succ]
  exact IntWalk.i64_in _ (by omega)
end Go.Proofs.YtibhoanjglfaoaaGreat

/- Numbers copied into a part of an own array; nil ars an array that is taken; numbers in memory are not too great. -/
namespace Go.Proofs.YtibhoanjglfaoaaGreat
open Go.RowKit
set_option linter.unusedVariables false
set_option linter.unusedSimpArgs false

section ops
variable {P : Program} {N : Nat} {s : St} {d : Nat} {ty : TypeId} {pos : String} {after : Array Edge} {gd : Option (Nat × Bool)}
end ops
/-- A contract that takes an array takes nil, too. -/
theorem AT.nil {P : Program} {f : FuncId} {rest : List AVal} {α β : Type} {T U : TypeId} {e : Enc α} {e' : Enc β} {ys : List β} {d' : Bool}
    (h : AT P f (.one (.own 0) :: rest) [(0, some (.arr T e [] true))] (.one (.own 1)) [(1, some (.arr U e' ys d'))]) (hrest : rest.flatMap AVal.ids1 = []) (c : Nat) :
    AC P f (.one (.c (.slice none 0 0)) :: rest) [] (.one (.own c)) [(c, some (.arr U e' ys d'))] := by
  refine ⟨h.fn, fun g w cargs m ha => ?_⟩
  obtain ⟨g', q1, q2, q3, q4, q5⟩ := nil_new m (k := 0) rfl (by simp [Locs.ids]) α T e
  have ha' : All2 (VR1 g' [(0, some (.arr (α := α) T e [] true))] w) cargs.toList (.one (.own 0) :: rest) := by
    generalize cargs.toList = vs at ha
    cases vs with
    | nil => exact ha
    | cons v vs =>
      refine ⟨fun β U e2 ys dd hc => by rw [q1]; exact ha.1.1, ha.2.mono fun a b hb hr => VR1.step (fun _ _ => rfl) q4 (Nat.le_refl _) (fun k hk => ?_) hr⟩
      have : k ∈ rest.flatMap AVal.ids1 := List.mem_flatMap.2 ⟨b, hb, hk⟩
      rw [hrest] at this; cases this
  refine (h.run g' w cargs q2 ha').mono ?_
  rintro r w' ⟨v, g1, rfl, m1, hv, hs⟩
  have hle : LeL (fun _ => 1) [(1, some (.arr U e' ys d'))] [(c, some (.arr U e' ys d'))] := ⟨⟨_, rfl, BLe.rf⟩, trivial⟩
  have T1 := ((q3 []).trans m q2 hs).trans m m1 (Step.unren hle trivial)
  exact ⟨v, g1.ren _, rfl, m1.unren hle (by simp [injL, keys]), VR.unren (x := .one (.own c)) hle hv, T1⟩
end Go.Proofs.YtibhoanjglfaoaaGreat

/- Smaller numbers of two; pointers that are not nil; bytes in memory are bytes. -/
namespace Go.Proofs.YtibhoanjglfaoaaGreat
open Go.RowKit
set_option linter.unusedVariables false
section ops
variable {P : Program} {N : Nat} {s : St} {d : Nat} {ty : TypeId} {pos : String} {after : Array Edge} {gd : Option (Nat × Bool)}
theorem x_nilc {x : Operand} {k off : Nat} {cs : List Cell} (hN : Nat.blt d N = true) (h : evo s.t x = some (.one (.ptr k off))) (hk : lkl s.l k = some (.box cs)) :
    Stp P N ⟨some d, .nilCheck x, ty, pos, after, gd⟩ s ⟨(d, .one (.ptr k off)) :: s.t, s.l⟩ ⟨rdo x (.one (.ptr k off)), [(k, .box cs)], [(d, .one (.ptr k off))], [], []⟩ :=
  Stp.pure rfl hN (rdo_of h) (by simpa using hk) fun g s' a w ht hl' r => by
    have hk' : lkl s'.l k = some (.box cs) := hl' (k, .box cs) (by simp)
    have hv : a.eval x = .pointer (some ⟨g.ρ k, off, none⟩) := (eval_ok r (evs_of h) ht : CellR g s'.l w _ (.ptr k off)) cs hk'
    exact ⟨_, by simp only [execOp, hv, Sem.run_pure], fun cs' hc => rfl⟩
end ops
theorem byte_wf {x : Int} (h : (Lit.int .u8 x).wf = true) : 0 ≤ x ∧ x ≤ 255 := by
  simp only [Lit.wf, Bool.and_eq_true, decide_eq_true_eq] at h
  exact h
theorem SliceRep.bytes {w : World} {a : Option Addr} {n cap : Nat} {xs : List Int} {bs : List Nat} (h : SliceRep (intE .u8) w a n cap xs bs) : ∀ x ∈ xs, 0 ≤ x ∧ x ≤ 255 := fun x hx => by
  obtain ⟨j, hj, rfl⟩ := List.getElem_of_mem hx
  obtain ⟨gb, o, cs, b, _, f1, _⟩ := h.get hj
  exact byte_wf f1.2.1
end Go.Proofs.YtibhoanjglfaoaaGreat

/- Draws (printed by walk.py) -/
namespace Go.Proofs.YtibhoanjglfaoaaGreat
open Go.RowKit
set_option linter.unusedVariables false
set_option linter.unusedSimpArgs false
set_option maxRecDepth 100000

set_option maxHeartbeats 4000000 in
theorem new_c (b : List Int) (hb : b.length ≤ 1048576) : AC Tryz.prog 62 [.one (.sl (intE .u8) b)] [] (.one (.ptr 200 0)) [(200, some (curB b (dNew b)))] := by
  refine AC_body1 Tryz.func62 rfl rfl Tryz.ntmps62 rfl Tryz.results62 ?_
  refine AW_seq ?_
  refine AW_region ?_
  refine AL_p (x_assign_any rfl) ?_
  refine AL_nil ?_
  refine AW_seq ?_
  refine AW_region ?_
  refine AL_p (x_move rfl rfl) ?_
  refine AL_p (x_len (E := 5) (n := 1) rfl rfl (by kernel_rfl)) ?_
  refine AL_p (x_add rfl rfl rfl (r := w64 (391785 + (b.length : Int))) rfl) ?_
  refine AL_p (x_assign rfl rfl) ?_
  refine AL_nil ?_
  refine AW_seq ?_
  refine AW_seq ?_
  refine AW_region ?_
  refine AL_p (x_assign rfl rfl) ?_
  refine AL_nil ?_
  refine AW_block ?_
  refine AW_loop2 (ι := {q : Nat // q ≤ min b.length 4000}) (fun p => [(3, .one (.c (.int .i64 (hashTo b (p.1))))), (4, .one (.c (.int .i64 (((p.1) : Int)))))]) (fun p => []) [0] [] (fun p => 4000 - (p.1)) ⟨0, by omega⟩ (rn []) ?_ ?_
  exact ⟨by (repeat refine ⟨⟨_, rfl, by first | exact VLe.rf | exact vle_int (by dsimp only; omega)⟩, ?_⟩); exact trivial, by (repeat refine ⟨⟨_, rfl, by first | exact BLe.rf | exact BLe.box AllC.rf | exact BLe.arr (by exact rfl)⟩, ?_⟩); exact trivial, by repeat (first | exact trivial | refine ⟨⟨rfl, by first | (left; intro h; cases h) | (right; rfl), by first | exact (fun _ h => ⟨_, h⟩) | exact (fun _ _ => ⟨_, rfl⟩)⟩, ?_⟩), rfl⟩
  rintro ⟨k, hinv⟩
  dsimp only
  have hk := hinv
  refine AW_seq ?_
  refine AW_seq ?_
  refine AW_region ?_
  refine AL_p (x_move rfl rfl) ?_
  refine AL_p (x_move rfl rfl) ?_
  refine AL_p (x_len (E := 5) (n := 1) rfl rfl (by kernel_rfl)) ?_
  refine AL_b (x_lss rfl rfl rfl) (fun b11 h11 => ?_)
  refine AL_p (x_move rfl rfl) ?_
  cases b11
  · try simp only [tdy] at h11
    obtain rfl : k = min b.length 4000 := by omega
    refine AL_o rfl rfl rfl rfl ?_
    refine AL_o rfl rfl rfl rfl ?_
    refine AL_p (x_pickF rfl rfl rfl) ?_
    refine AL_nil ?_
    refine AW_condF rfl ?_
    refine AW_exit (BQ_hit ?_)
    refine AW_seq ?_
    refine AW_region ?_
    refine AL_p (x_move rfl rfl) ?_
    refine AL_p (x_move rfl rfl) ?_
    refine AL_p (x_build (zs := [.slice none 0 0, .int .i64 0, .int .i64 0]) (places := [(0, 1), (1, 1), (2, 1)]) rfl (by kernel_rfl) rfl rfl rfl rfl rfl) ?_
    refine AL_p (x_box 200 rfl rfl rfl rfl rfl rfl rfl) ?_
    refine AL_p (x_assign rfl rfl) ?_
    refine AL_nil ?_
    refine AW_ret ?_
    exact ⟨rn [], ⟨⟨⟨_, rfl, VLe.rf⟩, trivial⟩, ⟨⟨_, rfl, ble_eq rfl⟩, trivial⟩, trivial, rfl⟩⟩
  try simp only [tdy] at h11
  refine AL_g rfl rfl (x_move rfl rfl) ?_
  refine AL_gb rfl rfl (x_lss rfl rfl rfl) (fun b14 h14 => ?_)
  refine AL_p (x_pickT rfl rfl rfl) ?_
  refine AL_nil ?_
  cases b14
  · try simp only [tdy] at h14
    obtain rfl : k = min b.length 4000 := by omega
    refine AW_condF rfl ?_
    refine AW_exit (BQ_hit ?_)
    refine AW_seq ?_
    refine AW_region ?_
    refine AL_p (x_move rfl rfl) ?_
    refine AL_p (x_move rfl rfl) ?_
    refine AL_p (x_build (zs := [.slice none 0 0, .int .i64 0, .int .i64 0]) (places := [(0, 1), (1, 1), (2, 1)]) rfl (by kernel_rfl) rfl rfl rfl rfl rfl) ?_
    refine AL_p (x_box 200 rfl rfl rfl rfl rfl rfl rfl) ?_
    refine AL_p (x_assign rfl rfl) ?_
    refine AL_nil ?_
    refine AW_ret ?_
    exact ⟨rn [], ⟨⟨⟨_, rfl, VLe.rf⟩, trivial⟩, ⟨⟨_, rfl, ble_eq rfl⟩, trivial⟩, trivial, rfl⟩⟩
  try simp only [tdy] at h14
  refine AW_condT rfl ?_
  refine AW_skip ?_
  refine AW_seq ?_
  refine AW_block ?_
  refine AW_region ?_
  refine AL_p (x_move rfl rfl) ?_
  refine AL_p (x_mul rfl rfl rfl (r := w64 (hashTo b k * 131)) rfl) ?_
  refine AL_p (x_move rfl rfl) ?_
  refine AL_p (x_move rfl rfl) ?_
  refine AL_p (x_index (E := 5) (n := 1) rfl rfl rfl (by kernel_rfl) rfl (k := k) rfl (by omega)) ?_
  refine AL_p (x_eload1 rfl rfl (by kernel_rfl) rfl) ?_
  refine AL_p (x_conv (k' := .i64) rfl rfl (by kernel_rfl) (r := w64 (b.getD k 0)) (congrArg w64 (getD_int (by omega)))) ?_
  refine AL_p (x_add rfl rfl rfl (r := w64 (w64 (hashTo b k * 131) + w64 (b.getD k 0))) rfl) ?_
  refine AL_p (x_add rfl rfl rfl (r := w64 (w64 (w64 (hashTo b k * 131) + w64 (b.getD k 0)) + 7)) rfl) ?_
  refine AL_p (x_and rfl rfl rfl ) ?_
  refine AL_p (x_assign rfl rfl) ?_
  refine AL_nil ?_
  refine AW_region ?_
  refine AL_p (x_move rfl rfl) ?_
  refine AL_p (x_add rfl rfl rfl (IntWalk.i64_in _ (by omega))) ?_
  refine AL_p (x_assign rfl rfl) ?_
  refine AL_nil ?_
  refine ⟨⟨k + 1, by omega⟩, rn [], ?_, by dsimp only; omega⟩
  exact ⟨by (repeat refine ⟨⟨_, rfl, by first | exact VLe.rf | exact vle_int (by dsimp only; omega)⟩, ?_⟩); exact trivial, by (repeat refine ⟨⟨_, rfl, by first | exact BLe.rf | exact BLe.box AllC.rf | exact BLe.arr (by exact rfl)⟩, ?_⟩); exact trivial, by repeat (first | exact trivial | refine ⟨⟨rfl, by first | (left; intro h; cases h) | (right; rfl), by first | exact (fun _ h => ⟨_, h⟩) | exact (fun _ _ => ⟨_, rfl⟩)⟩, ?_⟩), rfl⟩

set_option maxHeartbeats 4000000 in
theorem byte_c (b : List Int) (c : Cur) (hb : b.length ≤ 1048576) : AC Tryz.prog 110 [.one (.ptr 200 0)] [(200, some (curB b c))] (.one (.c (.int .i64 ((dByte b c).1)))) [(200, some (curB b (dByte b c).2))] := by
  refine AC_body1 Tryz.func110 rfl rfl Tryz.ntmps110 rfl Tryz.results110 ?_
  refine AW_seq ?_
  refine AW_region ?_
  refine AL_p (x_assign rfl rfl) ?_
  refine AL_nil ?_
  refine AW_seq ?_
  refine AW_region ?_
  refine AL_p (x_move rfl rfl) ?_
  refine AL_p (x_move rfl rfl) ?_
  refine AL_p (x_nilc rfl rfl rfl) ?_
  refine AL_p (x_field (off := 2) (o' := 2) rfl rfl rfl (by kernel_rfl) rfl) ?_
  refine AL_p (x_load1 rfl rfl rfl (by kernel_rfl) rfl) ?_
  refine AL_p (x_mul rfl rfl rfl (r := w64 (c.h * 6364136223846793005)) rfl) ?_
  refine AL_p (x_add rfl rfl rfl (r := nextH c.h) rfl) ?_
  refine AL_p (x_nilc rfl rfl rfl) ?_
  refine AL_p (x_field (off := 2) (o' := 2) rfl rfl rfl (by kernel_rfl) rfl) ?_
  refine AL_p (x_store (n := 1) rfl rfl rfl rfl (by kernel_rfl) rfl rfl rfl) ?_
  refine AL_nil ?_
  refine AW_seq ?_
  refine AW_draw rfl ?_
  refine AL_p (x_move rfl rfl) ?_
  refine AL_p (x_nilc rfl rfl rfl) ?_
  refine AL_p (x_field (off := 2) (o' := 2) rfl rfl rfl (by kernel_rfl) rfl) ?_
  refine AL_p (x_load1 rfl rfl rfl (by kernel_rfl) rfl) ?_
  refine AL_p (x_shr rfl rfl rfl (r := (nextH c.h).fdiv (2 ^ 33)) (by decide) rfl (shr_33 _)) ?_
  refine AL_p (x_move rfl rfl) ?_
  refine AL_p (x_nilc rfl rfl rfl) ?_
  refine AL_p (x_field (off := 2) (o' := 2) rfl rfl rfl (by kernel_rfl) rfl) ?_
  refine AL_p (x_load1 rfl rfl rfl (by kernel_rfl) rfl) ?_
  refine AL_p (x_shr rfl rfl rfl (r := (nextH c.h).fdiv (2 ^ 45)) (by decide) rfl (shr_45 _)) ?_
  refine AL_p (x_xor rfl rfl rfl ) ?_
  refine AL_p (x_and rfl rfl rfl ) ?_
  refine AL_p (x_assign rfl rfl) ?_
  refine AL_nild (by kernel_rfl) ?_
  refine AW_seq ?_
  refine AW_seq ?_
  refine AW_draw rfl ?_
  refine AL_p (x_move rfl rfl) ?_
  refine AL_p (x_nilc rfl rfl rfl) ?_
  refine AL_p (x_field (off := 1) (o' := 1) rfl rfl rfl (by kernel_rfl) rfl) ?_
  refine AL_p (x_load1 rfl rfl rfl (by kernel_rfl) rfl) ?_
  refine AL_p (x_move rfl rfl) ?_
  refine AL_p (x_nilc rfl rfl rfl) ?_
  refine AL_p (x_field (off := 0) (o' := 0) rfl rfl rfl (by kernel_rfl) rfl) ?_
  refine AL_p (x_load1 rfl rfl rfl (by kernel_rfl) rfl) ?_
  refine AL_p (x_len (E := 5) (n := 1) rfl rfl (by kernel_rfl)) ?_
  refine AL_b (x_lss rfl rfl rfl) (fun b34 h34 => ?_)
  refine AL_nild (by kernel_rfl) ?_
  cases b34
  · try simp only [tdy] at h34
    have hno := dByte_no (b := b) (c := c) (by omega)
    refine AW_condF rfl ?_
    refine AW_skip ?_
    refine AW_seq ?_
    refine AW_region ?_
    refine AL_p (x_move rfl rfl) ?_
    refine AL_p (x_assign rfl rfl) ?_
    refine AL_nil ?_
    refine AW_ret ?_
    exact ⟨rn [], ⟨⟨⟨_, rfl, vle_int (by rw [hno]; first | done | rfl)⟩, trivial⟩, ⟨⟨_, rfl, by first | exact BLe.rf | exact ble_eq (by rw [hno]; first | done | rfl)⟩, trivial⟩, by repeat (first | exact trivial | refine ⟨⟨rfl, by first | (left; intro h; cases h) | (right; rfl), by first | exact (fun _ h => ⟨_, h⟩) | exact (fun _ _ => ⟨_, rfl⟩)⟩, ?_⟩), rfl⟩⟩
  try simp only [tdy] at h34
  have hno := dByte_yes (b := b) (c := c) (by omega)
  refine AW_condT rfl ?_
  refine AW_seq ?_
  refine AW_draw rfl ?_
  refine AL_p (x_move rfl rfl) ?_
  refine AL_p (x_move rfl rfl) ?_
  refine AL_p (x_nilc rfl rfl rfl) ?_
  refine AL_p (x_field (off := 0) (o' := 0) rfl rfl rfl (by kernel_rfl) rfl) ?_
  refine AL_p (x_load1 rfl rfl rfl (by kernel_rfl) rfl) ?_
  refine AL_p (x_move rfl rfl) ?_
  refine AL_p (x_nilc rfl rfl rfl) ?_
  refine AL_p (x_field (off := 1) (o' := 1) rfl rfl rfl (by kernel_rfl) rfl) ?_
  refine AL_p (x_load1 rfl rfl rfl (by kernel_rfl) rfl) ?_
  refine AL_p (x_index (E := 5) (n := 1) rfl rfl rfl (by kernel_rfl) rfl (k := c.i) rfl (by omega)) ?_
  refine AL_p (x_eload1 rfl rfl (by kernel_rfl) rfl) ?_
  refine AL_p (x_conv (k' := .i64) rfl rfl (by kernel_rfl) (r := w64 (b.getD c.i 0)) (congrArg w64 (getD_int (by omega)))) ?_
  refine AL_p (x_add rfl rfl rfl (r := w64 (mixH (nextH c.h) + w64 (b.getD c.i 0))) rfl) ?_
  refine AL_p (x_and rfl rfl rfl ) ?_
  refine AL_p (x_assign rfl rfl) ?_
  refine AL_nild (by kernel_rfl) ?_
  refine AW_region ?_
  refine AL_p (x_move rfl rfl) ?_
  refine AL_p (x_move rfl rfl) ?_
  refine AL_p (x_nilc rfl rfl rfl) ?_
  refine AL_p (x_field (off := 1) (o' := 1) rfl rfl rfl (by kernel_rfl) rfl) ?_
  refine AL_p (x_load1 rfl rfl rfl (by kernel_rfl) rfl) ?_
  refine AL_p (x_add rfl rfl rfl (IntWalk.i64_in _ (by omega))) ?_
  refine AL_p (x_nilc rfl rfl rfl) ?_
  refine AL_p (x_field (off := 1) (o' := 1) rfl rfl rfl (by kernel_rfl) rfl) ?_
  refine AL_p (x_store (n := 1) rfl rfl rfl rfl (by kernel_rfl) rfl rfl rfl) ?_
  refine AL_nil ?_
  refine AW_seq ?_
  refine AW_region ?_
  refine AL_p (x_move rfl rfl) ?_
  refine AL_p (x_assign rfl rfl) ?_
  refine AL_nil ?_
  refine AW_ret ?_
  exact ⟨rn [], ⟨⟨⟨_, rfl, vle_int (by rw [hno]; first | done | rfl)⟩, trivial⟩, ⟨⟨_, rfl, by first | exact BLe.rf | exact ble_eq (by rw [hno]; first | done | rfl)⟩, trivial⟩, by repeat (first | exact trivial | refine ⟨⟨rfl, by first | (left; intro h; cases h) | (right; rfl), by first | exact (fun _ h => ⟨_, h⟩) | exact (fun _ _ => ⟨_, rfl⟩)⟩, ?_⟩), rfl⟩⟩

set_option maxHeartbeats 4000000 in
theorem below_c (b : List Int) (c : Cur) (hb : b.length ≤ 1048576) (n : Int) : AC Tryz.prog 66 [.one (.ptr 200 0), .one (.c (.int .i64 n))] [(200, some (curB b c))] (.one (.c (.int .i64 ((dBelow b c n).1)))) [(200, some (curB b (dBelow b c n).2))] := by
  refine AC_body1 Tryz.func66 rfl rfl Tryz.ntmps66 rfl Tryz.results66 ?_
  refine AW_seq ?_
  refine AW_region ?_
  refine AL_p (x_assign rfl rfl) ?_
  refine AL_nil ?_
  refine AW_seq ?_
  refine AW_seq ?_
  refine AW_region ?_
  refine AL_p (x_move rfl rfl) ?_
  refine AL_b (x_leq rfl rfl rfl) (fun b10 h10 => ?_)
  refine AL_nil ?_
  cases b10
  rotate_left
  · try simp only [tdy] at h10
    have hno := dBelow_0 (b := b) (c := c) (n := n) (by omega)
    refine AW_condT rfl ?_
    refine AW_seq ?_
    refine AW_region ?_
    refine AL_p (x_assign rfl rfl) ?_
    refine AL_nil ?_
    refine AW_ret ?_
    exact ⟨rn [], ⟨⟨⟨_, rfl, vle_int (by rw [hno]; first | done | rfl)⟩, trivial⟩, ⟨⟨_, rfl, by first | exact BLe.rf | exact ble_eq (by rw [hno]; first | done | rfl)⟩, trivial⟩, by repeat (first | exact trivial | refine ⟨⟨rfl, by first | (left; intro h; cases h) | (right; rfl), by first | exact (fun _ h => ⟨_, h⟩) | exact (fun _ _ => ⟨_, rfl⟩)⟩, ?_⟩), rfl⟩⟩
  try simp only [tdy] at h10
  refine AW_condF rfl ?_
  refine AW_skip ?_
  refine AW_seq ?_
  refine AW_seq ?_
  refine AW_region ?_
  refine AL_p (x_move rfl rfl) ?_
  refine AL_b (x_leq rfl rfl rfl) (fun b12 h12 => ?_)
  refine AL_nil ?_
  cases b12
  rotate_left
  · try simp only [tdy] at h12
    have hno := dBelow_1 (b := b) (c := c) (n := n) (by omega) (by omega)
    have hd1 := dByte_in b c
    refine AW_condT rfl ?_
    refine AW_seq ?_
    refine AW_region ?_
    refine AL_p (x_move rfl rfl) ?_
    refine AL_p (x_call (ks := []) (L := [(200, some _)]) (L' := [(200, some _)]) rfl rfl rfl (byte_c b c hb) rfl AllV.rf (caught_of rfl) rfl rfl rfl ⟨rfl, trivial⟩ rfl) ?_
    refine AL_p (x_move rfl rfl) ?_
    refine AL_p (x_rem rfl rfl rfl (by omega) rfl (rem_wf hd1.1 (by omega) (by omega))) ?_
    refine AL_p (x_assign rfl rfl) ?_
    refine AL_nil ?_
    refine AW_ret ?_
    exact ⟨rn [], ⟨⟨⟨_, rfl, vle_int (by rw [hno]; first | done | rfl)⟩, trivial⟩, ⟨⟨_, rfl, by first | exact BLe.rf | exact ble_eq (by rw [hno]; first | done | rfl)⟩, trivial⟩, by repeat (first | exact trivial | refine ⟨⟨rfl, by first | (left; intro h; cases h) | (right; rfl), by first | exact (fun _ h => ⟨_, h⟩) | exact (fun _ _ => ⟨_, rfl⟩)⟩, ?_⟩), rfl⟩⟩
  try simp only [tdy] at h12
  have hno := dBelow_2 (b := b) (c := c) (n := n) (by omega) (by omega)
  have hd2 := dFour_in b c
  have g1 := dByte_in b c
  have g2 := dByte_in b (dByte b c).2
  have g3 := dByte_in b (dByte b (dByte b c).2).2
  have g4 := dByte_in b (dByte b (dByte b (dByte b c).2).2).2
  refine AW_condF rfl ?_
  refine AW_skip ?_
  refine AW_seq ?_
  refine AW_region ?_
  refine AL_p (x_move rfl rfl) ?_
  refine AL_p (x_call (ks := []) (L := [(200, some _)]) (L' := [(200, some _)]) rfl rfl rfl (byte_c b c hb) rfl AllV.rf (caught_of rfl) rfl rfl rfl ⟨rfl, trivial⟩ rfl) ?_
  refine AL_p (x_assign rfl rfl) ?_
  refine AL_nil ?_
  refine AW_seq ?_
  refine AW_region ?_
  refine AL_p (x_move rfl rfl) ?_
  refine AL_p (x_call (ks := []) (L := [(200, some _)]) (L' := [(200, some _)]) rfl rfl rfl (byte_c b (dByte b c).2 hb) rfl AllV.rf (caught_of rfl) rfl rfl rfl ⟨rfl, trivial⟩ rfl) ?_
  refine AL_p (x_assign rfl rfl) ?_
  refine AL_nil ?_
  refine AW_seq ?_
  refine AW_region ?_
  refine AL_p (x_move rfl rfl) ?_
  refine AL_p (x_call (ks := []) (L := [(200, some _)]) (L' := [(200, some _)]) rfl rfl rfl (byte_c b (dByte b (dByte b c).2).2 hb) rfl AllV.rf (caught_of rfl) rfl rfl rfl ⟨rfl, trivial⟩ rfl) ?_
  refine AL_p (x_assign rfl rfl) ?_
  refine AL_nil ?_
  refine AW_seq ?_
  refine AW_region ?_
  refine AL_p (x_move rfl rfl) ?_
  refine AL_p (x_call (ks := []) (L := [(200, some _)]) (L' := [(200, some _)]) rfl rfl rfl (byte_c b (dByte b (dByte b (dByte b c).2).2).2 hb) rfl AllV.rf (caught_of rfl) rfl rfl rfl ⟨rfl, trivial⟩ rfl) ?_
  refine AL_p (x_assign rfl rfl) ?_
  refine AL_nil ?_
  refine AW_seq ?_
  refine AW_region ?_
  refine AL_p (x_move rfl rfl) ?_
  refine AL_p (x_mul rfl rfl rfl (IntWalk.i64_in _ (by omega))) ?_
  refine AL_p (x_move rfl rfl) ?_
  refine AL_p (x_mul rfl rfl rfl (IntWalk.i64_in _ (by omega))) ?_
  refine AL_p (x_add rfl rfl rfl (IntWalk.i64_in _ (by omega))) ?_
  refine AL_p (x_move rfl rfl) ?_
  refine AL_p (x_mul rfl rfl rfl (IntWalk.i64_in _ (by omega))) ?_
  refine AL_p (x_add rfl rfl rfl (IntWalk.i64_in _ (by omega))) ?_
  refine AL_p (x_move rfl rfl) ?_
  refine AL_p (x_add rfl rfl rfl (IntWalk.i64_in _ (by omega))) ?_
  refine AL_p (x_move rfl rfl) ?_
  refine AL_p (x_rem rfl rfl rfl (by omega) rfl (rem_wf (m := (dFour b c).1) hd2.1 (by omega) (by omega))) ?_
  refine AL_p (x_assign rfl rfl) ?_
  refine AL_nil ?_
  refine AW_ret ?_
  exact ⟨rn [], ⟨⟨⟨_, rfl, vle_int (by rw [hno]; first | done | rfl)⟩, trivial⟩, ⟨⟨_, rfl, by first | exact BLe.rf | exact ble_eq (by rw [hno]; first | done | rfl)⟩, trivial⟩, by repeat (first | exact trivial | refine ⟨⟨rfl, by first | (left; intro h; cases h) | (right; rfl), by first | exact (fun _ h => ⟨_, h⟩) | exact (fun _ _ => ⟨_, rfl⟩)⟩, ?_⟩), rfl⟩⟩

set_option maxHeartbeats 4000000 in
theorem pow_c (n : Int) (h0 : 0 ≤ n) (h1 : n ≤ 6) : AC Tryz.prog 161 [.one (.c (.int .i64 n))] [] (.one (.c (.int .i64 (256 ^ n.toNat)))) [] := by
  refine AC_body1 Tryz.func161 rfl rfl Tryz.ntmps161 rfl Tryz.results161 ?_
  refine AW_seq ?_
  refine AW_region ?_
  refine AL_p (x_assign rfl rfl) ?_
  refine AL_nil ?_
  refine AW_seq ?_
  refine AW_region ?_
  refine AL_p (x_assign rfl rfl) ?_
  refine AL_nil ?_
  refine AW_seq ?_
  refine AW_seq ?_
  refine AW_region ?_
  refine AL_p (x_assign rfl rfl) ?_
  refine AL_nil ?_
  refine AW_block ?_
  refine AW_loop2 (ι := {q : Nat // (q : Int) ≤ n}) (fun p => [(3, .one (.c (.int .i64 (256 ^ (p.1))))), (4, .one (.c (.int .i64 (((p.1) : Int)))))]) (fun p => []) [0] [] (fun p => 7 - (p.1)) ⟨0, by omega⟩ (rn []) ?_ ?_
  exact ⟨by (repeat refine ⟨⟨_, rfl, by first | exact VLe.rf | exact vle_int (by dsimp only; omega)⟩, ?_⟩); exact trivial, by (repeat refine ⟨⟨_, rfl, by first | exact BLe.rf | exact BLe.box AllC.rf | exact BLe.arr (by exact rfl)⟩, ?_⟩); exact trivial, by repeat (first | exact trivial | refine ⟨⟨rfl, by first | (left; intro h; cases h) | (right; rfl), by first | exact (fun _ h => ⟨_, h⟩) | exact (fun _ _ => ⟨_, rfl⟩)⟩, ?_⟩), rfl⟩
  rintro ⟨k, hinv⟩
  dsimp only
  have hk := hinv
  refine AW_seq ?_
  refine AW_seq ?_
  refine AW_region ?_
  refine AL_p (x_move rfl rfl) ?_
  refine AL_p (x_move rfl rfl) ?_
  refine AL_b (x_lss rfl rfl rfl) (fun b7 h7 => ?_)
  refine AL_nil ?_
  cases b7
  · try simp only [tdy] at h7
    obtain rfl : k = n.toNat := by omega
    refine AW_condF rfl ?_
    refine AW_exit (BQ_hit ?_)
    refine AW_seq ?_
    refine AW_region ?_
    refine AL_p (x_move rfl rfl) ?_
    refine AL_p (x_assign rfl rfl) ?_
    refine AL_nil ?_
    refine AW_ret ?_
    exact ⟨rn [], ⟨⟨⟨_, rfl, vle_int (rfl)⟩, trivial⟩, trivial, trivial, rfl⟩⟩
  try simp only [tdy] at h7
  refine AW_condT rfl ?_
  refine AW_skip ?_
  refine AW_seq ?_
  refine AW_block ?_
  refine AW_region ?_
  refine AL_p (x_move rfl rfl) ?_
  refine AL_p (x_mul rfl rfl rfl (pow_step (by omega))) ?_
  refine AL_p (x_assign rfl rfl) ?_
  refine AL_nil ?_
  refine AW_region ?_
  refine AL_p (x_move rfl rfl) ?_
  refine AL_p (x_add rfl rfl rfl (IntWalk.i64_in _ (by omega))) ?_
  refine AL_p (x_assign rfl rfl) ?_
  refine AL_nil ?_
  refine ⟨⟨k + 1, by omega⟩, rn [], ?_, by dsimp only; omega⟩
  exact ⟨by (repeat refine ⟨⟨_, rfl, by first | exact VLe.rf | exact vle_int (by dsimp only; omega)⟩, ?_⟩); exact trivial, by (repeat refine ⟨⟨_, rfl, by first | exact BLe.rf | exact BLe.box AllC.rf | exact BLe.arr (by exact rfl)⟩, ?_⟩); exact trivial, by repeat (first | exact trivial | refine ⟨⟨rfl, by first | (left; intro h; cases h) | (right; rfl), by first | exact (fun _ h => ⟨_, h⟩) | exact (fun _ _ => ⟨_, rfl⟩)⟩, ?_⟩), rfl⟩

set_option maxHeartbeats 4000000 in
theorem raw_c (b : List Int) (c : Cur) (hb : b.length ≤ 1048576) : AC Tryz.prog 135 [.one (.ptr 200 0)] [(200, some (curB b c))] (.one (.c (.int .i64 ((dRaw b c).1)))) [(200, some (curB b (dRaw b c).2))] := by
  refine AC_body1 Tryz.func135 rfl rfl Tryz.ntmps135 rfl Tryz.results135 ?_
  refine AW_seq ?_
  refine AW_region ?_
  refine AL_p (x_assign rfl rfl) ?_
  refine AL_nil ?_
  refine AW_seq ?_
  refine AW_region ?_
  refine AL_p (x_move rfl rfl) ?_
  refine AL_p (x_call (ks := []) (L := [(200, some _)]) (L' := [(200, some _)]) rfl rfl rfl (below_c b c hb 12) rfl AllV.rf (caught_of rfl) rfl rfl rfl ⟨rfl, trivial⟩ rfl) ?_
  refine AL_p (x_assign rfl rfl) ?_
  refine AL_nil ?_
  refine AW_seq ?_
  refine AW_seq ?_
  refine AW_region ?_
  refine AL_p (x_move rfl rfl) ?_
  refine AL_b (x_lss rfl rfl rfl) (fun b7 h7 => ?_)
  refine AL_nil ?_
  cases b7
  rotate_left
  · try simp only [tdy] at h7
    have hno : dRaw b c = _ := if_pos (by omega)
    refine AW_condT rfl ?_
    refine AW_seq ?_
    refine AW_region ?_
    refine AL_p (x_move rfl rfl) ?_
    refine AL_p (x_call (ks := []) (L := [(200, some _)]) (L' := [(200, some _)]) rfl rfl rfl (below_c b (dBelow b c 12).2 hb 12) rfl AllV.rf (caught_of rfl) rfl rfl rfl ⟨rfl, trivial⟩ rfl) ?_
    refine AL_p (x_assign rfl rfl) ?_
    refine AL_nil ?_
    refine AW_ret ?_
    exact ⟨rn [], ⟨⟨⟨_, rfl, vle_int (by rw [hno]; first | done | rfl)⟩, trivial⟩, ⟨⟨_, rfl, by first | exact BLe.rf | exact ble_eq (by rw [hno]; first | done | rfl)⟩, trivial⟩, by repeat (first | exact trivial | refine ⟨⟨rfl, by first | (left; intro h; cases h) | (right; rfl), by first | exact (fun _ h => ⟨_, h⟩) | exact (fun _ _ => ⟨_, rfl⟩)⟩, ?_⟩), rfl⟩⟩
  try simp only [tdy] at h7
  refine AW_condF rfl ?_
  refine AW_skip ?_
  refine AW_seq ?_
  refine AW_seq ?_
  refine AW_region ?_
  refine AL_p (x_move rfl rfl) ?_
  refine AL_b (x_eql rfl rfl rfl) (fun b11 h11 => ?_)
  refine AL_nil ?_
  cases b11
  rotate_left
  · try simp only [tdy] at h11
    have hno : dRaw b c = _ := (if_neg (by omega)).trans (if_pos (by omega))
    refine AW_condT rfl ?_
    refine AW_seq ?_
    refine AW_region ?_
    refine AL_p (x_move rfl rfl) ?_
    refine AL_p (x_call (ks := []) (L := [(200, some _)]) (L' := [(200, some _)]) rfl rfl rfl (below_c b (dBelow b c 12).2 hb 256) rfl AllV.rf (caught_of rfl) rfl rfl rfl ⟨rfl, trivial⟩ rfl) ?_
    refine AL_p (x_assign rfl rfl) ?_
    refine AL_nil ?_
    refine AW_ret ?_
    exact ⟨rn [], ⟨⟨⟨_, rfl, vle_int (by rw [hno]; first | done | rfl)⟩, trivial⟩, ⟨⟨_, rfl, by first | exact BLe.rf | exact ble_eq (by rw [hno]; first | done | rfl)⟩, trivial⟩, by repeat (first | exact trivial | refine ⟨⟨rfl, by first | (left; intro h; cases h) | (right; rfl), by first | exact (fun _ h => ⟨_, h⟩) | exact (fun _ _ => ⟨_, rfl⟩)⟩, ?_⟩), rfl⟩⟩
  try simp only [tdy] at h11
  refine AW_condF rfl ?_
  refine AW_skip ?_
  refine AW_seq ?_
  refine AW_seq ?_
  refine AW_region ?_
  refine AL_p (x_move rfl rfl) ?_
  refine AL_b (x_eql rfl rfl rfl) (fun b15 h15 => ?_)
  refine AL_nil ?_
  cases b15
  rotate_left
  · try simp only [tdy] at h15
    have hno : dRaw b c = _ := (if_neg (by omega)).trans ((if_neg (by omega)).trans (if_pos (by omega)))
    have hd1 := dBelow_lt b (dBelow b c 12).2 (n := 2) (by decide)
    have hd2 := dBelow_lt b (dBelow b (dBelow b c 12).2 2).2 (n := 3) (by decide)
    refine AW_condT rfl ?_
    refine AW_seq ?_
    refine AW_region ?_
    refine AL_p (x_move rfl rfl) ?_
    refine AL_p (x_call (ks := []) (L := [(200, some _)]) (L' := [(200, some _)]) rfl rfl rfl (below_c b (dBelow b c 12).2 hb 2) rfl AllV.rf (caught_of rfl) rfl rfl rfl ⟨rfl, trivial⟩ rfl) ?_
    refine AL_p (x_sub rfl rfl rfl (IntWalk.i64_in _ (by omega))) ?_
    refine AL_p (x_move rfl rfl) ?_
    refine AL_p (x_call (ks := []) (L := [(200, some _)]) (L' := [(200, some _)]) rfl rfl rfl (below_c b (dBelow b (dBelow b c 12).2 2).2 hb 3) rfl AllV.rf (caught_of rfl) rfl rfl rfl ⟨rfl, trivial⟩ rfl) ?_
    refine AL_p (x_add rfl rfl rfl (IntWalk.i64_in _ (by omega))) ?_
    refine AL_p (x_assign rfl rfl) ?_
    refine AL_nil ?_
    refine AW_ret ?_
    exact ⟨rn [], ⟨⟨⟨_, rfl, vle_int (by rw [hno]; first | done | rfl)⟩, trivial⟩, ⟨⟨_, rfl, by first | exact BLe.rf | exact ble_eq (by rw [hno]; first | done | rfl)⟩, trivial⟩, by repeat (first | exact trivial | refine ⟨⟨rfl, by first | (left; intro h; cases h) | (right; rfl), by first | exact (fun _ h => ⟨_, h⟩) | exact (fun _ _ => ⟨_, rfl⟩)⟩, ?_⟩), rfl⟩⟩
  try simp only [tdy] at h15
  refine AW_condF rfl ?_
  refine AW_skip ?_
  refine AW_seq ?_
  refine AW_seq ?_
  refine AW_region ?_
  refine AL_p (x_move rfl rfl) ?_
  refine AL_b (x_eql rfl rfl rfl) (fun b23 h23 => ?_)
  refine AL_nil ?_
  cases b23
  rotate_left
  · try simp only [tdy] at h23
    have hno : dRaw b c = _ := (if_neg (by omega)).trans ((if_neg (by omega)).trans ((if_neg (by omega)).trans (if_pos (by omega))))
    have hd1 := dBelow_lt b (dBelow b c 12).2 (n := 3) (by decide)
    refine AW_condT rfl ?_
    refine AW_seq ?_
    refine AW_region ?_
    refine AL_p (x_move rfl rfl) ?_
    refine AL_p (x_call (ks := []) (L := [(200, some _)]) (L' := [(200, some _)]) rfl rfl rfl (below_c b (dBelow b c 12).2 hb 3) rfl AllV.rf (caught_of rfl) rfl rfl rfl ⟨rfl, trivial⟩ rfl) ?_
    refine AL_p (x_sub rfl rfl rfl (IntWalk.i64_in _ (by omega))) ?_
    refine AL_p (x_assign rfl rfl) ?_
    refine AL_nil ?_
    refine AW_ret ?_
    exact ⟨rn [], ⟨⟨⟨_, rfl, vle_int (by rw [hno]; first | done | rfl)⟩, trivial⟩, ⟨⟨_, rfl, by first | exact BLe.rf | exact ble_eq (by rw [hno]; first | done | rfl)⟩, trivial⟩, by repeat (first | exact trivial | refine ⟨⟨rfl, by first | (left; intro h; cases h) | (right; rfl), by first | exact (fun _ h => ⟨_, h⟩) | exact (fun _ _ => ⟨_, rfl⟩)⟩, ?_⟩), rfl⟩⟩
  try simp only [tdy] at h23
  refine AW_condF rfl ?_
  refine AW_skip ?_
  refine AW_seq ?_
  refine AW_seq ?_
  refine AW_region ?_
  refine AL_p (x_move rfl rfl) ?_
  refine AL_b (x_eql rfl rfl rfl) (fun b28 h28 => ?_)
  refine AL_nil ?_
  cases b28
  rotate_left
  · try simp only [tdy] at h28
    have hno : dRaw b c = _ := (if_neg (by omega)).trans ((if_neg (by omega)).trans ((if_neg (by omega)).trans ((if_neg (by omega)).trans (if_pos (by omega)))))
    have hd1 := dBelow_lt b (dBelow b c 12).2 (n := 2) (by decide)
    refine AW_condT rfl ?_
    refine AW_seq ?_
    refine AW_region ?_
    refine AL_p (x_move rfl rfl) ?_
    refine AL_p (x_call (ks := []) (L := [(200, some _)]) (L' := [(200, some _)]) rfl rfl rfl (below_c b (dBelow b c 12).2 hb 2) rfl AllV.rf (caught_of rfl) rfl rfl rfl ⟨rfl, trivial⟩ rfl) ?_
    refine AL_p (x_sub rfl rfl rfl (IntWalk.i64_in _ (by omega))) ?_
    refine AL_p (x_assign rfl rfl) ?_
    refine AL_nil ?_
    refine AW_ret ?_
    exact ⟨rn [], ⟨⟨⟨_, rfl, vle_int (by rw [hno]; first | done | rfl)⟩, trivial⟩, ⟨⟨_, rfl, by first | exact BLe.rf | exact ble_eq (by rw [hno]; first | done | rfl)⟩, trivial⟩, by repeat (first | exact trivial | refine ⟨⟨rfl, by first | (left; intro h; cases h) | (right; rfl), by first | exact (fun _ h => ⟨_, h⟩) | exact (fun _ _ => ⟨_, rfl⟩)⟩, ?_⟩), rfl⟩⟩
  try simp only [tdy] at h28
  refine AW_condF rfl ?_
  refine AW_skip ?_
  refine AW_seq ?_
  refine AW_seq ?_
  refine AW_region ?_
  refine AL_p (x_move rfl rfl) ?_
  refine AL_b (x_eql rfl rfl rfl) (fun b33 h33 => ?_)
  refine AL_nil ?_
  cases b33
  rotate_left
  · try simp only [tdy] at h33
    have hno : dRaw b c = _ := (if_neg (by omega)).trans ((if_neg (by omega)).trans ((if_neg (by omega)).trans ((if_neg (by omega)).trans ((if_neg (by omega)).trans (if_pos (by omega))))))
    have hd1 := dBelow_lt b (dBelow b c 12).2 (n := 2) (by decide)
    refine AW_condT rfl ?_
    refine AW_seq ?_
    refine AW_region ?_
    refine AL_p (x_move rfl rfl) ?_
    refine AL_p (x_call (ks := []) (L := [(200, some _)]) (L' := [(200, some _)]) rfl rfl rfl (below_c b (dBelow b c 12).2 hb 2) rfl AllV.rf (caught_of rfl) rfl rfl rfl ⟨rfl, trivial⟩ rfl) ?_
    refine AL_p (x_sub rfl rfl rfl (IntWalk.i64_in _ (by omega))) ?_
    refine AL_p (x_assign rfl rfl) ?_
    refine AL_nil ?_
    refine AW_ret ?_
    exact ⟨rn [], ⟨⟨⟨_, rfl, vle_int (by rw [hno]; first | done | rfl)⟩, trivial⟩, ⟨⟨_, rfl, by first | exact BLe.rf | exact ble_eq (by rw [hno]; first | done | rfl)⟩, trivial⟩, by repeat (first | exact trivial | refine ⟨⟨rfl, by first | (left; intro h; cases h) | (right; rfl), by first | exact (fun _ h => ⟨_, h⟩) | exact (fun _ _ => ⟨_, rfl⟩)⟩, ?_⟩), rfl⟩⟩
  try simp only [tdy] at h33
  refine AW_condF rfl ?_
  refine AW_skip ?_
  refine AW_seq ?_
  refine AW_seq ?_
  refine AW_region ?_
  refine AL_p (x_move rfl rfl) ?_
  refine AL_b (x_eql rfl rfl rfl) (fun b38 h38 => ?_)
  refine AL_nil ?_
  cases b38
  · try simp only [tdy] at h38
    have hno : dRaw b c = _ := (if_neg (by omega)).trans ((if_neg (by omega)).trans ((if_neg (by omega)).trans ((if_neg (by omega)).trans ((if_neg (by omega)).trans ((if_neg (by omega)).trans (if_neg (by omega)))))))
    have hmu := mul_in (dBelow_lt b (dBelow b c 12).2 (n := 65536) (by decide)) (dBelow_lt b (dBelow b (dBelow b c 12).2 65536).2 (n := 65536) (by decide))
    refine AW_condF rfl ?_
    refine AW_skip ?_
    refine AW_seq ?_
    refine AW_region ?_
    refine AL_p (x_move rfl rfl) ?_
    refine AL_p (x_call (ks := []) (L := [(200, some _)]) (L' := [(200, some _)]) rfl rfl rfl (below_c b (dBelow b c 12).2 hb 65536) rfl AllV.rf (caught_of rfl) rfl rfl rfl ⟨rfl, trivial⟩ rfl) ?_
    refine AL_p (x_move rfl rfl) ?_
    refine AL_p (x_call (ks := []) (L := [(200, some _)]) (L' := [(200, some _)]) rfl rfl rfl (below_c b (dBelow b (dBelow b c 12).2 65536).2 hb 65536) rfl AllV.rf (caught_of rfl) rfl rfl rfl ⟨rfl, trivial⟩ rfl) ?_
    refine AL_p (x_mul rfl rfl rfl (IntWalk.i64_in _ hmu)) ?_
    refine AL_p (x_assign rfl rfl) ?_
    refine AL_nil ?_
    refine AW_ret ?_
    exact ⟨rn [], ⟨⟨⟨_, rfl, vle_int (by rw [hno]; first | done | rfl)⟩, trivial⟩, ⟨⟨_, rfl, by first | exact BLe.rf | exact ble_eq (by rw [hno]; first | done | rfl)⟩, trivial⟩, by repeat (first | exact trivial | refine ⟨⟨rfl, by first | (left; intro h; cases h) | (right; rfl), by first | exact (fun _ h => ⟨_, h⟩) | exact (fun _ _ => ⟨_, rfl⟩)⟩, ?_⟩), rfl⟩⟩
  try simp only [tdy] at h38
  have hno : dRaw b c = _ := (if_neg (by omega)).trans ((if_neg (by omega)).trans ((if_neg (by omega)).trans ((if_neg (by omega)).trans ((if_neg (by omega)).trans ((if_neg (by omega)).trans (if_pos (by omega)))))))
  have hd1 := dBelow_lt b (dBelow b c 12).2 (n := 6) (by decide)
  have hd2 := dBelow_lt b (dBelow b (dBelow b c 12).2 6).2 (n := 2) (by decide)
  have hp := pow_256 (m := (1 + (dBelow b (dBelow b c 12).2 6).1).toNat) (by omega)
  refine AW_condT rfl ?_
  refine AW_seq ?_
  refine AW_region ?_
  refine AL_p (x_move rfl rfl) ?_
  refine AL_p (x_call (ks := []) (L := [(200, some _)]) (L' := [(200, some _)]) rfl rfl rfl (below_c b (dBelow b c 12).2 hb 6) rfl AllV.rf (caught_of rfl) rfl rfl rfl ⟨rfl, trivial⟩ rfl) ?_
  refine AL_p (x_add rfl rfl rfl (IntWalk.i64_in _ (by omega))) ?_
  refine AL_p (x_call0 rfl rfl rfl (pow_c _ (by omega) (by omega)) rfl rfl) ?_
  refine AL_p (x_move rfl rfl) ?_
  refine AL_p (x_call (ks := []) (L := [(200, some _)]) (L' := [(200, some _)]) rfl rfl rfl (below_c b (dBelow b (dBelow b c 12).2 6).2 hb 2) rfl AllV.rf (caught_of rfl) rfl rfl rfl ⟨rfl, trivial⟩ rfl) ?_
  refine AL_p (x_sub rfl rfl rfl (IntWalk.i64_in _ (by omega))) ?_
  refine AL_p (x_assign rfl rfl) ?_
  refine AL_nil ?_
  refine AW_ret ?_
  exact ⟨rn [], ⟨⟨⟨_, rfl, vle_int (by rw [hno]; first | done | rfl)⟩, trivial⟩, ⟨⟨_, rfl, by first | exact BLe.rf | exact ble_eq (by rw [hno]; first | done | rfl)⟩, trivial⟩, by repeat (first | exact trivial | refine ⟨⟨rfl, by first | (left; intro h; cases h) | (right; rfl), by first | exact (fun _ h => ⟨_, h⟩) | exact (fun _ _ => ⟨_, rfl⟩)⟩, ?_⟩), rfl⟩⟩

set_option maxHeartbeats 4000000 in
theorem num6_c (b : List Int) (c : Cur) (hb : b.length ≤ 1048576) : AC Tryz.prog 164 [.one (.ptr 200 0)] [(200, some (curB b c))] (.one (.c (.int .i64 ((dNum6 b c).1)))) [(200, some (curB b (dNum6 b c).2))] := by
  refine AC_body1 Tryz.func164 rfl rfl Tryz.ntmps164 rfl Tryz.results164 ?_
  refine AW_seq ?_
  refine AW_region ?_
  refine AL_p (x_assign rfl rfl) ?_
  refine AL_nil ?_
  refine AW_seq ?_
  refine AW_region ?_
  refine AL_p (x_move rfl rfl) ?_
  refine AL_p (x_call (ks := []) (L := [(200, some _)]) (L' := [(200, some _)]) rfl rfl rfl (below_c b c hb 8) rfl AllV.rf (caught_of rfl) rfl rfl rfl ⟨rfl, trivial⟩ rfl) ?_
  refine AL_p (x_assign rfl rfl) ?_
  refine AL_nil ?_
  refine AW_seq ?_
  refine AW_seq ?_
  refine AW_region ?_
  refine AL_p (x_move rfl rfl) ?_
  refine AL_b (x_lss rfl rfl rfl) (fun b7 h7 => ?_)
  refine AL_nil ?_
  cases b7
  rotate_left
  · try simp only [tdy] at h7
    have hno : dNum6 b c = _ := if_pos (by omega)
    refine AW_condT rfl ?_
    refine AW_seq ?_
    refine AW_region ?_
    refine AL_p (x_move rfl rfl) ?_
    refine AL_p (x_call (ks := []) (L := [(200, some _)]) (L' := [(200, some _)]) rfl rfl rfl (below_c b (dBelow b c 8).2 hb 9) rfl AllV.rf (caught_of rfl) rfl rfl rfl ⟨rfl, trivial⟩ rfl) ?_
    refine AL_p (x_assign rfl rfl) ?_
    refine AL_nil ?_
    refine AW_ret ?_
    exact ⟨rn [], ⟨⟨⟨_, rfl, vle_int (by rw [hno]; first | done | rfl)⟩, trivial⟩, ⟨⟨_, rfl, by first | exact BLe.rf | exact ble_eq (by rw [hno]; first | done | rfl)⟩, trivial⟩, by repeat (first | exact trivial | refine ⟨⟨rfl, by first | (left; intro h; cases h) | (right; rfl), by first | exact (fun _ h => ⟨_, h⟩) | exact (fun _ _ => ⟨_, rfl⟩)⟩, ?_⟩), rfl⟩⟩
  try simp only [tdy] at h7
  refine AW_condF rfl ?_
  refine AW_skip ?_
  refine AW_seq ?_
  refine AW_seq ?_
  refine AW_region ?_
  refine AL_p (x_move rfl rfl) ?_
  refine AL_b (x_eql rfl rfl rfl) (fun b11 h11 => ?_)
  refine AL_nil ?_
  cases b11
  rotate_left
  · try simp only [tdy] at h11
    have hno : dNum6 b c = _ := (if_neg (by omega)).trans (if_pos (by omega))
    refine AW_condT rfl ?_
    refine AW_seq ?_
    refine AW_region ?_
    refine AL_p (x_assign rfl rfl) ?_
    refine AL_nil ?_
    refine AW_ret ?_
    exact ⟨rn [], ⟨⟨⟨_, rfl, vle_int (by rw [hno]; first | done | rfl)⟩, trivial⟩, ⟨⟨_, rfl, by first | exact BLe.rf | exact ble_eq (by rw [hno]; first | done | rfl)⟩, trivial⟩, by repeat (first | exact trivial | refine ⟨⟨rfl, by first | (left; intro h; cases h) | (right; rfl), by first | exact (fun _ h => ⟨_, h⟩) | exact (fun _ _ => ⟨_, rfl⟩)⟩, ?_⟩), rfl⟩⟩
  try simp only [tdy] at h11
  have hno : dNum6 b c = _ := (if_neg (by omega)).trans (if_neg (by omega))
  have hd1 := dBelow_lt b (dBelow b c 8).2 (n := 1000000) (by decide)
  refine AW_condF rfl ?_
  refine AW_skip ?_
  refine AW_seq ?_
  refine AW_region ?_
  refine AL_p (x_move rfl rfl) ?_
  refine AL_p (x_call (ks := []) (L := [(200, some _)]) (L' := [(200, some _)]) rfl rfl rfl (below_c b (dBelow b c 8).2 hb 1000000) rfl AllV.rf (caught_of rfl) rfl rfl rfl ⟨rfl, trivial⟩ rfl) ?_
  refine AL_p (x_mul rfl rfl rfl (IntWalk.i64_in _ (by omega))) ?_
  refine AL_p (x_assign rfl rfl) ?_
  refine AL_nil ?_
  refine AW_ret ?_
  exact ⟨rn [], ⟨⟨⟨_, rfl, vle_int (by rw [hno]; first | done | rfl)⟩, trivial⟩, ⟨⟨_, rfl, by first | exact BLe.rf | exact ble_eq (by rw [hno]; first | done | rfl)⟩, trivial⟩, by repeat (first | exact trivial | refine ⟨⟨rfl, by first | (left; intro h; cases h) | (right; rfl), by first | exact (fun _ h => ⟨_, h⟩) | exact (fun _ _ => ⟨_, rfl⟩)⟩, ?_⟩), rfl⟩⟩

set_option maxHeartbeats 4000000 in
theorem word_c (b : List Int) (c : Cur) (hb : b.length ≤ 1048576) : AC Tryz.prog 116 [.one (.ptr 200 0)] [(200, some (curB b c))] (.one (.c (.string (dWord b c).1))) [(200, some (curB b (dWord b c).2))] := by
  have hd1 := dBelow_lt b c (n := 10) (by decide)
  have hln : dWords.length = 10 := by decide
  have hno : dWord b c = (dWords.getD (dBelow b c 10).1.toNat ⟨#[]⟩, (dBelow b c 10).2) := rfl
  have hat := getD_txt (xs := dWords) (k := (dBelow b c 10).1.toNat) (by omega)
  refine AC_body1 Tryz.func116 rfl rfl Tryz.ntmps116 rfl Tryz.results116 ?_
  refine AW_seq ?_
  refine AW_region ?_
  refine AL_p (x_assign rfl rfl) ?_
  refine AL_nil ?_
  refine AW_seq ?_
  refine AW_region ?_
  refine AL_p (y_bslice (E := 9) (e := strE) [.const (.string ⟨#[97]⟩), .const (.string ⟨#[98]⟩), .const (.string ⟨#[99]⟩), .const (.string ⟨#[104, 111, 115, 116]⟩), .const (.string ⟨#[108, 105, 110, 107]⟩), .const (.string ⟨#[115, 101, 101, 110]⟩), .const (.string ⟨#[112, 97, 116, 104]⟩), .const (.string ⟨#[100, 101, 110, 121]⟩), .const (.string ⟨#[120, 57]⟩), .const (.string ⟨#[97, 98, 99, 100, 101, 102, 103, 104, 105, 106, 107, 108]⟩)] (dWords) 100 rfl rfl rfl rfl rfl rfl rfl rfl FitL.rf rfl rfl rfl rfl rfl rfl (by kernel_rfl)) ?_
  refine AL_p (x_move rfl rfl) ?_
  refine AL_p (x_call (ks := []) (L := [(200, some _)]) (L' := [(200, some _)]) rfl rfl rfl (below_c b c hb 10) rfl AllV.rf (caught_of rfl) rfl rfl rfl ⟨rfl, trivial⟩ rfl) ?_
  refine AL_p (x_oindex (n := 1) rfl rfl rfl rfl (by kernel_rfl) rfl (k := (dBelow b c 10).1.toNat) (by omega) (by omega)) ?_
  refine AL_p (x_oload1 rfl rfl rfl (by kernel_rfl) (by omega) rfl) ?_
  refine AL_p (x_assign rfl rfl) ?_
  refine AL_nil ?_
  refine AW_ret ?_
  exact ⟨rn [], ⟨⟨⟨_, rfl, vle_str hat⟩, trivial⟩, ⟨⟨_, rfl, by first | exact BLe.rf | exact ble_eq (by rw [hno]; first | done | rfl)⟩, trivial⟩, by repeat (first | exact trivial | refine ⟨⟨rfl, by first | (left; intro h; cases h) | (right; rfl), by first | exact (fun _ h => ⟨_, h⟩) | exact (fun _ _ => ⟨_, rfl⟩)⟩, ?_⟩), rfl⟩⟩

set_option maxHeartbeats 4000000 in
theorem text_c (b : List Int) (c : Cur) (hb : b.length ≤ 1048576) : AC Tryz.prog 103 [.one (.ptr 200 0)] [(200, some (curB b c))] (.one (.c (.string (dText b c).1))) [(200, some (curB b (dText b c).2))] := by
  have hd1 := dBelow_lt b c (n := 18) (by decide)
  have hln : dTexts.length = 18 := by decide
  have hno : dText b c = (dTexts.getD (dBelow b c 18).1.toNat ⟨#[]⟩, (dBelow b c 18).2) := rfl
  have hat := getD_txt (xs := dTexts) (k := (dBelow b c 18).1.toNat) (by omega)
  refine AC_body1 Tryz.func103 rfl rfl Tryz.ntmps103 rfl Tryz.results103 ?_
  refine AW_seq ?_
  refine AW_region ?_
  refine AL_p (x_assign rfl rfl) ?_
  refine AL_nil ?_
  refine AW_seq ?_
  refine AW_region ?_
  refine AL_p (y_bslice (E := 9) (e := strE) [.const (.string ⟨#[]⟩), .const (.string ⟨#[97]⟩), .const (.string ⟨#[97, 98, 99, 100, 101, 102, 103, 104, 105, 106, 107, 108]⟩), .const (.string ⟨#[97, 98, 99, 100, 101, 102, 103, 104, 105, 106, 107, 108, 109]⟩), .const (.string ⟨#[57, 97]⟩), .const (.string ⟨#[65]⟩), .const (.string ⟨#[97, 95]⟩), .const (.string ⟨#[48]⟩), .const (.string ⟨#[48, 48]⟩), .const (.string ⟨#[55]⟩), .const (.string ⟨#[50, 56, 49, 52, 55, 52, 57, 55, 54, 55, 49, 48, 54, 53, 53]⟩), .const (.string ⟨#[50, 56, 49, 52, 55, 52, 57, 55, 54, 55, 49, 48, 54, 53, 54]⟩), .const (.string ⟨#[45, 49]⟩), .const (.string ⟨#[49, 50, 51, 52, 53, 54, 55, 56, 57, 48, 49, 50, 51, 52, 53, 54]⟩), .const (.string ⟨#[104, 111, 115, 116]⟩), .const (.string ⟨#[120, 57]⟩), .const (.string ⟨#[32, 49]⟩), .const (.string ⟨#[195, 169]⟩)] (dTexts) 100 rfl rfl rfl rfl rfl rfl rfl rfl FitL.rf rfl rfl rfl rfl rfl rfl (by kernel_rfl)) ?_
  refine AL_p (x_move rfl rfl) ?_
  refine AL_p (x_call (ks := []) (L := [(200, some _)]) (L' := [(200, some _)]) rfl rfl rfl (below_c b c hb 18) rfl AllV.rf (caught_of rfl) rfl rfl rfl ⟨rfl, trivial⟩ rfl) ?_
  refine AL_p (x_oindex (n := 1) rfl rfl rfl rfl (by kernel_rfl) rfl (k := (dBelow b c 18).1.toNat) (by omega) (by omega)) ?_
  refine AL_p (x_oload1 rfl rfl rfl (by kernel_rfl) (by omega) rfl) ?_
  refine AL_p (x_assign rfl rfl) ?_
  refine AL_nil ?_
  refine AW_ret ?_
  exact ⟨rn [], ⟨⟨⟨_, rfl, vle_str hat⟩, trivial⟩, ⟨⟨_, rfl, by first | exact BLe.rf | exact ble_eq (by rw [hno]; first | done | rfl)⟩, trivial⟩, by repeat (first | exact trivial | refine ⟨⟨rfl, by first | (left; intro h; cases h) | (right; rfl), by first | exact (fun _ h => ⟨_, h⟩) | exact (fun _ _ => ⟨_, rfl⟩)⟩, ?_⟩), rfl⟩⟩

set_option maxHeartbeats 4000000 in
theorem value_c (b : List Int) (c : Cur) (hb : b.length ≤ 1048576) : AC Tryz.prog 140 [.one (.ptr 200 0)] [(200, some (curB b c))] (.agg (valC (dValue b c).1)) [(200, some (curB b (dValue b c).2))] := by
  refine AC_bodyC (n := 2) (k := 9) (T := [(2, .one (.ptr 9 0))]) (Lf := ((9, some (.box (valC (dValue b c).1))) :: [(200, some (curB b (dValue b c).2))])) Tryz.func140 rfl rfl Tryz.ntmps140 rfl Tryz.results140 rfl rfl (by kernel_rfl) rfl rfl ⟨trivial, (by repeat (first | exact trivial | refine ⟨⟨_, rfl, BLe.rf⟩, ?_⟩)), (by repeat (first | exact trivial | refine ⟨⟨rfl, by first | (left; intro h; cases h) | (right; rfl), by first | exact (fun _ h => ⟨_, h⟩) | exact (fun _ _ => ⟨_, rfl⟩)⟩, ?_⟩)), rfl⟩ ?_
  refine AW_seq ?_
  refine AW_region ?_
  refine AL_p (x_alloc (z := .agg #[.int .i64 0, .string ⟨#[]⟩]) 100 rfl (by kernel_rfl) rfl rfl rfl rfl) ?_
  refine AL_nil ?_
  refine AW_seq ?_
  refine AW_region ?_
  refine AL_p (x_move rfl rfl) ?_
  refine AL_p (x_call (ks := []) (L := [(200, some _)]) (L' := [(200, some _)]) rfl rfl rfl (below_c b c hb 6) rfl AllV.rf (caught_of rfl) rfl rfl rfl ⟨rfl, trivial⟩ rfl) ?_
  refine AL_p (x_assign rfl rfl) ?_
  refine AL_nil ?_
  refine AW_seq ?_
  refine AW_seq ?_
  refine AW_region ?_
  refine AL_p (x_move rfl rfl) ?_
  refine AL_b (x_lss rfl rfl rfl) (fun b7 h7 => ?_)
  refine AL_nil ?_
  cases b7
  rotate_left
  · try simp only [tdy] at h7
    have hno : dValue b c = _ := if_pos (by omega)
    refine AW_condT rfl ?_
    refine AW_seq ?_
    refine AW_region ?_
    refine AL_p (x_move rfl rfl) ?_
    refine AL_p (x_call (ks := []) (L := [(200, some _)]) (L' := [(200, some _)]) rfl rfl rfl (below_c b (dBelow b c 6).2 hb 5) rfl AllV.rf (caught_of rfl) rfl rfl rfl ⟨rfl, trivial⟩ rfl) ?_
    refine AL_p (x_build (zs := [.int .i64 0, .string ⟨#[]⟩]) (places := [(0, 1), (1, 1)]) rfl (by kernel_rfl) rfl rfl rfl rfl rfl) ?_
    refine AL_p (x_store (n := 2) rfl rfl rfl rfl (by kernel_rfl) rfl rfl rfl) ?_
    refine AL_nil ?_
    refine AW_ret ?_
    exact ⟨rn [(9, 100)], ⟨⟨⟨_, rfl, VLe.rf⟩, trivial⟩, ⟨⟨_, rfl, by first | exact BLe.rf | exact ble_eq (by rw [hno]; first | done | rfl)⟩, ⟨_, rfl, by first | exact BLe.rf | exact ble_eq (by rw [hno]; first | done | rfl)⟩, trivial⟩, by repeat (first | exact trivial | refine ⟨⟨rfl, by first | (left; intro h; cases h) | (right; rfl), by first | exact (fun _ h => ⟨_, h⟩) | exact (fun _ _ => ⟨_, rfl⟩)⟩, ?_⟩), rfl⟩⟩
  try simp only [tdy] at h7
  refine AW_condF rfl ?_
  refine AW_skip ?_
  refine AW_seq ?_
  refine AW_seq ?_
  refine AW_region ?_
  refine AL_p (x_move rfl rfl) ?_
  refine AL_b (x_eql rfl rfl rfl) (fun b12 h12 => ?_)
  refine AL_nil ?_
  cases b12
  rotate_left
  · try simp only [tdy] at h12
    have hno : dValue b c = _ := (if_neg (by omega)).trans (if_pos (by omega))
    refine AW_condT rfl ?_
    refine AW_seq ?_
    refine AW_region ?_
    refine AL_p (x_move rfl rfl) ?_
    refine AL_p (x_call (ks := []) (L := [(200, some _)]) (L' := [(200, some _)]) rfl rfl rfl (word_c b (dBelow b c 6).2 hb) rfl AllV.rf (caught_of rfl) rfl rfl rfl ⟨rfl, trivial⟩ rfl) ?_
    refine AL_p (x_build (zs := [.int .i64 0, .string ⟨#[]⟩]) (places := [(0, 1), (1, 1)]) rfl (by kernel_rfl) rfl rfl rfl rfl rfl) ?_
    refine AL_p (x_store (n := 2) rfl rfl rfl rfl (by kernel_rfl) rfl rfl rfl) ?_
    refine AL_nil ?_
    refine AW_ret ?_
    exact ⟨rn [(9, 100)], ⟨⟨⟨_, rfl, VLe.rf⟩, trivial⟩, ⟨⟨_, rfl, by first | exact BLe.rf | exact ble_eq (by rw [hno]; first | done | rfl)⟩, ⟨_, rfl, by first | exact BLe.rf | exact ble_eq (by rw [hno]; first | done | rfl)⟩, trivial⟩, by repeat (first | exact trivial | refine ⟨⟨rfl, by first | (left; intro h; cases h) | (right; rfl), by first | exact (fun _ h => ⟨_, h⟩) | exact (fun _ _ => ⟨_, rfl⟩)⟩, ?_⟩), rfl⟩⟩
  try simp only [tdy] at h12
  have hno : dValue b c = _ := (if_neg (by omega)).trans (if_neg (by omega))
  refine AW_condF rfl ?_
  refine AW_skip ?_
  refine AW_seq ?_
  refine AW_region ?_
  refine AL_p (x_move rfl rfl) ?_
  refine AL_p (x_call (ks := []) (L := [(200, some _)]) (L' := [(200, some _)]) rfl rfl rfl (num6_c b (dBelow b c 6).2 hb) rfl AllV.rf (caught_of rfl) rfl rfl rfl ⟨rfl, trivial⟩ rfl) ?_
  refine AL_p (x_build (zs := [.int .i64 0, .string ⟨#[]⟩]) (places := [(0, 1), (1, 1)]) rfl (by kernel_rfl) rfl rfl rfl rfl rfl) ?_
  refine AL_p (x_store (n := 2) rfl rfl rfl rfl (by kernel_rfl) rfl rfl rfl) ?_
  refine AL_nil ?_
  refine AW_ret ?_
  exact ⟨rn [(9, 100)], ⟨⟨⟨_, rfl, VLe.rf⟩, trivial⟩, ⟨⟨_, rfl, by first | exact BLe.rf | exact ble_eq (by rw [hno]; first | done | rfl)⟩, ⟨_, rfl, by first | exact BLe.rf | exact ble_eq (by rw [hno]; first | done | rfl)⟩, trivial⟩, by repeat (first | exact trivial | refine ⟨⟨rfl, by first | (left; intro h; cases h) | (right; rfl), by first | exact (fun _ h => ⟨_, h⟩) | exact (fun _ _ => ⟨_, rfl⟩)⟩, ?_⟩), rfl⟩⟩

set_option maxHeartbeats 4000000 in
theorem anyV_c (b : List Int) (c : Cur) (hb : b.length ≤ 1048576) : AC Tryz.prog 162 [.one (.ptr 200 0)] [(200, some (curB b c))] (.agg (valC (dAnyV b c).1)) [(200, some (curB b (dAnyV b c).2))] := by
  refine AC_bodyC (n := 2) (k := 9) (T := [(2, .one (.ptr 9 0))]) (Lf := ((9, some (.box (valC (dAnyV b c).1))) :: [(200, some (curB b (dAnyV b c).2))])) Tryz.func162 rfl rfl Tryz.ntmps162 rfl Tryz.results162 rfl rfl (by kernel_rfl) rfl rfl ⟨trivial, (by repeat (first | exact trivial | refine ⟨⟨_, rfl, BLe.rf⟩, ?_⟩)), (by repeat (first | exact trivial | refine ⟨⟨rfl, by first | (left; intro h; cases h) | (right; rfl), by first | exact (fun _ h => ⟨_, h⟩) | exact (fun _ _ => ⟨_, rfl⟩)⟩, ?_⟩)), rfl⟩ ?_
  refine AW_seq ?_
  refine AW_region ?_
  refine AL_p (x_alloc (z := .agg #[.int .i64 0, .string ⟨#[]⟩]) 100 rfl (by kernel_rfl) rfl rfl rfl rfl) ?_
  refine AL_nil ?_
  refine AW_seq ?_
  refine AW_region ?_
  refine AL_p (x_move rfl rfl) ?_
  refine AL_p (x_call (ks := []) (L := [(200, some _)]) (L' := [(200, some _)]) rfl rfl rfl (value_c b c hb) rfl AllV.rf (caught_of rfl) rfl rfl rfl ⟨rfl, trivial⟩ rfl) ?_
  refine AL_p (x_alloc (z := .agg #[.int .i64 0, .string ⟨#[]⟩]) 101 rfl (by kernel_rfl) rfl rfl rfl rfl) ?_
  refine AL_p (x_store (n := 2) rfl rfl rfl rfl (by kernel_rfl) rfl rfl rfl) ?_
  refine AL_nil ?_
  refine AW_seq ?_
  refine AW_region ?_
  refine AL_p (x_move rfl rfl) ?_
  refine AL_p (x_call (ks := []) (L := [(200, some _)]) (L' := [(200, some _)]) rfl rfl rfl (below_c b (dValue b c).2 hb 10) rfl AllV.rf (caught_of rfl) rfl rfl rfl ⟨rfl, trivial⟩ rfl) ?_
  refine AL_p (x_assign rfl rfl) ?_
  refine AL_nil ?_
  refine AW_seq ?_
  refine AW_seq ?_
  refine AW_region ?_
  refine AL_p (x_move rfl rfl) ?_
  refine AL_b (x_eql rfl rfl rfl) (fun b10 h10 => ?_)
  refine AL_nil ?_
  cases b10
  rotate_left
  · try simp only [tdy] at h10
    have hno : dAnyV b c = _ := if_pos (by omega)
    refine AW_condT rfl ?_
    refine AW_region ?_
    refine AL_p (x_move rfl rfl) ?_
    refine AL_p (x_call (ks := []) (L := [(200, some _)]) (L' := [(200, some _)]) rfl rfl rfl (raw_c b (dBelow b (dValue b c).2 10).2 hb) rfl AllV.rf (caught_of rfl) rfl rfl rfl ⟨rfl, trivial⟩ rfl) ?_
    refine AL_p (x_field (off := 0) (o' := 0) rfl rfl rfl (by kernel_rfl) rfl) ?_
    refine AL_p (x_store (n := 1) rfl rfl rfl rfl (by kernel_rfl) rfl rfl rfl) ?_
    refine AL_nil ?_
    refine AW_seq ?_
    refine AW_seq ?_
    refine AW_region ?_
    refine AL_p (x_move rfl rfl) ?_
    refine AL_b (x_eql rfl rfl rfl) (fun b15 h15 => ?_)
    refine AL_nil ?_
    cases b15
    rotate_left
    · exfalso; simp at h15; omega
    try simp only [tdy] at h15
    refine AW_condF rfl ?_
    refine AW_skip ?_
    refine AW_seq ?_
    refine AW_region ?_
    refine AL_p (x_loadN (n := 2) rfl rfl rfl (by kernel_rfl) rfl rfl) ?_
    refine AL_p (x_store (n := 2) rfl rfl rfl rfl (by kernel_rfl) rfl rfl rfl) ?_
    refine AL_nil ?_
    refine AW_ret ?_
    exact ⟨rn [(9, 100)], ⟨⟨⟨_, rfl, VLe.rf⟩, trivial⟩, ⟨⟨_, rfl, by first | exact BLe.rf | exact ble_eq (by rw [hno]; first | done | rfl)⟩, ⟨_, rfl, by first | exact BLe.rf | exact ble_eq (by rw [hno]; first | done | rfl)⟩, trivial⟩, by repeat (first | exact trivial | refine ⟨⟨rfl, by first | (left; intro h; cases h) | (right; rfl), by first | exact (fun _ h => ⟨_, h⟩) | exact (fun _ _ => ⟨_, rfl⟩)⟩, ?_⟩), rfl⟩⟩
  try simp only [tdy] at h10
  refine AW_condF rfl ?_
  refine AW_skip ?_
  refine AW_seq ?_
  refine AW_seq ?_
  refine AW_region ?_
  refine AL_p (x_move rfl rfl) ?_
  refine AL_b (x_eql rfl rfl rfl) (fun b15 h15 => ?_)
  refine AL_nil ?_
  cases b15
  · try simp only [tdy] at h15
    have hno : dAnyV b c = _ := (if_neg (by omega)).trans (if_neg (by omega))
    refine AW_condF rfl ?_
    refine AW_skip ?_
    refine AW_seq ?_
    refine AW_region ?_
    refine AL_p (x_loadN (n := 2) rfl rfl rfl (by kernel_rfl) rfl rfl) ?_
    refine AL_p (x_store (n := 2) rfl rfl rfl rfl (by kernel_rfl) rfl rfl rfl) ?_
    refine AL_nil ?_
    refine AW_ret ?_
    exact ⟨rn [(9, 100)], ⟨⟨⟨_, rfl, VLe.rf⟩, trivial⟩, ⟨⟨_, rfl, by first | exact BLe.rf | exact ble_eq (by rw [hno]; first | done | rfl)⟩, ⟨_, rfl, by first | exact BLe.rf | exact ble_eq (by rw [hno]; first | done | rfl)⟩, trivial⟩, by repeat (first | exact trivial | refine ⟨⟨rfl, by first | (left; intro h; cases h) | (right; rfl), by first | exact (fun _ h => ⟨_, h⟩) | exact (fun _ _ => ⟨_, rfl⟩)⟩, ?_⟩), rfl⟩⟩
  try simp only [tdy] at h15
  have hno : dAnyV b c = _ := (if_neg (by omega)).trans (if_pos (by omega))
  refine AW_condT rfl ?_
  refine AW_region ?_
  refine AL_p (x_move rfl rfl) ?_
  refine AL_p (x_call (ks := []) (L := [(200, some _)]) (L' := [(200, some _)]) rfl rfl rfl (text_c b (dBelow b (dValue b c).2 10).2 hb) rfl AllV.rf (caught_of rfl) rfl rfl rfl ⟨rfl, trivial⟩ rfl) ?_
  refine AL_p (x_field (off := 1) (o' := 1) rfl rfl rfl (by kernel_rfl) rfl) ?_
  refine AL_p (x_store (n := 1) rfl rfl rfl rfl (by kernel_rfl) rfl rfl rfl) ?_
  refine AL_nil ?_
  refine AW_seq ?_
  refine AW_region ?_
  refine AL_p (x_loadN (n := 2) rfl rfl rfl (by kernel_rfl) rfl rfl) ?_
  refine AL_p (x_store (n := 2) rfl rfl rfl rfl (by kernel_rfl) rfl rfl rfl) ?_
  refine AL_nil ?_
  refine AW_ret ?_
  exact ⟨rn [(9, 100)], ⟨⟨⟨_, rfl, VLe.rf⟩, trivial⟩, ⟨⟨_, rfl, by first | exact BLe.rf | exact ble_eq (by rw [hno]; first | done | rfl)⟩, ⟨_, rfl, by first | exact BLe.rf | exact ble_eq (by rw [hno]; first | done | rfl)⟩, trivial⟩, by repeat (first | exact trivial | refine ⟨⟨rfl, by first | (left; intro h; cases h) | (right; rfl), by first | exact (fun _ h => ⟨_, h⟩) | exact (fun _ _ => ⟨_, rfl⟩)⟩, ?_⟩), rfl⟩⟩
end Go.Proofs.YtibhoanjglfaoaaGreat

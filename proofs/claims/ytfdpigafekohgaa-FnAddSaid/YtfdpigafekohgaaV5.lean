/- Lemmas of the walks, part 5. -/
import Derived.Test.YtfdpigafekohgaaV4
/- An entry put in by the reference (printed by walk.py) -/
namespace Go.Proofs.Ytfdpigafekohgaa
open Go.RowKit
set_option linter.unusedVariables false
set_option linter.unusedSimpArgs false
set_option maxRecDepth 100000

set_option maxHeartbeats 4000000 in
theorem tabAddO_c (cp : Int) (es : List Entryt) (e : Entryt) (ht : smallTable (⟨cp, es⟩ : Tablet)) (he : smallEntry e) : AC Try.prog 36 [.agg [.c (.int .i64 cp), .own 0], .agg (entryC e)] [(0, some (.arr 74 entryE es false))] (.tup [.agg [.c (.int .i64 (tableAdd ⟨cp, es⟩ e).1.cap), .own 1], .one (.c (.int .i64 (tableAdd ⟨cp, es⟩ e).2))]) [(0, some (.arr 74 entryE es false)), (1, some (.arr 74 entryE (tableAdd ⟨cp, es⟩ e).1.entries false))] := by
  refine AC_bodyCT (n := 2) (k := 9) (T := [(4, .one (.ptr 9 0)), (5, .one (.c (.int .i64 (tableAdd ⟨cp, es⟩ e).2)))]) (Lf := ((9, some (.box [.c (.int .i64 (tableAdd ⟨cp, es⟩ e).1.cap), .own 1])) :: [(0, some (.arr 74 entryE es false)), (1, some (.arr 74 entryE (tableAdd ⟨cp, es⟩ e).1.entries false))])) Try.func36 rfl rfl Try.ntmps36 rfl Try.results36 rfl rfl rfl rfl (by kernel_rfl) rfl rfl ⟨trivial, (by repeat (first | exact trivial | refine ⟨⟨_, rfl, BLe.rf⟩, ?_⟩)), (by repeat (first | exact trivial | refine ⟨⟨rfl, by first | (left; intro h; cases h) | (right; rfl), by first | exact (fun _ h => ⟨_, h⟩) | exact (fun _ _ => ⟨_, rfl⟩) | (intro _ h; cases h)⟩, ?_⟩)), rfl⟩ ?_
  refine AW_seq ?_
  refine AW_region ?_
  refine AL_p (x_box 100 rfl rfl rfl rfl rfl rfl rfl) ?_
  refine AL_p (x_box 101 rfl rfl rfl rfl rfl rfl rfl) ?_
  refine AL_p (x_alloc (z := .agg #[.int .i64 0, .slice none 0 0]) 102 rfl (by kernel_rfl) rfl rfl rfl rfl) ?_
  refine AL_p (x_assign rfl rfl) ?_
  refine AL_nil ?_
  refine AW_seq ?_
  refine AW_seq ?_
  refine AW_region ?_
  refine AL_p (x_loadN (n := 2) rfl rfl rfl (by kernel_rfl) rfl rfl) ?_
  refine AL_bc (x_callR rfl rfl rfl (tableOkS_c (⟨cp, es⟩ : Tablet)) rfl AllV.rf rfl rfl rfl rfl rfl) (fun b12 h12 => ?_)
  refine AL_p (x_not rfl rfl) ?_
  refine AL_p (x_move rfl rfl) ?_
  cases b12
  · try simp only [tdy] at h12
    have hno := tableAdd_no (t := (⟨cp, es⟩ : Tablet)) (e := e) (by simp [h12])
    refine AL_o rfl rfl rfl rfl ?_
    refine AL_o rfl rfl rfl rfl ?_
    refine AL_o rfl rfl rfl rfl ?_
    refine AL_p (x_pickT rfl rfl rfl) ?_
    refine AL_nil ?_
    refine AW_condT rfl ?_
    refine AW_seq ?_
    refine AW_region ?_
    refine AL_p (x_build (zs := [.int .i64 0, .slice none 0 0]) (places := [(0, 1), (1, 1)]) rfl (by kernel_rfl) rfl rfl rfl rfl rfl) ?_
    refine AL_p (x_store (n := 2) rfl rfl rfl rfl (by kernel_rfl) rfl rfl rfl) ?_
    refine AL_p (x_assign rfl rfl) ?_
    refine AL_nil ?_
    refine AW_adopt (T := 74) (e := entryE) 108 102 1 rfl rfl rfl rfl rfl ?_
    refine AW_shallow 108 rfl ?_
    refine AW_ret ?_
    exact ⟨rn [(9, 102), (1, 108)], ⟨⟨⟨_, rfl, VLe.rf⟩, ⟨_, rfl, by refine vle_int ?_; rw [hno]⟩, trivial⟩, ⟨⟨_, rfl, by refine ble_eq ?_; rw [hno]; rfl⟩, ⟨_, rfl, BLe.rf⟩, ⟨_, rfl, by refine BLe.arr ?_; rw [hno]⟩, trivial⟩, by repeat (first | exact trivial | refine ⟨⟨rfl, by first | (left; intro h; cases h) | (right; rfl), by first | exact (fun _ h => ⟨_, h⟩) | exact (fun _ _ => ⟨_, rfl⟩) | (intro _ h; cases h)⟩, ?_⟩), rfl⟩⟩
  try simp only [tdy] at h12
  refine AL_g rfl rfl (x_loadN (n := 6) rfl rfl rfl (by kernel_rfl) rfl rfl) ?_
  refine AL_gb rfl rfl (x_call0 rfl rfl rfl (entryS_c e.epoch e.prio e.hits e.mat e.acts) rfl rfl) (fun b16 h16 => ?_)
  refine AL_g rfl rfl (x_not rfl rfl) ?_
  refine AL_p (x_pickF rfl rfl rfl) ?_
  refine AL_nil ?_
  cases b16
  · try simp only [tdy] at h16
    have hno := tableAdd_no (t := (⟨cp, es⟩ : Tablet)) (e := e) (by rw [h12]; exact h16)
    refine AW_condT rfl ?_
    refine AW_seq ?_
    refine AW_region ?_
    refine AL_p (x_build (zs := [.int .i64 0, .slice none 0 0]) (places := [(0, 1), (1, 1)]) rfl (by kernel_rfl) rfl rfl rfl rfl rfl) ?_
    refine AL_p (x_store (n := 2) rfl rfl rfl rfl (by kernel_rfl) rfl rfl rfl) ?_
    refine AL_p (x_assign rfl rfl) ?_
    refine AL_nil ?_
    refine AW_adopt (T := 74) (e := entryE) 108 102 1 rfl rfl rfl rfl rfl ?_
    refine AW_shallow 108 rfl ?_
    refine AW_ret ?_
    exact ⟨rn [(9, 102), (1, 108)], ⟨⟨⟨_, rfl, VLe.rf⟩, ⟨_, rfl, by refine vle_int ?_; rw [hno]⟩, trivial⟩, ⟨⟨_, rfl, by refine ble_eq ?_; rw [hno]; rfl⟩, ⟨_, rfl, BLe.rf⟩, ⟨_, rfl, by refine BLe.arr ?_; rw [hno]⟩, trivial⟩, by repeat (first | exact trivial | refine ⟨⟨rfl, by first | (left; intro h; cases h) | (right; rfl), by first | exact (fun _ h => ⟨_, h⟩) | exact (fun _ _ => ⟨_, rfl⟩) | (intro _ h; cases h)⟩, ?_⟩), rfl⟩⟩
  try simp only [tdy] at h16
  have hob : entryOkB e = true := h16
  have hmx : es.length ≤ 400 := tableB_max h12
  refine AW_condF rfl ?_
  refine AW_skip ?_
  refine AW_seq ?_
  refine AW_region ?_
  refine AL_p (x_loadN (n := 2) rfl rfl rfl (by kernel_rfl) rfl rfl) ?_
  refine AL_p (x_callR rfl rfl rfl (copyTabS_c (⟨cp, es⟩ : Tablet) ht 103) rfl AllV.rf rfl rfl rfl rfl rfl) ?_
  refine AL_p (x_alloc (z := .agg #[.int .i64 0, .slice none 0 0]) 104 rfl (by kernel_rfl) rfl rfl rfl rfl) ?_
  refine AL_p (x_store (n := 2) rfl rfl rfl rfl (by kernel_rfl) rfl rfl rfl) ?_
  refine AL_nil ?_
  refine AW_seq ?_
  refine AW_seq ?_
  refine AW_region ?_
  refine AL_p (x_field (off := 1) (o' := 1) rfl rfl rfl (by kernel_rfl) rfl) ?_
  refine AL_p (x_load1 rfl rfl rfl (by kernel_rfl) rfl) ?_
  refine AL_p (x_olen (E := 74) (n := 6) rfl rfl rfl (by kernel_rfl)) ?_
  refine AL_p (x_move rfl rfl) ?_
  refine AL_nil ?_
  refine AW_block ?_
  refine AW_loop2 (ι := {q : Nat // q ≤ es.length ∧ NoneTo (fun x => sameKeyB x e) es q}) (fun p => [(25, .one (.c (.int .i64 ((p.1) : Int))))]) (fun p => []) [2, 3, 4, 6, 24] [0, 100, 101, 102, 103, 104] (fun p => es.length - (p.1)) ⟨0, ⟨by omega, .zero⟩⟩ (rn []) ?_ ?_
  exact ⟨by (repeat refine ⟨⟨_, rfl, by first | exact VLe.rf | exact vle_int (by dsimp only; omega)⟩, ?_⟩); exact trivial, by (repeat refine ⟨⟨_, rfl, by first | exact BLe.rf | exact BLe.box AllC.rf | exact BLe.arr (by exact rfl)⟩, ?_⟩); exact trivial, by repeat (first | exact trivial | refine ⟨⟨rfl, by first | (left; intro h; cases h) | (right; rfl), by first | exact (fun _ h => ⟨_, h⟩) | exact (fun _ _ => ⟨_, rfl⟩) | (intro _ h; cases h)⟩, ?_⟩), rfl⟩
  rintro ⟨k, hinv⟩
  dsimp only
  obtain ⟨hk, hn⟩ := hinv
  have hk : k ≤ es.length := hk
  refine AW_seq ?_
  refine AW_region ?_
  refine AL_b (x_lss rfl rfl rfl) (fun b26 h26 => ?_)
  refine AL_nil ?_
  refine AW_seq ?_
  cases b26
  rotate_left
  · try simp only [tdy] at h26
    refine AW_condT rfl ?_
    refine AW_skip ?_
    refine AW_seq ?_
    refine AW_block ?_
    refine AW_seq ?_
    refine AW_region ?_
    refine AL_p (x_move rfl rfl) ?_
    refine AL_p (x_assign rfl rfl) ?_
    refine AL_nil ?_
    refine AW_seq ?_
    refine AW_draw rfl ?_
    refine AL_p (x_field (off := 1) (o' := 1) rfl rfl rfl (by kernel_rfl) rfl) ?_
    refine AL_p (x_load1 rfl rfl rfl (by kernel_rfl) rfl) ?_
    refine AL_p (x_move rfl rfl) ?_
    refine AL_p (x_oindex (n := 6) rfl rfl rfl rfl (by kernel_rfl) rfl (k := k) rfl (by omega)) ?_
    refine AL_p (x_oloadN (n := 6) rfl rfl rfl (by kernel_rfl) (by omega) rfl rfl) ?_
    refine AL_p (x_loadN (n := 6) rfl rfl rfl (by kernel_rfl) rfl rfl) ?_
    refine AL_b (x_call0 rfl rfl rfl (sameKeyS_c (es[k]'(by omega)) e) rfl rfl) (fun b34 h34 => ?_)
    refine AL_nild (by kernel_rfl) ?_
    cases b34
    · try simp only [tdy] at h34
      refine AW_condF rfl ?_
      refine AW_skip ?_
      refine AW_region ?_
      refine AL_p (x_add rfl rfl rfl (IntWalk.i64_in _ (by omega))) ?_
      refine AL_p (x_move rfl rfl) ?_
      refine AL_nil ?_
      refine ⟨⟨k + 1, ⟨by omega, hn.succ (by omega) h34⟩⟩, rn [], ?_, by dsimp only; omega⟩
      exact ⟨by (repeat refine ⟨⟨_, rfl, by first | exact VLe.rf | exact vle_int (by dsimp only; omega)⟩, ?_⟩); exact trivial, by (repeat refine ⟨⟨_, rfl, by first | exact BLe.rf | exact BLe.box AllC.rf | exact BLe.arr (by exact rfl)⟩, ?_⟩); exact trivial, by repeat (first | exact trivial | refine ⟨⟨rfl, by first | (left; intro h; cases h) | (right; rfl), by first | exact (fun _ h => ⟨_, h⟩) | exact (fun _ _ => ⟨_, rfl⟩) | (intro _ h; cases h)⟩, ?_⟩), rfl⟩
    try simp only [tdy] at h34
    have hno := tableAdd_set (t := (⟨cp, es⟩ : Tablet)) h12 hob (k := k) (firstIdx_at (xs := es) (by omega) (fun j hj hjk => hn j hj hjk) h34)
    refine AW_condT rfl ?_
    refine AW_seq ?_
    refine AW_draw rfl ?_
    refine AL_p (x_field (off := 1) (o' := 1) rfl rfl rfl (by kernel_rfl) rfl) ?_
    refine AL_p (x_load1 rfl rfl rfl (by kernel_rfl) rfl) ?_
    refine AL_p (x_move rfl rfl) ?_
    refine AL_p (x_loadN (n := 6) rfl rfl rfl (by kernel_rfl) rfl rfl) ?_
    refine AL_p (x_callR rfl rfl rfl (AC.renum (res := .agg [.c (.int .i64 e.epoch), .c (.int .i64 e.prio), .own 105, .own 106, .own 107, .c (.int .i64 e.hits)]) (L := [(105, some (.arr 3 (intE .i64) e.mat.v true)), (106, some (.arr 3 (intE .i64) e.mat.m true)), (107, some (.arr 114 actE e.acts true))]) (r := rn [(105, 0), (106, 1), (107, 2)]) (copyEntS_c e he) ⟨⟨_, rfl, BLe.rf⟩, ⟨_, rfl, BLe.rf⟩, ⟨_, rfl, BLe.rf⟩, trivial⟩ rfl) rfl AllV.rf rfl rfl rfl rfl rfl) ?_
    refine AL_p (x_oindex (n := 6) rfl rfl rfl rfl (by kernel_rfl) rfl (k := k) rfl (by omega)) ?_
    refine AL_p (x_ostore (e) rfl rfl rfl rfl (by kernel_rfl) rfl rfl rfl rfl FitL.rf rfl rfl (by first | omega | (rw [filledTo_len (by omega)]; omega) | (simp; omega))) ?_
    refine AL_nild (by kernel_rfl) ?_
    refine AW_seq ?_
    refine AW_region ?_
    refine AL_p (x_loadN (n := 2) rfl rfl rfl (by kernel_rfl) rfl rfl) ?_
    refine AL_p (x_store (n := 2) rfl rfl rfl rfl (by kernel_rfl) rfl rfl rfl) ?_
    refine AL_p (x_assign rfl rfl) ?_
    refine AL_nil ?_
    refine AW_shallow 103 rfl ?_
    refine AW_ret (BQ_ret (BQ_ret ?_))
    exact ⟨rn [(9, 102), (1, 103)], ⟨⟨⟨_, rfl, VLe.rf⟩, ⟨_, rfl, by refine vle_int ?_; rw [hno]⟩, trivial⟩, ⟨⟨_, rfl, by refine ble_eq ?_; rw [hno]; rfl⟩, ⟨_, rfl, BLe.rf⟩, ⟨_, rfl, by refine BLe.arr ?_; rw [hno]⟩, trivial⟩, by repeat (first | exact trivial | refine ⟨⟨rfl, by first | (left; intro h; cases h) | (right; rfl), by first | exact (fun _ h => ⟨_, h⟩) | exact (fun _ _ => ⟨_, rfl⟩) | (intro _ h; cases h)⟩, ?_⟩), rfl⟩⟩
  try simp only [tdy] at h26
  obtain rfl : k = es.length := by omega
  have hk0 : (keyIdx es e) < 0 := by have q : (keyIdx es e) = -1 := hn.none; rw [q]; decide
  refine AW_condF rfl ?_
  refine AW_exit (BQ_hit ?_)
  refine AW_seq ?_
  refine AW_seq ?_
  refine AW_region ?_
  refine AL_p (x_field (off := 1) (o' := 1) rfl rfl rfl (by kernel_rfl) rfl) ?_
  refine AL_p (x_load1 rfl rfl rfl (by kernel_rfl) rfl) ?_
  refine AL_p (x_olen (E := 74) (n := 6) rfl rfl rfl (by kernel_rfl)) ?_
  refine AL_p (x_field (off := 0) (o' := 0) rfl rfl rfl (by kernel_rfl) rfl) ?_
  refine AL_p (x_load1 rfl rfl rfl (by kernel_rfl) rfl) ?_
  refine AL_b (x_eql rfl rfl rfl) (fun b48 h48 => ?_)
  refine AL_nil ?_
  cases b48
  rotate_left
  · try simp only [tdy] at h48
    have hno := tableAdd_full h12 hob hk0 h48
    refine AW_condT rfl ?_
    refine AW_seq ?_
    refine AW_region ?_
    refine AL_p (x_build (zs := [.int .i64 0, .slice none 0 0]) (places := [(0, 1), (1, 1)]) rfl (by kernel_rfl) rfl rfl rfl rfl rfl) ?_
    refine AL_p (x_store (n := 2) rfl rfl rfl rfl (by kernel_rfl) rfl rfl rfl) ?_
    refine AL_p (x_assign rfl rfl) ?_
    refine AL_nil ?_
    refine AW_adopt (T := 74) (e := entryE) 108 102 1 rfl rfl rfl rfl rfl ?_
    refine AW_shallow 108 rfl ?_
    refine AW_ret ?_
    exact ⟨rn [(9, 102), (1, 108)], ⟨⟨⟨_, rfl, VLe.rf⟩, ⟨_, rfl, by refine vle_int ?_; rw [hno]⟩, trivial⟩, ⟨⟨_, rfl, by refine ble_eq ?_; rw [hno]; rfl⟩, ⟨_, rfl, BLe.rf⟩, ⟨_, rfl, by refine BLe.arr ?_; rw [hno]⟩, trivial⟩, by repeat (first | exact trivial | refine ⟨⟨rfl, by first | (left; intro h; cases h) | (right; rfl), by first | exact (fun _ h => ⟨_, h⟩) | exact (fun _ _ => ⟨_, rfl⟩) | (intro _ h; cases h)⟩, ?_⟩), rfl⟩⟩
  try simp only [tdy] at h48
  refine AW_condF rfl ?_
  refine AW_skip ?_
  refine AW_seq ?_
  refine AW_shutB 103 104 1 rfl rfl rfl rfl ?_
  refine AW_region ?_
  refine AL_p (y_bslice0 (E := 74) (e := entryE) 109 rfl rfl rfl (by kernel_rfl)) ?_
  refine AL_p (x_assign rfl rfl) ?_
  refine AL_nil ?_
  refine AW_seq ?_
  refine AW_seq ?_
  refine AW_region ?_
  refine AL_p (x_field (off := 1) (o' := 1) rfl rfl rfl (by kernel_rfl) rfl) ?_
  refine AL_p (x_load1 rfl rfl rfl (by kernel_rfl) rfl) ?_
  refine AL_p (x_len (E := 74) (n := 6) rfl rfl (by kernel_rfl)) ?_
  refine AL_p (x_move rfl rfl) ?_
  refine AL_nil ?_
  refine AW_block ?_
  refine AW_shallow 109 rfl ?_
  refine AW_loop2 (ι := {q : Nat // q ≤ es.length}) (fun p => [(8, .one (.own 109)), (54, .one (.c (.int .i64 ((p.1) : Int))))]) (fun p => [(109, some (.arr 74 entryE (filtTo (fun x => !aheadB e x) es (p.1)) false))]) [3, 4, 6, 53] [0, 100, 101, 102, 104] (fun p => es.length - (p.1)) ⟨0, by omega⟩ (rn []) ?_ ?_
  exact ⟨by (repeat refine ⟨⟨_, rfl, by first | exact VLe.rf | exact vle_int (by dsimp only; omega)⟩, ?_⟩); exact trivial, by (repeat refine ⟨⟨_, rfl, by first | exact BLe.rf | exact BLe.box AllC.rf | exact BLe.arr (by first | exact filtTo_zero | (refine filtTo_yes (by omega) ?_; simp [h63]) | (refine filtTo_no (by omega) ?_; simp [h63]))⟩, ?_⟩); exact trivial, by repeat (first | exact trivial | refine ⟨⟨rfl, by first | (left; intro h; cases h) | (right; rfl), by first | exact (fun _ h => ⟨_, h⟩) | exact (fun _ _ => ⟨_, rfl⟩) | (intro _ h; cases h)⟩, ?_⟩), rfl⟩
  rintro ⟨k, hinv⟩
  dsimp only
  have hk := hinv
  refine AW_seq ?_
  refine AW_region ?_
  refine AL_b (x_lss rfl rfl rfl) (fun b55 h55 => ?_)
  refine AL_nil ?_
  refine AW_seq ?_
  cases b55
  rotate_left
  · try simp only [tdy] at h55
    refine AW_condT rfl ?_
    refine AW_skip ?_
    refine AW_seq ?_
    refine AW_block ?_
    refine AW_seq ?_
    refine AW_region ?_
    refine AL_p (x_move rfl rfl) ?_
    refine AL_p (x_assign rfl rfl) ?_
    refine AL_nil ?_
    refine AW_seq ?_
    refine AW_draw rfl ?_
    refine AL_p (x_loadN (n := 6) rfl rfl rfl (by kernel_rfl) rfl rfl) ?_
    refine AL_p (x_field (off := 1) (o' := 1) rfl rfl rfl (by kernel_rfl) rfl) ?_
    refine AL_p (x_load1 rfl rfl rfl (by kernel_rfl) rfl) ?_
    refine AL_p (x_move rfl rfl) ?_
    refine AL_p (x_index (E := 74) (n := 6) rfl rfl rfl (by kernel_rfl) rfl (k := k) (by omega) (by omega)) ?_
    refine AL_p (x_eloadW (n := 6) rfl rfl (by kernel_rfl) rfl) ?_
    refine AL_b (x_call0 rfl rfl rfl (aheadS_c e (es[k]'(by omega))) rfl rfl) (fun b63 h63 => ?_)
    refine AL_p (x_not rfl rfl) ?_
    refine AL_nild (by kernel_rfl) ?_
    cases b63
    rotate_left
    · try simp only [tdy] at h63
      refine AW_condF rfl ?_
      refine AW_skip ?_
      refine AW_region ?_
      refine AL_p (x_add rfl rfl rfl (IntWalk.i64_in _ (by omega))) ?_
      refine AL_p (x_move rfl rfl) ?_
      refine AL_nil ?_
      refine ⟨⟨k + 1, by omega⟩, rn [], ?_, by dsimp only; omega⟩
      exact ⟨by (repeat refine ⟨⟨_, rfl, by first | exact VLe.rf | exact vle_int (by dsimp only; omega)⟩, ?_⟩); exact trivial, by (repeat refine ⟨⟨_, rfl, by first | exact BLe.rf | exact BLe.box AllC.rf | exact BLe.arr (by first | exact filtTo_zero | (refine filtTo_yes (by omega) ?_; simp [h63]) | (refine filtTo_no (by omega) ?_; simp [h63]))⟩, ?_⟩); exact trivial, by repeat (first | exact trivial | refine ⟨⟨rfl, by first | (left; intro h; cases h) | (right; rfl), by first | exact (fun _ h => ⟨_, h⟩) | exact (fun _ _ => ⟨_, rfl⟩) | (intro _ h; cases h)⟩, ?_⟩), rfl⟩
    try simp only [tdy] at h63
    refine AW_condT rfl ?_
    refine AW_region ?_
    refine AL_p (x_move rfl rfl) ?_
    refine AL_p (x_field (off := 1) (o' := 1) rfl rfl rfl (by kernel_rfl) rfl) ?_
    refine AL_p (x_load1 rfl rfl rfl (by kernel_rfl) rfl) ?_
    refine AL_p (x_move rfl rfl) ?_
    refine AL_p (x_index (E := 74) (n := 6) rfl rfl rfl (by kernel_rfl) rfl (k := k) (by omega) (by omega)) ?_
    refine AL_p (x_eloadW (n := 6) rfl rfl (by kernel_rfl) rfl) ?_
    refine AL_p (y_bslice (E := 74) (e := entryE) [.tmp 70] ([(es[k]'(by omega))]) 110 rfl rfl rfl rfl rfl rfl rfl rfl FitL.rf rfl rfl rfl rfl rfl rfl (by kernel_rfl)) ?_
    refine AL_p (y_append 111 rfl rfl rfl rfl rfl rfl rfl rfl (by kernel_rfl) (by have := filtTo_len (p := (fun x => !aheadB e x)) (rows := es) (k := k); simp only [List.length_cons, List.length_nil]; omega)) ?_
    refine AL_p (x_assign rfl rfl) ?_
    refine AL_nil ?_
    refine AW_region ?_
    refine AL_p (x_add rfl rfl rfl (IntWalk.i64_in _ (by omega))) ?_
    refine AL_p (x_move rfl rfl) ?_
    refine AL_nil ?_
    refine ⟨⟨k + 1, by omega⟩, rn [(109, 111)], ?_, by dsimp only; omega⟩
    exact ⟨by (repeat refine ⟨⟨_, rfl, by first | exact VLe.rf | exact vle_int (by dsimp only; omega)⟩, ?_⟩); exact trivial, by (repeat refine ⟨⟨_, rfl, by first | exact BLe.rf | exact BLe.box AllC.rf | exact BLe.arr (by first | exact filtTo_zero | (refine filtTo_yes (by omega) ?_; simp [h63]) | (refine filtTo_no (by omega) ?_; simp [h63]))⟩, ?_⟩); exact trivial, by repeat (first | exact trivial | refine ⟨⟨rfl, by first | (left; intro h; cases h) | (right; rfl), by first | exact (fun _ h => ⟨_, h⟩) | exact (fun _ _ => ⟨_, rfl⟩) | (intro _ h; cases h)⟩, ?_⟩), rfl⟩
  try simp only [tdy] at h55
  have hs3 := tableAdd_two (t := (⟨cp, es⟩ : Tablet)) (e := e) (k := k) (by dsimp only; omega)
  refine AW_condF rfl ?_
  refine AW_exit (BQ_hit ?_)
  refine AW_seq ?_
  refine AW_region ?_
  refine AL_p (x_move rfl rfl) ?_
  refine AL_p (x_loadN (n := 6) rfl rfl rfl (by kernel_rfl) rfl rfl) ?_
  refine AL_p (x_callR rfl rfl rfl (AC.renum (res := .agg [.c (.int .i64 e.epoch), .c (.int .i64 e.prio), .own 112, .own 113, .own 114, .c (.int .i64 e.hits)]) (L := [(112, some (.arr 3 (intE .i64) e.mat.v true)), (113, some (.arr 3 (intE .i64) e.mat.m true)), (114, some (.arr 114 actE e.acts true))]) (r := rn [(112, 0), (113, 1), (114, 2)]) (copyEntS_c e he) ⟨⟨_, rfl, BLe.rf⟩, ⟨_, rfl, BLe.rf⟩, ⟨_, rfl, BLe.rf⟩, trivial⟩ rfl) rfl AllV.rf rfl rfl rfl rfl rfl) ?_
  refine AL_p (y_bslice (E := 74) (e := entryE) [.tmp 76] ([e]) 115 rfl rfl rfl rfl rfl rfl rfl rfl FitL.rf rfl rfl rfl rfl rfl rfl (by kernel_rfl)) ?_
  refine AL_p (y_append 116 rfl rfl rfl rfl rfl rfl rfl rfl (by kernel_rfl) (by have := filtTo_len (p := (fun x => !aheadB e x)) (rows := es) (k := k); simp only [List.length_cons, List.length_nil]; omega)) ?_
  refine AL_p (x_assign rfl rfl) ?_
  refine AL_nil ?_
  refine AW_seq ?_
  refine AW_seq ?_
  refine AW_region ?_
  refine AL_p (x_field (off := 1) (o' := 1) rfl rfl rfl (by kernel_rfl) rfl) ?_
  refine AL_p (x_load1 rfl rfl rfl (by kernel_rfl) rfl) ?_
  refine AL_p (x_len (E := 74) (n := 6) rfl rfl (by kernel_rfl)) ?_
  refine AL_p (x_move rfl rfl) ?_
  refine AL_nil ?_
  refine AW_block ?_
  refine AW_loop2 (ι := {q : Nat // q ≤ es.length}) (fun p => [(8, .one (.own 116)), (82, .one (.c (.int .i64 ((p.1) : Int))))]) (fun p => [(116, some (.arr 74 entryE (es.filter (fun x => !aheadB e x) ++ [e] ++ filtTo (fun x => aheadB e x) es (p.1)) false))]) [3, 4, 6, 81] [0, 100, 101, 102, 104] (fun p => es.length - (p.1)) ⟨0, by omega⟩ (rn []) ?_ ?_
  exact ⟨by (repeat refine ⟨⟨_, rfl, by first | exact VLe.rf | exact vle_int (by dsimp only; omega)⟩, ?_⟩); exact trivial, by (repeat refine ⟨⟨_, rfl, by first | exact BLe.rf | exact BLe.box AllC.rf | exact BLe.arr (by first | exact hs3 | (rw [List.append_assoc, filtTo_yes (by omega) h91]) | (rw [filtTo_no (by omega) h91]))⟩, ?_⟩); exact trivial, by repeat (first | exact trivial | refine ⟨⟨rfl, by first | (left; intro h; cases h) | (right; rfl), by first | exact (fun _ h => ⟨_, h⟩) | exact (fun _ _ => ⟨_, rfl⟩) | (intro _ h; cases h)⟩, ?_⟩), rfl⟩
  rintro ⟨k, hinv⟩
  dsimp only
  have hk := hinv
  refine AW_seq ?_
  refine AW_region ?_
  refine AL_b (x_lss rfl rfl rfl) (fun b83 h83 => ?_)
  refine AL_nil ?_
  refine AW_seq ?_
  cases b83
  · try simp only [tdy] at h83
    have hno := tableAdd_put' h12 hob hk0 h48 (k := k) (by dsimp only; omega)
    refine AW_condF rfl ?_
    refine AW_exit (BQ_hit ?_)
    refine AW_seq ?_
    refine AW_region ?_
    refine AL_p (x_move rfl rfl) ?_
    refine AL_p (x_field (off := 1) (o' := 1) rfl rfl rfl (by kernel_rfl) rfl) ?_
    refine AL_p (x_store (n := 1) rfl rfl rfl rfl (by kernel_rfl) rfl rfl rfl) ?_
    refine AL_nil ?_
    refine AW_seq ?_
    refine AW_region ?_
    refine AL_p (x_loadN (n := 2) rfl rfl rfl (by kernel_rfl) rfl rfl) ?_
    refine AL_p (x_store (n := 2) rfl rfl rfl rfl (by kernel_rfl) rfl rfl rfl) ?_
    refine AL_p (x_assign rfl rfl) ?_
    refine AL_nil ?_
    refine AW_shallow 116 rfl ?_
    refine AW_ret ?_
    exact ⟨rn [(9, 102), (1, 116)], ⟨⟨⟨_, rfl, VLe.rf⟩, ⟨_, rfl, by refine vle_int ?_; rw [hno]⟩, trivial⟩, ⟨⟨_, rfl, by refine ble_eq ?_; rw [hno]; rfl⟩, ⟨_, rfl, BLe.rf⟩, ⟨_, rfl, by refine BLe.arr ?_; rw [hno]⟩, trivial⟩, by repeat (first | exact trivial | refine ⟨⟨rfl, by first | (left; intro h; cases h) | (right; rfl), by first | exact (fun _ h => ⟨_, h⟩) | exact (fun _ _ => ⟨_, rfl⟩) | (intro _ h; cases h)⟩, ?_⟩), rfl⟩⟩
  try simp only [tdy] at h83
  refine AW_condT rfl ?_
  refine AW_skip ?_
  refine AW_seq ?_
  refine AW_block ?_
  refine AW_seq ?_
  refine AW_region ?_
  refine AL_p (x_move rfl rfl) ?_
  refine AL_p (x_assign rfl rfl) ?_
  refine AL_nil ?_
  refine AW_seq ?_
  refine AW_draw rfl ?_
  refine AL_p (x_loadN (n := 6) rfl rfl rfl (by kernel_rfl) rfl rfl) ?_
  refine AL_p (x_field (off := 1) (o' := 1) rfl rfl rfl (by kernel_rfl) rfl) ?_
  refine AL_p (x_load1 rfl rfl rfl (by kernel_rfl) rfl) ?_
  refine AL_p (x_move rfl rfl) ?_
  refine AL_p (x_index (E := 74) (n := 6) rfl rfl rfl (by kernel_rfl) rfl (k := k) (by omega) (by omega)) ?_
  refine AL_p (x_eloadW (n := 6) rfl rfl (by kernel_rfl) rfl) ?_
  refine AL_b (x_call0 rfl rfl rfl (aheadS_c e (es[k]'(by omega))) rfl rfl) (fun b91 h91 => ?_)
  refine AL_nild (by kernel_rfl) ?_
  cases b91
  · try simp only [tdy] at h91
    refine AW_condF rfl ?_
    refine AW_skip ?_
    refine AW_region ?_
    refine AL_p (x_add rfl rfl rfl (IntWalk.i64_in _ (by omega))) ?_
    refine AL_p (x_move rfl rfl) ?_
    refine AL_nil ?_
    refine ⟨⟨k + 1, by omega⟩, rn [], ?_, by dsimp only; omega⟩
    exact ⟨by (repeat refine ⟨⟨_, rfl, by first | exact VLe.rf | exact vle_int (by dsimp only; omega)⟩, ?_⟩); exact trivial, by (repeat refine ⟨⟨_, rfl, by first | exact BLe.rf | exact BLe.box AllC.rf | exact BLe.arr (by first | exact hs3 | (rw [List.append_assoc, filtTo_yes (by omega) h91]) | (rw [filtTo_no (by omega) h91]))⟩, ?_⟩); exact trivial, by repeat (first | exact trivial | refine ⟨⟨rfl, by first | (left; intro h; cases h) | (right; rfl), by first | exact (fun _ h => ⟨_, h⟩) | exact (fun _ _ => ⟨_, rfl⟩) | (intro _ h; cases h)⟩, ?_⟩), rfl⟩
  try simp only [tdy] at h91
  refine AW_condT rfl ?_
  refine AW_region ?_
  refine AL_p (x_move rfl rfl) ?_
  refine AL_p (x_field (off := 1) (o' := 1) rfl rfl rfl (by kernel_rfl) rfl) ?_
  refine AL_p (x_load1 rfl rfl rfl (by kernel_rfl) rfl) ?_
  refine AL_p (x_move rfl rfl) ?_
  refine AL_p (x_index (E := 74) (n := 6) rfl rfl rfl (by kernel_rfl) rfl (k := k) (by omega) (by omega)) ?_
  refine AL_p (x_eloadW (n := 6) rfl rfl (by kernel_rfl) rfl) ?_
  refine AL_p (y_bslice (E := 74) (e := entryE) [.tmp 97] ([(es[k]'(by omega))]) 117 rfl rfl rfl rfl rfl rfl rfl rfl FitL.rf rfl rfl rfl rfl rfl rfl (by kernel_rfl)) ?_
  refine AL_p (y_append 118 rfl rfl rfl rfl rfl rfl rfl rfl (by kernel_rfl) (by have := filtTo_len (p := (fun x => aheadB e x)) (rows := es) (k := k); have := List.length_filter_le (fun x => !aheadB e x) es; simp only [List.length_append, List.length_cons, List.length_nil]; omega)) ?_
  refine AL_p (x_assign rfl rfl) ?_
  refine AL_nil ?_
  refine AW_region ?_
  refine AL_p (x_add rfl rfl rfl (IntWalk.i64_in _ (by omega))) ?_
  refine AL_p (x_move rfl rfl) ?_
  refine AL_nil ?_
  refine ⟨⟨k + 1, by omega⟩, rn [(116, 118)], ?_, by dsimp only; omega⟩
  exact ⟨by (repeat refine ⟨⟨_, rfl, by first | exact VLe.rf | exact vle_int (by dsimp only; omega)⟩, ?_⟩); exact trivial, by (repeat refine ⟨⟨_, rfl, by first | exact BLe.rf | exact BLe.box AllC.rf | exact BLe.arr (by first | exact hs3 | (rw [List.append_assoc, filtTo_yes (by omega) h91]) | (rw [filtTo_no (by omega) h91]))⟩, ?_⟩); exact trivial, by repeat (first | exact trivial | refine ⟨⟨rfl, by first | (left; intro h; cases h) | (right; rfl), by first | exact (fun _ h => ⟨_, h⟩) | exact (fun _ _ => ⟨_, rfl⟩) | (intro _ h; cases h)⟩, ?_⟩), rfl⟩
end Go.Proofs.Ytfdpigafekohgaa

/- The abstract walk: a field of an element of an own array written anew. -/
namespace Go.Proofs.Ytfdpigafekohgaa
open Go.RowKit
set_option linter.unusedVariables false
section ops
variable {P : Program} {N : Nat} {s : St} {ty : TypeId} {pos : String} {after : Array Edge} {gd : Option (Nat × Bool)}
theorem x_ofstore {α : Type} {e : Enc α} {f : α → List Cell} [hc : CellsOf e f] {T E n i k o : Nat} {x y : Operand} {X : AVal} {xs : List α} (x' : α) {A B C ds ds' : List Cell} {js : List Nat} {d1 d2 : Bool} (h : evo s.t x = some (.one (.optr k i o))) (hl : lkl s.l k = some (.arr E e xs d1)) (h2 : evo s.t y = some X) (hf : X.flat = true)
    (hT : sizeT P T = some n) (hn : X.cells.length = n) (hsol : X.cells.all (solid s.l) = true) (hmv : mvC s.l X.cells = some (ds, js, d2)) (hfit : FitL ds ds') (hnd : noDup js = true) (hkj : noId k js = true) (hi : i < xs.length)
    (hA : f xs[i] = A ++ (B ++ C)) (hAo : A.length = o) (hB : B.length = n) (hx' : f x' = A ++ (ds' ++ C)) :
    Stp P N ⟨none, .store T x y, ty, pos, after, gd⟩ s ⟨s.t, (k, some (.arr E e (xs.set i x') (d1 && d2))) :: (gones js ++ s.l)⟩ ⟨rdo x (.one (.optr k i o)) ++ rdo y X, (k, .arr E e xs d1) :: rlC s.l X.cells, [], (k, some (.arr E e (xs.set i x') (d1 && d2))) :: gones js, []⟩ := by
  refine ⟨fun K g s' a w hpre r => ?_, ⟨two_rd h h2, fun p hp => by
    rcases List.mem_cons.1 hp with rfl | hp
    · exact hl
    · exact rlC_self p hp, by simp⟩, by simp [Cert.upd]⟩
  obtain ⟨p1, p2, _⟩ := hpre
  have hk : lkl s'.l k = some (.arr E e xs d1) := p2 (k, .arr E e xs d1) (List.mem_cons_self ..)
  have p2' : ∀ p ∈ rlC s.l X.cells, lkl s'.l p.1 = some p.2 := fun p hp => p2 p (List.mem_cons_of_mem _ hp)
  have ha : a.eval x = .pointer (some ⟨g.ρ k, i * e.size + o, none⟩) := (eval_ok r (evs_of h) fun p hm => p1 p (List.mem_append_left _ hm) : CellR g s'.l w _ (.optr k i o)) _ _ _ _ _ hk
  have hv := eval_ok r (evs_of h2) fun p hm => p1 p (List.mem_append_right _ hm)
  have hs' : X.cells.all (solid s'.l) = true := List.all_eq_true.2 fun z hz => solid_of p2' hz (List.all_eq_true.1 hsol z hz)
  have hall := vr1_cells hs' r.mem hv hf
  have hmv' := mvC_of hmv p2'
  have hjn := noDup_of hnd
  have hkj' := noId_of hkj
  have hgone : ∀ j ∈ js, ∃ (α : Type) (T : TypeId) (e : Enc α) (xs : List α) (d : Bool), lkl s'.l j = some (.arr T e xs d) := fun j hj => (mvC_gone hmv' j hj).1
  obtain ⟨b', f1, f2, f3⟩ := mvC_ok r.mem hall hmv' hjn
  have hlen : (a.eval y).cells.size = n := by rw [← hn]; simpa using hall.len
  have hll : (a.eval y).cells.toList.length = n := by simpa using hlen
  rcases r.mem.arr k _ _ _ _ _ hk with ⟨rfl, _⟩ | ⟨cap, vs, bss, g1, g2, g3, g4, g5, g6, g7, g8, g9⟩
  · simp at hi
  have hlv : g.hd k ≠ .slice none 0 0 := by rw [g1]; intro e; cases e
  have hib : i < bss.length := by rw [g6.1]; exact hi
  obtain ⟨us, hus, hcell⟩ := g6.2 i xs[i] bss[i] (List.getElem?_eq_getElem hi) (List.getElem?_eq_getElem hib)
  have hul := e.len hus
  have hfr := hc.iff.1 hus
  rw [hA] at hfr
  obtain ⟨u1, ur, c1, cr, eu, ec, fr1, fr2⟩ := FR.app.1 hfr
  obtain ⟨u2, u3, c2, c3, eu2, ec2, fr3, fr4⟩ := FR.app.1 fr2
  have l1 : u1.length = o := by rw [fr1.length]; exact hAo
  have l2 : u2.length = n := by rw [fr3.length]; exact hB
  subst eu; subst eu2
  have l3 : o + n + u3.length = e.size := by rw [← hul]; simp [l1, l2]; omega
  have hfitc : i * e.size + o + n ≤ vs.size := by
    rw [g5]
    have : (i + 1) * e.size ≤ cap * e.size := Nat.mul_le_mul_right _ (by omega)
    rw [Nat.add_mul] at this; omega
  have one : ∀ v ∈ (a.eval y).cells.toList, v.oneCell' = true := FR.one f1
  have hst := run_storeCells_at P (g.ρ k) (i * e.size + o) E (a.eval y).cells.toList 0 vs w g4 (by rw [hll]; simpa using hfitc) one
  generalize hnew : (vs.toList.take (i * e.size + o) ++ (a.eval y).cells.toList ++ vs.toList.drop (i * e.size + o + (a.eval y).cells.toList.length)).toArray = new at *
  have hng : ∀ q, new[q]? = if i * e.size + o ≤ q ∧ q < i * e.size + o + n then (a.eval y).cells.toList[q - (i * e.size + o)]? else vs[q]? := fun q => by
    rw [← hnew, List.getElem?_toArray]
    have hl0 : (vs.toList.take (i * e.size + o)).length = i * e.size + o := by simp; omega
    rcases Nat.lt_or_ge q (i * e.size + o) with hq | hq
    · rw [if_neg (by omega), List.append_assoc, List.getElem?_append_left (by omega), List.getElem?_take, if_pos hq]; simp
    · rw [List.append_assoc, List.getElem?_append_right (by omega), hl0]
      rcases Nat.lt_or_ge q (i * e.size + o + n) with hq2 | hq2
      · rw [if_pos ⟨hq, hq2⟩, List.getElem?_append_left (by omega)]
      · rw [if_neg (by omega), List.getElem?_append_right (by omega), List.getElem?_drop, hll, show i * e.size + o + n + (q - (i * e.size + o) - n) = q by omega]; simp
  have hns : new.size = vs.size := by rw [← hnew]; simp; omega
  have hwk : (w.setRow (g.ρ k) new).heap[g.ρ k]? = some (.cells new E (0, 0)) := setRow_heap w _ _ _ E _ g4
  have hwo : ∀ b, b ≠ g.ρ k → (w.setRow (g.ρ k) new).heap[b]? = w.heap[b]? := fun b hb => setRow_other w _ b _ hb
  have hsz : (w.setRow (g.ρ k) new).heap.size = w.heap.size := by simp
  have hbk' : ∀ b ∈ b', b ≠ g.ρ k := fun b hb eq => by
    rcases f2 b hb with h3 | ⟨j, hj, h3, h4⟩
    · exact g8 (eq ▸ h3)
    · obtain ⟨_, _, _, _, _, h5⟩ := hgone j hj
      exact r.mem.dis j k _ _ (fun e => hkj' (e ▸ hj)) h5 hk h3 hlv (h4 ▸ eq)
  have hold : ∀ b ∈ bss[i], b ∈ bss.flatten := fun b hb => List.mem_flatten.2 ⟨_, List.getElem_mem hib, hb⟩
  have hc1 : ∀ b ∈ c1, b ∈ bss[i] := fun b hb => by rw [ec]; exact List.mem_append_left _ hb
  have hc3 : ∀ b ∈ c3, b ∈ bss[i] := fun b hb => by rw [ec, ec2]; exact List.mem_append_right _ (List.mem_append_right _ hb)
  have hbn : ∀ b ∈ c1 ++ (b' ++ c3), b ∈ b' ∨ b ∈ bss[i] := fun b hb => by
    rcases List.mem_append.1 hb with hb | hb
    · exact .inr (hc1 b hb)
    · rcases List.mem_append.1 hb with hb | hb
      · exact .inl hb
      · exact .inr (hc3 b hb)
  have hbk : ∀ b ∈ c1 ++ (b' ++ c3), b ≠ g.ρ k := fun b hb eq => by
    rcases hbn b hb with hb | hb
    · exact hbk' b hb eq
    · exact g8 (eq ▸ g7 b (hold b hb))
  have hrep : e.rep w (u1 ++ ((a.eval y).cells.toList ++ u3)) x' (c1 ++ (b' ++ c3)) := hc.iff.2 (by
    rw [hx']
    exact FR.app.2 ⟨u1, _, c1, _, rfl, rfl, fr1, FR.app.2 ⟨_, u3, b', c3, rfl, rfl, f1.fit hfit, fr4⟩⟩)
  have hE := g6.upd (w' := w.setRow (g.ρ k) new) (k := i) (x' := x') (b' := c1 ++ (b' ++ c3)) (e.keep hrep (fun b hb => hwo b (hbk b hb)) (Nat.le_of_eq hsz.symm)) (fun j u hu => by
      have hj := (List.getElem?_eq_some_iff.1 hu).1
      simp only [List.length_append, l1, hll] at hj
      rw [cell_of_heap hwk, hng]
      by_cases h1 : j < o
      · rw [if_neg (by omega)]
        rw [List.getElem?_append_left (by omega)] at hu
        have := hcell j u (by rw [List.getElem?_append_left (by omega)]; exact hu)
        rw [cell_of_heap g4] at this; exact this
      · rw [List.getElem?_append_right (by omega), l1] at hu
        by_cases h2 : j - o < n
        · rw [if_pos (by omega), show 0 + i * e.size + j - (i * e.size + o) = j - o by omega]
          rw [List.getElem?_append_left (by omega)] at hu; exact hu
        · rw [if_neg (by omega)]
          rw [List.getElem?_append_right (by omega), hll] at hu
          have := hcell j u (by rw [List.getElem?_append_right (by omega), List.getElem?_append_right (by omega), l1, l2]; exact hu)
          rw [cell_of_heap g4] at this; exact this) (fun q hq => by
      rw [cell_of_heap hwk, hng, cell_of_heap g4, if_neg (by rw [Nat.add_mul] at hq; omega)]) (fun q b hq hb c hcb => hwo c fun eq => g8 (eq ▸ g7 c (List.mem_flatten.2 ⟨b, List.mem_of_getElem? hb, hcb⟩))) (Nat.le_of_eq hsz.symm)
  have hmem : ∀ b ∈ (bss.set i (c1 ++ (b' ++ c3))).flatten, g.I b ∨ liveA g js b := fun b hb => by
    rcases flatten_set bss hib b hb with h3 | h3
    · rcases hbn b h3 with h3 | h3
      · exact f2 b h3
      · exact .inl (g7 b (hold b h3))
    · exact .inl (g7 b h3)
  obtain ⟨g', q1, q2, q3, q4, q5, q6, q7⟩ := arr_put (w' := w.setRow (g.ρ k) new) r.mem hk hlv hkj' hgone (xs := xs.set i x') (d := d1 && d2) (fp := (bss.set i (c1 ++ (b' ++ c3))).flatten) rfl rfl rfl hsz hwo
    (.inr ⟨cap, new, bss.set i (c1 ++ (b' ++ c3)), by rw [List.length_set]; exact g1, by rw [List.length_set]; exact g2, g3, hwk, hns.trans g5, hE, hmem, (fun hI => by
      rcases hI with hI | ⟨j, hj, h3, h4⟩
      · exact g8 hI
      · obtain ⟨_, _, _, _, _, h5⟩ := hgone j hj
        exact r.mem.dis j k _ _ (fun e => hkj' (e ▸ hj)) h5 hk h3 hlv h4.symm), fun _ => setAt_self⟩)
    (fun hd => by
      simp only [Bool.and_eq_true] at hd
      obtain ⟨rfl, rfl⟩ := hd
      obtain ⟨n1, n2⟩ := f3 rfl
      have hF := g9 rfl
      have hvk : ∀ b ∈ bss.flatten, Via g s'.l k b := fun b hb => ⟨α, E, e, xs, hk, .inr (by rw [hF]; exact hb)⟩
      have hfn : bss.flatten.Nodup := by rw [← hF]; exact (r.mem.fr k _ _ _ _ hk).1
      have hin : bss[i].Nodup := (List.pairwise_flatten.1 hfn).1 _ (List.getElem_mem hib)
      have hdj : ∀ c ∈ b', c ∉ bss.flatten := fun c hcb h3 => by
        obtain ⟨j, hj, hvj⟩ := n2 c hcb
        exact hkj' ((hvk c h3).disj r.mem hvj ▸ hj)
      have hnn : (c1 ++ (b' ++ c3)).Nodup := by
        rw [ec, ec2] at hin
        have h1 := List.nodup_append.1 hin
        have h2 := List.nodup_append.1 h1.2.1
        refine List.nodup_append.2 ⟨h1.1, List.nodup_append.2 ⟨n1, h2.2.1, fun x hx y hy e => ?_⟩, fun x hx y hy e => ?_⟩
        · subst e; exact hdj x hx (hold x (hc3 x hy))
        · subst e
          rcases List.mem_append.1 hy with hy | hy
          · exact hdj x hy (hold x (hc1 x hx))
          · exact h1.2.2 x hx x (List.mem_append_right _ hy) rfl
      refine ⟨nodup_set hnn bss i hib hfn (fun c hcb => by
        rcases hbn c hcb with h3 | h3
        · exact .inr (hdj c h3)
        · exact .inl h3), fun b hb => ⟨hmem b hb, ?_, ?_⟩⟩
      · rcases flatten_set bss hib b hb with h3 | h3
        · rcases hbn b h3 with h4 | h4
          · obtain ⟨j, hj, hvj⟩ := n2 b h4
            obtain ⟨c, t, h5⟩ := hvj.cells r.mem
            exact ⟨c, t, by rw [hwo b (hbk b h3)]; exact h5⟩
          · obtain ⟨c, t, h5⟩ := (hvk b (hold b h4)).cells r.mem
            exact ⟨c, t, by rw [hwo b (hbk b h3)]; exact h5⟩
        · obtain ⟨c, t, h4⟩ := (hvk b h3).cells r.mem
          exact ⟨c, t, by rw [hwo b fun eq => g8 (eq ▸ g7 b h3)]; exact h4⟩
      · rcases flatten_set bss hib b hb with h3 | h3
        · rcases hbn b h3 with h4 | h4
          · exact .inr (n2 b h4)
          · exact .inl ⟨rfl, by rw [hF]; exact hold b h4⟩
        · exact .inl ⟨rfl, by rw [hF]; exact h3⟩)
  unfold Oper.wp
  have hrun : (execOp a.eval ⟨none, .store T x y, ty, pos, after, gd⟩).run P w = .ok .skip (w.setRow (g.ρ k) new) := by
    unfold sizeT at hT
    split at hT
    · rename_i ti hti
      cases hT
      simp only [execOp, Instr.storeAt, ha, Instr.sureAddr, storeVar, sizeOf, typeInfo, Sem.run_bind, Sem.run_pure, program, Sem.run, hti, Result.andThen_ok, hlen, ne_eq, not_true_eq_false, if_false]
      rw [hst]; rfl
    · cases hT
  rw [hrun, Oper.upon_skip]
  exact ⟨g', r.next0 q5 q6 (Nat.le_of_eq hsz.symm) (fun j _ => q7 j) q3, q4 K⟩
end ops
end Go.Proofs.Ytfdpigafekohgaa

/- A drawing region with one call whose contract leaves open what it returns. (The lemmas of AbsWalk, where an operation's own correctness is apart.) -/
namespace Go.Proofs.Ytfdpigafekohgaa
open Go.RowKit
set_option linter.unusedVariables false

section region
variable {P : Program} {N : Nat} {ops : Array Oper} {Kn : St → Prop}
structure DrawnS (ops : Array Oper) (cs : List Cert) (s0 : St) (Kn : St → Prop) : Prop where
  len : cs.length = ops.size
  pre : ∀ (i : Nat) (c : Cert), cs[i]? = some c → c.pre (foldS cs i s0)
  fin : Kn (foldS cs ops.size s0)
  chk : chk ops cs = true
theorem DrawnS.back {cs : List Cert} {s0 : St} (h : DrawnS ops cs s0 Kn) {j : Nat} {o : Oper} (hj : ops[j]? = some o) : ∀ e ∈ o.after, Region.binds .any e = true → e.on < j := by
  have h1 := h.chk
  simp only [Go.Proofs.Ytfdpigafekohgaa.chk, Bool.and_eq_true] at h1
  intro e he hb
  simpa using backOK_spec h1.1 j o (by simpa using hj) e he hb
theorem DrawnS.dep {cs : List Cert} {s0 : St} (h : DrawnS ops cs s0 Kn) {S : Nat → Bool} (hS : ClosedS ops S) {i j : Nat} {c d : Cert} (hij : i < j) (hc : cs[i]? = some c) (hd : cs[j]? = some d) (hcl : clash c d = true) (hj : S j = true) : S i = true := by
  have h1 := h.chk
  simp only [Go.Proofs.Ytfdpigafekohgaa.chk, Bool.and_eq_true] at h1
  have h2 := clashAll_spec (before := []) (k := 0) (i := i) (j := j) (c := c) h1.2 rfl (by omega) (by simpa using hc) hd hcl
  rw [Nat.zero_add] at h2
  exact ancL_spec (S := S) (l := ops.toList) (acc := []) (k := 0) rfl (fun a o ha hSa e he hb => hS a o (by simpa using ha) (by simpa using hSa) e he hb) (fun a b _ hb => by simp at hb) j i hj h2

theorem DrawnS.lo {cs : List Cert} {s0 : St} (h : DrawnS ops cs s0 Kn) {S : Nat → Bool} {i j : Nat} (u : Up ops S i) {c d : Cert} (hc : cs[i]? = some c) (hd : cs[j]? = some d) (hji : j < i) (hcl : clash d c = true) : S j = true := by
  have := h.dep u.cl' hji hd hc hcl (by simp)
  simp only [Bool.or_eq_true] at this
  rcases this with h1 | h1
  · exact h1
  · exact absurd (Nat.eq_of_beq_eq_true h1) (by omega)
theorem DrawnS.hi {cs : List Cert} {s0 : St} (h : DrawnS ops cs s0 Kn) {S : Nat → Bool} {i j : Nat} (u : Up ops S i) {c d : Cert} (hc : cs[i]? = some c) (hd : cs[j]? = some d) (hij : i < j) (hcl : clash c d = true) : S j = false := by
  cases hS : S j
  · rfl
  · have := h.dep u.cl hij hc hd hcl hS
    rw [u.no] at this; cases this

/-- What the operation looks at is ars it was in the order of the text. -/
theorem DrawnS.preS {cs : List Cert} {s0 : St} (h : DrawnS ops cs s0 Kn) {S : Nat → Bool} {i : Nat} (u : Up ops S i) {c : Cert} (hc : cs[i]? = some c) : c.pre (apS cs S s0) := by
  obtain ⟨p1, p2, p3⟩ := h.pre i c hc
  rw [foldS_ap] at p1 p2 p3
  have ag : ∀ j d, cs[j]? = some d → (j < i → clash d c = true) → (i < j → clash c d = true) → S j = Nat.blt j i := fun j d hd h1 h2 => by
    rcases Nat.lt_trichotomy j i with hlt | rfl | hlt
    · rw [h.lo u hc hd hlt (h1 hlt), blt_true hlt]
    · rw [u.no, blt_false (Nat.le_refl _)]
    · rw [h.hi u hc hd hlt (h2 hlt), blt_false (by omega)]
  have tt : ∀ κ, κ ∈ keys c.rt → lk (apS cs S s0).t κ = lk (apS cs (fun j => Nat.blt j i) s0).t κ := fun κ hκ => by
    refine apL_congr (fun j x hx hk => ?_) rfl
    obtain ⟨d, hd, rfl⟩ := getElem?_map_some hx
    rw [Nat.zero_add]
    exact ag j d hd (fun _ => clash1 (hits_symm_of_lk hk hκ)) (fun _ => clash3 (hits_of_lk hk hκ))
  have ll : ∀ κ, κ ∈ c.rlk → lk (apS cs S s0).l κ = lk (apS cs (fun j => Nat.blt j i) s0).l κ := fun κ hκ => by
    refine apL_congr (fun j x hx hk => ?_) rfl
    obtain ⟨d, hd, rfl⟩ := getElem?_map_some hx
    rw [Nat.zero_add]
    exact ag j d hd (fun _ => clash4 (hits_symm_of_lk hk hκ)) (fun _ => clash6 (hits_of_lk hk hκ))
  refine ⟨fun p hp => ?_, fun p hp => ?_, fun κ hκ => ⟨?_, fun hm => ?_⟩⟩
  · rw [tt _ (List.mem_map_of_mem hp)]; exact p1 p hp
  · unfold Go.Proofs.Ytfdpigafekohgaa.lkl
    rw [ll _ (List.mem_append_left _ (List.mem_map_of_mem hp))]; exact p2 p hp
  · rw [ll _ (List.mem_append_right _ hκ)]; exact (p3 κ hκ).1
  · refine (p3 κ hκ).2 ?_
    have late : ∀ j d, cs[j]? = some d → S (0 + j) = true → κ ∈ d.wids → Nat.blt (0 + j) i = true := fun j d hd hS hw => by
      rw [Nat.zero_add] at *
      rcases Nat.lt_trichotomy j i with hlt | rfl | hlt
      · exact blt_true hlt
      · rw [u.no] at hS; cases hS
      · rw [h.hi u hc hd hlt (clash7 (hits_of hκ hw))] at hS; cases hS
    have put : (∃ j d, cs[j]? = some d ∧ S (0 + j) = true ∧ κ ∈ d.wids) → κ ∈ (apS cs (fun j => Nat.blt j i) s0).ids := fun ⟨j, d, h1, h2, h3⟩ => by
      have hb := late j d h1 h2 h3
      rcases List.mem_append.1 h3 with h4 | h4
      · exact List.mem_append_left _ (ids_apL_of κ _ cs 0 _ (.inr ⟨j, d, h1, hb, h4⟩))
      · exact List.mem_append_right _ (ids_apL'_of κ _ cs 0 _ (.inr ⟨j, d, h1, hb, h4⟩))
    rcases List.mem_append.1 hm with hm | hm
    · rcases ids_apL κ S cs 0 s0.t hm with h1 | h1
      · exact List.mem_append_left _ (ids_apL_of κ _ cs 0 _ (.inl h1))
      · exact put h1
    · rcases ids_apL' κ S cs 0 s0.l hm with h1 | h1
      · exact List.mem_append_right _ (ids_apL'_of κ _ cs 0 _ (.inl h1))
      · exact put h1

theorem DrawnS.next {cs : List Cert} {s0 : St} (h : DrawnS ops cs s0 Kn) {S S' : Nat → Bool} {i : Nat} (u : Up ops S i) {c : Cert} (hc : cs[i]? = some c) (hS' : ∀ j, S' j = (S j || Nat.beq j i)) : (c.upd (apS cs S s0)).eqv (apS cs S' s0) :=
  ⟨fun κ => apL_next (W := (·.wt)) hc hS' u.no (fun j d hd hlt hh => h.lo u hc hd hlt (clash2 hh)) (fun j d hd hlt hh => h.hi u hc hd hlt (clash2 hh)) _ κ,
   fun κ => apL_next (W := (·.wl)) hc hS' u.no (fun j d hd hlt hh => h.lo u hc hd hlt (clash5 hh)) (fun j d hd hlt hh => h.hi u hc hd hlt (clash5 hh)) _ κ⟩

theorem draw_mainJ {cs : List Cert} {s0 : St} (h : DrawnS ops cs s0 Kn) {jx : Nat} (ok : ∀ (i : Nat) (o : Oper) (c : Cert), ops[i]? = some o → cs[i]? = some c → i ≠ jx → OpG P N ops o c) {K : List Nat} {Q : Exit → St → Prop} {g0 : Gh} {l0 : Locs} {w0 : World} (m0 : MemR g0 l0 w0) :
    ∀ (fuel : Nat) (listed : Array Bool) (g : Gh) (a : Act) (w : World), listed.size = ops.size → ClosedS ops (fun j => listed.getD j false) → (unl ops.size listed).length ≤ fuel → listed.getD jx false = true →
      Rep N g (apS cs (fun j => listed.getD j false) s0) a w → Step K g0 l0 w0 g (apS cs (fun j => listed.getD j false) s0).l w →
      wpAny P .any ops (Ends N K g0 l0 w0 (NormR Kn Q)) fuel listed a w := by
  have done : ∀ (listed : Array Bool) (g : Gh) (a : Act) (w : World), listed.size = ops.size → (∀ i, i < ops.size → listed.getD i true = true) →
      Rep N g (apS cs (fun j => listed.getD j false) s0) a w → Step K g0 l0 w0 g (apS cs (fun j => listed.getD j false) s0).l w → Ends N K g0 l0 w0 (NormR Kn Q) .normal a w := by
    intro listed g a w hsz hall r hs
    have he : (apS cs (fun j => listed.getD j false) s0).eqv (foldS cs ops.size s0) := by
      rw [foldS_ap]
      have ag : ∀ j, j < cs.length → listed.getD j false = Nat.blt j ops.size := fun j hj => by
        rw [← getD_true_of (by rw [hsz, ← h.len]; exact hj), hall j (by rw [← h.len]; exact hj), blt_true (by rw [← h.len]; exact hj)]
      exact ⟨fun κ => apL_congr (fun j x hx _ => by rw [Nat.zero_add]; exact ag j (by simpa using (List.getElem?_eq_some_iff.1 hx).1)) rfl, fun κ => apL_congr (fun j x hx _ => by rw [Nat.zero_add]; exact ag j (by simpa using (List.getElem?_eq_some_iff.1 hx).1)) rfl⟩
    exact ⟨g, _, r.eqv he, hs.eqv he, h.fin⟩
  have rdy : ∀ (listed : Array Bool), listed.size = ops.size → Region.ready .any ops listed = [] → ∀ i, i < ops.size → listed.getD i true = true := by
    intro listed hsz hr i
    induction i using Nat.strongRecOn with
    | _ i ih =>
      intro hi
      cases hl : listed.getD i true
      · exfalso
        have ho : ops[i]? = some ops[i] := Array.getElem?_eq_getElem hi
        have hm : i ∈ Region.ready .any ops listed := mem_ready.2 ⟨hl, _, ho, fun e he hb => by
          have hlt := h.back ho e he hb
          rw [← getD_true_of (by omega)]
          exact ih e.on hlt (by omega)⟩
        rw [hr] at hm; cases hm
      · rfl
  intro fuel
  induction fuel with
  | zero =>
    intro listed g a w hsz hcl hun hjx r hs
    have hnil : unl ops.size listed = [] := List.eq_nil_of_length_eq_zero (by omega)
    have hall : ∀ i, i < ops.size → listed.getD i true = true := fun i hi => by
      cases hl : listed.getD i true
      · have : i ∈ unl ops.size listed := List.mem_filter.2 ⟨List.mem_range.2 hi, by simp only [hl]; rfl⟩
        rw [hnil] at this; cases this
      · rfl
    refine ⟨?_, done listed g a w hsz hall r hs⟩
    refine List.eq_nil_iff_forall_not_mem.2 fun i hi => ?_
    obtain ⟨h1, o, h2, _⟩ := mem_ready.1 hi
    rw [hall i (Array.getElem?_eq_some_iff.1 h2).1] at h1; cases h1
  | succ fuel ih =>
    intro listed g a w hsz hcl hun hjx r hs
    refine ⟨fun hr => done listed g a w hsz (rdy listed hsz hr) r hs, fun i hi => ?_⟩
    obtain ⟨h1, o, ho, h3⟩ := mem_ready.1 hi
    have hilt : i < ops.size := (Array.getElem?_eq_some_iff.1 ho).1
    have hno : listed.getD i false = false := by rw [← getD_true_of (by omega)]; exact h1
    obtain ⟨c, hc⟩ : ∃ c, cs[i]? = some c := ⟨_, List.getElem?_eq_getElem (by rw [h.len]; exact hilt)⟩
    have hS' : ∀ j, (listed.setIfInBounds i true).getD j false = (listed.getD j false || Nat.beq j i) := fun j => by
      by_cases e : j = i
      · subst e; rw [getD_set_self false (by omega)]; simp
      · rw [getD_set_ne false (Ne.symm e)]
        have : Nat.beq j i = false := by
          cases hb : Nat.beq j i
          · rfl
          · exact absurd (Nat.eq_of_beq_eq_true hb) e
        rw [this]; simp
    have hcl' : ClosedS ops (fun j => listed.getD j false || Nat.beq j i) := fun j o' hj hSj e he hb => by
      simp only [Bool.or_eq_true] at hSj ⊢
      rcases hSj with h4 | h4
      · exact .inl (hcl j o' hj h4 e he hb)
      · have := Nat.eq_of_beq_eq_true h4
        subst this
        rw [ho] at hj; cases hj
        exact .inl (h3 e he hb)
    have u : Up ops (fun j => listed.getD j false) i := ⟨hcl, hno, hcl'⟩
    have hpre := h.preS u hc
    have heq := h.next u hc hS'
    have hop := ok i o c ho hc (fun e => by subst e; rw [hno] at hjx; cases hjx) K g _ a w hpre r
    have go : ∀ a' w', (∃ g', Rep N g' (c.upd (apS cs (fun j => listed.getD j false) s0)) a' w' ∧ Step K g (apS cs (fun j => listed.getD j false) s0).l w g' (c.upd (apS cs (fun j => listed.getD j false) s0)).l w') →
        wpAny P .any ops (Ends N K g0 l0 w0 (NormR Kn Q)) fuel (listed.setIfInBounds i true) a' w' := fun a' w' ⟨g', r', hs'⟩ => by
      have := unl_lt (n := ops.size) (i := i) (listed := listed) (List.mem_filter.2 ⟨List.mem_range.2 hilt, by simp only [h1]; rfl⟩)
      refine ih _ g' a' w' (by simp [hsz]) ?_ (by omega) (by rw [hS', hjx]; rfl) (r'.eqv heq) ((hs.trans m0 r.mem hs').eqv heq)
      intro j o' hj hSj e he hb
      have hSj' : (listed.setIfInBounds i true).getD j false = true := hSj
      show (listed.setIfInBounds i true).getD e.on false = true
      rw [hS'] at hSj' ⊢
      exact hcl' j o' hj hSj' e he hb
    unfold wpOp
    rw [ho]
    simp only
    split
    · rename_i hw
      rw [if_pos hw] at hop
      exact .inl (Oper.wp_weak go hop)
    · rename_i hw
      rw [if_neg hw] at hop
      exact go _ _ hop

theorem apL_same {β : Type 1} : ∀ {xs ys : List (List (Nat × β))} {k : Nat} {S : Nat → Bool} {b : List (Nat × β)}, xs.length = ys.length → (∀ i, S (k + i) = true → xs[i]? = ys[i]?) → apL xs k S b = apL ys k S b
  | [], [], k, S, b, _, _ => rfl
  | x :: xs, [], k, S, b, h, _ => by simp at h
  | [], y :: ys, k, S, b, h, _ => by simp at h
  | x :: xs, y :: ys, k, S, b, h, hs => by
    unfold apL
    have e : (if S k = true then x ++ b else b) = (if S k = true then y ++ b else b) := by
      cases hk : S k
      · rfl
      · have := hs 0 (by simpa using hk)
        simp at this
        rw [this]
    rw [e]
    exact apL_same (by simpa using h) fun i hi => by
      have := hs (i + 1) (by rw [show k + (i + 1) = k + 1 + i by omega]; exact hi)
      simpa using this
theorem apS_same {cs ds : List Cert} {S : Nat → Bool} {s : St} (hl : cs.length = ds.length) (h : ∀ i, S i = true → cs[i]? = ds[i]?) : apS cs S s = apS ds S s := by
  unfold apS
  rw [apL_same (xs := cs.map (·.wt)) (ys := ds.map (·.wt)) (by simp [hl]) fun i hi => by
    rw [Nat.zero_add] at hi
    rw [List.getElem?_map, List.getElem?_map, h i hi], apL_same (xs := cs.map (·.wl)) (ys := ds.map (·.wl)) (by simp [hl]) fun i hi => by
    rw [Nat.zero_add] at hi
    rw [List.getElem?_map, List.getElem?_map, h i hi]]
/-- The call leaves the state that one of the indices tells. -/
def OpX (P : Program) (N : Nat) (o : Oper) {ι : Type} (G : ι → Prop) (c : ι → Cert) : Prop :=
  o.guard = none ∧ ∀ (K : List Nat) (g : Gh) (s : St) (a : Act) (w : World), (∀ i, G i → (c i).pre s) → Rep N g s a w →
    o.wp P a w (fun a' w' => ∃ i, G i ∧ ∃ g', Rep N g' ((c i).upd s) a' w' ∧ Step K g s.l w g' ((c i).upd s).l w') (fun _ _ _ => False)
theorem draw_mainX {ι : Type} {G : ι → Prop} {cs : ι → List Cert} {s0 : St} (h : ∀ i, G i → DrawnS ops (cs i) s0 Kn) (i0 : ι) (g0i : G i0) {jx : Nat} {cx : ι → Cert} {ox : Oper} (hox : ops[jx]? = some ox) (hcx : ∀ i, G i → (cs i)[jx]? = some (cx i)) (okx : OpX P N ox G cx)
    (ok : ∀ x, G x → ∀ (i : Nat) (o : Oper) (c : Cert), ops[i]? = some o → (cs x)[i]? = some c → i ≠ jx → OpG P N ops o c)
    (uni : ∀ (S : Nat → Bool), ClosedS ops S → S jx = false → ∀ i, S i = true → ∀ x, G x → (cs x)[i]? = (cs i0)[i]?)
    {K : List Nat} {Q : Exit → St → Prop} {g0 : Gh} {l0 : Locs} {w0 : World} (m0 : MemR g0 l0 w0) :
    ∀ (fuel : Nat) (listed : Array Bool) (g : Gh) (a : Act) (w : World), listed.size = ops.size → ClosedS ops (fun j => listed.getD j false) → (unl ops.size listed).length ≤ fuel → listed.getD jx false = false →
      Rep N g (apS (cs i0) (fun j => listed.getD j false) s0) a w → Step K g0 l0 w0 g (apS (cs i0) (fun j => listed.getD j false) s0).l w →
      wpAny P .any ops (Ends N K g0 l0 w0 (NormR Kn Q)) fuel listed a w := by
  have hxlt : jx < ops.size := (Array.getElem?_eq_some_iff.1 hox).1
  have rdy : ∀ (listed : Array Bool), listed.size = ops.size → Region.ready .any ops listed = [] → ∀ i, i < ops.size → listed.getD i true = true := by
    intro listed hsz hr i
    induction i using Nat.strongRecOn with
    | _ i ih =>
      intro hi
      cases hl : listed.getD i true
      · exfalso
        have ho : ops[i]? = some ops[i] := Array.getElem?_eq_getElem hi
        have hm : i ∈ Region.ready .any ops listed := mem_ready.2 ⟨hl, _, ho, fun e he hb => by
          have hlt := (h i0 g0i).back ho e he hb
          rw [← getD_true_of (by omega)]
          exact ih e.on hlt (by omega)⟩
        rw [hr] at hm; cases hm
      · rfl
  intro fuel
  induction fuel with
  | zero =>
    intro listed g a w hsz hcl hun hjx r hs
    have hnil : unl ops.size listed = [] := List.eq_nil_of_length_eq_zero (by omega)
    have : jx ∈ unl ops.size listed := List.mem_filter.2 ⟨List.mem_range.2 hxlt, by rw [getD_true_of (by omega), hjx]; rfl⟩
    rw [hnil] at this; cases this
  | succ fuel ih =>
    intro listed g a w hsz hcl hun hjx r hs
    refine ⟨fun hr => ?_, fun i hi => ?_⟩
    · have := rdy listed hsz hr jx hxlt
      rw [getD_true_of (by omega), hjx] at this; cases this
    obtain ⟨h1, o, ho, h3⟩ := mem_ready.1 hi
    have hilt : i < ops.size := (Array.getElem?_eq_some_iff.1 ho).1
    have hno : listed.getD i false = false := by rw [← getD_true_of (by omega)]; exact h1
    have hS' : ∀ j, (listed.setIfInBounds i true).getD j false = (listed.getD j false || Nat.beq j i) := fun j => by
      by_cases e : j = i
      · subst e; rw [getD_set_self false (by omega)]; simp
      · rw [getD_set_ne false (Ne.symm e)]
        have : Nat.beq j i = false := by
          cases hb : Nat.beq j i
          · rfl
          · exact absurd (Nat.eq_of_beq_eq_true hb) e
        rw [this]; simp
    have hcl' : ClosedS ops (fun j => listed.getD j false || Nat.beq j i) := fun j o' hj hSj e he hb => by
      simp only [Bool.or_eq_true] at hSj ⊢
      rcases hSj with h4 | h4
      · exact .inl (hcl j o' hj h4 e he hb)
      · have := Nat.eq_of_beq_eq_true h4
        subst this
        rw [ho] at hj; cases hj
        exact .inl (h3 e he hb)
    have hcl2 : ClosedS ops (fun j => (listed.setIfInBounds i true).getD j false) := by
      intro j o' hj hSj e he hb
      have hSj' : (listed.setIfInBounds i true).getD j false = true := hSj
      show (listed.setIfInBounds i true).getD e.on false = true
      rw [hS'] at hSj' ⊢
      exact hcl' j o' hj hSj' e he hb
    have u : Up ops (fun j => listed.getD j false) i := ⟨hcl, hno, hcl'⟩
    have hfu := unl_lt (n := ops.size) (i := i) (listed := listed) (List.mem_filter.2 ⟨List.mem_range.2 hilt, by simp only [h1]; rfl⟩)
    by_cases hij : i = jx
    · subst hij
      rw [hox] at ho; cases ho
      have same : ∀ x, G x → apS (cs x) (fun j => listed.getD j false) s0 = apS (cs i0) (fun j => listed.getD j false) s0 := fun x hx => apS_same (by rw [(h x hx).len, (h i0 g0i).len]) fun k hk => uni _ hcl hjx k hk x hx
      have hop := okx.2 K g _ a w (fun x hx => by rw [← same x hx]; exact (h x hx).preS u (hcx x hx)) r
      unfold wpOp
      rw [hox]
      simp only
      rw [if_pos (by simp [Region.wanted, okx.1])]
      refine .inl (Oper.wp_weak (fun a' w' ⟨x, hx, g', r', hs'⟩ => ?_) hop)
      have heq := (h x hx).next u (hcx x hx) hS'
      rw [same x hx] at heq
      exact draw_mainJ (h x hx) (jx := i) (ok x hx) m0 fuel _ g' a' w' (by simp [hsz]) hcl2 (by omega) (by rw [hS']; simp) (r'.eqv heq) ((hs.trans m0 r.mem hs').eqv heq)
    · obtain ⟨c, hc⟩ : ∃ c, (cs i0)[i]? = some c := ⟨_, List.getElem?_eq_getElem (by rw [(h i0 g0i).len]; exact hilt)⟩
      have hpre := (h i0 g0i).preS u hc
      have heq := (h i0 g0i).next u hc hS'
      have hop := ok i0 g0i i o c ho hc hij K g _ a w hpre r
      have hjx2 : (listed.setIfInBounds i true).getD jx false = false := by
        rw [hS', hjx]
        cases hb : Nat.beq jx i
        · rfl
        · exact absurd (Nat.eq_of_beq_eq_true hb).symm hij
      have go : ∀ a' w', (∃ g', Rep N g' (c.upd (apS (cs i0) (fun j => listed.getD j false) s0)) a' w' ∧ Step K g (apS (cs i0) (fun j => listed.getD j false) s0).l w g' (c.upd (apS (cs i0) (fun j => listed.getD j false) s0)).l w') →
          wpAny P .any ops (Ends N K g0 l0 w0 (NormR Kn Q)) fuel (listed.setIfInBounds i true) a' w' := fun a' w' ⟨g', r', hs'⟩ =>
        ih _ g' a' w' (by simp [hsz]) hcl2 (by omega) hjx2 (r'.eqv heq) ((hs.trans m0 r.mem hs').eqv heq)
      unfold wpOp
      rw [ho]
      simp only
      split
      · rename_i hw
        rw [if_pos hw] at hop
        exact .inl (Oper.wp_weak go hop)
      · rename_i hw
        rw [if_neg hw] at hop
        exact go _ _ hop
/-! ### The region in the order of its text, in families -/
/-- j: the place of the call that leaves its result open; behind it an operation either needs the call, or does the same whatever it returned. -/
def ALF (P : Program) (N : Nat) (ops : Array Oper) (Kn : St → Prop) {ι : Type} (G : ι → Prop) (j : Nat) : List Oper → Nat → (ι → St) → (ι → List Cert) → Prop
  | [], k, s, acc => ∀ i, G i → chk ops (acc i).reverse = true ∧ Kn (s i)
  | o :: r, k, s, acc =>
    (k ≠ j ∧ ∃ c : Cert, OpG P N ops o c ∧ (∀ i, G i → c.pre (s i)) ∧ ALF P N ops Kn G j r (k + 1) (fun i => c.upd (s i)) (fun i => c :: acc i)) ∨
    (k ≠ j ∧ ((ancL ops.toList []).getD k 0).testBit j = true ∧ ∃ c : ι → Cert, (∀ i, G i → OpG P N ops o (c i) ∧ (c i).pre (s i)) ∧ ALF P N ops Kn G j r (k + 1) (fun i => (c i).upd (s i)) (fun i => c i :: acc i)) ∨
    (k = j ∧ ∃ c : ι → Cert, OpX P N o G c ∧ (∀ i, G i → (c i).pre (s i)) ∧ ALF P N ops Kn G j r (k + 1) (fun i => (c i).upd (s i)) (fun i => c i :: acc i))
def ALFout (P : Program) (N : Nat) (ops : Array Oper) (Kn : St → Prop) {ι : Type} (G : ι → Prop) (j : Nat) (l : List Oper) (k : Nat) (s : ι → St) (acc : ι → List Cert) : Prop :=
  ∃ cs : ι → List Cert, (∀ i, (cs i).length = l.length) ∧ (∀ i, G i → ∀ (m : Nat) (o : Oper) (c : Cert), l[m]? = some o → (cs i)[m]? = some c → k + m ≠ j → OpG P N ops o c) ∧ (∀ i, G i → ∀ (m : Nat) (c : Cert), (cs i)[m]? = some c → c.pre (foldS (cs i) m (s i))) ∧ (∀ i, G i → Kn (foldS (cs i) l.length (s i)) ∧ chk ops ((acc i).reverse ++ cs i) = true) ∧
      (∀ m, m < l.length → k + m ≠ j → ((ancL ops.toList []).getD (k + m) 0).testBit j = true ∨ ∀ i i', (cs i)[m]? = (cs i')[m]?) ∧ (∀ (m : Nat) (o : Oper), l[m]? = some o → k + m = j → ∃ cx : ι → Cert, (∀ i, (cs i)[m]? = some (cx i)) ∧ OpX P N o G cx)
theorem ALF.out {ι : Type} {G : ι → Prop} {j : Nat} : ∀ {l : List Oper} {k : Nat} {s : ι → St} {acc : ι → List Cert}, ALF P N ops Kn G j l k s acc → ALFout P N ops Kn G j l k s acc
  | [], k, s, acc, h => ⟨fun _ => [], fun _ => rfl, fun i _ m o c h => by simp at h, fun i _ m c h => by simp at h, fun i hi => ⟨(h i hi).2, by simpa using (h i hi).1⟩, fun m hm => absurd hm (by simp), fun m o h => by simp at h⟩
  | o :: r, k, s, acc, h => by
    have build : ∀ (c : ι → Cert), (k ≠ j → ∀ i, G i → OpG P N ops o (c i)) → (∀ i, G i → (c i).pre (s i)) → (k ≠ j → ((ancL ops.toList []).getD k 0).testBit j = true ∨ ∀ i i', c i = c i') → (k = j → OpX P N o G c) → ALF P N ops Kn G j r (k + 1) (fun i => (c i).upd (s i)) (fun i => c i :: acc i) → ALFout P N ops Kn G j (o :: r) k s acc := fun c h1 h2 h3 h5 h4 => by
      obtain ⟨cs, e1, e2, e3, e4, e5, e6⟩ := ALF.out h4
      refine ⟨fun i => c i :: cs i, fun i => by simp [e1], fun i hi m o' c' ho hc hm => ?_, fun i hi m c' hc => ?_, fun i hi => ⟨(e4 i hi).1, by simpa using (e4 i hi).2⟩, fun m hm hkm => ?_, fun m o' ho hkm => ?_⟩
      · cases m with
        | zero => simp at ho hc; subst ho; subst hc; exact h1 hm i hi
        | succ m => exact e2 i hi m o' c' (by simpa using ho) (by simpa using hc) (by omega)
      · cases m with
        | zero => simp at hc; subst hc; exact h2 i hi
        | succ m => exact e3 i hi m c' (by simpa using hc)
      · cases m with
        | zero =>
          rcases h3 hkm with q | q
          · exact .inl q
          · exact .inr fun i i' => by simp [q i i']
        | succ m =>
          rcases e5 m (by simpa using hm) (by omega) with q | q
          · left; rw [show k + (m + 1) = k + 1 + m by omega]; exact q
          · right; intro i i'; simpa using q i i'
      · cases m with
        | zero => simp at ho; subst ho; exact ⟨c, fun i => rfl, h5 hkm⟩
        | succ m =>
          obtain ⟨cx, q1, q2⟩ := e6 m o' (by simpa using ho) (by omega)
          exact ⟨cx, fun i => by simpa using q1 i, q2⟩
    rcases h with ⟨hk, c, h1, h2, h3⟩ | ⟨hk, hb, c, h1, h3⟩ | ⟨hk, c, h1, h2, h3⟩
    · exact build (fun _ => c) (fun _ _ _ => h1) h2 (fun _ => .inr fun _ _ => rfl) (fun e => absurd e hk) h3
    · exact build c (fun _ i hi => (h1 i hi).1) (fun i hi => (h1 i hi).2) (fun _ => .inl hb) (fun e => absurd e hk) h3
    · exact build c (fun e => absurd hk e) h2 (fun e => absurd hk e) (fun _ => h1) h3
theorem AW_drawX {ι : Type} {G : ι → Prop} (i0 : ι) (g0i : G i0) (j : Nat) {K : List Nat} {Q : Exit → St → Prop} {s : St} {id : Nat} {l : List Oper} (hm : P.follows .mixedOrders = true) (hj : Nat.blt j l.length = true) (h : ALF P N l.toArray Kn G j l 0 (fun _ => s) (fun _ => [])) : AW P N K (.region id l.toArray true) Kn Q s := fun g a w r => by
  refine wp_region_any hm ?_
  obtain ⟨cs, h1, h2, h3, h4, h5, h6⟩ := h.out
  have hjl : j < l.length := blt_lt hj
  have hD : ∀ i, G i → DrawnS l.toArray (cs i) s Kn := fun i hi => ⟨by simpa using h1 i, h3 i hi, by simpa using (h4 i hi).1, by simpa using (h4 i hi).2⟩
  obtain ⟨cx, hcx, okx⟩ := h6 j l[j] (List.getElem?_eq_getElem hjl) (by omega)
  have e0 : ∀ i, apS (cs i) (fun j => (Array.replicate l.toArray.size false).getD j false) s = s := fun i => by
    have hf := replF l.toArray.size
    unfold apS
    rw [apL_none _ _ _ _ fun i _ => hf _, apL_none _ _ _ _ fun i _ => hf _]
  have hle : (unl l.toArray.size (Array.replicate l.toArray.size false)).length ≤ l.toArray.size := by
    have := List.length_filter_le (fun i => !(Array.replicate l.toArray.size false).getD i true) (List.range l.toArray.size)
    simpa [unl] using this
  refine draw_mainX (ops := l.toArray) hD i0 g0i (jx := j) (ox := l[j]) (cx := cx) (by simp [hjl]) (fun i _ => hcx i) okx (fun x hx i o c ho hc hij => h2 x hx i o c (by simpa using ho) hc (by omega)) (fun S hS hSj i hSi x hx => ?_) r.mem l.toArray.size _ g a _ (by simp) ?_ hle (replF _ _) (by rw [e0]; exact r.drawn) (by rw [e0]; exact Step.drawn K g s.l w)
  · by_cases hil : i < l.length
    · by_cases hij : i = j
      · subst hij; rw [hSj] at hSi; cases hSi
      · rcases h5 i hil (by omega) with q | q
        · rw [Nat.zero_add] at q
          have := ancL_spec (S := S) (l := l) (acc := []) (k := 0) rfl (fun a o ha hSa e he hb => hS a o (by simpa using ha) (by simpa using hSa) e he hb) (fun a b _ hb => by simp at hb) i j hSi q
          rw [hSj] at this; cases this
        · exact q x i0
    · rw [List.getElem?_eq_none (by rw [h1]; omega), List.getElem?_eq_none (by rw [h1]; omega)]
  · intro j o _ hS
    rw [show (fun j => (Array.replicate l.toArray.size false).getD j false) j = (Array.replicate l.toArray.size false).getD j false from rfl, replF] at hS
    cases hS
variable {ι : Type} {G : ι → Prop} {j k : Nat} {r : List Oper} {acc : ι → List Cert}
theorem ALF_nil {s : ι → St} (hc : ∀ i, chk ops (acc i).reverse = true) (h : ∀ i, G i → Kn (s i)) : ALF P N ops Kn G j [] k s acc := fun i hi => ⟨hc i, h i hi⟩
theorem ALF_u {s s' : ι → St} {c : Cert} {dst : Option Nat} {op : Op} {ty : TypeId} {pos : String} {after : Array Edge} (i0 : ι) (hk : Nat.beq k j = false) (h : ∀ i, Stp P N ⟨dst, op, ty, pos, after, none⟩ (s i) (s' i) c) (next : ALF P N ops Kn G j r (k + 1) s' (fun i => c :: acc i)) : ALF P N ops Kn G j (⟨dst, op, ty, pos, after, none⟩ :: r) k s acc :=
  .inl ⟨(fun e => by subst e; rw [Nat.beq_refl] at hk; cases hk), c, OpG.plain rfl (h i0).1, fun i _ => (h i).2.1, by
    have : (fun i => c.upd (s i)) = s' := funext fun i => (h i).2.2
    rw [this]; exact next⟩
theorem ALF_d {s s' : ι → St} {c : ι → Cert} {dst : Option Nat} {op : Op} {ty : TypeId} {pos : String} {after : Array Edge} (hk : Nat.beq k j = false) (hb : ((ancL ops.toList []).getD k 0).testBit j = true) (h : ∀ i, G i → Stp P N ⟨dst, op, ty, pos, after, none⟩ (s i) (s' i) (c i)) (hu : ∀ i, (c i).upd (s i) = s' i) (next : ALF P N ops Kn G j r (k + 1) s' (fun i => c i :: acc i)) : ALF P N ops Kn G j (⟨dst, op, ty, pos, after, none⟩ :: r) k s acc :=
  .inr (.inl ⟨(fun e => by subst e; rw [Nat.beq_refl] at hk; cases hk), hb, c, fun i hi => ⟨OpG.plain rfl (h i hi).1, (h i hi).2.1⟩, by
    have : (fun i => (c i).upd (s i)) = s' := funext hu
    rw [this]; exact next⟩)
/-- The call itself. -/
theorem ALF_x {s : St} {res : ι → AVal} {L' : ι → Locs} {d : Nat} {fo : Operand} {f : FuncId} {ars : Array Operand} {ats : Array TypeId} {xs : List AVal} {L : Locs} {ty : TypeId} {pos : String} {after : Array Edge} (hk : Nat.beq k j = true) (i0 : ι) (g0i : G i0) (hN : Nat.blt d N = true)
    (hev : evo s.t fo = some (.one (.clo f []))) (hxs : evl s.t ars.toList = some xs) (hac : AX P f xs L G res L') (hfl : flats xs = true) (hLs : okL L = true) (hsc : ∀ i, closedIn (keys (L' i)) (L' i).ids = true) (hsr : ∀ i, closedIn (keys (L' i)) (res i).ids = true)
    (hsub : sub s.l L) (hnew : ∀ i, newOk s (newOf L (L' i)) = true) (next : ALF P N ops Kn G j r (k + 1) (fun i => ⟨(d, res i) :: s.t, L' i ++ (goneL L ++ s.l)⟩) (fun i => ⟨rdo fo (.one (.clo f [])) ++ rdl s.t ars.toList, rlOf L, [(d, res i)], L' i ++ goneL L, newOf L (L' i)⟩ :: acc i)) :
    ALF P N ops Kn G j (⟨some d, .call { callee := .value fo, args := ars, argTypes := ats }, ty, pos, after, none⟩ :: r) k (fun _ => s) acc := by
  refine .inr (.inr ⟨Nat.eq_of_beq_eq_true hk, fun i => ⟨rdo fo (.one (.clo f [])) ++ rdl s.t ars.toList, rlOf L, [(d, res i)], L' i ++ goneL L, newOf L (L' i)⟩, ⟨rfl, fun K g s2 a w hp R => ?_⟩, fun i _ => ⟨fun p hp => by
      rcases List.mem_append.1 hp with hp | hp
      · exact rdo_of hev p hp
      · exact (evl_ok (N := N) hxs).1 p hp, sub_rlOf hsub, newOk_of (hnew i)⟩, ?_⟩)
  · obtain ⟨p1, p2, _⟩ := hp i0 g0i
    have q1 : ∀ p ∈ rdo fo (.one (.clo f [])), lk s2.t p.1 = some p.2 := fun p hm => p1 p (List.mem_append_left _ hm)
    have q2 : ∀ p ∈ rdl s.t ars.toList, lk s2.t p.1 = some p.2 := fun p hm => p1 p (List.mem_append_right _ hm)
    have hfe : a.eval fo = .func (.func f) #[] #[] := (eval_ok R (evs_of hev) q1 : VR g s2.l w (a.eval fo) (.one (.clo f []))) fun k hk => by cases hk
    have hsub2 : sub s2.l L := rlOf_sub p2
    have hargs : All2 (VR1 g s2.l w) ((ars.map a.eval) ++ #[]).toList xs := by
      rw [Array.append_empty, Array.toList_map]
      exact ((evl_ok hxs).2 R q2).vr1 hfl
    unfold Oper.wp
    rw [run_enter rfl hac.fn hfe, Oper.upon_enter]
    have mL := R.mem.sub hsub2
    refine (hac.run g w _ mL (hargs.mono fun v x _ hr => VR1.step (fun _ _ => rfl) (fun _ h => h) (Nat.le_refl _) (fun k _ => okK.sub hsub2 k) hr)).mono ?_
    rintro e w' ⟨i, v, g', hG, rfl, m', hv, hs⟩
    obtain ⟨_, _, p3⟩ := hp i hG
    have hnw : ∀ k ∈ newOf L (L' i), lk s2.l k = none ∧ k ∉ s2.l.ids := fun k hk => ⟨(p3 k hk).1, fun h => (p3 k hk).2 (List.mem_append_right _ h)⟩
    obtain ⟨c1, c2, c3, c4, c5⟩ := call_mem R.mem hsub2 m' hs (hsc i) hLs hnw K
    have hmm : ∀ b, g.I b → (g.mix g' (keys (L' i) ++ keys L)).I b := fun b hb => hs.imm b hb
    refine ⟨i, hG, g.mix g' (keys (L' i) ++ keys L), ?_, ?_⟩
    · have := R.next (x := res i) (blt_lt hN) c3 hmm hs.size (fun k hk => c4 k fun h => (p3 k h).2 hk) (VR.step (g := g') (l := L' i) (fun _ _ => rfl) (fun b hb => hb) (Nat.le_refl _) (fun k hk => c5 k (closedIn_get (hsr i) hk)) hv) c1
      simpa only [Cert.upd, List.append_assoc, List.cons_append, List.nil_append] using this
    · simpa only [Cert.upd, List.append_assoc] using c2
  · simpa only [Cert.upd, List.append_assoc, List.cons_append, List.nil_append] using next
end region
end Go.Proofs.Ytfdpigafekohgaa

/- An entry that was put in, in plain words: the table stays right, and the entry is taken out again. -/
namespace Go.Proofs.Ytfdpigafekohgaa
open Go.RowKit
set_option linter.unusedVariables false
set_option linter.unusedSimpArgs false

def sepB (a b : Entryt) : Prop := aheadB b a = false ∧ sameKeyB a b = false
theorem tableB_iff {t : Tablet} : tableB t = true ↔ (0 ≤ t.cap ∧ t.cap ≤ 400 ∧ (t.entries.length : Int) ≤ t.cap) ∧ (∀ e ∈ t.entries, entryOkB e = true) ∧ t.entries.Pairwise sepB := by
  constructor
  · intro h
    obtain ⟨h1, h2⟩ := tableB_get h
    refine ⟨h1, fun e he => ?_, List.pairwise_iff_getElem.2 fun i j hi hj hij => ⟨table_order h hj (Nat.le_of_lt hij), (tableAt_not (h2 j hj)).2.2 i hi hj (Nat.zero_le _) hij⟩⟩
    obtain ⟨k, hk, rfl⟩ := List.getElem_of_mem he
    exact (tableAt_not (h2 k hk)).1
  · rintro ⟨h1, h2, h3⟩
    have h3 := List.pairwise_iff_getElem.1 h3
    exact tableB_good (k := t.entries.length) (fun k hk _ => tableAt_good hk (h2 _ (List.getElem_mem hk)) (fun h0 => (h3 (k - 1) k (by omega) hk (by omega)).1) fun x hx hi _ h5 => (h3 x k hx hi h5).2) (Nat.le_refl _) h1
theorem entryOk_match {e : Entryt} (h : entryOkB e = true) : matchB e.mat = true := by
  simp only [entryOkB, entryB, Bool.and_eq_true] at h; exact h.2.1
theorem sameKey_iff {a b : Entryt} : sameKeyB a b = true ↔ a.epoch = b.epoch ∧ a.prio = b.prio ∧ matchB a.mat = true ∧ a.mat = b.mat := by
  simp only [sameKeyB, Bool.and_eq_true, decide_eq_true_eq, sameMatch_iff]
theorem sameKey_comm (a b : Entryt) : sameKeyB a b = sameKeyB b a := by
  cases h : sameKeyB b a
  · cases h2 : sameKeyB a b
    · rfl
    · obtain ⟨q1, q2, q3, q4⟩ := sameKey_iff.1 h2
      have : sameKeyB b a = true := sameKey_iff.2 ⟨q1.symm, q2.symm, q4 ▸ q3, q4.symm⟩
      rw [h] at this; cases this
  · obtain ⟨q1, q2, q3, q4⟩ := sameKey_iff.1 h
    exact sameKey_iff.2 ⟨q1.symm, q2.symm, q4 ▸ q3, q4.symm⟩
/-- Entries of one key are apart from the same others. -/
theorem sep_like {a b c : Entryt} (h : sameKeyB a b = true) : (sepB a c → sepB b c) ∧ (sepB c a → sepB c b) := by
  obtain ⟨q1, q2, q3, q4⟩ := sameKey_iff.1 h
  have e1 : aheadB c b = aheadB c a := by unfold aheadB; rw [q1, q2]
  have e2 : aheadB b c = aheadB a c := by unfold aheadB; rw [q1, q2]
  have e3 : sameKeyB b c = sameKeyB a c := by unfold sameKeyB; rw [q1, q2, q4]
  have e4 : sameKeyB c b = sameKeyB c a := by unfold sameKeyB; rw [q1, q2, q4]
  exact ⟨fun h => ⟨by rw [e1]; exact h.1, by rw [e3]; exact h.2⟩, fun h => ⟨by rw [e2]; exact h.1, by rw [e4]; exact h.2⟩⟩
theorem keyIdx_at {l : List Entryt} {e : Entryt} (h : 0 ≤ keyIdx l e) : sameKeyB (l[(keyIdx l e).toNat]'(keyIdx_lt h)) e = true :=
  (firstIdx_rest (p := fun x => sameKeyB x e) (xs := l) (by show ¬ keyIdx l e = -1; omega) (keyIdx_lt h)).2
theorem set_right {t : Tablet} {e : Entryt} {k : Nat} (h : tableB t = true) (he : entryOkB e = true) (hlt : k < t.entries.length) (hat : sameKeyB t.entries[k] e = true) : tableB ⟨t.cap, t.entries.set k e⟩ = true ∧ e ∈ t.entries.set k e := by
  obtain ⟨c1, c2, c3⟩ := tableB_iff.1 h
  refine ⟨tableB_iff.2 ⟨⟨c1.1, c1.2.1, by simpa using c1.2.2⟩, fun x hx => ?_, List.pairwise_iff_getElem.2 fun i j hi hj hij => ?_⟩, List.mem_set hlt e⟩
  · rcases List.mem_or_eq_of_mem_set hx with q | q
    · exact c2 x q
    · rw [q]; exact he
  · have c4 := List.pairwise_iff_getElem.1 c3
    have hi' : i < t.entries.length := by simpa using hi
    have hj' : j < t.entries.length := by simpa using hj
    have hp := c4 i j hi' hj' hij
    simp only [List.getElem_set]
    split
    · rename_i q1
      subst q1
      rw [if_neg (by omega)]
      exact (sep_like hat).1 hp
    · split
      · rename_i q1 q2
        subst q2
        exact (sep_like hat).2 hp
      · exact hp
theorem keyIdx_none {l : List Entryt} {e : Entryt} (h : keyIdx l e < 0) : ∀ x ∈ l, sameKeyB x e = false := fun x hx => by
  cases hq : sameKeyB x e
  · rfl
  · have h1 := firstIdx_any (fun x => sameKeyB x e) l
    have h2 : l.any (fun x => sameKeyB x e) = true := List.any_eq_true.2 ⟨x, hx, hq⟩
    rw [h2, decide_eq_true_eq] at h1
    have h1 : 0 ≤ keyIdx l e := h1
    omega
theorem add_code {t : Tablet} {e : Entryt} (h : (tableAdd t e).2 = 0) : tableB t = true ∧ entryOkB e = true ∧ tableB (tableAdd t e).1 = true ∧ e ∈ (tableAdd t e).1.entries := by
  cases h0 : (tableB t && entryOkB e)
  · rw [tableAdd_no h0] at h; cases h
  · have h1 := h0
    simp only [Bool.and_eq_true] at h1
    obtain ⟨c1, c2, c3⟩ := tableB_iff.1 h1.1
    refine ⟨h1.1, h1.2, ?_⟩
    by_cases hk : 0 ≤ keyIdx t.entries e
    · have hlt := keyIdx_lt hk
      have hat := keyIdx_at hk
      have e0 : tableAdd t e = (⟨t.cap, t.entries.set (keyIdx t.entries e).toNat e⟩, 0) := (tableAdd_ok h0).trans (if_pos hk)
      rw [e0]
      exact set_right h1.1 h1.2 hlt hat
    · have hk : keyIdx t.entries e < 0 := by omega
      by_cases hc : (t.entries.length : Int) = t.cap
      · rw [tableAdd_full h1.1 h1.2 hk hc] at h; cases h
      · rw [tableAdd_put h1.1 h1.2 hk hc]
        have hn := keyIdx_none hk
        obtain ⟨p1, p2, p3⟩ := posA_is h1.1 e
        have hsp : (t.entries.take (posA t.entries e) ++ t.entries.drop (posA t.entries e)).Pairwise sepB := by rw [List.take_append_drop]; exact c3
        obtain ⟨s1, s2, s3⟩ := List.pairwise_append.1 hsp
        have lo : ∀ a ∈ t.entries.take (posA t.entries e), sepB a e := fun a ha => by
          have ha' := ha
          rw [← p2] at ha'
          obtain ⟨m1, m2⟩ := List.mem_filter.1 ha'
          exact ⟨by simpa using m2, hn a m1⟩
        have hi : ∀ b ∈ t.entries.drop (posA t.entries e), sepB e b := fun b hb => by
          have hb' := hb
          rw [← p3] at hb'
          obtain ⟨m1, m2⟩ := List.mem_filter.1 hb'
          refine ⟨?_, by rw [sameKey_comm]; exact hn b m1⟩
          rw [ahead_no]
          unfold aheadB at m2
          rw [decide_eq_true_eq] at m2; omega
        refine ⟨tableB_iff.2 ⟨⟨c1.1, c1.2.1, ?_⟩, fun x hx => ?_, List.pairwise_append.2 ⟨List.pairwise_append.2 ⟨s1, List.pairwise_singleton _ _, fun a ha b hb => by rw [List.mem_singleton.1 hb]; exact lo a ha⟩, s2, fun a ha b hb => ?_⟩⟩, ?_⟩
        · show ((t.entries.take (posA t.entries e) ++ [e] ++ t.entries.drop (posA t.entries e)).length : Int) ≤ t.cap
          simp only [List.length_append, List.length_take, List.length_drop, List.length_cons, List.length_nil]; omega
        · rcases List.mem_append.1 hx with q | q
          · rcases List.mem_append.1 q with q | q
            · exact c2 x (List.mem_of_mem_take q)
            · rw [List.mem_singleton.1 q]; exact h1.2
          · exact c2 x (List.mem_of_mem_drop q)
        · rcases List.mem_append.1 ha with q | q
          · exact s3 a q b hb
          · rw [List.mem_singleton.1 q]; exact hi b hb
        · show e ∈ t.entries.take (posA t.entries e) ++ [e] ++ t.entries.drop (posA t.entries e)
          simp
theorem add_err {t : Tablet} {e : Entryt} (h : ¬ (tableAdd t e).2 = 0) : (tableAdd t e).1.entries = [] := by
  unfold tableAdd at h ⊢
  split
  · rename_i h0
    rw [if_pos h0] at h
    split
    · rename_i h2; rw [if_pos h2] at h; exact absurd rfl h
    · rename_i h2
      rw [if_neg h2] at h
      split
      · rfl
      · rename_i h3; rw [if_neg h3] at h; exact absurd rfl h
  · rfl
def outB (ep : Int) (e : Entryt) : Bool := !decide (e.epoch = ep)
def tableKeep (t : Tablet) (ep : Int) : Tablet × Int := if tableB t = true then (⟨t.cap, t.entries.filter fun e => !outB ep e⟩, (t.entries.length : Int) - ((t.entries.filter fun e => !outB ep e).length : Int)) else (⟨0, []⟩, -1)
theorem tableKeep_no {t : Tablet} {ep : Int} (h : tableB t = false) : tableKeep t ep = (⟨0, []⟩, -1) := if_neg (by rw [h]; decide)
theorem tableKeep_ok {t : Tablet} {ep : Int} (h : tableB t = true) : tableKeep t ep = (⟨t.cap, t.entries.filter fun e => !outB ep e⟩, (t.entries.length : Int) - ((t.entries.filter fun e => !outB ep e).length : Int)) := if_pos h
theorem filter_right {t : Tablet} (h : tableB t = true) (p : Entryt → Bool) : tableB ⟨t.cap, t.entries.filter p⟩ = true := by
  obtain ⟨c1, c2, c3⟩ := tableB_iff.1 h
  refine tableB_iff.2 ⟨⟨c1.1, c1.2.1, ?_⟩, fun x hx => c2 x (List.mem_filter.1 hx).1, c3.sublist List.filter_sublist⟩
  have := List.length_filter_le p t.entries
  show ((t.entries.filter p).length : Int) ≤ t.cap
  omega
section
variable {t : Tablet} {e : Entryt}
theorem add_right (h : (tableAdd t e).2 = 0) : tableB (tableAdd t e).1 = true := (add_code h).2.2.1
theorem add_del (h : (tableAdd t e).2 = 0) : tableDelete (tableAdd t e).1 e.mat e.prio true = (⟨(tableAdd t e).1.cap, (tableAdd t e).1.entries.filter fun x => !goneB e.mat e.prio true x⟩, ((tableAdd t e).1.entries.length : Int) - (((tableAdd t e).1.entries.filter fun x => !goneB e.mat e.prio true x).length : Int)) :=
  tableDelete_ok (add_right h) (entryOk_match (add_code h).2.1)
theorem add_one (h : (tableAdd t e).2 = 0) : 1 ≤ (tableDelete (tableAdd t e).1 e.mat e.prio true).2 := by
  rw [add_del h]
  have hm := (add_code h).2.2.2
  have hg : goneB e.mat e.prio true e = true := by
    have := sameMatch_iff.2 ⟨entryOk_match (add_code h).2.1, rfl⟩
    simp [goneB, this]
  have : ((tableAdd t e).1.entries.filter fun x => !goneB e.mat e.prio true x).length < (tableAdd t e).1.entries.length := by
    refine List.length_filter_lt_length_iff_exists.2 ⟨e, hm, ?_⟩
    simp [hg]
  show (1 : Int) ≤ _ - _
  omega
theorem add_left (h : (tableAdd t e).2 = 0) : ((tableDelete (tableAdd t e).1 e.mat e.prio true).1.entries.length : Int) = ((tableAdd t e).1.entries.length : Int) - (tableDelete (tableAdd t e).1 e.mat e.prio true).2 := by
  rw [add_del h]
  show (((tableAdd t e).1.entries.filter fun x => !goneB e.mat e.prio true x).length : Int) = _ - (_ - _)
  omega
theorem add_kept (h : (tableAdd t e).2 = 0) : (tableKeep (tableAdd t e).1 e.epoch).2 = ((tableAdd t e).1.entries.length : Int) - ((tableKeep (tableAdd t e).1 e.epoch).1.entries.length : Int) := by
  rw [tableKeep_ok (add_right h)]
theorem add_out (h : (tableAdd t e).2 = 0) : tableB (tableDelete (tableAdd t e).1 e.mat e.prio true).1 = true := by
  rw [add_del h]; exact filter_right (add_right h) _
end
theorem tableKeep_small {t : Tablet} (h : smallTable t) (ep : Int) : smallTable (tableKeep t ep).1 := by
  unfold tableKeep
  split
  · exact ⟨Nat.le_trans (List.length_filter_le _ _) h.1, fun x hx => h.2 x (List.mem_filter.1 hx).1⟩
  · exact ⟨Nat.zero_le _, fun x hx => (by cases hx)⟩
theorem tab_set {c c' : Int} {es : List Entryt} {i : Nat} {e : Entryt} (h : smallTable ⟨c, es⟩) (he : smallEntry e) : smallTable ⟨c', es.set i e⟩ := by
  refine ⟨by show (es.set i e).length ≤ _; rw [List.length_set]; exact h.1, fun x hx => ?_⟩
  rcases List.mem_or_eq_of_mem_set hx with q | q
  · exact h.2 x q
  · rw [q]; exact he
theorem tab_cap {c c' : Int} {es : List Entryt} (h : smallTable ⟨c, es⟩) : smallTable ⟨c', es⟩ := h
theorem ent_like {x : Entryt} (h : smallEntry x) (a b c : Int) : smallEntry ⟨a, b, x.mat, x.acts, c⟩ := h
end Go.Proofs.Ytfdpigafekohgaa

/- Tables that are drawn (printed by walk.py) -/
namespace Go.Proofs.Ytfdpigafekohgaa
open Go.RowKit
set_option linter.unusedVariables false
set_option linter.unusedSimpArgs false
set_option maxRecDepth 100000

set_option maxHeartbeats 4000000 in
theorem anyEntry_x (b : List Int) (c : Cur) (hb : b.length ≤ 1048576) : AX Try.prog 118 [.one (.ptr 200 0)] [(200, some (curB b c))] (ι := Entryt × Cur) (fun i => smallEntry i.1) (fun i => .agg (entryC i.1)) (fun i => [(200, some (curB b i.2))]) := by
  refine AX_bodyC (n := 6) (k := 9) (cs := fun (i : Entryt × Cur) => (entryC i.1)) (T := fun (_ : Entryt × Cur) => [(2, .one (.ptr 9 0))]) (Lf := fun (i : Entryt × Cur) => ((9, some (.box (entryC i.1))) :: [(200, some (curB b i.2))])) (L' := fun (i : Entryt × Cur) => [(200, some (curB b i.2))]) Try.func118 rfl rfl Try.ntmps118 rfl Try.results118 (fun _ => rfl) (fun _ => rfl) (by kernel_rfl) (fun _ => rfl) (fun _ => rfl) (fun (_ : Entryt × Cur) => ⟨trivial, (by repeat (first | exact trivial | refine ⟨⟨_, rfl, BLe.rf⟩, ?_⟩)), (by repeat (first | exact trivial | refine ⟨⟨rfl, by first | (left; intro h; cases h) | (right; rfl), by first | exact (fun _ h => ⟨_, h⟩) | exact (fun _ _ => ⟨_, rfl⟩) | (intro _ h; cases h)⟩, ?_⟩)), rfl⟩) ?_
  refine AW_seq ?_
  refine AW_regionN ?_
  refine AN_p (x_alloc (z := .agg #[.int .i64 0, .int .i64 0, .slice none 0 0, .slice none 0 0, .slice none 0 0, .int .i64 0]) 100 rfl (by kernel_rfl) rfl rfl rfl rfl) ?_
  refine AN_nil ?_
  refine AW_seq ?_
  refine AW_regionN ?_
  refine AN_p (x_move rfl rfl) ?_
  refine AN_x (L := [(200, some (curB b c))]) rfl rfl rfl (entry_x b c hb) rfl rfl (fun _ => rfl) (fun _ => rfl) ⟨rfl, trivial⟩ (fun _ => rfl) ?_
  rintro ⟨x6, c6⟩ g6
  try dsimp only at g6
  try dsimp only
  obtain ⟨ga6, gb6, gc6⟩ := g6
  obtain ⟨e16, e26, ⟨mv6, mm6⟩, ac6, e36⟩ := x6
  dsimp only at ga6 gb6 gc6 ⊢
  refine AN_p (x_alloc (z := .agg #[.int .i64 0, .int .i64 0, .slice none 0 0, .slice none 0 0, .slice none 0 0, .int .i64 0]) 101 rfl (by kernel_rfl) rfl rfl rfl rfl) ?_
  refine AN_p (x_store (n := 6) rfl rfl rfl rfl (by kernel_rfl) rfl rfl rfl) ?_
  refine AN_nil ?_
  refine AW_seq ?_
  refine AW_regionN ?_
  refine AN_p (x_move rfl rfl) ?_
  have d8 := dBelow_lt b c6 (n := 16) (by decide)
  refine AN_p (x_call (ks := []) (L := [(200, some _)]) (L' := [(200, some _)]) rfl rfl rfl (below_c b c6 hb 16) rfl AllV.rf (caught_of rfl) rfl rfl rfl ⟨rfl, trivial⟩ rfl) ?_
  refine AN_p (x_assign rfl rfl) ?_
  refine AN_nil ?_
  refine AW_seq ?_
  refine AW_seq ?_
  refine AW_regionN ?_
  refine AN_p (x_move rfl rfl) ?_
  refine AN_b (x_eql rfl rfl rfl) (fun b10 h10 => ?_)
  refine AN_nil ?_
  cases b10
  rotate_left
  · try simp only [tdy] at h10
    refine AW_condT rfl ?_
    refine AW_regionN ?_
    refine AN_p (x_move rfl rfl) ?_
    refine AN_p (x_call (ks := []) (L := [(200, some _)]) (L' := [(200, some _)]) rfl rfl rfl (raw_c b (dBelow b c6 16).2 hb) rfl AllV.rf (caught_of rfl) rfl rfl rfl ⟨rfl, trivial⟩ rfl) ?_
    refine AN_p (x_field (off := 1) (o' := 1) rfl rfl rfl (by kernel_rfl) rfl) ?_
    refine AN_p (x_store (n := 1) rfl rfl rfl rfl (by kernel_rfl) rfl rfl rfl) ?_
    refine AN_nil ?_
    refine AW_seq ?_
    refine AW_seq ?_
    refine AW_regionN ?_
    refine AN_p (x_move rfl rfl) ?_
    refine AN_b (x_eql rfl rfl rfl) (fun b15 h15 => ?_)
    refine AN_nil ?_
    cases b15
    rotate_left
    · exfalso; simp at h15; omega
    try simp only [tdy] at h15
    refine AW_condF rfl ?_
    refine AW_skip ?_
    refine AW_seq ?_
    refine AW_seq ?_
    refine AW_regionN ?_
    refine AN_p (x_move rfl rfl) ?_
    refine AN_b (x_eql rfl rfl rfl) (fun b20 h20 => ?_)
    refine AN_nil ?_
    cases b20
    rotate_left
    · exfalso; simp at h20; omega
    try simp only [tdy] at h20
    refine AW_condF rfl ?_
    refine AW_skip ?_
    refine AW_seq ?_
    refine AW_seq ?_
    refine AW_regionN ?_
    refine AN_p (x_move rfl rfl) ?_
    refine AN_b (x_eql rfl rfl rfl) (fun b25 h25 => ?_)
    refine AN_nil ?_
    cases b25
    rotate_left
    · exfalso; simp at h25; omega
    try simp only [tdy] at h25
    refine AW_condF rfl ?_
    refine AW_skip ?_
    refine AW_seq ?_
    refine AW_seq ?_
    refine AW_regionN ?_
    refine AN_p (x_move rfl rfl) ?_
    refine AN_b (x_eql rfl rfl rfl) (fun b30 h30 => ?_)
    refine AN_nil ?_
    cases b30
    rotate_left
    · exfalso; simp at h30; omega
    try simp only [tdy] at h30
    refine AW_condF rfl ?_
    refine AW_skip ?_
    refine AW_seq ?_
    refine AW_regionN ?_
    refine AN_p (x_loadN (n := 6) rfl rfl rfl (by kernel_rfl) rfl rfl) ?_
    refine AN_p (x_store (n := 6) rfl rfl rfl rfl (by kernel_rfl) rfl rfl rfl) ?_
    refine AN_nil ?_
    refine AW_ret ?_
    refine ⟨⟨⟨_, _, ⟨_, _⟩, _, _⟩, _⟩, ?_, rn [(9, 100)], by exact ⟨⟨⟨_, rfl, VLe.rf⟩, trivial⟩, ⟨⟨_, rfl, by first | exact BLe.rf | exact BLe.box (by repeat (first | exact trivial | refine ⟨by first | exact CLe.rf | exact CLe.nil, ?_⟩))⟩, ⟨_, rfl, BLe.rf⟩, trivial⟩, by repeat (first | exact trivial | refine ⟨⟨rfl, by first | (left; intro h; cases h) | (right; rfl), by first | exact (fun _ h => ⟨_, h⟩) | exact (fun _ _ => ⟨_, rfl⟩) | (intro _ h; cases h)⟩, ?_⟩), rfl⟩⟩
    refine ⟨⟨?_, ?_⟩, ?_, fun _ _ => trivial⟩
    all_goals (try dsimp only)
    all_goals first | omega | (simp; omega)
  try simp only [tdy] at h10
  refine AW_condF rfl ?_
  refine AW_skip ?_
  refine AW_seq ?_
  refine AW_seq ?_
  refine AW_regionN ?_
  refine AN_p (x_move rfl rfl) ?_
  refine AN_b (x_eql rfl rfl rfl) (fun b15 h15 => ?_)
  refine AN_nil ?_
  cases b15
  rotate_left
  · try simp only [tdy] at h15
    refine AW_condT rfl ?_
    refine AW_regionN ?_
    refine AN_p (x_move rfl rfl) ?_
    refine AN_p (x_call (ks := []) (L := [(200, some _)]) (L' := [(200, some _)]) rfl rfl rfl (raw_c b (dBelow b c6 16).2 hb) rfl AllV.rf (caught_of rfl) rfl rfl rfl ⟨rfl, trivial⟩ rfl) ?_
    refine AN_p (x_field (off := 0) (o' := 0) rfl rfl rfl (by kernel_rfl) rfl) ?_
    refine AN_p (x_store (n := 1) rfl rfl rfl rfl (by kernel_rfl) rfl rfl rfl) ?_
    refine AN_nil ?_
    refine AW_seq ?_
    refine AW_seq ?_
    refine AW_regionN ?_
    refine AN_p (x_move rfl rfl) ?_
    refine AN_b (x_eql rfl rfl rfl) (fun b20 h20 => ?_)
    refine AN_nil ?_
    cases b20
    rotate_left
    · exfalso; simp at h20; omega
    try simp only [tdy] at h20
    refine AW_condF rfl ?_
    refine AW_skip ?_
    refine AW_seq ?_
    refine AW_seq ?_
    refine AW_regionN ?_
    refine AN_p (x_move rfl rfl) ?_
    refine AN_b (x_eql rfl rfl rfl) (fun b25 h25 => ?_)
    refine AN_nil ?_
    cases b25
    rotate_left
    · exfalso; simp at h25; omega
    try simp only [tdy] at h25
    refine AW_condF rfl ?_
    refine AW_skip ?_
    refine AW_seq ?_
    refine AW_seq ?_
    refine AW_regionN ?_
    refine AN_p (x_move rfl rfl) ?_
    refine AN_b (x_eql rfl rfl rfl) (fun b30 h30 => ?_)
    refine AN_nil ?_
    cases b30
    rotate_left
    · exfalso; simp at h30; omega
    try simp only [tdy] at h30
    refine AW_condF rfl ?_
    refine AW_skip ?_
    refine AW_seq ?_
    refine AW_regionN ?_
    refine AN_p (x_loadN (n := 6) rfl rfl rfl (by kernel_rfl) rfl rfl) ?_
    refine AN_p (x_store (n := 6) rfl rfl rfl rfl (by kernel_rfl) rfl rfl rfl) ?_
    refine AN_nil ?_
    refine AW_ret ?_
    refine ⟨⟨⟨_, _, ⟨_, _⟩, _, _⟩, _⟩, ?_, rn [(9, 100)], by exact ⟨⟨⟨_, rfl, VLe.rf⟩, trivial⟩, ⟨⟨_, rfl, by first | exact BLe.rf | exact BLe.box (by repeat (first | exact trivial | refine ⟨by first | exact CLe.rf | exact CLe.nil, ?_⟩))⟩, ⟨_, rfl, BLe.rf⟩, trivial⟩, by repeat (first | exact trivial | refine ⟨⟨rfl, by first | (left; intro h; cases h) | (right; rfl), by first | exact (fun _ h => ⟨_, h⟩) | exact (fun _ _ => ⟨_, rfl⟩) | (intro _ h; cases h)⟩, ?_⟩), rfl⟩⟩
    refine ⟨⟨?_, ?_⟩, ?_, fun _ _ => trivial⟩
    all_goals (try dsimp only)
    all_goals first | omega | (simp; omega)
  try simp only [tdy] at h15
  refine AW_condF rfl ?_
  refine AW_skip ?_
  refine AW_seq ?_
  refine AW_seq ?_
  refine AW_regionN ?_
  refine AN_p (x_move rfl rfl) ?_
  refine AN_b (x_eql rfl rfl rfl) (fun b20 h20 => ?_)
  refine AN_nil ?_
  cases b20
  rotate_left
  · try simp only [tdy] at h20
    refine AW_condT rfl ?_
    refine AW_regionN ?_
    refine AN_p (x_move rfl rfl) ?_
    refine AN_p (x_call (ks := []) (L := [(200, some _)]) (L' := [(200, some _)]) rfl rfl rfl (raw_c b (dBelow b c6 16).2 hb) rfl AllV.rf (caught_of rfl) rfl rfl rfl ⟨rfl, trivial⟩ rfl) ?_
    refine AN_p (x_field (off := 5) (o' := 5) rfl rfl rfl (by kernel_rfl) rfl) ?_
    refine AN_p (x_store (n := 1) rfl rfl rfl rfl (by kernel_rfl) rfl rfl rfl) ?_
    refine AN_nil ?_
    refine AW_seq ?_
    refine AW_seq ?_
    refine AW_regionN ?_
    refine AN_p (x_move rfl rfl) ?_
    refine AN_b (x_eql rfl rfl rfl) (fun b25 h25 => ?_)
    refine AN_nil ?_
    cases b25
    rotate_left
    · exfalso; simp at h25; omega
    try simp only [tdy] at h25
    refine AW_condF rfl ?_
    refine AW_skip ?_
    refine AW_seq ?_
    refine AW_seq ?_
    refine AW_regionN ?_
    refine AN_p (x_move rfl rfl) ?_
    refine AN_b (x_eql rfl rfl rfl) (fun b30 h30 => ?_)
    refine AN_nil ?_
    cases b30
    rotate_left
    · exfalso; simp at h30; omega
    try simp only [tdy] at h30
    refine AW_condF rfl ?_
    refine AW_skip ?_
    refine AW_seq ?_
    refine AW_regionN ?_
    refine AN_p (x_loadN (n := 6) rfl rfl rfl (by kernel_rfl) rfl rfl) ?_
    refine AN_p (x_store (n := 6) rfl rfl rfl rfl (by kernel_rfl) rfl rfl rfl) ?_
    refine AN_nil ?_
    refine AW_ret ?_
    refine ⟨⟨⟨_, _, ⟨_, _⟩, _, _⟩, _⟩, ?_, rn [(9, 100)], by exact ⟨⟨⟨_, rfl, VLe.rf⟩, trivial⟩, ⟨⟨_, rfl, by first | exact BLe.rf | exact BLe.box (by repeat (first | exact trivial | refine ⟨by first | exact CLe.rf | exact CLe.nil, ?_⟩))⟩, ⟨_, rfl, BLe.rf⟩, trivial⟩, by repeat (first | exact trivial | refine ⟨⟨rfl, by first | (left; intro h; cases h) | (right; rfl), by first | exact (fun _ h => ⟨_, h⟩) | exact (fun _ _ => ⟨_, rfl⟩) | (intro _ h; cases h)⟩, ?_⟩), rfl⟩⟩
    refine ⟨⟨?_, ?_⟩, ?_, fun _ _ => trivial⟩
    all_goals (try dsimp only)
    all_goals first | omega | (simp; omega)
  try simp only [tdy] at h20
  refine AW_condF rfl ?_
  refine AW_skip ?_
  refine AW_seq ?_
  refine AW_seq ?_
  refine AW_regionN ?_
  refine AN_p (x_move rfl rfl) ?_
  refine AN_b (x_eql rfl rfl rfl) (fun b25 h25 => ?_)
  refine AN_nil ?_
  cases b25
  rotate_left
  · try simp only [tdy] at h25
    refine AW_condT rfl ?_
    refine AW_regionN ?_
    refine AN_p (x_move rfl rfl) ?_
    refine AN_x (L := [(200, some (curB b (dBelow b c6 16).2))]) rfl rfl rfl (anyMatch_x b (dBelow b c6 16).2 hb) rfl rfl (fun _ => rfl) (fun _ => rfl) ⟨rfl, trivial⟩ (fun _ => rfl) ?_
    rintro ⟨y27, c27⟩ g27
    try dsimp only at g27
    try dsimp only
    obtain ⟨ga27, gb27⟩ := g27
    obtain ⟨yv, ym⟩ := y27
    dsimp only at ga27 gb27 ⊢
    refine AN_p (x_field (off := 2) (o' := 2) rfl rfl rfl (by kernel_rfl) rfl) ?_
    refine AN_p (x_store (n := 2) rfl rfl rfl rfl (by kernel_rfl) rfl rfl rfl) ?_
    refine AN_nil ?_
    refine AW_seq ?_
    refine AW_seq ?_
    refine AW_regionN ?_
    refine AN_p (x_move rfl rfl) ?_
    refine AN_b (x_eql rfl rfl rfl) (fun b30 h30 => ?_)
    refine AN_nil ?_
    cases b30
    rotate_left
    · exfalso; simp at h30; omega
    try simp only [tdy] at h30
    refine AW_condF rfl ?_
    refine AW_skip ?_
    refine AW_seq ?_
    refine AW_regionN ?_
    refine AN_p (x_loadN (n := 6) rfl rfl rfl (by kernel_rfl) rfl rfl) ?_
    refine AN_p (x_store (n := 6) rfl rfl rfl rfl (by kernel_rfl) rfl rfl rfl) ?_
    refine AN_nil ?_
    refine AW_ret ?_
    refine ⟨⟨⟨_, _, ⟨_, _⟩, _, _⟩, _⟩, ?_, rn [(9, 100)], by exact ⟨⟨⟨_, rfl, VLe.rf⟩, trivial⟩, ⟨⟨_, rfl, by first | exact BLe.rf | exact BLe.box (by repeat (first | exact trivial | refine ⟨by first | exact CLe.rf | exact CLe.nil, ?_⟩))⟩, ⟨_, rfl, BLe.rf⟩, trivial⟩, by repeat (first | exact trivial | refine ⟨⟨rfl, by first | (left; intro h; cases h) | (right; rfl), by first | exact (fun _ h => ⟨_, h⟩) | exact (fun _ _ => ⟨_, rfl⟩) | (intro _ h; cases h)⟩, ?_⟩), rfl⟩⟩
    refine ⟨⟨?_, ?_⟩, ?_, fun _ _ => trivial⟩
    all_goals (try dsimp only)
    all_goals first | omega | (simp; omega)
  try simp only [tdy] at h25
  refine AW_condF rfl ?_
  refine AW_skip ?_
  refine AW_seq ?_
  refine AW_seq ?_
  refine AW_regionN ?_
  refine AN_p (x_move rfl rfl) ?_
  refine AN_b (x_eql rfl rfl rfl) (fun b30 h30 => ?_)
  refine AN_nil ?_
  cases b30
  · try simp only [tdy] at h30
    refine AW_condF rfl ?_
    refine AW_skip ?_
    refine AW_seq ?_
    refine AW_regionN ?_
    refine AN_p (x_loadN (n := 6) rfl rfl rfl (by kernel_rfl) rfl rfl) ?_
    refine AN_p (x_store (n := 6) rfl rfl rfl rfl (by kernel_rfl) rfl rfl rfl) ?_
    refine AN_nil ?_
    refine AW_ret ?_
    refine ⟨⟨⟨_, _, ⟨_, _⟩, _, _⟩, _⟩, ?_, rn [(9, 100)], by exact ⟨⟨⟨_, rfl, VLe.rf⟩, trivial⟩, ⟨⟨_, rfl, by first | exact BLe.rf | exact BLe.box (by repeat (first | exact trivial | refine ⟨by first | exact CLe.rf | exact CLe.nil, ?_⟩))⟩, ⟨_, rfl, BLe.rf⟩, trivial⟩, by repeat (first | exact trivial | refine ⟨⟨rfl, by first | (left; intro h; cases h) | (right; rfl), by first | exact (fun _ h => ⟨_, h⟩) | exact (fun _ _ => ⟨_, rfl⟩) | (intro _ h; cases h)⟩, ?_⟩), rfl⟩⟩
    refine ⟨⟨?_, ?_⟩, ?_, fun _ _ => trivial⟩
    all_goals (try dsimp only)
    all_goals first | omega | (simp; omega)
  try simp only [tdy] at h30
  refine AW_condT rfl ?_
  refine AW_regionN ?_
  refine AN_p (x_move rfl rfl) ?_
  refine AN_x (L := [(200, some (curB b (dBelow b c6 16).2))]) rfl rfl rfl (anyActs_x b (dBelow b c6 16).2 hb) rfl rfl (fun _ => rfl) (fun _ => rfl) ⟨rfl, trivial⟩ (fun _ => rfl) ?_
  rintro ⟨y32, c32⟩ g32
  try dsimp only at g32
  try dsimp only
  refine AN_p (x_field (off := 4) (o' := 4) rfl rfl rfl (by kernel_rfl) rfl) ?_
  refine AN_p (x_store (n := 1) rfl rfl rfl rfl (by kernel_rfl) rfl rfl rfl) ?_
  refine AN_nil ?_
  refine AW_seq ?_
  refine AW_regionN ?_
  refine AN_p (x_loadN (n := 6) rfl rfl rfl (by kernel_rfl) rfl rfl) ?_
  refine AN_p (x_store (n := 6) rfl rfl rfl rfl (by kernel_rfl) rfl rfl rfl) ?_
  refine AN_nil ?_
  refine AW_ret ?_
  refine ⟨⟨⟨_, _, ⟨_, _⟩, _, _⟩, _⟩, ?_, rn [(9, 100)], by exact ⟨⟨⟨_, rfl, VLe.rf⟩, trivial⟩, ⟨⟨_, rfl, by first | exact BLe.rf | exact BLe.box (by repeat (first | exact trivial | refine ⟨by first | exact CLe.rf | exact CLe.nil, ?_⟩))⟩, ⟨_, rfl, BLe.rf⟩, trivial⟩, by repeat (first | exact trivial | refine ⟨⟨rfl, by first | (left; intro h; cases h) | (right; rfl), by first | exact (fun _ h => ⟨_, h⟩) | exact (fun _ _ => ⟨_, rfl⟩) | (intro _ h; cases h)⟩, ?_⟩), rfl⟩⟩
  refine ⟨⟨?_, ?_⟩, ?_, fun _ _ => trivial⟩
  all_goals (try dsimp only)
  all_goals first | omega | (simp; omega)

set_option maxHeartbeats 4000000 in
theorem tab_x (b : List Int) (c : Cur) (hb : b.length ≤ 1048576) : AX Try.prog 144 [.one (.ptr 200 0)] [(200, some (curB b c))] (ι := Tablet × Cur) (fun i => smallTable i.1) (fun i => .agg [.c (.int .i64 i.1.cap), .own 0]) (fun i => [(200, some (curB b i.2)), (0, some (.arr 74 entryE i.1.entries false))]) := by
  refine AX_bodyC (n := 2) (k := 9) (cs := fun (i : Tablet × Cur) => [.c (.int .i64 i.1.cap), .own 0]) (T := fun (_ : Tablet × Cur) => [(2, .one (.ptr 9 0))]) (Lf := fun (i : Tablet × Cur) => ((9, some (.box [.c (.int .i64 i.1.cap), .own 0])) :: [(200, some (curB b i.2)), (0, some (.arr 74 entryE i.1.entries false))])) (L' := fun (i : Tablet × Cur) => [(200, some (curB b i.2)), (0, some (.arr 74 entryE i.1.entries false))]) Try.func144 rfl rfl Try.ntmps144 rfl Try.results144 (fun _ => rfl) (fun _ => rfl) (by kernel_rfl) (fun _ => rfl) (fun _ => rfl) (fun (_ : Tablet × Cur) => ⟨trivial, (by repeat (first | exact trivial | refine ⟨⟨_, rfl, BLe.rf⟩, ?_⟩)), (by repeat (first | exact trivial | refine ⟨⟨rfl, by first | (left; intro h; cases h) | (right; rfl), by first | exact (fun _ h => ⟨_, h⟩) | exact (fun _ _ => ⟨_, rfl⟩) | (intro _ h; cases h)⟩, ?_⟩)), rfl⟩) ?_
  refine AW_seq ?_
  refine AW_regionN ?_
  refine AN_p (x_alloc (z := .agg #[.int .i64 0, .slice none 0 0]) 100 rfl (by kernel_rfl) rfl rfl rfl rfl) ?_
  refine AN_nil ?_
  refine AW_seq ?_
  refine AW_regionN ?_
  refine AN_p (x_move rfl rfl) ?_
  have d8 := dBelow_lt b c (n := 10) (by decide)
  refine AN_p (x_call (ks := []) (L := [(200, some _)]) (L' := [(200, some _)]) rfl rfl rfl (below_c b c hb 10) rfl AllV.rf (caught_of rfl) rfl rfl rfl ⟨rfl, trivial⟩ rfl) ?_
  refine AN_p (x_add rfl rfl rfl (IntWalk.i64_in _ (by omega))) ?_
  refine AN_p (x_build (zs := [.int .i64 0, .slice none 0 0]) (places := [(0, 1), (1, 1)]) rfl (by kernel_rfl) rfl rfl rfl rfl rfl) ?_
  refine AN_p (x_alloc (z := .agg #[.int .i64 0, .slice none 0 0]) 201 rfl (by kernel_rfl) rfl rfl rfl rfl) ?_
  refine AN_p (x_store (n := 2) rfl rfl rfl rfl (by kernel_rfl) rfl rfl rfl) ?_
  refine AN_nil ?_
  refine AW_seq ?_
  refine AW_seq ?_
  refine AW_regionN ?_
  refine AN_p (x_move rfl rfl) ?_
  have d12 := dBelow_lt b (dBelow b c 10).2 (n := 8) (by decide)
  refine AN_p (x_call (ks := []) (L := [(200, some _)]) (L' := [(200, some _)]) rfl rfl rfl (below_c b (dBelow b c 10).2 hb 8) rfl AllV.rf (caught_of rfl) rfl rfl rfl ⟨rfl, trivial⟩ rfl) ?_
  refine AN_b (x_eql rfl rfl rfl) (fun b13 h13 => ?_)
  refine AN_nil ?_
  cases b13
  · try simp only [tdy] at h13
    refine AW_condF rfl ?_
    refine AW_skip ?_
    refine AW_seq ?_
    refine AW_seq ?_
    refine AW_regionN ?_
    refine AN_p (x_move rfl rfl) ?_
    have d16 := dBelow_lt b (dBelow b (dBelow b c 10).2 8).2 (n := 10) (by decide)
    refine AN_p (x_call (ks := []) (L := [(200, some _)]) (L' := [(200, some _)]) rfl rfl rfl (below_c b (dBelow b (dBelow b c 10).2 8).2 hb 10) rfl AllV.rf (caught_of rfl) rfl rfl rfl ⟨rfl, trivial⟩ rfl) ?_
    refine AN_p (x_assign rfl rfl) ?_
    refine AN_nil ?_
    refine AW_block ?_
    refine AW_adopt (T := 74) (e := entryE) 0 201 1 rfl rfl rfl rfl rfl ?_
    refine AW_shallow 0 rfl ?_
    refine AW_loop2 (ι := {q : Int × Tablet × Cur // smallTable (q.2.1) ∧ (q.1) ≤ 10}) (fun p => [(4, .one (.c (.int .i64 (p.1.1))))]) (fun p => [(0, some (.arr 74 entryE (p.1.2.1).entries false)), (200, some (curB b (p.1.2.2))), (201, some (.box [.c (.int .i64 (p.1.2.1).cap), .own 0]))]) [0, 2, 3] [100] (fun p => (p.1.1).toNat) ⟨⟨(dBelow b (dBelow b (dBelow b c 10).2 8).2 10).1, ⟨(1 + (dBelow b c 10).1), []⟩, (dBelow b (dBelow b (dBelow b c 10).2 8).2 10).2⟩, ⟨⟨Nat.zero_le _, fun x hx => (by cases hx)⟩, by dsimp only; omega⟩⟩ (rn []) ?_ ?_
    exact ⟨by (repeat refine ⟨⟨_, rfl, by first | exact VLe.rf | exact vle_int (by dsimp only; omega)⟩, ?_⟩); exact trivial, by (repeat refine ⟨⟨_, rfl, by first | exact BLe.rf | exact BLe.box AllC.rf | exact BLe.arr (by exact rfl)⟩, ?_⟩); exact trivial, by repeat (first | exact trivial | refine ⟨⟨rfl, by first | (left; intro h; cases h) | (right; rfl), by first | exact (fun _ h => ⟨_, h⟩) | exact (fun _ _ => ⟨_, rfl⟩) | (intro _ h; cases h)⟩, ?_⟩), rfl⟩
    rintro ⟨⟨n, tb, cc⟩, hinv⟩
    dsimp only
    obtain ⟨htb, hn⟩ := hinv
    have htb : smallTable tb := htb
    have hn : n ≤ 10 := hn
    refine AW_seq ?_
    refine AW_seq ?_
    refine AW_regionN ?_
    refine AN_p (x_move rfl rfl) ?_
    refine AN_b (x_gtr rfl rfl rfl) (fun b18 h18 => ?_)
    refine AN_nil ?_
    cases b18
    · try simp only [tdy] at h18
      refine AW_condF rfl ?_
      refine AW_exit (BQ_hit ?_)
      refine AW_seq ?_
      refine AW_regionN ?_
      refine AN_p (x_loadN (n := 2) rfl rfl rfl (by kernel_rfl) rfl rfl) ?_
      refine AN_p (x_store (n := 2) rfl rfl rfl rfl (by kernel_rfl) rfl rfl rfl) ?_
      refine AN_nil ?_
      refine AW_ret ?_
      refine ⟨⟨_, _⟩, ?_, rn [(9, 100), (0, 0)], by exact ⟨⟨⟨_, rfl, VLe.rf⟩, trivial⟩, ⟨⟨_, rfl, by first | exact BLe.rf | exact BLe.box (by repeat (first | exact trivial | refine ⟨by first | exact CLe.rf | exact CLe.nil, ?_⟩))⟩, ⟨_, rfl, BLe.rf⟩, ⟨_, rfl, BLe.rf⟩, trivial⟩, by repeat (first | exact trivial | refine ⟨⟨rfl, by first | (left; intro h; cases h) | (right; rfl), by first | exact (fun _ h => ⟨_, h⟩) | exact (fun _ _ => ⟨_, rfl⟩) | (intro _ h; cases h)⟩, ?_⟩), rfl⟩⟩
      exact htb
    try simp only [tdy] at h18
    refine AW_condT rfl ?_
    refine AW_skip ?_
    refine AW_seq ?_
    refine AW_block ?_
    refine AW_seq ?_
    refine AW_drawX (G := fun i : (Int × Int × (List Int × List Int) × List Actt × Int) × Cur => i.1.2.2.1.1.length = 8 ∧ i.1.2.2.1.2.length = 8 ∧ i.1.2.2.2.1.length ≤ 13) (((0, 0, (List.replicate 8 0, List.replicate 8 0), [], 0), cc) : (Int × Int × (List Int × List Int) × List Actt × Int) × Cur) ⟨rfl, rfl, Nat.zero_le _⟩ 2 rfl rfl ?_
    refine ALF_u (((0, 0, (List.replicate 8 0, List.replicate 8 0), [], 0), cc) : (Int × Int × (List Int × List Int) × List Actt × Int) × Cur) rfl (fun _ => (x_loadN (n := 2) rfl rfl rfl (by kernel_rfl) rfl rfl)) ?_
    refine ALF_u (((0, 0, (List.replicate 8 0, List.replicate 8 0), [], 0), cc) : (Int × Int × (List Int × List Int) × List Actt × Int) × Cur) rfl (fun _ => (x_move rfl rfl)) ?_
    refine ALF_x (L := [(200, some (curB b cc))]) rfl (((0, 0, (List.replicate 8 0, List.replicate 8 0), [], 0), cc) : (Int × Int × (List Int × List Int) × List Actt × Int) × Cur) ⟨rfl, rfl, Nat.zero_le _⟩ rfl rfl rfl (entry_x b cc hb) rfl rfl (fun _ => rfl) (fun _ => rfl) ⟨rfl, trivial⟩ (fun _ => rfl) ?_
    refine ALF_d rfl (by kernel_rfl) (fun i gi => (x_call (ks := []) (L := [(0, some _)]) (L' := [(0, some _), (1, some _)]) rfl rfl rfl (tabAddO_c tb.cap tb.entries (⟨i.1.1, i.1.2.1, ⟨i.1.2.2.1.1, i.1.2.2.1.2⟩, i.1.2.2.2.1, i.1.2.2.2.2⟩ : Entryt) htb ⟨⟨Nat.le_trans (Nat.le_of_eq gi.1) (by decide), Nat.le_trans (Nat.le_of_eq gi.2.1) (by decide)⟩, Nat.le_trans gi.2.2 (by decide), fun _ _ => trivial⟩) rfl AllV.rf (caught_of rfl) rfl rfl rfl ⟨rfl, trivial⟩ rfl)) (fun _ => rfl) ?_
    refine ALF_d rfl (by kernel_rfl) (fun i gi => (x_move rfl rfl)) (fun _ => rfl) ?_
    refine ALF_d rfl (by kernel_rfl) (fun i gi => (x_extract rfl rfl rfl)) (fun _ => rfl) ?_
    refine ALF_d rfl (by kernel_rfl) (fun i gi => (x_extract rfl rfl rfl)) (fun _ => rfl) ?_
    refine ALF_u (((0, 0, (List.replicate 8 0, List.replicate 8 0), [], 0), cc) : (Int × Int × (List Int × List Int) × List Actt × Int) × Cur) rfl (fun _ => (x_alloc (z := .agg #[.int .i64 0, .slice none 0 0]) 101 rfl (by kernel_rfl) rfl rfl rfl rfl)) ?_
    refine ALF_d rfl (by kernel_rfl) (fun i gi => (x_store (n := 2) rfl rfl rfl rfl (by kernel_rfl) rfl rfl rfl)) (fun _ => rfl) ?_
    refine ALF_d rfl (by kernel_rfl) (fun i gi => (x_assign rfl rfl)) (fun _ => rfl) ?_
    refine ALF_nil (fun _ => by kernel_rfl) ?_
    rintro ⟨x24, c24⟩ g24
    try dsimp only at g24
    try dsimp only
    obtain ⟨ga24, gb24, gc24⟩ := g24
    obtain ⟨e124, e224, ⟨mv24, mm24⟩, ac24, e324⟩ := x24
    dsimp only at ga24 gb24 gc24 ⊢
    have hen : smallEntry (⟨e124, e224, ⟨mv24, mm24⟩, ac24, e324⟩ : Entryt) := ⟨⟨by dsimp only; omega, by dsimp only; omega⟩, by dsimp only; omega, fun _ _ => trivial⟩
    refine AW_seq ?_
    refine AW_regionN ?_
    refine AN_p (x_move rfl rfl) ?_
    refine AN_b (x_eql rfl rfl rfl) (fun b29 h29 => ?_)
    refine AN_nil ?_
    cases b29
    · try simp only [tdy] at h29
      refine AW_condF rfl ?_
      refine AW_skip ?_
      refine AW_regionN ?_
      refine AN_p (x_move rfl rfl) ?_
      refine AN_p (x_sub rfl rfl rfl (IntWalk.i64_in _ (by omega))) ?_
      refine AN_p (x_assign rfl rfl) ?_
      refine AN_nil ?_
      refine ⟨⟨⟨_, tb, _⟩, ?_⟩, rn [], by exact ⟨by (repeat refine ⟨⟨_, rfl, by first | exact VLe.rf | exact vle_int (by dsimp only; omega)⟩, ?_⟩); exact trivial, by (repeat refine ⟨⟨_, rfl, by first | exact BLe.rf | exact BLe.box AllC.rf | exact BLe.arr (by exact rfl)⟩, ?_⟩); exact trivial, by repeat (first | exact trivial | refine ⟨⟨rfl, by first | (left; intro h; cases h) | (right; rfl), by first | exact (fun _ h => ⟨_, h⟩) | exact (fun _ _ => ⟨_, rfl⟩) | (intro _ h; cases h)⟩, ?_⟩), rfl⟩, by dsimp only; omega⟩
      exact ⟨by first | exact tableAdd_small htb hen | exact htb, by dsimp only; omega⟩
    try simp only [tdy] at h29
    refine AW_condT rfl ?_
    refine AW_regionN ?_
    refine AN_p (x_loadN (n := 2) rfl rfl rfl (by kernel_rfl) rfl rfl) ?_
    refine AN_p (x_store (n := 2) rfl rfl rfl rfl (by kernel_rfl) rfl rfl rfl) ?_
    refine AN_nil ?_
    refine AW_regionN ?_
    refine AN_p (x_move rfl rfl) ?_
    refine AN_p (x_sub rfl rfl rfl (IntWalk.i64_in _ (by omega))) ?_
    refine AN_p (x_assign rfl rfl) ?_
    refine AN_nil ?_
    refine ⟨⟨⟨_, (tableAdd ⟨tb.cap, tb.entries⟩ (⟨e124, e224, ⟨mv24, mm24⟩, ac24, e324⟩ : Entryt)).1, _⟩, ?_⟩, rn [(0, 1)], by exact ⟨by (repeat refine ⟨⟨_, rfl, by first | exact VLe.rf | exact vle_int (by dsimp only; omega)⟩, ?_⟩); exact trivial, by (repeat refine ⟨⟨_, rfl, by first | exact BLe.rf | exact BLe.box AllC.rf | exact BLe.arr (by exact rfl)⟩, ?_⟩); exact trivial, by repeat (first | exact trivial | refine ⟨⟨rfl, by first | (left; intro h; cases h) | (right; rfl), by first | exact (fun _ h => ⟨_, h⟩) | exact (fun _ _ => ⟨_, rfl⟩) | (intro _ h; cases h)⟩, ?_⟩), rfl⟩, by dsimp only; omega⟩
    exact ⟨by first | exact tableAdd_small htb hen | exact htb, by dsimp only; omega⟩
  try simp only [tdy] at h13
  refine AW_condT rfl ?_
  refine AW_regionN ?_
  refine AN_p (x_field (off := 0) (o' := 0) rfl rfl rfl (by kernel_rfl) rfl) ?_
  refine AN_p (x_store (n := 1) rfl rfl rfl rfl (by kernel_rfl) rfl rfl rfl) ?_
  refine AN_nil ?_
  refine AW_seq ?_
  refine AW_seq ?_
  refine AW_regionN ?_
  refine AN_p (x_move rfl rfl) ?_
  have d16 := dBelow_lt b (dBelow b (dBelow b c 10).2 8).2 (n := 10) (by decide)
  refine AN_p (x_call (ks := []) (L := [(200, some _)]) (L' := [(200, some _)]) rfl rfl rfl (below_c b (dBelow b (dBelow b c 10).2 8).2 hb 10) rfl AllV.rf (caught_of rfl) rfl rfl rfl ⟨rfl, trivial⟩ rfl) ?_
  refine AN_p (x_assign rfl rfl) ?_
  refine AN_nil ?_
  refine AW_block ?_
  refine AW_adopt (T := 74) (e := entryE) 0 201 1 rfl rfl rfl rfl rfl ?_
  refine AW_shallow 0 rfl ?_
  refine AW_loop2 (ι := {q : Int × Tablet × Cur // smallTable (q.2.1) ∧ (q.1) ≤ 10}) (fun p => [(4, .one (.c (.int .i64 (p.1.1))))]) (fun p => [(0, some (.arr 74 entryE (p.1.2.1).entries false)), (200, some (curB b (p.1.2.2))), (201, some (.box [.c (.int .i64 (p.1.2.1).cap), .own 0]))]) [0, 2, 3] [100] (fun p => (p.1.1).toNat) ⟨⟨(dBelow b (dBelow b (dBelow b c 10).2 8).2 10).1, ⟨400, []⟩, (dBelow b (dBelow b (dBelow b c 10).2 8).2 10).2⟩, ⟨⟨Nat.zero_le _, fun x hx => (by cases hx)⟩, by dsimp only; omega⟩⟩ (rn []) ?_ ?_
  exact ⟨by (repeat refine ⟨⟨_, rfl, by first | exact VLe.rf | exact vle_int (by dsimp only; omega)⟩, ?_⟩); exact trivial, by (repeat refine ⟨⟨_, rfl, by first | exact BLe.rf | exact BLe.box AllC.rf | exact BLe.arr (by exact rfl)⟩, ?_⟩); exact trivial, by repeat (first | exact trivial | refine ⟨⟨rfl, by first | (left; intro h; cases h) | (right; rfl), by first | exact (fun _ h => ⟨_, h⟩) | exact (fun _ _ => ⟨_, rfl⟩) | (intro _ h; cases h)⟩, ?_⟩), rfl⟩
  rintro ⟨⟨n, tb, cc⟩, hinv⟩
  dsimp only
  obtain ⟨htb, hn⟩ := hinv
  have htb : smallTable tb := htb
  have hn : n ≤ 10 := hn
  refine AW_seq ?_
  refine AW_seq ?_
  refine AW_regionN ?_
  refine AN_p (x_move rfl rfl) ?_
  refine AN_b (x_gtr rfl rfl rfl) (fun b18 h18 => ?_)
  refine AN_nil ?_
  cases b18
  · try simp only [tdy] at h18
    refine AW_condF rfl ?_
    refine AW_exit (BQ_hit ?_)
    refine AW_seq ?_
    refine AW_regionN ?_
    refine AN_p (x_loadN (n := 2) rfl rfl rfl (by kernel_rfl) rfl rfl) ?_
    refine AN_p (x_store (n := 2) rfl rfl rfl rfl (by kernel_rfl) rfl rfl rfl) ?_
    refine AN_nil ?_
    refine AW_ret ?_
    refine ⟨⟨_, _⟩, ?_, rn [(9, 100), (0, 0)], by exact ⟨⟨⟨_, rfl, VLe.rf⟩, trivial⟩, ⟨⟨_, rfl, by first | exact BLe.rf | exact BLe.box (by repeat (first | exact trivial | refine ⟨by first | exact CLe.rf | exact CLe.nil, ?_⟩))⟩, ⟨_, rfl, BLe.rf⟩, ⟨_, rfl, BLe.rf⟩, trivial⟩, by repeat (first | exact trivial | refine ⟨⟨rfl, by first | (left; intro h; cases h) | (right; rfl), by first | exact (fun _ h => ⟨_, h⟩) | exact (fun _ _ => ⟨_, rfl⟩) | (intro _ h; cases h)⟩, ?_⟩), rfl⟩⟩
    exact htb
  try simp only [tdy] at h18
  refine AW_condT rfl ?_
  refine AW_skip ?_
  refine AW_seq ?_
  refine AW_block ?_
  refine AW_seq ?_
  refine AW_drawX (G := fun i : (Int × Int × (List Int × List Int) × List Actt × Int) × Cur => i.1.2.2.1.1.length = 8 ∧ i.1.2.2.1.2.length = 8 ∧ i.1.2.2.2.1.length ≤ 13) (((0, 0, (List.replicate 8 0, List.replicate 8 0), [], 0), cc) : (Int × Int × (List Int × List Int) × List Actt × Int) × Cur) ⟨rfl, rfl, Nat.zero_le _⟩ 2 rfl rfl ?_
  refine ALF_u (((0, 0, (List.replicate 8 0, List.replicate 8 0), [], 0), cc) : (Int × Int × (List Int × List Int) × List Actt × Int) × Cur) rfl (fun _ => (x_loadN (n := 2) rfl rfl rfl (by kernel_rfl) rfl rfl)) ?_
  refine ALF_u (((0, 0, (List.replicate 8 0, List.replicate 8 0), [], 0), cc) : (Int × Int × (List Int × List Int) × List Actt × Int) × Cur) rfl (fun _ => (x_move rfl rfl)) ?_
  refine ALF_x (L := [(200, some (curB b cc))]) rfl (((0, 0, (List.replicate 8 0, List.replicate 8 0), [], 0), cc) : (Int × Int × (List Int × List Int) × List Actt × Int) × Cur) ⟨rfl, rfl, Nat.zero_le _⟩ rfl rfl rfl (entry_x b cc hb) rfl rfl (fun _ => rfl) (fun _ => rfl) ⟨rfl, trivial⟩ (fun _ => rfl) ?_
  refine ALF_d rfl (by kernel_rfl) (fun i gi => (x_call (ks := []) (L := [(0, some _)]) (L' := [(0, some _), (1, some _)]) rfl rfl rfl (tabAddO_c tb.cap tb.entries (⟨i.1.1, i.1.2.1, ⟨i.1.2.2.1.1, i.1.2.2.1.2⟩, i.1.2.2.2.1, i.1.2.2.2.2⟩ : Entryt) htb ⟨⟨Nat.le_trans (Nat.le_of_eq gi.1) (by decide), Nat.le_trans (Nat.le_of_eq gi.2.1) (by decide)⟩, Nat.le_trans gi.2.2 (by decide), fun _ _ => trivial⟩) rfl AllV.rf (caught_of rfl) rfl rfl rfl ⟨rfl, trivial⟩ rfl)) (fun _ => rfl) ?_
  refine ALF_d rfl (by kernel_rfl) (fun i gi => (x_move rfl rfl)) (fun _ => rfl) ?_
  refine ALF_d rfl (by kernel_rfl) (fun i gi => (x_extract rfl rfl rfl)) (fun _ => rfl) ?_
  refine ALF_d rfl (by kernel_rfl) (fun i gi => (x_extract rfl rfl rfl)) (fun _ => rfl) ?_
  refine ALF_u (((0, 0, (List.replicate 8 0, List.replicate 8 0), [], 0), cc) : (Int × Int × (List Int × List Int) × List Actt × Int) × Cur) rfl (fun _ => (x_alloc (z := .agg #[.int .i64 0, .slice none 0 0]) 101 rfl (by kernel_rfl) rfl rfl rfl rfl)) ?_
  refine ALF_d rfl (by kernel_rfl) (fun i gi => (x_store (n := 2) rfl rfl rfl rfl (by kernel_rfl) rfl rfl rfl)) (fun _ => rfl) ?_
  refine ALF_d rfl (by kernel_rfl) (fun i gi => (x_assign rfl rfl)) (fun _ => rfl) ?_
  refine ALF_nil (fun _ => by kernel_rfl) ?_
  rintro ⟨x24, c24⟩ g24
  try dsimp only at g24
  try dsimp only
  obtain ⟨ga24, gb24, gc24⟩ := g24
  obtain ⟨e124, e224, ⟨mv24, mm24⟩, ac24, e324⟩ := x24
  dsimp only at ga24 gb24 gc24 ⊢
  have hen : smallEntry (⟨e124, e224, ⟨mv24, mm24⟩, ac24, e324⟩ : Entryt) := ⟨⟨by dsimp only; omega, by dsimp only; omega⟩, by dsimp only; omega, fun _ _ => trivial⟩
  refine AW_seq ?_
  refine AW_regionN ?_
  refine AN_p (x_move rfl rfl) ?_
  refine AN_b (x_eql rfl rfl rfl) (fun b29 h29 => ?_)
  refine AN_nil ?_
  cases b29
  · try simp only [tdy] at h29
    refine AW_condF rfl ?_
    refine AW_skip ?_
    refine AW_regionN ?_
    refine AN_p (x_move rfl rfl) ?_
    refine AN_p (x_sub rfl rfl rfl (IntWalk.i64_in _ (by omega))) ?_
    refine AN_p (x_assign rfl rfl) ?_
    refine AN_nil ?_
    refine ⟨⟨⟨_, tb, _⟩, ?_⟩, rn [], by exact ⟨by (repeat refine ⟨⟨_, rfl, by first | exact VLe.rf | exact vle_int (by dsimp only; omega)⟩, ?_⟩); exact trivial, by (repeat refine ⟨⟨_, rfl, by first | exact BLe.rf | exact BLe.box AllC.rf | exact BLe.arr (by exact rfl)⟩, ?_⟩); exact trivial, by repeat (first | exact trivial | refine ⟨⟨rfl, by first | (left; intro h; cases h) | (right; rfl), by first | exact (fun _ h => ⟨_, h⟩) | exact (fun _ _ => ⟨_, rfl⟩) | (intro _ h; cases h)⟩, ?_⟩), rfl⟩, by dsimp only; omega⟩
    exact ⟨by first | exact tableAdd_small htb hen | exact htb, by dsimp only; omega⟩
  try simp only [tdy] at h29
  refine AW_condT rfl ?_
  refine AW_regionN ?_
  refine AN_p (x_loadN (n := 2) rfl rfl rfl (by kernel_rfl) rfl rfl) ?_
  refine AN_p (x_store (n := 2) rfl rfl rfl rfl (by kernel_rfl) rfl rfl rfl) ?_
  refine AN_nil ?_
  refine AW_regionN ?_
  refine AN_p (x_move rfl rfl) ?_
  refine AN_p (x_sub rfl rfl rfl (IntWalk.i64_in _ (by omega))) ?_
  refine AN_p (x_assign rfl rfl) ?_
  refine AN_nil ?_
  refine ⟨⟨⟨_, (tableAdd ⟨tb.cap, tb.entries⟩ (⟨e124, e224, ⟨mv24, mm24⟩, ac24, e324⟩ : Entryt)).1, _⟩, ?_⟩, rn [(0, 1)], by exact ⟨by (repeat refine ⟨⟨_, rfl, by first | exact VLe.rf | exact vle_int (by dsimp only; omega)⟩, ?_⟩); exact trivial, by (repeat refine ⟨⟨_, rfl, by first | exact BLe.rf | exact BLe.box AllC.rf | exact BLe.arr (by exact rfl)⟩, ?_⟩); exact trivial, by repeat (first | exact trivial | refine ⟨⟨rfl, by first | (left; intro h; cases h) | (right; rfl), by first | exact (fun _ h => ⟨_, h⟩) | exact (fun _ _ => ⟨_, rfl⟩) | (intro _ h; cases h)⟩, ?_⟩), rfl⟩, by dsimp only; omega⟩
  exact ⟨by first | exact tableAdd_small htb hen | exact htb, by dsimp only; omega⟩

set_option maxHeartbeats 4000000 in
theorem anyTab_x (b : List Int) (c : Cur) (hb : b.length ≤ 1048576) : AX Try.prog 117 [.one (.ptr 200 0)] [(200, some (curB b c))] (ι := Tablet × Cur) (fun i => smallTable i.1) (fun i => .agg (tableC i.1)) (fun i => [(200, some (curB b i.2))]) := by
  refine AX_bodyC (n := 2) (k := 9) (cs := fun (i : Tablet × Cur) => (tableC i.1)) (T := fun (_ : Tablet × Cur) => [(2, .one (.ptr 9 0))]) (Lf := fun (i : Tablet × Cur) => ((9, some (.box (tableC i.1))) :: [(200, some (curB b i.2))])) (L' := fun (i : Tablet × Cur) => [(200, some (curB b i.2))]) Try.func117 rfl rfl Try.ntmps117 rfl Try.results117 (fun _ => rfl) (fun _ => rfl) (by kernel_rfl) (fun _ => rfl) (fun _ => rfl) (fun (_ : Tablet × Cur) => ⟨trivial, (by repeat (first | exact trivial | refine ⟨⟨_, rfl, BLe.rf⟩, ?_⟩)), (by repeat (first | exact trivial | refine ⟨⟨rfl, by first | (left; intro h; cases h) | (right; rfl), by first | exact (fun _ h => ⟨_, h⟩) | exact (fun _ _ => ⟨_, rfl⟩) | (intro _ h; cases h)⟩, ?_⟩)), rfl⟩) ?_
  refine AW_seq ?_
  refine AW_regionN ?_
  refine AN_p (x_alloc (z := .agg #[.int .i64 0, .slice none 0 0]) 100 rfl (by kernel_rfl) rfl rfl rfl rfl) ?_
  refine AN_nil ?_
  refine AW_seq ?_
  refine AW_regionN ?_
  refine AN_p (x_move rfl rfl) ?_
  refine AN_x (L := [(200, some (curB b c))]) rfl rfl rfl (tab_x b c hb) rfl rfl (fun _ => rfl) (fun _ => rfl) ⟨rfl, trivial⟩ (fun _ => rfl) ?_
  rintro ⟨x9, c9⟩ g9
  try dsimp only at g9
  try dsimp only
  have hlx : x9.entries.length ≤ 1048576 := g9.1
  refine AN_p (x_alloc (z := .agg #[.int .i64 0, .slice none 0 0]) 101 rfl (by kernel_rfl) rfl rfl rfl rfl) ?_
  refine AN_p (x_store (n := 2) rfl rfl rfl rfl (by kernel_rfl) rfl rfl rfl) ?_
  refine AN_nil ?_
  refine AW_seq ?_
  refine AW_regionN ?_
  refine AN_p (x_move rfl rfl) ?_
  have d11 := dBelow_lt b c9 (n := 14) (by decide)
  refine AN_p (x_call (ks := []) (L := [(200, some _)]) (L' := [(200, some _)]) rfl rfl rfl (below_c b c9 hb 14) rfl AllV.rf (caught_of rfl) rfl rfl rfl ⟨rfl, trivial⟩ rfl) ?_
  refine AN_p (x_assign rfl rfl) ?_
  refine AN_nil ?_
  refine AW_seq ?_
  refine AW_regionN ?_
  refine AN_p (x_field (off := 1) (o' := 1) rfl rfl rfl (by kernel_rfl) rfl) ?_
  refine AN_p (x_load1 rfl rfl rfl (by kernel_rfl) rfl) ?_
  refine AN_p (x_olen (E := 74) (n := 6) rfl rfl rfl (by kernel_rfl)) ?_
  refine AN_p (x_assign rfl rfl) ?_
  refine AN_nil ?_
  refine AW_seq ?_
  refine AW_seq ?_
  refine AW_regionN ?_
  refine AN_p (x_move rfl rfl) ?_
  refine AN_b (x_eql rfl rfl rfl) (fun b16 h16 => ?_)
  refine AN_nil ?_
  cases b16
  rotate_left
  · try simp only [tdy] at h16
    refine AW_condT rfl ?_
    refine AW_regionN ?_
    refine AN_p (x_move rfl rfl) ?_
    refine AN_p (x_call (ks := []) (L := [(200, some _)]) (L' := [(200, some _)]) rfl rfl rfl (raw_c b (dBelow b c9 14).2 hb) rfl AllV.rf (caught_of rfl) rfl rfl rfl ⟨rfl, trivial⟩ rfl) ?_
    refine AN_p (x_move rfl rfl) ?_
    refine AN_p (x_sub rfl rfl rfl (IntWalk.i64_in _ (by omega))) ?_
    refine AN_p (y_bslice (E := 3) (e := (intE .i64)) [.const (.int .i64 (-1)), .const (.int .i64 (401)), .tmp 18, .tmp 20] ([-1, 401, (dRaw b (dBelow b c9 14).2).1, (x9.entries.length : Int) - 1]) 102 rfl rfl rfl rfl rfl rfl rfl rfl FitL.rf rfl rfl rfl rfl rfl rfl (by kernel_rfl)) ?_
    refine AN_p (x_move rfl rfl) ?_
    have d23 := dBelow_lt b (dRaw b (dBelow b c9 14).2).2 (n := 4) (by decide)
    refine AN_p (x_call (ks := []) (L := [(200, some _)]) (L' := [(200, some _)]) rfl rfl rfl (below_c b (dRaw b (dBelow b c9 14).2).2 hb 4) rfl AllV.rf (caught_of rfl) rfl rfl rfl ⟨rfl, trivial⟩ rfl) ?_
    refine AN_p (x_oindex (n := 1) rfl rfl rfl rfl (by kernel_rfl) rfl (k := (dBelow b (dRaw b (dBelow b c9 14).2).2 4).1.toNat) (by omega) (by simp; omega)) ?_
    refine AN_p (x_oload1 rfl rfl rfl (by kernel_rfl) (by simp; omega) rfl) ?_
    refine AN_p (x_field (off := 0) (o' := 0) rfl rfl rfl (by kernel_rfl) rfl) ?_
    refine AN_p (x_store (n := 1) rfl rfl rfl rfl (by kernel_rfl) rfl rfl rfl) ?_
    refine AN_nil ?_
    refine AW_seq ?_
    refine AW_seq ?_
    refine AW_regionN ?_
    refine AN_p (x_move rfl rfl) ?_
    refine AN_b (x_eql rfl rfl rfl) (fun b28 h28 => ?_)
    refine AN_p (x_move rfl rfl) ?_
    cases b28
    rotate_left
    · exfalso; simp at h28; omega
    try simp only [tdy] at h28
    refine AN_o rfl rfl rfl rfl ?_
    refine AN_o rfl rfl rfl rfl ?_
    refine AN_p (x_pickF rfl rfl rfl) ?_
    refine AN_nil ?_
    refine AW_condF rfl ?_
    refine AW_skip ?_
    refine AW_seq ?_
    refine AW_seq ?_
    refine AW_regionN ?_
    refine AN_p (x_move rfl rfl) ?_
    refine AN_b (x_eql rfl rfl rfl) (fun b43 h43 => ?_)
    refine AN_p (x_move rfl rfl) ?_
    cases b43
    rotate_left
    · exfalso; simp at h43; omega
    try simp only [tdy] at h43
    refine AN_o rfl rfl rfl rfl ?_
    refine AN_o rfl rfl rfl rfl ?_
    refine AN_p (x_pickF rfl rfl rfl) ?_
    refine AN_nil ?_
    refine AW_condF rfl ?_
    refine AW_skip ?_
    refine AW_seq ?_
    refine AW_seq ?_
    refine AW_regionN ?_
    refine AN_p (x_move rfl rfl) ?_
    refine AN_b (x_eql rfl rfl rfl) (fun b77 h77 => ?_)
    refine AN_p (x_move rfl rfl) ?_
    cases b77
    rotate_left
    · exfalso; simp at h77; omega
    try simp only [tdy] at h77
    refine AN_o rfl rfl rfl rfl ?_
    refine AN_o rfl rfl rfl rfl ?_
    refine AN_p (x_pickF rfl rfl rfl) ?_
    refine AN_p (x_move rfl rfl) ?_
    refine AN_o rfl rfl rfl rfl ?_
    refine AN_o rfl rfl rfl rfl ?_
    refine AN_o rfl rfl rfl rfl ?_
    refine AN_o rfl rfl rfl rfl ?_
    refine AN_p (x_pickF rfl rfl rfl) ?_
    refine AN_nil ?_
    refine AW_condF rfl ?_
    refine AW_skip ?_
    refine AW_seq ?_
    refine AW_seq ?_
    refine AW_regionN ?_
    refine AN_p (x_move rfl rfl) ?_
    refine AN_b (x_eql rfl rfl rfl) (fun b102 h102 => ?_)
    refine AN_p (x_move rfl rfl) ?_
    cases b102
    rotate_left
    · exfalso; simp at h102; omega
    try simp only [tdy] at h102
    refine AN_o rfl rfl rfl rfl ?_
    refine AN_o rfl rfl rfl rfl ?_
    refine AN_p (x_pickF rfl rfl rfl) ?_
    refine AN_nil ?_
    refine AW_condF rfl ?_
    refine AW_skip ?_
    refine AW_seq ?_
    refine AW_regionN ?_
    refine AN_p (x_loadN (n := 2) rfl rfl rfl (by kernel_rfl) rfl rfl) ?_
    refine AN_p (x_store (n := 2) rfl rfl rfl rfl (by kernel_rfl) rfl rfl rfl) ?_
    refine AN_nil ?_
    refine AW_shutB 0 100 1 rfl rfl rfl rfl ?_
    refine AW_ret ?_
    refine ⟨⟨⟨_, _⟩, _⟩, ?_, rn [(9, 100)], by exact ⟨⟨⟨_, rfl, VLe.rf⟩, trivial⟩, ⟨⟨_, rfl, by first | exact BLe.rf | exact BLe.box (by repeat (first | exact trivial | refine ⟨by first | exact CLe.rf | exact CLe.nil, ?_⟩))⟩, ⟨_, rfl, BLe.rf⟩, trivial⟩, by repeat (first | exact trivial | refine ⟨⟨rfl, by first | (left; intro h; cases h) | (right; rfl), by first | exact (fun _ h => ⟨_, h⟩) | exact (fun _ _ => ⟨_, rfl⟩) | (intro _ h; cases h)⟩, ?_⟩), rfl⟩⟩
    show smallTable ⟨_, _⟩
    refine tab_cap (c := x9.cap) ?_
    first | exact g9 | exact tab_set g9 (g9.2 _ (List.getElem_mem _)) | exact tab_set (c := x9.cap) (tab_set g9 (g9.2 _ (List.getElem_mem _))) (g9.2 _ (List.getElem_mem _)) | exact tab_set g9 (ent_like (g9.2 _ (List.getElem_mem _)) _ _ _)
  try simp only [tdy] at h16
  refine AW_condF rfl ?_
  refine AW_skip ?_
  refine AW_seq ?_
  refine AW_seq ?_
  refine AW_regionN ?_
  refine AN_p (x_move rfl rfl) ?_
  refine AN_b (x_eql rfl rfl rfl) (fun b28 h28 => ?_)
  refine AN_p (x_move rfl rfl) ?_
  cases b28
  rotate_left
  · try simp only [tdy] at h28
    refine AN_g rfl rfl (x_move rfl rfl) ?_
    refine AN_gb rfl rfl (x_gtr rfl rfl rfl) (fun b31 h31 => ?_)
    refine AN_p (x_pickT rfl rfl rfl) ?_
    refine AN_nil ?_
    cases b31
    · try simp only [tdy] at h31
      refine AW_condF rfl ?_
      refine AW_skip ?_
      refine AW_seq ?_
      refine AW_seq ?_
      refine AW_regionN ?_
      refine AN_p (x_move rfl rfl) ?_
      refine AN_b (x_eql rfl rfl rfl) (fun b43 h43 => ?_)
      refine AN_p (x_move rfl rfl) ?_
      cases b43
      rotate_left
      · exfalso; simp at h43; omega
      try simp only [tdy] at h43
      refine AN_o rfl rfl rfl rfl ?_
      refine AN_o rfl rfl rfl rfl ?_
      refine AN_p (x_pickF rfl rfl rfl) ?_
      refine AN_nil ?_
      refine AW_condF rfl ?_
      refine AW_skip ?_
      refine AW_seq ?_
      refine AW_seq ?_
      refine AW_regionN ?_
      refine AN_p (x_move rfl rfl) ?_
      refine AN_b (x_eql rfl rfl rfl) (fun b77 h77 => ?_)
      refine AN_p (x_move rfl rfl) ?_
      cases b77
      rotate_left
      · exfalso; simp at h77; omega
      try simp only [tdy] at h77
      refine AN_o rfl rfl rfl rfl ?_
      refine AN_o rfl rfl rfl rfl ?_
      refine AN_p (x_pickF rfl rfl rfl) ?_
      refine AN_p (x_move rfl rfl) ?_
      refine AN_o rfl rfl rfl rfl ?_
      refine AN_o rfl rfl rfl rfl ?_
      refine AN_o rfl rfl rfl rfl ?_
      refine AN_o rfl rfl rfl rfl ?_
      refine AN_p (x_pickF rfl rfl rfl) ?_
      refine AN_nil ?_
      refine AW_condF rfl ?_
      refine AW_skip ?_
      refine AW_seq ?_
      refine AW_seq ?_
      refine AW_regionN ?_
      refine AN_p (x_move rfl rfl) ?_
      refine AN_b (x_eql rfl rfl rfl) (fun b102 h102 => ?_)
      refine AN_p (x_move rfl rfl) ?_
      cases b102
      rotate_left
      · exfalso; simp at h102; omega
      try simp only [tdy] at h102
      refine AN_o rfl rfl rfl rfl ?_
      refine AN_o rfl rfl rfl rfl ?_
      refine AN_p (x_pickF rfl rfl rfl) ?_
      refine AN_nil ?_
      refine AW_condF rfl ?_
      refine AW_skip ?_
      refine AW_seq ?_
      refine AW_regionN ?_
      refine AN_p (x_loadN (n := 2) rfl rfl rfl (by kernel_rfl) rfl rfl) ?_
      refine AN_p (x_store (n := 2) rfl rfl rfl rfl (by kernel_rfl) rfl rfl rfl) ?_
      refine AN_nil ?_
      refine AW_shutB 0 100 1 rfl rfl rfl rfl ?_
      refine AW_ret ?_
      refine ⟨⟨⟨_, _⟩, _⟩, ?_, rn [(9, 100)], by exact ⟨⟨⟨_, rfl, VLe.rf⟩, trivial⟩, ⟨⟨_, rfl, by first | exact BLe.rf | exact BLe.box (by repeat (first | exact trivial | refine ⟨by first | exact CLe.rf | exact CLe.nil, ?_⟩))⟩, ⟨_, rfl, BLe.rf⟩, trivial⟩, by repeat (first | exact trivial | refine ⟨⟨rfl, by first | (left; intro h; cases h) | (right; rfl), by first | exact (fun _ h => ⟨_, h⟩) | exact (fun _ _ => ⟨_, rfl⟩) | (intro _ h; cases h)⟩, ?_⟩), rfl⟩⟩
      show smallTable ⟨_, _⟩
      refine tab_cap (c := x9.cap) ?_
      first | exact g9 | exact tab_set g9 (g9.2 _ (List.getElem_mem _)) | exact tab_set (c := x9.cap) (tab_set g9 (g9.2 _ (List.getElem_mem _))) (g9.2 _ (List.getElem_mem _)) | exact tab_set g9 (ent_like (g9.2 _ (List.getElem_mem _)) _ _ _)
    try simp only [tdy] at h31
    refine AW_condT rfl ?_
    refine AW_draw rfl ?_
    refine AL_p (x_field (off := 1) (o' := 1) rfl rfl rfl (by kernel_rfl) rfl) ?_
    refine AL_p (x_load1 rfl rfl rfl (by kernel_rfl) rfl) ?_
    refine AL_p (x_move rfl rfl) ?_
    refine AL_p (x_move rfl rfl) ?_
    have d37 := dBelow_lt b (dBelow b c9 14).2 (n := (x9.entries.length : Int)) (by omega)
    refine AL_p (x_call (ks := []) (L := [(200, some _)]) (L' := [(200, some _)]) rfl rfl rfl (below_c b (dBelow b c9 14).2 hb (x9.entries.length : Int)) rfl AllV.rf (caught_of rfl) rfl rfl rfl ⟨rfl, trivial⟩ rfl) ?_
    refine AL_p (x_move rfl rfl) ?_
    refine AL_p (x_call (ks := []) (L := [(200, some _)]) (L' := [(200, some _)]) rfl rfl rfl (raw_c b (dBelow b (dBelow b c9 14).2 (x9.entries.length : Int)).2 hb) rfl AllV.rf (caught_of rfl) rfl rfl rfl ⟨rfl, trivial⟩ rfl) ?_
    refine AL_p (x_oindex (n := 6) rfl rfl rfl rfl (by kernel_rfl) rfl (k := (dBelow b (dBelow b c9 14).2 (x9.entries.length : Int)).1.toNat) (by omega) (by first | omega | (simp only [List.length_set]; omega) | (simp; omega))) ?_
    refine AL_p (x_ofield (off := 1) (o' := 1) rfl rfl rfl (by kernel_rfl) rfl) ?_
    refine AL_p (x_ofstore (⟨(x9.entries[(dBelow b (dBelow b c9 14).2 (x9.entries.length : Int)).1.toNat]'(by omega)).epoch, (dRaw b (dBelow b (dBelow b c9 14).2 (x9.entries.length : Int)).2).1, (x9.entries[(dBelow b (dBelow b c9 14).2 (x9.entries.length : Int)).1.toNat]'(by omega)).mat, (x9.entries[(dBelow b (dBelow b c9 14).2 (x9.entries.length : Int)).1.toNat]'(by omega)).acts, (x9.entries[(dBelow b (dBelow b c9 14).2 (x9.entries.length : Int)).1.toNat]'(by omega)).hits⟩ : Entryt) (A := [.c (.int .i64 (x9.entries[(dBelow b (dBelow b c9 14).2 (x9.entries.length : Int)).1.toNat]'(by omega)).epoch)]) (B := [.c (.int .i64 (x9.entries[(dBelow b (dBelow b c9 14).2 (x9.entries.length : Int)).1.toNat]'(by omega)).prio)]) (C := [.sl (intE .i64) (x9.entries[(dBelow b (dBelow b c9 14).2 (x9.entries.length : Int)).1.toNat]'(by omega)).mat.v, .sl (intE .i64) (x9.entries[(dBelow b (dBelow b c9 14).2 (x9.entries.length : Int)).1.toNat]'(by omega)).mat.m, .sl actE (x9.entries[(dBelow b (dBelow b c9 14).2 (x9.entries.length : Int)).1.toNat]'(by omega)).acts, .c (.int .i64 (x9.entries[(dBelow b (dBelow b c9 14).2 (x9.entries.length : Int)).1.toNat]'(by omega)).hits)]) rfl rfl rfl rfl (by kernel_rfl) rfl rfl rfl FitL.rf rfl rfl (by omega) rfl rfl rfl rfl) ?_
    refine AL_nild (by kernel_rfl) ?_
    refine AW_seq ?_
    refine AW_seq ?_
    refine AW_regionN ?_
    refine AN_p (x_move rfl rfl) ?_
    refine AN_b (x_eql rfl rfl rfl) (fun b43 h43 => ?_)
    refine AN_p (x_move rfl rfl) ?_
    cases b43
    rotate_left
    · exfalso; simp at h43; omega
    try simp only [tdy] at h43
    refine AN_o rfl rfl rfl rfl ?_
    refine AN_o rfl rfl rfl rfl ?_
    refine AN_p (x_pickF rfl rfl rfl) ?_
    refine AN_nil ?_
    refine AW_condF rfl ?_
    refine AW_skip ?_
    refine AW_seq ?_
    refine AW_seq ?_
    refine AW_regionN ?_
    refine AN_p (x_move rfl rfl) ?_
    refine AN_b (x_eql rfl rfl rfl) (fun b77 h77 => ?_)
    refine AN_p (x_move rfl rfl) ?_
    cases b77
    rotate_left
    · exfalso; simp at h77; omega
    try simp only [tdy] at h77
    refine AN_o rfl rfl rfl rfl ?_
    refine AN_o rfl rfl rfl rfl ?_
    refine AN_p (x_pickF rfl rfl rfl) ?_
    refine AN_p (x_move rfl rfl) ?_
    refine AN_o rfl rfl rfl rfl ?_
    refine AN_o rfl rfl rfl rfl ?_
    refine AN_o rfl rfl rfl rfl ?_
    refine AN_o rfl rfl rfl rfl ?_
    refine AN_p (x_pickF rfl rfl rfl) ?_
    refine AN_nil ?_
    refine AW_condF rfl ?_
    refine AW_skip ?_
    refine AW_seq ?_
    refine AW_seq ?_
    refine AW_regionN ?_
    refine AN_p (x_move rfl rfl) ?_
    refine AN_b (x_eql rfl rfl rfl) (fun b102 h102 => ?_)
    refine AN_p (x_move rfl rfl) ?_
    cases b102
    rotate_left
    · exfalso; simp at h102; omega
    try simp only [tdy] at h102
    refine AN_o rfl rfl rfl rfl ?_
    refine AN_o rfl rfl rfl rfl ?_
    refine AN_p (x_pickF rfl rfl rfl) ?_
    refine AN_nil ?_
    refine AW_condF rfl ?_
    refine AW_skip ?_
    refine AW_seq ?_
    refine AW_regionN ?_
    refine AN_p (x_loadN (n := 2) rfl rfl rfl (by kernel_rfl) rfl rfl) ?_
    refine AN_p (x_store (n := 2) rfl rfl rfl rfl (by kernel_rfl) rfl rfl rfl) ?_
    refine AN_nil ?_
    refine AW_shutB 0 100 1 rfl rfl rfl rfl ?_
    refine AW_ret ?_
    refine ⟨⟨⟨_, x9.entries.set (dBelow b (dBelow b c9 14).2 (x9.entries.length : Int)).1.toNat (⟨(x9.entries[(dBelow b (dBelow b c9 14).2 (x9.entries.length : Int)).1.toNat]'(by omega)).epoch, (dRaw b (dBelow b (dBelow b c9 14).2 (x9.entries.length : Int)).2).1, (x9.entries[(dBelow b (dBelow b c9 14).2 (x9.entries.length : Int)).1.toNat]'(by omega)).mat, (x9.entries[(dBelow b (dBelow b c9 14).2 (x9.entries.length : Int)).1.toNat]'(by omega)).acts, (x9.entries[(dBelow b (dBelow b c9 14).2 (x9.entries.length : Int)).1.toNat]'(by omega)).hits⟩ : Entryt)⟩, _⟩, ?_, rn [(9, 100)], by exact ⟨⟨⟨_, rfl, VLe.rf⟩, trivial⟩, ⟨⟨_, rfl, by first | exact BLe.rf | exact BLe.box (by repeat (first | exact trivial | refine ⟨by first | exact CLe.rf | exact CLe.nil, ?_⟩))⟩, ⟨_, rfl, BLe.rf⟩, trivial⟩, by repeat (first | exact trivial | refine ⟨⟨rfl, by first | (left; intro h; cases h) | (right; rfl), by first | exact (fun _ h => ⟨_, h⟩) | exact (fun _ _ => ⟨_, rfl⟩) | (intro _ h; cases h)⟩, ?_⟩), rfl⟩⟩
    show smallTable ⟨_, _⟩
    refine tab_cap (c := x9.cap) ?_
    first | exact g9 | exact tab_set g9 (g9.2 _ (List.getElem_mem _)) | exact tab_set (c := x9.cap) (tab_set g9 (g9.2 _ (List.getElem_mem _))) (g9.2 _ (List.getElem_mem _)) | exact tab_set g9 (ent_like (g9.2 _ (List.getElem_mem _)) _ _ _)
  try simp only [tdy] at h28
  refine AN_o rfl rfl rfl rfl ?_
  refine AN_o rfl rfl rfl rfl ?_
  refine AN_p (x_pickF rfl rfl rfl) ?_
  refine AN_nil ?_
  refine AW_condF rfl ?_
  refine AW_skip ?_
  refine AW_seq ?_
  refine AW_seq ?_
  refine AW_regionN ?_
  refine AN_p (x_move rfl rfl) ?_
  refine AN_b (x_eql rfl rfl rfl) (fun b43 h43 => ?_)
  refine AN_p (x_move rfl rfl) ?_
  cases b43
  rotate_left
  · try simp only [tdy] at h43
    refine AN_g rfl rfl (x_move rfl rfl) ?_
    refine AN_gb rfl rfl (x_gtr rfl rfl rfl) (fun b46 h46 => ?_)
    refine AN_p (x_pickT rfl rfl rfl) ?_
    refine AN_nil ?_
    cases b46
    · try simp only [tdy] at h46
      refine AW_condF rfl ?_
      refine AW_skip ?_
      refine AW_seq ?_
      refine AW_seq ?_
      refine AW_regionN ?_
      refine AN_p (x_move rfl rfl) ?_
      refine AN_b (x_eql rfl rfl rfl) (fun b77 h77 => ?_)
      refine AN_p (x_move rfl rfl) ?_
      cases b77
      rotate_left
      · exfalso; simp at h77; omega
      try simp only [tdy] at h77
      refine AN_o rfl rfl rfl rfl ?_
      refine AN_o rfl rfl rfl rfl ?_
      refine AN_p (x_pickF rfl rfl rfl) ?_
      refine AN_p (x_move rfl rfl) ?_
      refine AN_o rfl rfl rfl rfl ?_
      refine AN_o rfl rfl rfl rfl ?_
      refine AN_o rfl rfl rfl rfl ?_
      refine AN_o rfl rfl rfl rfl ?_
      refine AN_p (x_pickF rfl rfl rfl) ?_
      refine AN_nil ?_
      refine AW_condF rfl ?_
      refine AW_skip ?_
      refine AW_seq ?_
      refine AW_seq ?_
      refine AW_regionN ?_
      refine AN_p (x_move rfl rfl) ?_
      refine AN_b (x_eql rfl rfl rfl) (fun b102 h102 => ?_)
      refine AN_p (x_move rfl rfl) ?_
      cases b102
      rotate_left
      · exfalso; simp at h102; omega
      try simp only [tdy] at h102
      refine AN_o rfl rfl rfl rfl ?_
      refine AN_o rfl rfl rfl rfl ?_
      refine AN_p (x_pickF rfl rfl rfl) ?_
      refine AN_nil ?_
      refine AW_condF rfl ?_
      refine AW_skip ?_
      refine AW_seq ?_
      refine AW_regionN ?_
      refine AN_p (x_loadN (n := 2) rfl rfl rfl (by kernel_rfl) rfl rfl) ?_
      refine AN_p (x_store (n := 2) rfl rfl rfl rfl (by kernel_rfl) rfl rfl rfl) ?_
      refine AN_nil ?_
      refine AW_shutB 0 100 1 rfl rfl rfl rfl ?_
      refine AW_ret ?_
      refine ⟨⟨⟨_, _⟩, _⟩, ?_, rn [(9, 100)], by exact ⟨⟨⟨_, rfl, VLe.rf⟩, trivial⟩, ⟨⟨_, rfl, by first | exact BLe.rf | exact BLe.box (by repeat (first | exact trivial | refine ⟨by first | exact CLe.rf | exact CLe.nil, ?_⟩))⟩, ⟨_, rfl, BLe.rf⟩, trivial⟩, by repeat (first | exact trivial | refine ⟨⟨rfl, by first | (left; intro h; cases h) | (right; rfl), by first | exact (fun _ h => ⟨_, h⟩) | exact (fun _ _ => ⟨_, rfl⟩) | (intro _ h; cases h)⟩, ?_⟩), rfl⟩⟩
      show smallTable ⟨_, _⟩
      refine tab_cap (c := x9.cap) ?_
      first | exact g9 | exact tab_set g9 (g9.2 _ (List.getElem_mem _)) | exact tab_set (c := x9.cap) (tab_set g9 (g9.2 _ (List.getElem_mem _))) (g9.2 _ (List.getElem_mem _)) | exact tab_set g9 (ent_like (g9.2 _ (List.getElem_mem _)) _ _ _)
    try simp only [tdy] at h46
    refine AW_condT rfl ?_
    refine AW_seq ?_
    refine AW_regionN ?_
    refine AN_p (x_move rfl rfl) ?_
    refine AN_p (x_move rfl rfl) ?_
    have d50 := dBelow_lt b (dBelow b c9 14).2 (n := (x9.entries.length : Int)) (by omega)
    refine AN_p (x_call (ks := []) (L := [(200, some _)]) (L' := [(200, some _)]) rfl rfl rfl (below_c b (dBelow b c9 14).2 hb (x9.entries.length : Int)) rfl AllV.rf (caught_of rfl) rfl rfl rfl ⟨rfl, trivial⟩ rfl) ?_
    refine AN_p (x_assign rfl rfl) ?_
    refine AN_nil ?_
    refine AW_seq ?_
    refine AW_regionN ?_
    refine AN_p (x_field (off := 1) (o' := 1) rfl rfl rfl (by kernel_rfl) rfl) ?_
    refine AN_p (x_load1 rfl rfl rfl (by kernel_rfl) rfl) ?_
    refine AN_p (x_move rfl rfl) ?_
    refine AN_p (x_oindex (n := 6) rfl rfl rfl rfl (by kernel_rfl) rfl (k := (dBelow b (dBelow b c9 14).2 (x9.entries.length : Int)).1.toNat) (by omega) (by first | omega | (simp only [List.length_set]; omega) | (simp; omega))) ?_
    refine AN_p (x_oloadN (n := 6) rfl rfl rfl (by kernel_rfl) (by omega) rfl rfl) ?_
    refine AN_p (x_alloc (z := .agg #[.int .i64 0, .int .i64 0, .slice none 0 0, .slice none 0 0, .slice none 0 0, .int .i64 0]) 103 rfl (by kernel_rfl) rfl rfl rfl rfl) ?_
    refine AN_p (x_store (n := 6) rfl rfl rfl rfl (by kernel_rfl) rfl rfl rfl) ?_
    refine AN_nil ?_
    refine AW_seq ?_
    refine AW_draw rfl ?_
    refine AL_p (x_field (off := 1) (o' := 1) rfl rfl rfl (by kernel_rfl) rfl) ?_
    refine AL_p (x_load1 rfl rfl rfl (by kernel_rfl) rfl) ?_
    refine AL_p (x_move rfl rfl) ?_
    refine AL_p (x_field (off := 1) (o' := 1) rfl rfl rfl (by kernel_rfl) rfl) ?_
    refine AL_p (x_load1 rfl rfl rfl (by kernel_rfl) rfl) ?_
    refine AL_p (x_move rfl rfl) ?_
    refine AL_p (x_sub rfl rfl rfl (IntWalk.i64_in _ (by omega))) ?_
    refine AL_p (x_move rfl rfl) ?_
    refine AL_p (x_sub rfl rfl rfl (IntWalk.i64_in _ (by omega))) ?_
    refine AL_p (x_oindex (n := 6) rfl rfl rfl rfl (by kernel_rfl) rfl (k := x9.entries.length - 1 - (dBelow b (dBelow b c9 14).2 (x9.entries.length : Int)).1.toNat) (by omega) (by omega)) ?_
    refine AL_p (x_oloadN (n := 6) rfl rfl rfl (by kernel_rfl) (by omega) rfl rfl) ?_
    refine AL_p (x_oindex (n := 6) rfl rfl rfl rfl (by kernel_rfl) rfl (k := (dBelow b (dBelow b c9 14).2 (x9.entries.length : Int)).1.toNat) (by omega) (by first | omega | (simp only [List.length_set]; omega) | (simp; omega))) ?_
    refine AL_p (x_ostore ((x9.entries[x9.entries.length - 1 - (dBelow b (dBelow b c9 14).2 (x9.entries.length : Int)).1.toNat]'(by omega))) rfl rfl rfl rfl (by kernel_rfl) rfl rfl rfl rfl FitL.rf rfl rfl (by first | omega | (rw [filledTo_len (by omega)]; omega) | (simp; omega))) ?_
    refine AL_nild (by kernel_rfl) ?_
    refine AW_regionN ?_
    refine AN_p (x_field (off := 1) (o' := 1) rfl rfl rfl (by kernel_rfl) rfl) ?_
    refine AN_p (x_load1 rfl rfl rfl (by kernel_rfl) rfl) ?_
    refine AN_p (x_move rfl rfl) ?_
    refine AN_p (x_sub rfl rfl rfl (IntWalk.i64_in _ (by omega))) ?_
    refine AN_p (x_move rfl rfl) ?_
    refine AN_p (x_sub rfl rfl rfl (IntWalk.i64_in _ (by omega))) ?_
    refine AN_p (x_loadN (n := 6) rfl rfl rfl (by kernel_rfl) rfl rfl) ?_
    refine AN_p (x_oindex (n := 6) rfl rfl rfl rfl (by kernel_rfl) rfl (k := x9.entries.length - 1 - (dBelow b (dBelow b c9 14).2 (x9.entries.length : Int)).1.toNat) (by omega) (by first | omega | (simp only [List.length_set]; omega) | (simp; omega))) ?_
    refine AN_p (x_ostore ((x9.entries[(dBelow b (dBelow b c9 14).2 (x9.entries.length : Int)).1.toNat]'(by omega))) rfl rfl rfl rfl (by kernel_rfl) rfl rfl rfl rfl FitL.rf rfl rfl (by first | omega | (rw [filledTo_len (by omega)]; omega) | (simp; omega))) ?_
    refine AN_nil ?_
    refine AW_seq ?_
    refine AW_seq ?_
    refine AW_regionN ?_
    refine AN_p (x_move rfl rfl) ?_
    refine AN_b (x_eql rfl rfl rfl) (fun b77 h77 => ?_)
    refine AN_p (x_move rfl rfl) ?_
    cases b77
    rotate_left
    · exfalso; simp at h77; omega
    try simp only [tdy] at h77
    refine AN_o rfl rfl rfl rfl ?_
    refine AN_o rfl rfl rfl rfl ?_
    refine AN_p (x_pickF rfl rfl rfl) ?_
    refine AN_p (x_move rfl rfl) ?_
    refine AN_o rfl rfl rfl rfl ?_
    refine AN_o rfl rfl rfl rfl ?_
    refine AN_o rfl rfl rfl rfl ?_
    refine AN_o rfl rfl rfl rfl ?_
    refine AN_p (x_pickF rfl rfl rfl) ?_
    refine AN_nil ?_
    refine AW_condF rfl ?_
    refine AW_skip ?_
    refine AW_seq ?_
    refine AW_seq ?_
    refine AW_regionN ?_
    refine AN_p (x_move rfl rfl) ?_
    refine AN_b (x_eql rfl rfl rfl) (fun b102 h102 => ?_)
    refine AN_p (x_move rfl rfl) ?_
    cases b102
    rotate_left
    · exfalso; simp at h102; omega
    try simp only [tdy] at h102
    refine AN_o rfl rfl rfl rfl ?_
    refine AN_o rfl rfl rfl rfl ?_
    refine AN_p (x_pickF rfl rfl rfl) ?_
    refine AN_nil ?_
    refine AW_condF rfl ?_
    refine AW_skip ?_
    refine AW_seq ?_
    refine AW_regionN ?_
    refine AN_p (x_loadN (n := 2) rfl rfl rfl (by kernel_rfl) rfl rfl) ?_
    refine AN_p (x_store (n := 2) rfl rfl rfl rfl (by kernel_rfl) rfl rfl rfl) ?_
    refine AN_nil ?_
    refine AW_shutB 0 100 1 rfl rfl rfl rfl ?_
    refine AW_ret ?_
    refine ⟨⟨⟨_, (x9.entries.set (dBelow b (dBelow b c9 14).2 (x9.entries.length : Int)).1.toNat (x9.entries[x9.entries.length - 1 - (dBelow b (dBelow b c9 14).2 (x9.entries.length : Int)).1.toNat]'(by omega))).set (x9.entries.length - 1 - (dBelow b (dBelow b c9 14).2 (x9.entries.length : Int)).1.toNat) (x9.entries[(dBelow b (dBelow b c9 14).2 (x9.entries.length : Int)).1.toNat]'(by omega))⟩, _⟩, ?_, rn [(9, 100)], by exact ⟨⟨⟨_, rfl, VLe.rf⟩, trivial⟩, ⟨⟨_, rfl, by first | exact BLe.rf | exact BLe.box (by repeat (first | exact trivial | refine ⟨by first | exact CLe.rf | exact CLe.nil, ?_⟩))⟩, ⟨_, rfl, BLe.rf⟩, trivial⟩, by repeat (first | exact trivial | refine ⟨⟨rfl, by first | (left; intro h; cases h) | (right; rfl), by first | exact (fun _ h => ⟨_, h⟩) | exact (fun _ _ => ⟨_, rfl⟩) | (intro _ h; cases h)⟩, ?_⟩), rfl⟩⟩
    show smallTable ⟨_, _⟩
    refine tab_cap (c := x9.cap) ?_
    first | exact g9 | exact tab_set g9 (g9.2 _ (List.getElem_mem _)) | exact tab_set (c := x9.cap) (tab_set g9 (g9.2 _ (List.getElem_mem _))) (g9.2 _ (List.getElem_mem _)) | exact tab_set g9 (ent_like (g9.2 _ (List.getElem_mem _)) _ _ _)
  try simp only [tdy] at h43
  refine AN_o rfl rfl rfl rfl ?_
  refine AN_o rfl rfl rfl rfl ?_
  refine AN_p (x_pickF rfl rfl rfl) ?_
  refine AN_nil ?_
  refine AW_condF rfl ?_
  refine AW_skip ?_
  refine AW_seq ?_
  refine AW_seq ?_
  refine AW_regionN ?_
  refine AN_p (x_move rfl rfl) ?_
  refine AN_b (x_eql rfl rfl rfl) (fun b77 h77 => ?_)
  refine AN_p (x_move rfl rfl) ?_
  cases b77
  · try simp only [tdy] at h77
    refine AN_o rfl rfl rfl rfl ?_
    refine AN_o rfl rfl rfl rfl ?_
    refine AN_p (x_pickF rfl rfl rfl) ?_
    refine AN_p (x_move rfl rfl) ?_
    refine AN_o rfl rfl rfl rfl ?_
    refine AN_o rfl rfl rfl rfl ?_
    refine AN_o rfl rfl rfl rfl ?_
    refine AN_o rfl rfl rfl rfl ?_
    refine AN_p (x_pickF rfl rfl rfl) ?_
    refine AN_nil ?_
    refine AW_condF rfl ?_
    refine AW_skip ?_
    refine AW_seq ?_
    refine AW_seq ?_
    refine AW_regionN ?_
    refine AN_p (x_move rfl rfl) ?_
    refine AN_b (x_eql rfl rfl rfl) (fun b102 h102 => ?_)
    refine AN_p (x_move rfl rfl) ?_
    cases b102
    · try simp only [tdy] at h102
      refine AN_o rfl rfl rfl rfl ?_
      refine AN_o rfl rfl rfl rfl ?_
      refine AN_p (x_pickF rfl rfl rfl) ?_
      refine AN_nil ?_
      refine AW_condF rfl ?_
      refine AW_skip ?_
      refine AW_seq ?_
      refine AW_regionN ?_
      refine AN_p (x_loadN (n := 2) rfl rfl rfl (by kernel_rfl) rfl rfl) ?_
      refine AN_p (x_store (n := 2) rfl rfl rfl rfl (by kernel_rfl) rfl rfl rfl) ?_
      refine AN_nil ?_
      refine AW_shutB 0 100 1 rfl rfl rfl rfl ?_
      refine AW_ret ?_
      refine ⟨⟨⟨_, _⟩, _⟩, ?_, rn [(9, 100)], by exact ⟨⟨⟨_, rfl, VLe.rf⟩, trivial⟩, ⟨⟨_, rfl, by first | exact BLe.rf | exact BLe.box (by repeat (first | exact trivial | refine ⟨by first | exact CLe.rf | exact CLe.nil, ?_⟩))⟩, ⟨_, rfl, BLe.rf⟩, trivial⟩, by repeat (first | exact trivial | refine ⟨⟨rfl, by first | (left; intro h; cases h) | (right; rfl), by first | exact (fun _ h => ⟨_, h⟩) | exact (fun _ _ => ⟨_, rfl⟩) | (intro _ h; cases h)⟩, ?_⟩), rfl⟩⟩
      show smallTable ⟨_, _⟩
      refine tab_cap (c := x9.cap) ?_
      first | exact g9 | exact tab_set g9 (g9.2 _ (List.getElem_mem _)) | exact tab_set (c := x9.cap) (tab_set g9 (g9.2 _ (List.getElem_mem _))) (g9.2 _ (List.getElem_mem _)) | exact tab_set g9 (ent_like (g9.2 _ (List.getElem_mem _)) _ _ _)
    try simp only [tdy] at h102
    refine AN_g rfl rfl (x_move rfl rfl) ?_
    refine AN_gb rfl rfl (x_gtr rfl rfl rfl) (fun b105 h105 => ?_)
    refine AN_p (x_pickT rfl rfl rfl) ?_
    refine AN_nil ?_
    cases b105
    · try simp only [tdy] at h105
      refine AW_condF rfl ?_
      refine AW_skip ?_
      refine AW_seq ?_
      refine AW_regionN ?_
      refine AN_p (x_loadN (n := 2) rfl rfl rfl (by kernel_rfl) rfl rfl) ?_
      refine AN_p (x_store (n := 2) rfl rfl rfl rfl (by kernel_rfl) rfl rfl rfl) ?_
      refine AN_nil ?_
      refine AW_shutB 0 100 1 rfl rfl rfl rfl ?_
      refine AW_ret ?_
      refine ⟨⟨⟨_, _⟩, _⟩, ?_, rn [(9, 100)], by exact ⟨⟨⟨_, rfl, VLe.rf⟩, trivial⟩, ⟨⟨_, rfl, by first | exact BLe.rf | exact BLe.box (by repeat (first | exact trivial | refine ⟨by first | exact CLe.rf | exact CLe.nil, ?_⟩))⟩, ⟨_, rfl, BLe.rf⟩, trivial⟩, by repeat (first | exact trivial | refine ⟨⟨rfl, by first | (left; intro h; cases h) | (right; rfl), by first | exact (fun _ h => ⟨_, h⟩) | exact (fun _ _ => ⟨_, rfl⟩) | (intro _ h; cases h)⟩, ?_⟩), rfl⟩⟩
      show smallTable ⟨_, _⟩
      refine tab_cap (c := x9.cap) ?_
      first | exact g9 | exact tab_set g9 (g9.2 _ (List.getElem_mem _)) | exact tab_set (c := x9.cap) (tab_set g9 (g9.2 _ (List.getElem_mem _))) (g9.2 _ (List.getElem_mem _)) | exact tab_set g9 (ent_like (g9.2 _ (List.getElem_mem _)) _ _ _)
    try simp only [tdy] at h105
    refine AW_condT rfl ?_
    refine AW_draw rfl ?_
    refine AL_p (x_field (off := 1) (o' := 1) rfl rfl rfl (by kernel_rfl) rfl) ?_
    refine AL_p (x_load1 rfl rfl rfl (by kernel_rfl) rfl) ?_
    refine AL_p (x_move rfl rfl) ?_
    refine AL_p (x_move rfl rfl) ?_
    have d111 := dBelow_lt b (dBelow b c9 14).2 (n := (x9.entries.length : Int)) (by omega)
    refine AL_p (x_call (ks := []) (L := [(200, some _)]) (L' := [(200, some _)]) rfl rfl rfl (below_c b (dBelow b c9 14).2 hb (x9.entries.length : Int)) rfl AllV.rf (caught_of rfl) rfl rfl rfl ⟨rfl, trivial⟩ rfl) ?_
    refine AL_p (y_bslice (E := 3) (e := (intE .i64)) [.const (.int .i64 (-1)), .const (.int .i64 (1000000001))] ([-1, 1000000001]) 107 rfl rfl rfl rfl rfl rfl rfl rfl FitL.rf rfl rfl rfl rfl rfl rfl (by kernel_rfl)) ?_
    refine AL_p (x_move rfl rfl) ?_
    have d114 := dBelow_lt b (dBelow b (dBelow b c9 14).2 (x9.entries.length : Int)).2 (n := 2) (by decide)
    refine AL_p (x_call (ks := []) (L := [(200, some _)]) (L' := [(200, some _)]) rfl rfl rfl (below_c b (dBelow b (dBelow b c9 14).2 (x9.entries.length : Int)).2 hb 2) rfl AllV.rf (caught_of rfl) rfl rfl rfl ⟨rfl, trivial⟩ rfl) ?_
    refine AL_p (x_oindex (n := 1) rfl rfl rfl rfl (by kernel_rfl) rfl (k := (dBelow b (dBelow b (dBelow b c9 14).2 (x9.entries.length : Int)).2 2).1.toNat) (by omega) (by simp; omega)) ?_
    refine AL_p (x_oload1 rfl rfl rfl (by kernel_rfl) (by simp; omega) rfl) ?_
    refine AL_p (x_oindex (n := 6) rfl rfl rfl rfl (by kernel_rfl) rfl (k := (dBelow b (dBelow b c9 14).2 (x9.entries.length : Int)).1.toNat) (by omega) (by first | omega | (simp only [List.length_set]; omega) | (simp; omega))) ?_
    refine AL_p (x_ofield (off := 0) (o' := 0) rfl rfl rfl (by kernel_rfl) rfl) ?_
    refine AL_p (x_ofstore (⟨([-1, 1000000001][(dBelow b (dBelow b (dBelow b c9 14).2 (x9.entries.length : Int)).2 2).1.toNat]'(by simp; omega)), (x9.entries[(dBelow b (dBelow b c9 14).2 (x9.entries.length : Int)).1.toNat]'(by omega)).prio, (x9.entries[(dBelow b (dBelow b c9 14).2 (x9.entries.length : Int)).1.toNat]'(by omega)).mat, (x9.entries[(dBelow b (dBelow b c9 14).2 (x9.entries.length : Int)).1.toNat]'(by omega)).acts, (x9.entries[(dBelow b (dBelow b c9 14).2 (x9.entries.length : Int)).1.toNat]'(by omega)).hits⟩ : Entryt) (A := []) (B := [.c (.int .i64 (x9.entries[(dBelow b (dBelow b c9 14).2 (x9.entries.length : Int)).1.toNat]'(by omega)).epoch)]) (C := [.c (.int .i64 (x9.entries[(dBelow b (dBelow b c9 14).2 (x9.entries.length : Int)).1.toNat]'(by omega)).prio), .sl (intE .i64) (x9.entries[(dBelow b (dBelow b c9 14).2 (x9.entries.length : Int)).1.toNat]'(by omega)).mat.v, .sl (intE .i64) (x9.entries[(dBelow b (dBelow b c9 14).2 (x9.entries.length : Int)).1.toNat]'(by omega)).mat.m, .sl actE (x9.entries[(dBelow b (dBelow b c9 14).2 (x9.entries.length : Int)).1.toNat]'(by omega)).acts, .c (.int .i64 (x9.entries[(dBelow b (dBelow b c9 14).2 (x9.entries.length : Int)).1.toNat]'(by omega)).hits)]) rfl rfl rfl rfl (by kernel_rfl) rfl rfl rfl FitL.rf rfl rfl (by omega) rfl rfl rfl rfl) ?_
    refine AL_nild (by kernel_rfl) ?_
    refine AW_seq ?_
    refine AW_regionN ?_
    refine AN_p (x_loadN (n := 2) rfl rfl rfl (by kernel_rfl) rfl rfl) ?_
    refine AN_p (x_store (n := 2) rfl rfl rfl rfl (by kernel_rfl) rfl rfl rfl) ?_
    refine AN_nil ?_
    refine AW_shutB 0 100 1 rfl rfl rfl rfl ?_
    refine AW_ret ?_
    refine ⟨⟨⟨_, x9.entries.set (dBelow b (dBelow b c9 14).2 (x9.entries.length : Int)).1.toNat (⟨([-1, 1000000001][(dBelow b (dBelow b (dBelow b c9 14).2 (x9.entries.length : Int)).2 2).1.toNat]'(by simp; omega)), (x9.entries[(dBelow b (dBelow b c9 14).2 (x9.entries.length : Int)).1.toNat]'(by omega)).prio, (x9.entries[(dBelow b (dBelow b c9 14).2 (x9.entries.length : Int)).1.toNat]'(by omega)).mat, (x9.entries[(dBelow b (dBelow b c9 14).2 (x9.entries.length : Int)).1.toNat]'(by omega)).acts, (x9.entries[(dBelow b (dBelow b c9 14).2 (x9.entries.length : Int)).1.toNat]'(by omega)).hits⟩ : Entryt)⟩, _⟩, ?_, rn [(9, 100)], by exact ⟨⟨⟨_, rfl, VLe.rf⟩, trivial⟩, ⟨⟨_, rfl, by first | exact BLe.rf | exact BLe.box (by repeat (first | exact trivial | refine ⟨by first | exact CLe.rf | exact CLe.nil, ?_⟩))⟩, ⟨_, rfl, BLe.rf⟩, trivial⟩, by repeat (first | exact trivial | refine ⟨⟨rfl, by first | (left; intro h; cases h) | (right; rfl), by first | exact (fun _ h => ⟨_, h⟩) | exact (fun _ _ => ⟨_, rfl⟩) | (intro _ h; cases h)⟩, ?_⟩), rfl⟩⟩
    show smallTable ⟨_, _⟩
    refine tab_cap (c := x9.cap) ?_
    first | exact g9 | exact tab_set g9 (g9.2 _ (List.getElem_mem _)) | exact tab_set (c := x9.cap) (tab_set g9 (g9.2 _ (List.getElem_mem _))) (g9.2 _ (List.getElem_mem _)) | exact tab_set g9 (ent_like (g9.2 _ (List.getElem_mem _)) _ _ _)
  try simp only [tdy] at h77
  refine AN_g rfl rfl (x_move rfl rfl) ?_
  refine AN_gb rfl rfl (x_gtr rfl rfl rfl) (fun b80 h80 => ?_)
  refine AN_p (x_pickT rfl rfl rfl) ?_
  refine AN_p (x_move rfl rfl) ?_
  cases b80
  · try simp only [tdy] at h80
    refine AN_o rfl rfl rfl rfl ?_
    refine AN_o rfl rfl rfl rfl ?_
    refine AN_o rfl rfl rfl rfl ?_
    refine AN_o rfl rfl rfl rfl ?_
    refine AN_p (x_pickF rfl rfl rfl) ?_
    refine AN_nil ?_
    refine AW_condF rfl ?_
    refine AW_skip ?_
    refine AW_seq ?_
    refine AW_seq ?_
    refine AW_regionN ?_
    refine AN_p (x_move rfl rfl) ?_
    refine AN_b (x_eql rfl rfl rfl) (fun b102 h102 => ?_)
    refine AN_p (x_move rfl rfl) ?_
    cases b102
    rotate_left
    · exfalso; simp at h102; omega
    try simp only [tdy] at h102
    refine AN_o rfl rfl rfl rfl ?_
    refine AN_o rfl rfl rfl rfl ?_
    refine AN_p (x_pickF rfl rfl rfl) ?_
    refine AN_nil ?_
    refine AW_condF rfl ?_
    refine AW_skip ?_
    refine AW_seq ?_
    refine AW_regionN ?_
    refine AN_p (x_loadN (n := 2) rfl rfl rfl (by kernel_rfl) rfl rfl) ?_
    refine AN_p (x_store (n := 2) rfl rfl rfl rfl (by kernel_rfl) rfl rfl rfl) ?_
    refine AN_nil ?_
    refine AW_shutB 0 100 1 rfl rfl rfl rfl ?_
    refine AW_ret ?_
    refine ⟨⟨⟨_, _⟩, _⟩, ?_, rn [(9, 100)], by exact ⟨⟨⟨_, rfl, VLe.rf⟩, trivial⟩, ⟨⟨_, rfl, by first | exact BLe.rf | exact BLe.box (by repeat (first | exact trivial | refine ⟨by first | exact CLe.rf | exact CLe.nil, ?_⟩))⟩, ⟨_, rfl, BLe.rf⟩, trivial⟩, by repeat (first | exact trivial | refine ⟨⟨rfl, by first | (left; intro h; cases h) | (right; rfl), by first | exact (fun _ h => ⟨_, h⟩) | exact (fun _ _ => ⟨_, rfl⟩) | (intro _ h; cases h)⟩, ?_⟩), rfl⟩⟩
    show smallTable ⟨_, _⟩
    refine tab_cap (c := x9.cap) ?_
    first | exact g9 | exact tab_set g9 (g9.2 _ (List.getElem_mem _)) | exact tab_set (c := x9.cap) (tab_set g9 (g9.2 _ (List.getElem_mem _))) (g9.2 _ (List.getElem_mem _)) | exact tab_set g9 (ent_like (g9.2 _ (List.getElem_mem _)) _ _ _)
  try simp only [tdy] at h80
  refine AN_g rfl rfl (x_move rfl rfl) ?_
  refine AN_g rfl rfl (x_field (off := 0) (o' := 0) rfl rfl rfl (by kernel_rfl) rfl) ?_
  refine AN_g rfl rfl (x_load1 rfl rfl rfl (by kernel_rfl) rfl) ?_
  refine AN_gb rfl rfl (x_leq rfl rfl rfl) (fun b86 h86 => ?_)
  refine AN_p (x_pickT rfl rfl rfl) ?_
  refine AN_nil ?_
  cases b86
  · try simp only [tdy] at h86
    refine AW_condF rfl ?_
    refine AW_skip ?_
    refine AW_seq ?_
    refine AW_seq ?_
    refine AW_regionN ?_
    refine AN_p (x_move rfl rfl) ?_
    refine AN_b (x_eql rfl rfl rfl) (fun b102 h102 => ?_)
    refine AN_p (x_move rfl rfl) ?_
    cases b102
    rotate_left
    · exfalso; simp at h102; omega
    try simp only [tdy] at h102
    refine AN_o rfl rfl rfl rfl ?_
    refine AN_o rfl rfl rfl rfl ?_
    refine AN_p (x_pickF rfl rfl rfl) ?_
    refine AN_nil ?_
    refine AW_condF rfl ?_
    refine AW_skip ?_
    refine AW_seq ?_
    refine AW_regionN ?_
    refine AN_p (x_loadN (n := 2) rfl rfl rfl (by kernel_rfl) rfl rfl) ?_
    refine AN_p (x_store (n := 2) rfl rfl rfl rfl (by kernel_rfl) rfl rfl rfl) ?_
    refine AN_nil ?_
    refine AW_shutB 0 100 1 rfl rfl rfl rfl ?_
    refine AW_ret ?_
    refine ⟨⟨⟨_, _⟩, _⟩, ?_, rn [(9, 100)], by exact ⟨⟨⟨_, rfl, VLe.rf⟩, trivial⟩, ⟨⟨_, rfl, by first | exact BLe.rf | exact BLe.box (by repeat (first | exact trivial | refine ⟨by first | exact CLe.rf | exact CLe.nil, ?_⟩))⟩, ⟨_, rfl, BLe.rf⟩, trivial⟩, by repeat (first | exact trivial | refine ⟨⟨rfl, by first | (left; intro h; cases h) | (right; rfl), by first | exact (fun _ h => ⟨_, h⟩) | exact (fun _ _ => ⟨_, rfl⟩) | (intro _ h; cases h)⟩, ?_⟩), rfl⟩⟩
    show smallTable ⟨_, _⟩
    refine tab_cap (c := x9.cap) ?_
    first | exact g9 | exact tab_set g9 (g9.2 _ (List.getElem_mem _)) | exact tab_set (c := x9.cap) (tab_set g9 (g9.2 _ (List.getElem_mem _))) (g9.2 _ (List.getElem_mem _)) | exact tab_set g9 (ent_like (g9.2 _ (List.getElem_mem _)) _ _ _)
  try simp only [tdy] at h86
  refine AW_condT rfl ?_
  refine AW_draw rfl ?_
  refine AL_p (x_field (off := 1) (o' := 1) rfl rfl rfl (by kernel_rfl) rfl) ?_
  refine AL_p (x_load1 rfl rfl rfl (by kernel_rfl) rfl) ?_
  refine AL_p (x_move rfl rfl) ?_
  refine AL_p (x_sub rfl rfl rfl (IntWalk.i64_in _ (by omega))) ?_
  refine AL_p (x_field (off := 1) (o' := 1) rfl rfl rfl (by kernel_rfl) rfl) ?_
  refine AL_p (x_load1 rfl rfl rfl (by kernel_rfl) rfl) ?_
  refine AL_p (x_move rfl rfl) ?_
  refine AL_p (x_move rfl rfl) ?_
  have d96 := dBelow_lt b (dBelow b c9 14).2 (n := (x9.entries.length : Int)) (by omega)
  refine AL_p (x_call (ks := []) (L := [(200, some _)]) (L' := [(200, some _)]) rfl rfl rfl (below_c b (dBelow b c9 14).2 hb (x9.entries.length : Int)) rfl AllV.rf (caught_of rfl) rfl rfl rfl ⟨rfl, trivial⟩ rfl) ?_
  refine AL_p (x_oindex (n := 6) rfl rfl rfl rfl (by kernel_rfl) rfl (k := (dBelow b (dBelow b c9 14).2 (x9.entries.length : Int)).1.toNat) (by omega) (by first | omega | (simp only [List.length_set]; omega) | (simp; omega))) ?_
  refine AL_p (x_oloadN (n := 6) rfl rfl rfl (by kernel_rfl) (by omega) rfl rfl) ?_
  refine AL_p (x_callR rfl rfl rfl (AC.renum (res := .agg [.c (.int .i64 (x9.entries[(dBelow b (dBelow b c9 14).2 (x9.entries.length : Int)).1.toNat]'(by omega)).epoch), .c (.int .i64 (x9.entries[(dBelow b (dBelow b c9 14).2 (x9.entries.length : Int)).1.toNat]'(by omega)).prio), .own 104, .own 105, .own 106, .c (.int .i64 (x9.entries[(dBelow b (dBelow b c9 14).2 (x9.entries.length : Int)).1.toNat]'(by omega)).hits)]) (L := [(104, some (.arr 3 (intE .i64) (x9.entries[(dBelow b (dBelow b c9 14).2 (x9.entries.length : Int)).1.toNat]'(by omega)).mat.v true)), (105, some (.arr 3 (intE .i64) (x9.entries[(dBelow b (dBelow b c9 14).2 (x9.entries.length : Int)).1.toNat]'(by omega)).mat.m true)), (106, some (.arr 114 actE (x9.entries[(dBelow b (dBelow b c9 14).2 (x9.entries.length : Int)).1.toNat]'(by omega)).acts true))]) (r := rn [(104, 0), (105, 1), (106, 2)]) (copyEntS_c (x9.entries[(dBelow b (dBelow b c9 14).2 (x9.entries.length : Int)).1.toNat]'(by omega)) (g9.2 _ (List.getElem_mem _))) ⟨⟨_, rfl, BLe.rf⟩, ⟨_, rfl, BLe.rf⟩, ⟨_, rfl, BLe.rf⟩, trivial⟩ rfl) rfl AllV.rf rfl rfl rfl rfl rfl) ?_
  refine AL_p (x_oindex (n := 6) rfl rfl rfl rfl (by kernel_rfl) rfl (k := x9.entries.length - 1) (by omega) (by omega)) ?_
  refine AL_p (x_ostore ((x9.entries[(dBelow b (dBelow b c9 14).2 (x9.entries.length : Int)).1.toNat]'(by omega))) rfl rfl rfl rfl (by kernel_rfl) rfl rfl rfl rfl FitL.rf rfl rfl (by first | omega | (rw [filledTo_len (by omega)]; omega) | (simp; omega))) ?_
  refine AL_nild (by kernel_rfl) ?_
  refine AW_seq ?_
  refine AW_seq ?_
  refine AW_regionN ?_
  refine AN_p (x_move rfl rfl) ?_
  refine AN_b (x_eql rfl rfl rfl) (fun b102 h102 => ?_)
  refine AN_p (x_move rfl rfl) ?_
  cases b102
  rotate_left
  · exfalso; simp at h102; omega
  try simp only [tdy] at h102
  refine AN_o rfl rfl rfl rfl ?_
  refine AN_o rfl rfl rfl rfl ?_
  refine AN_p (x_pickF rfl rfl rfl) ?_
  refine AN_nil ?_
  refine AW_condF rfl ?_
  refine AW_skip ?_
  refine AW_seq ?_
  refine AW_regionN ?_
  refine AN_p (x_loadN (n := 2) rfl rfl rfl (by kernel_rfl) rfl rfl) ?_
  refine AN_p (x_store (n := 2) rfl rfl rfl rfl (by kernel_rfl) rfl rfl rfl) ?_
  refine AN_nil ?_
  refine AW_shutB 0 100 1 rfl rfl rfl rfl ?_
  refine AW_ret ?_
  refine ⟨⟨⟨_, x9.entries.set (x9.entries.length - 1) (x9.entries[(dBelow b (dBelow b c9 14).2 (x9.entries.length : Int)).1.toNat]'(by omega))⟩, _⟩, ?_, rn [(9, 100)], by exact ⟨⟨⟨_, rfl, VLe.rf⟩, trivial⟩, ⟨⟨_, rfl, by first | exact BLe.rf | exact BLe.box (by repeat (first | exact trivial | refine ⟨by first | exact CLe.rf | exact CLe.nil, ?_⟩))⟩, ⟨_, rfl, BLe.rf⟩, trivial⟩, by repeat (first | exact trivial | refine ⟨⟨rfl, by first | (left; intro h; cases h) | (right; rfl), by first | exact (fun _ h => ⟨_, h⟩) | exact (fun _ _ => ⟨_, rfl⟩) | (intro _ h; cases h)⟩, ?_⟩), rfl⟩⟩
  show smallTable ⟨_, _⟩
  refine tab_cap (c := x9.cap) ?_
  first | exact g9 | exact tab_set g9 (g9.2 _ (List.getElem_mem _)) | exact tab_set (c := x9.cap) (tab_set g9 (g9.2 _ (List.getElem_mem _))) (g9.2 _ (List.getElem_mem _)) | exact tab_set g9 (ent_like (g9.2 _ (List.getElem_mem _)) _ _ _)

set_option maxHeartbeats 4000000 in
theorem drawTA_x (b : List Int) (hb : b.length ≤ 1048576) : AX Try.prog 51 [.one (.sl (intE .u8) b)] [] (ι := Tablet × Entryt) (fun i => smallTable i.1 ∧ smallEntry i.2) (fun i => .tup [.agg (tableC i.1), .agg (entryC i.2)]) (fun i => []) := by
  refine AX_bodyCC (n := 2) (n2 := 6) (k := 9) (k2 := 8) (cs := fun (i : Tablet × Entryt) => (tableC i.1)) (cs2 := fun (i : Tablet × Entryt) => (entryC i.2)) (T := fun (_ : Tablet × Entryt) => [(2, .one (.ptr 9 0)), (3, .one (.ptr 8 0))]) (Lf := fun (i : Tablet × Entryt) => ((9, some (.box (tableC i.1))) :: (8, some (.box (entryC i.2))) :: [])) (L' := fun (i : Tablet × Entryt) => []) Try.func51 rfl rfl Try.ntmps51 rfl Try.results51 (fun _ => rfl) (fun _ => rfl) (by kernel_rfl) (fun _ => rfl) (fun _ => rfl) (fun _ => rfl) (by kernel_rfl) (fun _ => rfl) (fun _ => rfl) (fun (_ : Tablet × Entryt) => ⟨trivial, (by repeat (first | exact trivial | refine ⟨⟨_, rfl, BLe.rf⟩, ?_⟩)), (by repeat (first | exact trivial | refine ⟨⟨rfl, by first | (left; intro h; cases h) | (right; rfl), by first | exact (fun _ h => ⟨_, h⟩) | exact (fun _ _ => ⟨_, rfl⟩) | (intro _ h; cases h)⟩, ?_⟩)), rfl⟩) ?_
  refine AW_seq ?_
  refine AW_regionN ?_
  refine AN_p (x_alloc (z := .agg #[.int .i64 0, .slice none 0 0]) 100 rfl (by kernel_rfl) rfl rfl rfl rfl) ?_
  refine AN_p (x_alloc (z := .agg #[.int .i64 0, .int .i64 0, .slice none 0 0, .slice none 0 0, .slice none 0 0, .int .i64 0]) 101 rfl (by kernel_rfl) rfl rfl rfl rfl) ?_
  refine AN_nil ?_
  refine AW_seq ?_
  refine AW_regionN ?_
  refine AN_p (x_move rfl rfl) ?_
  refine AN_p (x_call1 rfl rfl rfl (new_c b hb) rfl rfl rfl rfl) ?_
  refine AN_p (x_assign rfl rfl) ?_
  refine AN_nil ?_
  refine AW_seq ?_
  refine AW_regionN ?_
  refine AN_p (x_move rfl rfl) ?_
  refine AN_x (L := [(200, some (curB b (dNew b)))]) rfl rfl rfl (anyTab_x b (dNew b) hb) rfl rfl (fun _ => rfl) (fun _ => rfl) ⟨rfl, trivial⟩ (fun _ => rfl) ?_
  rintro ⟨x10, c10⟩ g10
  try dsimp only at g10
  try dsimp only
  have hlx : x10.entries.length ≤ 1048576 := g10.1
  refine AN_p (x_alloc (z := .agg #[.int .i64 0, .slice none 0 0]) 102 rfl (by kernel_rfl) rfl rfl rfl rfl) ?_
  refine AN_p (x_store (n := 2) rfl rfl rfl rfl (by kernel_rfl) rfl rfl rfl) ?_
  refine AN_nil ?_
  refine AW_seq ?_
  refine AW_regionN ?_
  refine AN_p (x_move rfl rfl) ?_
  refine AN_x (L := [(200, some (curB b c10))]) rfl rfl rfl (anyEntry_x b c10 hb) rfl rfl (fun _ => rfl) (fun _ => rfl) ⟨rfl, trivial⟩ (fun _ => rfl) ?_
  rintro ⟨y12, c12⟩ g12
  try dsimp only at g12
  try dsimp only
  refine AN_p (x_alloc (z := .agg #[.int .i64 0, .int .i64 0, .slice none 0 0, .slice none 0 0, .slice none 0 0, .int .i64 0]) 103 rfl (by kernel_rfl) rfl rfl rfl rfl) ?_
  refine AN_p (x_store (n := 6) rfl rfl rfl rfl (by kernel_rfl) rfl rfl rfl) ?_
  refine AN_nil ?_
  refine AW_seq ?_
  refine AW_seq ?_
  refine AW_regionN ?_
  refine AN_p (x_field (off := 1) (o' := 1) rfl rfl rfl (by kernel_rfl) rfl) ?_
  refine AN_p (x_load1 rfl rfl rfl (by kernel_rfl) rfl) ?_
  refine AN_p (x_len (E := 74) (n := 6) rfl rfl (by kernel_rfl)) ?_
  refine AN_b (x_gtr rfl rfl rfl) (fun b16 h16 => ?_)
  refine AN_p (x_move rfl rfl) ?_
  cases b16
  · try simp only [tdy] at h16
    refine AN_o rfl rfl rfl rfl ?_
    refine AN_o rfl rfl rfl rfl ?_
    refine AN_o rfl rfl rfl rfl ?_
    refine AN_p (x_pickF rfl rfl rfl) ?_
    refine AN_nil ?_
    refine AW_condF rfl ?_
    refine AW_skip ?_
    refine AW_seq ?_
    refine AW_draw rfl ?_
    refine AL_p (x_loadN (n := 2) rfl rfl rfl (by kernel_rfl) rfl rfl) ?_
    refine AL_p (x_loadN (n := 6) rfl rfl rfl (by kernel_rfl) rfl rfl) ?_
    refine AL_p (x_store (n := 2) rfl rfl rfl rfl (by kernel_rfl) rfl rfl rfl) ?_
    refine AL_p (x_store (n := 6) rfl rfl rfl rfl (by kernel_rfl) rfl rfl rfl) ?_
    refine AL_nild (by kernel_rfl) ?_
    refine AW_ret ?_
    refine ⟨⟨x10, y12⟩, ?_, rn [(9, 100), (8, 101)], by exact ⟨⟨⟨_, rfl, VLe.rf⟩, ⟨_, rfl, VLe.rf⟩, trivial⟩, ⟨⟨_, rfl, by first | exact BLe.rf | exact BLe.box (by repeat (first | exact trivial | refine ⟨by first | exact CLe.rf | exact CLe.nil, ?_⟩))⟩, ⟨_, rfl, by first | exact BLe.rf | exact BLe.box (by repeat (first | exact trivial | refine ⟨by first | exact CLe.rf | exact CLe.nil, ?_⟩))⟩, trivial⟩, by repeat (first | exact trivial | refine ⟨⟨rfl, by first | (left; intro h; cases h) | (right; rfl), by first | exact (fun _ h => ⟨_, h⟩) | exact (fun _ _ => ⟨_, rfl⟩) | (intro _ h; cases h)⟩, ?_⟩), rfl⟩⟩
    exact ⟨g10, by first | exact g12 | exact ⟨(g10.2 (x10.entries[0]'(by omega)) (List.getElem_mem _)).1, g12.2⟩⟩
  try simp only [tdy] at h16
  refine AN_g rfl rfl (x_move rfl rfl) ?_
  have d19 := dBelow_lt b c12 (n := 3) (by decide)
  refine AN_g rfl rfl (x_call (ks := []) (L := [(200, some _)]) (L' := [(200, some _)]) rfl rfl rfl (below_c b c12 hb 3) rfl AllV.rf (caught_of rfl) rfl rfl rfl ⟨rfl, trivial⟩ rfl) ?_
  refine AN_gb rfl rfl (x_eql rfl rfl rfl) (fun b20 h20 => ?_)
  refine AN_p (x_pickT rfl rfl rfl) ?_
  refine AN_nil ?_
  cases b20
  · try simp only [tdy] at h20
    refine AW_condF rfl ?_
    refine AW_skip ?_
    refine AW_seq ?_
    refine AW_draw rfl ?_
    refine AL_p (x_loadN (n := 2) rfl rfl rfl (by kernel_rfl) rfl rfl) ?_
    refine AL_p (x_loadN (n := 6) rfl rfl rfl (by kernel_rfl) rfl rfl) ?_
    refine AL_p (x_store (n := 2) rfl rfl rfl rfl (by kernel_rfl) rfl rfl rfl) ?_
    refine AL_p (x_store (n := 6) rfl rfl rfl rfl (by kernel_rfl) rfl rfl rfl) ?_
    refine AL_nild (by kernel_rfl) ?_
    refine AW_ret ?_
    refine ⟨⟨x10, y12⟩, ?_, rn [(9, 100), (8, 101)], by exact ⟨⟨⟨_, rfl, VLe.rf⟩, ⟨_, rfl, VLe.rf⟩, trivial⟩, ⟨⟨_, rfl, by first | exact BLe.rf | exact BLe.box (by repeat (first | exact trivial | refine ⟨by first | exact CLe.rf | exact CLe.nil, ?_⟩))⟩, ⟨_, rfl, by first | exact BLe.rf | exact BLe.box (by repeat (first | exact trivial | refine ⟨by first | exact CLe.rf | exact CLe.nil, ?_⟩))⟩, trivial⟩, by repeat (first | exact trivial | refine ⟨⟨rfl, by first | (left; intro h; cases h) | (right; rfl), by first | exact (fun _ h => ⟨_, h⟩) | exact (fun _ _ => ⟨_, rfl⟩) | (intro _ h; cases h)⟩, ?_⟩), rfl⟩⟩
    exact ⟨g10, by first | exact g12 | exact ⟨(g10.2 (x10.entries[0]'(by omega)) (List.getElem_mem _)).1, g12.2⟩⟩
  try simp only [tdy] at h20
  refine AW_condT rfl ?_
  refine AW_seq ?_
  refine AW_regionN ?_
  refine AN_p (x_field (off := 1) (o' := 1) rfl rfl rfl (by kernel_rfl) rfl) ?_
  refine AN_p (x_load1 rfl rfl rfl (by kernel_rfl) rfl) ?_
  refine AN_p (x_index (E := 74) (n := 6) rfl rfl rfl (by kernel_rfl) rfl (k := 0) rfl (by omega)) ?_
  refine AN_p (x_efield (off := 2) (o' := 2) rfl rfl (by kernel_rfl) rfl) ?_
  refine AN_p (x_eloadN (n := 2) rfl rfl (by kernel_rfl) rfl rfl) ?_
  refine AN_p (x_callR rfl rfl rfl (AC.renum (res := .agg [.own 104, .own 105]) (L := [(104, some (.arr 3 (intE .i64) (x10.entries[0]'(by omega)).mat.v true)), (105, some (.arr 3 (intE .i64) (x10.entries[0]'(by omega)).mat.m true))]) (r := rn [(104, 0), (105, 1)]) (copyMatchS_c (x10.entries[0]'(by omega)).mat (g10.2 _ (List.getElem_mem _)).1) ⟨⟨_, rfl, BLe.rf⟩, ⟨_, rfl, BLe.rf⟩, trivial⟩ rfl) rfl AllV.rf rfl rfl rfl rfl rfl) ?_
  refine AN_p (x_field (off := 2) (o' := 2) rfl rfl rfl (by kernel_rfl) rfl) ?_
  refine AN_p (x_store (n := 2) rfl rfl rfl rfl (by kernel_rfl) rfl rfl rfl) ?_
  refine AN_nil ?_
  refine AW_seq ?_
  refine AW_regionN ?_
  refine AN_p (x_field (off := 1) (o' := 1) rfl rfl rfl (by kernel_rfl) rfl) ?_
  refine AN_p (x_load1 rfl rfl rfl (by kernel_rfl) rfl) ?_
  refine AN_p (x_index (E := 74) (n := 6) rfl rfl rfl (by kernel_rfl) rfl (k := 0) rfl (by omega)) ?_
  refine AN_p (x_efield (off := 0) (o' := 0) rfl rfl (by kernel_rfl) rfl) ?_
  refine AN_p (x_eload1 rfl rfl (by kernel_rfl) rfl) ?_
  refine AN_p (x_field (off := 0) (o' := 0) rfl rfl rfl (by kernel_rfl) rfl) ?_
  refine AN_p (x_store (n := 1) rfl rfl rfl rfl (by kernel_rfl) rfl rfl rfl) ?_
  refine AN_nil ?_
  refine AW_regionN ?_
  refine AN_p (x_field (off := 1) (o' := 1) rfl rfl rfl (by kernel_rfl) rfl) ?_
  refine AN_p (x_load1 rfl rfl rfl (by kernel_rfl) rfl) ?_
  refine AN_p (x_index (E := 74) (n := 6) rfl rfl rfl (by kernel_rfl) rfl (k := 0) rfl (by omega)) ?_
  refine AN_p (x_efield (off := 1) (o' := 1) rfl rfl (by kernel_rfl) rfl) ?_
  refine AN_p (x_eload1 rfl rfl (by kernel_rfl) rfl) ?_
  refine AN_p (x_field (off := 1) (o' := 1) rfl rfl rfl (by kernel_rfl) rfl) ?_
  refine AN_p (x_store (n := 1) rfl rfl rfl rfl (by kernel_rfl) rfl rfl rfl) ?_
  refine AN_nil ?_
  refine AW_seq ?_
  refine AW_shutB 104 103 2 rfl rfl rfl rfl ?_
  refine AW_shutB 105 103 3 rfl rfl rfl rfl ?_
  refine AW_draw rfl ?_
  refine AL_p (x_loadN (n := 2) rfl rfl rfl (by kernel_rfl) rfl rfl) ?_
  refine AL_p (x_loadN (n := 6) rfl rfl rfl (by kernel_rfl) rfl rfl) ?_
  refine AL_p (x_store (n := 2) rfl rfl rfl rfl (by kernel_rfl) rfl rfl rfl) ?_
  refine AL_p (x_store (n := 6) rfl rfl rfl rfl (by kernel_rfl) rfl rfl rfl) ?_
  refine AL_nild (by kernel_rfl) ?_
  refine AW_ret ?_
  refine ⟨⟨x10, (⟨(x10.entries[0]'(by omega)).epoch, (x10.entries[0]'(by omega)).prio, (x10.entries[0]'(by omega)).mat, y12.acts, y12.hits⟩ : Entryt)⟩, ?_, rn [(9, 100), (8, 101)], by exact ⟨⟨⟨_, rfl, VLe.rf⟩, ⟨_, rfl, VLe.rf⟩, trivial⟩, ⟨⟨_, rfl, by first | exact BLe.rf | exact BLe.box (by repeat (first | exact trivial | refine ⟨by first | exact CLe.rf | exact CLe.nil, ?_⟩))⟩, ⟨_, rfl, by first | exact BLe.rf | exact BLe.box (by repeat (first | exact trivial | refine ⟨by first | exact CLe.rf | exact CLe.nil, ?_⟩))⟩, trivial⟩, by repeat (first | exact trivial | refine ⟨⟨rfl, by first | (left; intro h; cases h) | (right; rfl), by first | exact (fun _ h => ⟨_, h⟩) | exact (fun _ _ => ⟨_, rfl⟩) | (intro _ h; cases h)⟩, ?_⟩), rfl⟩⟩
  exact ⟨g10, by first | exact g12 | exact ⟨(g10.2 (x10.entries[0]'(by omega)) (List.getElem_mem _)).1, g12.2⟩⟩
end Go.Proofs.Ytfdpigafekohgaa

/- Matches that cover (printed by walk.py) -/
namespace Go.Proofs.Ytfdpigafekohgaa
open Go.RowKit
set_option linter.unusedVariables false
set_option linter.unusedSimpArgs false
set_option maxRecDepth 100000

set_option maxHeartbeats 4000000 in
theorem coversI_c (a b : Matcht) : AC Try.prog 114 [.agg (matchC a), .agg (matchC b)] [] (.one (.c (.bool (coversB a b)))) [] := by
  refine AC_body1 Try.func114 rfl rfl Try.ntmps114 rfl Try.results114 ?_
  refine AW_seq ?_
  refine AW_region ?_
  refine AL_p (x_box 100 rfl rfl rfl rfl rfl rfl rfl) ?_
  refine AL_p (x_box 101 rfl rfl rfl rfl rfl rfl rfl) ?_
  refine AL_p (x_assign rfl rfl) ?_
  refine AL_nil ?_
  refine AW_seq ?_
  refine AW_seq ?_
  refine AW_region ?_
  refine AL_p (x_loadN (n := 2) rfl rfl rfl (by kernel_rfl) rfl rfl) ?_
  refine AL_b (x_call0 rfl rfl rfl (matchI_c a) rfl rfl) (fun b7 h7 => ?_)
  refine AL_p (x_not rfl rfl) ?_
  refine AL_p (x_move rfl rfl) ?_
  cases b7
  · try simp only [tdy] at h7
    have hno := covers_a (b := b) h7
    refine AL_o rfl rfl rfl rfl ?_
    refine AL_o rfl rfl rfl rfl ?_
    refine AL_o rfl rfl rfl rfl ?_
    refine AL_p (x_pickT rfl rfl rfl) ?_
    refine AL_nil ?_
    refine AW_condT rfl ?_
    refine AW_seq ?_
    refine AW_region ?_
    refine AL_p (x_assign rfl rfl) ?_
    refine AL_nil ?_
    refine AW_ret ?_
    exact ⟨rn [], ⟨⟨⟨_, rfl, vle_bool (by first | exact (hno).symm | exact (covers_bad (f := k) (by omega) (covAt_m (by omega) (by omega) h28)).symm | exact (covers_bad (f := k) (by omega) (covAt_v (by omega) (by omega) (by omega) h46)).symm | exact (covers_good h7 h11 hA (by omega)).symm)⟩, trivial⟩, trivial, trivial, rfl⟩⟩
  try simp only [tdy] at h7
  have la := (match_parts h7).1
  have lm := (match_parts h7).2.1
  refine AL_g rfl rfl (x_loadN (n := 2) rfl rfl rfl (by kernel_rfl) rfl rfl) ?_
  refine AL_gb rfl rfl (x_call0 rfl rfl rfl (matchI_c b) rfl rfl) (fun b11 h11 => ?_)
  refine AL_g rfl rfl (x_not rfl rfl) ?_
  refine AL_p (x_pickF rfl rfl rfl) ?_
  refine AL_nil ?_
  cases b11
  · try simp only [tdy] at h11
    have hno := covers_b (a := a) h11
    refine AW_condT rfl ?_
    refine AW_seq ?_
    refine AW_region ?_
    refine AL_p (x_assign rfl rfl) ?_
    refine AL_nil ?_
    refine AW_ret ?_
    exact ⟨rn [], ⟨⟨⟨_, rfl, vle_bool (by first | exact (hno).symm | exact (covers_bad (f := k) (by omega) (covAt_m (by omega) (by omega) h28)).symm | exact (covers_bad (f := k) (by omega) (covAt_v (by omega) (by omega) (by omega) h46)).symm | exact (covers_good h7 h11 hA (by omega)).symm)⟩, trivial⟩, trivial, trivial, rfl⟩⟩
  try simp only [tdy] at h11
  have lb := (match_parts h11).1
  have lbm := (match_parts h11).2.1
  refine AW_condF rfl ?_
  refine AW_skip ?_
  refine AW_seq ?_
  refine AW_seq ?_
  refine AW_region ?_
  refine AL_p (x_move rfl rfl) ?_
  refine AL_nil ?_
  refine AW_block ?_
  refine AW_loop2 (ι := {q : Nat // q ≤ 8 ∧ AllAt (n := 8) (fun f _ => coversAt a b f) q}) (fun p => [(14, .one (.c (.int .i64 ((p.1) : Int))))]) (fun p => []) [2, 3] [100, 101] (fun p => 8 - (p.1)) ⟨0, ⟨by omega, .zero⟩⟩ (rn []) ?_ ?_
  exact ⟨by (repeat refine ⟨⟨_, rfl, by first | exact VLe.rf | exact vle_int (by dsimp only; omega)⟩, ?_⟩); exact trivial, by (repeat refine ⟨⟨_, rfl, by first | exact BLe.rf | exact BLe.box AllC.rf | exact BLe.arr (by exact rfl)⟩, ?_⟩); exact trivial, by repeat (first | exact trivial | refine ⟨⟨rfl, by first | (left; intro h; cases h) | (right; rfl), by first | exact (fun _ h => ⟨_, h⟩) | exact (fun _ _ => ⟨_, rfl⟩) | (intro _ h; cases h)⟩, ?_⟩), rfl⟩
  rintro ⟨k, hinv⟩
  dsimp only
  obtain ⟨hk, hA⟩ := hinv
  have hk : k ≤ 8 := hk
  refine AW_seq ?_
  refine AW_region ?_
  refine AL_b (x_lss rfl rfl rfl) (fun b15 h15 => ?_)
  refine AL_nil ?_
  refine AW_seq ?_
  cases b15
  · try simp only [tdy] at h15
    refine AW_condF rfl ?_
    refine AW_exit (BQ_hit ?_)
    refine AW_seq ?_
    refine AW_region ?_
    refine AL_p (x_assign rfl rfl) ?_
    refine AL_nil ?_
    refine AW_ret ?_
    exact ⟨rn [], ⟨⟨⟨_, rfl, vle_bool (by first | exact (hno).symm | exact (covers_bad (f := k) (by omega) (covAt_m (by omega) (by omega) h28)).symm | exact (covers_bad (f := k) (by omega) (covAt_v (by omega) (by omega) (by omega) h46)).symm | exact (covers_good h7 h11 hA (by omega)).symm)⟩, trivial⟩, trivial, trivial, rfl⟩⟩
  try simp only [tdy] at h15
  refine AW_condT rfl ?_
  refine AW_skip ?_
  refine AW_seq ?_
  refine AW_block ?_
  refine AW_seq ?_
  refine AW_region ?_
  refine AL_p (x_move rfl rfl) ?_
  refine AL_p (x_assign rfl rfl) ?_
  refine AL_nil ?_
  refine AW_seq ?_
  refine AW_draw rfl ?_
  refine AL_p (x_field (off := 1) (o' := 1) rfl rfl rfl (by kernel_rfl) rfl) ?_
  refine AL_p (x_load1 rfl rfl rfl (by kernel_rfl) rfl) ?_
  refine AL_p (x_move rfl rfl) ?_
  refine AL_p (x_index (E := 3) (n := 1) rfl rfl rfl (by kernel_rfl) rfl (k := k) (by omega) (by omega)) ?_
  refine AL_p (x_eload1 rfl rfl (by kernel_rfl) rfl) ?_
  refine AL_p (x_field (off := 1) (o' := 1) rfl rfl rfl (by kernel_rfl) rfl) ?_
  refine AL_p (x_load1 rfl rfl rfl (by kernel_rfl) rfl) ?_
  refine AL_p (x_move rfl rfl) ?_
  refine AL_p (x_index (E := 3) (n := 1) rfl rfl rfl (by kernel_rfl) rfl (k := k) (by omega) (by omega)) ?_
  refine AL_p (x_eload1 rfl rfl (by kernel_rfl) rfl) ?_
  refine AL_p (x_andNot rfl rfl rfl ) ?_
  refine AL_b (x_neq rfl rfl rfl) (fun b28 h28 => ?_)
  refine AL_p (x_move rfl rfl) ?_
  cases b28
  rotate_left
  · try simp only [tdy] at h28
    refine AL_o rfl rfl rfl rfl ?_
    refine AL_o rfl rfl rfl rfl ?_
    refine AL_o rfl rfl rfl rfl ?_
    refine AL_o rfl rfl rfl rfl ?_
    refine AL_o rfl rfl rfl rfl ?_
    refine AL_o rfl rfl rfl rfl ?_
    refine AL_o rfl rfl rfl rfl ?_
    refine AL_o rfl rfl rfl rfl ?_
    refine AL_o rfl rfl rfl rfl ?_
    refine AL_o rfl rfl rfl rfl ?_
    refine AL_o rfl rfl rfl rfl ?_
    refine AL_o rfl rfl rfl rfl ?_
    refine AL_o rfl rfl rfl rfl ?_
    refine AL_o rfl rfl rfl rfl ?_
    refine AL_o rfl rfl rfl rfl ?_
    refine AL_o rfl rfl rfl rfl ?_
    refine AL_o rfl rfl rfl rfl ?_
    refine AL_p (x_pickT rfl rfl rfl) ?_
    refine AL_nild (by kernel_rfl) ?_
    refine AW_condT rfl ?_
    refine AW_seq ?_
    refine AW_region ?_
    refine AL_p (x_assign rfl rfl) ?_
    refine AL_nil ?_
    refine AW_ret (BQ_ret (BQ_ret ?_))
    exact ⟨rn [], ⟨⟨⟨_, rfl, vle_bool (by first | exact (hno).symm | exact (covers_bad (f := k) (by omega) (covAt_m (by omega) (by omega) h28)).symm | exact (covers_bad (f := k) (by omega) (covAt_v (by omega) (by omega) (by omega) h46)).symm | exact (covers_good h7 h11 hA (by omega)).symm)⟩, trivial⟩, trivial, trivial, rfl⟩⟩
  try simp only [tdy] at h28
  refine AL_g rfl rfl (x_field (off := 0) (o' := 0) rfl rfl rfl (by kernel_rfl) rfl) ?_
  refine AL_g rfl rfl (x_load1 rfl rfl rfl (by kernel_rfl) rfl) ?_
  refine AL_g rfl rfl (x_move rfl rfl) ?_
  refine AL_g rfl rfl (x_index (E := 3) (n := 1) rfl rfl rfl (by kernel_rfl) rfl (k := k) (by omega) (by omega)) ?_
  refine AL_g rfl rfl (x_eload1 rfl rfl (by kernel_rfl) rfl) ?_
  refine AL_g rfl rfl (x_field (off := 1) (o' := 1) rfl rfl rfl (by kernel_rfl) rfl) ?_
  refine AL_g rfl rfl (x_load1 rfl rfl rfl (by kernel_rfl) rfl) ?_
  refine AL_g rfl rfl (x_move rfl rfl) ?_
  refine AL_g rfl rfl (x_index (E := 3) (n := 1) rfl rfl rfl (by kernel_rfl) rfl (k := k) (by omega) (by omega)) ?_
  refine AL_g rfl rfl (x_eload1 rfl rfl (by kernel_rfl) rfl) ?_
  refine AL_g rfl rfl (x_and rfl rfl rfl ) ?_
  refine AL_g rfl rfl (x_field (off := 0) (o' := 0) rfl rfl rfl (by kernel_rfl) rfl) ?_
  refine AL_g rfl rfl (x_load1 rfl rfl rfl (by kernel_rfl) rfl) ?_
  refine AL_g rfl rfl (x_move rfl rfl) ?_
  refine AL_g rfl rfl (x_index (E := 3) (n := 1) rfl rfl rfl (by kernel_rfl) rfl (k := k) (by omega) (by omega)) ?_
  refine AL_g rfl rfl (x_eload1 rfl rfl (by kernel_rfl) rfl) ?_
  refine AL_gb rfl rfl (x_neq rfl rfl rfl) (fun b46 h46 => ?_)
  refine AL_p (x_pickF rfl rfl rfl) ?_
  refine AL_nild (by kernel_rfl) ?_
  cases b46
  rotate_left
  · try simp only [tdy] at h46
    refine AW_condT rfl ?_
    refine AW_seq ?_
    refine AW_region ?_
    refine AL_p (x_assign rfl rfl) ?_
    refine AL_nil ?_
    refine AW_ret (BQ_ret (BQ_ret ?_))
    exact ⟨rn [], ⟨⟨⟨_, rfl, vle_bool (by first | exact (hno).symm | exact (covers_bad (f := k) (by omega) (covAt_m (by omega) (by omega) h28)).symm | exact (covers_bad (f := k) (by omega) (covAt_v (by omega) (by omega) (by omega) h46)).symm | exact (covers_good h7 h11 hA (by omega)).symm)⟩, trivial⟩, trivial, trivial, rfl⟩⟩
  try simp only [tdy] at h46
  refine AW_condF rfl ?_
  refine AW_skip ?_
  refine AW_region ?_
  refine AL_p (x_add rfl rfl rfl (IntWalk.i64_in _ (by omega))) ?_
  refine AL_p (x_move rfl rfl) ?_
  refine AL_nil ?_
  refine ⟨⟨k + 1, ⟨by omega, hA.succ (by omega) (covAt_yes (by omega) (by omega) (by omega) (by omega) h28 h46)⟩⟩, rn [], ?_, by dsimp only; omega⟩
  exact ⟨by (repeat refine ⟨⟨_, rfl, by first | exact VLe.rf | exact vle_int (by dsimp only; omega)⟩, ?_⟩); exact trivial, by (repeat refine ⟨⟨_, rfl, by first | exact BLe.rf | exact BLe.box AllC.rf | exact BLe.arr (by exact rfl)⟩, ?_⟩); exact trivial, by repeat (first | exact trivial | refine ⟨⟨rfl, by first | (left; intro h; cases h) | (right; rfl), by first | exact (fun _ h => ⟨_, h⟩) | exact (fun _ _ => ⟨_, rfl⟩) | (intro _ h; cases h)⟩, ?_⟩), rfl⟩

end Go.Proofs.Ytfdpigafekohgaa

/- The front of an own array kept; the rest of one cleared. -/
namespace Go.Proofs.Ytfdpigafekohgaa
open Go.RowKit
set_option linter.unusedVariables false

theorem zeroCells_list (c : Array Value) (h0 : 0 < c.size) : ∀ n, (Builtin.zeroCells c n).toList = (List.replicate n c.toList).flatten := fun n => by
  apply List.ext_getElem?
  intro i
  have hl : (Builtin.zeroCells c n).toList.length = n * c.size := by rw [Array.length_toList, size_zeroCells]
  have key : ∀ (n i : Nat), i < n * c.size → ((List.replicate n c.toList).flatten)[i]? = c.toList[i % c.size]? := fun n => by
    induction n with
    | zero => intro i hi; omega
    | succ n ih =>
      intro i hi
      rw [List.replicate_succ, List.flatten_cons]
      rcases Nat.lt_or_ge i c.size with h | h
      · rw [List.getElem?_append_left (by simpa using h), Nat.mod_eq_of_lt h]
      · rw [List.getElem?_append_right (by simpa using h), Array.length_toList, ih (i - c.size) (by rw [Nat.add_mul] at hi; omega), Nat.mod_eq_sub_mod h]
  have hl2 : ((List.replicate n c.toList).flatten).length = n * c.size := by simp
  by_cases hi : i < n * c.size
  · rw [key n i hi]
    have hm : i % c.size < c.size := Nat.mod_lt _ h0
    simp only [Builtin.zeroCells, Array.toList_map, Array.toList_range, List.getElem?_map, List.getElem?_range hi, Option.map_some]
    rw [getElem!_pos c _ hm]
    simp [hm]
  · rw [List.getElem?_eq_none (by omega), List.getElem?_eq_none (by omega)]
theorem run_clear_zero {P : Program} (w : World) (t e ty : TypeId) (z : Value) (k : Nat) (ht : P.underlying t = some (.slice e)) (hv : ∀ w : World, (Go.zeroValue e).run P w = .ok z w) (hzk : z.cells.size = k) (hk0 : 0 < k) (h1 : ∀ u ∈ z.cells.toList, u.oneCell' = true) (g o n c : Nat) (hn : 0 < n) (cur : Array Value) (t0 : TypeId)
    (hg : w.heap[g]? = some (.cells cur t0 (0, 0))) (hfit : o + n * k ≤ cur.size) :
    (Builtin.clear_ #[t] ty #[.slice (some ⟨g, o, none⟩) n c]).run P w = .ok (.tuple #[]) (w.setRow g (cur.toList.take o ++ (List.replicate n z.cells.toList).flatten ++ cur.toList.drop (o + n * k)).toArray) := by
  have hzl : (Builtin.zeroCells z.cells n).toList.length = n * k := by rw [Array.length_toList, size_zeroCells, hzk]
  have hzz := zeroCells_list z.cells (by omega) n
  have hz1 : ∀ v ∈ (Builtin.zeroCells z.cells n).toList, v.oneCell' = true := fun v hm => by
    rw [hzz] at hm
    obtain ⟨l, hl, hvl⟩ := List.mem_flatten.1 hm
    rw [List.eq_of_mem_replicate hl] at hvl
    exact h1 v hvl
  have hst := run_storeCells_at P g o t0 (Builtin.zeroCells z.cells n).toList 0 cur w hg (by rw [hzl]; simpa using hfit) hz1
  simp only [Nat.add_zero, hzl] at hst
  obtain ⟨m, rfl⟩ : ∃ m, n = m + 1 := ⟨n - 1, by omega⟩
  rw [← hzz]
  simp [Builtin.clear_, run_underlying ht, hv, hst]
theorem FR.zeros {α : Type} {e : Enc α} {f : α → List Cell} [hc : CellsOf e f] {w : World} {zs : List Value} {x' : α} (h : e.rep w zs x' []) : ∀ n, FR w (List.replicate n zs).flatten ((List.replicate n x').flatMap f) []
  | 0 => rfl
  | n + 1 => by
    rw [List.replicate_succ, List.flatten_cons, List.replicate_succ, List.flatMap_cons]
    exact FR.app.2 ⟨zs, _, [], [], rfl, rfl, hc.iff.1 h, FR.zeros h n⟩
section ops
variable {P : Program} {N : Nat} {s : St} {d : Nat} {ty : TypeId} {pos : String} {after : Array Edge} {gd : Option (Nat × Bool)}
/-- s[:h] of an own array, under a new number. -/
theorem x_cut {α : Type} {e : Enc α} {f : α → List Cell} [hc : CellsOf e f] {xs : List α} {T E n h K : Nat} {x : Operand} {hi : Option Operand} {rh : List (Nat × AVal)} (k' : Nat) (hN : Nat.blt d N = true) (hx : evo s.t x = some (.one (.own K))) (hl : lkl s.l K = some (.arr E e xs false)) (hT : sliceT P T = some (E, n)) (hz : e.size = n)
    (hh : OB s.t xs.length hi rh h) (hk : lk s.l k' = none) (hi' : noId k' s.ids = true) (h2 : h ≤ xs.length) :
    Stp P N ⟨some d, .slice T x none hi none, ty, pos, after, gd⟩ s ⟨(d, .one (.own k')) :: s.t, (k', some (.arr E e (xs.take h) false)) :: (gones [K] ++ s.l)⟩ ⟨rdo x (.one (.own K)) ++ rh, [(K, .arr E e xs false)], [(d, .one (.own k'))], (k', some (.arr E e (xs.take h) false)) :: gones [K], [k']⟩ := by
  refine ⟨fun K' g s' a w hp r => ?_, ⟨fun p hp => (List.mem_append.1 hp).elim (rdo_of hx p) (hh.rd p), by simp [hl], fun j hj => by simp at hj; subst hj; exact ⟨hk, noId_of hi'⟩⟩, by simp [Cert.upd]⟩
  obtain ⟨p1, p2, p3⟩ := hp
  have hK : lkl s'.l K = some (.arr E e xs false) := p2 (K, .arr E e xs false) (by simp)
  have e1 : a.eval x = g.hd K := (eval_ok r (evs_of hx) fun p hp => p1 p (List.mem_append_left _ hp) : CellR g s'.l w _ (.own K)) _ _ _ _ _ hK
  have q2 := hh.ev r fun p hp => p1 p (List.mem_append_right _ hp)
  obtain ⟨n1, n2⟩ := p3 k' (by simp)
  obtain ⟨cells, b1, r1, f1, i1, F1, ob1⟩ := (r.mem.arr K _ _ _ _ _ hK).row
  obtain ⟨c1, c3, rfl, f2, _⟩ := FR.parts (e := e) f1 h2
  have hgone : ∀ i ∈ [K], ∃ (α : Type) (T : TypeId) (e : Enc α) (xs : List α) (d : Bool), lkl s'.l i = some (.arr T e xs d) := fun i hi => by
    simp at hi
    subst hi
    exact ⟨α, E, e, xs, false, hK⟩
  have hlen : (xs.take h).length = h := by simp; omega
  have hcl : (cells.take (h * e.size)).length = h * e.size := by rw [List.length_take, r1.1, Nat.min_eq_left (Nat.mul_le_mul_right _ h2)]
  have : ∃ v', (execOp a.eval ⟨some d, .slice T x none hi none, ty, pos, after, gd⟩).run P w = .ok (.value v') w ∧ w.ownsRow 0 E e.size v' (h + 0) (cells.take (h * e.size) ++ []) ∧ ∀ b, v'.ownBlock = some b → (g.hd K).ownBlock = some b := by
    rcases r1.2 with ⟨hnil, h0⟩ | ⟨b, cap, cur, hv, _, hb, hle, hcap, hsz, htk⟩
    · have : h = 0 := by omega
      subst this
      have hrun := run_sliceOf hT w none 0 0 (lo := none) (.inl ⟨rfl, rfl⟩) (by rw [h0] at q2; exact q2) (Nat.le_refl 0) (Nat.le_refl 0)
      exact ⟨.slice none 0 0, by simp only [execOp, e1, hnil, Sem.run_bind, Option.map_none, hrun, Result.andThen_ok, Sem.run_pure]; rfl, ⟨by simp, .inl ⟨rfl, rfl⟩⟩, fun b hb => by cases hb⟩
    · have hrun := run_sliceOf hT w (some ⟨b, 0, none⟩) xs.length cap (lo := none) (.inl ⟨rfl, rfl⟩) q2 (Nat.zero_le h) (by omega)
      have ea : (if cap = 0 then (some ⟨b, 0, none⟩ : Option Addr) else (some ⟨b, 0, none⟩ : Option Addr).map (·.add (0 * n))) = some ⟨b, 0, none⟩ := by
        split
        · rfl
        · simp [addr_add]
      rw [ea] at hrun
      refine ⟨_, by simp only [execOp, e1, hv, Sem.run_bind, Option.map_none, hrun, Result.andThen_ok, Sem.run_pure]; rfl, ⟨by simp [hcl], .inr ⟨b, cap, cur, by simp, Nat.zero_le _, hb, by omega, hcap, hsz, ?_⟩⟩, fun b' hb' => by rw [hv]; exact hb'⟩
      rw [List.append_nil, Nat.add_zero, ← htk, List.take_take, Nat.min_eq_left (Nat.mul_le_mul_right _ h2)]
  obtain ⟨v', hrun, hrow, hown⟩ := this
  obtain ⟨g', s1, s2, s3, s4, s5, s6⟩ := app_lay (w' := w) r.mem n1 (fun h => n2 (List.mem_append_right _ h)) (js := [K]) (List.mem_cons_self ..) hgone (E := E) (e := e) (xs := xs.take h) (ys := []) (d := false) (news := []) (b2 := []) f2 (by rfl)
    (fun b hb => i1 b (by simp at hb; simp [hb])) ob1 (by rw [hlen]; exact hrow) ⟨rfl, rfl, rfl, Nat.le_refl _, fun _ _ _ => rfl⟩ (fun b hb => .inl (hown b hb)) (fun hd => by cases hd)
  rw [List.append_nil] at s2 s3 s6
  unfold Oper.wp
  rw [hrun, Oper.upon_value]
  refine ⟨g', r.next (blt_lt hN) s4 s5 (Nat.le_refl _) (fun j hj => s6 j fun e => n2 (e ▸ hj)) (fun β U e2 ys dd hc => ?_) s2, s3 K'⟩
  exact s1.symm
/-- clear(s[l0:]) of an own array. -/
theorem x_clear {α : Type} {e : Enc α} {f : α → List Cell} [hc : CellsOf e f] {xs : List α} {T E n K l0 n0 : Nat} {x : Operand} {z : Value} (x' : α) (h : evo s.t x = some (.one (.osl K l0 n0))) (hl : lkl s.l K = some (.arr E e xs false)) (hT : sliceT P T = some (E, n)) (hz : e.size = n) (h0 : 0 < n)
    (hv : ∀ w : World, (Go.zeroValue E).run P w = .ok z w) (hx' : ∀ w, e.rep w z.cells.toList x' []) (hn0 : 0 < n0) (hb : l0 + n0 = xs.length) :
    Stp P N ⟨none, .call { callee := .builtin .clear, args := #[x], argTypes := #[T] }, ty, pos, after, gd⟩ s ⟨s.t, (K, some (.arr E e (xs.take l0 ++ List.replicate n0 x') false)) :: s.l⟩ ⟨rdo x (.one (.osl K l0 n0)), [(K, .arr E e xs false)], [], [(K, some (.arr E e (xs.take l0 ++ List.replicate n0 x') false))], []⟩ := by
  refine ⟨fun K' g s' a w hp r => ?_, ⟨rdo_of h, by simp [hl], by simp⟩, by simp [Cert.upd]⟩
  obtain ⟨p1, p2, _⟩ := hp
  have hK : lkl s'.l K = some (.arr E e xs false) := p2 (K, .arr E e xs false) (by simp)
  obtain ⟨hu, ii, hii, hnn⟩ := sliceT_spec hT
  rcases (eval_ok r (evs_of h) fun p hp => p1 p hp : CellR g s'.l w _ (.osl K l0 n0)) _ _ _ _ _ hK with ⟨f1, f2, f3, f4⟩ | ⟨len, cap, off, f1, f2, f3, f4, f5⟩
  · omega
  have hlv : g.hd K ≠ .slice none 0 0 := by rw [f1]; intro e; cases e
  obtain ⟨cells, b1, r1, g1, i1, F1, ob1⟩ := (r.mem.arr K _ _ _ _ _ hK).row
  obtain ⟨c1, c3, rfl, g2, _⟩ := FR.parts (e := e) g1 (i := l0) (by omega)
  rcases r1.2 with ⟨hnil, hl0⟩ | ⟨b, cap', cur, hv', _, hbk, hle, hcap, hsz, htk⟩
  · omega
  rw [f1] at hv'
  cases hv'
  have hlt : l0 < cap := by omega
  have hoff := f5 hlt
  subst hoff
  subst hz
  have hzl : z.cells.toList.length = e.size := e.len (hx' w)
  have hzs : z.cells.size = e.size := by rw [← Array.length_toList]; exact hzl
  have hz1 : ∀ u ∈ z.cells.toList, u.oneCell' = true := FR.one (hc.iff.1 (hx' w))
  have hsum : l0 * e.size + n0 * e.size = xs.length * e.size := by rw [← Nat.add_mul, hb]
  have hfit : l0 * e.size + n0 * e.size ≤ cur.size := by
    rw [hsum, hsz]; exact Nat.mul_le_mul_right _ hle
  have hrun := run_clear_zero (P := P) w T E ty z e.size hu hv hzs h0 hz1 (g.ρ K) (l0 * e.size) n0 (cap - l0) hn0 cur E hbk hfit
  generalize hnew : (cur.toList.take (l0 * e.size) ++ (List.replicate n0 z.cells.toList).flatten ++ cur.toList.drop (l0 * e.size + n0 * e.size)).toArray = new at *
  have hfl : ((List.replicate n0 z.cells.toList).flatten).length = n0 * e.size := by simp [hzs]
  have hns : new.size = cur.size := by rw [← hnew]; simp [hzs]; omega
  have hwk : (w.setRow (g.ρ K) new).heap[g.ρ K]? = some (.cells new E (0, 0)) := setRow_heap w _ _ _ E _ hbk
  have hwo : ∀ b, b ≠ g.ρ K → (w.setRow (g.ρ K) new).heap[b]? = w.heap[b]? := fun b hb => setRow_other w _ b _ hb
  have hsw : (w.setRow (g.ρ K) new).heap.size = w.heap.size := by simp
  have hnI := r.mem.notI hK hlv
  have hne : ∀ b, g.I b → b ≠ g.ρ K := fun b hb eq => hnI (eq ▸ hb)
  have hF2 : FR w (cells.take (l0 * e.size) ++ (List.replicate n0 z.cells.toList).flatten) ((xs.take l0 ++ List.replicate n0 x').flatMap f) (c1 ++ []) := by
    rw [List.flatMap_append]
    exact FR.app.2 ⟨_, _, _, _, rfl, rfl, g2, FR.zeros (hx' w) n0⟩
  rw [List.append_nil] at hF2
  have hIc : ∀ b ∈ c1, g.I b := fun b hb => i1 b (List.mem_append_left _ hb)
  have hF3 := hF2.keep (w' := w.setRow (g.ρ K) new) (fun b hb => hwo b (hne b (hIc b hb))) (Nat.le_of_eq hsw.symm)
  have hln : (xs.take l0 ++ List.replicate n0 x').length = xs.length := by simp; omega
  obtain ⟨g', q1, q2, q3, q4, q5, q6, q7⟩ := arr_put (w' := w.setRow (g.ρ K) new) r.mem hK hlv (js := []) (by simp) (fun j hj => by cases hj) (xs := xs.take l0 ++ List.replicate n0 x') (d := false) (fp := c1) rfl rfl rfl hsw hwo
    (ArrR.ofRow (g := ⟨fun b => g.I b ∨ liveA g [] b, g.ρ, g.hd, setAt g.F K c1⟩) (e := e) (f := f) (cells := cells.take (l0 * e.size) ++ (List.replicate n0 z.cells.toList).flatten) (bs := c1) (by
      rw [hln]
      refine ⟨?_, .inr ⟨g.ρ K, cap, new, f1, Nat.zero_le _, hwk, hle, hcap, by rw [hns, hsz], ?_⟩⟩
      · rw [List.length_append, hfl, List.length_take, r1.1, Nat.min_eq_left (by omega)]; exact hsum
      · rw [← hnew]
        show (List.take _ (_ ++ _ ++ _)) = _
        rw [List.take_left' (by rw [List.length_append, hfl, List.length_take, Array.length_toList, Nat.min_eq_left (by omega)]; exact hsum), ← htk, List.take_take, Nat.min_eq_left (by omega)]) hF3 (fun b hb => .inl (hIc b hb)) (fun hd => by cases hd) fun b hb => ⟨ob1 b hb, fun hI => by
        rcases hI with hI | ⟨j, hj, _⟩
        · rw [ob1 b hb] at hI; exact hnI hI
        · cases hj⟩) (fun hd => by cases hd)
  have hr : (execOp a.eval ⟨none, .call { callee := .builtin .clear, args := #[x], argTypes := #[T] }, ty, pos, after, gd⟩).run P w = .ok (.value (.tuple #[])) (w.setRow (g.ρ K) new) := by
    simp only [execOp, resolve, invoke, builtin, Sem.run_bind, Sem.run_pure, Result.andThen_ok, List.map_toArray, List.map_cons, List.map_nil, f2, hrun]
  unfold Oper.wp
  rw [hr, Oper.upon_value]
  exact ⟨g', r.next0 q5 q6 (Nat.le_of_eq hsw.symm) (fun j _ => q7 j) q3, q4 K'⟩
end ops
end Go.Proofs.Ytfdpigafekohgaa

/- An own array under another number; places of covering matches. -/
namespace Go.Proofs.Ytfdpigafekohgaa
open Go.RowKit
set_option linter.unusedVariables false

section
variable {P : Program} {N : Nat} {K : List Nat} {Kn : St → Prop} {Q : Exit → St → Prop} {s : St}
/-- The own array k in slot t is called k' from here on. -/
theorem AW_move {α : Type} {T : TypeId} {e : Enc α} {f : α → List Cell} [hc : CellsOf e f] {xs : List α} {dp : Bool} {c : Code} (k k' t : Nat) (ht : lk s.t t = some (.one (.own k))) (hk : lkl s.l k = some (.arr T e xs dp)) (hk' : lk s.l k' = none) (hi' : noId k' s.ids = true)
    (h : AW P N K c Kn Q ⟨(t, .one (.own k')) :: s.t, (k', some (.arr T e xs dp)) :: (gones [k] ++ s.l)⟩) : AW P N K c Kn Q s := fun g a w r => by
  have n2 := noId_of hi'
  obtain ⟨cells, b1, r1, f1, i1, F1, ob1⟩ := (r.mem.arr k _ _ _ _ _ hk).row
  have hgone : ∀ i ∈ [k], ∃ (α : Type) (T : TypeId) (e : Enc α) (xs : List α) (d : Bool), lkl s.l i = some (.arr T e xs d) := fun i hi => by
    simp at hi
    subst hi
    exact ⟨α, T, e, xs, dp, hk⟩
  obtain ⟨g', s1, s2, s3, s4, s5, s6⟩ := app_lay (w' := w) r.mem hk' (fun h => n2 (List.mem_append_right _ h)) (js := [k]) (List.mem_cons_self ..) hgone (E := T) (e := e) (xs := xs) (ys := []) (d := dp) (cells := cells) (news := []) (b1 := b1) (b2 := []) f1 (by rfl)
    (fun b hb => i1 b (by simpa using hb)) ob1 (by simpa using r1) ⟨rfl, rfl, rfl, Nat.le_refl _, fun _ _ _ => rfl⟩ (fun b hb => .inl hb) (fun hd => by
      rw [List.append_nil]
      refine ⟨by rw [← F1 hd]; subst hd; exact (r.mem.fr k _ _ _ _ hk).1, fun b hb => ⟨k, by simp, α, T, e, xs, by subst hd; exact hk, .inr (by rw [F1 hd]; exact hb)⟩⟩)
  rw [List.append_nil] at s2 s3 s6
  have r1' := r.next0 (g' := g') (w' := w) s4 s5 (Nat.le_refl _) (fun j hj => s6 j fun e => n2 (e ▸ hj)) s2
  have hv : a.tmps.getD t undef = g.hd k := (r.tmp t _ ht : CellR g s.l w _ (.own k)) _ _ _ _ _ hk
  have r2 : Rep N g' ⟨(t, .one (.own k')) :: s.t, (k', some (.arr T e xs dp)) :: (gones [k] ++ s.l)⟩ a w := ⟨r1'.size, r1'.defers, fun j x hj => by
    by_cases hjt : t = j
    · subst hjt
      rw [lk_cons_self] at hj; cases hj
      exact fun β U e2 ys dd hcx => by rw [hv, ← s1]
    · rw [lk_cons_ne hjt] at hj
      exact r1'.tmp j x hj, s2⟩
  exact Go.wp_mono (h g' a w r2) fun e a1 w1 h1 => h1.trans r.mem s2 (s3 K)
end
theorem boxesOnly_nil : ∀ k b, lkl [] k = some b → ∃ cs, b = Blk.box cs := fun k b h => by simp [lkl, lk] at h
theorem boxesOnly_cons {j : Nat} {cs : List Cell} {l : Locs} (h : ∀ k b, lkl l k = some b → ∃ cs, b = Blk.box cs) : ∀ k b, lkl ((j, some (.box cs)) :: l) k = some b → ∃ cs, b = Blk.box cs := fun k b hk => by
  by_cases e : j = k
  · subst e; rw [lkl_cons_self] at hk; cases hk; exact ⟨_, rfl⟩
  · rw [lkl_cons_ne e] at hk; exact h k b hk
end Go.Proofs.Ytfdpigafekohgaa

/- Entries of one epoch (printed by walk.py) -/
namespace Go.Proofs.Ytfdpigafekohgaa
open Go.RowKit
set_option linter.unusedVariables false
set_option linter.unusedSimpArgs false
set_option maxRecDepth 100000

set_option maxHeartbeats 4000000 in
theorem outC_c (x : Entryt) (ep : Int) : AC Try.prog 120 [.agg (entryC x), .one (.ptr 200 0)] [(200, some (.box [.c (.int .i64 ep)]))] (.one (.c (.bool (outB ep x)))) [(200, some (.box [.c (.int .i64 ep)]))] := by
  refine AC_body1 Try.func120 rfl rfl Try.ntmps120 rfl Try.results120 ?_
  refine AW_seq ?_
  refine AW_region ?_
  refine AL_p (x_box 100 rfl rfl rfl rfl rfl rfl rfl) ?_
  refine AL_p (x_assign rfl rfl) ?_
  refine AL_nil ?_
  refine AW_seq ?_
  refine AW_region ?_
  refine AL_p (x_field (off := 0) (o' := 0) rfl rfl rfl (by kernel_rfl) rfl) ?_
  refine AL_p (x_load1 rfl rfl rfl (by kernel_rfl) rfl) ?_
  refine AL_p (x_load1 rfl rfl rfl (by kernel_rfl) rfl) ?_
  refine AL_b (x_neq rfl rfl rfl) (fun b7 h7 => ?_)
  refine AL_p (x_assign rfl rfl) ?_
  refine AL_nil ?_
  refine AW_ret ?_
  cases b7
  rotate_left
  · try simp only [tdy] at h7
    exact ⟨rn [], ⟨⟨⟨_, rfl, vle_bool (by (unfold outB; symm; first | assumption | simp [*] | grind))⟩, trivial⟩, ⟨⟨_, rfl, BLe.rf⟩, trivial⟩, by repeat (first | exact trivial | refine ⟨⟨rfl, by first | (left; intro h; cases h) | (right; rfl), by first | exact (fun _ h => ⟨_, h⟩) | exact (fun _ _ => ⟨_, rfl⟩) | (intro _ h; cases h)⟩, ?_⟩), rfl⟩⟩
  try simp only [tdy] at h7
  exact ⟨rn [], ⟨⟨⟨_, rfl, vle_bool (by (unfold outB; symm; first | assumption | simp [*] | grind))⟩, trivial⟩, ⟨⟨_, rfl, BLe.rf⟩, trivial⟩, by repeat (first | exact trivial | refine ⟨⟨rfl, by first | (left; intro h; cases h) | (right; rfl), by first | exact (fun _ h => ⟨_, h⟩) | exact (fun _ _ => ⟨_, rfl⟩) | (intro _ h; cases h)⟩, ?_⟩), rfl⟩⟩

set_option maxHeartbeats 4000000 in
theorem outIx_c (us : List (Raw Entryt)) (ep : Int) (hl : us.length ≤ 1048576) : AC Try.prog 96 [.one (.own 0), .one (.clo 120 [200])] [(0, some (.arr 74 (rawE entryE) (us) false)), (200, some (.box [.c (.int .i64 ep)]))] (.one (.c (.int .i64 (firstIdx (fun r : Raw Entryt => outB ep r.x) us)))) [(0, some (.arr 74 (rawE entryE) (us) false)), (200, some (.box [.c (.int .i64 ep)]))] := by
  refine AC_body1 Try.func96 rfl rfl Try.ntmps96 rfl Try.results96 ?_
  refine AW_seq ?_
  refine AW_region ?_
  refine AL_p (x_assign rfl rfl) ?_
  refine AL_nil ?_
  refine AW_seq ?_
  refine AW_seq ?_
  refine AW_region ?_
  refine AL_p (x_move rfl rfl) ?_
  refine AL_p (x_olen (E := 74) (n := 6) rfl rfl rfl (by kernel_rfl)) ?_
  refine AL_p (x_move rfl rfl) ?_
  refine AL_nil ?_
  refine AW_block ?_
  refine AW_loop2 (ι := {q : Nat // q ≤ us.length ∧ NoneTo (fun r : Raw Entryt => outB ep r.x) us q}) (fun p => [(8, .one (.c (.int .i64 ((p.1) : Int))))]) (fun p => []) [0, 1, 7] [0, 200] (fun p => us.length - (p.1)) ⟨0, ⟨by omega, .zero⟩⟩ (rn []) ?_ ?_
  exact ⟨by (repeat refine ⟨⟨_, rfl, by first | exact VLe.rf | exact vle_int (by dsimp only; omega)⟩, ?_⟩); exact trivial, by (repeat refine ⟨⟨_, rfl, by first | exact BLe.rf | exact BLe.box AllC.rf | exact BLe.arr (by exact rfl)⟩, ?_⟩); exact trivial, by repeat (first | exact trivial | refine ⟨⟨rfl, by first | (left; intro h; cases h) | (right; rfl), by first | exact (fun _ h => ⟨_, h⟩) | exact (fun _ _ => ⟨_, rfl⟩) | (intro _ h; cases h)⟩, ?_⟩), rfl⟩
  rintro ⟨k, hinv⟩
  dsimp only
  obtain ⟨hk, hn⟩ := hinv
  have hk : k ≤ us.length := hk
  refine AW_seq ?_
  refine AW_region ?_
  refine AL_b (x_lss rfl rfl rfl) (fun b9 h9 => ?_)
  refine AL_nil ?_
  refine AW_seq ?_
  cases b9
  · try simp only [tdy] at h9
    obtain rfl : k = us.length := by omega
    have hno : firstIdx (fun r : Raw Entryt => outB ep r.x) us = -1 := hn.none
    refine AW_condF rfl ?_
    refine AW_exit (BQ_hit ?_)
    refine AW_seq ?_
    refine AW_region ?_
    refine AL_p (x_assign rfl rfl) ?_
    refine AL_nil ?_
    refine AW_ret ?_
    exact ⟨rn [], ⟨⟨⟨_, rfl, vle_int (by rw [hno])⟩, trivial⟩, ⟨⟨_, rfl, BLe.rf⟩, ⟨_, rfl, BLe.rf⟩, trivial⟩, by repeat (first | exact trivial | refine ⟨⟨rfl, by first | (left; intro h; cases h) | (right; rfl), by first | exact (fun _ h => ⟨_, h⟩) | exact (fun _ _ => ⟨_, rfl⟩) | (intro _ h; cases h)⟩, ?_⟩), rfl⟩⟩
  try simp only [tdy] at h9
  refine AW_condT rfl ?_
  refine AW_skip ?_
  refine AW_seq ?_
  refine AW_block ?_
  refine AW_seq ?_
  refine AW_region ?_
  refine AL_p (x_move rfl rfl) ?_
  refine AL_p (x_assign rfl rfl) ?_
  refine AL_nil ?_
  refine AW_seq ?_
  refine AW_region ?_
  refine AL_p (x_move rfl rfl) ?_
  refine AL_p (x_move rfl rfl) ?_
  refine AL_p (x_move rfl rfl) ?_
  refine AL_p (x_oindex (n := 6) rfl rfl rfl rfl (by kernel_rfl) rfl (k := k) rfl (by omega)) ?_
  refine AL_p (x_oloadN (n := 6) rfl rfl rfl (by kernel_rfl) (by omega) rfl rfl) ?_
  refine AL_bc (x_call (ks := [200]) (L := [(200, some (.box [.c (.int .i64 ep)]))]) (L' := [(200, some (.box [.c (.int .i64 ep)]))]) rfl rfl rfl (outC_c ((us[k]'(by omega))).x ep) rfl ⟨V1Le.agg ⟨CLe.rx rfl, CLe.rx rfl, CLe.rx rfl, CLe.rx rfl, CLe.rx rfl, CLe.rx rfl, trivial⟩, V1Le.rf, trivial⟩ (caught_of rfl) rfl rfl rfl (by repeat (first | exact trivial | refine ⟨rfl, ?_⟩)) rfl) (fun b16 h16 => ?_)
  refine AL_nil ?_
  cases b16
  · try simp only [tdy] at h16
    refine AW_condF rfl ?_
    refine AW_skip ?_
    refine AW_region ?_
    refine AL_p (x_add rfl rfl rfl (IntWalk.i64_in _ (by omega))) ?_
    refine AL_p (x_move rfl rfl) ?_
    refine AL_nil ?_
    refine ⟨⟨k + 1, ⟨by omega, hn.succ (by omega) h16⟩⟩, rn [], ?_, by dsimp only; omega⟩
    exact ⟨by (repeat refine ⟨⟨_, rfl, by first | exact VLe.rf | exact vle_int (by dsimp only; omega)⟩, ?_⟩); exact trivial, by (repeat refine ⟨⟨_, rfl, by first | exact BLe.rf | exact BLe.box AllC.rf | exact BLe.arr (by exact rfl)⟩, ?_⟩); exact trivial, by repeat (first | exact trivial | refine ⟨⟨rfl, by first | (left; intro h; cases h) | (right; rfl), by first | exact (fun _ h => ⟨_, h⟩) | exact (fun _ _ => ⟨_, rfl⟩) | (intro _ h; cases h)⟩, ?_⟩), rfl⟩
  try simp only [tdy] at h16
  have hno : firstIdx (fun r : Raw Entryt => outB ep r.x) us = (k : Int) := firstIdx_at (by omega) (fun j hj hjk => hn j hj hjk) h16
  refine AW_condT rfl ?_
  refine AW_seq ?_
  refine AW_region ?_
  refine AL_p (x_move rfl rfl) ?_
  refine AL_p (x_assign rfl rfl) ?_
  refine AL_nil ?_
  refine AW_ret (BQ_ret (BQ_ret ?_))
  exact ⟨rn [], ⟨⟨⟨_, rfl, vle_int (by rw [hno])⟩, trivial⟩, ⟨⟨_, rfl, BLe.rf⟩, ⟨_, rfl, BLe.rf⟩, trivial⟩, by repeat (first | exact trivial | refine ⟨⟨rfl, by first | (left; intro h; cases h) | (right; rfl), by first | exact (fun _ h => ⟨_, h⟩) | exact (fun _ _ => ⟨_, rfl⟩) | (intro _ h; cases h)⟩, ?_⟩), rfl⟩⟩

set_option maxHeartbeats 4000000 in
theorem outDel_c (us : List (Raw Entryt)) (ep : Int) (hl : us.length ≤ 1048576) : AC Try.prog 142 [.one (.own 0), .one (.clo 120 [200])] [(0, some (.arr 74 (rawE entryE) (us) false)), (200, some (.box [.c (.int .i64 ep)]))] (.one (.own 1)) [(0, none), (1, some (.arr 74 (rawE entryE) ((keepR (fun x => outB ep x) us us.length)) false)), (200, some (.box [.c (.int .i64 ep)]))] := by
  refine AC_body1 Try.func142 rfl rfl Try.ntmps142 rfl Try.results142 ?_
  refine AW_seq ?_
  refine AW_region ?_
  refine AL_p (x_assign rfl rfl) ?_
  refine AL_nil ?_
  refine AW_seq ?_
  refine AW_region ?_
  refine AL_p (x_move rfl rfl) ?_
  refine AL_p (x_move rfl rfl) ?_
  refine AL_p (x_call (ks := []) (L := [(0, some _), (200, some (.box [.c (.int .i64 ep)]))]) (L' := [(0, some _), (200, some (.box [.c (.int .i64 ep)]))]) rfl rfl rfl (outIx_c us ep hl) rfl AllV.rf (caught_of rfl) rfl rfl rfl ⟨rfl, rfl, trivial⟩ rfl) ?_
  refine AL_p (x_assign rfl rfl) ?_
  refine AL_nil ?_
  refine AW_seq ?_
  refine AW_seq ?_
  refine AW_region ?_
  refine AL_p (x_move rfl rfl) ?_
  refine AL_b (x_eql rfl rfl rfl) (fun b12 h12 => ?_)
  refine AL_nil ?_
  cases b12
  rotate_left
  · try simp only [tdy] at h12
    have hnone : ∀ j (hj : j < us.length), outB ep us[j].x = false := firstIdx_not h12
    refine AW_condT rfl ?_
    refine AW_seq ?_
    refine AW_region ?_
    refine AL_p (x_move rfl rfl) ?_
    refine AL_p (x_assign rfl rfl) ?_
    refine AL_nil ?_
    refine AW_move 0 1 4 rfl rfl rfl rfl ?_
    refine AW_ret ?_
    exact ⟨rn [(1, 1)], ⟨⟨⟨_, rfl, VLe.rf⟩, trivial⟩, ⟨⟨_, rfl, by first | exact BLe.arr (keepR_none hnone) | exact BLe.arr (keepA_end (by omega) (by omega))⟩, ⟨_, rfl, BLe.rf⟩, trivial⟩, by repeat (first | exact trivial | refine ⟨⟨rfl, by first | (left; intro h; cases h) | (right; rfl), by first | exact (fun _ h => ⟨_, h⟩) | exact (fun _ _ => ⟨_, rfl⟩) | (intro _ h; cases h)⟩, ?_⟩), rfl⟩⟩
  try simp only [tdy] at h12
  have hx1 := (firstIdx_is (p := (fun r : Raw Entryt => outB ep r.x)) (xs := us) h12).1
  have hx3 := firstIdx_lt (p := (fun r : Raw Entryt => outB ep r.x)) (xs := us) h12
  have hx := firstIdx_rest (p := (fun r : Raw Entryt => outB ep r.x)) (xs := us) h12 hx3
  have hx2 := keepR_hit (p := fun x => outB ep x) (us := us) hx3 hx.1 hx.2
  have hx4 := hx2.1
  refine AW_condF rfl ?_
  refine AW_skip ?_
  refine AW_seq ?_
  refine AW_seq ?_
  refine AW_slot (t := 5) (y := .one (.c (.int .i64 ((firstIdx (fun r : Raw Entryt => outB ep r.x) us).toNat : Int)))) rfl (by rw [Int.toNat_of_nonneg (by omega)]) ?_
  refine AW_region ?_
  refine AL_p (x_move rfl rfl) ?_
  refine AL_p (x_add rfl rfl rfl (IntWalk.i64_in _ (by omega))) ?_
  refine AL_p (x_assign rfl rfl) ?_
  refine AL_nil ?_
  refine AW_block ?_
  refine AW_loop2 (ι := {q : Nat // (0 < q ∧ q ≤ us.length) ∧ (keepR (fun x => outB ep x) us q).length < q}) (fun p => [(5, .one (.c (.int .i64 ((keepR (fun x => outB ep x) us (p.1)).length : Int)))), (6, .one (.c (.int .i64 ((p.1) : Int))))]) (fun p => [(0, some (.arr 74 (rawE entryE) (keepA (fun x => outB ep x) us (p.1)) false))]) [0, 1] [200] (fun p => us.length - (p.1)) ⟨(firstIdx (fun r : Raw Entryt => outB ep r.x) us).toNat + 1, ⟨by omega, by omega⟩⟩ (rn []) ?_ ?_
  exact ⟨by (repeat refine ⟨⟨_, rfl, by first | exact VLe.rf | exact vle_int (by dsimp only; omega)⟩, ?_⟩); exact trivial, by (repeat refine ⟨⟨_, rfl, by first | exact BLe.rf | exact BLe.box AllC.rf | exact BLe.arr (by first | exact hx2.2 | exact q5.1 | (unfold keepA; rw [q5]))⟩, ?_⟩); exact trivial, by repeat (first | exact trivial | refine ⟨⟨rfl, by first | (left; intro h; cases h) | (right; rfl), by first | exact (fun _ h => ⟨_, h⟩) | exact (fun _ _ => ⟨_, rfl⟩) | (intro _ h; cases h)⟩, ?_⟩), rfl⟩
  rintro ⟨j, hinv⟩
  dsimp only
  obtain ⟨⟨hj0, hj⟩, hul⟩ := hinv
  have hj : j ≤ us.length := hj
  have hln := keepA_len (p := fun x => outB ep x) (us := us) (j := j) hj
  have hlk := keepR_len (p := fun x => outB ep x) (us := us) (j := j)
  refine AW_seq ?_
  refine AW_seq ?_
  refine AW_region ?_
  refine AL_p (x_move rfl rfl) ?_
  refine AL_p (x_move rfl rfl) ?_
  refine AL_p (x_olen (E := 74) (n := 6) rfl rfl rfl (by kernel_rfl)) ?_
  refine AL_b (x_lss rfl rfl rfl) (fun b19 h19 => ?_)
  refine AL_nil ?_
  cases b19
  · try simp only [tdy] at h19
    refine AW_condF rfl ?_
    refine AW_exit (BQ_hit ?_)
    refine AW_seq ?_
    refine AW_region ?_
    refine AL_p (x_move rfl rfl) ?_
    refine AL_p (x_move rfl rfl) ?_
    refine AL_p (x_oslice (n := 6) rfl rfl rfl (by kernel_rfl) rfl (.yes (l := (keepR (fun x => outB ep x) us j).length) rfl rfl) .no (by omega) (by first | exact Nat.le_refl _ | omega)) ?_
    refine AL_p (x_clear (E := 74) (n := 6) (z := .agg #[.int .i64 0, .int .i64 0, .slice none 0 0, .slice none 0 0, .slice none 0 0, .int .i64 0]) zeroEn rfl rfl (by kernel_rfl) rfl (by decide) Try.zeroValue74 zeroEn_rep (by omega) (by omega)) ?_
    refine AL_nil ?_
    refine AW_seq ?_
    refine AW_region ?_
    refine AL_p (x_move rfl rfl) ?_
    refine AL_p (x_move rfl rfl) ?_
    refine AL_p (x_cut (n := 6) (h := (keepR (fun x => outB ep x) us j).length) 1 rfl rfl rfl (by kernel_rfl) rfl (.yes rfl rfl) rfl rfl (by simp [keepA_len hj]; omega)) ?_
    refine AL_p (x_assign rfl rfl) ?_
    refine AL_nil ?_
    refine AW_ret ?_
    exact ⟨rn [(1, 1)], ⟨⟨⟨_, rfl, VLe.rf⟩, trivial⟩, ⟨⟨_, rfl, by first | exact BLe.arr (keepR_none hnone) | exact BLe.arr (keepA_end (by omega) (by omega))⟩, ⟨_, rfl, BLe.rf⟩, trivial⟩, by repeat (first | exact trivial | refine ⟨⟨rfl, by first | (left; intro h; cases h) | (right; rfl), by first | exact (fun _ h => ⟨_, h⟩) | exact (fun _ _ => ⟨_, rfl⟩) | (intro _ h; cases h)⟩, ?_⟩), rfl⟩⟩
  try simp only [tdy] at h19
  refine AW_condT rfl ?_
  refine AW_skip ?_
  refine AW_seq ?_
  refine AW_block ?_
  refine AW_seq ?_
  refine AW_region ?_
  refine AL_p (x_move rfl rfl) ?_
  refine AL_p (x_move rfl rfl) ?_
  refine AL_p (x_oindex (n := 6) rfl rfl rfl rfl (by kernel_rfl) rfl (k := j) rfl (by omega)) ?_
  refine AL_p (x_oloadN (n := 6) rfl rfl rfl (by kernel_rfl) (by omega) rfl rfl) ?_
  refine AL_p (x_alloc (z := .agg #[.int .i64 0, .int .i64 0, .slice none 0 0, .slice none 0 0, .slice none 0 0, .int .i64 0]) 100 rfl (by kernel_rfl) rfl rfl rfl rfl) ?_
  refine AL_p (x_store (n := 6) rfl rfl rfl rfl (by kernel_rfl) rfl rfl rfl) ?_
  refine AL_nil ?_
  refine AW_seq ?_
  refine AW_region ?_
  refine AL_p (x_move rfl rfl) ?_
  refine AL_p (x_loadN (n := 6) rfl rfl rfl (by kernel_rfl) rfl rfl) ?_
  refine AL_bc (x_call (ks := [200]) (L := [(200, some (.box [.c (.int .i64 ep)]))]) (L' := [(200, some (.box [.c (.int .i64 ep)]))]) rfl rfl rfl (outC_c (((keepA (fun x => outB ep x) us j)[j]'(by omega))).x ep) rfl ⟨V1Le.agg ⟨CLe.rx rfl, CLe.rx rfl, CLe.rx rfl, CLe.rx rfl, CLe.rx rfl, CLe.rx rfl, trivial⟩, V1Le.rf, trivial⟩ (caught_of rfl) rfl rfl rfl (by repeat (first | exact trivial | refine ⟨rfl, ?_⟩)) rfl) (fun b28 h28 => ?_)
  refine AL_p (x_not rfl rfl) ?_
  refine AL_nil ?_
  cases b28
  rotate_left
  · try simp only [tdy] at h28
    rw [keepA_at (p := fun x => outB ep x) (us := us) (j := j) (i := j) (by omega) (by omega) (by omega) (by omega)] at h28
    have q5 := keepR_skip (p := fun x => outB ep x) (us := us) (j := j) (by omega) h28
    have q6 : (keepR (fun x => outB ep x) us (j + 1)).length = (keepR (fun x => outB ep x) us j).length := by rw [q5]
    refine AW_condF rfl ?_
    refine AW_skip ?_
    refine AW_region ?_
    refine AL_p (x_move rfl rfl) ?_
    refine AL_p (x_add rfl rfl rfl (IntWalk.i64_in _ (by omega))) ?_
    refine AL_p (x_assign rfl rfl) ?_
    refine AL_nil ?_
    refine ⟨⟨j + 1, ⟨by omega, by rw [q5]; omega⟩⟩, rn [], ?_, by dsimp only; omega⟩
    exact ⟨by (repeat refine ⟨⟨_, rfl, by first | exact VLe.rf | exact vle_int (by dsimp only; omega)⟩, ?_⟩); exact trivial, by (repeat refine ⟨⟨_, rfl, by first | exact BLe.rf | exact BLe.box AllC.rf | exact BLe.arr (by first | exact hx2.2 | exact q5.1 | (unfold keepA; rw [q5]))⟩, ?_⟩); exact trivial, by repeat (first | exact trivial | refine ⟨⟨rfl, by first | (left; intro h; cases h) | (right; rfl), by first | exact (fun _ h => ⟨_, h⟩) | exact (fun _ _ => ⟨_, rfl⟩) | (intro _ h; cases h)⟩, ?_⟩), rfl⟩
  try simp only [tdy] at h28
  rw [keepA_at (p := fun x => outB ep x) (us := us) (j := j) (i := j) (by omega) (by omega) (by omega) (by omega)] at h28
  have q5 := keepA_put (p := fun x => outB ep x) (us := us) (j := j) (by omega) (by omega) h28 (by omega)
  have q6 := q5.2
  refine AW_condT rfl ?_
  refine AW_seq ?_
  refine AW_region ?_
  refine AL_p (x_move rfl rfl) ?_
  refine AL_p (x_move rfl rfl) ?_
  refine AL_p (x_loadN (n := 6) rfl rfl rfl (by kernel_rfl) rfl rfl) ?_
  refine AL_p (x_oindex (n := 6) rfl rfl rfl rfl (by kernel_rfl) rfl (k := (keepR (fun x => outB ep x) us j).length) rfl (by omega)) ?_
  refine AL_p (x_ostore (((keepA (fun x => outB ep x) us j)[j]'(by omega))) rfl rfl rfl rfl (by kernel_rfl) rfl rfl rfl rfl FitL.rf rfl rfl (by omega)) ?_
  refine AL_nil ?_
  refine AW_region ?_
  refine AL_p (x_move rfl rfl) ?_
  refine AL_p (x_add rfl rfl rfl (IntWalk.i64_in _ (by omega))) ?_
  refine AL_p (x_assign rfl rfl) ?_
  refine AL_nil ?_
  refine AW_region ?_
  refine AL_p (x_move rfl rfl) ?_
  refine AL_p (x_add rfl rfl rfl (IntWalk.i64_in _ (by omega))) ?_
  refine AL_p (x_assign rfl rfl) ?_
  refine AL_nil ?_
  refine ⟨⟨j + 1, ⟨by omega, by rw [q5.2]; omega⟩⟩, rn [], ?_, by dsimp only; omega⟩
  exact ⟨by (repeat refine ⟨⟨_, rfl, by first | exact VLe.rf | exact vle_int (by dsimp only; omega)⟩, ?_⟩); exact trivial, by (repeat refine ⟨⟨_, rfl, by first | exact BLe.rf | exact BLe.box AllC.rf | exact BLe.arr (by first | exact hx2.2 | exact q5.1 | (unfold keepA; rw [q5]))⟩, ?_⟩); exact trivial, by repeat (first | exact trivial | refine ⟨⟨rfl, by first | (left; intro h; cases h) | (right; rfl), by first | exact (fun _ h => ⟨_, h⟩) | exact (fun _ _ => ⟨_, rfl⟩) | (intro _ h; cases h)⟩, ?_⟩), rfl⟩

theorem outDel_t (es : List Entryt) (ep : Int) (hl : es.length ≤ 1048576) : AC Try.prog 142 [.one (.own 0), .one (.clo 120 [200])] ((0, some (.arr 74 entryE (es) true)) :: [(200, some (.box [.c (.int .i64 ep)]))]) (.one (.own 1)) ((0, none) :: (1, some (.arr 74 entryE (es.filter fun e => !outB ep e) true)) :: [(200, some (.box [.c (.int .i64 ep)]))]) :=
  AC.rawB (Lb := [(200, some (.box [.c (.int .i64 ep)]))]) (by decide) ⟨_, _, Try.func142, rfl, rfl⟩ (boxesOnly_cons boxesOnly_nil) rfl rfl fun zs hz => ⟨keepR (fun x => outB ep x) zs zs.length, by rw [keepR_map, hz], fun hn => hn.sublist (feet_sub keepR_sub), fun b hb => (feet_sub keepR_sub).subset hb, outDel_c zs ep (by rw [← List.length_map (f := Raw.x), hz]; exact hl)⟩

set_option maxHeartbeats 4000000 in
theorem outWo_c (t : Tablet) (ep : Int) (ht : smallTable t) : AC Try.prog 111 [.agg (tableC t), .one (.clo 120 [200])] [(200, some (.box [.c (.int .i64 ep)]))] (.tup [.agg [.c (.int .i64 t.cap), .own 400], .one (.c (.int .i64 ((t.entries.length : Int) - (((t.entries.filter fun e => !outB ep e).length : Nat) : Int))))]) [(400, some (.arr 74 entryE (t.entries.filter fun e => !outB ep e) true)), (200, some (.box [.c (.int .i64 ep)]))] := by
  have hfl := List.length_filter_le (fun e => !outB ep e) t.entries
  refine AC_bodyCT (n := 2) (k := 9) (T := [(4, .one (.ptr 9 0)), (5, .one (.c (.int .i64 ((t.entries.length : Int) - (((t.entries.filter fun e => !outB ep e).length : Nat) : Int)))))]) (Lf := ((9, some (.box [.c (.int .i64 t.cap), .own 400])) :: [(400, some (.arr 74 entryE (t.entries.filter fun e => !outB ep e) true)), (200, some (.box [.c (.int .i64 ep)]))])) Try.func111 rfl rfl Try.ntmps111 rfl Try.results111 rfl rfl rfl rfl (by kernel_rfl) rfl rfl ⟨trivial, (by repeat (first | exact trivial | refine ⟨⟨_, rfl, BLe.rf⟩, ?_⟩)), (by repeat (first | exact trivial | refine ⟨⟨rfl, by first | (left; intro h; cases h) | (right; rfl), by first | exact (fun _ h => ⟨_, h⟩) | exact (fun _ _ => ⟨_, rfl⟩) | (intro _ h; cases h)⟩, ?_⟩)), rfl⟩ ?_
  refine AW_aggmax 0 1 rfl rfl (fun hm0_1 => ?_)
  refine AW_seq ?_
  refine AW_region ?_
  refine AL_p (x_box 100 rfl rfl rfl rfl rfl rfl rfl) ?_
  refine AL_p (x_alloc (z := .agg #[.int .i64 0, .slice none 0 0]) 101 rfl (by kernel_rfl) rfl rfl rfl rfl) ?_
  refine AL_p (x_assign rfl rfl) ?_
  refine AL_nil ?_
  refine AW_seq ?_
  refine AW_region ?_
  refine AL_p (x_field (off := 1) (o' := 1) rfl rfl rfl (by kernel_rfl) rfl) ?_
  refine AL_p (x_load1 rfl rfl rfl (by kernel_rfl) rfl) ?_
  refine AL_p (x_len (E := 74) (n := 6) rfl rfl (by kernel_rfl)) ?_
  refine AL_p (x_assign rfl rfl) ?_
  refine AL_nil ?_
  refine AW_seq ?_
  refine AW_region ?_
  refine AL_p (x_loadN (n := 2) rfl rfl rfl (by kernel_rfl) rfl rfl) ?_
  refine AL_p (x_call1 rfl rfl rfl (copyTabI_c t ht 0) rfl rfl rfl rfl) ?_
  refine AL_p (x_store (n := 2) rfl rfl rfl rfl (by kernel_rfl) rfl rfl rfl) ?_
  refine AL_nil ?_
  refine AW_seq ?_
  refine AW_region ?_
  refine AL_p (x_field (off := 1) (o' := 1) rfl rfl rfl (by kernel_rfl) rfl) ?_
  refine AL_p (x_load1 rfl rfl rfl (by kernel_rfl) rfl) ?_
  refine AL_p (x_move rfl rfl) ?_
  refine AL_p (x_call (ks := []) (L := [(0, some _), (200, some (.box [.c (.int .i64 ep)]))]) (L' := [(0, none), (1, some _), (200, some (.box [.c (.int .i64 ep)]))]) rfl rfl rfl (outDel_t t.entries ep ht.1) rfl AllV.rf (caught_of rfl) rfl rfl rfl ⟨rfl, rfl, trivial⟩ rfl) ?_
  refine AL_p (x_field (off := 1) (o' := 1) rfl rfl rfl (by kernel_rfl) rfl) ?_
  refine AL_p (x_store (n := 1) rfl rfl rfl rfl (by kernel_rfl) rfl rfl rfl) ?_
  refine AL_nil ?_
  refine AW_seq ?_
  refine AW_draw rfl ?_
  refine AL_p (x_loadN (n := 2) rfl rfl rfl (by kernel_rfl) rfl rfl) ?_
  refine AL_p (x_move rfl rfl) ?_
  refine AL_p (x_field (off := 1) (o' := 1) rfl rfl rfl (by kernel_rfl) rfl) ?_
  refine AL_p (x_load1 rfl rfl rfl (by kernel_rfl) rfl) ?_
  refine AL_p (x_olen (E := 74) (n := 6) rfl rfl rfl (by kernel_rfl)) ?_
  refine AL_p (x_sub rfl rfl rfl (IntWalk.i64_in _ (by omega))) ?_
  refine AL_p (x_store (n := 2) rfl rfl rfl rfl (by kernel_rfl) rfl rfl rfl) ?_
  refine AL_p (x_assign rfl rfl) ?_
  refine AL_nild (by kernel_rfl) ?_
  refine AW_ret ?_
  exact ⟨rn [(9, 101), (400, 1)], ⟨⟨⟨_, rfl, VLe.rf⟩, ⟨_, rfl, VLe.rf⟩, trivial⟩, ⟨⟨_, rfl, BLe.rf⟩, ⟨_, rfl, BLe.rf⟩, ⟨_, rfl, BLe.rf⟩, trivial⟩, by repeat (first | exact trivial | refine ⟨⟨rfl, by first | (left; intro h; cases h) | (right; rfl), by first | exact (fun _ h => ⟨_, h⟩) | exact (fun _ _ => ⟨_, rfl⟩) | (intro _ h; cases h)⟩, ?_⟩), rfl⟩⟩

set_option maxHeartbeats 4000000 in
theorem tabKeepI_c0 (t : Tablet) (ep : Int) (ht : smallTable t) : AC Try.prog 52 [.agg (tableC t), .one (.c (.int .i64 ep))] [] (.tup [.agg [.c (.int .i64 (tableKeep t ep).1.cap), .own 0], .one (.c (.int .i64 (tableKeep t ep).2))]) [(0, some (.arr 74 entryE (tableKeep t ep).1.entries true))] := by
  refine AC_bodyCT (n := 2) (k := 9) (T := [(4, .one (.ptr 9 0)), (5, .one (.c (.int .i64 (tableKeep t ep).2)))]) (Lf := ((9, some (.box [.c (.int .i64 (tableKeep t ep).1.cap), .own 0])) :: [(0, some (.arr 74 entryE (tableKeep t ep).1.entries true))])) Try.func52 rfl rfl Try.ntmps52 rfl Try.results52 rfl rfl rfl rfl (by kernel_rfl) rfl rfl ⟨trivial, (by repeat (first | exact trivial | refine ⟨⟨_, rfl, BLe.rf⟩, ?_⟩)), (by repeat (first | exact trivial | refine ⟨⟨rfl, by first | (left; intro h; cases h) | (right; rfl), by first | exact (fun _ h => ⟨_, h⟩) | exact (fun _ _ => ⟨_, rfl⟩) | (intro _ h; cases h)⟩, ?_⟩)), rfl⟩ ?_
  refine AW_seq ?_
  refine AW_region ?_
  refine AL_p (x_box 100 rfl rfl rfl rfl rfl rfl rfl) ?_
  refine AL_p (x_box 200 rfl rfl rfl rfl rfl rfl rfl) ?_
  refine AL_p (x_alloc (z := .agg #[.int .i64 0, .slice none 0 0]) 101 rfl (by kernel_rfl) rfl rfl rfl rfl) ?_
  refine AL_p (x_assign rfl rfl) ?_
  refine AL_nil ?_
  refine AW_seq ?_
  refine AW_seq ?_
  refine AW_region ?_
  refine AL_p (x_loadN (n := 2) rfl rfl rfl (by kernel_rfl) rfl rfl) ?_
  refine AL_b (x_call0 rfl rfl rfl (tableOkI_c t) rfl rfl) (fun b7 h7 => ?_)
  refine AL_p (x_not rfl rfl) ?_
  refine AL_nil ?_
  cases b7
  · try simp only [tdy] at h7
    have hno := tableKeep_no (ep := ep) h7
    refine AW_condT rfl ?_
    refine AW_seq ?_
    refine AW_region ?_
    refine AL_p (x_build (zs := [.int .i64 0, .slice none 0 0]) (places := [(0, 1), (1, 1)]) rfl (by kernel_rfl) rfl rfl rfl rfl rfl) ?_
    refine AL_p (x_store (n := 2) rfl rfl rfl rfl (by kernel_rfl) rfl rfl rfl) ?_
    refine AL_p (x_assign rfl rfl) ?_
    refine AL_nil ?_
    refine AW_adopt (T := 74) (e := entryE) 102 101 1 rfl rfl rfl rfl rfl ?_
    refine AW_ret ?_
    exact ⟨rn [(9, 101), (0, 102)], ⟨⟨⟨_, rfl, VLe.rf⟩, ⟨_, rfl, by first | (refine vle_int ?_; rw [hno]; done) | exact VLe.rf | (refine vle_int ?_; rw [hno]; apply Eq.symm; assumption) | exact vle_int (by rw [hno])⟩, trivial⟩, ⟨⟨_, rfl, by first | (refine ble_eq ?_; rw [hno]; done) | (refine ble_eq ?_; rw [hno]; rfl) | exact BLe.rf⟩, ⟨_, rfl, by first | (refine BLe.arr ?_; rw [hno]; done) | (refine BLe.arr ?_; rw [hno]; rfl) | exact BLe.rf⟩, trivial⟩, trivial, rfl⟩⟩
  try simp only [tdy] at h7
  have hno := tableKeep_ok (ep := ep) h7
  refine AW_condF rfl ?_
  refine AW_skip ?_
  refine AW_seq ?_
  refine AW_region ?_
  refine AL_p (x_loadN (n := 2) rfl rfl rfl (by kernel_rfl) rfl rfl) ?_
  refine AL_p (x_makeFunc (ks := [200]) rfl rfl) ?_
  refine AL_p (x_call (ks := []) (L := [(200, some (.box [.c (.int .i64 ep)]))]) (L' := [(400, some _), (200, some (.box [.c (.int .i64 ep)]))]) rfl rfl rfl (outWo_c t ep ht) rfl AllV.rf (caught_of rfl) rfl rfl rfl ⟨rfl, trivial⟩ rfl) ?_
  refine AL_p (x_extract rfl rfl rfl) ?_
  refine AL_p (x_extract rfl rfl rfl) ?_
  refine AL_p (x_store (n := 2) rfl rfl rfl rfl (by kernel_rfl) rfl rfl rfl) ?_
  refine AL_p (x_assign rfl rfl) ?_
  refine AL_nil ?_
  refine AW_ret ?_
  exact ⟨rn [(9, 101), (0, 400)], ⟨⟨⟨_, rfl, VLe.rf⟩, ⟨_, rfl, by first | (refine vle_int ?_; rw [hno]; done) | exact VLe.rf | (refine vle_int ?_; rw [hno]; apply Eq.symm; assumption) | exact vle_int (by rw [hno])⟩, trivial⟩, ⟨⟨_, rfl, by first | (refine ble_eq ?_; rw [hno]; done) | (refine ble_eq ?_; rw [hno]; rfl) | exact BLe.rf⟩, ⟨_, rfl, by first | (refine BLe.arr ?_; rw [hno]; done) | (refine BLe.arr ?_; rw [hno]; rfl) | exact BLe.rf⟩, trivial⟩, trivial, rfl⟩⟩
theorem tabKeepI_c (t : Tablet) (ep : Int) (ht : smallTable t) (k : Nat) : AC Try.prog 52 [.agg (tableC t), .one (.c (.int .i64 ep))] [] (.tup [.agg [.c (.int .i64 (tableKeep t ep).1.cap), .own k], .one (.c (.int .i64 (tableKeep t ep).2))]) [(k, some (.arr 74 entryE (tableKeep t ep).1.entries true))] := AC.at (tabKeepI_c0 t ep ht) k
end Go.Proofs.Ytfdpigafekohgaa

/- Entries taken out (printed by walk.py) -/
namespace Go.Proofs.Ytfdpigafekohgaa
open Go.RowKit
set_option linter.unusedVariables false
set_option linter.unusedSimpArgs false
set_option maxRecDepth 100000

set_option maxHeartbeats 4000000 in
theorem goneC_c (x : Entryt) (m : Matcht) (prio : Int) (strict : Bool) : AC Try.prog 112 [.agg (entryC x), .one (.ptr 200 0), .one (.ptr 201 0), .one (.ptr 202 0)] [(200, some (.box [.c (.bool strict)])), (201, some (.box [.c (.int .i64 prio)])), (202, some (.box (matchC m)))] (.one (.c (.bool (goneB m prio strict x)))) [(200, some (.box [.c (.bool strict)])), (201, some (.box [.c (.int .i64 prio)])), (202, some (.box (matchC m)))] := by
  refine AC_body1 Try.func112 rfl rfl Try.ntmps112 rfl Try.results112 ?_
  refine AW_seq ?_
  refine AW_region ?_
  refine AL_p (x_box 100 rfl rfl rfl rfl rfl rfl rfl) ?_
  refine AL_p (x_assign rfl rfl) ?_
  refine AL_nil ?_
  refine AW_seq ?_
  refine AW_seq ?_
  refine AW_region ?_
  refine AL_b (x_load1 rfl rfl rfl (by kernel_rfl) rfl) (fun b6 h6 => ?_)
  refine AL_nil ?_
  cases b6
  · try simp only [tdy] at h6
    refine AW_condF rfl ?_
    refine AW_skip ?_
    refine AW_seq ?_
    refine AW_region ?_
    refine AL_p (x_loadN (n := 2) rfl rfl rfl (by kernel_rfl) rfl rfl) ?_
    refine AL_p (x_field (off := 2) (o' := 2) rfl rfl rfl (by kernel_rfl) rfl) ?_
    refine AL_p (x_loadN (n := 2) rfl rfl rfl (by kernel_rfl) rfl rfl) ?_
    refine AL_b (x_call0 rfl rfl rfl (coversI_c m x.mat) rfl rfl) (fun b20 h20 => ?_)
    refine AL_p (x_assign rfl rfl) ?_
    refine AL_nil ?_
    refine AW_ret ?_
    cases b20
    rotate_left
    · try simp only [tdy] at h20
      exact ⟨rn [], ⟨⟨⟨_, rfl, vle_bool (by grind [goneB, sameMatch_comm])⟩, trivial⟩, ⟨⟨_, rfl, BLe.rf⟩, ⟨_, rfl, BLe.rf⟩, ⟨_, rfl, BLe.rf⟩, trivial⟩, by repeat (first | exact trivial | refine ⟨⟨rfl, by first | (left; intro h; cases h) | (right; rfl), by first | exact (fun _ h => ⟨_, h⟩) | exact (fun _ _ => ⟨_, rfl⟩) | (intro _ h; cases h)⟩, ?_⟩), rfl⟩⟩
    try simp only [tdy] at h20
    exact ⟨rn [], ⟨⟨⟨_, rfl, vle_bool (by grind [goneB, sameMatch_comm])⟩, trivial⟩, ⟨⟨_, rfl, BLe.rf⟩, ⟨_, rfl, BLe.rf⟩, ⟨_, rfl, BLe.rf⟩, trivial⟩, by repeat (first | exact trivial | refine ⟨⟨rfl, by first | (left; intro h; cases h) | (right; rfl), by first | exact (fun _ h => ⟨_, h⟩) | exact (fun _ _ => ⟨_, rfl⟩) | (intro _ h; cases h)⟩, ?_⟩), rfl⟩⟩
  try simp only [tdy] at h6
  refine AW_condT rfl ?_
  refine AW_seq ?_
  refine AW_region ?_
  refine AL_p (x_field (off := 1) (o' := 1) rfl rfl rfl (by kernel_rfl) rfl) ?_
  refine AL_p (x_load1 rfl rfl rfl (by kernel_rfl) rfl) ?_
  refine AL_p (x_load1 rfl rfl rfl (by kernel_rfl) rfl) ?_
  refine AL_b (x_eql rfl rfl rfl) (fun b10 h10 => ?_)
  refine AL_p (x_move rfl rfl) ?_
  cases b10
  · try simp only [tdy] at h10
    refine AL_o rfl rfl rfl rfl ?_
    refine AL_o rfl rfl rfl rfl ?_
    refine AL_o rfl rfl rfl rfl ?_
    refine AL_o rfl rfl rfl rfl ?_
    refine AL_p (x_pickF rfl rfl rfl) ?_
    refine AL_p (x_assign rfl rfl) ?_
    refine AL_nil ?_
    refine AW_ret ?_
    exact ⟨rn [], ⟨⟨⟨_, rfl, vle_bool (by grind [goneB, sameMatch_comm])⟩, trivial⟩, ⟨⟨_, rfl, BLe.rf⟩, ⟨_, rfl, BLe.rf⟩, ⟨_, rfl, BLe.rf⟩, trivial⟩, by repeat (first | exact trivial | refine ⟨⟨rfl, by first | (left; intro h; cases h) | (right; rfl), by first | exact (fun _ h => ⟨_, h⟩) | exact (fun _ _ => ⟨_, rfl⟩) | (intro _ h; cases h)⟩, ?_⟩), rfl⟩⟩
  try simp only [tdy] at h10
  refine AL_g rfl rfl (x_field (off := 2) (o' := 2) rfl rfl rfl (by kernel_rfl) rfl) ?_
  refine AL_g rfl rfl (x_loadN (n := 2) rfl rfl rfl (by kernel_rfl) rfl rfl) ?_
  refine AL_g rfl rfl (x_loadN (n := 2) rfl rfl rfl (by kernel_rfl) rfl rfl) ?_
  refine AL_gb rfl rfl (x_call0 rfl rfl rfl (sameMatchI_c x.mat m) rfl rfl) (fun b15 h15 => ?_)
  refine AL_p (x_pickT rfl rfl rfl) ?_
  refine AL_p (x_assign rfl rfl) ?_
  refine AL_nil ?_
  refine AW_ret ?_
  cases b15
  rotate_left
  · try simp only [tdy] at h15
    exact ⟨rn [], ⟨⟨⟨_, rfl, vle_bool (by grind [goneB, sameMatch_comm])⟩, trivial⟩, ⟨⟨_, rfl, BLe.rf⟩, ⟨_, rfl, BLe.rf⟩, ⟨_, rfl, BLe.rf⟩, trivial⟩, by repeat (first | exact trivial | refine ⟨⟨rfl, by first | (left; intro h; cases h) | (right; rfl), by first | exact (fun _ h => ⟨_, h⟩) | exact (fun _ _ => ⟨_, rfl⟩) | (intro _ h; cases h)⟩, ?_⟩), rfl⟩⟩
  try simp only [tdy] at h15
  exact ⟨rn [], ⟨⟨⟨_, rfl, vle_bool (by grind [goneB, sameMatch_comm])⟩, trivial⟩, ⟨⟨_, rfl, BLe.rf⟩, ⟨_, rfl, BLe.rf⟩, ⟨_, rfl, BLe.rf⟩, trivial⟩, by repeat (first | exact trivial | refine ⟨⟨rfl, by first | (left; intro h; cases h) | (right; rfl), by first | exact (fun _ h => ⟨_, h⟩) | exact (fun _ _ => ⟨_, rfl⟩) | (intro _ h; cases h)⟩, ?_⟩), rfl⟩⟩

set_option maxHeartbeats 4000000 in
theorem goneIx_c (us : List (Raw Entryt)) (m : Matcht) (prio : Int) (strict : Bool) (hl : us.length ≤ 1048576) : AC Try.prog 96 [.one (.own 0), .one (.clo 112 [200, 201, 202])] [(0, some (.arr 74 (rawE entryE) (us) false)), (200, some (.box [.c (.bool strict)])), (201, some (.box [.c (.int .i64 prio)])), (202, some (.box (matchC m)))] (.one (.c (.int .i64 (firstIdx (fun r : Raw Entryt => goneB m prio strict r.x) us)))) [(0, some (.arr 74 (rawE entryE) (us) false)), (200, some (.box [.c (.bool strict)])), (201, some (.box [.c (.int .i64 prio)])), (202, some (.box (matchC m)))] := by
  refine AC_body1 Try.func96 rfl rfl Try.ntmps96 rfl Try.results96 ?_
  refine AW_seq ?_
  refine AW_region ?_
  refine AL_p (x_assign rfl rfl) ?_
  refine AL_nil ?_
  refine AW_seq ?_
  refine AW_seq ?_
  refine AW_region ?_
  refine AL_p (x_move rfl rfl) ?_
  refine AL_p (x_olen (E := 74) (n := 6) rfl rfl rfl (by kernel_rfl)) ?_
  refine AL_p (x_move rfl rfl) ?_
  refine AL_nil ?_
  refine AW_block ?_
  refine AW_loop2 (ι := {q : Nat // q ≤ us.length ∧ NoneTo (fun r : Raw Entryt => goneB m prio strict r.x) us q}) (fun p => [(8, .one (.c (.int .i64 ((p.1) : Int))))]) (fun p => []) [0, 1, 7] [0, 200, 201, 202] (fun p => us.length - (p.1)) ⟨0, ⟨by omega, .zero⟩⟩ (rn []) ?_ ?_
  exact ⟨by (repeat refine ⟨⟨_, rfl, by first | exact VLe.rf | exact vle_int (by dsimp only; omega)⟩, ?_⟩); exact trivial, by (repeat refine ⟨⟨_, rfl, by first | exact BLe.rf | exact BLe.box AllC.rf | exact BLe.arr (by exact rfl)⟩, ?_⟩); exact trivial, by repeat (first | exact trivial | refine ⟨⟨rfl, by first | (left; intro h; cases h) | (right; rfl), by first | exact (fun _ h => ⟨_, h⟩) | exact (fun _ _ => ⟨_, rfl⟩) | (intro _ h; cases h)⟩, ?_⟩), rfl⟩
  rintro ⟨k, hinv⟩
  dsimp only
  obtain ⟨hk, hn⟩ := hinv
  have hk : k ≤ us.length := hk
  refine AW_seq ?_
  refine AW_region ?_
  refine AL_b (x_lss rfl rfl rfl) (fun b9 h9 => ?_)
  refine AL_nil ?_
  refine AW_seq ?_
  cases b9
  · try simp only [tdy] at h9
    obtain rfl : k = us.length := by omega
    have hno : firstIdx (fun r : Raw Entryt => goneB m prio strict r.x) us = -1 := hn.none
    refine AW_condF rfl ?_
    refine AW_exit (BQ_hit ?_)
    refine AW_seq ?_
    refine AW_region ?_
    refine AL_p (x_assign rfl rfl) ?_
    refine AL_nil ?_
    refine AW_ret ?_
    exact ⟨rn [], ⟨⟨⟨_, rfl, vle_int (by rw [hno])⟩, trivial⟩, ⟨⟨_, rfl, BLe.rf⟩, ⟨_, rfl, BLe.rf⟩, ⟨_, rfl, BLe.rf⟩, ⟨_, rfl, BLe.rf⟩, trivial⟩, by repeat (first | exact trivial | refine ⟨⟨rfl, by first | (left; intro h; cases h) | (right; rfl), by first | exact (fun _ h => ⟨_, h⟩) | exact (fun _ _ => ⟨_, rfl⟩) | (intro _ h; cases h)⟩, ?_⟩), rfl⟩⟩
  try simp only [tdy] at h9
  refine AW_condT rfl ?_
  refine AW_skip ?_
  refine AW_seq ?_
  refine AW_block ?_
  refine AW_seq ?_
  refine AW_region ?_
  refine AL_p (x_move rfl rfl) ?_
  refine AL_p (x_assign rfl rfl) ?_
  refine AL_nil ?_
  refine AW_seq ?_
  refine AW_region ?_
  refine AL_p (x_move rfl rfl) ?_
  refine AL_p (x_move rfl rfl) ?_
  refine AL_p (x_move rfl rfl) ?_
  refine AL_p (x_oindex (n := 6) rfl rfl rfl rfl (by kernel_rfl) rfl (k := k) rfl (by omega)) ?_
  refine AL_p (x_oloadN (n := 6) rfl rfl rfl (by kernel_rfl) (by omega) rfl rfl) ?_
  refine AL_bc (x_call (ks := [200, 201, 202]) (L := [(200, some (.box [.c (.bool strict)])), (201, some (.box [.c (.int .i64 prio)])), (202, some (.box (matchC m)))]) (L' := [(200, some (.box [.c (.bool strict)])), (201, some (.box [.c (.int .i64 prio)])), (202, some (.box (matchC m)))]) rfl rfl rfl (goneC_c ((us[k]'(by omega))).x m prio strict) rfl ⟨V1Le.agg ⟨CLe.rx rfl, CLe.rx rfl, CLe.rx rfl, CLe.rx rfl, CLe.rx rfl, CLe.rx rfl, trivial⟩, V1Le.rf, V1Le.rf, V1Le.rf, trivial⟩ (caught_of rfl) rfl rfl rfl (by repeat (first | exact trivial | refine ⟨rfl, ?_⟩)) rfl) (fun b16 h16 => ?_)
  refine AL_nil ?_
  cases b16
  · try simp only [tdy] at h16
    refine AW_condF rfl ?_
    refine AW_skip ?_
    refine AW_region ?_
    refine AL_p (x_add rfl rfl rfl (IntWalk.i64_in _ (by omega))) ?_
    refine AL_p (x_move rfl rfl) ?_
    refine AL_nil ?_
    refine ⟨⟨k + 1, ⟨by omega, hn.succ (by omega) h16⟩⟩, rn [], ?_, by dsimp only; omega⟩
    exact ⟨by (repeat refine ⟨⟨_, rfl, by first | exact VLe.rf | exact vle_int (by dsimp only; omega)⟩, ?_⟩); exact trivial, by (repeat refine ⟨⟨_, rfl, by first | exact BLe.rf | exact BLe.box AllC.rf | exact BLe.arr (by exact rfl)⟩, ?_⟩); exact trivial, by repeat (first | exact trivial | refine ⟨⟨rfl, by first | (left; intro h; cases h) | (right; rfl), by first | exact (fun _ h => ⟨_, h⟩) | exact (fun _ _ => ⟨_, rfl⟩) | (intro _ h; cases h)⟩, ?_⟩), rfl⟩
  try simp only [tdy] at h16
  have hno : firstIdx (fun r : Raw Entryt => goneB m prio strict r.x) us = (k : Int) := firstIdx_at (by omega) (fun j hj hjk => hn j hj hjk) h16
  refine AW_condT rfl ?_
  refine AW_seq ?_
  refine AW_region ?_
  refine AL_p (x_move rfl rfl) ?_
  refine AL_p (x_assign rfl rfl) ?_
  refine AL_nil ?_
  refine AW_ret (BQ_ret (BQ_ret ?_))
  exact ⟨rn [], ⟨⟨⟨_, rfl, vle_int (by rw [hno])⟩, trivial⟩, ⟨⟨_, rfl, BLe.rf⟩, ⟨_, rfl, BLe.rf⟩, ⟨_, rfl, BLe.rf⟩, ⟨_, rfl, BLe.rf⟩, trivial⟩, by repeat (first | exact trivial | refine ⟨⟨rfl, by first | (left; intro h; cases h) | (right; rfl), by first | exact (fun _ h => ⟨_, h⟩) | exact (fun _ _ => ⟨_, rfl⟩) | (intro _ h; cases h)⟩, ?_⟩), rfl⟩⟩

set_option maxHeartbeats 4000000 in
theorem goneDel_c (us : List (Raw Entryt)) (m : Matcht) (prio : Int) (strict : Bool) (hl : us.length ≤ 1048576) : AC Try.prog 142 [.one (.own 0), .one (.clo 112 [200, 201, 202])] [(0, some (.arr 74 (rawE entryE) (us) false)), (200, some (.box [.c (.bool strict)])), (201, some (.box [.c (.int .i64 prio)])), (202, some (.box (matchC m)))] (.one (.own 1)) [(0, none), (1, some (.arr 74 (rawE entryE) ((keepR (fun x => goneB m prio strict x) us us.length)) false)), (200, some (.box [.c (.bool strict)])), (201, some (.box [.c (.int .i64 prio)])), (202, some (.box (matchC m)))] := by
  refine AC_body1 Try.func142 rfl rfl Try.ntmps142 rfl Try.results142 ?_
  refine AW_seq ?_
  refine AW_region ?_
  refine AL_p (x_assign rfl rfl) ?_
  refine AL_nil ?_
  refine AW_seq ?_
  refine AW_region ?_
  refine AL_p (x_move rfl rfl) ?_
  refine AL_p (x_move rfl rfl) ?_
  refine AL_p (x_call (ks := []) (L := [(0, some _), (200, some (.box [.c (.bool strict)])), (201, some (.box [.c (.int .i64 prio)])), (202, some (.box (matchC m)))]) (L' := [(0, some _), (200, some (.box [.c (.bool strict)])), (201, some (.box [.c (.int .i64 prio)])), (202, some (.box (matchC m)))]) rfl rfl rfl (goneIx_c us m prio strict hl) rfl AllV.rf (caught_of rfl) rfl rfl rfl ⟨rfl, rfl, rfl, rfl, trivial⟩ rfl) ?_
  refine AL_p (x_assign rfl rfl) ?_
  refine AL_nil ?_
  refine AW_seq ?_
  refine AW_seq ?_
  refine AW_region ?_
  refine AL_p (x_move rfl rfl) ?_
  refine AL_b (x_eql rfl rfl rfl) (fun b12 h12 => ?_)
  refine AL_nil ?_
  cases b12
  rotate_left
  · try simp only [tdy] at h12
    have hnone : ∀ j (hj : j < us.length), goneB m prio strict us[j].x = false := firstIdx_not h12
    refine AW_condT rfl ?_
    refine AW_seq ?_
    refine AW_region ?_
    refine AL_p (x_move rfl rfl) ?_
    refine AL_p (x_assign rfl rfl) ?_
    refine AL_nil ?_
    refine AW_move 0 1 4 rfl rfl rfl rfl ?_
    refine AW_ret ?_
    exact ⟨rn [(1, 1)], ⟨⟨⟨_, rfl, VLe.rf⟩, trivial⟩, ⟨⟨_, rfl, by first | exact BLe.arr (keepR_none hnone) | exact BLe.arr (keepA_end (by omega) (by omega))⟩, ⟨_, rfl, BLe.rf⟩, ⟨_, rfl, BLe.rf⟩, ⟨_, rfl, BLe.rf⟩, trivial⟩, by repeat (first | exact trivial | refine ⟨⟨rfl, by first | (left; intro h; cases h) | (right; rfl), by first | exact (fun _ h => ⟨_, h⟩) | exact (fun _ _ => ⟨_, rfl⟩) | (intro _ h; cases h)⟩, ?_⟩), rfl⟩⟩
  try simp only [tdy] at h12
  have hx1 := (firstIdx_is (p := (fun r : Raw Entryt => goneB m prio strict r.x)) (xs := us) h12).1
  have hx3 := firstIdx_lt (p := (fun r : Raw Entryt => goneB m prio strict r.x)) (xs := us) h12
  have hx := firstIdx_rest (p := (fun r : Raw Entryt => goneB m prio strict r.x)) (xs := us) h12 hx3
  have hx2 := keepR_hit (p := fun x => goneB m prio strict x) (us := us) hx3 hx.1 hx.2
  have hx4 := hx2.1
  refine AW_condF rfl ?_
  refine AW_skip ?_
  refine AW_seq ?_
  refine AW_seq ?_
  refine AW_slot (t := 5) (y := .one (.c (.int .i64 ((firstIdx (fun r : Raw Entryt => goneB m prio strict r.x) us).toNat : Int)))) rfl (by rw [Int.toNat_of_nonneg (by omega)]) ?_
  refine AW_region ?_
  refine AL_p (x_move rfl rfl) ?_
  refine AL_p (x_add rfl rfl rfl (IntWalk.i64_in _ (by omega))) ?_
  refine AL_p (x_assign rfl rfl) ?_
  refine AL_nil ?_
  refine AW_block ?_
  refine AW_loop2 (ι := {q : Nat // (0 < q ∧ q ≤ us.length) ∧ (keepR (fun x => goneB m prio strict x) us q).length < q}) (fun p => [(5, .one (.c (.int .i64 ((keepR (fun x => goneB m prio strict x) us (p.1)).length : Int)))), (6, .one (.c (.int .i64 ((p.1) : Int))))]) (fun p => [(0, some (.arr 74 (rawE entryE) (keepA (fun x => goneB m prio strict x) us (p.1)) false))]) [0, 1] [200, 201, 202] (fun p => us.length - (p.1)) ⟨(firstIdx (fun r : Raw Entryt => goneB m prio strict r.x) us).toNat + 1, ⟨by omega, by omega⟩⟩ (rn []) ?_ ?_
  exact ⟨by (repeat refine ⟨⟨_, rfl, by first | exact VLe.rf | exact vle_int (by dsimp only; omega)⟩, ?_⟩); exact trivial, by (repeat refine ⟨⟨_, rfl, by first | exact BLe.rf | exact BLe.box AllC.rf | exact BLe.arr (by first | exact hx2.2 | exact q5.1 | (unfold keepA; rw [q5]))⟩, ?_⟩); exact trivial, by repeat (first | exact trivial | refine ⟨⟨rfl, by first | (left; intro h; cases h) | (right; rfl), by first | exact (fun _ h => ⟨_, h⟩) | exact (fun _ _ => ⟨_, rfl⟩) | (intro _ h; cases h)⟩, ?_⟩), rfl⟩
  rintro ⟨j, hinv⟩
  dsimp only
  obtain ⟨⟨hj0, hj⟩, hul⟩ := hinv
  have hj : j ≤ us.length := hj
  have hln := keepA_len (p := fun x => goneB m prio strict x) (us := us) (j := j) hj
  have hlk := keepR_len (p := fun x => goneB m prio strict x) (us := us) (j := j)
  refine AW_seq ?_
  refine AW_seq ?_
  refine AW_region ?_
  refine AL_p (x_move rfl rfl) ?_
  refine AL_p (x_move rfl rfl) ?_
  refine AL_p (x_olen (E := 74) (n := 6) rfl rfl rfl (by kernel_rfl)) ?_
  refine AL_b (x_lss rfl rfl rfl) (fun b19 h19 => ?_)
  refine AL_nil ?_
  cases b19
  · try simp only [tdy] at h19
    refine AW_condF rfl ?_
    refine AW_exit (BQ_hit ?_)
    refine AW_seq ?_
    refine AW_region ?_
    refine AL_p (x_move rfl rfl) ?_
    refine AL_p (x_move rfl rfl) ?_
    refine AL_p (x_oslice (n := 6) rfl rfl rfl (by kernel_rfl) rfl (.yes (l := (keepR (fun x => goneB m prio strict x) us j).length) rfl rfl) .no (by omega) (by first | exact Nat.le_refl _ | omega)) ?_
    refine AL_p (x_clear (E := 74) (n := 6) (z := .agg #[.int .i64 0, .int .i64 0, .slice none 0 0, .slice none 0 0, .slice none 0 0, .int .i64 0]) zeroEn rfl rfl (by kernel_rfl) rfl (by decide) Try.zeroValue74 zeroEn_rep (by omega) (by omega)) ?_
    refine AL_nil ?_
    refine AW_seq ?_
    refine AW_region ?_
    refine AL_p (x_move rfl rfl) ?_
    refine AL_p (x_move rfl rfl) ?_
    refine AL_p (x_cut (n := 6) (h := (keepR (fun x => goneB m prio strict x) us j).length) 1 rfl rfl rfl (by kernel_rfl) rfl (.yes rfl rfl) rfl rfl (by simp [keepA_len hj]; omega)) ?_
    refine AL_p (x_assign rfl rfl) ?_
    refine AL_nil ?_
    refine AW_ret ?_
    exact ⟨rn [(1, 1)], ⟨⟨⟨_, rfl, VLe.rf⟩, trivial⟩, ⟨⟨_, rfl, by first | exact BLe.arr (keepR_none hnone) | exact BLe.arr (keepA_end (by omega) (by omega))⟩, ⟨_, rfl, BLe.rf⟩, ⟨_, rfl, BLe.rf⟩, ⟨_, rfl, BLe.rf⟩, trivial⟩, by repeat (first | exact trivial | refine ⟨⟨rfl, by first | (left; intro h; cases h) | (right; rfl), by first | exact (fun _ h => ⟨_, h⟩) | exact (fun _ _ => ⟨_, rfl⟩) | (intro _ h; cases h)⟩, ?_⟩), rfl⟩⟩
  try simp only [tdy] at h19
  refine AW_condT rfl ?_
  refine AW_skip ?_
  refine AW_seq ?_
  refine AW_block ?_
  refine AW_seq ?_
  refine AW_region ?_
  refine AL_p (x_move rfl rfl) ?_
  refine AL_p (x_move rfl rfl) ?_
  refine AL_p (x_oindex (n := 6) rfl rfl rfl rfl (by kernel_rfl) rfl (k := j) rfl (by omega)) ?_
  refine AL_p (x_oloadN (n := 6) rfl rfl rfl (by kernel_rfl) (by omega) rfl rfl) ?_
  refine AL_p (x_alloc (z := .agg #[.int .i64 0, .int .i64 0, .slice none 0 0, .slice none 0 0, .slice none 0 0, .int .i64 0]) 100 rfl (by kernel_rfl) rfl rfl rfl rfl) ?_
  refine AL_p (x_store (n := 6) rfl rfl rfl rfl (by kernel_rfl) rfl rfl rfl) ?_
  refine AL_nil ?_
  refine AW_seq ?_
  refine AW_region ?_
  refine AL_p (x_move rfl rfl) ?_
  refine AL_p (x_loadN (n := 6) rfl rfl rfl (by kernel_rfl) rfl rfl) ?_
  refine AL_bc (x_call (ks := [200, 201, 202]) (L := [(200, some (.box [.c (.bool strict)])), (201, some (.box [.c (.int .i64 prio)])), (202, some (.box (matchC m)))]) (L' := [(200, some (.box [.c (.bool strict)])), (201, some (.box [.c (.int .i64 prio)])), (202, some (.box (matchC m)))]) rfl rfl rfl (goneC_c (((keepA (fun x => goneB m prio strict x) us j)[j]'(by omega))).x m prio strict) rfl ⟨V1Le.agg ⟨CLe.rx rfl, CLe.rx rfl, CLe.rx rfl, CLe.rx rfl, CLe.rx rfl, CLe.rx rfl, trivial⟩, V1Le.rf, V1Le.rf, V1Le.rf, trivial⟩ (caught_of rfl) rfl rfl rfl (by repeat (first | exact trivial | refine ⟨rfl, ?_⟩)) rfl) (fun b28 h28 => ?_)
  refine AL_p (x_not rfl rfl) ?_
  refine AL_nil ?_
  cases b28
  rotate_left
  · try simp only [tdy] at h28
    rw [keepA_at (p := fun x => goneB m prio strict x) (us := us) (j := j) (i := j) (by omega) (by omega) (by omega) (by omega)] at h28
    have q5 := keepR_skip (p := fun x => goneB m prio strict x) (us := us) (j := j) (by omega) h28
    have q6 : (keepR (fun x => goneB m prio strict x) us (j + 1)).length = (keepR (fun x => goneB m prio strict x) us j).length := by rw [q5]
    refine AW_condF rfl ?_
    refine AW_skip ?_
    refine AW_region ?_
    refine AL_p (x_move rfl rfl) ?_
    refine AL_p (x_add rfl rfl rfl (IntWalk.i64_in _ (by omega))) ?_
    refine AL_p (x_assign rfl rfl) ?_
    refine AL_nil ?_
    refine ⟨⟨j + 1, ⟨by omega, by rw [q5]; omega⟩⟩, rn [], ?_, by dsimp only; omega⟩
    exact ⟨by (repeat refine ⟨⟨_, rfl, by first | exact VLe.rf | exact vle_int (by dsimp only; omega)⟩, ?_⟩); exact trivial, by (repeat refine ⟨⟨_, rfl, by first | exact BLe.rf | exact BLe.box AllC.rf | exact BLe.arr (by first | exact hx2.2 | exact q5.1 | (unfold keepA; rw [q5]))⟩, ?_⟩); exact trivial, by repeat (first | exact trivial | refine ⟨⟨rfl, by first | (left; intro h; cases h) | (right; rfl), by first | exact (fun _ h => ⟨_, h⟩) | exact (fun _ _ => ⟨_, rfl⟩) | (intro _ h; cases h)⟩, ?_⟩), rfl⟩
  try simp only [tdy] at h28
  rw [keepA_at (p := fun x => goneB m prio strict x) (us := us) (j := j) (i := j) (by omega) (by omega) (by omega) (by omega)] at h28
  have q5 := keepA_put (p := fun x => goneB m prio strict x) (us := us) (j := j) (by omega) (by omega) h28 (by omega)
  have q6 := q5.2
  refine AW_condT rfl ?_
  refine AW_seq ?_
  refine AW_region ?_
  refine AL_p (x_move rfl rfl) ?_
  refine AL_p (x_move rfl rfl) ?_
  refine AL_p (x_loadN (n := 6) rfl rfl rfl (by kernel_rfl) rfl rfl) ?_
  refine AL_p (x_oindex (n := 6) rfl rfl rfl rfl (by kernel_rfl) rfl (k := (keepR (fun x => goneB m prio strict x) us j).length) rfl (by omega)) ?_
  refine AL_p (x_ostore (((keepA (fun x => goneB m prio strict x) us j)[j]'(by omega))) rfl rfl rfl rfl (by kernel_rfl) rfl rfl rfl rfl FitL.rf rfl rfl (by omega)) ?_
  refine AL_nil ?_
  refine AW_region ?_
  refine AL_p (x_move rfl rfl) ?_
  refine AL_p (x_add rfl rfl rfl (IntWalk.i64_in _ (by omega))) ?_
  refine AL_p (x_assign rfl rfl) ?_
  refine AL_nil ?_
  refine AW_region ?_
  refine AL_p (x_move rfl rfl) ?_
  refine AL_p (x_add rfl rfl rfl (IntWalk.i64_in _ (by omega))) ?_
  refine AL_p (x_assign rfl rfl) ?_
  refine AL_nil ?_
  refine ⟨⟨j + 1, ⟨by omega, by rw [q5.2]; omega⟩⟩, rn [], ?_, by dsimp only; omega⟩
  exact ⟨by (repeat refine ⟨⟨_, rfl, by first | exact VLe.rf | exact vle_int (by dsimp only; omega)⟩, ?_⟩); exact trivial, by (repeat refine ⟨⟨_, rfl, by first | exact BLe.rf | exact BLe.box AllC.rf | exact BLe.arr (by first | exact hx2.2 | exact q5.1 | (unfold keepA; rw [q5]))⟩, ?_⟩); exact trivial, by repeat (first | exact trivial | refine ⟨⟨rfl, by first | (left; intro h; cases h) | (right; rfl), by first | exact (fun _ h => ⟨_, h⟩) | exact (fun _ _ => ⟨_, rfl⟩) | (intro _ h; cases h)⟩, ?_⟩), rfl⟩

theorem goneDel_t (es : List Entryt) (m : Matcht) (prio : Int) (strict : Bool) (hl : es.length ≤ 1048576) : AC Try.prog 142 [.one (.own 0), .one (.clo 112 [200, 201, 202])] ((0, some (.arr 74 entryE (es) true)) :: [(200, some (.box [.c (.bool strict)])), (201, some (.box [.c (.int .i64 prio)])), (202, some (.box (matchC m)))]) (.one (.own 1)) ((0, none) :: (1, some (.arr 74 entryE (es.filter fun e => !goneB m prio strict e) true)) :: [(200, some (.box [.c (.bool strict)])), (201, some (.box [.c (.int .i64 prio)])), (202, some (.box (matchC m)))]) :=
  AC.rawB (Lb := [(200, some (.box [.c (.bool strict)])), (201, some (.box [.c (.int .i64 prio)])), (202, some (.box (matchC m)))]) (by decide) ⟨_, _, Try.func142, rfl, rfl⟩ (boxesOnly_cons (boxesOnly_cons (boxesOnly_cons boxesOnly_nil))) rfl rfl fun zs hz => ⟨keepR (fun x => goneB m prio strict x) zs zs.length, by rw [keepR_map, hz], fun hn => hn.sublist (feet_sub keepR_sub), fun b hb => (feet_sub keepR_sub).subset hb, goneDel_c zs m prio strict (by rw [← List.length_map (f := Raw.x), hz]; exact hl)⟩

set_option maxHeartbeats 4000000 in
theorem goneWo_c (t : Tablet) (m : Matcht) (prio : Int) (strict : Bool) (ht : smallTable t) : AC Try.prog 111 [.agg (tableC t), .one (.clo 112 [200, 201, 202])] [(200, some (.box [.c (.bool strict)])), (201, some (.box [.c (.int .i64 prio)])), (202, some (.box (matchC m)))] (.tup [.agg [.c (.int .i64 t.cap), .own 400], .one (.c (.int .i64 ((t.entries.length : Int) - (((t.entries.filter fun e => !goneB m prio strict e).length : Nat) : Int))))]) [(400, some (.arr 74 entryE (t.entries.filter fun e => !goneB m prio strict e) true)), (200, some (.box [.c (.bool strict)])), (201, some (.box [.c (.int .i64 prio)])), (202, some (.box (matchC m)))] := by
  have hfl := List.length_filter_le (fun e => !goneB m prio strict e) t.entries
  refine AC_bodyCT (n := 2) (k := 9) (T := [(4, .one (.ptr 9 0)), (5, .one (.c (.int .i64 ((t.entries.length : Int) - (((t.entries.filter fun e => !goneB m prio strict e).length : Nat) : Int)))))]) (Lf := ((9, some (.box [.c (.int .i64 t.cap), .own 400])) :: [(400, some (.arr 74 entryE (t.entries.filter fun e => !goneB m prio strict e) true)), (200, some (.box [.c (.bool strict)])), (201, some (.box [.c (.int .i64 prio)])), (202, some (.box (matchC m)))])) Try.func111 rfl rfl Try.ntmps111 rfl Try.results111 rfl rfl rfl rfl (by kernel_rfl) rfl rfl ⟨trivial, (by repeat (first | exact trivial | refine ⟨⟨_, rfl, BLe.rf⟩, ?_⟩)), (by repeat (first | exact trivial | refine ⟨⟨rfl, by first | (left; intro h; cases h) | (right; rfl), by first | exact (fun _ h => ⟨_, h⟩) | exact (fun _ _ => ⟨_, rfl⟩) | (intro _ h; cases h)⟩, ?_⟩)), rfl⟩ ?_
  refine AW_aggmax 0 1 rfl rfl (fun hm0_1 => ?_)
  refine AW_seq ?_
  refine AW_region ?_
  refine AL_p (x_box 100 rfl rfl rfl rfl rfl rfl rfl) ?_
  refine AL_p (x_alloc (z := .agg #[.int .i64 0, .slice none 0 0]) 101 rfl (by kernel_rfl) rfl rfl rfl rfl) ?_
  refine AL_p (x_assign rfl rfl) ?_
  refine AL_nil ?_
  refine AW_seq ?_
  refine AW_region ?_
  refine AL_p (x_field (off := 1) (o' := 1) rfl rfl rfl (by kernel_rfl) rfl) ?_
  refine AL_p (x_load1 rfl rfl rfl (by kernel_rfl) rfl) ?_
  refine AL_p (x_len (E := 74) (n := 6) rfl rfl (by kernel_rfl)) ?_
  refine AL_p (x_assign rfl rfl) ?_
  refine AL_nil ?_
  refine AW_seq ?_
  refine AW_region ?_
  refine AL_p (x_loadN (n := 2) rfl rfl rfl (by kernel_rfl) rfl rfl) ?_
  refine AL_p (x_call1 rfl rfl rfl (copyTabI_c t ht 0) rfl rfl rfl rfl) ?_
  refine AL_p (x_store (n := 2) rfl rfl rfl rfl (by kernel_rfl) rfl rfl rfl) ?_
  refine AL_nil ?_
  refine AW_seq ?_
  refine AW_region ?_
  refine AL_p (x_field (off := 1) (o' := 1) rfl rfl rfl (by kernel_rfl) rfl) ?_
  refine AL_p (x_load1 rfl rfl rfl (by kernel_rfl) rfl) ?_
  refine AL_p (x_move rfl rfl) ?_
  refine AL_p (x_call (ks := []) (L := [(0, some _), (200, some (.box [.c (.bool strict)])), (201, some (.box [.c (.int .i64 prio)])), (202, some (.box (matchC m)))]) (L' := [(0, none), (1, some _), (200, some (.box [.c (.bool strict)])), (201, some (.box [.c (.int .i64 prio)])), (202, some (.box (matchC m)))]) rfl rfl rfl (goneDel_t t.entries m prio strict ht.1) rfl AllV.rf (caught_of rfl) rfl rfl rfl ⟨rfl, rfl, rfl, rfl, trivial⟩ rfl) ?_
  refine AL_p (x_field (off := 1) (o' := 1) rfl rfl rfl (by kernel_rfl) rfl) ?_
  refine AL_p (x_store (n := 1) rfl rfl rfl rfl (by kernel_rfl) rfl rfl rfl) ?_
  refine AL_nil ?_
  refine AW_seq ?_
  refine AW_draw rfl ?_
  refine AL_p (x_loadN (n := 2) rfl rfl rfl (by kernel_rfl) rfl rfl) ?_
  refine AL_p (x_move rfl rfl) ?_
  refine AL_p (x_field (off := 1) (o' := 1) rfl rfl rfl (by kernel_rfl) rfl) ?_
  refine AL_p (x_load1 rfl rfl rfl (by kernel_rfl) rfl) ?_
  refine AL_p (x_olen (E := 74) (n := 6) rfl rfl rfl (by kernel_rfl)) ?_
  refine AL_p (x_sub rfl rfl rfl (IntWalk.i64_in _ (by omega))) ?_
  refine AL_p (x_store (n := 2) rfl rfl rfl rfl (by kernel_rfl) rfl rfl rfl) ?_
  refine AL_p (x_assign rfl rfl) ?_
  refine AL_nild (by kernel_rfl) ?_
  refine AW_ret ?_
  exact ⟨rn [(9, 101), (400, 1)], ⟨⟨⟨_, rfl, VLe.rf⟩, ⟨_, rfl, VLe.rf⟩, trivial⟩, ⟨⟨_, rfl, BLe.rf⟩, ⟨_, rfl, BLe.rf⟩, ⟨_, rfl, BLe.rf⟩, ⟨_, rfl, BLe.rf⟩, ⟨_, rfl, BLe.rf⟩, trivial⟩, by repeat (first | exact trivial | refine ⟨⟨rfl, by first | (left; intro h; cases h) | (right; rfl), by first | exact (fun _ h => ⟨_, h⟩) | exact (fun _ _ => ⟨_, rfl⟩) | (intro _ h; cases h)⟩, ?_⟩), rfl⟩⟩

set_option maxHeartbeats 4000000 in
theorem tabDelI_c0 (t : Tablet) (m : Matcht) (prio : Int) (strict : Bool) (ht : smallTable t) : AC Try.prog 48 [.agg (tableC t), .agg (matchC m), .one (.c (.int .i64 prio)), .one (.c (.bool strict))] [] (.tup [.agg [.c (.int .i64 (tableDelete t m prio strict).1.cap), .own 0], .one (.c (.int .i64 (tableDelete t m prio strict).2))]) [(0, some (.arr 74 entryE (tableDelete t m prio strict).1.entries true))] := by
  refine AC_bodyCT (n := 2) (k := 9) (T := [(8, .one (.ptr 9 0)), (9, .one (.c (.int .i64 (tableDelete t m prio strict).2)))]) (Lf := ((9, some (.box [.c (.int .i64 (tableDelete t m prio strict).1.cap), .own 0])) :: [(0, some (.arr 74 entryE (tableDelete t m prio strict).1.entries true))])) Try.func48 rfl rfl Try.ntmps48 rfl Try.results48 rfl rfl rfl rfl (by kernel_rfl) rfl rfl ⟨trivial, (by repeat (first | exact trivial | refine ⟨⟨_, rfl, BLe.rf⟩, ?_⟩)), (by repeat (first | exact trivial | refine ⟨⟨rfl, by first | (left; intro h; cases h) | (right; rfl), by first | exact (fun _ h => ⟨_, h⟩) | exact (fun _ _ => ⟨_, rfl⟩) | (intro _ h; cases h)⟩, ?_⟩)), rfl⟩ ?_
  refine AW_seq ?_
  refine AW_region ?_
  refine AL_p (x_box 100 rfl rfl rfl rfl rfl rfl rfl) ?_
  refine AL_p (x_box 202 rfl rfl rfl rfl rfl rfl rfl) ?_
  refine AL_p (x_box 201 rfl rfl rfl rfl rfl rfl rfl) ?_
  refine AL_p (x_box 200 rfl rfl rfl rfl rfl rfl rfl) ?_
  refine AL_p (x_alloc (z := .agg #[.int .i64 0, .slice none 0 0]) 101 rfl (by kernel_rfl) rfl rfl rfl rfl) ?_
  refine AL_p (x_assign rfl rfl) ?_
  refine AL_nil ?_
  refine AW_seq ?_
  refine AW_seq ?_
  refine AW_region ?_
  refine AL_p (x_loadN (n := 2) rfl rfl rfl (by kernel_rfl) rfl rfl) ?_
  refine AL_b (x_call0 rfl rfl rfl (tableOkI_c t) rfl rfl) (fun b11 h11 => ?_)
  refine AL_p (x_not rfl rfl) ?_
  refine AL_p (x_move rfl rfl) ?_
  cases b11
  · try simp only [tdy] at h11
    have hno := tableDelete_no (t := t) (m := m) (prio := prio) (strict := strict) (by simp [h11])
    refine AL_o rfl rfl rfl rfl ?_
    refine AL_o rfl rfl rfl rfl ?_
    refine AL_o rfl rfl rfl rfl ?_
    refine AL_p (x_pickT rfl rfl rfl) ?_
    refine AL_nil ?_
    refine AW_condT rfl ?_
    refine AW_seq ?_
    refine AW_region ?_
    refine AL_p (x_build (zs := [.int .i64 0, .slice none 0 0]) (places := [(0, 1), (1, 1)]) rfl (by kernel_rfl) rfl rfl rfl rfl rfl) ?_
    refine AL_p (x_store (n := 2) rfl rfl rfl rfl (by kernel_rfl) rfl rfl rfl) ?_
    refine AL_p (x_assign rfl rfl) ?_
    refine AL_nil ?_
    refine AW_adopt (T := 74) (e := entryE) 102 101 1 rfl rfl rfl rfl rfl ?_
    refine AW_ret ?_
    exact ⟨rn [(9, 101), (0, 102)], ⟨⟨⟨_, rfl, VLe.rf⟩, ⟨_, rfl, by first | (refine vle_int ?_; rw [hno]; done) | exact VLe.rf | (refine vle_int ?_; rw [hno]; apply Eq.symm; assumption) | exact vle_int (by rw [hno])⟩, trivial⟩, ⟨⟨_, rfl, by first | (refine ble_eq ?_; rw [hno]; done) | (refine ble_eq ?_; rw [hno]; rfl) | exact BLe.rf⟩, ⟨_, rfl, by first | (refine BLe.arr ?_; rw [hno]; done) | (refine BLe.arr ?_; rw [hno]; rfl) | exact BLe.rf⟩, trivial⟩, trivial, rfl⟩⟩
  try simp only [tdy] at h11
  refine AL_g rfl rfl (x_loadN (n := 2) rfl rfl rfl (by kernel_rfl) rfl rfl) ?_
  refine AL_gb rfl rfl (x_call0 rfl rfl rfl (matchI_c m) rfl rfl) (fun b15 h15 => ?_)
  refine AL_g rfl rfl (x_not rfl rfl) ?_
  refine AL_p (x_pickF rfl rfl rfl) ?_
  refine AL_nil ?_
  cases b15
  · try simp only [tdy] at h15
    have hno := tableDelete_no (t := t) (m := m) (prio := prio) (strict := strict) (by simp [h15])
    refine AW_condT rfl ?_
    refine AW_seq ?_
    refine AW_region ?_
    refine AL_p (x_build (zs := [.int .i64 0, .slice none 0 0]) (places := [(0, 1), (1, 1)]) rfl (by kernel_rfl) rfl rfl rfl rfl rfl) ?_
    refine AL_p (x_store (n := 2) rfl rfl rfl rfl (by kernel_rfl) rfl rfl rfl) ?_
    refine AL_p (x_assign rfl rfl) ?_
    refine AL_nil ?_
    refine AW_adopt (T := 74) (e := entryE) 102 101 1 rfl rfl rfl rfl rfl ?_
    refine AW_ret ?_
    exact ⟨rn [(9, 101), (0, 102)], ⟨⟨⟨_, rfl, VLe.rf⟩, ⟨_, rfl, by first | (refine vle_int ?_; rw [hno]; done) | exact VLe.rf | (refine vle_int ?_; rw [hno]; apply Eq.symm; assumption) | exact vle_int (by rw [hno])⟩, trivial⟩, ⟨⟨_, rfl, by first | (refine ble_eq ?_; rw [hno]; done) | (refine ble_eq ?_; rw [hno]; rfl) | exact BLe.rf⟩, ⟨_, rfl, by first | (refine BLe.arr ?_; rw [hno]; done) | (refine BLe.arr ?_; rw [hno]; rfl) | exact BLe.rf⟩, trivial⟩, trivial, rfl⟩⟩
  try simp only [tdy] at h15
  have hno := tableDelete_ok (prio := prio) (strict := strict) h11 h15
  refine AW_condF rfl ?_
  refine AW_skip ?_
  refine AW_seq ?_
  refine AW_region ?_
  refine AL_p (x_loadN (n := 2) rfl rfl rfl (by kernel_rfl) rfl rfl) ?_
  refine AL_p (x_makeFunc (ks := [200, 201, 202]) rfl rfl) ?_
  refine AL_p (x_call (ks := []) (L := [(200, some (.box [.c (.bool strict)])), (201, some (.box [.c (.int .i64 prio)])), (202, some (.box (matchC m)))]) (L' := [(400, some _), (200, some (.box [.c (.bool strict)])), (201, some (.box [.c (.int .i64 prio)])), (202, some (.box (matchC m)))]) rfl rfl rfl (goneWo_c t m prio strict ht) rfl AllV.rf (caught_of rfl) rfl rfl rfl ⟨rfl, rfl, rfl, trivial⟩ rfl) ?_
  refine AL_p (x_extract rfl rfl rfl) ?_
  refine AL_p (x_extract rfl rfl rfl) ?_
  refine AL_p (x_store (n := 2) rfl rfl rfl rfl (by kernel_rfl) rfl rfl rfl) ?_
  refine AL_p (x_assign rfl rfl) ?_
  refine AL_nil ?_
  refine AW_ret ?_
  exact ⟨rn [(9, 101), (0, 400)], ⟨⟨⟨_, rfl, VLe.rf⟩, ⟨_, rfl, by first | (refine vle_int ?_; rw [hno]; done) | exact VLe.rf | (refine vle_int ?_; rw [hno]; apply Eq.symm; assumption) | exact vle_int (by rw [hno])⟩, trivial⟩, ⟨⟨_, rfl, by first | (refine ble_eq ?_; rw [hno]; done) | (refine ble_eq ?_; rw [hno]; rfl) | exact BLe.rf⟩, ⟨_, rfl, by first | (refine BLe.arr ?_; rw [hno]; done) | (refine BLe.arr ?_; rw [hno]; rfl) | exact BLe.rf⟩, trivial⟩, trivial, rfl⟩⟩
theorem tabDelI_c (t : Tablet) (m : Matcht) (prio : Int) (strict : Bool) (ht : smallTable t) (k : Nat) : AC Try.prog 48 [.agg (tableC t), .agg (matchC m), .one (.c (.int .i64 prio)), .one (.c (.bool strict))] [] (.tup [.agg [.c (.int .i64 (tableDelete t m prio strict).1.cap), .own k], .one (.c (.int .i64 (tableDelete t m prio strict).2))]) [(k, some (.arr 74 entryE (tableDelete t m prio strict).1.entries true))] := AC.at (tabDelI_c0 t m prio strict ht) k

end Go.Proofs.Ytfdpigafekohgaa

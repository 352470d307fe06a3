/- Deltas that fit (printed by walk.py) -/
import Derived.Test.YtgmlecghklaomaaADelta
import Derived.Test.YtgmlecghklaomaaAStore
import Derived.Test.YtgmlecghklaomaaFitsLaw
namespace Go.Proofs.Ytgmlecghklaomaa
open Go.RowKit
set_option linter.unusedVariables false
set_option linter.unusedSimpArgs false
set_option maxRecDepth 100000

set_option maxHeartbeats 4000000 in
theorem namedS_c (s : Storet) (n : ByteArray) (hs : smallStore s) : AC Try.prog 79 [.agg (storeC s), .one (.c (.string n))] [] (.tup [.agg (relC (namedIn s.rels n).1), .one (.c (.bool (namedIn s.rels n).2))]) [] := by
  refine AC_bodyCT (n := 2) (k := 9) (T := [(4, .one (.ptr 9 0)), (5, .one (.c (.bool (namedIn s.rels n).2)))]) (Lf := ((9, some (.box (relC (namedIn s.rels n).1))) :: [])) Try.func79 rfl rfl Try.ntmps79 rfl Try.results79 rfl rfl rfl rfl (by kernel_rfl) rfl rfl ⟨trivial, (by repeat (first | exact trivial | refine ⟨⟨_, rfl, BLe.rf⟩, ?_⟩)), (by repeat (first | exact trivial | refine ⟨⟨rfl, by first | (left; intro h; cases h) | (right; rfl), fun _ h => ⟨_, h⟩⟩, ?_⟩)), rfl⟩ ?_
  refine AW_seq ?_
  refine AW_region ?_
  refine AL_p (x_box 100 rfl rfl rfl rfl rfl rfl rfl) ?_
  refine AL_p (x_alloc (z := .agg #[.int .i64 0, .slice none 0 0]) 101 rfl (by kernel_rfl) rfl rfl rfl rfl) ?_
  refine AL_p (x_assign rfl rfl) ?_
  refine AL_nil ?_
  refine AW_seq ?_
  refine AW_seq ?_
  refine AW_region ?_
  refine AL_p (x_field (off := 0) (o' := 0) rfl rfl rfl (by kernel_rfl) rfl) ?_
  refine AL_p (x_load1 rfl rfl rfl (by kernel_rfl) rfl) ?_
  refine AL_p (x_len (E := 123) (n := 3) rfl rfl (by kernel_rfl)) ?_
  refine AL_p (x_move rfl rfl) ?_
  refine AL_nil ?_
  refine AW_block ?_
  refine AW_loop2 (ι := {q : Nat // q ≤ s.rels.length ∧ NoneTo (fun x => x.name == n) s.rels q}) (fun p => [(10, .one (.c (.int .i64 ((p.1) : Int))))]) (fun p => []) [1, 2, 4, 9] [100, 101] (fun p => s.rels.length - (p.1)) ⟨0, ⟨by have := hs.1; omega, .zero⟩⟩ (rn []) ?_ ?_
  exact ⟨by (repeat refine ⟨⟨_, rfl, by first | exact VLe.rf | exact vle_int (by dsimp only; omega)⟩, ?_⟩); exact trivial, by (repeat refine ⟨⟨_, rfl, by first | exact BLe.rf | exact BLe.box AllC.rf | exact BLe.arr (by exact rfl)⟩, ?_⟩); exact trivial, by repeat (first | exact trivial | refine ⟨⟨rfl, by first | (left; intro h; cases h) | (right; rfl), fun _ h => ⟨_, h⟩⟩, ?_⟩), rfl⟩
  rintro ⟨k, hinv⟩
  dsimp only
  obtain ⟨hk, hA⟩ := hinv
  have hl := hs.1
  refine AW_seq ?_
  refine AW_region ?_
  refine AL_b (x_lss rfl rfl rfl) (fun b11 h11 => ?_)
  refine AL_nil ?_
  refine AW_seq ?_
  cases b11
  rotate_left
  · try simp only [decide_eq_true_eq, decide_eq_false_iff_not, Bool.not_eq_true, Bool.not_eq_false, Bool.not_eq_true', Bool.not_eq_false', beq_iff_eq, bne_iff_ne, beq_eq_false_iff_ne, bne_eq_false_iff_eq, Int.not_lt, Int.not_le, ge_iff_le, gt_iff_lt] at h11
    refine AW_condT rfl ?_
    refine AW_skip ?_
    refine AW_seq ?_
    refine AW_block ?_
    refine AW_seq ?_
    refine AW_region ?_
    refine AL_p (x_move rfl rfl) ?_
    refine AL_p (x_assign rfl rfl) ?_
    refine AL_nil ?_
    refine AW_seq ?_
    refine AW_region ?_
    refine AL_p (x_field (off := 0) (o' := 0) rfl rfl rfl (by kernel_rfl) rfl) ?_
    refine AL_p (x_load1 rfl rfl rfl (by kernel_rfl) rfl) ?_
    refine AL_p (x_move rfl rfl) ?_
    refine AL_p (x_index (E := 123) (n := 3) rfl rfl rfl (by kernel_rfl) rfl (k := k) (by omega) (by omega)) ?_
    refine AL_p (x_efield (off := 0) (o' := 0) rfl rfl (by kernel_rfl) rfl) ?_
    refine AL_p (x_eload1 rfl rfl (by kernel_rfl) rfl) ?_
    refine AL_p (x_move rfl rfl) ?_
    refine AL_b (x_seql rfl rfl rfl) (fun b20 h20 => ?_)
    refine AL_nil ?_
    cases b20
    rotate_left
    · try simp only [decide_eq_true_eq, decide_eq_false_iff_not, Bool.not_eq_true, Bool.not_eq_false, Bool.not_eq_true', Bool.not_eq_false', beq_iff_eq, bne_iff_ne, beq_eq_false_iff_ne, bne_eq_false_iff_eq, Int.not_lt, Int.not_le, ge_iff_le, gt_iff_lt] at h20
      refine AW_condT rfl ?_
      refine AW_seq ?_
      refine AW_region ?_
      refine AL_p (x_field (off := 0) (o' := 0) rfl rfl rfl (by kernel_rfl) rfl) ?_
      refine AL_p (x_load1 rfl rfl rfl (by kernel_rfl) rfl) ?_
      refine AL_p (x_move rfl rfl) ?_
      refine AL_p (x_index (E := 123) (n := 3) rfl rfl rfl (by kernel_rfl) rfl (k := k) (by omega) (by omega)) ?_
      refine AL_p (x_efield (off := 1) (o' := 1) rfl rfl (by kernel_rfl) rfl) ?_
      refine AL_p (x_eloadN (n := 2) rfl rfl (by kernel_rfl) rfl rfl) ?_
      refine AL_p (x_store (n := 2) rfl rfl rfl rfl (by kernel_rfl) rfl rfl rfl) ?_
      refine AL_p (x_assign rfl rfl) ?_
      refine AL_nil ?_
      refine AW_ret (BQ_ret (BQ_ret ?_))
      rw [namedIn_at (k := k) (by omega) hA h20]
      exact ⟨rn [(9, 101)], ⟨⟨⟨_, rfl, VLe.rf⟩, ⟨_, rfl, VLe.rf⟩, trivial⟩, ⟨⟨_, rfl, BLe.rf⟩, trivial⟩, trivial, rfl⟩⟩
    · try simp only [decide_eq_true_eq, decide_eq_false_iff_not, Bool.not_eq_true, Bool.not_eq_false, Bool.not_eq_true', Bool.not_eq_false', beq_iff_eq, bne_iff_ne, beq_eq_false_iff_ne, bne_eq_false_iff_eq, Int.not_lt, Int.not_le, ge_iff_le, gt_iff_lt] at h20
      refine AW_condF rfl ?_
      refine AW_skip ?_
      refine AW_region ?_
      refine AL_p (x_add rfl rfl rfl (IntWalk.i64_in _ (by omega))) ?_
      refine AL_p (x_move rfl rfl) ?_
      refine AL_nil ?_
      refine ⟨⟨k + 1, ⟨by omega, hA.succ (by omega) h20⟩⟩, rn [], ?_, by dsimp only; omega⟩
      exact ⟨by (repeat refine ⟨⟨_, rfl, by first | exact VLe.rf | exact vle_int (by dsimp only; omega)⟩, ?_⟩); exact trivial, by (repeat refine ⟨⟨_, rfl, by first | exact BLe.rf | exact BLe.box AllC.rf | exact BLe.arr (by exact rfl)⟩, ?_⟩); exact trivial, by repeat (first | exact trivial | refine ⟨⟨rfl, by first | (left; intro h; cases h) | (right; rfl), fun _ h => ⟨_, h⟩⟩, ?_⟩), rfl⟩
  · try simp only [decide_eq_true_eq, decide_eq_false_iff_not, Bool.not_eq_true, Bool.not_eq_false, Bool.not_eq_true', Bool.not_eq_false', beq_iff_eq, bne_iff_ne, beq_eq_false_iff_ne, bne_eq_false_iff_eq, Int.not_lt, Int.not_le, ge_iff_le, gt_iff_lt] at h11
    refine AW_condF rfl ?_
    refine AW_exit (BQ_hit ?_)
    refine AW_seq ?_
    refine AW_region ?_
    refine AL_p (x_build (zs := [.int .i64 0, .slice none 0 0]) (places := [(0, 1), (1, 1)]) rfl (by kernel_rfl) rfl rfl rfl rfl rfl) ?_
    refine AL_p (x_store (n := 2) rfl rfl rfl rfl (by kernel_rfl) rfl rfl rfl) ?_
    refine AL_p (x_assign rfl rfl) ?_
    refine AL_nil ?_
    refine AW_ret ?_
    rw [namedIn_none hA (by omega)]
    exact ⟨rn [(9, 101)], ⟨⟨⟨_, rfl, VLe.rf⟩, ⟨_, rfl, VLe.rf⟩, trivial⟩, ⟨⟨_, rfl, BLe.box ⟨CLe.rf, CLe.nil, trivial⟩⟩, trivial⟩, trivial, rfl⟩⟩

set_option maxHeartbeats 4000000 in
theorem namedI_c (s : Storet) (n : ByteArray) (hs : smallStore s) : AC Try.prog 81 [.agg (storeC s), .one (.c (.string n))] [] (.tup [.agg (relC (namedIn s.rels n).1), .one (.c (.bool (namedIn s.rels n).2))]) [] := by
  refine AC_bodyCT (n := 2) (k := 9) (T := [(4, .one (.ptr 9 0)), (5, .one (.c (.bool (namedIn s.rels n).2)))]) (Lf := ((9, some (.box (relC (namedIn s.rels n).1))) :: [])) Try.func81 rfl rfl Try.ntmps81 rfl Try.results81 rfl rfl rfl rfl (by kernel_rfl) rfl rfl ⟨trivial, (by repeat (first | exact trivial | refine ⟨⟨_, rfl, BLe.rf⟩, ?_⟩)), (by repeat (first | exact trivial | refine ⟨⟨rfl, by first | (left; intro h; cases h) | (right; rfl), fun _ h => ⟨_, h⟩⟩, ?_⟩)), rfl⟩ ?_
  refine AW_seq ?_
  refine AW_region ?_
  refine AL_p (x_box 100 rfl rfl rfl rfl rfl rfl rfl) ?_
  refine AL_p (x_alloc (z := .agg #[.int .i64 0, .slice none 0 0]) 101 rfl (by kernel_rfl) rfl rfl rfl rfl) ?_
  refine AL_p (x_assign rfl rfl) ?_
  refine AL_nil ?_
  refine AW_seq ?_
  refine AW_seq ?_
  refine AW_region ?_
  refine AL_p (x_field (off := 0) (o' := 0) rfl rfl rfl (by kernel_rfl) rfl) ?_
  refine AL_p (x_load1 rfl rfl rfl (by kernel_rfl) rfl) ?_
  refine AL_p (x_len (E := 123) (n := 3) rfl rfl (by kernel_rfl)) ?_
  refine AL_p (x_move rfl rfl) ?_
  refine AL_nil ?_
  refine AW_block ?_
  refine AW_loop2 (ι := {q : Nat // q ≤ s.rels.length ∧ NoneTo (fun x => x.name == n) s.rels q}) (fun p => [(11, .one (.c (.int .i64 ((p.1) : Int))))]) (fun p => []) [1, 4, 9, 10] [100, 101] (fun p => s.rels.length - (p.1)) ⟨0, ⟨by have := hs.1; omega, .zero⟩⟩ (rn []) ?_ ?_
  exact ⟨by (repeat refine ⟨⟨_, rfl, by first | exact VLe.rf | exact vle_int (by dsimp only; omega)⟩, ?_⟩); exact trivial, by (repeat refine ⟨⟨_, rfl, by first | exact BLe.rf | exact BLe.box AllC.rf | exact BLe.arr (by exact rfl)⟩, ?_⟩); exact trivial, by repeat (first | exact trivial | refine ⟨⟨rfl, by first | (left; intro h; cases h) | (right; rfl), fun _ h => ⟨_, h⟩⟩, ?_⟩), rfl⟩
  rintro ⟨k, hinv⟩
  dsimp only
  obtain ⟨hk, hA⟩ := hinv
  have hl := hs.1
  refine AW_seq ?_
  refine AW_region ?_
  refine AL_b (x_lss rfl rfl rfl) (fun b12 h12 => ?_)
  refine AL_nil ?_
  refine AW_seq ?_
  cases b12
  rotate_left
  · try simp only [decide_eq_true_eq, decide_eq_false_iff_not, Bool.not_eq_true, Bool.not_eq_false, Bool.not_eq_true', Bool.not_eq_false', beq_iff_eq, bne_iff_ne, beq_eq_false_iff_ne, bne_eq_false_iff_eq, Int.not_lt, Int.not_le, ge_iff_le, gt_iff_lt] at h12
    refine AW_condT rfl ?_
    refine AW_skip ?_
    refine AW_seq ?_
    refine AW_block ?_
    refine AW_seq ?_
    refine AW_region ?_
    refine AL_p (x_index (E := 123) (n := 3) rfl rfl rfl (by kernel_rfl) rfl (k := k) (by omega) (by omega)) ?_
    refine AL_p (x_eloadW (n := 3) rfl rfl (by kernel_rfl) rfl) ?_
    refine AL_p (x_alloc (z := .agg #[.string ⟨#[]⟩, .int .i64 0, .slice none 0 0]) 102 rfl (by kernel_rfl) rfl rfl rfl rfl) ?_
    refine AL_p (x_store (n := 3) rfl rfl rfl rfl (by kernel_rfl) rfl rfl rfl) ?_
    refine AL_nil ?_
    refine AW_seq ?_
    refine AW_region ?_
    refine AL_p (x_field (off := 0) (o' := 0) rfl rfl rfl (by kernel_rfl) rfl) ?_
    refine AL_p (x_load1 rfl rfl rfl (by kernel_rfl) rfl) ?_
    refine AL_p (x_move rfl rfl) ?_
    refine AL_b (x_seql rfl rfl rfl) (fun b18 h18 => ?_)
    refine AL_nil ?_
    cases b18
    rotate_left
    · try simp only [decide_eq_true_eq, decide_eq_false_iff_not, Bool.not_eq_true, Bool.not_eq_false, Bool.not_eq_true', Bool.not_eq_false', beq_iff_eq, bne_iff_ne, beq_eq_false_iff_ne, bne_eq_false_iff_eq, Int.not_lt, Int.not_le, ge_iff_le, gt_iff_lt] at h18
      refine AW_condT rfl ?_
      refine AW_seq ?_
      refine AW_region ?_
      refine AL_p (x_field (off := 1) (o' := 1) rfl rfl rfl (by kernel_rfl) rfl) ?_
      refine AL_p (x_loadN (n := 2) rfl rfl rfl (by kernel_rfl) rfl rfl) ?_
      refine AL_p (x_store (n := 2) rfl rfl rfl rfl (by kernel_rfl) rfl rfl rfl) ?_
      refine AL_p (x_assign rfl rfl) ?_
      refine AL_nil ?_
      refine AW_ret (BQ_ret (BQ_ret ?_))
      rw [namedIn_at (k := k) (by omega) hA h18]
      exact ⟨rn [(9, 101)], ⟨⟨⟨_, rfl, VLe.rf⟩, ⟨_, rfl, VLe.rf⟩, trivial⟩, ⟨⟨_, rfl, BLe.rf⟩, trivial⟩, trivial, rfl⟩⟩
    · try simp only [decide_eq_true_eq, decide_eq_false_iff_not, Bool.not_eq_true, Bool.not_eq_false, Bool.not_eq_true', Bool.not_eq_false', beq_iff_eq, bne_iff_ne, beq_eq_false_iff_ne, bne_eq_false_iff_eq, Int.not_lt, Int.not_le, ge_iff_le, gt_iff_lt] at h18
      refine AW_condF rfl ?_
      refine AW_skip ?_
      refine AW_region ?_
      refine AL_p (x_add rfl rfl rfl (IntWalk.i64_in _ (by omega))) ?_
      refine AL_p (x_move rfl rfl) ?_
      refine AL_nil ?_
      refine ⟨⟨k + 1, ⟨by omega, hA.succ (by omega) h18⟩⟩, rn [], ?_, by dsimp only; omega⟩
      exact ⟨by (repeat refine ⟨⟨_, rfl, by first | exact VLe.rf | exact vle_int (by dsimp only; omega)⟩, ?_⟩); exact trivial, by (repeat refine ⟨⟨_, rfl, by first | exact BLe.rf | exact BLe.box AllC.rf | exact BLe.arr (by exact rfl)⟩, ?_⟩); exact trivial, by repeat (first | exact trivial | refine ⟨⟨rfl, by first | (left; intro h; cases h) | (right; rfl), fun _ h => ⟨_, h⟩⟩, ?_⟩), rfl⟩
  · try simp only [decide_eq_true_eq, decide_eq_false_iff_not, Bool.not_eq_true, Bool.not_eq_false, Bool.not_eq_true', Bool.not_eq_false', beq_iff_eq, bne_iff_ne, beq_eq_false_iff_ne, bne_eq_false_iff_eq, Int.not_lt, Int.not_le, ge_iff_le, gt_iff_lt] at h12
    refine AW_condF rfl ?_
    refine AW_exit (BQ_hit ?_)
    refine AW_seq ?_
    refine AW_region ?_
    refine AL_p (x_build (zs := [.int .i64 0, .slice none 0 0]) (places := [(0, 1), (1, 1)]) rfl (by kernel_rfl) rfl rfl rfl rfl rfl) ?_
    refine AL_p (x_store (n := 2) rfl rfl rfl rfl (by kernel_rfl) rfl rfl rfl) ?_
    refine AL_p (x_assign rfl rfl) ?_
    refine AL_nil ?_
    refine AW_ret ?_
    rw [namedIn_none hA (by omega)]
    exact ⟨rn [(9, 101)], ⟨⟨⟨_, rfl, VLe.rf⟩, ⟨_, rfl, VLe.rf⟩, trivial⟩, ⟨⟨_, rfl, BLe.box ⟨CLe.rf, CLe.nil, trivial⟩⟩, trivial⟩, trivial, rfl⟩⟩

set_option maxHeartbeats 4000000 in
theorem deltaFitsS_c (s : Storet) (d : Deltat) (hs : smallStore s) (hd : smallDelta d) : AC Try.prog 29 [.agg (storeC s), .agg (deltaC d)] [] (.one (.c (.bool (deltaFits s d)))) [] := by
  refine AC_body1 Try.func29 rfl rfl Try.ntmps29 rfl Try.results29 ?_
  refine AW_seq ?_
  refine AW_region ?_
  refine AL_p (x_box 100 rfl rfl rfl rfl rfl rfl rfl) ?_
  refine AL_p (x_box 101 rfl rfl rfl rfl rfl rfl rfl) ?_
  refine AL_p (x_assign rfl rfl) ?_
  refine AL_nil ?_
  refine AW_seq ?_
  refine AW_seq ?_
  refine AW_region ?_
  refine AL_p (x_loadN (n := 1) rfl rfl rfl (by kernel_rfl) rfl rfl) ?_
  refine AL_b (x_call0 rfl rfl rfl (storeOkS_c _ hs) rfl rfl) (fun b10 h10 => ?_)
  refine AL_p (x_not rfl rfl) ?_
  refine AL_p (x_move rfl rfl) ?_
  cases b10
  rotate_left
  · try simp only [decide_eq_true_eq, decide_eq_false_iff_not, Bool.not_eq_true, Bool.not_eq_false, Bool.not_eq_true', Bool.not_eq_false', beq_iff_eq, bne_iff_ne, beq_eq_false_iff_ne, bne_eq_false_iff_eq, Int.not_lt, Int.not_le, ge_iff_le, gt_iff_lt] at h10
    refine AL_g rfl rfl (x_loadN (n := 1) rfl rfl rfl (by kernel_rfl) rfl rfl) ?_
    refine AL_gb rfl rfl (x_call0 rfl rfl rfl (deltaOkS_c _ hd) rfl rfl) (fun b14 h14 => ?_)
    refine AL_g rfl rfl (x_not rfl rfl) ?_
    refine AL_p (x_pickF rfl rfl rfl) ?_
    refine AL_nil ?_
    cases b14
    rotate_left
    · try simp only [decide_eq_true_eq, decide_eq_false_iff_not, Bool.not_eq_true, Bool.not_eq_false, Bool.not_eq_true', Bool.not_eq_false', beq_iff_eq, bne_iff_ne, beq_eq_false_iff_ne, bne_eq_false_iff_eq, Int.not_lt, Int.not_le, ge_iff_le, gt_iff_lt] at h14
      refine AW_condF rfl ?_
      refine AW_skip ?_
      refine AW_seq ?_
      refine AW_seq ?_
      refine AW_region ?_
      refine AL_p (x_field (off := 0) (o' := 0) rfl rfl rfl (by kernel_rfl) rfl) ?_
      refine AL_p (x_load1 rfl rfl rfl (by kernel_rfl) rfl) ?_
      refine AL_p (x_len (E := 130) (n := 5) rfl rfl (by kernel_rfl)) ?_
      refine AL_p (x_move rfl rfl) ?_
      refine AL_nil ?_
      refine AW_block ?_
      refine AW_loop2 (ι := {q : Nat // q ≤ d.changes.length ∧ AllAt (fitAt s d.changes) q}) (fun p => [(20, .one (.c (.int .i64 ((p.1) : Int))))]) (fun p => []) [2, 18, 19] [100, 101] (fun p => d.changes.length - (p.1)) ⟨0, ⟨by have := hd.1; omega, .zero⟩⟩ (rn []) ?_ ?_
      exact ⟨by (repeat refine ⟨⟨_, rfl, by first | exact VLe.rf | exact vle_int (by dsimp only; omega)⟩, ?_⟩); exact trivial, by (repeat refine ⟨⟨_, rfl, by first | exact BLe.rf | exact BLe.box AllC.rf | exact BLe.arr (by exact rfl)⟩, ?_⟩); exact trivial, by repeat (first | exact trivial | refine ⟨⟨rfl, by first | (left; intro h; cases h) | (right; rfl), fun _ h => ⟨_, h⟩⟩, ?_⟩), rfl⟩
      rintro ⟨k, hinv⟩
      dsimp only
      obtain ⟨hk, hA⟩ := hinv
      have hl := hd.1
      refine AW_seq ?_
      refine AW_region ?_
      refine AL_b (x_lss rfl rfl rfl) (fun b21 h21 => ?_)
      refine AL_nil ?_
      refine AW_seq ?_
      cases b21
      rotate_left
      · try simp only [decide_eq_true_eq, decide_eq_false_iff_not, Bool.not_eq_true, Bool.not_eq_false, Bool.not_eq_true', Bool.not_eq_false', beq_iff_eq, bne_iff_ne, beq_eq_false_iff_ne, bne_eq_false_iff_eq, Int.not_lt, Int.not_le, ge_iff_le, gt_iff_lt] at h21
        refine AW_condT rfl ?_
        refine AW_skip ?_
        refine AW_seq ?_
        refine AW_block ?_
        refine AW_seq ?_
        refine AW_region ?_
        refine AL_p (x_index (E := 130) (n := 5) rfl rfl rfl (by kernel_rfl) rfl (k := k) (by omega) (by omega)) ?_
        refine AL_p (x_eloadW (n := 5) rfl rfl (by kernel_rfl) rfl) ?_
        refine AL_p (x_alloc (z := .agg #[.string ⟨#[]⟩, .int .i64 0, .slice none 0 0, .int .i64 0, .slice none 0 0]) 102 rfl (by kernel_rfl) rfl rfl rfl rfl) ?_
        refine AL_p (x_store (n := 5) rfl rfl rfl rfl (by kernel_rfl) rfl rfl rfl) ?_
        refine AL_nil ?_
        refine AW_seq ?_
        refine AW_region ?_
        refine AL_p (x_loadN (n := 1) rfl rfl rfl (by kernel_rfl) rfl rfl) ?_
        refine AL_p (x_field (off := 0) (o' := 0) rfl rfl rfl (by kernel_rfl) rfl) ?_
        refine AL_p (x_load1 rfl rfl rfl (by kernel_rfl) rfl) ?_
        refine AL_p (x_call0 rfl rfl rfl (namedS_c s (d.changes[k]'(by omega)).name hs) rfl rfl) ?_
        refine AL_p (x_move rfl rfl) ?_
        refine AL_p (x_extract rfl rfl rfl) ?_
        refine AL_b (x_extract rfl rfl rfl) (fun b30 h30 => ?_)
        refine AL_p (x_alloc (z := .agg #[.int .i64 0, .slice none 0 0]) 103 rfl (by kernel_rfl) rfl rfl rfl rfl) ?_
        refine AL_p (x_store (n := 2) rfl rfl rfl rfl (by kernel_rfl) rfl rfl rfl) ?_
        refine AL_p (x_assign rfl rfl) ?_
        refine AL_nil ?_
        refine AW_seq ?_
        refine AW_region ?_
        refine AL_p (x_move rfl rfl) ?_
        refine AL_p (x_not rfl rfl) ?_
        refine AL_p (x_move rfl rfl) ?_
        cases b30
        rotate_left
        · try simp only [decide_eq_true_eq, decide_eq_false_iff_not, Bool.not_eq_true, Bool.not_eq_false, Bool.not_eq_true', Bool.not_eq_false', beq_iff_eq, bne_iff_ne, beq_eq_false_iff_ne, bne_eq_false_iff_eq, Int.not_lt, Int.not_le, ge_iff_le, gt_iff_lt] at h30
          refine AL_g rfl rfl (x_field (off := 0) (o' := 0) rfl rfl rfl (by kernel_rfl) rfl) ?_
          refine AL_g rfl rfl (x_load1 rfl rfl rfl (by kernel_rfl) rfl) ?_
          refine AL_g rfl rfl (x_field (off := 1) (o' := 1) rfl rfl rfl (by kernel_rfl) rfl) ?_
          refine AL_g rfl rfl (x_field (off := 0) (o' := 1) rfl rfl rfl (by kernel_rfl) rfl) ?_
          refine AL_g rfl rfl (x_load1 rfl rfl rfl (by kernel_rfl) rfl) ?_
          refine AL_gb rfl rfl (x_neq rfl rfl rfl) (fun b39 h39 => ?_)
          refine AL_p (x_pickF rfl rfl rfl) ?_
          refine AL_p (x_move rfl rfl) ?_
          cases b39
          rotate_left
          · try simp only [decide_eq_true_eq, decide_eq_false_iff_not, Bool.not_eq_true, Bool.not_eq_false, Bool.not_eq_true', Bool.not_eq_false', beq_iff_eq, bne_iff_ne, beq_eq_false_iff_ne, bne_eq_false_iff_eq, Int.not_lt, Int.not_le, ge_iff_le, gt_iff_lt] at h39
            refine AL_o rfl rfl rfl rfl ?_
            refine AL_o rfl rfl rfl rfl ?_
            refine AL_o rfl rfl rfl rfl ?_
            refine AL_o rfl rfl rfl rfl ?_
            refine AL_o rfl rfl rfl rfl ?_
            refine AL_p (x_pickT rfl rfl rfl) ?_
            refine AL_p (x_move rfl rfl) ?_
            refine AL_o rfl rfl rfl rfl ?_
            refine AL_o rfl rfl rfl rfl ?_
            refine AL_o rfl rfl rfl rfl ?_
            refine AL_o rfl rfl rfl rfl ?_
            refine AL_o rfl rfl rfl rfl ?_
            refine AL_o rfl rfl rfl rfl ?_
            refine AL_o rfl rfl rfl rfl ?_
            refine AL_p (x_pickT rfl rfl rfl) ?_
            refine AL_nil ?_
            refine AW_condT rfl ?_
            refine AW_seq ?_
            refine AW_region ?_
            refine AL_p (x_assign rfl rfl) ?_
            refine AL_nil ?_
            refine AW_ret (BQ_ret (BQ_ret ?_))
            exact ⟨rn [], ⟨⟨⟨_, rfl, vle_bool (by first | exact (fits_s h10).symm | exact (fits_d h14).symm | exact (fits_bad (k := k) (by omega) (fitAt_no (by omega) h30)).symm | exact (fits_bad (k := k) (by omega) (fitAt_ar (by omega) (by omega))).symm | exact (fits_bad (k := k) (by omega) (fitAt_apart (by omega) h45)).symm | ((refine (fits_bad (k := k) (by omega) (fitAt_minus (by omega) ?_)).symm; simp only [beq_false] at h55; omega)) | exact (fits_good h10 h14 hA (by omega)).symm)⟩, trivial⟩, trivial, trivial, rfl⟩⟩
          · try simp only [decide_eq_true_eq, decide_eq_false_iff_not, Bool.not_eq_true, Bool.not_eq_false, Bool.not_eq_true', Bool.not_eq_false', beq_iff_eq, bne_iff_ne, beq_eq_false_iff_ne, bne_eq_false_iff_eq, Int.not_lt, Int.not_le, ge_iff_le, gt_iff_lt] at h39
            refine AL_g rfl rfl (x_loadN (n := 2) rfl rfl rfl (by kernel_rfl) rfl rfl) ?_
            refine AL_g rfl rfl (x_field (off := 1) (o' := 1) rfl rfl rfl (by kernel_rfl) rfl) ?_
            refine AL_g rfl rfl (x_loadN (n := 2) rfl rfl rfl (by kernel_rfl) rfl rfl) ?_
            refine AL_gb rfl rfl (x_call0 rfl rfl rfl (apartS_c (namedIn s.rels (d.changes[k]'(by omega)).name).1 (d.changes[k]'(by omega)).plus (namedIn_small hs) (hd.2 (d.changes[k]'(by omega)) (List.getElem_mem _)).2.1) rfl rfl) (fun b45 h45 => ?_)
            refine AL_g rfl rfl (x_not rfl rfl) ?_
            refine AL_p (x_pickF rfl rfl rfl) ?_
            refine AL_p (x_move rfl rfl) ?_
            cases b45
            rotate_left
            · try simp only [decide_eq_true_eq, decide_eq_false_iff_not, Bool.not_eq_true, Bool.not_eq_false, Bool.not_eq_true', Bool.not_eq_false', beq_iff_eq, bne_iff_ne, beq_eq_false_iff_ne, bne_eq_false_iff_eq, Int.not_lt, Int.not_le, ge_iff_le, gt_iff_lt] at h45
              refine AL_g rfl rfl (x_field (off := 3) (o' := 3) rfl rfl rfl (by kernel_rfl) rfl) ?_
              refine AL_g rfl rfl (x_loadN (n := 2) rfl rfl rfl (by kernel_rfl) rfl rfl) ?_
              refine AL_g rfl rfl (x_loadN (n := 2) rfl rfl rfl (by kernel_rfl) rfl rfl) ?_
              refine AL_g rfl rfl (x_call1 rfl rfl rfl (siftS_c (d.changes[k]'(by omega)).minus (namedIn s.rels (d.changes[k]'(by omega)).name).1 false (hd.2 (d.changes[k]'(by omega)) (List.getElem_mem _)).2.2 (namedIn_small hs) 104) rfl rfl rfl rfl) ?_
              refine AL_g rfl rfl (x_fldv (off := 1) rfl rfl (by kernel_rfl) rfl) ?_
              refine AL_g rfl rfl (x_olen (E := 183) (n := 1) rfl rfl rfl (by kernel_rfl)) ?_
              refine AL_gb rfl rfl (x_gtr rfl rfl rfl) (fun b55 h55 => ?_)
              refine AL_p (x_pickF rfl rfl rfl) ?_
              refine AL_nil ?_
              cases b55
              rotate_left
              · try simp only [decide_eq_true_eq, decide_eq_false_iff_not, Bool.not_eq_true, Bool.not_eq_false, Bool.not_eq_true', Bool.not_eq_false', beq_iff_eq, bne_iff_ne, beq_eq_false_iff_ne, bne_eq_false_iff_eq, Int.not_lt, Int.not_le, ge_iff_le, gt_iff_lt] at h55
                refine AW_condT rfl ?_
                refine AW_seq ?_
                refine AW_region ?_
                refine AL_p (x_assign rfl rfl) ?_
                refine AL_nil ?_
                refine AW_ret (BQ_ret (BQ_ret ?_))
                exact ⟨rn [], ⟨⟨⟨_, rfl, vle_bool (by first | exact (fits_s h10).symm | exact (fits_d h14).symm | exact (fits_bad (k := k) (by omega) (fitAt_no (by omega) h30)).symm | exact (fits_bad (k := k) (by omega) (fitAt_ar (by omega) (by omega))).symm | exact (fits_bad (k := k) (by omega) (fitAt_apart (by omega) h45)).symm | ((refine (fits_bad (k := k) (by omega) (fitAt_minus (by omega) ?_)).symm; simp only [beq_false] at h55; omega)) | exact (fits_good h10 h14 hA (by omega)).symm)⟩, trivial⟩, trivial, trivial, rfl⟩⟩
              · try simp only [decide_eq_true_eq, decide_eq_false_iff_not, Bool.not_eq_true, Bool.not_eq_false, Bool.not_eq_true', Bool.not_eq_false', beq_iff_eq, bne_iff_ne, beq_eq_false_iff_ne, bne_eq_false_iff_eq, Int.not_lt, Int.not_le, ge_iff_le, gt_iff_lt] at h55
                refine AW_condF rfl ?_
                refine AW_skip ?_
                refine AW_region ?_
                refine AL_p (x_add rfl rfl rfl (IntWalk.i64_in _ (by omega))) ?_
                refine AL_p (x_move rfl rfl) ?_
                refine AL_nil ?_
                refine ⟨⟨k + 1, ⟨by omega, hA.succ (by omega) (fitAt_yes (by omega) h30 (by omega) h45 (by simp only [beq_false] at h55; omega))⟩⟩, rn [], ?_, by dsimp only; omega⟩
                exact ⟨by (repeat refine ⟨⟨_, rfl, by first | exact VLe.rf | exact vle_int (by dsimp only; omega)⟩, ?_⟩); exact trivial, by (repeat refine ⟨⟨_, rfl, by first | exact BLe.rf | exact BLe.box AllC.rf | exact BLe.arr (by exact rfl)⟩, ?_⟩); exact trivial, by repeat (first | exact trivial | refine ⟨⟨rfl, by first | (left; intro h; cases h) | (right; rfl), fun _ h => ⟨_, h⟩⟩, ?_⟩), rfl⟩
            · try simp only [decide_eq_true_eq, decide_eq_false_iff_not, Bool.not_eq_true, Bool.not_eq_false, Bool.not_eq_true', Bool.not_eq_false', beq_iff_eq, bne_iff_ne, beq_eq_false_iff_ne, bne_eq_false_iff_eq, Int.not_lt, Int.not_le, ge_iff_le, gt_iff_lt] at h45
              refine AL_o rfl rfl rfl rfl ?_
              refine AL_o rfl rfl rfl rfl ?_
              refine AL_o rfl rfl rfl rfl ?_
              refine AL_o rfl rfl rfl rfl ?_
              refine AL_o rfl rfl rfl rfl ?_
              refine AL_o rfl rfl rfl rfl ?_
              refine AL_o rfl rfl rfl rfl ?_
              refine AL_p (x_pickT rfl rfl rfl) ?_
              refine AL_nil ?_
              refine AW_condT rfl ?_
              refine AW_seq ?_
              refine AW_region ?_
              refine AL_p (x_assign rfl rfl) ?_
              refine AL_nil ?_
              refine AW_ret (BQ_ret (BQ_ret ?_))
              exact ⟨rn [], ⟨⟨⟨_, rfl, vle_bool (by first | exact (fits_s h10).symm | exact (fits_d h14).symm | exact (fits_bad (k := k) (by omega) (fitAt_no (by omega) h30)).symm | exact (fits_bad (k := k) (by omega) (fitAt_ar (by omega) (by omega))).symm | exact (fits_bad (k := k) (by omega) (fitAt_apart (by omega) h45)).symm | ((refine (fits_bad (k := k) (by omega) (fitAt_minus (by omega) ?_)).symm; simp only [beq_false] at h55; omega)) | exact (fits_good h10 h14 hA (by omega)).symm)⟩, trivial⟩, trivial, trivial, rfl⟩⟩
        · try simp only [decide_eq_true_eq, decide_eq_false_iff_not, Bool.not_eq_true, Bool.not_eq_false, Bool.not_eq_true', Bool.not_eq_false', beq_iff_eq, bne_iff_ne, beq_eq_false_iff_ne, bne_eq_false_iff_eq, Int.not_lt, Int.not_le, ge_iff_le, gt_iff_lt] at h30
          refine AL_o rfl rfl rfl rfl ?_
          refine AL_o rfl rfl rfl rfl ?_
          refine AL_o rfl rfl rfl rfl ?_
          refine AL_o rfl rfl rfl rfl ?_
          refine AL_o rfl rfl rfl rfl ?_
          refine AL_o rfl rfl rfl rfl ?_
          refine AL_p (x_pickT rfl rfl rfl) ?_
          refine AL_p (x_move rfl rfl) ?_
          refine AL_o rfl rfl rfl rfl ?_
          refine AL_o rfl rfl rfl rfl ?_
          refine AL_o rfl rfl rfl rfl ?_
          refine AL_o rfl rfl rfl rfl ?_
          refine AL_o rfl rfl rfl rfl ?_
          refine AL_p (x_pickT rfl rfl rfl) ?_
          refine AL_p (x_move rfl rfl) ?_
          refine AL_o rfl rfl rfl rfl ?_
          refine AL_o rfl rfl rfl rfl ?_
          refine AL_o rfl rfl rfl rfl ?_
          refine AL_o rfl rfl rfl rfl ?_
          refine AL_o rfl rfl rfl rfl ?_
          refine AL_o rfl rfl rfl rfl ?_
          refine AL_o rfl rfl rfl rfl ?_
          refine AL_p (x_pickT rfl rfl rfl) ?_
          refine AL_nil ?_
          refine AW_condT rfl ?_
          refine AW_seq ?_
          refine AW_region ?_
          refine AL_p (x_assign rfl rfl) ?_
          refine AL_nil ?_
          refine AW_ret (BQ_ret (BQ_ret ?_))
          exact ⟨rn [], ⟨⟨⟨_, rfl, vle_bool (by first | exact (fits_s h10).symm | exact (fits_d h14).symm | exact (fits_bad (k := k) (by omega) (fitAt_no (by omega) h30)).symm | exact (fits_bad (k := k) (by omega) (fitAt_ar (by omega) (by omega))).symm | exact (fits_bad (k := k) (by omega) (fitAt_apart (by omega) h45)).symm | ((refine (fits_bad (k := k) (by omega) (fitAt_minus (by omega) ?_)).symm; simp only [beq_false] at h55; omega)) | exact (fits_good h10 h14 hA (by omega)).symm)⟩, trivial⟩, trivial, trivial, rfl⟩⟩
      · try simp only [decide_eq_true_eq, decide_eq_false_iff_not, Bool.not_eq_true, Bool.not_eq_false, Bool.not_eq_true', Bool.not_eq_false', beq_iff_eq, bne_iff_ne, beq_eq_false_iff_ne, bne_eq_false_iff_eq, Int.not_lt, Int.not_le, ge_iff_le, gt_iff_lt] at h21
        refine AW_condF rfl ?_
        refine AW_exit (BQ_hit ?_)
        refine AW_seq ?_
        refine AW_region ?_
        refine AL_p (x_assign rfl rfl) ?_
        refine AL_nil ?_
        refine AW_ret ?_
        exact ⟨rn [], ⟨⟨⟨_, rfl, vle_bool (by first | exact (fits_s h10).symm | exact (fits_d h14).symm | exact (fits_bad (k := k) (by omega) (fitAt_no (by omega) h30)).symm | exact (fits_bad (k := k) (by omega) (fitAt_ar (by omega) (by omega))).symm | exact (fits_bad (k := k) (by omega) (fitAt_apart (by omega) h45)).symm | ((refine (fits_bad (k := k) (by omega) (fitAt_minus (by omega) ?_)).symm; simp only [beq_false] at h55; omega)) | exact (fits_good h10 h14 hA (by omega)).symm)⟩, trivial⟩, trivial, trivial, rfl⟩⟩
    · try simp only [decide_eq_true_eq, decide_eq_false_iff_not, Bool.not_eq_true, Bool.not_eq_false, Bool.not_eq_true', Bool.not_eq_false', beq_iff_eq, bne_iff_ne, beq_eq_false_iff_ne, bne_eq_false_iff_eq, Int.not_lt, Int.not_le, ge_iff_le, gt_iff_lt] at h14
      refine AW_condT rfl ?_
      refine AW_seq ?_
      refine AW_region ?_
      refine AL_p (x_assign rfl rfl) ?_
      refine AL_nil ?_
      refine AW_ret ?_
      exact ⟨rn [], ⟨⟨⟨_, rfl, vle_bool (by first | exact (fits_s h10).symm | exact (fits_d h14).symm | exact (fits_bad (k := k) (by omega) (fitAt_no (by omega) h30)).symm | exact (fits_bad (k := k) (by omega) (fitAt_ar (by omega) (by omega))).symm | exact (fits_bad (k := k) (by omega) (fitAt_apart (by omega) h45)).symm | ((refine (fits_bad (k := k) (by omega) (fitAt_minus (by omega) ?_)).symm; simp only [beq_false] at h55; omega)) | exact (fits_good h10 h14 hA (by omega)).symm)⟩, trivial⟩, trivial, trivial, rfl⟩⟩
  · try simp only [decide_eq_true_eq, decide_eq_false_iff_not, Bool.not_eq_true, Bool.not_eq_false, Bool.not_eq_true', Bool.not_eq_false', beq_iff_eq, bne_iff_ne, beq_eq_false_iff_ne, bne_eq_false_iff_eq, Int.not_lt, Int.not_le, ge_iff_le, gt_iff_lt] at h10
    refine AL_o rfl rfl rfl rfl ?_
    refine AL_o rfl rfl rfl rfl ?_
    refine AL_o rfl rfl rfl rfl ?_
    refine AL_p (x_pickT rfl rfl rfl) ?_
    refine AL_nil ?_
    refine AW_condT rfl ?_
    refine AW_seq ?_
    refine AW_region ?_
    refine AL_p (x_assign rfl rfl) ?_
    refine AL_nil ?_
    refine AW_ret ?_
    exact ⟨rn [], ⟨⟨⟨_, rfl, vle_bool (by first | exact (fits_s h10).symm | exact (fits_d h14).symm | exact (fits_bad (k := k) (by omega) (fitAt_no (by omega) h30)).symm | exact (fits_bad (k := k) (by omega) (fitAt_ar (by omega) (by omega))).symm | exact (fits_bad (k := k) (by omega) (fitAt_apart (by omega) h45)).symm | ((refine (fits_bad (k := k) (by omega) (fitAt_minus (by omega) ?_)).symm; simp only [beq_false] at h55; omega)) | exact (fits_good h10 h14 hA (by omega)).symm)⟩, trivial⟩, trivial, trivial, rfl⟩⟩

set_option maxHeartbeats 4000000 in
theorem deltaFitsI_c (s : Storet) (d : Deltat) (hs : smallStore s) (hd : smallDelta d) : AC Try.prog 30 [.agg (storeC s), .agg (deltaC d)] [] (.one (.c (.bool (deltaFits s d)))) [] := by
  refine AC_body1 Try.func30 rfl rfl Try.ntmps30 rfl Try.results30 ?_
  refine AW_seq ?_
  refine AW_region ?_
  refine AL_p (x_box 100 rfl rfl rfl rfl rfl rfl rfl) ?_
  refine AL_p (x_box 101 rfl rfl rfl rfl rfl rfl rfl) ?_
  refine AL_p (x_assign rfl rfl) ?_
  refine AL_nil ?_
  refine AW_seq ?_
  refine AW_seq ?_
  refine AW_region ?_
  refine AL_p (x_loadN (n := 1) rfl rfl rfl (by kernel_rfl) rfl rfl) ?_
  refine AL_b (x_call0 rfl rfl rfl (storeOkI_c _ hs) rfl rfl) (fun b10 h10 => ?_)
  refine AL_p (x_not rfl rfl) ?_
  refine AL_p (x_move rfl rfl) ?_
  cases b10
  rotate_left
  · try simp only [decide_eq_true_eq, decide_eq_false_iff_not, Bool.not_eq_true, Bool.not_eq_false, Bool.not_eq_true', Bool.not_eq_false', beq_iff_eq, bne_iff_ne, beq_eq_false_iff_ne, bne_eq_false_iff_eq, Int.not_lt, Int.not_le, ge_iff_le, gt_iff_lt] at h10
    refine AL_g rfl rfl (x_loadN (n := 1) rfl rfl rfl (by kernel_rfl) rfl rfl) ?_
    refine AL_gb rfl rfl (x_call0 rfl rfl rfl (deltaOkI_c _ hd) rfl rfl) (fun b14 h14 => ?_)
    refine AL_g rfl rfl (x_not rfl rfl) ?_
    refine AL_p (x_pickF rfl rfl rfl) ?_
    refine AL_nil ?_
    cases b14
    rotate_left
    · try simp only [decide_eq_true_eq, decide_eq_false_iff_not, Bool.not_eq_true, Bool.not_eq_false, Bool.not_eq_true', Bool.not_eq_false', beq_iff_eq, bne_iff_ne, beq_eq_false_iff_ne, bne_eq_false_iff_eq, Int.not_lt, Int.not_le, ge_iff_le, gt_iff_lt] at h14
      refine AW_condF rfl ?_
      refine AW_skip ?_
      refine AW_seq ?_
      refine AW_seq ?_
      refine AW_region ?_
      refine AL_p (x_field (off := 0) (o' := 0) rfl rfl rfl (by kernel_rfl) rfl) ?_
      refine AL_p (x_load1 rfl rfl rfl (by kernel_rfl) rfl) ?_
      refine AL_p (x_len (E := 130) (n := 5) rfl rfl (by kernel_rfl)) ?_
      refine AL_p (x_move rfl rfl) ?_
      refine AL_nil ?_
      refine AW_block ?_
      refine AW_loop2 (ι := {q : Nat // q ≤ d.changes.length ∧ AllAt (fitAt s d.changes) q}) (fun p => [(20, .one (.c (.int .i64 ((p.1) : Int))))]) (fun p => []) [2, 18, 19] [100, 101] (fun p => d.changes.length - (p.1)) ⟨0, ⟨by have := hd.1; omega, .zero⟩⟩ (rn []) ?_ ?_
      exact ⟨by (repeat refine ⟨⟨_, rfl, by first | exact VLe.rf | exact vle_int (by dsimp only; omega)⟩, ?_⟩); exact trivial, by (repeat refine ⟨⟨_, rfl, by first | exact BLe.rf | exact BLe.box AllC.rf | exact BLe.arr (by exact rfl)⟩, ?_⟩); exact trivial, by repeat (first | exact trivial | refine ⟨⟨rfl, by first | (left; intro h; cases h) | (right; rfl), fun _ h => ⟨_, h⟩⟩, ?_⟩), rfl⟩
      rintro ⟨k, hinv⟩
      dsimp only
      obtain ⟨hk, hA⟩ := hinv
      have hl := hd.1
      refine AW_seq ?_
      refine AW_region ?_
      refine AL_b (x_lss rfl rfl rfl) (fun b21 h21 => ?_)
      refine AL_nil ?_
      refine AW_seq ?_
      cases b21
      rotate_left
      · try simp only [decide_eq_true_eq, decide_eq_false_iff_not, Bool.not_eq_true, Bool.not_eq_false, Bool.not_eq_true', Bool.not_eq_false', beq_iff_eq, bne_iff_ne, beq_eq_false_iff_ne, bne_eq_false_iff_eq, Int.not_lt, Int.not_le, ge_iff_le, gt_iff_lt] at h21
        refine AW_condT rfl ?_
        refine AW_skip ?_
        refine AW_seq ?_
        refine AW_block ?_
        refine AW_seq ?_
        refine AW_region ?_
        refine AL_p (x_index (E := 130) (n := 5) rfl rfl rfl (by kernel_rfl) rfl (k := k) (by omega) (by omega)) ?_
        refine AL_p (x_eloadW (n := 5) rfl rfl (by kernel_rfl) rfl) ?_
        refine AL_p (x_alloc (z := .agg #[.string ⟨#[]⟩, .int .i64 0, .slice none 0 0, .int .i64 0, .slice none 0 0]) 102 rfl (by kernel_rfl) rfl rfl rfl rfl) ?_
        refine AL_p (x_store (n := 5) rfl rfl rfl rfl (by kernel_rfl) rfl rfl rfl) ?_
        refine AL_nil ?_
        refine AW_seq ?_
        refine AW_region ?_
        refine AL_p (x_loadN (n := 1) rfl rfl rfl (by kernel_rfl) rfl rfl) ?_
        refine AL_p (x_field (off := 0) (o' := 0) rfl rfl rfl (by kernel_rfl) rfl) ?_
        refine AL_p (x_load1 rfl rfl rfl (by kernel_rfl) rfl) ?_
        refine AL_p (x_call0 rfl rfl rfl (namedI_c s (d.changes[k]'(by omega)).name hs) rfl rfl) ?_
        refine AL_p (x_move rfl rfl) ?_
        refine AL_p (x_extract rfl rfl rfl) ?_
        refine AL_b (x_extract rfl rfl rfl) (fun b30 h30 => ?_)
        refine AL_p (x_alloc (z := .agg #[.int .i64 0, .slice none 0 0]) 103 rfl (by kernel_rfl) rfl rfl rfl rfl) ?_
        refine AL_p (x_store (n := 2) rfl rfl rfl rfl (by kernel_rfl) rfl rfl rfl) ?_
        refine AL_p (x_assign rfl rfl) ?_
        refine AL_nil ?_
        refine AW_seq ?_
        refine AW_region ?_
        refine AL_p (x_move rfl rfl) ?_
        refine AL_p (x_not rfl rfl) ?_
        refine AL_p (x_move rfl rfl) ?_
        cases b30
        rotate_left
        · try simp only [decide_eq_true_eq, decide_eq_false_iff_not, Bool.not_eq_true, Bool.not_eq_false, Bool.not_eq_true', Bool.not_eq_false', beq_iff_eq, bne_iff_ne, beq_eq_false_iff_ne, bne_eq_false_iff_eq, Int.not_lt, Int.not_le, ge_iff_le, gt_iff_lt] at h30
          refine AL_g rfl rfl (x_field (off := 0) (o' := 0) rfl rfl rfl (by kernel_rfl) rfl) ?_
          refine AL_g rfl rfl (x_load1 rfl rfl rfl (by kernel_rfl) rfl) ?_
          refine AL_g rfl rfl (x_field (off := 1) (o' := 1) rfl rfl rfl (by kernel_rfl) rfl) ?_
          refine AL_g rfl rfl (x_field (off := 0) (o' := 1) rfl rfl rfl (by kernel_rfl) rfl) ?_
          refine AL_g rfl rfl (x_load1 rfl rfl rfl (by kernel_rfl) rfl) ?_
          refine AL_gb rfl rfl (x_neq rfl rfl rfl) (fun b39 h39 => ?_)
          refine AL_p (x_pickF rfl rfl rfl) ?_
          refine AL_p (x_move rfl rfl) ?_
          cases b39
          rotate_left
          · try simp only [decide_eq_true_eq, decide_eq_false_iff_not, Bool.not_eq_true, Bool.not_eq_false, Bool.not_eq_true', Bool.not_eq_false', beq_iff_eq, bne_iff_ne, beq_eq_false_iff_ne, bne_eq_false_iff_eq, Int.not_lt, Int.not_le, ge_iff_le, gt_iff_lt] at h39
            refine AL_o rfl rfl rfl rfl ?_
            refine AL_o rfl rfl rfl rfl ?_
            refine AL_o rfl rfl rfl rfl ?_
            refine AL_o rfl rfl rfl rfl ?_
            refine AL_o rfl rfl rfl rfl ?_
            refine AL_o rfl rfl rfl rfl ?_
            refine AL_o rfl rfl rfl rfl ?_
            refine AL_p (x_pickT rfl rfl rfl) ?_
            refine AL_p (x_move rfl rfl) ?_
            refine AL_o rfl rfl rfl rfl ?_
            refine AL_o rfl rfl rfl rfl ?_
            refine AL_o rfl rfl rfl rfl ?_
            refine AL_o rfl rfl rfl rfl ?_
            refine AL_o rfl rfl rfl rfl ?_
            refine AL_o rfl rfl rfl rfl ?_
            refine AL_o rfl rfl rfl rfl ?_
            refine AL_p (x_pickT rfl rfl rfl) ?_
            refine AL_nil ?_
            refine AW_condT rfl ?_
            refine AW_seq ?_
            refine AW_region ?_
            refine AL_p (x_assign rfl rfl) ?_
            refine AL_nil ?_
            refine AW_ret (BQ_ret (BQ_ret ?_))
            exact ⟨rn [], ⟨⟨⟨_, rfl, vle_bool (by first | exact (fits_s h10).symm | exact (fits_d h14).symm | exact (fits_bad (k := k) (by omega) (fitAt_no (by omega) h30)).symm | exact (fits_bad (k := k) (by omega) (fitAt_ar (by omega) (by omega))).symm | exact (fits_bad (k := k) (by omega) (fitAt_minus (by omega) (by omega))).symm | exact (fits_bad (k := k) (by omega) (fitAt_apart (by omega) (apart_comm.trans (apart_not (by omega))))).symm | exact (fits_good h10 h14 hA (by omega)).symm)⟩, trivial⟩, trivial, trivial, rfl⟩⟩
          · try simp only [decide_eq_true_eq, decide_eq_false_iff_not, Bool.not_eq_true, Bool.not_eq_false, Bool.not_eq_true', Bool.not_eq_false', beq_iff_eq, bne_iff_ne, beq_eq_false_iff_ne, bne_eq_false_iff_eq, Int.not_lt, Int.not_le, ge_iff_le, gt_iff_lt] at h39
            refine AL_g rfl rfl (x_field (off := 3) (o' := 3) rfl rfl rfl (by kernel_rfl) rfl) ?_
            refine AL_g rfl rfl (x_loadN (n := 2) rfl rfl rfl (by kernel_rfl) rfl rfl) ?_
            refine AL_g rfl rfl (x_loadN (n := 2) rfl rfl rfl (by kernel_rfl) rfl rfl) ?_
            refine AL_g rfl rfl (x_call1 rfl rfl rfl (minusI_c (d.changes[k]'(by omega)).minus (namedIn s.rels (d.changes[k]'(by omega)).name).1 (hd.2 (d.changes[k]'(by omega)) (List.getElem_mem _)).2.2 (namedIn_small hs).1 (relOk_sorted (namedIn_ok h10 h30)) (relOk_vals2 (two_right (deltaOk_two h14 (k := k) (by omega)))) 104) rfl rfl rfl rfl) ?_
            refine AL_g rfl rfl (x_fldv (off := 1) rfl rfl (by kernel_rfl) rfl) ?_
            refine AL_g rfl rfl (x_olen (E := 183) (n := 1) rfl rfl rfl (by kernel_rfl)) ?_
            refine AL_gb rfl rfl (x_gtr rfl rfl rfl) (fun b48 h48 => ?_)
            refine AL_p (x_pickF rfl rfl rfl) ?_
            refine AL_p (x_move rfl rfl) ?_
            cases b48
            rotate_left
            · try simp only [decide_eq_true_eq, decide_eq_false_iff_not, Bool.not_eq_true, Bool.not_eq_false, Bool.not_eq_true', Bool.not_eq_false', beq_iff_eq, bne_iff_ne, beq_eq_false_iff_ne, bne_eq_false_iff_eq, Int.not_lt, Int.not_le, ge_iff_le, gt_iff_lt] at h48
              refine AL_o rfl rfl rfl rfl ?_
              refine AL_o rfl rfl rfl rfl ?_
              refine AL_o rfl rfl rfl rfl ?_
              refine AL_o rfl rfl rfl rfl ?_
              refine AL_o rfl rfl rfl rfl ?_
              refine AL_o rfl rfl rfl rfl ?_
              refine AL_o rfl rfl rfl rfl ?_
              refine AL_p (x_pickT rfl rfl rfl) ?_
              refine AL_nil ?_
              refine AW_condT rfl ?_
              refine AW_seq ?_
              refine AW_region ?_
              refine AL_p (x_assign rfl rfl) ?_
              refine AL_nil ?_
              refine AW_ret (BQ_ret (BQ_ret ?_))
              exact ⟨rn [], ⟨⟨⟨_, rfl, vle_bool (by first | exact (fits_s h10).symm | exact (fits_d h14).symm | exact (fits_bad (k := k) (by omega) (fitAt_no (by omega) h30)).symm | exact (fits_bad (k := k) (by omega) (fitAt_ar (by omega) (by omega))).symm | exact (fits_bad (k := k) (by omega) (fitAt_minus (by omega) (by omega))).symm | exact (fits_bad (k := k) (by omega) (fitAt_apart (by omega) (apart_comm.trans (apart_not (by omega))))).symm | exact (fits_good h10 h14 hA (by omega)).symm)⟩, trivial⟩, trivial, trivial, rfl⟩⟩
            · try simp only [decide_eq_true_eq, decide_eq_false_iff_not, Bool.not_eq_true, Bool.not_eq_false, Bool.not_eq_true', Bool.not_eq_false', beq_iff_eq, bne_iff_ne, beq_eq_false_iff_ne, bne_eq_false_iff_eq, Int.not_lt, Int.not_le, ge_iff_le, gt_iff_lt] at h48
              refine AL_g rfl rfl (x_field (off := 1) (o' := 1) rfl rfl rfl (by kernel_rfl) rfl) ?_
              refine AL_g rfl rfl (x_loadN (n := 2) rfl rfl rfl (by kernel_rfl) rfl rfl) ?_
              refine AL_g rfl rfl (x_loadN (n := 2) rfl rfl rfl (by kernel_rfl) rfl rfl) ?_
              refine AL_g rfl rfl (x_call1 rfl rfl rfl (bothI_c (d.changes[k]'(by omega)).plus (namedIn s.rels (d.changes[k]'(by omega)).name).1 (hd.2 (d.changes[k]'(by omega)) (List.getElem_mem _)).2.1 (namedIn_small hs).1 (relOk_sorted (namedIn_ok h10 h30)) (two_vals (deltaOk_two h14 (k := k) (by omega))) 105) rfl rfl rfl rfl) ?_
              refine AL_g rfl rfl (x_fldv (off := 1) rfl rfl (by kernel_rfl) rfl) ?_
              refine AL_g rfl rfl (x_olen (E := 183) (n := 1) rfl rfl rfl (by kernel_rfl)) ?_
              refine AL_gb rfl rfl (x_gtr rfl rfl rfl) (fun b57 h57 => ?_)
              refine AL_p (x_pickF rfl rfl rfl) ?_
              refine AL_nil ?_
              cases b57
              rotate_left
              · try simp only [decide_eq_true_eq, decide_eq_false_iff_not, Bool.not_eq_true, Bool.not_eq_false, Bool.not_eq_true', Bool.not_eq_false', beq_iff_eq, bne_iff_ne, beq_eq_false_iff_ne, bne_eq_false_iff_eq, Int.not_lt, Int.not_le, ge_iff_le, gt_iff_lt] at h57
                refine AW_condT rfl ?_
                refine AW_seq ?_
                refine AW_region ?_
                refine AL_p (x_assign rfl rfl) ?_
                refine AL_nil ?_
                refine AW_ret (BQ_ret (BQ_ret ?_))
                exact ⟨rn [], ⟨⟨⟨_, rfl, vle_bool (by first | exact (fits_s h10).symm | exact (fits_d h14).symm | exact (fits_bad (k := k) (by omega) (fitAt_no (by omega) h30)).symm | exact (fits_bad (k := k) (by omega) (fitAt_ar (by omega) (by omega))).symm | exact (fits_bad (k := k) (by omega) (fitAt_minus (by omega) (by omega))).symm | exact (fits_bad (k := k) (by omega) (fitAt_apart (by omega) (apart_comm.trans (apart_not (by omega))))).symm | exact (fits_good h10 h14 hA (by omega)).symm)⟩, trivial⟩, trivial, trivial, rfl⟩⟩
              · try simp only [decide_eq_true_eq, decide_eq_false_iff_not, Bool.not_eq_true, Bool.not_eq_false, Bool.not_eq_true', Bool.not_eq_false', beq_iff_eq, bne_iff_ne, beq_eq_false_iff_ne, bne_eq_false_iff_eq, Int.not_lt, Int.not_le, ge_iff_le, gt_iff_lt] at h57
                refine AW_condF rfl ?_
                refine AW_skip ?_
                refine AW_region ?_
                refine AL_p (x_add rfl rfl rfl (IntWalk.i64_in _ (by omega))) ?_
                refine AL_p (x_move rfl rfl) ?_
                refine AL_nil ?_
                refine ⟨⟨k + 1, ⟨by omega, hA.succ (by omega) (fitAt_yes (by omega) h30 (by omega) (apart_comm.trans (apart_iff.2 (by omega))) (by omega))⟩⟩, rn [], ?_, by dsimp only; omega⟩
                exact ⟨by (repeat refine ⟨⟨_, rfl, by first | exact VLe.rf | exact vle_int (by dsimp only; omega)⟩, ?_⟩); exact trivial, by (repeat refine ⟨⟨_, rfl, by first | exact BLe.rf | exact BLe.box AllC.rf | exact BLe.arr (by exact rfl)⟩, ?_⟩); exact trivial, by repeat (first | exact trivial | refine ⟨⟨rfl, by first | (left; intro h; cases h) | (right; rfl), fun _ h => ⟨_, h⟩⟩, ?_⟩), rfl⟩
        · try simp only [decide_eq_true_eq, decide_eq_false_iff_not, Bool.not_eq_true, Bool.not_eq_false, Bool.not_eq_true', Bool.not_eq_false', beq_iff_eq, bne_iff_ne, beq_eq_false_iff_ne, bne_eq_false_iff_eq, Int.not_lt, Int.not_le, ge_iff_le, gt_iff_lt] at h30
          refine AL_o rfl rfl rfl rfl ?_
          refine AL_o rfl rfl rfl rfl ?_
          refine AL_o rfl rfl rfl rfl ?_
          refine AL_o rfl rfl rfl rfl ?_
          refine AL_o rfl rfl rfl rfl ?_
          refine AL_o rfl rfl rfl rfl ?_
          refine AL_p (x_pickT rfl rfl rfl) ?_
          refine AL_p (x_move rfl rfl) ?_
          refine AL_o rfl rfl rfl rfl ?_
          refine AL_o rfl rfl rfl rfl ?_
          refine AL_o rfl rfl rfl rfl ?_
          refine AL_o rfl rfl rfl rfl ?_
          refine AL_o rfl rfl rfl rfl ?_
          refine AL_o rfl rfl rfl rfl ?_
          refine AL_o rfl rfl rfl rfl ?_
          refine AL_p (x_pickT rfl rfl rfl) ?_
          refine AL_p (x_move rfl rfl) ?_
          refine AL_o rfl rfl rfl rfl ?_
          refine AL_o rfl rfl rfl rfl ?_
          refine AL_o rfl rfl rfl rfl ?_
          refine AL_o rfl rfl rfl rfl ?_
          refine AL_o rfl rfl rfl rfl ?_
          refine AL_o rfl rfl rfl rfl ?_
          refine AL_o rfl rfl rfl rfl ?_
          refine AL_p (x_pickT rfl rfl rfl) ?_
          refine AL_nil ?_
          refine AW_condT rfl ?_
          refine AW_seq ?_
          refine AW_region ?_
          refine AL_p (x_assign rfl rfl) ?_
          refine AL_nil ?_
          refine AW_ret (BQ_ret (BQ_ret ?_))
          exact ⟨rn [], ⟨⟨⟨_, rfl, vle_bool (by first | exact (fits_s h10).symm | exact (fits_d h14).symm | exact (fits_bad (k := k) (by omega) (fitAt_no (by omega) h30)).symm | exact (fits_bad (k := k) (by omega) (fitAt_ar (by omega) (by omega))).symm | exact (fits_bad (k := k) (by omega) (fitAt_minus (by omega) (by omega))).symm | exact (fits_bad (k := k) (by omega) (fitAt_apart (by omega) (apart_comm.trans (apart_not (by omega))))).symm | exact (fits_good h10 h14 hA (by omega)).symm)⟩, trivial⟩, trivial, trivial, rfl⟩⟩
      · try simp only [decide_eq_true_eq, decide_eq_false_iff_not, Bool.not_eq_true, Bool.not_eq_false, Bool.not_eq_true', Bool.not_eq_false', beq_iff_eq, bne_iff_ne, beq_eq_false_iff_ne, bne_eq_false_iff_eq, Int.not_lt, Int.not_le, ge_iff_le, gt_iff_lt] at h21
        refine AW_condF rfl ?_
        refine AW_exit (BQ_hit ?_)
        refine AW_seq ?_
        refine AW_region ?_
        refine AL_p (x_assign rfl rfl) ?_
        refine AL_nil ?_
        refine AW_ret ?_
        exact ⟨rn [], ⟨⟨⟨_, rfl, vle_bool (by first | exact (fits_s h10).symm | exact (fits_d h14).symm | exact (fits_bad (k := k) (by omega) (fitAt_no (by omega) h30)).symm | exact (fits_bad (k := k) (by omega) (fitAt_ar (by omega) (by omega))).symm | exact (fits_bad (k := k) (by omega) (fitAt_minus (by omega) (by omega))).symm | exact (fits_bad (k := k) (by omega) (fitAt_apart (by omega) (apart_comm.trans (apart_not (by omega))))).symm | exact (fits_good h10 h14 hA (by omega)).symm)⟩, trivial⟩, trivial, trivial, rfl⟩⟩
    · try simp only [decide_eq_true_eq, decide_eq_false_iff_not, Bool.not_eq_true, Bool.not_eq_false, Bool.not_eq_true', Bool.not_eq_false', beq_iff_eq, bne_iff_ne, beq_eq_false_iff_ne, bne_eq_false_iff_eq, Int.not_lt, Int.not_le, ge_iff_le, gt_iff_lt] at h14
      refine AW_condT rfl ?_
      refine AW_seq ?_
      refine AW_region ?_
      refine AL_p (x_assign rfl rfl) ?_
      refine AL_nil ?_
      refine AW_ret ?_
      exact ⟨rn [], ⟨⟨⟨_, rfl, vle_bool (by first | exact (fits_s h10).symm | exact (fits_d h14).symm | exact (fits_bad (k := k) (by omega) (fitAt_no (by omega) h30)).symm | exact (fits_bad (k := k) (by omega) (fitAt_ar (by omega) (by omega))).symm | exact (fits_bad (k := k) (by omega) (fitAt_minus (by omega) (by omega))).symm | exact (fits_bad (k := k) (by omega) (fitAt_apart (by omega) (apart_comm.trans (apart_not (by omega))))).symm | exact (fits_good h10 h14 hA (by omega)).symm)⟩, trivial⟩, trivial, trivial, rfl⟩⟩
  · try simp only [decide_eq_true_eq, decide_eq_false_iff_not, Bool.not_eq_true, Bool.not_eq_false, Bool.not_eq_true', Bool.not_eq_false', beq_iff_eq, bne_iff_ne, beq_eq_false_iff_ne, bne_eq_false_iff_eq, Int.not_lt, Int.not_le, ge_iff_le, gt_iff_lt] at h10
    refine AL_o rfl rfl rfl rfl ?_
    refine AL_o rfl rfl rfl rfl ?_
    refine AL_o rfl rfl rfl rfl ?_
    refine AL_p (x_pickT rfl rfl rfl) ?_
    refine AL_nil ?_
    refine AW_condT rfl ?_
    refine AW_seq ?_
    refine AW_region ?_
    refine AL_p (x_assign rfl rfl) ?_
    refine AL_nil ?_
    refine AW_ret ?_
    exact ⟨rn [], ⟨⟨⟨_, rfl, vle_bool (by first | exact (fits_s h10).symm | exact (fits_d h14).symm | exact (fits_bad (k := k) (by omega) (fitAt_no (by omega) h30)).symm | exact (fits_bad (k := k) (by omega) (fitAt_ar (by omega) (by omega))).symm | exact (fits_bad (k := k) (by omega) (fitAt_minus (by omega) (by omega))).symm | exact (fits_bad (k := k) (by omega) (fitAt_apart (by omega) (apart_comm.trans (apart_not (by omega))))).symm | exact (fits_good h10 h14 hA (by omega)).symm)⟩, trivial⟩, trivial, trivial, rfl⟩⟩
end Go.Proofs.Ytgmlecghklaomaa

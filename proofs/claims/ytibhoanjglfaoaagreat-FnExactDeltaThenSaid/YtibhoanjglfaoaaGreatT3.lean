/- Lemmas of the walks, part 3. -/
import Derived.Test.YtibhoanjglfaoaaGreatT2
import Derived.Sort.Grow
import Derived.Laws.CopyRow
import Derived.Laws.NewBlocks
import Derived.Lib.AppendZerosOnto
import Derived.Lib.Overlaps
import Derived.Lib.SliceRun
import Derived.Lib.JoinLaws
import Derived.Shelf.Spec.SlicesInsert
import Derived.Deep.RegionLaw
import Derived.Shelf.SlSortCmp.WholeK
import Derived.Test.YtibhoanjglfaoaaGreatRows
import Derived.Shelf.Spec.SlicesGrow
import Derived.Lib.AppendStr
import Derived.Lib.ConvBytes
import Derived.Lib.BufferRead
/- The laws' own functions (printed by walk.py) -/
namespace Go.Proofs.YtibhoanjglfaoaaGreat
open Go.RowKit
set_option linter.unusedVariables false
set_option linter.unusedSimpArgs false
set_option maxRecDepth 100000

set_option maxHeartbeats 4000000 in
theorem szValue_c (x : Val) (left : Int) (l0 : 0 ≤ left) (l1 : left ≤ 1048576) : AC Tryz.prog 186 [.agg (valC x), .one (.c (.int .i64 left))] [] (.one (.c (.int .i64 (szR (totValue x) left)))) [] := by
  refine AC_body1 Tryz.func186 rfl rfl Tryz.ntmps186 rfl Tryz.results186 ?_
  refine AW_aggsmax 0 1 rfl rfl (fun hs0_1 => ?_)
  refine AW_seq ?_
  refine AW_region ?_
  refine AL_p (x_box 100 rfl rfl rfl rfl rfl rfl rfl) ?_
  refine AL_p (x_assign rfl rfl) ?_
  refine AL_nil ?_
  refine AW_seq ?_
  refine AW_region ?_
  refine AL_p (x_move rfl rfl) ?_
  refine AL_p (x_field (off := 1) (o' := 1) rfl rfl rfl (by kernel_rfl) rfl) ?_
  refine AL_p (x_load1 rfl rfl rfl (by kernel_rfl) rfl) ?_
  refine AL_p (x_lens rfl rfl (by kernel_rfl)) ?_
  refine AL_p (x_sub rfl rfl rfl (IntWalk.i64_in _ (by omega))) ?_
  refine AL_p (x_assign rfl rfl) ?_
  refine AL_nil ?_
  refine AW_seq ?_
  refine AW_seq ?_
  refine AW_region ?_
  refine AL_p (x_move rfl rfl) ?_
  refine AL_b (x_lss rfl rfl rfl) (fun b11 h11 => ?_)
  refine AL_nil ?_
  cases b11
  rotate_left
  · try simp only [tdy] at h11
    refine AW_condT rfl ?_
    refine AW_seq ?_
    refine AW_region ?_
    refine AL_p (x_assign rfl rfl) ?_
    refine AL_nil ?_
    refine AW_ret ?_
    exact ⟨rn [], ⟨⟨⟨_, rfl, vle_int (by first | (simp only [totValue]; unfold szR; omega) | (simp only [totValue]; done))⟩, trivial⟩, trivial, trivial, rfl⟩⟩
  try simp only [tdy] at h11
  refine AW_condF rfl ?_
  refine AW_skip ?_
  refine AW_seq ?_
  refine AW_region ?_
  refine AL_p (x_move rfl rfl) ?_
  refine AL_p (x_assign rfl rfl) ?_
  refine AL_nil ?_
  refine AW_ret ?_
  exact ⟨rn [], ⟨⟨⟨_, rfl, vle_int (by first | (simp only [totValue]; unfold szR; omega) | (simp only [totValue]; done))⟩, trivial⟩, trivial, trivial, rfl⟩⟩

set_option maxHeartbeats 4000000 in
theorem eqValue_c (x : Val) : AC Tryz.prog 188 [.agg (valC x), .agg (valC x)] [] (.one (.c (.bool true))) [] := by
  refine AC_body1 Tryz.func188 rfl rfl Tryz.ntmps188 rfl Tryz.results188 ?_
  refine AW_seq ?_
  refine AW_region ?_
  refine AL_p (x_box 100 rfl rfl rfl rfl rfl rfl rfl) ?_
  refine AL_p (x_box 101 rfl rfl rfl rfl rfl rfl rfl) ?_
  refine AL_p (x_assign rfl rfl) ?_
  refine AL_nil ?_
  refine AW_seq ?_
  refine AW_seq ?_
  refine AW_region ?_
  refine AL_p (x_field (off := 0) (o' := 0) rfl rfl rfl (by kernel_rfl) rfl) ?_
  refine AL_p (x_load1 rfl rfl rfl (by kernel_rfl) rfl) ?_
  refine AL_p (x_field (off := 0) (o' := 0) rfl rfl rfl (by kernel_rfl) rfl) ?_
  refine AL_p (x_load1 rfl rfl rfl (by kernel_rfl) rfl) ?_
  refine AL_b (x_neq rfl rfl rfl) (fun b9 h9 => ?_)
  refine AL_nil ?_
  cases b9
  rotate_left
  · exfalso; first | (simp [ba_beq_self] at h9; done) | grind
  try simp only [tdy] at h9
  refine AW_condF rfl ?_
  refine AW_skip ?_
  refine AW_seq ?_
  refine AW_seq ?_
  refine AW_region ?_
  refine AL_p (x_field (off := 1) (o' := 1) rfl rfl rfl (by kernel_rfl) rfl) ?_
  refine AL_p (x_load1 rfl rfl rfl (by kernel_rfl) rfl) ?_
  refine AL_p (x_field (off := 1) (o' := 1) rfl rfl rfl (by kernel_rfl) rfl) ?_
  refine AL_p (x_load1 rfl rfl rfl (by kernel_rfl) rfl) ?_
  refine AL_b (x_sneq rfl rfl rfl) (fun b14 h14 => ?_)
  refine AL_nil ?_
  cases b14
  rotate_left
  · exfalso; first | (simp [ba_beq_self] at h14; done) | grind
  try simp only [tdy] at h14
  refine AW_condF rfl ?_
  refine AW_skip ?_
  refine AW_seq ?_
  refine AW_region ?_
  refine AL_p (x_assign rfl rfl) ?_
  refine AL_nil ?_
  refine AW_ret ?_
  exact ⟨rn [], ⟨⟨⟨_, rfl, vle_bool (rfl)⟩, trivial⟩, trivial, trivial, rfl⟩⟩

set_option maxHeartbeats 4000000 in
theorem toValue_c (x : Val) : AC Tryz.prog 187 [.agg (valC x)] [] (.agg (valC x)) [] := by
  refine AC_bodyC (n := 2) (k := 9) (T := [(2, .one (.ptr 9 0))]) (Lf := ((9, some (.box (valC x))) :: [])) Tryz.func187 rfl rfl Tryz.ntmps187 rfl Tryz.results187 rfl rfl (by kernel_rfl) rfl rfl ⟨trivial, (by repeat (first | exact trivial | refine ⟨⟨_, rfl, BLe.rf⟩, ?_⟩)), (by repeat (first | exact trivial | refine ⟨⟨rfl, by first | (left; intro h; cases h) | (right; rfl), by first | exact (fun _ h => ⟨_, h⟩) | exact (fun _ _ => ⟨_, rfl⟩) | (intro _ h; cases h)⟩, ?_⟩)), rfl⟩ ?_
  refine AW_seq ?_
  refine AW_region ?_
  refine AL_p (x_box 100 rfl rfl rfl rfl rfl rfl rfl) ?_
  refine AL_p (x_alloc (z := .agg #[.int .i64 0, .string ⟨#[]⟩]) 101 rfl (by kernel_rfl) rfl rfl rfl rfl) ?_
  refine AL_nil ?_
  refine AW_seq ?_
  refine AW_region ?_
  refine AL_p (x_alloc (z := .agg #[.int .i64 0, .string ⟨#[]⟩]) 102 rfl (by kernel_rfl) rfl rfl rfl rfl) ?_
  refine AL_nil ?_
  refine AW_seq ?_
  refine AW_region ?_
  refine AL_p (x_field (off := 0) (o' := 0) rfl rfl rfl (by kernel_rfl) rfl) ?_
  refine AL_p (x_load1 rfl rfl rfl (by kernel_rfl) rfl) ?_
  refine AL_p (x_field (off := 0) (o' := 0) rfl rfl rfl (by kernel_rfl) rfl) ?_
  refine AL_p (x_store (n := 1) rfl rfl rfl rfl (by kernel_rfl) rfl rfl rfl) ?_
  refine AL_nil ?_
  refine AW_seq ?_
  refine AW_region ?_
  refine AL_p (x_field (off := 1) (o' := 1) rfl rfl rfl (by kernel_rfl) rfl) ?_
  refine AL_p (x_load1 rfl rfl rfl (by kernel_rfl) rfl) ?_
  refine AL_p (x_field (off := 1) (o' := 1) rfl rfl rfl (by kernel_rfl) rfl) ?_
  refine AL_p (x_store (n := 1) rfl rfl rfl rfl (by kernel_rfl) rfl rfl rfl) ?_
  refine AL_nil ?_
  refine AW_seq ?_
  refine AW_region ?_
  refine AL_p (x_loadN (n := 2) rfl rfl rfl (by kernel_rfl) rfl rfl) ?_
  refine AL_p (x_store (n := 2) rfl rfl rfl rfl (by kernel_rfl) rfl rfl rfl) ?_
  refine AL_nil ?_
  refine AW_ret ?_
  exact ⟨rn [(9, 101)], ⟨⟨⟨_, rfl, VLe.rf⟩, trivial⟩, ⟨⟨_, rfl, by first | exact BLe.rf | (subst_vars; exact BLe.rf)⟩, trivial⟩, trivial, rfl⟩⟩

set_option maxHeartbeats 4000000 in
theorem szValueS_c (xs : List (Val)) (left : Int) (l0 : 0 ≤ left) (l1 : left ≤ 1048576) : AC Tryz.prog 181 [.one (.sl valE xs), .one (.c (.int .i64 left))] [] (.one (.c (.int .i64 (szR (totL totValue xs) left)))) [] := by
  refine AC_body1 Tryz.func181 rfl rfl Tryz.ntmps181 rfl Tryz.results181 ?_
  refine AW_slmax 0 rfl (fun hm0 => ?_)
  refine AW_seq ?_
  refine AW_region ?_
  refine AL_p (x_assign rfl rfl) ?_
  refine AL_nil ?_
  refine AW_seq ?_
  refine AW_region ?_
  refine AL_p (x_move rfl rfl) ?_
  refine AL_p (x_move rfl rfl) ?_
  refine AL_p (x_len (E := 205) (n := 2) rfl rfl (by kernel_rfl)) ?_
  refine AL_p (x_sub rfl rfl rfl (IntWalk.i64_in _ (by omega))) ?_
  refine AL_p (x_assign rfl rfl) ?_
  refine AL_nil ?_
  refine AW_seq ?_
  refine AW_seq ?_
  refine AW_region ?_
  refine AL_p (x_move rfl rfl) ?_
  refine AL_b (x_lss rfl rfl rfl) (fun b11 h11 => ?_)
  refine AL_nil ?_
  cases b11
  rotate_left
  · try simp only [tdy] at h11
    refine AW_condT rfl ?_
    refine AW_seq ?_
    refine AW_region ?_
    refine AL_p (x_assign rfl rfl) ?_
    refine AL_nil ?_
    refine AW_ret ?_
    exact ⟨rn [], ⟨⟨⟨_, rfl, vle_int (by first | (simp only [totL]; unfold szR; omega) | (simp only [totL]; done))⟩, trivial⟩, trivial, trivial, rfl⟩⟩
  try simp only [tdy] at h11
  refine AW_condF rfl ?_
  refine AW_skip ?_
  refine AW_seq ?_
  refine AW_seq ?_
  refine AW_region ?_
  refine AL_p (x_assign rfl rfl) ?_
  refine AL_nil ?_
  refine AW_block ?_
  refine AW_loop2 (ι := {q : Nat // q ≤ xs.length ∧ ((cntL totValue (xs.take q) : Nat) : Int) ≤ left - (xs.length : Int)}) (fun p => [(1, .one (.c (.int .i64 (left - (xs.length : Int) - ((cntL totValue (xs.take (p.1)) : Nat) : Int))))), (5, .one (.c (.int .i64 ((p.1) : Int))))]) (fun p => []) [0] [] (fun p => xs.length - (p.1)) ⟨0, ⟨by omega, by first | (simp [cntL]; done) | (simp [cntL]; try omega)⟩⟩ (rn []) ?_ ?_
  exact ⟨by (repeat refine ⟨⟨_, rfl, by first | exact VLe.rf | exact vle_int (by dsimp only; omega) | exact vle_int (by first | (simp [cntL]; done) | (simp [cntL]; try omega))⟩, ?_⟩); exact trivial, by (repeat refine ⟨⟨_, rfl, by first | exact BLe.rf | exact BLe.box AllC.rf | exact BLe.arr (by exact rfl)⟩, ?_⟩); exact trivial, by repeat (first | exact trivial | refine ⟨⟨rfl, by first | (left; intro h; cases h) | (right; rfl), by first | exact (fun _ h => ⟨_, h⟩) | exact (fun _ _ => ⟨_, rfl⟩) | (intro _ h; cases h)⟩, ?_⟩), rfl⟩
  rintro ⟨k, hinv⟩
  dsimp only
  obtain ⟨hk, hc⟩ := hinv
  refine AW_seq ?_
  refine AW_seq ?_
  refine AW_region ?_
  refine AL_p (x_move rfl rfl) ?_
  refine AL_p (x_move rfl rfl) ?_
  refine AL_p (x_len (E := 205) (n := 2) rfl rfl (by kernel_rfl)) ?_
  refine AL_b (x_lss rfl rfl rfl) (fun b15 h15 => ?_)
  refine AL_nil ?_
  cases b15
  · try simp only [tdy] at h15
    have ha := cntL_all (c := totValue) (xs := xs) (k := k) (by omega)
    refine AW_condF rfl ?_
    refine AW_exit (BQ_hit ?_)
    refine AW_seq ?_
    refine AW_region ?_
    refine AL_p (x_move rfl rfl) ?_
    refine AL_p (x_assign rfl rfl) ?_
    refine AL_nil ?_
    refine AW_ret ?_
    exact ⟨rn [], ⟨⟨⟨_, rfl, vle_int (by first | (simp only [totL]; unfold szR; omega) | (simp only [totL]; done))⟩, trivial⟩, trivial, trivial, rfl⟩⟩
  try simp only [tdy] at h15
  have hlt : k < xs.length := by omega
  have hs := cntL_snoc (c := totValue) hlt
  have ht := cntL_take (c := totValue) hlt
  refine AW_condT rfl ?_
  refine AW_skip ?_
  refine AW_seq ?_
  refine AW_block ?_
  refine AW_seq ?_
  refine AW_region ?_
  refine AL_p (x_move rfl rfl) ?_
  refine AL_p (x_move rfl rfl) ?_
  refine AL_p (x_index (E := 205) (n := 2) rfl rfl rfl (by kernel_rfl) rfl (k := k) (by omega) (by omega)) ?_
  refine AL_p (x_eloadW (n := 2) rfl rfl (by kernel_rfl) rfl) ?_
  refine AL_p (x_move rfl rfl) ?_
  refine AL_p (x_call0 rfl rfl rfl (szValue_c _ _ (by omega) (by omega)) rfl rfl) ?_
  refine AL_p (x_assign rfl rfl) ?_
  refine AL_nil ?_
  refine AW_seq ?_
  refine AW_region ?_
  refine AL_p (x_move rfl rfl) ?_
  refine AL_b (x_lss rfl rfl rfl) (fun b25 h25 => ?_)
  refine AL_nil ?_
  cases b25
  rotate_left
  · try simp only [tdy] at h25
    have g25 := szR_neg h25
    refine AW_condT rfl ?_
    refine AW_seq ?_
    refine AW_region ?_
    refine AL_p (x_assign rfl rfl) ?_
    refine AL_nil ?_
    refine AW_ret (BQ_ret (BQ_ret ?_))
    exact ⟨rn [], ⟨⟨⟨_, rfl, vle_int (by first | (simp only [totL]; unfold szR; omega) | (simp only [totL]; done))⟩, trivial⟩, trivial, trivial, rfl⟩⟩
  try simp only [tdy] at h25
  have f25 := (szR_nonneg h25).1
  have e25 := (szR_nonneg h25).2
  refine AW_condF rfl ?_
  refine AW_skip ?_
  refine AW_region ?_
  refine AL_p (x_move rfl rfl) ?_
  refine AL_p (x_add rfl rfl rfl (IntWalk.i64_in _ (by omega))) ?_
  refine AL_p (x_assign rfl rfl) ?_
  refine AL_nil ?_
  refine ⟨⟨k + 1, ⟨by omega, by omega⟩⟩, rn [], ?_, by dsimp only; omega⟩
  exact ⟨by (repeat refine ⟨⟨_, rfl, by first | exact VLe.rf | exact vle_int (by dsimp only; omega) | exact vle_int (by first | (simp [cntL]; done) | (simp [cntL]; try omega))⟩, ?_⟩); exact trivial, by (repeat refine ⟨⟨_, rfl, by first | exact BLe.rf | exact BLe.box AllC.rf | exact BLe.arr (by exact rfl)⟩, ?_⟩); exact trivial, by repeat (first | exact trivial | refine ⟨⟨rfl, by first | (left; intro h; cases h) | (right; rfl), by first | exact (fun _ h => ⟨_, h⟩) | exact (fun _ _ => ⟨_, rfl⟩) | (intro _ h; cases h)⟩, ?_⟩), rfl⟩

set_option maxHeartbeats 4000000 in
theorem eqValueS_c (xs : List (Val)) : AC Tryz.prog 185 [.one (.sl valE xs), .one (.sl valE xs)] [] (.one (.c (.bool true))) [] := by
  refine AC_body1 Tryz.func185 rfl rfl Tryz.ntmps185 rfl Tryz.results185 ?_
  refine AW_slmax 0 rfl (fun hm0 => ?_)
  refine AW_seq ?_
  refine AW_region ?_
  refine AL_p (x_assign rfl rfl) ?_
  refine AL_nil ?_
  refine AW_seq ?_
  refine AW_seq ?_
  refine AW_region ?_
  refine AL_p (x_move rfl rfl) ?_
  refine AL_p (x_len (E := 147) (n := 2) rfl rfl (by kernel_rfl)) ?_
  refine AL_p (x_move rfl rfl) ?_
  refine AL_p (x_len (E := 147) (n := 2) rfl rfl (by kernel_rfl)) ?_
  refine AL_b (x_neq rfl rfl rfl) (fun b10 h10 => ?_)
  refine AL_nil ?_
  cases b10
  rotate_left
  · exfalso; first | (simp [ba_beq_self] at h10; done) | grind
  try simp only [tdy] at h10
  refine AW_condF rfl ?_
  refine AW_skip ?_
  refine AW_seq ?_
  refine AW_seq ?_
  refine AW_region ?_
  refine AL_p (x_assign rfl rfl) ?_
  refine AL_nil ?_
  refine AW_block ?_
  refine AW_loop2 (ι := {q : Nat // q ≤ xs.length}) (fun p => [(5, .one (.c (.int .i64 ((p.1) : Int))))]) (fun p => []) [0, 1] [] (fun p => xs.length - (p.1)) ⟨0, by omega⟩ (rn []) ?_ ?_
  exact ⟨by (repeat refine ⟨⟨_, rfl, by first | exact VLe.rf | exact vle_int (by dsimp only; omega)⟩, ?_⟩); exact trivial, by (repeat refine ⟨⟨_, rfl, by first | exact BLe.rf | exact BLe.box AllC.rf | exact BLe.arr (by exact rfl)⟩, ?_⟩); exact trivial, by repeat (first | exact trivial | refine ⟨⟨rfl, by first | (left; intro h; cases h) | (right; rfl), by first | exact (fun _ h => ⟨_, h⟩) | exact (fun _ _ => ⟨_, rfl⟩) | (intro _ h; cases h)⟩, ?_⟩), rfl⟩
  rintro ⟨k, hinv⟩
  dsimp only
  refine AW_seq ?_
  refine AW_seq ?_
  refine AW_region ?_
  refine AL_p (x_move rfl rfl) ?_
  refine AL_p (x_move rfl rfl) ?_
  refine AL_p (x_len (E := 147) (n := 2) rfl rfl (by kernel_rfl)) ?_
  refine AL_b (x_lss rfl rfl rfl) (fun b14 h14 => ?_)
  refine AL_nil ?_
  cases b14
  · try simp only [tdy] at h14
    refine AW_condF rfl ?_
    refine AW_exit (BQ_hit ?_)
    refine AW_seq ?_
    refine AW_region ?_
    refine AL_p (x_assign rfl rfl) ?_
    refine AL_nil ?_
    refine AW_ret ?_
    exact ⟨rn [], ⟨⟨⟨_, rfl, vle_bool (rfl)⟩, trivial⟩, trivial, trivial, rfl⟩⟩
  try simp only [tdy] at h14
  refine AW_condT rfl ?_
  refine AW_skip ?_
  refine AW_seq ?_
  refine AW_block ?_
  refine AW_seq ?_
  refine AW_draw rfl ?_
  refine AL_p (x_move rfl rfl) ?_
  refine AL_p (x_move rfl rfl) ?_
  refine AL_p (x_index (E := 147) (n := 2) rfl rfl rfl (by kernel_rfl) rfl (k := k) (by omega) (by omega)) ?_
  refine AL_p (x_eloadW (n := 2) rfl rfl (by kernel_rfl) rfl) ?_
  refine AL_p (x_move rfl rfl) ?_
  refine AL_p (x_move rfl rfl) ?_
  refine AL_p (x_index (E := 147) (n := 2) rfl rfl rfl (by kernel_rfl) rfl (k := k) (by omega) (by omega)) ?_
  refine AL_p (x_eloadW (n := 2) rfl rfl (by kernel_rfl) rfl) ?_
  refine AL_p (x_call0 rfl rfl rfl (eqValue_c _) rfl rfl) ?_
  refine AL_p (x_not rfl rfl) ?_
  refine AL_nild (by kernel_rfl) ?_
  refine AW_condF rfl ?_
  refine AW_skip ?_
  refine AW_region ?_
  refine AL_p (x_move rfl rfl) ?_
  refine AL_p (x_add rfl rfl rfl (IntWalk.i64_in _ (by omega))) ?_
  refine AL_p (x_assign rfl rfl) ?_
  refine AL_nil ?_
  refine ⟨⟨k + 1, by omega⟩, rn [], ?_, by dsimp only; omega⟩
  exact ⟨by (repeat refine ⟨⟨_, rfl, by first | exact VLe.rf | exact vle_int (by dsimp only; omega)⟩, ?_⟩); exact trivial, by (repeat refine ⟨⟨_, rfl, by first | exact BLe.rf | exact BLe.box AllC.rf | exact BLe.arr (by exact rfl)⟩, ?_⟩); exact trivial, by repeat (first | exact trivial | refine ⟨⟨rfl, by first | (left; intro h; cases h) | (right; rfl), by first | exact (fun _ h => ⟨_, h⟩) | exact (fun _ _ => ⟨_, rfl⟩) | (intro _ h; cases h)⟩, ?_⟩), rfl⟩

set_option maxHeartbeats 4000000 in
theorem toValueS_c0 (xs : List (Val)) (hs : xs.length ≤ 1048576) : AC Tryz.prog 182 [.one (.sl valE xs)] [] (.one (.own 0)) [(0, some (.arr 147 valE xs true))] := by
  refine AC_body1 Tryz.func182 rfl rfl Tryz.ntmps182 rfl Tryz.results182 ?_
  refine AW_seq ?_
  refine AW_region ?_
  refine AL_p (x_assign rfl rfl) ?_
  refine AL_nil ?_
  refine AW_seq ?_
  refine AW_region ?_
  refine AL_p (x_move rfl rfl) ?_
  refine AL_p (x_len (E := 205) (n := 2) rfl rfl (by kernel_rfl)) ?_
  refine AL_p (x_make (T := 70) (E := 147) (e := valE) ((⟨0, ⟨#[]⟩⟩ : Val)) (z := .agg #[.int .i64 0, .string ⟨#[]⟩]) 100 rfl rfl rfl (by kernel_rfl) rfl FitL.rf rfl rfl (by kernel_rfl) (by have := hs; omega)) ?_
  refine AL_p (x_assign rfl rfl) ?_
  refine AL_nil ?_
  refine AW_seq ?_
  refine AW_seq ?_
  refine AW_region ?_
  refine AL_p (x_assign rfl rfl) ?_
  refine AL_nil ?_
  refine AW_block ?_
  refine AW_loop2 (ι := {q : Nat // q ≤ xs.length}) (fun p => [(4, .one (.c (.int .i64 ((p.1) : Int))))]) (fun p => [(100, some (.arr 147 valE (filledTo xs ((⟨0, ⟨#[]⟩⟩ : Val)) (p.1)) true))]) [0, 3] [] (fun p => xs.length - (p.1)) ⟨0, by omega⟩ (rn []) ?_ ?_
  exact ⟨by (repeat refine ⟨⟨_, rfl, by first | exact VLe.rf | exact vle_int (by dsimp only; omega)⟩, ?_⟩); exact trivial, by (repeat refine ⟨⟨_, rfl, by first | exact BLe.rf | exact BLe.box AllC.rf | exact BLe.arr (by first | exact filledTo_zero | exact filledTo_succ (by omega))⟩, ?_⟩); exact trivial, by repeat (first | exact trivial | refine ⟨⟨rfl, by first | (left; intro h; cases h) | (right; rfl), by first | exact (fun _ h => ⟨_, h⟩) | exact (fun _ _ => ⟨_, rfl⟩) | (intro _ h; cases h)⟩, ?_⟩), rfl⟩
  rintro ⟨k, hinv⟩
  dsimp only
  have hlen := hs
  refine AW_seq ?_
  refine AW_seq ?_
  refine AW_region ?_
  refine AL_p (x_move rfl rfl) ?_
  refine AL_p (x_move rfl rfl) ?_
  refine AL_p (x_len (E := 205) (n := 2) rfl rfl (by kernel_rfl)) ?_
  refine AL_b (x_lss rfl rfl rfl) (fun b11 h11 => ?_)
  refine AL_nil ?_
  cases b11
  · try simp only [tdy] at h11
    refine AW_condF rfl ?_
    refine AW_exit (BQ_hit ?_)
    refine AW_seq ?_
    refine AW_region ?_
    refine AL_p (x_move rfl rfl) ?_
    refine AL_p (x_assign rfl rfl) ?_
    refine AL_nil ?_
    refine AW_ret ?_
    exact ⟨rn [(0, 100)], ⟨⟨⟨_, rfl, VLe.rf⟩, trivial⟩, ⟨⟨_, rfl, BLe.arr (filledTo_done (by omega))⟩, trivial⟩, trivial, rfl⟩⟩
  try simp only [tdy] at h11
  refine AW_condT rfl ?_
  refine AW_skip ?_
  refine AW_seq ?_
  refine AW_block ?_
  refine AW_region ?_
  refine AL_p (x_move rfl rfl) ?_
  refine AL_p (x_move rfl rfl) ?_
  refine AL_p (x_move rfl rfl) ?_
  refine AL_p (x_move rfl rfl) ?_
  refine AL_p (x_index (E := 205) (n := 2) rfl rfl rfl (by kernel_rfl) rfl (k := k) (by omega) (by omega)) ?_
  refine AL_p (x_eloadW (n := 2) rfl rfl (by kernel_rfl) rfl) ?_
  refine AL_p (x_callR rfl rfl rfl (toValue_c (xs[k]'(by omega))) rfl AllV.rf rfl rfl rfl rfl rfl) ?_
  refine AL_p (x_oindex (n := 2) rfl rfl rfl rfl (by kernel_rfl) rfl (k := k) rfl (by rw [filledTo_len (by omega)]; omega)) ?_
  refine AL_p (x_ostore (xs[k]'(by omega)) rfl rfl rfl rfl (by kernel_rfl) rfl rfl rfl rfl FitL.rf rfl rfl (by first | omega | (rw [filledTo_len (by omega)]; omega) | (simp; omega))) ?_
  refine AL_nil ?_
  refine AW_region ?_
  refine AL_p (x_move rfl rfl) ?_
  refine AL_p (x_add rfl rfl rfl (IntWalk.i64_in _ (by omega))) ?_
  refine AL_p (x_assign rfl rfl) ?_
  refine AL_nil ?_
  refine ⟨⟨k + 1, by omega⟩, rn [], ?_, by dsimp only; omega⟩
  exact ⟨by (repeat refine ⟨⟨_, rfl, by first | exact VLe.rf | exact vle_int (by dsimp only; omega)⟩, ?_⟩); exact trivial, by (repeat refine ⟨⟨_, rfl, by first | exact BLe.rf | exact BLe.box AllC.rf | exact BLe.arr (by first | exact filledTo_zero | exact filledTo_succ (by omega))⟩, ?_⟩); exact trivial, by repeat (first | exact trivial | refine ⟨⟨rfl, by first | (left; intro h; cases h) | (right; rfl), by first | exact (fun _ h => ⟨_, h⟩) | exact (fun _ _ => ⟨_, rfl⟩) | (intro _ h; cases h)⟩, ?_⟩), rfl⟩
theorem toValueS_c (xs : List (Val)) (hs : xs.length ≤ 1048576) (k : Nat) : AC Tryz.prog 182 [.one (.sl valE xs)] [] (.one (.own k)) [(k, some (.arr 147 valE xs true))] := AC.at (toValueS_c0 xs hs) k

set_option maxHeartbeats 4000000 in
theorem szRow_c (x : List Val) (left : Int) (l0 : 0 ≤ left) (l1 : left ≤ 1048576) : AC Tryz.prog 168 [.agg (rowC x), .one (.c (.int .i64 left))] [] (.one (.c (.int .i64 (szR (totRow x) left)))) [] := by
  refine AC_body1 Tryz.func168 rfl rfl Tryz.ntmps168 rfl Tryz.results168 ?_
  refine AW_seq ?_
  refine AW_region ?_
  refine AL_p (x_box 100 rfl rfl rfl rfl rfl rfl rfl) ?_
  refine AL_p (x_assign rfl rfl) ?_
  refine AL_nil ?_
  refine AW_seq ?_
  refine AW_region ?_
  refine AL_p (x_field (off := 0) (o' := 0) rfl rfl rfl (by kernel_rfl) rfl) ?_
  refine AL_p (x_load1 rfl rfl rfl (by kernel_rfl) rfl) ?_
  refine AL_p (x_move rfl rfl) ?_
  refine AL_p (x_call0 rfl rfl rfl (szValueS_c _ _ (by omega) (by omega)) rfl rfl) ?_
  refine AL_p (x_assign rfl rfl) ?_
  refine AL_nil ?_
  refine AW_seq ?_
  refine AW_seq ?_
  refine AW_region ?_
  refine AL_p (x_move rfl rfl) ?_
  refine AL_b (x_lss rfl rfl rfl) (fun b10 h10 => ?_)
  refine AL_nil ?_
  cases b10
  rotate_left
  · try simp only [tdy] at h10
    have g10 := szR_neg h10
    refine AW_condT rfl ?_
    refine AW_seq ?_
    refine AW_region ?_
    refine AL_p (x_assign rfl rfl) ?_
    refine AL_nil ?_
    refine AW_ret ?_
    exact ⟨rn [], ⟨⟨⟨_, rfl, vle_int (by first | (simp only [totRow]; unfold szR; omega) | (simp only [totRow]; done))⟩, trivial⟩, trivial, trivial, rfl⟩⟩
  try simp only [tdy] at h10
  have f10 := (szR_nonneg h10).1
  have e10 := (szR_nonneg h10).2
  refine AW_condF rfl ?_
  refine AW_skip ?_
  refine AW_seq ?_
  refine AW_region ?_
  refine AL_p (x_move rfl rfl) ?_
  refine AL_p (x_assign rfl rfl) ?_
  refine AL_nil ?_
  refine AW_ret ?_
  exact ⟨rn [], ⟨⟨⟨_, rfl, vle_int (by first | (simp only [totRow]; unfold szR; omega) | (simp only [totRow]; done))⟩, trivial⟩, trivial, trivial, rfl⟩⟩

set_option maxHeartbeats 4000000 in
theorem eqRow_c (x : List Val) : AC Tryz.prog 177 [.agg (rowC x), .agg (rowC x)] [] (.one (.c (.bool true))) [] := by
  refine AC_body1 Tryz.func177 rfl rfl Tryz.ntmps177 rfl Tryz.results177 ?_
  refine AW_seq ?_
  refine AW_region ?_
  refine AL_p (x_box 100 rfl rfl rfl rfl rfl rfl rfl) ?_
  refine AL_p (x_box 101 rfl rfl rfl rfl rfl rfl rfl) ?_
  refine AL_p (x_assign rfl rfl) ?_
  refine AL_nil ?_
  refine AW_seq ?_
  refine AW_seq ?_
  refine AW_region ?_
  refine AL_p (x_field (off := 0) (o' := 0) rfl rfl rfl (by kernel_rfl) rfl) ?_
  refine AL_p (x_load1 rfl rfl rfl (by kernel_rfl) rfl) ?_
  refine AL_p (x_field (off := 0) (o' := 0) rfl rfl rfl (by kernel_rfl) rfl) ?_
  refine AL_p (x_load1 rfl rfl rfl (by kernel_rfl) rfl) ?_
  refine AL_p (x_call0 rfl rfl rfl (eqValueS_c _) rfl rfl) ?_
  refine AL_p (x_not rfl rfl) ?_
  refine AL_nil ?_
  refine AW_condF rfl ?_
  refine AW_skip ?_
  refine AW_seq ?_
  refine AW_region ?_
  refine AL_p (x_assign rfl rfl) ?_
  refine AL_nil ?_
  refine AW_ret ?_
  exact ⟨rn [], ⟨⟨⟨_, rfl, vle_bool (rfl)⟩, trivial⟩, trivial, trivial, rfl⟩⟩

set_option maxHeartbeats 4000000 in
theorem toRow_c0 (x : List Val) (hs : smallRow x) : AC Tryz.prog 169 [.agg (rowC x)] [] (.agg [.own 0]) [(0, some (.arr 147 valE x true))] := by
  refine AC_bodyC (n := 1) (k := 9) (T := [(2, .one (.ptr 9 0))]) (Lf := ((9, some (.box [.own 0])) :: [(0, some (.arr 147 valE x true))])) Tryz.func169 rfl rfl Tryz.ntmps169 rfl Tryz.results169 rfl rfl (by kernel_rfl) rfl rfl ⟨trivial, (by repeat (first | exact trivial | refine ⟨⟨_, rfl, BLe.rf⟩, ?_⟩)), (by repeat (first | exact trivial | refine ⟨⟨rfl, by first | (left; intro h; cases h) | (right; rfl), by first | exact (fun _ h => ⟨_, h⟩) | exact (fun _ _ => ⟨_, rfl⟩) | (intro _ h; cases h)⟩, ?_⟩)), rfl⟩ ?_
  refine AW_seq ?_
  refine AW_region ?_
  refine AL_p (x_box 100 rfl rfl rfl rfl rfl rfl rfl) ?_
  refine AL_p (x_alloc (z := .agg #[.slice none 0 0]) 101 rfl (by kernel_rfl) rfl rfl rfl rfl) ?_
  refine AL_nil ?_
  refine AW_seq ?_
  refine AW_region ?_
  refine AL_p (x_alloc (z := .agg #[.slice none 0 0]) 102 rfl (by kernel_rfl) rfl rfl rfl rfl) ?_
  refine AL_nil ?_
  refine AW_seq ?_
  refine AW_region ?_
  refine AL_p (x_field (off := 0) (o' := 0) rfl rfl rfl (by kernel_rfl) rfl) ?_
  refine AL_p (x_load1 rfl rfl rfl (by kernel_rfl) rfl) ?_
  refine AL_p (x_call1 rfl rfl rfl (toValueS_c x (hs).1 103) rfl rfl rfl rfl) ?_
  refine AL_p (x_field (off := 0) (o' := 0) rfl rfl rfl (by kernel_rfl) rfl) ?_
  refine AL_p (x_store (n := 1) rfl rfl rfl rfl (by kernel_rfl) rfl rfl rfl) ?_
  refine AL_nil ?_
  refine AW_seq ?_
  refine AW_region ?_
  refine AL_p (x_loadN (n := 1) rfl rfl rfl (by kernel_rfl) rfl rfl) ?_
  refine AL_p (x_store (n := 1) rfl rfl rfl rfl (by kernel_rfl) rfl rfl rfl) ?_
  refine AL_nil ?_
  refine AW_ret ?_
  exact ⟨rn [(9, 101), (0, 103)], ⟨⟨⟨_, rfl, VLe.rf⟩, trivial⟩, ⟨⟨_, rfl, by first | exact BLe.rf | (subst_vars; exact BLe.rf)⟩, ⟨_, rfl, BLe.rf⟩, trivial⟩, trivial, rfl⟩⟩
theorem toRow_c (x : List Val) (hs : smallRow x) (k : Nat) : AC Tryz.prog 169 [.agg (rowC x)] [] (.agg [.own k]) [(k, some (.arr 147 valE x true))] := AC.at (toRow_c0 x hs) k

set_option maxHeartbeats 4000000 in
theorem szRowS_c (xs : List (List Val)) (left : Int) (l0 : 0 ≤ left) (l1 : left ≤ 1048576) : AC Tryz.prog 144 [.one (.sl rowE xs), .one (.c (.int .i64 left))] [] (.one (.c (.int .i64 (szR (totL totRow xs) left)))) [] := by
  refine AC_body1 Tryz.func144 rfl rfl Tryz.ntmps144 rfl Tryz.results144 ?_
  refine AW_slmax 0 rfl (fun hm0 => ?_)
  refine AW_seq ?_
  refine AW_region ?_
  refine AL_p (x_assign rfl rfl) ?_
  refine AL_nil ?_
  refine AW_seq ?_
  refine AW_region ?_
  refine AL_p (x_move rfl rfl) ?_
  refine AL_p (x_move rfl rfl) ?_
  refine AL_p (x_len (E := 189) (n := 1) rfl rfl (by kernel_rfl)) ?_
  refine AL_p (x_sub rfl rfl rfl (IntWalk.i64_in _ (by omega))) ?_
  refine AL_p (x_assign rfl rfl) ?_
  refine AL_nil ?_
  refine AW_seq ?_
  refine AW_seq ?_
  refine AW_region ?_
  refine AL_p (x_move rfl rfl) ?_
  refine AL_b (x_lss rfl rfl rfl) (fun b11 h11 => ?_)
  refine AL_nil ?_
  cases b11
  rotate_left
  · try simp only [tdy] at h11
    refine AW_condT rfl ?_
    refine AW_seq ?_
    refine AW_region ?_
    refine AL_p (x_assign rfl rfl) ?_
    refine AL_nil ?_
    refine AW_ret ?_
    exact ⟨rn [], ⟨⟨⟨_, rfl, vle_int (by first | (simp only [totL]; unfold szR; omega) | (simp only [totL]; done))⟩, trivial⟩, trivial, trivial, rfl⟩⟩
  try simp only [tdy] at h11
  refine AW_condF rfl ?_
  refine AW_skip ?_
  refine AW_seq ?_
  refine AW_seq ?_
  refine AW_region ?_
  refine AL_p (x_assign rfl rfl) ?_
  refine AL_nil ?_
  refine AW_block ?_
  refine AW_loop2 (ι := {q : Nat // q ≤ xs.length ∧ ((cntL totRow (xs.take q) : Nat) : Int) ≤ left - (xs.length : Int)}) (fun p => [(1, .one (.c (.int .i64 (left - (xs.length : Int) - ((cntL totRow (xs.take (p.1)) : Nat) : Int))))), (5, .one (.c (.int .i64 ((p.1) : Int))))]) (fun p => []) [0] [] (fun p => xs.length - (p.1)) ⟨0, ⟨by omega, by first | (simp [cntL]; done) | (simp [cntL]; try omega)⟩⟩ (rn []) ?_ ?_
  exact ⟨by (repeat refine ⟨⟨_, rfl, by first | exact VLe.rf | exact vle_int (by dsimp only; omega) | exact vle_int (by first | (simp [cntL]; done) | (simp [cntL]; try omega))⟩, ?_⟩); exact trivial, by (repeat refine ⟨⟨_, rfl, by first | exact BLe.rf | exact BLe.box AllC.rf | exact BLe.arr (by exact rfl)⟩, ?_⟩); exact trivial, by repeat (first | exact trivial | refine ⟨⟨rfl, by first | (left; intro h; cases h) | (right; rfl), by first | exact (fun _ h => ⟨_, h⟩) | exact (fun _ _ => ⟨_, rfl⟩) | (intro _ h; cases h)⟩, ?_⟩), rfl⟩
  rintro ⟨k, hinv⟩
  dsimp only
  obtain ⟨hk, hc⟩ := hinv
  refine AW_seq ?_
  refine AW_seq ?_
  refine AW_region ?_
  refine AL_p (x_move rfl rfl) ?_
  refine AL_p (x_move rfl rfl) ?_
  refine AL_p (x_len (E := 189) (n := 1) rfl rfl (by kernel_rfl)) ?_
  refine AL_b (x_lss rfl rfl rfl) (fun b15 h15 => ?_)
  refine AL_nil ?_
  cases b15
  · try simp only [tdy] at h15
    have ha := cntL_all (c := totRow) (xs := xs) (k := k) (by omega)
    refine AW_condF rfl ?_
    refine AW_exit (BQ_hit ?_)
    refine AW_seq ?_
    refine AW_region ?_
    refine AL_p (x_move rfl rfl) ?_
    refine AL_p (x_assign rfl rfl) ?_
    refine AL_nil ?_
    refine AW_ret ?_
    exact ⟨rn [], ⟨⟨⟨_, rfl, vle_int (by first | (simp only [totL]; unfold szR; omega) | (simp only [totL]; done))⟩, trivial⟩, trivial, trivial, rfl⟩⟩
  try simp only [tdy] at h15
  have hlt : k < xs.length := by omega
  have hs := cntL_snoc (c := totRow) hlt
  have ht := cntL_take (c := totRow) hlt
  refine AW_condT rfl ?_
  refine AW_skip ?_
  refine AW_seq ?_
  refine AW_block ?_
  refine AW_seq ?_
  refine AW_region ?_
  refine AL_p (x_move rfl rfl) ?_
  refine AL_p (x_move rfl rfl) ?_
  refine AL_p (x_index (E := 189) (n := 1) rfl rfl rfl (by kernel_rfl) rfl (k := k) (by omega) (by omega)) ?_
  refine AL_p (x_eloadW (n := 1) rfl rfl (by kernel_rfl) rfl) ?_
  refine AL_p (x_move rfl rfl) ?_
  refine AL_p (x_call0 rfl rfl rfl (szRow_c _ _ (by omega) (by omega)) rfl rfl) ?_
  refine AL_p (x_assign rfl rfl) ?_
  refine AL_nil ?_
  refine AW_seq ?_
  refine AW_region ?_
  refine AL_p (x_move rfl rfl) ?_
  refine AL_b (x_lss rfl rfl rfl) (fun b25 h25 => ?_)
  refine AL_nil ?_
  cases b25
  rotate_left
  · try simp only [tdy] at h25
    have g25 := szR_neg h25
    refine AW_condT rfl ?_
    refine AW_seq ?_
    refine AW_region ?_
    refine AL_p (x_assign rfl rfl) ?_
    refine AL_nil ?_
    refine AW_ret (BQ_ret (BQ_ret ?_))
    exact ⟨rn [], ⟨⟨⟨_, rfl, vle_int (by first | (simp only [totL]; unfold szR; omega) | (simp only [totL]; done))⟩, trivial⟩, trivial, trivial, rfl⟩⟩
  try simp only [tdy] at h25
  have f25 := (szR_nonneg h25).1
  have e25 := (szR_nonneg h25).2
  refine AW_condF rfl ?_
  refine AW_skip ?_
  refine AW_region ?_
  refine AL_p (x_move rfl rfl) ?_
  refine AL_p (x_add rfl rfl rfl (IntWalk.i64_in _ (by omega))) ?_
  refine AL_p (x_assign rfl rfl) ?_
  refine AL_nil ?_
  refine ⟨⟨k + 1, ⟨by omega, by omega⟩⟩, rn [], ?_, by dsimp only; omega⟩
  exact ⟨by (repeat refine ⟨⟨_, rfl, by first | exact VLe.rf | exact vle_int (by dsimp only; omega) | exact vle_int (by first | (simp [cntL]; done) | (simp [cntL]; try omega))⟩, ?_⟩); exact trivial, by (repeat refine ⟨⟨_, rfl, by first | exact BLe.rf | exact BLe.box AllC.rf | exact BLe.arr (by exact rfl)⟩, ?_⟩); exact trivial, by repeat (first | exact trivial | refine ⟨⟨rfl, by first | (left; intro h; cases h) | (right; rfl), by first | exact (fun _ h => ⟨_, h⟩) | exact (fun _ _ => ⟨_, rfl⟩) | (intro _ h; cases h)⟩, ?_⟩), rfl⟩

set_option maxHeartbeats 4000000 in
theorem eqRowS_c (xs : List (List Val)) : AC Tryz.prog 159 [.one (.sl rowE xs), .one (.sl rowE xs)] [] (.one (.c (.bool true))) [] := by
  refine AC_body1 Tryz.func159 rfl rfl Tryz.ntmps159 rfl Tryz.results159 ?_
  refine AW_slmax 0 rfl (fun hm0 => ?_)
  refine AW_seq ?_
  refine AW_region ?_
  refine AL_p (x_assign rfl rfl) ?_
  refine AL_nil ?_
  refine AW_seq ?_
  refine AW_seq ?_
  refine AW_region ?_
  refine AL_p (x_move rfl rfl) ?_
  refine AL_p (x_len (E := 72) (n := 1) rfl rfl (by kernel_rfl)) ?_
  refine AL_p (x_move rfl rfl) ?_
  refine AL_p (x_len (E := 72) (n := 1) rfl rfl (by kernel_rfl)) ?_
  refine AL_b (x_neq rfl rfl rfl) (fun b10 h10 => ?_)
  refine AL_nil ?_
  cases b10
  rotate_left
  · exfalso; first | (simp [ba_beq_self] at h10; done) | grind
  try simp only [tdy] at h10
  refine AW_condF rfl ?_
  refine AW_skip ?_
  refine AW_seq ?_
  refine AW_seq ?_
  refine AW_region ?_
  refine AL_p (x_assign rfl rfl) ?_
  refine AL_nil ?_
  refine AW_block ?_
  refine AW_loop2 (ι := {q : Nat // q ≤ xs.length}) (fun p => [(5, .one (.c (.int .i64 ((p.1) : Int))))]) (fun p => []) [0, 1] [] (fun p => xs.length - (p.1)) ⟨0, by omega⟩ (rn []) ?_ ?_
  exact ⟨by (repeat refine ⟨⟨_, rfl, by first | exact VLe.rf | exact vle_int (by dsimp only; omega)⟩, ?_⟩); exact trivial, by (repeat refine ⟨⟨_, rfl, by first | exact BLe.rf | exact BLe.box AllC.rf | exact BLe.arr (by exact rfl)⟩, ?_⟩); exact trivial, by repeat (first | exact trivial | refine ⟨⟨rfl, by first | (left; intro h; cases h) | (right; rfl), by first | exact (fun _ h => ⟨_, h⟩) | exact (fun _ _ => ⟨_, rfl⟩) | (intro _ h; cases h)⟩, ?_⟩), rfl⟩
  rintro ⟨k, hinv⟩
  dsimp only
  refine AW_seq ?_
  refine AW_seq ?_
  refine AW_region ?_
  refine AL_p (x_move rfl rfl) ?_
  refine AL_p (x_move rfl rfl) ?_
  refine AL_p (x_len (E := 72) (n := 1) rfl rfl (by kernel_rfl)) ?_
  refine AL_b (x_lss rfl rfl rfl) (fun b14 h14 => ?_)
  refine AL_nil ?_
  cases b14
  · try simp only [tdy] at h14
    refine AW_condF rfl ?_
    refine AW_exit (BQ_hit ?_)
    refine AW_seq ?_
    refine AW_region ?_
    refine AL_p (x_assign rfl rfl) ?_
    refine AL_nil ?_
    refine AW_ret ?_
    exact ⟨rn [], ⟨⟨⟨_, rfl, vle_bool (rfl)⟩, trivial⟩, trivial, trivial, rfl⟩⟩
  try simp only [tdy] at h14
  refine AW_condT rfl ?_
  refine AW_skip ?_
  refine AW_seq ?_
  refine AW_block ?_
  refine AW_seq ?_
  refine AW_draw rfl ?_
  refine AL_p (x_move rfl rfl) ?_
  refine AL_p (x_move rfl rfl) ?_
  refine AL_p (x_index (E := 72) (n := 1) rfl rfl rfl (by kernel_rfl) rfl (k := k) (by omega) (by omega)) ?_
  refine AL_p (x_eloadW (n := 1) rfl rfl (by kernel_rfl) rfl) ?_
  refine AL_p (x_move rfl rfl) ?_
  refine AL_p (x_move rfl rfl) ?_
  refine AL_p (x_index (E := 72) (n := 1) rfl rfl rfl (by kernel_rfl) rfl (k := k) (by omega) (by omega)) ?_
  refine AL_p (x_eloadW (n := 1) rfl rfl (by kernel_rfl) rfl) ?_
  refine AL_p (x_call0 rfl rfl rfl (eqRow_c _) rfl rfl) ?_
  refine AL_p (x_not rfl rfl) ?_
  refine AL_nild (by kernel_rfl) ?_
  refine AW_condF rfl ?_
  refine AW_skip ?_
  refine AW_region ?_
  refine AL_p (x_move rfl rfl) ?_
  refine AL_p (x_add rfl rfl rfl (IntWalk.i64_in _ (by omega))) ?_
  refine AL_p (x_assign rfl rfl) ?_
  refine AL_nil ?_
  refine ⟨⟨k + 1, by omega⟩, rn [], ?_, by dsimp only; omega⟩
  exact ⟨by (repeat refine ⟨⟨_, rfl, by first | exact VLe.rf | exact vle_int (by dsimp only; omega)⟩, ?_⟩); exact trivial, by (repeat refine ⟨⟨_, rfl, by first | exact BLe.rf | exact BLe.box AllC.rf | exact BLe.arr (by exact rfl)⟩, ?_⟩); exact trivial, by repeat (first | exact trivial | refine ⟨⟨rfl, by first | (left; intro h; cases h) | (right; rfl), by first | exact (fun _ h => ⟨_, h⟩) | exact (fun _ _ => ⟨_, rfl⟩) | (intro _ h; cases h)⟩, ?_⟩), rfl⟩

set_option maxHeartbeats 4000000 in
theorem toRowS_c0 (xs : List (List Val)) (hs : xs.length ≤ 1048576 ∧ ∀ y ∈ xs, smallRow y) : AC Tryz.prog 145 [.one (.sl rowE xs)] [] (.one (.own 0)) [(0, some (.arr 72 rowE xs true))] := by
  refine AC_body1 Tryz.func145 rfl rfl Tryz.ntmps145 rfl Tryz.results145 ?_
  refine AW_seq ?_
  refine AW_region ?_
  refine AL_p (x_assign rfl rfl) ?_
  refine AL_nil ?_
  refine AW_seq ?_
  refine AW_region ?_
  refine AL_p (x_move rfl rfl) ?_
  refine AL_p (x_len (E := 189) (n := 1) rfl rfl (by kernel_rfl)) ?_
  refine AL_p (x_make (T := 61) (E := 72) (e := rowE) (([] : List Val)) (z := .agg #[.slice none 0 0]) 100 rfl rfl rfl (by kernel_rfl) rfl ⟨.inr ⟨rfl, _, _, rfl⟩, trivial⟩ rfl rfl (by kernel_rfl) (by have := hs.1; omega)) ?_
  refine AL_p (x_assign rfl rfl) ?_
  refine AL_nil ?_
  refine AW_seq ?_
  refine AW_seq ?_
  refine AW_region ?_
  refine AL_p (x_assign rfl rfl) ?_
  refine AL_nil ?_
  refine AW_block ?_
  refine AW_loop2 (ι := {q : Nat // q ≤ xs.length}) (fun p => [(4, .one (.c (.int .i64 ((p.1) : Int))))]) (fun p => [(100, some (.arr 72 rowE (filledTo xs (([] : List Val)) (p.1)) true))]) [0, 3] [] (fun p => xs.length - (p.1)) ⟨0, by omega⟩ (rn []) ?_ ?_
  exact ⟨by (repeat refine ⟨⟨_, rfl, by first | exact VLe.rf | exact vle_int (by dsimp only; omega)⟩, ?_⟩); exact trivial, by (repeat refine ⟨⟨_, rfl, by first | exact BLe.rf | exact BLe.box AllC.rf | exact BLe.arr (by first | exact filledTo_zero | exact filledTo_succ (by omega))⟩, ?_⟩); exact trivial, by repeat (first | exact trivial | refine ⟨⟨rfl, by first | (left; intro h; cases h) | (right; rfl), by first | exact (fun _ h => ⟨_, h⟩) | exact (fun _ _ => ⟨_, rfl⟩) | (intro _ h; cases h)⟩, ?_⟩), rfl⟩
  rintro ⟨k, hinv⟩
  dsimp only
  have hlen := hs.1
  refine AW_seq ?_
  refine AW_seq ?_
  refine AW_region ?_
  refine AL_p (x_move rfl rfl) ?_
  refine AL_p (x_move rfl rfl) ?_
  refine AL_p (x_len (E := 189) (n := 1) rfl rfl (by kernel_rfl)) ?_
  refine AL_b (x_lss rfl rfl rfl) (fun b11 h11 => ?_)
  refine AL_nil ?_
  cases b11
  · try simp only [tdy] at h11
    refine AW_condF rfl ?_
    refine AW_exit (BQ_hit ?_)
    refine AW_seq ?_
    refine AW_region ?_
    refine AL_p (x_move rfl rfl) ?_
    refine AL_p (x_assign rfl rfl) ?_
    refine AL_nil ?_
    refine AW_ret ?_
    exact ⟨rn [(0, 100)], ⟨⟨⟨_, rfl, VLe.rf⟩, trivial⟩, ⟨⟨_, rfl, BLe.arr (filledTo_done (by omega))⟩, trivial⟩, trivial, rfl⟩⟩
  try simp only [tdy] at h11
  refine AW_condT rfl ?_
  refine AW_skip ?_
  refine AW_seq ?_
  refine AW_block ?_
  refine AW_region ?_
  refine AL_p (x_move rfl rfl) ?_
  refine AL_p (x_move rfl rfl) ?_
  refine AL_p (x_move rfl rfl) ?_
  refine AL_p (x_move rfl rfl) ?_
  refine AL_p (x_index (E := 189) (n := 1) rfl rfl rfl (by kernel_rfl) rfl (k := k) (by omega) (by omega)) ?_
  refine AL_p (x_eloadW (n := 1) rfl rfl (by kernel_rfl) rfl) ?_
  refine AL_p (x_callR rfl rfl rfl (toRow_c (xs[k]'(by omega)) (hs.2 _ (List.getElem_mem _)) 101) rfl AllV.rf rfl rfl rfl rfl rfl) ?_
  refine AL_p (x_oindex (n := 1) rfl rfl rfl rfl (by kernel_rfl) rfl (k := k) rfl (by rw [filledTo_len (by omega)]; omega)) ?_
  refine AL_p (x_ostore (xs[k]'(by omega)) rfl rfl rfl rfl (by kernel_rfl) rfl rfl rfl rfl FitL.rf rfl rfl (by first | omega | (rw [filledTo_len (by omega)]; omega) | (simp; omega))) ?_
  refine AL_nil ?_
  refine AW_region ?_
  refine AL_p (x_move rfl rfl) ?_
  refine AL_p (x_add rfl rfl rfl (IntWalk.i64_in _ (by omega))) ?_
  refine AL_p (x_assign rfl rfl) ?_
  refine AL_nil ?_
  refine ⟨⟨k + 1, by omega⟩, rn [], ?_, by dsimp only; omega⟩
  exact ⟨by (repeat refine ⟨⟨_, rfl, by first | exact VLe.rf | exact vle_int (by dsimp only; omega)⟩, ?_⟩); exact trivial, by (repeat refine ⟨⟨_, rfl, by first | exact BLe.rf | exact BLe.box AllC.rf | exact BLe.arr (by first | exact filledTo_zero | exact filledTo_succ (by omega))⟩, ?_⟩); exact trivial, by repeat (first | exact trivial | refine ⟨⟨rfl, by first | (left; intro h; cases h) | (right; rfl), by first | exact (fun _ h => ⟨_, h⟩) | exact (fun _ _ => ⟨_, rfl⟩) | (intro _ h; cases h)⟩, ?_⟩), rfl⟩
theorem toRowS_c (xs : List (List Val)) (hs : xs.length ≤ 1048576 ∧ ∀ y ∈ xs, smallRow y) (k : Nat) : AC Tryz.prog 145 [.one (.sl rowE xs)] [] (.one (.own k)) [(k, some (.arr 72 rowE xs true))] := AC.at (toRowS_c0 xs hs) k

set_option maxHeartbeats 4000000 in
theorem szRel_c (x : Relt) (left : Int) (l0 : 0 ≤ left) (l1 : left ≤ 1048576) : AC Tryz.prog 119 [.agg (relC x), .one (.c (.int .i64 left))] [] (.one (.c (.int .i64 (szR (totRel x) left)))) [] := by
  refine AC_body1 Tryz.func119 rfl rfl Tryz.ntmps119 rfl Tryz.results119 ?_
  refine AW_seq ?_
  refine AW_region ?_
  refine AL_p (x_box 100 rfl rfl rfl rfl rfl rfl rfl) ?_
  refine AL_p (x_assign rfl rfl) ?_
  refine AL_nil ?_
  refine AW_seq ?_
  refine AW_region ?_
  refine AL_p (x_field (off := 1) (o' := 1) rfl rfl rfl (by kernel_rfl) rfl) ?_
  refine AL_p (x_load1 rfl rfl rfl (by kernel_rfl) rfl) ?_
  refine AL_p (x_move rfl rfl) ?_
  refine AL_p (x_call0 rfl rfl rfl (szRowS_c _ _ (by omega) (by omega)) rfl rfl) ?_
  refine AL_p (x_assign rfl rfl) ?_
  refine AL_nil ?_
  refine AW_seq ?_
  refine AW_seq ?_
  refine AW_region ?_
  refine AL_p (x_move rfl rfl) ?_
  refine AL_b (x_lss rfl rfl rfl) (fun b10 h10 => ?_)
  refine AL_nil ?_
  cases b10
  rotate_left
  · try simp only [tdy] at h10
    have g10 := szR_neg h10
    refine AW_condT rfl ?_
    refine AW_seq ?_
    refine AW_region ?_
    refine AL_p (x_assign rfl rfl) ?_
    refine AL_nil ?_
    refine AW_ret ?_
    exact ⟨rn [], ⟨⟨⟨_, rfl, vle_int (by first | (simp only [totRel]; unfold szR; omega) | (simp only [totRel]; done))⟩, trivial⟩, trivial, trivial, rfl⟩⟩
  try simp only [tdy] at h10
  have f10 := (szR_nonneg h10).1
  have e10 := (szR_nonneg h10).2
  refine AW_condF rfl ?_
  refine AW_skip ?_
  refine AW_seq ?_
  refine AW_region ?_
  refine AL_p (x_move rfl rfl) ?_
  refine AL_p (x_assign rfl rfl) ?_
  refine AL_nil ?_
  refine AW_ret ?_
  exact ⟨rn [], ⟨⟨⟨_, rfl, vle_int (by first | (simp only [totRel]; unfold szR; omega) | (simp only [totRel]; done))⟩, trivial⟩, trivial, trivial, rfl⟩⟩

set_option maxHeartbeats 4000000 in
theorem eqRel_c (x : Relt) : AC Tryz.prog 130 [.agg (relC x), .agg (relC x)] [] (.one (.c (.bool true))) [] := by
  refine AC_body1 Tryz.func130 rfl rfl Tryz.ntmps130 rfl Tryz.results130 ?_
  refine AW_seq ?_
  refine AW_region ?_
  refine AL_p (x_box 100 rfl rfl rfl rfl rfl rfl rfl) ?_
  refine AL_p (x_box 101 rfl rfl rfl rfl rfl rfl rfl) ?_
  refine AL_p (x_assign rfl rfl) ?_
  refine AL_nil ?_
  refine AW_seq ?_
  refine AW_seq ?_
  refine AW_region ?_
  refine AL_p (x_field (off := 0) (o' := 0) rfl rfl rfl (by kernel_rfl) rfl) ?_
  refine AL_p (x_load1 rfl rfl rfl (by kernel_rfl) rfl) ?_
  refine AL_p (x_field (off := 0) (o' := 0) rfl rfl rfl (by kernel_rfl) rfl) ?_
  refine AL_p (x_load1 rfl rfl rfl (by kernel_rfl) rfl) ?_
  refine AL_b (x_neq rfl rfl rfl) (fun b9 h9 => ?_)
  refine AL_nil ?_
  cases b9
  rotate_left
  · exfalso; first | (simp [ba_beq_self] at h9; done) | grind
  try simp only [tdy] at h9
  refine AW_condF rfl ?_
  refine AW_skip ?_
  refine AW_seq ?_
  refine AW_seq ?_
  refine AW_region ?_
  refine AL_p (x_field (off := 1) (o' := 1) rfl rfl rfl (by kernel_rfl) rfl) ?_
  refine AL_p (x_load1 rfl rfl rfl (by kernel_rfl) rfl) ?_
  refine AL_p (x_field (off := 1) (o' := 1) rfl rfl rfl (by kernel_rfl) rfl) ?_
  refine AL_p (x_load1 rfl rfl rfl (by kernel_rfl) rfl) ?_
  refine AL_p (x_call0 rfl rfl rfl (eqRowS_c _) rfl rfl) ?_
  refine AL_p (x_not rfl rfl) ?_
  refine AL_nil ?_
  refine AW_condF rfl ?_
  refine AW_skip ?_
  refine AW_seq ?_
  refine AW_region ?_
  refine AL_p (x_assign rfl rfl) ?_
  refine AL_nil ?_
  refine AW_ret ?_
  exact ⟨rn [], ⟨⟨⟨_, rfl, vle_bool (rfl)⟩, trivial⟩, trivial, trivial, rfl⟩⟩

set_option maxHeartbeats 4000000 in
theorem toRel_c0 (x : Relt) (hs : smallRel x) : AC Tryz.prog 121 [.agg (relC x)] [] (.agg [.c (.int .i64 x.arity), .own 0]) [(0, some (.arr 72 rowE x.rows true))] := by
  refine AC_bodyC (n := 2) (k := 9) (T := [(2, .one (.ptr 9 0))]) (Lf := ((9, some (.box [.c (.int .i64 x.arity), .own 0])) :: [(0, some (.arr 72 rowE x.rows true))])) Tryz.func121 rfl rfl Tryz.ntmps121 rfl Tryz.results121 rfl rfl (by kernel_rfl) rfl rfl ⟨trivial, (by repeat (first | exact trivial | refine ⟨⟨_, rfl, BLe.rf⟩, ?_⟩)), (by repeat (first | exact trivial | refine ⟨⟨rfl, by first | (left; intro h; cases h) | (right; rfl), by first | exact (fun _ h => ⟨_, h⟩) | exact (fun _ _ => ⟨_, rfl⟩) | (intro _ h; cases h)⟩, ?_⟩)), rfl⟩ ?_
  refine AW_seq ?_
  refine AW_region ?_
  refine AL_p (x_box 100 rfl rfl rfl rfl rfl rfl rfl) ?_
  refine AL_p (x_alloc (z := .agg #[.int .i64 0, .slice none 0 0]) 101 rfl (by kernel_rfl) rfl rfl rfl rfl) ?_
  refine AL_nil ?_
  refine AW_seq ?_
  refine AW_region ?_
  refine AL_p (x_alloc (z := .agg #[.int .i64 0, .slice none 0 0]) 102 rfl (by kernel_rfl) rfl rfl rfl rfl) ?_
  refine AL_nil ?_
  refine AW_seq ?_
  refine AW_region ?_
  refine AL_p (x_field (off := 0) (o' := 0) rfl rfl rfl (by kernel_rfl) rfl) ?_
  refine AL_p (x_load1 rfl rfl rfl (by kernel_rfl) rfl) ?_
  refine AL_p (x_field (off := 0) (o' := 0) rfl rfl rfl (by kernel_rfl) rfl) ?_
  refine AL_p (x_store (n := 1) rfl rfl rfl rfl (by kernel_rfl) rfl rfl rfl) ?_
  refine AL_nil ?_
  refine AW_seq ?_
  refine AW_region ?_
  refine AL_p (x_field (off := 1) (o' := 1) rfl rfl rfl (by kernel_rfl) rfl) ?_
  refine AL_p (x_load1 rfl rfl rfl (by kernel_rfl) rfl) ?_
  refine AL_p (x_call1 rfl rfl rfl (toRowS_c x.rows (hs) 103) rfl rfl rfl rfl) ?_
  refine AL_p (x_field (off := 1) (o' := 1) rfl rfl rfl (by kernel_rfl) rfl) ?_
  refine AL_p (x_store (n := 1) rfl rfl rfl rfl (by kernel_rfl) rfl rfl rfl) ?_
  refine AL_nil ?_
  refine AW_seq ?_
  refine AW_region ?_
  refine AL_p (x_loadN (n := 2) rfl rfl rfl (by kernel_rfl) rfl rfl) ?_
  refine AL_p (x_store (n := 2) rfl rfl rfl rfl (by kernel_rfl) rfl rfl rfl) ?_
  refine AL_nil ?_
  refine AW_ret ?_
  exact ⟨rn [(9, 101), (0, 103)], ⟨⟨⟨_, rfl, VLe.rf⟩, trivial⟩, ⟨⟨_, rfl, by first | exact BLe.rf | (subst_vars; exact BLe.rf)⟩, ⟨_, rfl, BLe.rf⟩, trivial⟩, trivial, rfl⟩⟩
theorem toRel_c (x : Relt) (hs : smallRel x) (k : Nat) : AC Tryz.prog 121 [.agg (relC x)] [] (.agg [.c (.int .i64 x.arity), .own k]) [(k, some (.arr 72 rowE x.rows true))] := AC.at (toRel_c0 x hs) k

set_option maxHeartbeats 4000000 in
theorem szChange_c (x : Changet) (left : Int) (l0 : 0 ≤ left) (l1 : left ≤ 1048576) : AC Tryz.prog 74 [.agg (changeC x), .one (.c (.int .i64 left))] [] (.one (.c (.int .i64 (szR (totChange x) left)))) [] := by
  refine AC_body1 Tryz.func74 rfl rfl Tryz.ntmps74 rfl Tryz.results74 ?_
  refine AW_aggsmax 0 0 rfl rfl (fun hs0_0 => ?_)
  refine AW_seq ?_
  refine AW_region ?_
  refine AL_p (x_box 100 rfl rfl rfl rfl rfl rfl rfl) ?_
  refine AL_p (x_assign rfl rfl) ?_
  refine AL_nil ?_
  refine AW_seq ?_
  refine AW_region ?_
  refine AL_p (x_move rfl rfl) ?_
  refine AL_p (x_field (off := 0) (o' := 0) rfl rfl rfl (by kernel_rfl) rfl) ?_
  refine AL_p (x_load1 rfl rfl rfl (by kernel_rfl) rfl) ?_
  refine AL_p (x_lens rfl rfl (by kernel_rfl)) ?_
  refine AL_p (x_sub rfl rfl rfl (IntWalk.i64_in _ (by omega))) ?_
  refine AL_p (x_assign rfl rfl) ?_
  refine AL_nil ?_
  refine AW_seq ?_
  refine AW_seq ?_
  refine AW_region ?_
  refine AL_p (x_move rfl rfl) ?_
  refine AL_b (x_lss rfl rfl rfl) (fun b11 h11 => ?_)
  refine AL_nil ?_
  cases b11
  rotate_left
  · try simp only [tdy] at h11
    refine AW_condT rfl ?_
    refine AW_seq ?_
    refine AW_region ?_
    refine AL_p (x_assign rfl rfl) ?_
    refine AL_nil ?_
    refine AW_ret ?_
    exact ⟨rn [], ⟨⟨⟨_, rfl, vle_int (by first | (simp only [totChange]; unfold szR; omega) | (simp only [totChange]; done))⟩, trivial⟩, trivial, trivial, rfl⟩⟩
  try simp only [tdy] at h11
  refine AW_condF rfl ?_
  refine AW_skip ?_
  refine AW_seq ?_
  refine AW_region ?_
  refine AL_p (x_field (off := 1) (o' := 1) rfl rfl rfl (by kernel_rfl) rfl) ?_
  refine AL_p (x_loadN (n := 2) rfl rfl rfl (by kernel_rfl) rfl rfl) ?_
  refine AL_p (x_move rfl rfl) ?_
  refine AL_p (x_call0 rfl rfl rfl (szRel_c _ _ (by omega) (by omega)) rfl rfl) ?_
  refine AL_p (x_assign rfl rfl) ?_
  refine AL_nil ?_
  refine AW_seq ?_
  refine AW_seq ?_
  refine AW_region ?_
  refine AL_p (x_move rfl rfl) ?_
  refine AL_b (x_lss rfl rfl rfl) (fun b17 h17 => ?_)
  refine AL_nil ?_
  cases b17
  rotate_left
  · try simp only [tdy] at h17
    have g17 := szR_neg h17
    refine AW_condT rfl ?_
    refine AW_seq ?_
    refine AW_region ?_
    refine AL_p (x_assign rfl rfl) ?_
    refine AL_nil ?_
    refine AW_ret ?_
    exact ⟨rn [], ⟨⟨⟨_, rfl, vle_int (by first | (simp only [totChange]; unfold szR; omega) | (simp only [totChange]; done))⟩, trivial⟩, trivial, trivial, rfl⟩⟩
  try simp only [tdy] at h17
  have f17 := (szR_nonneg h17).1
  have e17 := (szR_nonneg h17).2
  refine AW_condF rfl ?_
  refine AW_skip ?_
  refine AW_seq ?_
  refine AW_region ?_
  refine AL_p (x_field (off := 3) (o' := 3) rfl rfl rfl (by kernel_rfl) rfl) ?_
  refine AL_p (x_loadN (n := 2) rfl rfl rfl (by kernel_rfl) rfl rfl) ?_
  refine AL_p (x_move rfl rfl) ?_
  refine AL_p (x_call0 rfl rfl rfl (szRel_c _ _ (by omega) (by omega)) rfl rfl) ?_
  refine AL_p (x_assign rfl rfl) ?_
  refine AL_nil ?_
  refine AW_seq ?_
  refine AW_seq ?_
  refine AW_region ?_
  refine AL_p (x_move rfl rfl) ?_
  refine AL_b (x_lss rfl rfl rfl) (fun b23 h23 => ?_)
  refine AL_nil ?_
  cases b23
  rotate_left
  · try simp only [tdy] at h23
    have g23 := szR_neg h23
    refine AW_condT rfl ?_
    refine AW_seq ?_
    refine AW_region ?_
    refine AL_p (x_assign rfl rfl) ?_
    refine AL_nil ?_
    refine AW_ret ?_
    exact ⟨rn [], ⟨⟨⟨_, rfl, vle_int (by first | (simp only [totChange]; unfold szR; omega) | (simp only [totChange]; done))⟩, trivial⟩, trivial, trivial, rfl⟩⟩
  try simp only [tdy] at h23
  have f23 := (szR_nonneg h23).1
  have e23 := (szR_nonneg h23).2
  refine AW_condF rfl ?_
  refine AW_skip ?_
  refine AW_seq ?_
  refine AW_region ?_
  refine AL_p (x_move rfl rfl) ?_
  refine AL_p (x_assign rfl rfl) ?_
  refine AL_nil ?_
  refine AW_ret ?_
  exact ⟨rn [], ⟨⟨⟨_, rfl, vle_int (by first | (simp only [totChange]; unfold szR; omega) | (simp only [totChange]; done))⟩, trivial⟩, trivial, trivial, rfl⟩⟩

set_option maxHeartbeats 4000000 in
theorem eqChange_c (x : Changet) : AC Tryz.prog 94 [.agg (changeC x), .agg (changeC x)] [] (.one (.c (.bool true))) [] := by
  refine AC_body1 Tryz.func94 rfl rfl Tryz.ntmps94 rfl Tryz.results94 ?_
  refine AW_seq ?_
  refine AW_region ?_
  refine AL_p (x_box 100 rfl rfl rfl rfl rfl rfl rfl) ?_
  refine AL_p (x_box 101 rfl rfl rfl rfl rfl rfl rfl) ?_
  refine AL_p (x_assign rfl rfl) ?_
  refine AL_nil ?_
  refine AW_seq ?_
  refine AW_seq ?_
  refine AW_region ?_
  refine AL_p (x_field (off := 0) (o' := 0) rfl rfl rfl (by kernel_rfl) rfl) ?_
  refine AL_p (x_load1 rfl rfl rfl (by kernel_rfl) rfl) ?_
  refine AL_p (x_field (off := 0) (o' := 0) rfl rfl rfl (by kernel_rfl) rfl) ?_
  refine AL_p (x_load1 rfl rfl rfl (by kernel_rfl) rfl) ?_
  refine AL_b (x_sneq rfl rfl rfl) (fun b9 h9 => ?_)
  refine AL_nil ?_
  cases b9
  rotate_left
  · exfalso; first | (simp [ba_beq_self] at h9; done) | grind
  try simp only [tdy] at h9
  refine AW_condF rfl ?_
  refine AW_skip ?_
  refine AW_seq ?_
  refine AW_seq ?_
  refine AW_region ?_
  refine AL_p (x_field (off := 1) (o' := 1) rfl rfl rfl (by kernel_rfl) rfl) ?_
  refine AL_p (x_loadN (n := 2) rfl rfl rfl (by kernel_rfl) rfl rfl) ?_
  refine AL_p (x_field (off := 1) (o' := 1) rfl rfl rfl (by kernel_rfl) rfl) ?_
  refine AL_p (x_loadN (n := 2) rfl rfl rfl (by kernel_rfl) rfl rfl) ?_
  refine AL_p (x_call0 rfl rfl rfl (eqRel_c _) rfl rfl) ?_
  refine AL_p (x_not rfl rfl) ?_
  refine AL_nil ?_
  refine AW_condF rfl ?_
  refine AW_skip ?_
  refine AW_seq ?_
  refine AW_seq ?_
  refine AW_region ?_
  refine AL_p (x_field (off := 3) (o' := 3) rfl rfl rfl (by kernel_rfl) rfl) ?_
  refine AL_p (x_loadN (n := 2) rfl rfl rfl (by kernel_rfl) rfl rfl) ?_
  refine AL_p (x_field (off := 3) (o' := 3) rfl rfl rfl (by kernel_rfl) rfl) ?_
  refine AL_p (x_loadN (n := 2) rfl rfl rfl (by kernel_rfl) rfl rfl) ?_
  refine AL_p (x_call0 rfl rfl rfl (eqRel_c _) rfl rfl) ?_
  refine AL_p (x_not rfl rfl) ?_
  refine AL_nil ?_
  refine AW_condF rfl ?_
  refine AW_skip ?_
  refine AW_seq ?_
  refine AW_region ?_
  refine AL_p (x_assign rfl rfl) ?_
  refine AL_nil ?_
  refine AW_ret ?_
  exact ⟨rn [], ⟨⟨⟨_, rfl, vle_bool (rfl)⟩, trivial⟩, trivial, trivial, rfl⟩⟩

set_option maxHeartbeats 4000000 in
theorem toChange_c (x : Changet) (hs : smallChange x) : AC Tryz.prog 80 [.agg (changeC x)] [] (.agg [.c (.string x.name), .c (.int .i64 x.plus.arity), .own 0, .c (.int .i64 x.minus.arity), .own 1]) [(0, some (.arr 72 rowE x.plus.rows true)), (1, some (.arr 72 rowE x.minus.rows true))] := by
  refine AC_bodyC (n := 5) (k := 9) (T := [(2, .one (.ptr 9 0))]) (Lf := ((9, some (.box [.c (.string x.name), .c (.int .i64 x.plus.arity), .own 0, .c (.int .i64 x.minus.arity), .own 1])) :: [(0, some (.arr 72 rowE x.plus.rows true)), (1, some (.arr 72 rowE x.minus.rows true))])) Tryz.func80 rfl rfl Tryz.ntmps80 rfl Tryz.results80 rfl rfl (by kernel_rfl) rfl rfl ⟨trivial, (by repeat (first | exact trivial | refine ⟨⟨_, rfl, BLe.rf⟩, ?_⟩)), (by repeat (first | exact trivial | refine ⟨⟨rfl, by first | (left; intro h; cases h) | (right; rfl), by first | exact (fun _ h => ⟨_, h⟩) | exact (fun _ _ => ⟨_, rfl⟩) | (intro _ h; cases h)⟩, ?_⟩)), rfl⟩ ?_
  refine AW_seq ?_
  refine AW_region ?_
  refine AL_p (x_box 100 rfl rfl rfl rfl rfl rfl rfl) ?_
  refine AL_p (x_alloc (z := .agg #[.string ⟨#[]⟩, .int .i64 0, .slice none 0 0, .int .i64 0, .slice none 0 0]) 101 rfl (by kernel_rfl) rfl rfl rfl rfl) ?_
  refine AL_nil ?_
  refine AW_seq ?_
  refine AW_region ?_
  refine AL_p (x_alloc (z := .agg #[.string ⟨#[]⟩, .int .i64 0, .slice none 0 0, .int .i64 0, .slice none 0 0]) 102 rfl (by kernel_rfl) rfl rfl rfl rfl) ?_
  refine AL_nil ?_
  refine AW_seq ?_
  refine AW_region ?_
  refine AL_p (x_field (off := 0) (o' := 0) rfl rfl rfl (by kernel_rfl) rfl) ?_
  refine AL_p (x_load1 rfl rfl rfl (by kernel_rfl) rfl) ?_
  refine AL_p (x_field (off := 0) (o' := 0) rfl rfl rfl (by kernel_rfl) rfl) ?_
  refine AL_p (x_store (n := 1) rfl rfl rfl rfl (by kernel_rfl) rfl rfl rfl) ?_
  refine AL_nil ?_
  refine AW_seq ?_
  refine AW_region ?_
  refine AL_p (x_field (off := 1) (o' := 1) rfl rfl rfl (by kernel_rfl) rfl) ?_
  refine AL_p (x_loadN (n := 2) rfl rfl rfl (by kernel_rfl) rfl rfl) ?_
  refine AL_p (x_callR rfl rfl rfl (toRel_c x.plus hs.2.1 103) rfl AllV.rf rfl rfl rfl rfl rfl) ?_
  refine AL_p (x_field (off := 1) (o' := 1) rfl rfl rfl (by kernel_rfl) rfl) ?_
  refine AL_p (x_store (n := 2) rfl rfl rfl rfl (by kernel_rfl) rfl rfl rfl) ?_
  refine AL_nil ?_
  refine AW_seq ?_
  refine AW_region ?_
  refine AL_p (x_field (off := 3) (o' := 3) rfl rfl rfl (by kernel_rfl) rfl) ?_
  refine AL_p (x_loadN (n := 2) rfl rfl rfl (by kernel_rfl) rfl rfl) ?_
  refine AL_p (x_callR rfl rfl rfl (toRel_c x.minus hs.2.2 104) rfl AllV.rf rfl rfl rfl rfl rfl) ?_
  refine AL_p (x_field (off := 3) (o' := 3) rfl rfl rfl (by kernel_rfl) rfl) ?_
  refine AL_p (x_store (n := 2) rfl rfl rfl rfl (by kernel_rfl) rfl rfl rfl) ?_
  refine AL_nil ?_
  refine AW_seq ?_
  refine AW_region ?_
  refine AL_p (x_loadN (n := 5) rfl rfl rfl (by kernel_rfl) rfl rfl) ?_
  refine AL_p (x_store (n := 5) rfl rfl rfl rfl (by kernel_rfl) rfl rfl rfl) ?_
  refine AL_nil ?_
  refine AW_ret ?_
  exact ⟨rn [(9, 101), (0, 103), (1, 104)], ⟨⟨⟨_, rfl, VLe.rf⟩, trivial⟩, ⟨⟨_, rfl, by first | exact BLe.rf | (subst_vars; exact BLe.rf)⟩, ⟨_, rfl, BLe.rf⟩, ⟨_, rfl, BLe.rf⟩, trivial⟩, trivial, rfl⟩⟩

set_option maxHeartbeats 4000000 in
theorem szChangeS_c (xs : List (Changet)) (left : Int) (l0 : 0 ≤ left) (l1 : left ≤ 1048576) : AC Tryz.prog 29 [.one (.sl changeE xs), .one (.c (.int .i64 left))] [] (.one (.c (.int .i64 (szR (totL totChange xs) left)))) [] := by
  refine AC_body1 Tryz.func29 rfl rfl Tryz.ntmps29 rfl Tryz.results29 ?_
  refine AW_slmax 0 rfl (fun hm0 => ?_)
  refine AW_seq ?_
  refine AW_region ?_
  refine AL_p (x_assign rfl rfl) ?_
  refine AL_nil ?_
  refine AW_seq ?_
  refine AW_region ?_
  refine AL_p (x_move rfl rfl) ?_
  refine AL_p (x_move rfl rfl) ?_
  refine AL_p (x_len (E := 108) (n := 5) rfl rfl (by kernel_rfl)) ?_
  refine AL_p (x_sub rfl rfl rfl (IntWalk.i64_in _ (by omega))) ?_
  refine AL_p (x_assign rfl rfl) ?_
  refine AL_nil ?_
  refine AW_seq ?_
  refine AW_seq ?_
  refine AW_region ?_
  refine AL_p (x_move rfl rfl) ?_
  refine AL_b (x_lss rfl rfl rfl) (fun b11 h11 => ?_)
  refine AL_nil ?_
  cases b11
  rotate_left
  · try simp only [tdy] at h11
    refine AW_condT rfl ?_
    refine AW_seq ?_
    refine AW_region ?_
    refine AL_p (x_assign rfl rfl) ?_
    refine AL_nil ?_
    refine AW_ret ?_
    exact ⟨rn [], ⟨⟨⟨_, rfl, vle_int (by first | (simp only [totL]; unfold szR; omega) | (simp only [totL]; done))⟩, trivial⟩, trivial, trivial, rfl⟩⟩
  try simp only [tdy] at h11
  refine AW_condF rfl ?_
  refine AW_skip ?_
  refine AW_seq ?_
  refine AW_seq ?_
  refine AW_region ?_
  refine AL_p (x_assign rfl rfl) ?_
  refine AL_nil ?_
  refine AW_block ?_
  refine AW_loop2 (ι := {q : Nat // q ≤ xs.length ∧ ((cntL totChange (xs.take q) : Nat) : Int) ≤ left - (xs.length : Int)}) (fun p => [(1, .one (.c (.int .i64 (left - (xs.length : Int) - ((cntL totChange (xs.take (p.1)) : Nat) : Int))))), (5, .one (.c (.int .i64 ((p.1) : Int))))]) (fun p => []) [0] [] (fun p => xs.length - (p.1)) ⟨0, ⟨by omega, by first | (simp [cntL]; done) | (simp [cntL]; try omega)⟩⟩ (rn []) ?_ ?_
  exact ⟨by (repeat refine ⟨⟨_, rfl, by first | exact VLe.rf | exact vle_int (by dsimp only; omega) | exact vle_int (by first | (simp [cntL]; done) | (simp [cntL]; try omega))⟩, ?_⟩); exact trivial, by (repeat refine ⟨⟨_, rfl, by first | exact BLe.rf | exact BLe.box AllC.rf | exact BLe.arr (by exact rfl)⟩, ?_⟩); exact trivial, by repeat (first | exact trivial | refine ⟨⟨rfl, by first | (left; intro h; cases h) | (right; rfl), by first | exact (fun _ h => ⟨_, h⟩) | exact (fun _ _ => ⟨_, rfl⟩) | (intro _ h; cases h)⟩, ?_⟩), rfl⟩
  rintro ⟨k, hinv⟩
  dsimp only
  obtain ⟨hk, hc⟩ := hinv
  refine AW_seq ?_
  refine AW_seq ?_
  refine AW_region ?_
  refine AL_p (x_move rfl rfl) ?_
  refine AL_p (x_move rfl rfl) ?_
  refine AL_p (x_len (E := 108) (n := 5) rfl rfl (by kernel_rfl)) ?_
  refine AL_b (x_lss rfl rfl rfl) (fun b15 h15 => ?_)
  refine AL_nil ?_
  cases b15
  · try simp only [tdy] at h15
    have ha := cntL_all (c := totChange) (xs := xs) (k := k) (by omega)
    refine AW_condF rfl ?_
    refine AW_exit (BQ_hit ?_)
    refine AW_seq ?_
    refine AW_region ?_
    refine AL_p (x_move rfl rfl) ?_
    refine AL_p (x_assign rfl rfl) ?_
    refine AL_nil ?_
    refine AW_ret ?_
    exact ⟨rn [], ⟨⟨⟨_, rfl, vle_int (by first | (simp only [totL]; unfold szR; omega) | (simp only [totL]; done))⟩, trivial⟩, trivial, trivial, rfl⟩⟩
  try simp only [tdy] at h15
  have hlt : k < xs.length := by omega
  have hs := cntL_snoc (c := totChange) hlt
  have ht := cntL_take (c := totChange) hlt
  refine AW_condT rfl ?_
  refine AW_skip ?_
  refine AW_seq ?_
  refine AW_block ?_
  refine AW_seq ?_
  refine AW_region ?_
  refine AL_p (x_move rfl rfl) ?_
  refine AL_p (x_move rfl rfl) ?_
  refine AL_p (x_index (E := 108) (n := 5) rfl rfl rfl (by kernel_rfl) rfl (k := k) (by omega) (by omega)) ?_
  refine AL_p (x_eloadW (n := 5) rfl rfl (by kernel_rfl) rfl) ?_
  refine AL_p (x_move rfl rfl) ?_
  refine AL_p (x_call0 rfl rfl rfl (szChange_c _ _ (by omega) (by omega)) rfl rfl) ?_
  refine AL_p (x_assign rfl rfl) ?_
  refine AL_nil ?_
  refine AW_seq ?_
  refine AW_region ?_
  refine AL_p (x_move rfl rfl) ?_
  refine AL_b (x_lss rfl rfl rfl) (fun b25 h25 => ?_)
  refine AL_nil ?_
  cases b25
  rotate_left
  · try simp only [tdy] at h25
    have g25 := szR_neg h25
    refine AW_condT rfl ?_
    refine AW_seq ?_
    refine AW_region ?_
    refine AL_p (x_assign rfl rfl) ?_
    refine AL_nil ?_
    refine AW_ret (BQ_ret (BQ_ret ?_))
    exact ⟨rn [], ⟨⟨⟨_, rfl, vle_int (by first | (simp only [totL]; unfold szR; omega) | (simp only [totL]; done))⟩, trivial⟩, trivial, trivial, rfl⟩⟩
  try simp only [tdy] at h25
  have f25 := (szR_nonneg h25).1
  have e25 := (szR_nonneg h25).2
  refine AW_condF rfl ?_
  refine AW_skip ?_
  refine AW_region ?_
  refine AL_p (x_move rfl rfl) ?_
  refine AL_p (x_add rfl rfl rfl (IntWalk.i64_in _ (by omega))) ?_
  refine AL_p (x_assign rfl rfl) ?_
  refine AL_nil ?_
  refine ⟨⟨k + 1, ⟨by omega, by omega⟩⟩, rn [], ?_, by dsimp only; omega⟩
  exact ⟨by (repeat refine ⟨⟨_, rfl, by first | exact VLe.rf | exact vle_int (by dsimp only; omega) | exact vle_int (by first | (simp [cntL]; done) | (simp [cntL]; try omega))⟩, ?_⟩); exact trivial, by (repeat refine ⟨⟨_, rfl, by first | exact BLe.rf | exact BLe.box AllC.rf | exact BLe.arr (by exact rfl)⟩, ?_⟩); exact trivial, by repeat (first | exact trivial | refine ⟨⟨rfl, by first | (left; intro h; cases h) | (right; rfl), by first | exact (fun _ h => ⟨_, h⟩) | exact (fun _ _ => ⟨_, rfl⟩) | (intro _ h; cases h)⟩, ?_⟩), rfl⟩

set_option maxHeartbeats 4000000 in
theorem eqChangeS_c (xs : List (Changet)) : AC Tryz.prog 46 [.one (.sl changeE xs), .one (.sl changeE xs)] [] (.one (.c (.bool true))) [] := by
  refine AC_body1 Tryz.func46 rfl rfl Tryz.ntmps46 rfl Tryz.results46 ?_
  refine AW_slmax 0 rfl (fun hm0 => ?_)
  refine AW_seq ?_
  refine AW_region ?_
  refine AL_p (x_assign rfl rfl) ?_
  refine AL_nil ?_
  refine AW_seq ?_
  refine AW_seq ?_
  refine AW_region ?_
  refine AL_p (x_move rfl rfl) ?_
  refine AL_p (x_len (E := 65) (n := 5) rfl rfl (by kernel_rfl)) ?_
  refine AL_p (x_move rfl rfl) ?_
  refine AL_p (x_len (E := 65) (n := 5) rfl rfl (by kernel_rfl)) ?_
  refine AL_b (x_neq rfl rfl rfl) (fun b10 h10 => ?_)
  refine AL_nil ?_
  cases b10
  rotate_left
  · exfalso; first | (simp [ba_beq_self] at h10; done) | grind
  try simp only [tdy] at h10
  refine AW_condF rfl ?_
  refine AW_skip ?_
  refine AW_seq ?_
  refine AW_seq ?_
  refine AW_region ?_
  refine AL_p (x_assign rfl rfl) ?_
  refine AL_nil ?_
  refine AW_block ?_
  refine AW_loop2 (ι := {q : Nat // q ≤ xs.length}) (fun p => [(5, .one (.c (.int .i64 ((p.1) : Int))))]) (fun p => []) [0, 1] [] (fun p => xs.length - (p.1)) ⟨0, by omega⟩ (rn []) ?_ ?_
  exact ⟨by (repeat refine ⟨⟨_, rfl, by first | exact VLe.rf | exact vle_int (by dsimp only; omega)⟩, ?_⟩); exact trivial, by (repeat refine ⟨⟨_, rfl, by first | exact BLe.rf | exact BLe.box AllC.rf | exact BLe.arr (by exact rfl)⟩, ?_⟩); exact trivial, by repeat (first | exact trivial | refine ⟨⟨rfl, by first | (left; intro h; cases h) | (right; rfl), by first | exact (fun _ h => ⟨_, h⟩) | exact (fun _ _ => ⟨_, rfl⟩) | (intro _ h; cases h)⟩, ?_⟩), rfl⟩
  rintro ⟨k, hinv⟩
  dsimp only
  refine AW_seq ?_
  refine AW_seq ?_
  refine AW_region ?_
  refine AL_p (x_move rfl rfl) ?_
  refine AL_p (x_move rfl rfl) ?_
  refine AL_p (x_len (E := 65) (n := 5) rfl rfl (by kernel_rfl)) ?_
  refine AL_b (x_lss rfl rfl rfl) (fun b14 h14 => ?_)
  refine AL_nil ?_
  cases b14
  · try simp only [tdy] at h14
    refine AW_condF rfl ?_
    refine AW_exit (BQ_hit ?_)
    refine AW_seq ?_
    refine AW_region ?_
    refine AL_p (x_assign rfl rfl) ?_
    refine AL_nil ?_
    refine AW_ret ?_
    exact ⟨rn [], ⟨⟨⟨_, rfl, vle_bool (rfl)⟩, trivial⟩, trivial, trivial, rfl⟩⟩
  try simp only [tdy] at h14
  refine AW_condT rfl ?_
  refine AW_skip ?_
  refine AW_seq ?_
  refine AW_block ?_
  refine AW_seq ?_
  refine AW_draw rfl ?_
  refine AL_p (x_move rfl rfl) ?_
  refine AL_p (x_move rfl rfl) ?_
  refine AL_p (x_index (E := 65) (n := 5) rfl rfl rfl (by kernel_rfl) rfl (k := k) (by omega) (by omega)) ?_
  refine AL_p (x_eloadW (n := 5) rfl rfl (by kernel_rfl) rfl) ?_
  refine AL_p (x_move rfl rfl) ?_
  refine AL_p (x_move rfl rfl) ?_
  refine AL_p (x_index (E := 65) (n := 5) rfl rfl rfl (by kernel_rfl) rfl (k := k) (by omega) (by omega)) ?_
  refine AL_p (x_eloadW (n := 5) rfl rfl (by kernel_rfl) rfl) ?_
  refine AL_p (x_call0 rfl rfl rfl (eqChange_c _) rfl rfl) ?_
  refine AL_p (x_not rfl rfl) ?_
  refine AL_nild (by kernel_rfl) ?_
  refine AW_condF rfl ?_
  refine AW_skip ?_
  refine AW_region ?_
  refine AL_p (x_move rfl rfl) ?_
  refine AL_p (x_add rfl rfl rfl (IntWalk.i64_in _ (by omega))) ?_
  refine AL_p (x_assign rfl rfl) ?_
  refine AL_nil ?_
  refine ⟨⟨k + 1, by omega⟩, rn [], ?_, by dsimp only; omega⟩
  exact ⟨by (repeat refine ⟨⟨_, rfl, by first | exact VLe.rf | exact vle_int (by dsimp only; omega)⟩, ?_⟩); exact trivial, by (repeat refine ⟨⟨_, rfl, by first | exact BLe.rf | exact BLe.box AllC.rf | exact BLe.arr (by exact rfl)⟩, ?_⟩); exact trivial, by repeat (first | exact trivial | refine ⟨⟨rfl, by first | (left; intro h; cases h) | (right; rfl), by first | exact (fun _ h => ⟨_, h⟩) | exact (fun _ _ => ⟨_, rfl⟩) | (intro _ h; cases h)⟩, ?_⟩), rfl⟩

set_option maxHeartbeats 4000000 in
theorem toChangeS_c0 (xs : List (Changet)) (hs : xs.length ≤ 1048576 ∧ ∀ y ∈ xs, smallChange y) : AC Tryz.prog 37 [.one (.sl changeE xs)] [] (.one (.own 0)) [(0, some (.arr 65 changeE xs true))] := by
  refine AC_body1 Tryz.func37 rfl rfl Tryz.ntmps37 rfl Tryz.results37 ?_
  refine AW_seq ?_
  refine AW_region ?_
  refine AL_p (x_assign rfl rfl) ?_
  refine AL_nil ?_
  refine AW_seq ?_
  refine AW_region ?_
  refine AL_p (x_move rfl rfl) ?_
  refine AL_p (x_len (E := 108) (n := 5) rfl rfl (by kernel_rfl)) ?_
  refine AL_p (x_make (T := 36) (E := 65) (e := changeE) ((⟨⟨#[]⟩, ⟨0, []⟩, ⟨0, []⟩⟩ : Changet)) (z := .agg #[.string ⟨#[]⟩, .int .i64 0, .slice none 0 0, .int .i64 0, .slice none 0 0]) 100 rfl rfl rfl (by kernel_rfl) rfl ⟨.inl rfl, .inl rfl, .inr ⟨rfl, _, _, rfl⟩, .inl rfl, .inr ⟨rfl, _, _, rfl⟩, trivial⟩ rfl rfl (by kernel_rfl) (by have := hs.1; omega)) ?_
  refine AL_p (x_assign rfl rfl) ?_
  refine AL_nil ?_
  refine AW_seq ?_
  refine AW_seq ?_
  refine AW_region ?_
  refine AL_p (x_assign rfl rfl) ?_
  refine AL_nil ?_
  refine AW_block ?_
  refine AW_loop2 (ι := {q : Nat // q ≤ xs.length}) (fun p => [(4, .one (.c (.int .i64 ((p.1) : Int))))]) (fun p => [(100, some (.arr 65 changeE (filledTo xs ((⟨⟨#[]⟩, ⟨0, []⟩, ⟨0, []⟩⟩ : Changet)) (p.1)) true))]) [0, 3] [] (fun p => xs.length - (p.1)) ⟨0, by omega⟩ (rn []) ?_ ?_
  exact ⟨by (repeat refine ⟨⟨_, rfl, by first | exact VLe.rf | exact vle_int (by dsimp only; omega)⟩, ?_⟩); exact trivial, by (repeat refine ⟨⟨_, rfl, by first | exact BLe.rf | exact BLe.box AllC.rf | exact BLe.arr (by first | exact filledTo_zero | exact filledTo_succ (by omega))⟩, ?_⟩); exact trivial, by repeat (first | exact trivial | refine ⟨⟨rfl, by first | (left; intro h; cases h) | (right; rfl), by first | exact (fun _ h => ⟨_, h⟩) | exact (fun _ _ => ⟨_, rfl⟩) | (intro _ h; cases h)⟩, ?_⟩), rfl⟩
  rintro ⟨k, hinv⟩
  dsimp only
  have hlen := hs.1
  refine AW_seq ?_
  refine AW_seq ?_
  refine AW_region ?_
  refine AL_p (x_move rfl rfl) ?_
  refine AL_p (x_move rfl rfl) ?_
  refine AL_p (x_len (E := 108) (n := 5) rfl rfl (by kernel_rfl)) ?_
  refine AL_b (x_lss rfl rfl rfl) (fun b11 h11 => ?_)
  refine AL_nil ?_
  cases b11
  · try simp only [tdy] at h11
    refine AW_condF rfl ?_
    refine AW_exit (BQ_hit ?_)
    refine AW_seq ?_
    refine AW_region ?_
    refine AL_p (x_move rfl rfl) ?_
    refine AL_p (x_assign rfl rfl) ?_
    refine AL_nil ?_
    refine AW_ret ?_
    exact ⟨rn [(0, 100)], ⟨⟨⟨_, rfl, VLe.rf⟩, trivial⟩, ⟨⟨_, rfl, BLe.arr (filledTo_done (by omega))⟩, trivial⟩, trivial, rfl⟩⟩
  try simp only [tdy] at h11
  refine AW_condT rfl ?_
  refine AW_skip ?_
  refine AW_seq ?_
  refine AW_block ?_
  refine AW_region ?_
  refine AL_p (x_move rfl rfl) ?_
  refine AL_p (x_move rfl rfl) ?_
  refine AL_p (x_move rfl rfl) ?_
  refine AL_p (x_move rfl rfl) ?_
  refine AL_p (x_index (E := 108) (n := 5) rfl rfl rfl (by kernel_rfl) rfl (k := k) (by omega) (by omega)) ?_
  refine AL_p (x_eloadW (n := 5) rfl rfl (by kernel_rfl) rfl) ?_
  refine AL_p (x_callR rfl rfl rfl ((AC.renum (res := .agg [.c (.string (xs[k]'(by omega)).name), .c (.int .i64 (xs[k]'(by omega)).plus.arity), .own 101, .c (.int .i64 (xs[k]'(by omega)).minus.arity), .own 102]) (L := [(101, some (.arr 72 rowE (xs[k]'(by omega)).plus.rows true)), (102, some (.arr 72 rowE (xs[k]'(by omega)).minus.rows true))]) (r := rn [(101, 0), (102, 1)]) (toChange_c (xs[k]'(by omega)) (hs.2 _ (List.getElem_mem _))) ⟨⟨_, rfl, BLe.rf⟩, ⟨_, rfl, BLe.rf⟩, trivial⟩ rfl)) rfl AllV.rf rfl rfl rfl rfl rfl) ?_
  refine AL_p (x_oindex (n := 5) rfl rfl rfl rfl (by kernel_rfl) rfl (k := k) rfl (by rw [filledTo_len (by omega)]; omega)) ?_
  refine AL_p (x_ostore (xs[k]'(by omega)) rfl rfl rfl rfl (by kernel_rfl) rfl rfl rfl rfl FitL.rf rfl rfl (by first | omega | (rw [filledTo_len (by omega)]; omega) | (simp; omega))) ?_
  refine AL_nil ?_
  refine AW_region ?_
  refine AL_p (x_move rfl rfl) ?_
  refine AL_p (x_add rfl rfl rfl (IntWalk.i64_in _ (by omega))) ?_
  refine AL_p (x_assign rfl rfl) ?_
  refine AL_nil ?_
  refine ⟨⟨k + 1, by omega⟩, rn [], ?_, by dsimp only; omega⟩
  exact ⟨by (repeat refine ⟨⟨_, rfl, by first | exact VLe.rf | exact vle_int (by dsimp only; omega)⟩, ?_⟩); exact trivial, by (repeat refine ⟨⟨_, rfl, by first | exact BLe.rf | exact BLe.box AllC.rf | exact BLe.arr (by first | exact filledTo_zero | exact filledTo_succ (by omega))⟩, ?_⟩); exact trivial, by repeat (first | exact trivial | refine ⟨⟨rfl, by first | (left; intro h; cases h) | (right; rfl), by first | exact (fun _ h => ⟨_, h⟩) | exact (fun _ _ => ⟨_, rfl⟩) | (intro _ h; cases h)⟩, ?_⟩), rfl⟩
theorem toChangeS_c (xs : List (Changet)) (hs : xs.length ≤ 1048576 ∧ ∀ y ∈ xs, smallChange y) (k : Nat) : AC Tryz.prog 37 [.one (.sl changeE xs)] [] (.one (.own k)) [(k, some (.arr 65 changeE xs true))] := AC.at (toChangeS_c0 xs hs) k

set_option maxHeartbeats 4000000 in
theorem szDelta_c (x : Deltat) (left : Int) (l0 : 0 ≤ left) (l1 : left ≤ 1048576) : AC Tryz.prog 8 [.agg (deltaC x), .one (.c (.int .i64 left))] [] (.one (.c (.int .i64 (szR (totDelta x) left)))) [] := by
  refine AC_body1 Tryz.func8 rfl rfl Tryz.ntmps8 rfl Tryz.results8 ?_
  refine AW_seq ?_
  refine AW_region ?_
  refine AL_p (x_box 100 rfl rfl rfl rfl rfl rfl rfl) ?_
  refine AL_p (x_assign rfl rfl) ?_
  refine AL_nil ?_
  refine AW_seq ?_
  refine AW_region ?_
  refine AL_p (x_field (off := 0) (o' := 0) rfl rfl rfl (by kernel_rfl) rfl) ?_
  refine AL_p (x_load1 rfl rfl rfl (by kernel_rfl) rfl) ?_
  refine AL_p (x_move rfl rfl) ?_
  refine AL_p (x_call0 rfl rfl rfl (szChangeS_c _ _ (by omega) (by omega)) rfl rfl) ?_
  refine AL_p (x_assign rfl rfl) ?_
  refine AL_nil ?_
  refine AW_seq ?_
  refine AW_seq ?_
  refine AW_region ?_
  refine AL_p (x_move rfl rfl) ?_
  refine AL_b (x_lss rfl rfl rfl) (fun b10 h10 => ?_)
  refine AL_nil ?_
  cases b10
  rotate_left
  · try simp only [tdy] at h10
    have g10 := szR_neg h10
    refine AW_condT rfl ?_
    refine AW_seq ?_
    refine AW_region ?_
    refine AL_p (x_assign rfl rfl) ?_
    refine AL_nil ?_
    refine AW_ret ?_
    exact ⟨rn [], ⟨⟨⟨_, rfl, vle_int (by first | (simp only [totDelta]; unfold szR; omega) | (simp only [totDelta]; done))⟩, trivial⟩, trivial, trivial, rfl⟩⟩
  try simp only [tdy] at h10
  have f10 := (szR_nonneg h10).1
  have e10 := (szR_nonneg h10).2
  refine AW_condF rfl ?_
  refine AW_skip ?_
  refine AW_seq ?_
  refine AW_region ?_
  refine AL_p (x_move rfl rfl) ?_
  refine AL_p (x_assign rfl rfl) ?_
  refine AL_nil ?_
  refine AW_ret ?_
  exact ⟨rn [], ⟨⟨⟨_, rfl, vle_int (by first | (simp only [totDelta]; unfold szR; omega) | (simp only [totDelta]; done))⟩, trivial⟩, trivial, trivial, rfl⟩⟩

set_option maxHeartbeats 4000000 in
theorem eqDelta_c (x : Deltat) : AC Tryz.prog 14 [.agg (deltaC x), .agg (deltaC x)] [] (.one (.c (.bool true))) [] := by
  refine AC_body1 Tryz.func14 rfl rfl Tryz.ntmps14 rfl Tryz.results14 ?_
  refine AW_seq ?_
  refine AW_region ?_
  refine AL_p (x_box 100 rfl rfl rfl rfl rfl rfl rfl) ?_
  refine AL_p (x_box 101 rfl rfl rfl rfl rfl rfl rfl) ?_
  refine AL_p (x_assign rfl rfl) ?_
  refine AL_nil ?_
  refine AW_seq ?_
  refine AW_seq ?_
  refine AW_region ?_
  refine AL_p (x_field (off := 0) (o' := 0) rfl rfl rfl (by kernel_rfl) rfl) ?_
  refine AL_p (x_load1 rfl rfl rfl (by kernel_rfl) rfl) ?_
  refine AL_p (x_field (off := 0) (o' := 0) rfl rfl rfl (by kernel_rfl) rfl) ?_
  refine AL_p (x_load1 rfl rfl rfl (by kernel_rfl) rfl) ?_
  refine AL_p (x_call0 rfl rfl rfl (eqChangeS_c _) rfl rfl) ?_
  refine AL_p (x_not rfl rfl) ?_
  refine AL_nil ?_
  refine AW_condF rfl ?_
  refine AW_skip ?_
  refine AW_seq ?_
  refine AW_region ?_
  refine AL_p (x_assign rfl rfl) ?_
  refine AL_nil ?_
  refine AW_ret ?_
  exact ⟨rn [], ⟨⟨⟨_, rfl, vle_bool (rfl)⟩, trivial⟩, trivial, trivial, rfl⟩⟩

set_option maxHeartbeats 4000000 in
theorem toDelta_c0 (x : Deltat) (hs : smallDelta x) : AC Tryz.prog 11 [.agg (deltaC x)] [] (.agg [.own 0]) [(0, some (.arr 65 changeE x.changes true))] := by
  refine AC_bodyC (n := 1) (k := 9) (T := [(2, .one (.ptr 9 0))]) (Lf := ((9, some (.box [.own 0])) :: [(0, some (.arr 65 changeE x.changes true))])) Tryz.func11 rfl rfl Tryz.ntmps11 rfl Tryz.results11 rfl rfl (by kernel_rfl) rfl rfl ⟨trivial, (by repeat (first | exact trivial | refine ⟨⟨_, rfl, BLe.rf⟩, ?_⟩)), (by repeat (first | exact trivial | refine ⟨⟨rfl, by first | (left; intro h; cases h) | (right; rfl), by first | exact (fun _ h => ⟨_, h⟩) | exact (fun _ _ => ⟨_, rfl⟩) | (intro _ h; cases h)⟩, ?_⟩)), rfl⟩ ?_
  refine AW_seq ?_
  refine AW_region ?_
  refine AL_p (x_box 100 rfl rfl rfl rfl rfl rfl rfl) ?_
  refine AL_p (x_alloc (z := .agg #[.slice none 0 0]) 101 rfl (by kernel_rfl) rfl rfl rfl rfl) ?_
  refine AL_nil ?_
  refine AW_seq ?_
  refine AW_region ?_
  refine AL_p (x_alloc (z := .agg #[.slice none 0 0]) 102 rfl (by kernel_rfl) rfl rfl rfl rfl) ?_
  refine AL_nil ?_
  refine AW_seq ?_
  refine AW_region ?_
  refine AL_p (x_field (off := 0) (o' := 0) rfl rfl rfl (by kernel_rfl) rfl) ?_
  refine AL_p (x_load1 rfl rfl rfl (by kernel_rfl) rfl) ?_
  refine AL_p (x_call1 rfl rfl rfl (toChangeS_c x.changes (hs) 103) rfl rfl rfl rfl) ?_
  refine AL_p (x_field (off := 0) (o' := 0) rfl rfl rfl (by kernel_rfl) rfl) ?_
  refine AL_p (x_store (n := 1) rfl rfl rfl rfl (by kernel_rfl) rfl rfl rfl) ?_
  refine AL_nil ?_
  refine AW_seq ?_
  refine AW_region ?_
  refine AL_p (x_loadN (n := 1) rfl rfl rfl (by kernel_rfl) rfl rfl) ?_
  refine AL_p (x_store (n := 1) rfl rfl rfl rfl (by kernel_rfl) rfl rfl rfl) ?_
  refine AL_nil ?_
  refine AW_ret ?_
  exact ⟨rn [(9, 101), (0, 103)], ⟨⟨⟨_, rfl, VLe.rf⟩, trivial⟩, ⟨⟨_, rfl, by first | exact BLe.rf | (subst_vars; exact BLe.rf)⟩, ⟨_, rfl, BLe.rf⟩, trivial⟩, trivial, rfl⟩⟩
theorem toDelta_c (x : Deltat) (hs : smallDelta x) (k : Nat) : AC Tryz.prog 11 [.agg (deltaC x)] [] (.agg [.own k]) [(k, some (.arr 65 changeE x.changes true))] := AC.at (toDelta_c0 x hs) k

end Go.Proofs.YtibhoanjglfaoaaGreat

/- The laws' markText: a text for a number. -/
namespace Go.Proofs.YtibhoanjglfaoaaGreat
open Go.RowKit
set_option linter.unusedVariables false

/-- The digits of m ahead of out. -/
def digs (m : Nat) (out : ByteArray) : ByteArray := if h : m = 0 then out else digs (m / 10) (Utf8.encode (48 + ((m % 10 : Nat) : Int)) ++ out)
termination_by m
decreasing_by omega
theorem digs_zero (out : ByteArray) : digs 0 out = out := by rw [digs]; rfl
theorem digs_step {m : Nat} (h : 0 < m) (out : ByteArray) : digs (m / 10) (Utf8.encode (48 + ((m % 10 : Nat) : Int)) ++ out) = digs m out := by
  conv => rhs; rw [digs]
  rw [dif_neg (by omega)]
def markText (k : Int) : ByteArray := if k ≤ 0 then ⟨#[109, 48]⟩ else ⟨#[109]⟩ ++ digs k.toNat ⟨#[]⟩
theorem markText_neg {k : Int} (h : k ≤ 0) : markText k = ⟨#[109, 48]⟩ := if_pos h
theorem markText_pos {k : Int} (h : ¬ k ≤ 0) : markText k = ⟨#[109]⟩ ++ digs k.toNat ⟨#[]⟩ := if_neg h
theorem enc_dig_size {d : Int} (h0 : 0 ≤ d) (h1 : d < 10) : (Utf8.encode (48 + d)).size = 1 := by rw [utf8_dig h0 h1]; rfl
theorem digs_size : ∀ (m : Nat) (out : ByteArray), m < 10 ^ (20 - out.size) → out.size ≤ 20 → (digs m out).size ≤ 20 := by
  intro m
  induction m using Nat.strongRecOn with
  | _ m ih =>
    intro out h hs
    by_cases h0 : m = 0
    · subst h0; rw [digs_zero]; exact hs
    · rw [← digs_step (by omega)]
      have hz : (Utf8.encode (48 + ((m % 10 : Nat) : Int)) ++ out).size = out.size + 1 := by rw [ByteArray.size_append, enc_dig_size (by omega) (by omega)]; omega
      have h20 : out.size < 20 := by
        rcases Nat.lt_or_ge out.size 20 with h2 | h2
        · exact h2
        · rw [show 20 - out.size = 0 by omega] at h; simp at h; omega
      refine ih (m / 10) (by omega) _ ?_ (by omega)
      rw [hz, Nat.div_lt_iff_lt_mul (by omega), ← Nat.pow_succ, show (20 - (out.size + 1)).succ = 20 - out.size by omega]
      exact h
theorem markText_size {k : Int} (h : k ≤ 9223372036854775807) : (markText k).size ≤ 21 := by
  unfold markText
  split
  · decide
  · rw [ByteArray.size_append]
    have h1 : k.toNat < 10 ^ (20 - (⟨#[]⟩ : ByteArray).size) := by
      have : (⟨#[]⟩ : ByteArray).size = 0 := rfl
      rw [this]
      have : (10 : Nat) ^ (20 - 0) = 100000000000000000000 := by decide
      omega
    have := digs_size k.toNat ⟨#[]⟩ h1 (by decide)
    have h2 : (⟨#[109]⟩ : ByteArray).size = 1 := rfl
    omega

theorem wfText {k : Int} (h : k ≤ 9223372036854775807) : wfV (.string (markText k)) := by
  have := markText_size h
  show (markText k).size ≤ maxLen
  unfold maxLen; omega
set_option maxRecDepth 100000 in
set_option maxHeartbeats 4000000 in
theorem markText_any (k : Int) (w : World) (h1 : k ≤ 9223372036854775807) :
    Calls Tryz.prog 95 #[.int .i64 k] w fun e w' => e = .returned (.string (markText k)) ∧ Below w.heap.size w w' := by
  by_cases hk : k ≤ 0
  · have HR := Lib.hid (markText_neg hk)
    go_enter Tryz.func95, Tryz.ntmps95
    go_wp2_with fail
    go_ret
    exact ⟨ret_str HR.out.symm, Below.refl _ _⟩
  · have HR := Lib.hid (markText_pos hk)
    go_enter Tryz.func95, Tryz.ntmps95
    go_wp2_with fail
    go_loopw [0, 3] (fun kk oo W => ∃ (m : Nat) (out : ByteArray), kk = .int .i64 m ∧ oo = .string out ∧ digs m out = digs k.toNat ⟨#[]⟩ ∧ m ≤ 9223372036854775807 ∧ m < 10 ^ (20 - out.size) ∧ out.size ≤ 20 ∧ Below w.heap.size w W) (fun kk _ _ => (intOf kk).toNat)
    case atStart => exact ⟨k.toNat, ⟨#[]⟩, by rw [Int.toNat_of_nonneg (by omega)], rfl, rfl, by omega, by
      have : (10 : Nat) ^ (20 - (⟨#[]⟩ : ByteArray).size) = 100000000000000000000 := by decide
      omega, by decide, Below.refl _ _⟩
    case round =>
      obtain ⟨m, out, rfl, rfl, hd, hm, hp, hs, hB⟩ := hrel
      by_cases h0 : 0 < m
      · have hcv := conv_one (d := ((m % 10 : Nat) : Int)) (by omega) (by omega) _ rfl
        have hdig := enc_dig_size (d := ((m % 10 : Nat) : Int)) (by omega) (by omega)
        have hstep := digs_step h0 out
        have h20 : out.size < 20 := by
          rcases Nat.lt_or_ge out.size 20 with h2 | h2
          · exact h2
          · rw [show 20 - out.size = 0 by omega] at hp; simp at hp; omega
        have hp2 : m / 10 < 10 ^ (20 - (out.size + 1)) := by
          rw [Nat.div_lt_iff_lt_mul (by omega), ← Nat.pow_succ, show (20 - (out.size + 1)).succ = 20 - out.size by omega]; exact hp
        clear hp
        generalize Utf8.encode (48 + ((m % 10 : Nat) : Int)) = D at hcv hdig hstep
        have hroom : ¬ 9223372036854775807 < D.size + out.size := by omega
        have hz : (D ++ out).size = out.size + 1 := by rw [ByteArray.size_append, hdig]; omega
        have e1 : IntKind.i64.wrap ((m : Int).tdiv 10) = ((m / 10 : Nat) : Int) := by rw [Int.tdiv_eq_ediv_of_nonneg (by omega)]; rw [IntWalk.i64_in _ (by omega)]; omega
        have e2 : (m : Int).tmod 10 = ((m % 10 : Nat) : Int) := by rw [Int.tmod_eq_emod_of_nonneg (by omega)]; omega
        have e3 : IntKind.i64.wrap (48 + ((m % 10 : Nat) : Int)) = 48 + ((m % 10 : Nat) : Int) := IntWalk.i64_in _ (by omega)
        have e4 : IntKind.u8.wrap (48 + ((m % 10 : Nat) : Int)) = 48 + ((m % 10 : Nat) : Int) := IntWalk.u8_in _ (by omega)
        go_wp2_with fail
        go_roundw
        case rel => exact ⟨m / 10, D ++ out, by simp, rfl, by rw [hstep, hd], by omega, by rw [hz]; exact hp2, by omega, by first | exact hB.alloc (by have := hB.size; omega) _ | exact hB⟩
        case measure => simp [intOf]; omega
      · obtain rfl : m = 0 := by omega
        rw [digs_zero] at hd
        have HD := Lib.hid hd
        clear hd
        have hroom : ¬ 9223372036854775807 < 1 + out.size := by omega
        go_wp2_with fail
        go_ret
        exact ⟨ret_str (by rw [HR.out, HD.out]), hB⟩
end Go.Proofs.YtibhoanjglfaoaaGreat

/- The laws' marks: MarkA (printed by genmark.py) -/
namespace Go.Proofs.YtibhoanjglfaoaaGreat
open Go.RowKit
set_option linter.unusedVariables false
set_option linter.unusedSimpArgs false
set_option maxRecDepth 100000

def markValue (x : Val) (k : Int) : Val × Int := (⟨k, markText (k + 1)⟩, k + 1 + 1)
def cntValue (x : Val) : Nat := 1 + 1
theorem markValue_cnt (x : Val) (k : Int) : (markValue x k).2 = k + cntValue x := by
  simp only [markValue, cntValue]
  try omega
set_option maxHeartbeats 4000000 in
theorem markValueS_any (a : Option Addr) (n cap : Nat) (xs : List (Val)) (bs : List Nat) (k : Int) (lo : Nat) (w : World) (h : SliceRep valE w a n cap xs bs) (hF : Fresh lo w bs) (k0 : 0 ≤ k) (k1 : k + cntL cntValue xs ≤ 4611686018427387904) :
    Calls Tryz.prog 131 #[.slice a n cap, .int .i64 k] w fun e w' => e = .returned (.int .i64 (markL markValue xs k).2) ∧ SliceRep valE w' a n cap (markL markValue xs k).1 bs ∧ Only bs w w' := by
  have hmax := h.max
  obtain rfl := h.1
  go_enter Tryz.func131, Tryz.ntmps131
  go_wp2_with fail
  go_loopw [1, 5] (fun l i W => ∃ (j : Nat), j ≤ xs.length ∧ i = .int .i64 j ∧ l = .int .i64 (markK markValue xs k j) ∧ SliceRep valE W a xs.length cap (markTo markValue xs k j) bs ∧ Only bs w W) (fun _ i _ => xs.length - (intOf i).toNat)
  case atStart => exact ⟨0, Nat.zero_le _, rfl, by rw [markK_zero], by rw [markTo_zero]; exact h, Only.refl _ _⟩
  case round =>
    obtain ⟨j, hj, rfl, rfl, hS, hO⟩ := hrel
    by_cases hlt : j < xs.length
    · obtain ⟨g, off, _, _, rfl, _⟩ := h.get hlt
      have HF := hF.only hO
      obtain ⟨q0, q1⟩ := markK_bound markValue markValue_cnt k0 k1 hlt
      have hat := markTo_at markValue (k := k) hlt
      have HS := Lib.hid (markTo_succ markValue (k := k) hlt)
      have HK := Lib.hid (markK_succ markValue (k := k) hlt)
      have hl := markTo_len markValue xs k j
      have NJ := Lib.hid (show j + 1 ≤ xs.length by omega)
      have i0 : (0 : Int) ≤ (j : Int) := by omega
      have i1 : (j : Int) < (xs.length : Int) := by omega
      generalize markTo markValue xs k j = ys at hS hat HS hl
      generalize markK markValue xs k j = q at q0 q1 HS HK
      generalize xs[j] = x at hat HS HK q1
      rw [← set_same hat] at hS
      have hjy : j < ys.length := by omega
      clear hat
      have Q1 := Lib.hid q1
      simp only [cntValue] at q1
      obtain ⟨c0, d0⟩ := hS.cellAt2 HF hjy (c := 0) rfl
      obtain ⟨hS0, o0⟩ := hS.put2 HF hjy 0 (.int .i64 (q)) (⟨q, x.s⟩ : Val) rfl (wf64 (by omega) (by omega)) rfl
      simp only [show Enc.size valE = 2 from rfl, Nat.add_zero] at c0 d0 hS0 o0
      clear hS
      have hS := hS0
      clear hS0
      replace hO := hO.trans o0
      replace HF := HF.only o0
      clear o0
      go_wp2_with fail
      refine (markText_any _ _ (by omega)).mono ?_
      rintro e w1 ⟨rfl, hb⟩
      replace hS := hS.up hb
      replace hO := hO.trans (Only.below hb)
      replace HF := HF.up hb
      clear hb c0 d0
      obtain ⟨c1, d1⟩ := hS.cellAt2 HF hjy (c := 1) rfl
      obtain ⟨hS1, o1⟩ := hS.put2 HF hjy 1 (.string (markText (q + 1))) (⟨q, markText (q + 1)⟩ : Val) rfl (wfText (by omega)) rfl
      simp only [show Enc.size valE = 2 from rfl, Nat.add_zero] at c1 d1 hS1 o1
      clear hS
      have hS := hS1
      clear hS1
      replace hO := hO.trans o1
      replace HF := HF.only o1
      clear o1
      go_wp2_with fail
      go_roundw
      case rel => exact ⟨j + 1, NJ.out, by go_num, by rw [HK.out]; rfl, by rw [← HS.out]; exact hS, hO⟩
      case measure => simp [intOf]; omega
    · obtain rfl : j = xs.length := by omega
      rw [markTo_done] at hS
      go_wp2_with fail
      go_ret
      exact ⟨ret_int (markK_done _ _ _), hS, hO⟩

def markRow (x : List Val) (k : Int) : List Val × Int := ((markL markValue x (k)).1, (markL markValue x (k)).2)
def cntRow (x : List Val) : Nat := cntL cntValue x
theorem markRow_cnt (x : List Val) (k : Int) : (markRow x k).2 = k + cntRow x := by
  simp only [markRow, cntRow, markL_cnt markValue markValue_cnt]
  try omega
set_option maxHeartbeats 4000000 in
theorem markRowS_any (a : Option Addr) (n cap : Nat) (xs : List (List Val)) (bs : List Nat) (k : Int) (lo : Nat) (w : World) (h : SliceRep rowE w a n cap xs bs) (hF : Fresh lo w bs) (k0 : 0 ≤ k) (k1 : k + cntL cntRow xs ≤ 4611686018427387904) :
    Calls Tryz.prog 96 #[.slice a n cap, .int .i64 k] w fun e w' => e = .returned (.int .i64 (markL markRow xs k).2) ∧ SliceRep rowE w' a n cap (markL markRow xs k).1 bs ∧ Only bs w w' := by
  have hmax := h.max
  obtain rfl := h.1
  go_enter Tryz.func96, Tryz.ntmps96
  go_wp2_with fail
  go_loopw [1, 5] (fun l i W => ∃ (j : Nat), j ≤ xs.length ∧ i = .int .i64 j ∧ l = .int .i64 (markK markRow xs k j) ∧ SliceRep rowE W a xs.length cap (markTo markRow xs k j) bs ∧ Only bs w W) (fun _ i _ => xs.length - (intOf i).toNat)
  case atStart => exact ⟨0, Nat.zero_le _, rfl, by rw [markK_zero], by rw [markTo_zero]; exact h, Only.refl _ _⟩
  case round =>
    obtain ⟨j, hj, rfl, rfl, hS, hO⟩ := hrel
    by_cases hlt : j < xs.length
    · obtain ⟨g, off, _, _, rfl, _⟩ := h.get hlt
      have HF := hF.only hO
      obtain ⟨q0, q1⟩ := markK_bound markRow markRow_cnt k0 k1 hlt
      have hat := markTo_at markRow (k := k) hlt
      have HS := Lib.hid (markTo_succ markRow (k := k) hlt)
      have HK := Lib.hid (markK_succ markRow (k := k) hlt)
      have hl := markTo_len markRow xs k j
      have NJ := Lib.hid (show j + 1 ≤ xs.length by omega)
      have i0 : (0 : Int) ≤ (j : Int) := by omega
      have i1 : (j : Int) < (xs.length : Int) := by omega
      generalize markTo markRow xs k j = ys at hS hat HS hl
      generalize markK markRow xs k j = q at q0 q1 HS HK
      generalize xs[j] = x at hat HS HK q1
      rw [← set_same hat] at hS
      have hjy : j < ys.length := by omega
      clear hat
      have Q1 := Lib.hid q1
      simp only [cntRow] at q1
      obtain ⟨a0, n0, p0, b0, c0, r0, F0, next0⟩ := hS.nest2 HF hjy (c := 0) rfl
      simp only [show Enc.size rowE = 1 from rfl, Nat.mul_one, Nat.add_zero] at c0
      go_wp2_with fail
      refine (markValueS_any _ _ _ _ _ _ lo _ r0 F0 (by omega) (by omega)).mono ?_
      rintro e w0 ⟨rfl, rr, oo⟩
      obtain ⟨hS0, o0⟩ := next0 w0 _ ((markL markValue x (q)).1 : List Val) rr oo rfl
      have v0 := markL_cnt markValue markValue_cnt x (q)
      have y0 : 0 ≤ (markL markValue x (q)).2 := by omega
      have z0 : (markL markValue x (q)).2 + ((0 : Nat) : Int) ≤ 4611686018427387904 := by omega
      clear hS
      have hS := hS0
      replace hO := hO.trans o0
      replace HF := HF.only o0
      clear hS0 o0 rr oo r0 F0 next0 v0 c0
      go_wp2_with fail
      go_roundw
      case rel => exact ⟨j + 1, NJ.out, by go_num, by rw [HK.out]; rfl, by rw [← HS.out]; exact hS, hO⟩
      case measure => simp [intOf]; omega
    · obtain rfl : j = xs.length := by omega
      rw [markTo_done] at hS
      go_wp2_with fail
      go_ret
      exact ⟨ret_int (markK_done _ _ _), hS, hO⟩

end Go.Proofs.YtibhoanjglfaoaaGreat

/- The laws' marks: MarkB (printed by genmark.py) -/
namespace Go.Proofs.YtibhoanjglfaoaaGreat
open Go.RowKit
set_option linter.unusedVariables false
set_option linter.unusedSimpArgs false
set_option maxRecDepth 100000

end Go.Proofs.YtibhoanjglfaoaaGreat

/- The laws' marks: MarkC (printed by genmark.py) -/
namespace Go.Proofs.YtibhoanjglfaoaaGreat
open Go.RowKit
set_option linter.unusedVariables false
set_option linter.unusedSimpArgs false
set_option maxRecDepth 100000

def markChange (x : Changet) (k : Int) : Changet × Int := (⟨markText (k), ⟨k + 1, (markL markRow x.plus.rows (k + 1 + 1)).1⟩, ⟨(markL markRow x.plus.rows (k + 1 + 1)).2, (markL markRow x.minus.rows ((markL markRow x.plus.rows (k + 1 + 1)).2 + 1)).1⟩⟩, (markL markRow x.minus.rows ((markL markRow x.plus.rows (k + 1 + 1)).2 + 1)).2)
def cntChange (x : Changet) : Nat := 1 + 1 + cntL cntRow x.plus.rows + 1 + cntL cntRow x.minus.rows
theorem markChange_cnt (x : Changet) (k : Int) : (markChange x k).2 = k + cntChange x := by
  simp only [markChange, cntChange, markL_cnt markRow markRow_cnt, markL_cnt markRow markRow_cnt]
  try omega
set_option maxHeartbeats 4000000 in
theorem markChangeS_any (a : Option Addr) (n cap : Nat) (xs : List (Changet)) (bs : List Nat) (k : Int) (lo : Nat) (w : World) (h : SliceRep changeE w a n cap xs bs) (hF : Fresh lo w bs) (k0 : 0 ≤ k) (k1 : k + cntL cntChange xs ≤ 4611686018427387904) :
    Calls Tryz.prog 48 #[.slice a n cap, .int .i64 k] w fun e w' => e = .returned (.int .i64 (markL markChange xs k).2) ∧ SliceRep changeE w' a n cap (markL markChange xs k).1 bs ∧ Only bs w w' := by
  have hmax := h.max
  obtain rfl := h.1
  go_enter Tryz.func48, Tryz.ntmps48
  go_wp2_with fail
  go_loopw [1, 5] (fun l i W => ∃ (j : Nat), j ≤ xs.length ∧ i = .int .i64 j ∧ l = .int .i64 (markK markChange xs k j) ∧ SliceRep changeE W a xs.length cap (markTo markChange xs k j) bs ∧ Only bs w W) (fun _ i _ => xs.length - (intOf i).toNat)
  case atStart => exact ⟨0, Nat.zero_le _, rfl, by rw [markK_zero], by rw [markTo_zero]; exact h, Only.refl _ _⟩
  case round =>
    obtain ⟨j, hj, rfl, rfl, hS, hO⟩ := hrel
    by_cases hlt : j < xs.length
    · obtain ⟨g, off, _, _, rfl, _⟩ := h.get hlt
      have HF := hF.only hO
      obtain ⟨q0, q1⟩ := markK_bound markChange markChange_cnt k0 k1 hlt
      have hat := markTo_at markChange (k := k) hlt
      have HS := Lib.hid (markTo_succ markChange (k := k) hlt)
      have HK := Lib.hid (markK_succ markChange (k := k) hlt)
      have hl := markTo_len markChange xs k j
      have NJ := Lib.hid (show j + 1 ≤ xs.length by omega)
      have i0 : (0 : Int) ≤ (j : Int) := by omega
      have i1 : (j : Int) < (xs.length : Int) := by omega
      generalize markTo markChange xs k j = ys at hS hat HS hl
      generalize markK markChange xs k j = q at q0 q1 HS HK
      generalize xs[j] = x at hat HS HK q1
      rw [← set_same hat] at hS
      have hjy : j < ys.length := by omega
      clear hat
      have Q1 := Lib.hid q1
      simp only [cntChange] at q1
      go_wp2_with fail
      refine (markText_any _ _ (by omega)).mono ?_
      rintro e w0 ⟨rfl, hb⟩
      replace hS := hS.up hb
      replace hO := hO.trans (Only.below hb)
      replace HF := HF.up hb
      clear hb 
      obtain ⟨c0, d0⟩ := hS.cellAt2 HF hjy (c := 0) rfl
      obtain ⟨hS0, o0⟩ := hS.put2 HF hjy 0 (.string (markText (q))) (⟨markText (q), ⟨x.plus.arity, x.plus.rows⟩, ⟨x.minus.arity, x.minus.rows⟩⟩ : Changet) rfl (wfText (by omega)) rfl
      simp only [show Enc.size changeE = 5 from rfl, Nat.add_zero] at c0 d0 hS0 o0
      clear hS
      have hS := hS0
      clear hS0
      replace hO := hO.trans o0
      replace HF := HF.only o0
      clear o0
      obtain ⟨c1, d1⟩ := hS.cellAt2 HF hjy (c := 1) rfl
      obtain ⟨hS1, o1⟩ := hS.put2 HF hjy 1 (.int .i64 (q + 1)) (⟨markText (q), ⟨q + 1, x.plus.rows⟩, ⟨x.minus.arity, x.minus.rows⟩⟩ : Changet) rfl (wf64 (by omega) (by omega)) rfl
      simp only [show Enc.size changeE = 5 from rfl, Nat.add_zero] at c1 d1 hS1 o1
      clear hS
      have hS := hS1
      clear hS1
      replace hO := hO.trans o1
      replace HF := HF.only o1
      clear o1
      obtain ⟨a2, n2, p2, b2, c2, r2, F2, next2⟩ := hS.nest2 HF hjy (c := 2) rfl
      simp only [show Enc.size changeE = 5 from rfl, Nat.add_zero] at c2
      go_wp2_with fail
      refine (markRowS_any _ _ _ _ _ _ lo _ r2 F2 (by omega) (by omega)).mono ?_
      rintro e w2 ⟨rfl, rr, oo⟩
      obtain ⟨hS2, o2⟩ := next2 w2 _ (⟨markText (q), ⟨q + 1, (markL markRow x.plus.rows (q + 1 + 1)).1⟩, ⟨x.minus.arity, x.minus.rows⟩⟩ : Changet) rr oo rfl
      have v2 := markL_cnt markRow markRow_cnt x.plus.rows (q + 1 + 1)
      have y2 : 0 ≤ (markL markRow x.plus.rows (q + 1 + 1)).2 := by omega
      have z2 : (markL markRow x.plus.rows (q + 1 + 1)).2 + ((1 + cntL cntRow x.minus.rows : Nat) : Int) ≤ 4611686018427387904 := by omega
      clear hS
      have hS := hS2
      replace hO := hO.trans o2
      replace HF := HF.only o2
      clear hS2 o2 rr oo r2 F2 next2 v2 c0 d0 c1 d1 c2
      obtain ⟨c3, d3⟩ := hS.cellAt2 HF hjy (c := 3) rfl
      obtain ⟨hS3, o3⟩ := hS.put2 HF hjy 3 (.int .i64 ((markL markRow x.plus.rows (q + 1 + 1)).2)) (⟨markText (q), ⟨q + 1, (markL markRow x.plus.rows (q + 1 + 1)).1⟩, ⟨(markL markRow x.plus.rows (q + 1 + 1)).2, x.minus.rows⟩⟩ : Changet) rfl (wf64 (by omega) (by omega)) rfl
      simp only [show Enc.size changeE = 5 from rfl, Nat.add_zero] at c3 d3 hS3 o3
      clear hS
      have hS := hS3
      clear hS3
      replace hO := hO.trans o3
      replace HF := HF.only o3
      clear o3
      obtain ⟨a4, n4, p4, b4, c4, r4, F4, next4⟩ := hS.nest2 HF hjy (c := 4) rfl
      simp only [show Enc.size changeE = 5 from rfl, Nat.add_zero] at c4
      go_wp2_with fail
      refine (markRowS_any _ _ _ _ _ _ lo _ r4 F4 (by omega) (by omega)).mono ?_
      rintro e w4 ⟨rfl, rr, oo⟩
      obtain ⟨hS4, o4⟩ := next4 w4 _ (⟨markText (q), ⟨q + 1, (markL markRow x.plus.rows (q + 1 + 1)).1⟩, ⟨(markL markRow x.plus.rows (q + 1 + 1)).2, (markL markRow x.minus.rows ((markL markRow x.plus.rows (q + 1 + 1)).2 + 1)).1⟩⟩ : Changet) rr oo rfl
      have v4 := markL_cnt markRow markRow_cnt x.minus.rows ((markL markRow x.plus.rows (q + 1 + 1)).2 + 1)
      have y4 : 0 ≤ (markL markRow x.minus.rows ((markL markRow x.plus.rows (q + 1 + 1)).2 + 1)).2 := by omega
      have z4 : (markL markRow x.minus.rows ((markL markRow x.plus.rows (q + 1 + 1)).2 + 1)).2 + ((0 : Nat) : Int) ≤ 4611686018427387904 := by omega
      clear hS
      have hS := hS4
      replace hO := hO.trans o4
      replace HF := HF.only o4
      clear hS4 o4 rr oo r4 F4 next4 v4 c3 d3 c4
      go_wp2_with fail
      go_roundw
      case rel => exact ⟨j + 1, NJ.out, by go_num, by rw [HK.out]; rfl, by rw [← HS.out]; exact hS, hO⟩
      case measure => simp [intOf]; omega
    · obtain rfl : j = xs.length := by omega
      rw [markTo_done] at hS
      go_wp2_with fail
      go_ret
      exact ⟨ret_int (markK_done _ _ _), hS, hO⟩

def markDDelta (x : Deltat) (k : Int) : Deltat × Int := (⟨(markL markChange x.changes (k)).1⟩, (markL markChange x.changes (k)).2)
def cntDDelta (x : Deltat) : Nat := cntL cntChange x.changes
theorem markDDelta_cnt (x : Deltat) (k : Int) : (markDDelta x k).2 = k + cntDDelta x := by
  simp only [markDDelta, cntDDelta, markL_cnt markChange markChange_cnt]
  try omega
set_option maxHeartbeats 4000000 in
theorem markDDelta_any (cs : List Value) (x : Deltat) (bs : List Nat) (k : Int) (lo : Nat) (w : World) (h : deltaE.rep w cs x bs) (hF : Fresh lo w bs) (k0 : 0 ≤ k) (k1 : k + cntDDelta x ≤ 4611686018427387904) :
    Calls Tryz.prog 16 #[.agg cs.toArray, .int .i64 k] w fun e w' => e = .returned (.int .i64 (markDDelta x k).2) ∧ deltaE.rep w' cs (markDDelta x k).1 bs ∧ Only bs w w' := by
  have hr := h
  have hlt := deltaE.lt h
  obtain ⟨sa0, sn0, sc0, sb0, hcs, _, _⟩ := Delta_rep.1 h
  subst hcs
  clear h
  simp only [cntDDelta] at k1
  have H := ((Held.start w).box_ #[.slice sa0 sn0 sc0] 38)
  have hal := (Below.refl w.heap.size w).alloc (Nat.le_refl _) (.cells #[.slice sa0 sn0 sc0] 38)
  have H2 := H.s1
  have bx0 := H2.2 0
  replace hr := deltaE.up hr hal
  replace hF := hF.up hal
  have hO : Only bs w _ := Only.below hal
  clear hal H H2
  go_enter Tryz.func16, Tryz.ntmps16
  obtain ⟨a0, n0, p0, b0, e0, r0, F0, next0⟩ := Enc.nest hr hF (c := 0) rfl
  simp only [List.getElem?_cons_zero, List.getElem?_cons_succ, Option.some.injEq, Value.slice.injEq] at e0
  obtain ⟨rfl, rfl, rfl⟩ := e0
  go_wp2_with fail
  refine (markChangeS_any _ _ _ _ _ _ lo _ r0 F0 (by omega) (by omega)).mono ?_
  rintro e w1 ⟨rfl, rr, oo⟩
  obtain ⟨hr0, o0⟩ := next0 w1 _ (⟨(markL markChange x.changes (k)).1⟩ : Deltat) rr oo rfl
  clear hr
  have hr := hr0
  replace hO := hO.trans o0
  replace hF := hF.only o0
  clear hr0 o0 rr oo r0 F0 next0
  go_wp2_with fail
  go_ret
  exact ⟨rfl, hr, hO⟩

end Go.Proofs.YtibhoanjglfaoaaGreat

/- The laws' held functions (printed by walk.py) -/
namespace Go.Proofs.YtibhoanjglfaoaaGreat
open Go.RowKit
set_option linter.unusedVariables false
set_option linter.unusedSimpArgs false
set_option maxRecDepth 100000

theorem mtext_c (q : Int) (h1 : q ≤ 9223372036854775807) : AC Tryz.prog 95 [.one (.c (.int .i64 q))] [] (.one (.c (.string (markText q)))) [] :=
  AC.pure ⟨_, _, Tryz.func95, rfl, rfl⟩ (wfText h1) fun w g cargs h => by
    obtain ⟨v, rfl, h0⟩ := inv1 h
    rw [(inv_c h0).1]
    exact markText_any q w h1

set_option maxHeartbeats 4000000 in
theorem heldValueS_c (xs ys : List (Val)) (q : Int) (hy : (markL markValue xs q).1 = ys) (k0 : 0 ≤ q) (k1 : q + cntL cntValue xs ≤ 4611686018427387904) : AC Tryz.prog 132 [.one (.sl valE ys), .one (.c (.int .i64 q))] [] (.one (.c (.int .i64 (markL markValue xs q).2))) [] := by
  refine AC_body1 Tryz.func132 rfl rfl Tryz.ntmps132 rfl Tryz.results132 ?_
  refine AW_slmax 0 rfl (fun hm0 => ?_)
  refine AW_seq ?_
  refine AW_region ?_
  refine AL_p (x_assign rfl rfl) ?_
  refine AL_nil ?_
  refine AW_seq ?_
  refine AW_seq ?_
  refine AW_region ?_
  refine AL_p (x_assign rfl rfl) ?_
  refine AL_nil ?_
  refine AW_block ?_
  refine AW_loop2 (ι := {q : Nat // q ≤ xs.length}) (fun p => [(1, .one (.c (.int .i64 (markK markValue xs q (p.1))))), (5, .one (.c (.int .i64 ((p.1) : Int))))]) (fun p => []) [0] [] (fun p => xs.length - (p.1)) ⟨0, by omega⟩ (rn []) ?_ ?_
  exact ⟨by (repeat refine ⟨⟨_, rfl, by first | exact VLe.rf | exact vle_int (by dsimp only; omega) | exact vle_int (markK_zero _ _ _).symm | exact vle_int (by rw [hks]; rfl)⟩, ?_⟩); exact trivial, by (repeat refine ⟨⟨_, rfl, by first | exact BLe.rf | exact BLe.box AllC.rf | exact BLe.arr (by exact rfl)⟩, ?_⟩); exact trivial, by repeat (first | exact trivial | refine ⟨⟨rfl, by first | (left; intro h; cases h) | (right; rfl), by first | exact (fun _ h => ⟨_, h⟩) | exact (fun _ _ => ⟨_, rfl⟩) | (intro _ h; cases h)⟩, ?_⟩), rfl⟩
  rintro ⟨k, hinv⟩
  dsimp only
  have hl : ys.length = xs.length := by rw [← hy, markL_len]
  refine AW_seq ?_
  refine AW_seq ?_
  refine AW_region ?_
  refine AL_p (x_move rfl rfl) ?_
  refine AL_p (x_move rfl rfl) ?_
  refine AL_p (x_len (E := 147) (n := 2) rfl rfl (by kernel_rfl)) ?_
  refine AL_b (x_lss rfl rfl rfl) (fun b9 h9 => ?_)
  refine AL_nil ?_
  cases b9
  · try simp only [tdy] at h9
    refine AW_condF rfl ?_
    refine AW_exit (BQ_hit ?_)
    refine AW_seq ?_
    refine AW_region ?_
    refine AL_p (x_move rfl rfl) ?_
    refine AL_p (x_assign rfl rfl) ?_
    refine AL_nil ?_
    refine AW_ret ?_
    obtain rfl : k = xs.length := by omega
    exact ⟨rn [], ⟨⟨⟨_, rfl, vle_int (markK_done _ _ _)⟩, trivial⟩, trivial, trivial, rfl⟩⟩
  try simp only [tdy] at h9
  have hlt : k < xs.length := by omega
  have hat := markL_at' markValue hy hlt
  obtain ⟨q0, q1⟩ := markK_bound markValue markValue_cnt k0 k1 hlt
  have hks := markK_succ markValue (k := q) hlt
  generalize markK markValue xs q k = r at *
  simp only [cntValue] at q1
  refine AW_condT rfl ?_
  refine AW_skip ?_
  refine AW_seq ?_
  refine AW_block ?_
  refine AW_seq ?_
  refine AW_seq ?_
  refine AW_region ?_
  refine AL_p (x_move rfl rfl) ?_
  refine AL_p (x_move rfl rfl) ?_
  refine AL_p (x_index (E := 147) (n := 2) rfl rfl rfl (by kernel_rfl) rfl (k := k) (by omega) (by omega)) ?_
  refine AL_p (x_efield (off := 0) (o' := 0) rfl rfl (by kernel_rfl) rfl) ?_
  refine AL_p (x_eload1 rfl rfl (by kernel_rfl) rfl) ?_
  refine AL_p (x_move rfl rfl) ?_
  refine AL_b (x_neq rfl rfl rfl) (fun b18 h18 => ?_)
  refine AL_nil ?_
  cases b18
  rotate_left
  · exfalso; rw [hat] at h18; simp [markValue, ba_beq_self] at h18
  try simp only [tdy] at h18
  refine AW_condF rfl ?_
  refine AW_skip ?_
  refine AW_seq ?_
  refine AW_region ?_
  refine AL_p (x_move rfl rfl) ?_
  refine AL_p (x_add rfl rfl rfl (IntWalk.i64_in _ (by omega))) ?_
  refine AL_p (x_assign rfl rfl) ?_
  refine AL_nil ?_
  refine AW_seq ?_
  refine AW_seq ?_
  refine AW_draw rfl ?_
  refine AL_p (x_move rfl rfl) ?_
  refine AL_p (x_move rfl rfl) ?_
  refine AL_p (x_index (E := 147) (n := 2) rfl rfl rfl (by kernel_rfl) rfl (k := k) (by omega) (by omega)) ?_
  refine AL_p (x_efield (off := 1) (o' := 1) rfl rfl (by kernel_rfl) rfl) ?_
  refine AL_p (x_eload1 rfl rfl (by kernel_rfl) rfl) ?_
  refine AL_p (x_move rfl rfl) ?_
  refine AL_p (x_call0 rfl rfl rfl (mtext_c _ (by omega)) rfl rfl) ?_
  refine AL_b (x_sneq rfl rfl rfl) (fun b28 h28 => ?_)
  refine AL_nild (by kernel_rfl) ?_
  cases b28
  rotate_left
  · exfalso; rw [hat] at h28; simp [markValue, ba_beq_self] at h28
  try simp only [tdy] at h28
  refine AW_condF rfl ?_
  refine AW_skip ?_
  refine AW_region ?_
  refine AL_p (x_move rfl rfl) ?_
  refine AL_p (x_add rfl rfl rfl (IntWalk.i64_in _ (by omega))) ?_
  refine AL_p (x_assign rfl rfl) ?_
  refine AL_nil ?_
  refine AW_region ?_
  refine AL_p (x_move rfl rfl) ?_
  refine AL_p (x_add rfl rfl rfl (IntWalk.i64_in _ (by omega))) ?_
  refine AL_p (x_assign rfl rfl) ?_
  refine AL_nil ?_
  refine ⟨⟨k + 1, by omega⟩, rn [], ?_, by dsimp only; omega⟩
  exact ⟨by (repeat refine ⟨⟨_, rfl, by first | exact VLe.rf | exact vle_int (by dsimp only; omega) | exact vle_int (markK_zero _ _ _).symm | exact vle_int (by rw [hks]; rfl)⟩, ?_⟩); exact trivial, by (repeat refine ⟨⟨_, rfl, by first | exact BLe.rf | exact BLe.box AllC.rf | exact BLe.arr (by exact rfl)⟩, ?_⟩); exact trivial, by repeat (first | exact trivial | refine ⟨⟨rfl, by first | (left; intro h; cases h) | (right; rfl), by first | exact (fun _ h => ⟨_, h⟩) | exact (fun _ _ => ⟨_, rfl⟩) | (intro _ h; cases h)⟩, ?_⟩), rfl⟩

set_option maxHeartbeats 4000000 in
theorem heldRowS_c (xs ys : List (List Val)) (q : Int) (hy : (markL markRow xs q).1 = ys) (k0 : 0 ≤ q) (k1 : q + cntL cntRow xs ≤ 4611686018427387904) : AC Tryz.prog 97 [.one (.sl rowE ys), .one (.c (.int .i64 q))] [] (.one (.c (.int .i64 (markL markRow xs q).2))) [] := by
  refine AC_body1 Tryz.func97 rfl rfl Tryz.ntmps97 rfl Tryz.results97 ?_
  refine AW_slmax 0 rfl (fun hm0 => ?_)
  refine AW_seq ?_
  refine AW_region ?_
  refine AL_p (x_assign rfl rfl) ?_
  refine AL_nil ?_
  refine AW_seq ?_
  refine AW_seq ?_
  refine AW_region ?_
  refine AL_p (x_assign rfl rfl) ?_
  refine AL_nil ?_
  refine AW_block ?_
  refine AW_loop2 (ι := {q : Nat // q ≤ xs.length}) (fun p => [(1, .one (.c (.int .i64 (markK markRow xs q (p.1))))), (5, .one (.c (.int .i64 ((p.1) : Int))))]) (fun p => []) [0] [] (fun p => xs.length - (p.1)) ⟨0, by omega⟩ (rn []) ?_ ?_
  exact ⟨by (repeat refine ⟨⟨_, rfl, by first | exact VLe.rf | exact vle_int (by dsimp only; omega) | exact vle_int (markK_zero _ _ _).symm | exact vle_int (by rw [hks]; rfl)⟩, ?_⟩); exact trivial, by (repeat refine ⟨⟨_, rfl, by first | exact BLe.rf | exact BLe.box AllC.rf | exact BLe.arr (by exact rfl)⟩, ?_⟩); exact trivial, by repeat (first | exact trivial | refine ⟨⟨rfl, by first | (left; intro h; cases h) | (right; rfl), by first | exact (fun _ h => ⟨_, h⟩) | exact (fun _ _ => ⟨_, rfl⟩) | (intro _ h; cases h)⟩, ?_⟩), rfl⟩
  rintro ⟨k, hinv⟩
  dsimp only
  have hl : ys.length = xs.length := by rw [← hy, markL_len]
  refine AW_seq ?_
  refine AW_seq ?_
  refine AW_region ?_
  refine AL_p (x_move rfl rfl) ?_
  refine AL_p (x_move rfl rfl) ?_
  refine AL_p (x_len (E := 72) (n := 1) rfl rfl (by kernel_rfl)) ?_
  refine AL_b (x_lss rfl rfl rfl) (fun b9 h9 => ?_)
  refine AL_nil ?_
  cases b9
  · try simp only [tdy] at h9
    refine AW_condF rfl ?_
    refine AW_exit (BQ_hit ?_)
    refine AW_seq ?_
    refine AW_region ?_
    refine AL_p (x_move rfl rfl) ?_
    refine AL_p (x_assign rfl rfl) ?_
    refine AL_nil ?_
    refine AW_ret ?_
    obtain rfl : k = xs.length := by omega
    exact ⟨rn [], ⟨⟨⟨_, rfl, vle_int (markK_done _ _ _)⟩, trivial⟩, trivial, trivial, rfl⟩⟩
  try simp only [tdy] at h9
  have hlt : k < xs.length := by omega
  have hat := markL_at' markRow hy hlt
  obtain ⟨q0, q1⟩ := markK_bound markRow markRow_cnt k0 k1 hlt
  have hks := markK_succ markRow (k := q) hlt
  generalize markK markRow xs q k = r at *
  simp only [cntRow] at q1
  refine AW_condT rfl ?_
  refine AW_skip ?_
  refine AW_seq ?_
  refine AW_block ?_
  refine AW_seq ?_
  refine AW_region ?_
  refine AL_p (x_move rfl rfl) ?_
  refine AL_p (x_move rfl rfl) ?_
  refine AL_p (x_index (E := 72) (n := 1) rfl rfl rfl (by kernel_rfl) rfl (k := k) (by omega) (by omega)) ?_
  refine AL_p (x_efield (off := 0) (o' := 0) rfl rfl (by kernel_rfl) rfl) ?_
  refine AL_p (x_eload1 rfl rfl (by kernel_rfl) rfl) ?_
  refine AL_p (x_move rfl rfl) ?_
  refine AL_p (x_call0 rfl rfl rfl (heldValueS_c (xs[k]'hlt) _ _ (by rw [hat]; rfl) (by omega) (by omega)) rfl rfl) ?_
  refine AL_p (x_assign rfl rfl) ?_
  refine AL_nil ?_
  refine AW_seq ?_
  refine AW_region ?_
  refine AL_p (x_move rfl rfl) ?_
  refine AL_b (x_lss rfl rfl rfl) (fun b20 h20 => ?_)
  refine AL_nil ?_
  cases b20
  rotate_left
  · exfalso; have v := markL_cnt markValue markValue_cnt (xs[k]'hlt) (r); simp at h20; omega
  try simp only [tdy] at h20
  have v0 := markL_cnt markValue markValue_cnt (xs[k]'hlt) (r)
  have y0 : 0 ≤ (markL markValue (xs[k]'hlt) (r)).2 := by omega
  have z0 : (markL markValue (xs[k]'hlt) (r)).2 + ((0 : Nat) : Int) ≤ 4611686018427387904 := by omega
  clear v0
  refine AW_condF rfl ?_
  refine AW_skip ?_
  refine AW_region ?_
  refine AL_p (x_move rfl rfl) ?_
  refine AL_p (x_add rfl rfl rfl (IntWalk.i64_in _ (by omega))) ?_
  refine AL_p (x_assign rfl rfl) ?_
  refine AL_nil ?_
  refine ⟨⟨k + 1, by omega⟩, rn [], ?_, by dsimp only; omega⟩
  exact ⟨by (repeat refine ⟨⟨_, rfl, by first | exact VLe.rf | exact vle_int (by dsimp only; omega) | exact vle_int (markK_zero _ _ _).symm | exact vle_int (by rw [hks]; rfl)⟩, ?_⟩); exact trivial, by (repeat refine ⟨⟨_, rfl, by first | exact BLe.rf | exact BLe.box AllC.rf | exact BLe.arr (by exact rfl)⟩, ?_⟩); exact trivial, by repeat (first | exact trivial | refine ⟨⟨rfl, by first | (left; intro h; cases h) | (right; rfl), by first | exact (fun _ h => ⟨_, h⟩) | exact (fun _ _ => ⟨_, rfl⟩) | (intro _ h; cases h)⟩, ?_⟩), rfl⟩


set_option maxHeartbeats 4000000 in
theorem heldChangeS_c (xs ys : List (Changet)) (q : Int) (hy : (markL markChange xs q).1 = ys) (k0 : 0 ≤ q) (k1 : q + cntL cntChange xs ≤ 4611686018427387904) : AC Tryz.prog 61 [.one (.sl changeE ys), .one (.c (.int .i64 q))] [] (.one (.c (.int .i64 (markL markChange xs q).2))) [] := by
  refine AC_body1 Tryz.func61 rfl rfl Tryz.ntmps61 rfl Tryz.results61 ?_
  refine AW_slmax 0 rfl (fun hm0 => ?_)
  refine AW_seq ?_
  refine AW_region ?_
  refine AL_p (x_assign rfl rfl) ?_
  refine AL_nil ?_
  refine AW_seq ?_
  refine AW_seq ?_
  refine AW_region ?_
  refine AL_p (x_assign rfl rfl) ?_
  refine AL_nil ?_
  refine AW_block ?_
  refine AW_loop2 (ι := {q : Nat // q ≤ xs.length}) (fun p => [(1, .one (.c (.int .i64 (markK markChange xs q (p.1))))), (5, .one (.c (.int .i64 ((p.1) : Int))))]) (fun p => []) [0] [] (fun p => xs.length - (p.1)) ⟨0, by omega⟩ (rn []) ?_ ?_
  exact ⟨by (repeat refine ⟨⟨_, rfl, by first | exact VLe.rf | exact vle_int (by dsimp only; omega) | exact vle_int (markK_zero _ _ _).symm | exact vle_int (by rw [hks]; rfl)⟩, ?_⟩); exact trivial, by (repeat refine ⟨⟨_, rfl, by first | exact BLe.rf | exact BLe.box AllC.rf | exact BLe.arr (by exact rfl)⟩, ?_⟩); exact trivial, by repeat (first | exact trivial | refine ⟨⟨rfl, by first | (left; intro h; cases h) | (right; rfl), by first | exact (fun _ h => ⟨_, h⟩) | exact (fun _ _ => ⟨_, rfl⟩) | (intro _ h; cases h)⟩, ?_⟩), rfl⟩
  rintro ⟨k, hinv⟩
  dsimp only
  have hl : ys.length = xs.length := by rw [← hy, markL_len]
  refine AW_seq ?_
  refine AW_seq ?_
  refine AW_region ?_
  refine AL_p (x_move rfl rfl) ?_
  refine AL_p (x_move rfl rfl) ?_
  refine AL_p (x_len (E := 65) (n := 5) rfl rfl (by kernel_rfl)) ?_
  refine AL_b (x_lss rfl rfl rfl) (fun b9 h9 => ?_)
  refine AL_nil ?_
  cases b9
  · try simp only [tdy] at h9
    refine AW_condF rfl ?_
    refine AW_exit (BQ_hit ?_)
    refine AW_seq ?_
    refine AW_region ?_
    refine AL_p (x_move rfl rfl) ?_
    refine AL_p (x_assign rfl rfl) ?_
    refine AL_nil ?_
    refine AW_ret ?_
    obtain rfl : k = xs.length := by omega
    exact ⟨rn [], ⟨⟨⟨_, rfl, vle_int (markK_done _ _ _)⟩, trivial⟩, trivial, trivial, rfl⟩⟩
  try simp only [tdy] at h9
  have hlt : k < xs.length := by omega
  have hat := markL_at' markChange hy hlt
  obtain ⟨q0, q1⟩ := markK_bound markChange markChange_cnt k0 k1 hlt
  have hks := markK_succ markChange (k := q) hlt
  generalize markK markChange xs q k = r at *
  simp only [cntChange] at q1
  refine AW_condT rfl ?_
  refine AW_skip ?_
  refine AW_seq ?_
  refine AW_block ?_
  refine AW_seq ?_
  refine AW_seq ?_
  refine AW_draw rfl ?_
  refine AL_p (x_move rfl rfl) ?_
  refine AL_p (x_move rfl rfl) ?_
  refine AL_p (x_index (E := 65) (n := 5) rfl rfl rfl (by kernel_rfl) rfl (k := k) (by omega) (by omega)) ?_
  refine AL_p (x_efield (off := 0) (o' := 0) rfl rfl (by kernel_rfl) rfl) ?_
  refine AL_p (x_eload1 rfl rfl (by kernel_rfl) rfl) ?_
  refine AL_p (x_move rfl rfl) ?_
  refine AL_p (x_call0 rfl rfl rfl (mtext_c _ (by omega)) rfl rfl) ?_
  refine AL_b (x_sneq rfl rfl rfl) (fun b19 h19 => ?_)
  refine AL_nild (by kernel_rfl) ?_
  cases b19
  rotate_left
  · exfalso; rw [hat] at h19; simp [markChange, ba_beq_self] at h19
  try simp only [tdy] at h19
  refine AW_condF rfl ?_
  refine AW_skip ?_
  refine AW_seq ?_
  refine AW_region ?_
  refine AL_p (x_move rfl rfl) ?_
  refine AL_p (x_add rfl rfl rfl (IntWalk.i64_in _ (by omega))) ?_
  refine AL_p (x_assign rfl rfl) ?_
  refine AL_nil ?_
  refine AW_seq ?_
  refine AW_seq ?_
  refine AW_region ?_
  refine AL_p (x_move rfl rfl) ?_
  refine AL_p (x_move rfl rfl) ?_
  refine AL_p (x_index (E := 65) (n := 5) rfl rfl rfl (by kernel_rfl) rfl (k := k) (by omega) (by omega)) ?_
  refine AL_p (x_efield (off := 1) (o' := 1) rfl rfl (by kernel_rfl) rfl) ?_
  refine AL_p (x_efield (off := 0) (o' := 1) rfl rfl (by kernel_rfl) rfl) ?_
  refine AL_p (x_eload1 rfl rfl (by kernel_rfl) rfl) ?_
  refine AL_p (x_move rfl rfl) ?_
  refine AL_b (x_neq rfl rfl rfl) (fun b29 h29 => ?_)
  refine AL_nil ?_
  cases b29
  rotate_left
  · exfalso; rw [hat] at h29; simp [markChange, ba_beq_self] at h29
  try simp only [tdy] at h29
  refine AW_condF rfl ?_
  refine AW_skip ?_
  refine AW_seq ?_
  refine AW_region ?_
  refine AL_p (x_move rfl rfl) ?_
  refine AL_p (x_add rfl rfl rfl (IntWalk.i64_in _ (by omega))) ?_
  refine AL_p (x_assign rfl rfl) ?_
  refine AL_nil ?_
  refine AW_seq ?_
  refine AW_region ?_
  refine AL_p (x_move rfl rfl) ?_
  refine AL_p (x_move rfl rfl) ?_
  refine AL_p (x_index (E := 65) (n := 5) rfl rfl rfl (by kernel_rfl) rfl (k := k) (by omega) (by omega)) ?_
  refine AL_p (x_efield (off := 1) (o' := 1) rfl rfl (by kernel_rfl) rfl) ?_
  refine AL_p (x_efield (off := 1) (o' := 2) rfl rfl (by kernel_rfl) rfl) ?_
  refine AL_p (x_eload1 rfl rfl (by kernel_rfl) rfl) ?_
  refine AL_p (x_move rfl rfl) ?_
  refine AL_p (x_call0 rfl rfl rfl (heldRowS_c (xs[k]'hlt).plus.rows _ _ (by rw [hat]; rfl) (by omega) (by omega)) rfl rfl) ?_
  refine AL_p (x_assign rfl rfl) ?_
  refine AL_nil ?_
  refine AW_seq ?_
  refine AW_seq ?_
  refine AW_region ?_
  refine AL_p (x_move rfl rfl) ?_
  refine AL_b (x_lss rfl rfl rfl) (fun b41 h41 => ?_)
  refine AL_nil ?_
  cases b41
  rotate_left
  · exfalso; have v := markL_cnt markRow markRow_cnt (xs[k]'hlt).plus.rows (r + 1 + 1); simp at h41; omega
  try simp only [tdy] at h41
  have v2 := markL_cnt markRow markRow_cnt (xs[k]'hlt).plus.rows (r + 1 + 1)
  have y2 : 0 ≤ (markL markRow (xs[k]'hlt).plus.rows (r + 1 + 1)).2 := by omega
  have z2 : (markL markRow (xs[k]'hlt).plus.rows (r + 1 + 1)).2 + ((1 + cntL cntRow (xs[k]'hlt).minus.rows : Nat) : Int) ≤ 4611686018427387904 := by omega
  clear v2
  refine AW_condF rfl ?_
  refine AW_skip ?_
  refine AW_seq ?_
  refine AW_seq ?_
  refine AW_region ?_
  refine AL_p (x_move rfl rfl) ?_
  refine AL_p (x_move rfl rfl) ?_
  refine AL_p (x_index (E := 65) (n := 5) rfl rfl rfl (by kernel_rfl) rfl (k := k) (by omega) (by omega)) ?_
  refine AL_p (x_efield (off := 3) (o' := 3) rfl rfl (by kernel_rfl) rfl) ?_
  refine AL_p (x_efield (off := 0) (o' := 3) rfl rfl (by kernel_rfl) rfl) ?_
  refine AL_p (x_eload1 rfl rfl (by kernel_rfl) rfl) ?_
  refine AL_p (x_move rfl rfl) ?_
  refine AL_b (x_neq rfl rfl rfl) (fun b49 h49 => ?_)
  refine AL_nil ?_
  cases b49
  rotate_left
  · exfalso; rw [hat] at h49; simp [markChange, ba_beq_self] at h49
  try simp only [tdy] at h49
  refine AW_condF rfl ?_
  refine AW_skip ?_
  refine AW_seq ?_
  refine AW_region ?_
  refine AL_p (x_move rfl rfl) ?_
  refine AL_p (x_add rfl rfl rfl (IntWalk.i64_in _ (by omega))) ?_
  refine AL_p (x_assign rfl rfl) ?_
  refine AL_nil ?_
  refine AW_seq ?_
  refine AW_region ?_
  refine AL_p (x_move rfl rfl) ?_
  refine AL_p (x_move rfl rfl) ?_
  refine AL_p (x_index (E := 65) (n := 5) rfl rfl rfl (by kernel_rfl) rfl (k := k) (by omega) (by omega)) ?_
  refine AL_p (x_efield (off := 3) (o' := 3) rfl rfl (by kernel_rfl) rfl) ?_
  refine AL_p (x_efield (off := 1) (o' := 4) rfl rfl (by kernel_rfl) rfl) ?_
  refine AL_p (x_eload1 rfl rfl (by kernel_rfl) rfl) ?_
  refine AL_p (x_move rfl rfl) ?_
  refine AL_p (x_call0 rfl rfl rfl (heldRowS_c (xs[k]'hlt).minus.rows _ _ (by rw [hat]; rfl) (by omega) (by omega)) rfl rfl) ?_
  refine AL_p (x_assign rfl rfl) ?_
  refine AL_nil ?_
  refine AW_seq ?_
  refine AW_region ?_
  refine AL_p (x_move rfl rfl) ?_
  refine AL_b (x_lss rfl rfl rfl) (fun b61 h61 => ?_)
  refine AL_nil ?_
  cases b61
  rotate_left
  · exfalso; have v := markL_cnt markRow markRow_cnt (xs[k]'hlt).minus.rows ((markL markRow (xs[k]'hlt).plus.rows (r + 1 + 1)).2 + 1); simp at h61; omega
  try simp only [tdy] at h61
  have v4 := markL_cnt markRow markRow_cnt (xs[k]'hlt).minus.rows ((markL markRow (xs[k]'hlt).plus.rows (r + 1 + 1)).2 + 1)
  have y4 : 0 ≤ (markL markRow (xs[k]'hlt).minus.rows ((markL markRow (xs[k]'hlt).plus.rows (r + 1 + 1)).2 + 1)).2 := by omega
  have z4 : (markL markRow (xs[k]'hlt).minus.rows ((markL markRow (xs[k]'hlt).plus.rows (r + 1 + 1)).2 + 1)).2 + ((0 : Nat) : Int) ≤ 4611686018427387904 := by omega
  clear v4
  refine AW_condF rfl ?_
  refine AW_skip ?_
  refine AW_region ?_
  refine AL_p (x_move rfl rfl) ?_
  refine AL_p (x_add rfl rfl rfl (IntWalk.i64_in _ (by omega))) ?_
  refine AL_p (x_assign rfl rfl) ?_
  refine AL_nil ?_
  refine ⟨⟨k + 1, by omega⟩, rn [], ?_, by dsimp only; omega⟩
  exact ⟨by (repeat refine ⟨⟨_, rfl, by first | exact VLe.rf | exact vle_int (by dsimp only; omega) | exact vle_int (markK_zero _ _ _).symm | exact vle_int (by rw [hks]; rfl)⟩, ?_⟩); exact trivial, by (repeat refine ⟨⟨_, rfl, by first | exact BLe.rf | exact BLe.box AllC.rf | exact BLe.arr (by exact rfl)⟩, ?_⟩); exact trivial, by repeat (first | exact trivial | refine ⟨⟨rfl, by first | (left; intro h; cases h) | (right; rfl), by first | exact (fun _ h => ⟨_, h⟩) | exact (fun _ _ => ⟨_, rfl⟩) | (intro _ h; cases h)⟩, ?_⟩), rfl⟩

set_option maxHeartbeats 4000000 in
theorem heldDDelta_c (x : Deltat) (q : Int) (k0 : 0 ≤ q) (k1 : q + cntDDelta x ≤ 4611686018427387904) : AC Tryz.prog 20 [.agg [.sl changeE (markL markChange x.changes (q)).1], .one (.c (.int .i64 q))] [] (.one (.c (.int .i64 (markDDelta x q).2))) [] := by
  simp only [cntDDelta] at k1
  refine AC_body1 Tryz.func20 rfl rfl Tryz.ntmps20 rfl Tryz.results20 ?_
  refine AW_seq ?_
  refine AW_region ?_
  refine AL_p (x_box 100 rfl rfl rfl rfl rfl rfl rfl) ?_
  refine AL_p (x_assign rfl rfl) ?_
  refine AL_nil ?_
  refine AW_seq ?_
  refine AW_region ?_
  refine AL_p (x_field (off := 0) (o' := 0) rfl rfl rfl (by kernel_rfl) rfl) ?_
  refine AL_p (x_load1 rfl rfl rfl (by kernel_rfl) rfl) ?_
  refine AL_p (x_move rfl rfl) ?_
  refine AL_p (x_call0 rfl rfl rfl (heldChangeS_c x.changes _ (q) rfl (by omega) (by omega)) rfl rfl) ?_
  refine AL_p (x_assign rfl rfl) ?_
  refine AL_nil ?_
  refine AW_seq ?_
  refine AW_seq ?_
  refine AW_region ?_
  refine AL_p (x_move rfl rfl) ?_
  refine AL_b (x_lss rfl rfl rfl) (fun b10 h10 => ?_)
  refine AL_nil ?_
  cases b10
  rotate_left
  · exfalso; have v0 := markL_cnt markChange markChange_cnt x.changes (q); simp at h10; omega
  try simp only [tdy] at h10
  have v0 := markL_cnt markChange markChange_cnt x.changes (q)
  have y0 : 0 ≤ (markL markChange x.changes (q)).2 := by omega
  have z0 : (markL markChange x.changes (q)).2 + ((0 : Nat) : Int) ≤ 4611686018427387904 := by omega
  clear v0
  refine AW_condF rfl ?_
  refine AW_skip ?_
  refine AW_seq ?_
  refine AW_region ?_
  refine AL_p (x_move rfl rfl) ?_
  refine AL_p (x_assign rfl rfl) ?_
  refine AL_nil ?_
  refine AW_ret ?_
  exact ⟨rn [], ⟨⟨⟨_, rfl, vle_int (rfl)⟩, trivial⟩, trivial, trivial, rfl⟩⟩
end Go.Proofs.YtibhoanjglfaoaaGreat

/- The abstract walk of a law: phases, between which own data is written anew (marks). -/
namespace Go.Proofs.YtibhoanjglfaoaaGreat
open Go.RowKit
set_option linter.unusedVariables false

/-- A phase: what stood at its start (blocks below B) is read alone; what is one's own was made since. -/
structure Ph (B : Nat) (g : Gh) (s : St) (w : World) : Prop where
  le : B ≤ w.heap.size
  old : ∀ b, b < B → g.I b
  own : ∀ b, OwnB g s.l b → B ≤ b
theorem Ph.step {B : Nat} {g g' : Gh} {s s' : St} {w w' : World} (p : Ph B g s w) (hs : Step [] g s.l w g' s'.l w') : Ph B g' s' w' ∧ Below B w w' :=
  ⟨⟨Nat.le_trans p.le hs.size, fun b hb => hs.imm b (p.old b hb), fun b hb => (hs.own b hb).elim (p.own b) fun h => Nat.le_trans p.le h⟩,
   hs.os, hs.tape, hs.output, hs.size, fun b hb => hs.keep b (Nat.lt_of_lt_of_le hb p.le) fun k blk hk hl e => by
    have := p.own b (e ▸ OwnB.of_live hk hl)
    omega⟩
def EndsM (N B : Nat) (w : World) (R : Exit → St → Prop) : Exit → Act → World → Prop := fun e a' w' => ∃ g' s', Rep N g' s' a' w' ∧ Ph B g' s' w' ∧ Below B w w' ∧ R e s'
theorem EndsM.back {N B : Nat} {w w1 : World} {R : Exit → St → Prop} {e : Exit} {a : Act} {w2 : World} (hb : Below B w w1) (h : EndsM N B w1 R e a w2) : EndsM N B w R e a w2 := by
  obtain ⟨g', s', r, p, b, hR⟩ := h
  exact ⟨g', s', r, p, hb.trans b, hR⟩
theorem EndsM.down {N B B' : Nat} {w : World} {R : Exit → St → Prop} {e : Exit} {a : Act} {w2 : World} (hB : B ≤ B') (h : EndsM N B' w R e a w2) : EndsM N B w R e a w2 := by
  obtain ⟨g', s', r, p, b, hR⟩ := h
  exact ⟨g', s', r, ⟨Nat.le_trans hB p.le, fun b hb => p.old b (Nat.lt_of_lt_of_le hb hB), fun b hb => Nat.le_trans hB (p.own b hb)⟩, b.mono hB, hR⟩
def AM (P : Program) (N B : Nat) (c : Code) (Kn : St → Prop) (Q : Exit → St → Prop) (s : St) : Prop :=
  ∀ (g : Gh) (a : Act) (w : World), Rep N g s a w → Ph B g s w → c.wp P (EndsM N B w (NormR Kn Q)) a w
section rules
variable {P : Program} {N B : Nat} {Kn : St → Prop} {Q : Exit → St → Prop} {s : St}
theorem AM_of {c : Code} (h : AW P N [] c Kn Q s) : AM P N B c Kn Q s := fun g a w r p =>
  Go.wp_mono (h g a w r) fun e a1 w1 ⟨g1, s1, r1, hs, hR⟩ => ⟨g1, s1, r1, (p.step hs).1, (p.step hs).2, hR⟩
theorem AM_region {id : Nat} {l : List Oper} (h : AL P N false l.toArray Kn l s []) : AM P N B (.region id l.toArray false) Kn Q s := AM_of (AW_region h)
theorem AM_draw {id : Nat} {l : List Oper} (hm : P.follows .mixedOrders = true) (h : AL P N true l.toArray Kn l s []) : AM P N B (.region id l.toArray true) Kn Q s := AM_of (AW_draw hm h)
theorem AM_skip (h : Kn s) : AM P N B .skip Kn Q s := AM_of (AW_skip h)
theorem AM_ret (h : Q .ret s) : AM P N B .ret Kn Q s := AM_of (AW_ret h)
theorem AM_seq {x y : Code} (h : AM P N B x (AM P N B y Kn Q) Q s) : AM P N B (.seq x y) Kn Q s := fun g a w r p =>
  wp_seq (Go.wp_mono (h g a w r p) fun e a1 w1 h1 => by
    obtain ⟨g1, s1, r1, p1, b1, hR⟩ := h1
    cases e with
    | normal => exact Go.wp_mono (hR g1 a1 w1 r1 p1) fun e a2 w2 h2 => h2.back b1
    | exit id => exact ⟨g1, s1, r1, p1, b1, hR⟩
    | goto l => exact ⟨g1, s1, r1, p1, b1, hR⟩
    | ret => exact ⟨g1, s1, r1, p1, b1, hR⟩
    | panic ch => exact ⟨g1, s1, r1, p1, b1, hR⟩
    | outgrown => exact ⟨g1, s1, r1, p1, b1, hR⟩)
theorem AM_condT {c : Operand} {x y : Code} (hc : evo s.t c = some (.one (.c (.bool true)))) (h : AM P N B x Kn Q s) : AM P N B (.cond c x y) Kn Q s := fun g a w r p => by
  obtain ⟨hv, _⟩ : a.eval c = .bool true ∧ wfV (.bool true) := eval_ok r (evs_of hc) (rdo_of hc)
  exact wp_cond_split hv (fun _ => h g a w r p) (fun h => by cases h)
theorem AM_condF {c : Operand} {x y : Code} (hc : evo s.t c = some (.one (.c (.bool false)))) (h : AM P N B y Kn Q s) : AM P N B (.cond c x y) Kn Q s := fun g a w r p => by
  obtain ⟨hv, _⟩ : a.eval c = .bool false ∧ wfV (.bool false) := eval_ok r (evs_of hc) (rdo_of hc)
  exact wp_cond_split hv (fun h => by cases h) (fun _ => h g a w r p)
end rules

/-! ### A new phase -/
/-- What a slot holds, where all that stands is read alone from now on. -/
inductive Rise (l : Locs) (B B' : Nat) : AVal → AVal → Prop
  | c {v : Value} : Rise l B B' (.one (.c v)) (.one (.c v))
  | box {k : Nat} {cs ds : List Cell} {js : List Nat} {d : Bool} {α : Type} {e : Enc α} {f : α → List Cell} [hc : CellsOf e f] {x : α} (hb : lkl l k = some (.box cs)) (hm : mvC l cs = some (ds, js, d)) (hj : noDup js = true) (hf : FitL ds (f x)) : Rise l B B' (.one (.ptr k 0)) (.one (.epo B' e x 0))
  | own {k : Nat} {α : Type} {T : TypeId} {e : Enc α} {xs : List α} {d : Bool} (hb : lkl l k = some (.arr T e xs d)) : Rise l B B' (.one (.own k)) (.one (.slo B' e xs))
  | epo {α : Type} {e : Enc α} {x : α} {o : Nat} : Rise l B B' (.one (.epo B e x o)) (.one (.epo B' e x o))
  | slo {α : Type} {e : Enc α} {xs : List α} : Rise l B B' (.one (.slo B e xs)) (.one (.slo B' e xs))
  | sl {α : Type} {e : Enc α} {xs : List α} : Rise l B B' (.one (.sl e xs)) (.one (.slo B' e xs))
  | agg {cs ds : List Cell} {js : List Nat} {d : Bool} {α : Type} {e : Enc α} {f : α → List Cell} [hc : CellsOf e f] {x : α} (hm : mvC l cs = some (ds, js, d)) (hj : noDup js = true) (hf : FitL ds (f x)) (hs : (f x).all Cell.dat = true) : Rise l B B' (.agg cs) (.agg (f x))
def RiseT (l : Locs) (B B' : Nat) (t : Tmps) : Tmps → Prop
  | [] => True
  | (k, x) :: r => (∃ y, lk t k = some y ∧ Rise l B B' y x) ∧ RiseT l B B' t r
theorem RiseT.get {l : Locs} {B B' : Nat} {t : Tmps} : ∀ {T : Tmps} {k : Nat} {x : AVal}, RiseT l B B' t T → lk T k = some x → ∃ y, lk t k = some y ∧ Rise l B B' y x
  | [], k, x, _, h => by simp [lk] at h
  | (j, z) :: r, k, x, hT, h => by
    by_cases e : j = k
    · subst e; rw [lk_cons_self] at h; cases h; exact hT.1
    · rw [lk_cons_ne e] at h; exact RiseT.get hT.2 h
theorem Rise.ok {g : Gh} {l : Locs} {w : World} {B : Nat} (m : MemR g l w) {v : Value} {x y : AVal} (h : Rise l B w.heap.size x y) (hv : VR g l w v x) : VR (allI w) [] w v y := by
  cases h with
  | c => exact hv
  | @box k cs ds js d α e f hc x hb hm hj hf =>
    have he : v = .pointer (some ⟨g.ρ k, 0, none⟩) := hv cs hb
    obtain ⟨vs, t, h1, h2, h3⟩ := m.box k cs hb
    obtain ⟨bs, f1, f2, _⟩ := mvC_ok m h2 hm (noDup_of hj)
    have hr : e.rep w vs.toList x bs := hc.iff.2 (f1.fit hf)
    exact ⟨g.ρ k, 0, vs.toList, bs, he, ⟨(Array.getElem?_eq_some_iff.1 h1).1, (Array.getElem?_eq_some_iff.1 h1).1⟩, hr, fun c hcb => ⟨e.lt hr c hcb, e.lt hr c hcb⟩, fun j u hu => by rw [cell_of_heap h1, Nat.zero_add]; simpa using hu⟩
  | @own k α T e xs d hb =>
    obtain ⟨a, n, cap, bs, h1, h2, h3, _⟩ := (m.arr k α T e xs d hb).slice
    have he : v = g.hd k := hv α T e xs d hb
    exact ⟨a, n, cap, bs, he.trans h1, h2, fun b hbb => ⟨h2.lt b hbb, h2.lt b hbb⟩⟩
  | epo =>
    obtain ⟨gb, o, cs, b, h1, h2, h3, h4, h5⟩ := hv
    have hg := m.ilt gb h2.1
    exact ⟨gb, o, cs, b, h1, ⟨hg, hg⟩, h3, fun c hc => ⟨m.ilt c (h4 c hc).1, m.ilt c (h4 c hc).1⟩, h5⟩
  | slo =>
    obtain ⟨a, n, cap, bs, h1, h2, h3⟩ := hv
    exact ⟨a, n, cap, bs, h1, h2, fun b hb => ⟨h2.lt b hb, h2.lt b hb⟩⟩
  | sl =>
    obtain ⟨a, n, cap, bs, h1, h2, h3⟩ := hv
    exact ⟨a, n, cap, bs, h1, h2, fun b hb => ⟨h2.lt b hb, h2.lt b hb⟩⟩
  | @agg cs ds js d α e f hc x hm hj hf hs =>
    obtain ⟨vs, h1, h2⟩ := hv
    obtain ⟨bs, f1, f2, _⟩ := mvC_ok m h2 hm (noDup_of hj)
    have hr : e.rep w vs x bs := hc.iff.2 (f1.fit hf)
    exact ⟨vs, h1, (f1.fit hf).all2 fun i hi => e.lt hr i hi⟩
/-- From here on all that stands is read alone. -/
theorem AM_raise {P : Program} {N B : Nat} {c : Code} {Kn : St → Prop} {Q : Exit → St → Prop} {s : St} (T : Nat → Tmps) (hT : ∀ B', RiseT s.l B B' s.t (T B')) (h : ∀ B', AM P N B' c Kn Q ⟨T B', []⟩) : AM P N B c Kn Q s := fun g a w r p => by
  have r2 : Rep N (allI w) ⟨T w.heap.size, []⟩ a w := ⟨r.size, r.defers, fun k x hk => by
    obtain ⟨y, h1, h2⟩ := (hT w.heap.size).get hk
    exact h2.ok r.mem (r.tmp k y h1), allI_mem w⟩
  exact Go.wp_mono (h w.heap.size (allI w) a w r2 ⟨Nat.le_refl _, fun b hb => hb, fun b ⟨k, blk, hk, _⟩ => by simp [lkl, lk] at hk⟩) fun e a1 w1 h1 => h1.down p.le

/-! ### What a mark leaves standing -/
def HardC (B : Nat) (js : List Nat) : Cell → Prop
  | .c _ => True
  | .any => True
  | .ptr _ _ => True
  | .own j => noId j js = true
  | .slo B' _ _ => B' = B
  | .epo B' _ _ _ => B' = B
  | _ => False
def hardAll (B : Nat) (js : List Nat) : List Cell → Prop
  | [] => True
  | c :: cs => HardC B js c ∧ hardAll B js cs
theorem hardAll.get {B : Nat} {js : List Nat} : ∀ {cs : List Cell}, hardAll B js cs → ∀ x ∈ cs, HardC B js x
  | [], _, x, h => by cases h
  | c :: cs, h, x, hx => by
    rcases List.mem_cons.1 hx with rfl | hx
    · exact h.1
    · exact hardAll.get h.2 x hx
def HardV (B : Nat) (js : List Nat) : AVal → Prop
  | .one x => HardC B js x
  | .agg xs => hardAll B js xs
  | .tup _ => False
def HardB (B : Nat) (js : List Nat) (k : Nat) : Blk → Prop
  | .box cs => hardAll B js cs
  | .arr _ _ _ d => d = true ∧ noId k js = true
def SubT (B : Nat) (js : List Nat) (t : Tmps) : Tmps → Prop
  | [] => True
  | (k, x) :: r => (lk t k = some x ∧ HardV B js x) ∧ SubT B js t r
def SubL (B : Nat) (js : List Nat) (l : Locs) : Locs → Prop
  | [] => True
  | (k, some b) :: r => (lkl l k = some b ∧ HardB B js k b) ∧ SubL B js l r
  | (_, none) :: r => SubL B js l r
theorem SubT.get {B : Nat} {js : List Nat} {t : Tmps} : ∀ {T : Tmps} {k : Nat} {x : AVal}, SubT B js t T → lk T k = some x → lk t k = some x ∧ HardV B js x
  | [], k, x, _, h => by simp [lk] at h
  | (j, z) :: r, k, x, hT, h => by
    by_cases e : j = k
    · subst e; rw [lk_cons_self] at h; cases h; exact hT.1
    · rw [lk_cons_ne e] at h; exact SubT.get hT.2 h
theorem SubL.get {B : Nat} {js : List Nat} {l : Locs} : ∀ {L : Locs} {k : Nat} {b : Blk}, SubL B js l L → lkl L k = some b → lkl l k = some b ∧ HardB B js k b
  | [], k, b, _, h => by simp [lkl, lk] at h
  | (j, z) :: r, k, b, hL, h => by
    by_cases e : j = k
    · subst e; rw [lkl_cons_self] at h; subst h; exact hL.1
    · cases z with
      | none => rw [lkl_cons_ne e] at h; exact SubL.get (L := r) hL h
      | some z => rw [lkl_cons_ne e] at h; exact SubL.get hL.2 h
section back
variable {N B : Nat} {g : Gh} {s : St} {a : Act} {w w' : World} {js : List Nat} {bs : List Nat} {L : Locs}
/-- The names behind a mark. -/
def Gh.after (g : Gh) (B : Nat) (L : Locs) : Gh := { g with I := fun b => b < B ∨ ∃ (j : Nat) (α : Type) (T : TypeId) (e : Enc α) (xs : List α), lkl L j = some (.arr T e xs true) ∧ b ∈ g.F j }
theorem hard_cell (p : Ph B g s w) (hb : ∀ b ∈ bs, ∃ j ∈ js, Via g s.l j b) (o : Only bs w w') (hL : SubL B js s.l L) {v : Value} {x : Cell} (hx : HardC B js x) (h : CellR g s.l w v x) : CellR (g.after B L) L w' v x := by
  have lo : ∀ b, b < B → b ∉ bs := fun b h1 h2 => by
    obtain ⟨j, _, hv⟩ := hb b h2
    have := p.own b hv.own
    omega
  have kp : ∀ b, b < B → w'.heap[b]? = w.heap[b]? := fun b h1 => o.keep b (Nat.lt_of_lt_of_le h1 p.le) (lo b h1)
  cases x with
  | c u => exact h
  | any => trivial
  | own j => exact fun α T e xs d hk => h α T e xs d (hL.get hk).1
  | ptr k off => exact fun cs hk => h cs (hL.get hk).1
  | slo B' e xs =>
    obtain rfl : B' = B := hx
    obtain ⟨a, n, cap, b1, h1, h2, h3⟩ := h
    exact ⟨a, n, cap, b1, h1, h2.keep (fun b hbb => kp b (h3 b hbb).2) o.size, fun b hbb => ⟨.inl (h3 b hbb).2, (h3 b hbb).2⟩⟩
  | epo B' e z off =>
    obtain rfl : B' = B := hx
    obtain ⟨gb, of, cs, b1, h1, h2, h3, h4, h5⟩ := h
    exact ⟨gb, of, cs, b1, h1, ⟨.inl h2.2, h2.2⟩, e.keep h3 (fun c hc => kp c (h4 c hc).2) o.size, fun c hc => ⟨.inl (h4 c hc).2, (h4 c hc).2⟩, fun j u hu => (World.cell?_of_block (w := w) (kp gb h2.2)).trans (h5 j u hu)⟩
  | _ => exact hx.elim
theorem hard_val (p : Ph B g s w) (hb : ∀ b ∈ bs, ∃ j ∈ js, Via g s.l j b) (o : Only bs w w') (hL : SubL B js s.l L) {v : Value} {x : AVal} (hx : HardV B js x) (h : VR g s.l w v x) : VR (g.after B L) L w' v x := by
  cases x with
  | one x => exact hard_cell p hb o hL hx h
  | agg xs =>
    obtain ⟨vs, h1, h2⟩ := h
    exact ⟨vs, h1, h2.mono fun a b hm hr => hard_cell p hb o hL (hardAll.get hx b hm) hr⟩
  | tup xs => exact hx.elim
theorem after_rep (r : Rep N g s a w) (p : Ph B g s w) (hb : ∀ b ∈ bs, ∃ j ∈ js, Via g s.l j b) (o : Only bs w w') {T : Tmps} (hT : SubT B js s.t T) (hL : SubL B js s.l L) :
    Rep N (g.after B L) ⟨T, L⟩ a w' ∧ Ph B (g.after B L) ⟨T, L⟩ w' ∧ Below B w w' := by
  have m := r.mem
  have lo : ∀ b ∈ bs, B ≤ b := fun b h2 => by
    obtain ⟨j, _, hv⟩ := hb b h2
    exact p.own b hv.own
  have out : ∀ {k blk}, lkl L k = some blk → liv g k blk → g.ρ k ∉ bs := fun {k blk} hk hl hm => by
    obtain ⟨hk', hh⟩ := hL.get hk
    obtain ⟨j, hj, α, T, e, xs, h1, h2⟩ := hb _ hm
    have hne : k ≠ j := fun e => by
      subst e
      rw [hk'] at h1; cases h1
      exact noId_of hh.2 hj
    rcases h2 with ⟨h3, h4⟩ | h3
    · exact m.dis k j _ _ hne hk' h1 hl h3 h4
    · exact m.notI hk' hl ((m.fr j α T e xs h1).2 _ h3).1
  have outF : ∀ {k : Nat} {α : Type} {T : TypeId} {e : Enc α} {xs : List α}, lkl L k = some (.arr T e xs true) → ∀ b ∈ g.F k, b ∉ bs := fun {k α T e xs} hk b hbF hm => by
    obtain ⟨hk', hh⟩ := hL.get hk
    obtain ⟨j, hj, hv⟩ := hb _ hm
    have : k = j := Via.disj m ⟨α, T, e, xs, hk', .inr hbF⟩ hv
    subst this
    exact noId_of hh.2 hj
  have own : ∀ {b}, OwnB (g.after B L) L b → OwnB g s.l b := fun {b} ⟨k, blk, hk, h⟩ => ⟨k, blk, (hL.get hk).1, h⟩
  have nI : ∀ {k blk}, lkl L k = some blk → liv g k blk → ¬ (g.after B L).I (g.ρ k) := fun {k blk} hk hl hI => by
    rcases hI with h1 | ⟨j, α, T, e, xs, h1, h2⟩
    · have := p.own _ (OwnB.of_live (hL.get hk).1 hl); omega
    · exact m.notI (hL.get hk).1 hl ((m.fr j α T e xs (hL.get h1).1).2 _ h2).1
  have hp : ∀ {k blk}, lkl L k = some blk → liv g k blk → w'.heap[g.ρ k]? = w.heap[g.ρ k]? := fun {k blk} hk hl => o.keep _ (m.lt (hL.get hk).1 hl) (out hk hl)
  have hpF : ∀ {k : Nat} {α : Type} {T : TypeId} {e : Enc α} {xs : List α}, lkl L k = some (.arr T e xs true) → ∀ b ∈ g.F k, w'.heap[b]? = w.heap[b]? := fun {k α T e xs} hk b hbF => o.keep b (m.ilt b ((m.fr k α T e xs (hL.get hk).1).2 b hbF).1) (outF hk b hbF)
  refine ⟨⟨r.size, r.defers, fun k x hk => ?_, ⟨fun b hI => ?_, fun k cs hk => ?_, fun k α T e xs d hk => ?_, fun j k b b' hjk hj hk lj lk => m.dis j k b b' hjk (hL.get hj).1 (hL.get hk).1 lj lk, fun k α T e xs hk => ?_, fun j k α β T U e f xs ys hjk hj hk => m.fd j k α β T U e f xs ys hjk (hL.get hj).1 (hL.get hk).1⟩⟩,
    ⟨Nat.le_trans p.le o.size, fun b hb => .inl hb, fun b hb => p.own b (own hb)⟩, o.os, o.tape, o.output, o.size, fun b h1 => o.keep b (Nat.lt_of_lt_of_le h1 p.le) fun h2 => by have := lo b h2; omega⟩
  · obtain ⟨h1, h2⟩ := hT.get hk
    exact hard_val p hb o hL h2 (r.tmp k x h1)
  · refine Nat.lt_of_lt_of_le ?_ o.size
    rcases hI with h1 | ⟨j, α, T, e, xs, h1, h2⟩
    · exact Nat.lt_of_lt_of_le h1 p.le
    · exact m.ilt b ((m.fr j α T e xs (hL.get h1).1).2 b h2).1
  · obtain ⟨h1, h2⟩ := hL.get hk
    obtain ⟨vs, t, h3, h4, h5⟩ := m.box k cs h1
    exact ⟨vs, t, (hp hk trivial).trans h3, h4.mono fun a x hx hr => hard_cell p hb o hL (hardAll.get h2 x hx) hr, nI hk trivial⟩
  · obtain ⟨h1, h2, h3⟩ := hL.get hk
    subst h2
    rcases m.arr k α T e xs true h1 with h4 | ⟨cap, vs, bss, a1, a2, a3, a4, a5, a6, a7, a8, a9⟩
    · exact .inl h4
    · have hl : liv g k (.arr T e xs true) := by show g.hd k ≠ _; rw [a1]; intro e; cases e
      refine .inr ⟨cap, vs, bss, a1, a2, a3, (hp hk hl).trans a4, a5, a6.keep (hp hk hl) (fun b hb => hpF hk b (by rw [a9 rfl]; exact hb)) o.size, fun b hb => .inr ⟨k, α, T, e, xs, hk, by rw [a9 rfl]; exact hb⟩, nI hk hl, a9⟩
  · obtain ⟨h1, h2, h3⟩ := hL.get hk
    obtain ⟨n1, n2⟩ := m.fr k α T e xs h1
    exact ⟨n1, fun b hb => ⟨.inr ⟨k, α, T, e, xs, hk, hb⟩, by
      obtain ⟨_, c, t, h4⟩ := n2 b hb
      exact ⟨c, t, (hpF hk b hb).trans h4⟩⟩⟩
end back

/-! ### Regions in which a mark is called -/
def LM (P : Program) (N B : Nat) (ops : Array Oper) (Kn : St → Prop) (l : List Oper) (s : St) : Prop :=
  ∀ (Q : Exit → St → Prop) (Z : Exit → Act → World → Prop) (g : Gh) (a : Act) (w : World), Rep N g s a w → Ph B g s w → (∀ e a' w', EndsM N B w (NormR Kn Q) e a' w' → Z e a' w') → wpList P ops Z l a w
section lm
variable {P : Program} {N B : Nat} {ops : Array Oper} {Kn : St → Prop} {s : St}
theorem AM_regionM {id : Nat} {l : List Oper} {Q : Exit → St → Prop} (h : LM P N B l.toArray Kn l s) : AM P N B (.region id l.toArray false) Kn Q s := fun g a w r p => wp_region_lit (h Q _ g a w r p fun _ _ _ h => h)
theorem LM_nil (h : Kn s) : LM P N B ops Kn [] s := fun Q Z g a w r p hz => hz _ _ _ ⟨g, s, r, p, Below.refl _ _, h⟩
theorem LM_p {dst : Option Nat} {op : Op} {ty : TypeId} {pos : String} {after : Array Edge} {c : Cert} {r : List Oper} {s' : St} (h : Stp P N ⟨dst, op, ty, pos, after, none⟩ s s' c) (next : LM P N B ops Kn r s') : LM P N B ops Kn (⟨dst, op, ty, pos, after, none⟩ :: r) s := fun Q Z g a w R p hz => by
  obtain ⟨h1, h2, h3⟩ := h
  have h4 := h1 [] g s a w h2 R
  rw [h3] at h4
  unfold wpList
  rw [if_pos (by simp [Region.wanted])]
  refine .inl (Oper.wp_weak (fun a' w' ⟨g', r', hs'⟩ => ?_) h4)
  obtain ⟨p2, b2⟩ := p.step hs'
  exact next Q Z g' a' w' r' p2 fun e a2 w2 h5 => hz e a2 w2 (h5.back b2)
/-- A function that writes a datum anew. -/
def MarkA (P : Program) (f : FuncId) {α : Type} (e : Enc α) (x : α) (k r : Int) (x' : α) : Prop :=
  ∀ (w : World) (cs : List Value) (bs : List Nat), e.rep w cs x bs → Fresh 0 w bs → Calls P f #[.agg cs.toArray, .int .i64 k] w fun e' w' => e' = .returned (.int .i64 r) ∧ e.rep w' cs x' bs ∧ Only bs w w'
theorem via_fresh {g : Gh} {l : Locs} {w : World} (m : MemR g l w) {js bs : List Nat} (h : bs.Nodup ∧ ∀ b ∈ bs, ∃ j ∈ js, Via g l j b) : Fresh 0 w bs := ⟨h.1, fun b hb => by
  obtain ⟨j, _, hv⟩ := h.2 b hb
  exact ⟨Nat.zero_le _, hv.cells m⟩⟩
section mark
variable {d : Nat} {fo x y : Operand} {f : FuncId} {ats : Array TypeId} {ty : TypeId} {pos : String} {after : Array Edge} {r : List Oper} {k r' : Int}
/-- The mark of a struct, of which nothing is asked behind. -/
theorem LM_markA {cs ds : List Cell} {js : List Nat} {α : Type} {e : Enc α} {F : α → List Cell} [hc : CellsOf e F] {z z' : α} (T : Tmps) (L : Locs) (hN : Nat.blt d N = true) (hev : evo s.t fo = some (.one (.clo f []))) (hx : evo s.t x = some (.agg cs)) (hy : evo s.t y = some (.one (.c (.int .i64 k))))
    (hf : Callable P f) (hM : MarkA P f e z k r' z') (hm : mvC s.l cs = some (ds, js, true)) (hj : noDup js = true) (hfit : FitL ds (F z)) (hw : wfV (.int .i64 r')) (hT : SubT B js s.t T) (hL : SubL B js s.l L)
    (next : LM P N B ops Kn r ⟨(d, .one (.c (.int .i64 r'))) :: T, L⟩) : LM P N B ops Kn (⟨some d, .call { callee := .value fo, args := #[x, y], argTypes := ats }, ty, pos, after, none⟩ :: r) s := fun Q Z g a w R p hz => by
  have hfe : a.eval fo = .func (.func f) #[] #[] := (eval_ok R (evs_of hev) (rdo_of hev) : CellR g s.l w (a.eval fo) (.clo f [])) (fun k hk => by cases hk)
  obtain ⟨vs, h1, h2⟩ : ∃ vs : List Value, a.eval x = .agg vs.toArray ∧ All2 (CellR g s.l w) vs cs := eval_ok R (evs_of hx) (rdo_of hx)
  obtain ⟨h3, _⟩ : a.eval y = .int .i64 k ∧ wfV (.int .i64 k) := eval_ok R (evs_of hy) (rdo_of hy)
  obtain ⟨bs, f1, f2, f3⟩ := mvC_ok R.mem h2 hm (noDup_of hj)
  have hr : e.rep w vs z bs := hc.iff.2 (f1.fit hfit)
  unfold wpList
  rw [if_pos (by simp [Region.wanted])]
  refine .inl ?_
  unfold Oper.wp
  rw [run_enter rfl hf hfe, Oper.upon_enter]
  simp only [List.map_toArray, List.map_cons, List.map_nil, h1, h3, Array.append_empty]
  refine (hM w vs bs hr (via_fresh R.mem (f3 rfl))).mono ?_
  rintro e' w' ⟨rfl, _, o⟩
  obtain ⟨q1, q2, q3⟩ := after_rep R p (f3 rfl).2 o hT hL
  have q4 : Rep N (g.after B L) ⟨(d, .one (.c (.int .i64 r'))) :: T, L⟩ (a.put (some d) (.int .i64 r')) w' := q1.put (blt_lt hN) ⟨rfl, hw⟩
  exact next Q Z _ _ _ q4 ⟨q2.le, q2.old, q2.own⟩ fun e a2 w2 h5 => hz e a2 w2 (h5.back q3)
/-- Values that are known by their cells. -/
def firm : Cell → Bool
  | .c _ => true
  | .own _ => true
  | _ => false
theorem firm_eq {g : Gh} {l : Locs} {w : World} : ∀ {vs us : List Value} {cs ds : List Cell} {js : List Nat} {q : Bool}, mvC l cs = some (ds, js, q) → cs.all firm = true → All2 (CellR g l w) vs cs → All2 (CellR g l w) us cs → vs = us
  | [], [], [], _, _, _, _, _, _, _ => rfl
  | [], _ :: _, [], _, _, _, _, _, _, h => h.elim
  | _ :: _, [], [], _, _, _, _, _, h, _ => h.elim
  | [], _, _ :: _, _, _, _, _, _, h, _ => h.elim
  | _ :: _, [], _ :: _, _, _, _, _, _, _, h => h.elim
  | _ :: _, _ :: _, [], _, _, _, _, _, h, _ => h.elim
  | v :: vs, u :: us, c :: cs, ds, js, q, hm, hf, h1, h2 => by
    simp only [List.all_cons, Bool.and_eq_true] at hf
    simp only [mvC] at hm
    split at hm
    · cases hm
    · rename_i ds1 js1 d1 h3
      have ih := firm_eq h3 hf.2 h1.2 h2.2
      subst ih
      cases c with
      | c z => rw [show v = z from h1.1.1, show u = z from h2.1.1]
      | own j =>
        simp only at hm
        split at hm
        · rename_i T e xs q hj
          rw [show v = _ from h1.1 _ _ _ _ _ hj, show u = _ from h2.1 _ _ _ _ _ hj]
        · cases hm
      | _ => cases hf.1
/-- What a slot says, at a new phase behind a mark. -/
inductive Stay (B B' : Nat) : AVal → AVal → Prop
  | c {v : Value} : Stay B B' (.one (.c v)) (.one (.c v))
  | epo {α : Type} {e : Enc α} {x : α} {o : Nat} : Stay B B' (.one (.epo B e x o)) (.one (.epo B' e x o))
  | slo {α : Type} {e : Enc α} {xs : List α} : Stay B B' (.one (.slo B e xs)) (.one (.slo B' e xs))
def StayT (B B' : Nat) (t : Tmps) : Tmps → Prop
  | [] => True
  | (k, x) :: r => (∃ y, lk t k = some y ∧ Stay B B' y x) ∧ StayT B B' t r
theorem StayT.get {B B' : Nat} {t : Tmps} : ∀ {T : Tmps} {k : Nat} {x : AVal}, StayT B B' t T → lk T k = some x → ∃ y, lk t k = some y ∧ Stay B B' y x
  | [], k, x, _, h => by simp [lk] at h
  | (j, z) :: r, k, x, hT, h => by
    by_cases e : j = k
    · subst e; rw [lk_cons_self] at h; cases h; exact hT.1
    · rw [lk_cons_ne e] at h; exact StayT.get hT.2 h
theorem Stay.ok {g : Gh} {l : Locs} {B : Nat} {w w' : World} {v : Value} {x y : AVal} (hs : w.heap.size ≤ w'.heap.size) (hB : B ≤ w.heap.size) (hk : ∀ b, b < B → w'.heap[b]? = w.heap[b]?) (h : Stay B w'.heap.size x y) (hv : VR g l w v x) : VR (allI w') [] w' v y := by
  cases h with
  | c => exact hv
  | epo =>
    obtain ⟨gb, o, cs, b, h1, h2, h3, h4, h5⟩ := hv
    have lt : ∀ c, c < B → c < w'.heap.size := fun c hc => by omega
    exact ⟨gb, o, cs, b, h1, ⟨lt _ h2.2, lt _ h2.2⟩, Enc.keep _ h3 (fun c hc => hk c (h4 c hc).2) hs, fun c hc => ⟨lt _ (h4 c hc).2, lt _ (h4 c hc).2⟩, fun j u hu => (World.cell?_of_block (w := w) (hk gb h2.2)).trans (h5 j u hu)⟩
  | slo =>
    obtain ⟨a, n, cap, bs, h1, h2, h3⟩ := hv
    have lt : ∀ c, c < B → c < w'.heap.size := fun c hc => by omega
    exact ⟨a, n, cap, bs, h1, h2.keep (fun b hb => hk b (h3 b hb).2) hs, fun b hb => ⟨lt _ (h3 b hb).2, lt _ (h3 b hb).2⟩⟩
theorem stay_rep {B : Nat} {g : Gh} {s : St} {a : Act} {w w' : World} {js bs : List Nat} (R : Rep N g s a w) (p : Ph B g s w) (hb : ∀ b ∈ bs, ∃ j ∈ js, Via g s.l j b) (o : Only bs w w') {T : Tmps} (hT : StayT B w'.heap.size s.t T) :
    Rep N (allI w') ⟨T, []⟩ a w' ∧ Ph w'.heap.size (allI w') ⟨T, []⟩ w' ∧ Below B w w' := by
  obtain ⟨q1, q2, q3⟩ := after_rep (T := []) (L := []) R p hb o trivial trivial
  refine ⟨⟨R.size, R.defers, fun k x hk => ?_, allI_mem w'⟩, ⟨Nat.le_refl _, fun b hb => hb, fun b ⟨k, blk, hk, _⟩ => by simp [lkl, lk] at hk⟩, q3⟩
  obtain ⟨y, h1, h2⟩ := hT.get hk
  exact h2.ok o.size p.le q3.block (R.tmp k y h1)
/-- The mark of a struct that lies in variable b, to which slot t points; from here on all is read alone. -/
theorem LM_markAK {cs ds : List Cell} {js : List Nat} {α : Type} {e : Enc α} {F : α → List Cell} [hc : CellsOf e F] {z z' : α} (t b : Nat) (T : Nat → Tmps) (hN : Nat.blt d N = true) (hev : evo s.t fo = some (.one (.clo f []))) (hx : evo s.t x = some (.agg cs)) (hy : evo s.t y = some (.one (.c (.int .i64 k))))
    (ht : lk s.t t = some (.one (.ptr b 0))) (hb : lkl s.l b = some (.box cs)) (hfm : cs.all firm = true) (htd : Nat.beq d t = false)
    (hf : Callable P f) (hM : MarkA P f e z k r' z') (hm : mvC s.l cs = some (ds, js, true)) (hj : noDup js = true) (hfit : FitL ds (F z)) (hw : wfV (.int .i64 r')) (hT : ∀ B', StayT B B' s.t (T B'))
    (next : ∀ B', LM P N B' ops Kn r ⟨(d, .one (.c (.int .i64 r'))) :: (t, .one (.epo B' e z' 0)) :: T B', []⟩) : LM P N B ops Kn (⟨some d, .call { callee := .value fo, args := #[x, y], argTypes := ats }, ty, pos, after, none⟩ :: r) s := fun Q Z g a w R p hz => by
  have hfe : a.eval fo = .func (.func f) #[] #[] := (eval_ok R (evs_of hev) (rdo_of hev) : CellR g s.l w (a.eval fo) (.clo f [])) (fun k hk => by cases hk)
  obtain ⟨vs, h1, h2⟩ : ∃ vs : List Value, a.eval x = .agg vs.toArray ∧ All2 (CellR g s.l w) vs cs := eval_ok R (evs_of hx) (rdo_of hx)
  obtain ⟨h3, _⟩ : a.eval y = .int .i64 k ∧ wfV (.int .i64 k) := eval_ok R (evs_of hy) (rdo_of hy)
  obtain ⟨bs, f1, f2, f3⟩ := mvC_ok R.mem h2 hm (noDup_of hj)
  have hr : e.rep w vs z bs := hc.iff.2 (f1.fit hfit)
  have hpt : a.tmps.getD t undef = .pointer (some ⟨g.ρ b, 0, none⟩) := (R.tmp t _ ht : CellR g s.l w _ (.ptr b 0)) cs hb
  obtain ⟨us, ut, u1, u2, u3⟩ := R.mem.box b cs hb
  have hvu := firm_eq hm hfm h2 u2
  have hnb : g.ρ b ∉ bs := fun hmem => by
    obtain ⟨j, _, β, U, e', zs, j1, j2⟩ := (f3 rfl).2 _ hmem
    rcases j2 with ⟨j3, j4⟩ | j3
    · exact R.mem.dis b j _ _ (fun e => by subst e; rw [hb] at j1; cases j1) hb j1 trivial j3 j4
    · exact u3 ((R.mem.fr j β U e' zs j1).2 _ j3).1
  unfold wpList
  rw [if_pos (by simp [Region.wanted])]
  refine .inl ?_
  unfold Oper.wp
  rw [run_enter rfl hf hfe, Oper.upon_enter]
  simp only [List.map_toArray, List.map_cons, List.map_nil, h1, h3, Array.append_empty]
  refine (hM w vs bs hr (via_fresh R.mem (f3 rfl))).mono ?_
  rintro e' w' ⟨rfl, hr', o⟩
  obtain ⟨q1, q2, q3⟩ := stay_rep R p (f3 rfl).2 o (hT w'.heap.size)
  have hub : w'.heap[g.ρ b]? = some (.cells us ut (0, 0)) := (o.keep _ (Array.getElem?_eq_some_iff.1 u1).1 hnb).trans u1
  have hgb : g.ρ b < w'.heap.size := (Array.getElem?_eq_some_iff.1 hub).1
  have hep : VR (allI w') [] w' (a.tmps.getD t undef) (.one (.epo w'.heap.size e z' 0)) := by
    rw [hpt]
    exact ⟨g.ρ b, 0, vs, bs, rfl, ⟨hgb, hgb⟩, hr', fun c hc => ⟨e.lt hr' c hc, e.lt hr' c hc⟩, fun j u hu => by rw [cell_of_heap hub, Nat.zero_add]; rw [hvu] at hu; simpa using hu⟩
  have q5 : Rep N (allI w') ⟨(t, .one (.epo w'.heap.size e z' 0)) :: T w'.heap.size, []⟩ a w' := ⟨q1.size, q1.defers, fun j y hj => by
    by_cases ej : t = j
    · subst ej; rw [lk_cons_self] at hj; cases hj; exact hep
    · rw [lk_cons_ne ej] at hj; exact q1.tmp j y hj, q1.mem⟩
  have q4 : Rep N (allI w') ⟨(d, .one (.c (.int .i64 r'))) :: (t, .one (.epo w'.heap.size e z' 0)) :: T w'.heap.size, []⟩ (a.put (some d) (.int .i64 r')) w' := q5.put (blt_lt hN) ⟨rfl, hw⟩
  exact next w'.heap.size Q Z _ _ _ q4 ⟨q2.le, q2.old, q2.own⟩ fun e a2 w2 h5 => hz e a2 w2 ((h5.down (Nat.le_trans p.le o.size)).back q3)
end mark
end lm
/-- A variable that is read alone since an earlier phase. -/
def upC (B : Nat) : Cell → Cell
  | .sl e xs => .slo B e xs
  | c => c
theorem FR.all2o {g : Gh} {l : Locs} {w : World} {B : Nat} : ∀ {vs : List Value} {cs : List Cell} {b : List Nat}, FR w vs cs b → (∀ i ∈ b, g.I i ∧ i < B) → All2 (CellR g l w) vs (cs.map (upC B))
  | [], [], b, _, _ => trivial
  | v :: vs, c :: cs, b, h, hI => by
    obtain ⟨b1, b2, rfl, h1, h2⟩ := h
    refine ⟨?_, FR.all2o h2 fun i hi => hI i (List.mem_append_right _ hi)⟩
    cases c with
    | c u => exact ⟨h1.1, h1.2.1⟩
    | sl e xs =>
      obtain ⟨a, n, cap, h3, h4⟩ := h1
      exact ⟨a, n, cap, b1, h3, h4, fun i hi => hI i (List.mem_append_left _ hi)⟩
    | rx e x us b j =>
      obtain ⟨h3, h4, rfl⟩ := h1
      exact ⟨h3, h4, fun i hi => (hI i (List.mem_append_left _ hi)).1⟩
    | _ => exact h1.elim
section pload
variable {P : Program} {N : Nat} {s : St} {d : Nat} {ty : TypeId} {pos : String} {after : Array Edge} {gd : Option (Nat × Bool)}
theorem x_pload {α : Type} {e : Enc α} {f : α → List Cell} [hc : CellsOf e f] {T B n : Nat} {x : Operand} {z : α} {cs : List Cell} (hN : Nat.blt d N = true) (h : evo s.t x = some (.one (.epo B e z 0))) (hT : kindT P T = some (some n)) (hl : (f z).length = n) (hcs : (f z).map (upC B) = cs) :
    Stp P N ⟨some d, .load T x, ty, pos, after, gd⟩ s ⟨(d, .agg cs) :: s.t, s.l⟩ ⟨rdo x (.one (.epo B e z 0)), [], [(d, .agg cs)], [], []⟩ :=
  Stp.pure rfl hN (rdo_of h) (by simp) fun g s' a w ht hl' r => by
    obtain ⟨gb, o, vs, b, h1, h2, h3, h4, h5⟩ : CellR g s'.l w (a.eval x) (.epo B e z 0) := eval_ok r (evs_of h) ht
    have hfr := hc.iff.1 h3
    subst hcs
    have hlen : vs.length = n := by rw [← hl]; exact hfr.length
    have hrun := run_load_agg (P := P) (T := T) hT (w := w) (a := ⟨gb, o + 0, none⟩) hlen (fun j v hj => by rw [addr_add]; exact h5 j v hj)
    exact ⟨_, by simp only [execOp, Instr.loadAt, h1, Instr.sureAddr, Sem.run_bind, Sem.run_pure, Result.andThen_ok, hrun], ⟨vs, rfl, hfr.all2o fun i hi => h4 i hi⟩⟩
end pload
/-! ### The entry of a law -/
def EndT (r : Nat) (s : St) : Prop := lk s.t r = some (.one (.c (.bool true)))
def EndQ (r : Nat) : Exit → St → Prop
  | .ret, s => EndT r s
  | _, _ => False
theorem AM_law {P : Program} {f : FuncId} {fn : Func} {c : Code} {N r : Nat} {args : List AVal} (hf : P.funcs[f]? = some fn) (hb : fn.body = some c) (hN : fn.ntmps = N) (hA : Nat.ble args.length N = true) (hr : fn.results = #[.tmp r])
    (w : World) (cargs : Array Value) (ha : All2 (VR1 (allI w) [] w) cargs.toList args) (h : ∀ B, AM P N B c (EndT r) (EndQ r) ⟨args0 args 0, []⟩) : Calls P f cargs w fun e w' => e = .returned (.bool true) ∧ Below w.heap.size w w' := by
  subst hN
  have R := entry_rep (N := fn.ntmps) (allI_mem w) ha (Nat.le_of_ble_eq_true hA)
  refine calls_of_wp hf hb (Go.wp_mono (h w.heap.size (allI w) _ w R ⟨Nat.le_refl _, fun b hb => hb, fun b ⟨k, blk, hk, _⟩ => by simp [lkl, lk] at hk⟩) ?_)
  rintro e a1 w1 ⟨g1, s1, R1, p1, b1, hR⟩
  have fin : EndT r s1 → a1.defers = [] ∧ ∃ v, (results fn a1.tmps).run P w1 = .ok v w1 ∧ Ending.returned v = .returned (.bool true) ∧ Below w.heap.size w w1 := fun ht => by
    have hv : a1.tmps.getD r undef = .bool true ∧ wfV (.bool true) := R1.tmp r _ ht
    exact ⟨R1.defers, _, results_tmp hr _ _ _, by rw [hv.1], b1⟩
  cases e with
  | normal => exact fin hR
  | ret => exact fin hR
  | exit id => exact hR.elim
  | goto l => exact hR.elim
  | panic ch => exact hR.elim
  | outgrown => exact hR.elim
end Go.Proofs.YtibhoanjglfaoaaGreat

/- The order of rows once more: the program's compare functions only lay blocks behind the heap. -/
namespace Go.Proofs.YtibhoanjglfaoaaGreat
open Go.RowKit
set_option linter.unusedVariables false

/-- Draws and new blocks, nothing else. -/
def Lay (w w' : World) : Prop := ∃ q os, w' = Go.Sort.grow (w.drewN q) os
theorem Lay.refl (w : World) : Lay w w := ⟨0, #[], by rw [Go.Sort.grow_empty]; rfl⟩
theorem Lay.trans {a b c : World} (h : Lay a b) (k : Lay b c) : Lay a c := by
  obtain ⟨q, os, rfl⟩ := h
  obtain ⟨q', os', rfl⟩ := k
  refine ⟨q + q', os ++ os', ?_⟩
  have e : (Go.Sort.grow (a.drewN q) os).drewN q' = Go.Sort.grow (a.drewN (q + q')) os := by simp [Go.Sort.grow, World.drewN, Nat.add_assoc]
  rw [e, Go.Sort.grow_grow]
theorem Lay.alloc {a b : World} (h : Lay a b) (o : Obj) : Lay a (b.alloc o) := h.trans ⟨0, #[o], by rw [Go.Sort.alloc_eq_grow]; rfl⟩
theorem Lay.drewN {a b : World} (h : Lay a b) (n : Nat) : Lay a (b.drewN n) := h.trans ⟨n, #[], by rw [Go.Sort.grow_empty]⟩

set_option maxHeartbeats 400000 in
theorem byValue_lay (a b : Val) (w : World) (ha : valOk a = true) (hb : valOk b = true) :
    Calls Tryz.prog 125 #[.agg #[.int .i64 a.n, .string a.s], .agg #[.int .i64 b.n, .string b.s]] w fun e w' => e = .returned (.int .i64 (cmpVal a b)) ∧ Below w.heap.size w w' ∧ Lay w w' := by
  obtain ⟨a1, a2⟩ := valOk_range ha
  obtain ⟨b1, b2⟩ := valOk_range hb
  clear ha hb
  obtain ⟨an, sa⟩ := a
  obtain ⟨bn, sb⟩ := b
  dsimp only at *
  cases hqa : sa.toList.isEmpty <;> cases hqb : sb.toList.isEmpty
  all_goals
    have HR := Lib.hid (show cmpVal ⟨an, sa⟩ ⟨bn, sb⟩ = _ by simp only [cmpVal, hqa, hqb]; exact rfl)
    go_enter Tryz.func125, Tryz.ntmps125
    go_wp2_with (first | (go_at_call 156; refine (strCompare_any _ _ _).mono ?_; rintro e w' ⟨rfl, rfl⟩))
    go_ret
    refine ⟨ret_int ?_, ((Below.refl _ _).alloc (Nat.le_refl _) _).alloc (by simp) _, ((Lay.refl _).alloc _).alloc _⟩
    rw [HR.out]
    rfl

set_option maxHeartbeats 800000 in
theorem cmpFunc_lay (a : Option Addr) (n cap : Nat) (xs : List Val) (bs : List Nat) (b : Option Addr) (m cap' : Nat) (ys : List Val) (bs' : List Nat) (w : World) (h : SliceRep valE w a n cap xs bs) (h' : SliceRep valE w b m cap' ys bs')
    (hx : ∀ v ∈ xs, valOk v = true) (hy : ∀ v ∈ ys, valOk v = true) :
    Calls Tryz.prog 124 #[.slice a n cap, .slice b m cap', .func (.func 125) #[] #[]] w fun e w' => e = .returned (.int .i64 (cmpRow xs ys)) ∧ Below w.heap.size w w' ∧ Lay w w' := by
  have hmax := h.max
  have hmax' := h'.max
  obtain rfl := h.1
  obtain rfl := h'.1
  go_enter Tryz.func124, Tryz.ntmps124
  go_wp2
  go_loopw [13] (fun i W => ∃ k : Nat, k ≤ xs.length ∧ k ≤ ys.length ∧ i = .int .i64 k ∧ Hid (cmpRow xs ys = cmpRow (xs.drop k) (ys.drop k)) ∧ Held w [] W ∧ Lay w W) (fun i _ => xs.length - (intOf i).toNat)
  case atStart => exact ⟨0, Nat.zero_le _, Nat.zero_le _, rfl, rfl, Held.start w, Lay.refl w⟩
  case round =>
    obtain ⟨k, hk, hk', rfl, HC, H, HL⟩ := hrel
    by_cases hlt : k < xs.length
    · obtain ⟨g, off, rfl, c0, c1, hs, hn⟩ := (h.up H.below).val hlt
      by_cases hlt' : k < ys.length
      · obtain ⟨g', off', rfl, d0, d1, hs', hn'⟩ := (h'.up H.below).val hlt'
        have hvx := hx xs[k] (List.getElem_mem hlt)
        have hvy := hy ys[k] (List.getElem_mem hlt')
        have e0 := cell_alloc d0 (.cells #[.int .i64 xs[k].n, .string xs[k].s] 147)
        have e1 := cell_alloc d1 (.cells #[.int .i64 xs[k].n, .string xs[k].s] 147)
        have H1 := (H.alloc (.cells #[.int .i64 xs[k].n, .string xs[k].s] 147)).alloc (.cells #[.int .i64 ys[k].n, .string ys[k].s] 147)
        by_cases hz : cmpVal xs[k] ys[k] = 0
        · have hzb : (cmpVal xs[k] ys[k] != 0) = false := by simp [hz]
          have HC' : Hid (cmpRow xs ys = cmpRow (xs.drop (k + 1)) (ys.drop (k + 1))) := by
            have := HC.out
            rw [drop_cons hlt, drop_cons hlt', cmpRow, if_pos hz] at this
            exact this
          clear HC hz
          go_wp2_with fail
          refine (byValue_lay _ _ _ hvx hvy).mono ?_
          rintro e w1 ⟨rfl, hb1, hl1⟩
          have HL2 := ((HL.alloc (.cells #[.int .i64 xs[k].n, .string xs[k].s] 147)).alloc (.cells #[.int .i64 ys[k].n, .string ys[k].s] 147)).trans hl1
          have H2 := H1.up hb1
          clear H H1 hb1 c0 c1 d0 d1 e0 e1
          go_wp2_with fail
          go_roundw
          case rel => exact ⟨k + 1, by omega, by omega, by go_num, HC', H2, HL2⟩
          case measure => simp [intOf]; omega
        · have hzb : (cmpVal xs[k] ys[k] != 0) = true := by simp [hz]
          have HC' : Hid (cmpRow xs ys = cmpVal xs[k] ys[k]) := by
            have := HC.out
            rw [drop_cons hlt, drop_cons hlt', cmpRow, if_neg hz] at this
            exact this
          clear HC hz
          go_wp2_with fail
          refine (byValue_lay _ _ _ hvx hvy).mono ?_
          rintro e w1 ⟨rfl, hb1, hl1⟩
          have HL2 := ((HL.alloc (.cells #[.int .i64 xs[k].n, .string xs[k].s] 147)).alloc (.cells #[.int .i64 ys[k].n, .string ys[k].s] 147)).trans hl1
          have H2 := H1.up hb1
          clear H H1 hb1 c0 c1 d0 d1 e0 e1
          go_wp2_with fail
          go_ret
          exact ⟨ret_int HC'.out.symm, H2.below, HL2⟩
      · obtain rfl : k = ys.length := by omega
        have HC' : Hid (cmpRow xs ys = 1) := by
          have := HC.out
          rw [drop_cons hlt, List.drop_length, cmpRow] at this
          exact this
        have H1 := H.alloc (.cells #[.int .i64 xs[ys.length].n, .string xs[ys.length].s] 147)
        clear HC
        go_wp2_with fail
        go_ret
        exact ⟨ret_int HC'.out.symm, H1.below, HL.alloc _⟩
    · obtain rfl : k = xs.length := by omega
      by_cases hlt' : xs.length < ys.length
      · have HC' : Hid (cmpRow xs ys = -1) := by
          have := HC.out
          rw [drop_cons hlt', List.drop_length, cmpRow] at this
          exact this
        clear HC
        go_wp2_with fail
        go_ret
        exact ⟨ret_int HC'.out.symm, H.below, HL⟩
      · have HC' : Hid (cmpRow xs ys = 0) := by
          have := HC.out
          rw [show xs.length = ys.length by omega, List.drop_length, ← show xs.length = ys.length by omega, List.drop_length, cmpRow] at this
          exact this
        clear HC
        go_wp2_with fail
        go_ret
        exact ⟨ret_int HC'.out.symm, H.below, HL⟩

set_option maxHeartbeats 400000 in
theorem byRow_lay (a : Option Addr) (n cap : Nat) (xs : List Val) (bs : List Nat) (b : Option Addr) (m cap' : Nat) (ys : List Val) (bs' : List Nat) (w : World) (h : SliceRep valE w a n cap xs bs) (h' : SliceRep valE w b m cap' ys bs')
    (hx : ∀ v ∈ xs, valOk v = true) (hy : ∀ v ∈ ys, valOk v = true) :
    Calls Tryz.prog 82 #[.agg #[.slice a n cap], .agg #[.slice b m cap']] w fun e w' => e = .returned (.int .i64 (cmpRow xs ys)) ∧ Below w.heap.size w w' ∧ Lay w w' := by
  have H0 := ((Held.start w).box_ #[.slice a n cap] 72).box_ #[.slice b m cap'] 72
  go_enter Tryz.func82, Tryz.ntmps82
  go_wp2_with fail
  refine (cmpFunc_lay _ _ _ xs _ _ _ _ ys _ _ (h.up H0.below) (h'.up H0.below) hx hy).mono ?_
  rintro e w1 ⟨rfl, hb1, hl1⟩
  go_wp2_with fail
  go_ret
  exact ⟨rfl, (H0.up hb1).below, (((Lay.refl w).alloc _).alloc _).trans hl1⟩
end Go.Proofs.YtibhoanjglfaoaaGreat

/- A contract that takes arrays and leaves others, under other numbers. -/
namespace Go.Proofs.YtibhoanjglfaoaaGreat
open Go.RowKit
set_option linter.unusedVariables false

theorem all2_unren {r : Nat → Nat} {l L : Locs} {g : Gh} {w : World} (hL : LeL r l L) : ∀ {vs : List Value} {xs : List AVal}, All2 (VR1 g l w) vs (xs.map (AVal.ren1 r)) → All2 (VR1 (g.ren r) L w) vs xs
  | [], [], _ => trivial
  | v :: vs, x :: xs, h => ⟨VR1.unren hL h.1, all2_unren hL h.2⟩
  | [], _ :: _, h => by cases h
  | _ :: _, [], h => by cases h
/-- A contract that takes the blocks L: what becomes of them is not told. -/
structure AT (P : Program) (f : FuncId) (args : List AVal) (L : Locs) (res : AVal) (L' : Locs) : Prop where
  fn : Callable P f
  run : ∀ (g : Gh) (w : World) (cargs : Array Value), MemR g L w → All2 (VR1 g L w) cargs.toList args →
    Calls P f cargs w fun e w' => ∃ v g', e = .returned v ∧ MemR g' L' w' ∧ VR g' L' w' v res ∧ Step [] g L w g' L' w'
section body
variable {P : Program} {N : Nat} {f : FuncId} {fn : Func} {c : Code} {args : List AVal} {L L' : Locs}
theorem AT_of {res : AVal} {T : Tmps} (hf : P.funcs[f]? = some fn) (hb : fn.body = some c) (hn : (fn.name == "runtime.NumGoroutine") = false) (hN : fn.ntmps = N) (hA : Nat.ble args.length N = true)
    (hr : ∀ (g : Gh) (a : Act) (w : World), Rep N g ⟨T, L'⟩ a w → ∃ v, (results fn a.tmps).run P w = .ok v w ∧ VR g L' w v res)
    (h : AW P N [] c (RetS [] T L') (RetQ [] T L') ⟨args0 args 0, L⟩) : AT P f args L res L' := by
  refine ⟨⟨fn, c, hf, hb, hn⟩, fun g w cargs m ha => ?_⟩
  subst hN
  have R := entry_rep m ha (Nat.le_of_ble_eq_true hA)
  refine calls_of_wp hf hb (Go.wp_mono (h g _ w R) ?_)
  rintro e a1 w1 ⟨g1, s1, R1, hs, hR⟩
  have fin : RetS [] T L' s1 → a1.defers = [] ∧ ∃ v, (results fn a1.tmps).run P w1 = .ok v w1 ∧ ∃ v' g', Ending.returned v = .returned v' ∧ MemR g' L' w1 ∧ VR g' L' w1 v' res ∧ Step [] g L w g' L' w1 := by
    rintro ⟨r, hle⟩
    have R2 := R1.le hle
    obtain ⟨v, h1, h2⟩ := hr _ a1 w1 R2
    exact ⟨R1.defers, v, h1, v, _, rfl, R2.mem, h2, hs.trans m R1.mem (Step.unren hle.l hle.k)⟩
  cases e with
  | normal => exact fin hR
  | ret => exact fin hR
  | exit id => exact hR
  | goto l => exact hR
  | panic ch => exact hR.elim
  | outgrown => exact hR.elim
theorem AT_body1 {r : Nat} {x : AVal} (hf : P.funcs[f]? = some fn) (hb : fn.body = some c) (hn : (fn.name == "runtime.NumGoroutine") = false) (hN : fn.ntmps = N) (hA : Nat.ble args.length N = true) (hr : fn.results = #[.tmp r])
    (h : AW P N [] c (RetS [] [(r, x)] L') (RetQ [] [(r, x)] L') ⟨args0 args 0, L⟩) : AT P f args L x L' :=
  AT_of hf hb hn hN hA (fun g a w R => ⟨_, results_tmp hr _ _ _, R.tmp r x lk_cons_self⟩) h
end body
/-- The lent blocks l are all gone behind the call. -/
theorem AT.lend {P : Program} {f : FuncId} {args : List AVal} {L L' l l' : Locs} {res' : AVal} (r s : Nat → Nat) (h : AT P f args L (res'.ren s) L') (hL : LeL r l L) (hi : injL r (keys L) = true) (hL' : LeL s L' l') (hi' : injL s (keys l') = true)
    (hg : ∀ k ∈ keys l, lk l' k = some none) (hb : ∀ k cs, lkl l k ≠ some (.box cs)) : AC P f (args.map (AVal.ren1 r)) l res' l' :=
  ⟨h.fn, fun g w cargs m ha => (h.run (g.ren r) w cargs (m.unren hL hi) (all2_unren hL ha)).mono (by
    rintro e w' ⟨v, g1, rfl, m1, hv, hs⟩
    have m0 := m.unren hL hi
    have A : Step [] g l w (g.ren r) L w := Step.unren hL trivial
    have B : Step [] (g.ren r) L w g1 L' w' := hs
    have C : Step [] g1 L' w' (g1.ren s) l' w' := Step.unren hL' trivial
    have T := (A.trans m m0 B).trans m m1 C
    refine ⟨v, g1.ren s, rfl, m1.unren hL' hi', VR.unren hL' hv, { T with base := fun k hk hn => ?_ }⟩
    have h1 := hg k hk
    have h2 : lkl l' k = none := by unfold lkl; rw [h1]
    exact ⟨by rw [h1]; simp, okK.gone h2, fun cs hc => absurd hc (hb k cs)⟩)⟩
/-- One array is taken, one is left. -/
theorem AT.lend1 {P : Program} {f : FuncId} {rest : List AVal} {α β : Type} {T U : TypeId} {e : Enc α} {e' : Enc β} {xs : List α} {ys : List β} {d d' : Bool}
    (h : AT P f (.one (.own 0) :: rest) [(0, some (.arr T e xs d))] (.one (.own 1)) [(1, some (.arr U e' ys d'))]) (a c : Nat) (hac : Nat.beq a c = false) (hrest : ∀ r, rest.map (AVal.ren1 r) = rest) :
    AC P f (.one (.own a) :: rest) [(a, some (.arr T e xs d))] (.one (.own c)) [(a, none), (c, some (.arr U e' ys d'))] := by
  have hne : a ≠ c := fun h => by rw [h, Nat.beq_refl] at hac; cases hac
  have hs : (fun k => bif Nat.beq k a then 0 else 1) c = 1 := by
    show (bif Nat.beq c a then 0 else 1) = 1
    have : Nat.beq c a = false := by
      cases e : Nat.beq c a
      · rfl
      · exact absurd (Nat.eq_of_beq_eq_true e).symm hne
    rw [this]; rfl
  have := AT.lend (res' := .one (.own c)) (l := [(a, some (.arr T e xs d))]) (l' := [(a, none), (c, some (.arr U e' ys d'))]) (fun _ => a) (fun k => bif Nat.beq k a then 0 else 1) (L := [(0, some (.arr T e xs d))]) (L' := [(1, some (.arr U e' ys d'))])
    (by show AT P f _ _ (.one (.own _)) _; rw [hs]; exact h) ⟨⟨.arr T e xs d, by simp [lkl, lk], (BLe.rf : BLe (.arr T e xs d) (.arr T e xs d))⟩, trivial⟩ (by simp [injL, keys]) ⟨⟨_, by rw [hs]; rfl, BLe.rf⟩, trivial⟩ (by
      have h2 : Nat.beq c a = false := by
        cases e : Nat.beq c a
        · rfl
        · exact absurd (Nat.eq_of_beq_eq_true e).symm hne
      simp [injL, keys, h2]
      rfl) (fun k hk => by simp [keys] at hk; subst hk; simp [lk]) (fun k cs hc => by
        cases hq : Nat.beq a k <;> simp [lkl, lk, hq] at hc)
  rw [List.map_cons, hrest] at this
  exact this
end Go.Proofs.YtibhoanjglfaoaaGreat

/- Loads from the elements of an own array, in the abstract walk. -/
namespace Go.Proofs.YtibhoanjglfaoaaGreat
open Go.RowKit
set_option linter.unusedVariables false
section
variable {P : Program} {N d : Nat} {s : St} {ty : TypeId} {pos : String} {after : Array Edge} {gd : Option (Nat × Bool)}
theorem op_cells {α : Type} {e : Enc α} {f : α → List Cell} [hc : CellsOf e f] {g : Gh} {l : Locs} {w : World} (m : MemR g l w) {k i : Nat} {T : TypeId} {xs : List α} {dp : Bool} (hk : lkl l k = some (.arr T e xs dp)) (hi : i < xs.length) :
    ∃ cs : List Value, All2 (CellR g l w) cs (f xs[i]) ∧ ∀ j u, cs[j]? = some u → w.cell? ⟨g.ρ k, i * e.size + j, none⟩ = some u := by
  rcases m.arr k α T e xs dp hk with ⟨h1, _, _⟩ | ⟨cap, vs, bss, h1, h2, h3, h4, h5, h6, h7, h8, h9⟩
  · subst h1; simp at hi
  · have hi' : i < bss.length := by rw [h6.1]; exact hi
    obtain ⟨cs, q1, q2⟩ := h6.2 i xs[i] bss[i] (List.getElem?_eq_getElem hi) (List.getElem?_eq_getElem hi')
    exact ⟨cs, (hc.iff.1 q1).all2 (fun b hb => h7 b (List.mem_flatten.2 ⟨_, List.getElem_mem hi', hb⟩)), fun j u hu => by have := q2 j u hu; rwa [Nat.zero_add] at this⟩
theorem x_oload1 {α : Type} {e : Enc α} {f : α → List Cell} [hc : CellsOf e f] {T E k i off : Nat} {x : Operand} {xs : List α} {dp : Bool} {y : Cell} (hN : Nat.blt d N = true) (h : evo s.t x = some (.one (.optr k i off))) (hl : lkl s.l k = some (.arr E e xs dp)) (hT : kindT P T = some none) (hi : i < xs.length) (hy : nthC (f xs[i]) off = some y) :
    Stp P N ⟨some d, .load T x, ty, pos, after, gd⟩ s ⟨(d, .one y) :: s.t, s.l⟩ ⟨rdo x (.one (.optr k i off)), [(k, .arr E e xs dp)], [(d, .one y)], [], []⟩ :=
  Stp.pure rfl hN (rdo_of h) (by simpa using hl) fun g s' a w ht hl' r => by
    have hk : lkl s'.l k = some (.arr E e xs dp) := hl' (k, .arr E e xs dp) (by simp)
    have hv : a.eval x = .pointer (some ⟨g.ρ k, i * e.size + off, none⟩) := eval_ok r (evs_of h) ht _ _ _ _ _ hk
    obtain ⟨cs, h2, h3⟩ := op_cells r.mem hk hi
    obtain ⟨v, h4, h5⟩ := h2.get (nthC_get hy)
    exact ⟨v, by simp only [execOp, Instr.loadAt, hv, Instr.sureAddr, Sem.run_bind, Sem.run_pure, Result.andThen_ok, run_load_one hT (h3 off v h4)], h5⟩
theorem x_oloadN {α : Type} {e : Enc α} {f : α → List Cell} [hc : CellsOf e f] {T E k i off n : Nat} {x : Operand} {xs : List α} {dp : Bool} {cs1 ys : List Cell} (hN : Nat.blt d N = true) (h : evo s.t x = some (.one (.optr k i off))) (hl : lkl s.l k = some (.arr E e xs dp)) (hT : kindT P T = some (some n)) (hi : i < xs.length) (hd : drC off (f xs[i]) = some cs1) (hy : tkC n cs1 = some ys) :
    Stp P N ⟨some d, .load T x, ty, pos, after, gd⟩ s ⟨(d, .agg ys) :: s.t, s.l⟩ ⟨rdo x (.one (.optr k i off)), [(k, .arr E e xs dp)], [(d, .agg ys)], [], []⟩ :=
  Stp.pure rfl hN (rdo_of h) (by simpa using hl) fun g s' a w ht hl' r => by
    have hk : lkl s'.l k = some (.arr E e xs dp) := hl' (k, .arr E e xs dp) (by simp)
    have hv : a.eval x = .pointer (some ⟨g.ρ k, i * e.size + off, none⟩) := eval_ok r (evs_of h) ht _ _ _ _ _ hk
    obtain ⟨cs, h2, h3⟩ := op_cells r.mem hk hi
    have h4 := (h2.drop off).take n
    rw [← drC_eq hd, ← (tkC_eq hy).1] at h4
    have hrun := run_load_agg hT (w := w) (a := ⟨g.ρ k, i * e.size + off, none⟩) (vs := (cs.drop off).take n) (by rw [h4.len]; exact (tkC_eq hy).2) (fun j v hj => by
      rw [List.getElem?_take] at hj
      split at hj
      · rw [addr_add, Nat.add_assoc]; exact h3 _ v (by simpa using hj)
      · cases hj)
    exact ⟨_, by simp only [execOp, Instr.loadAt, hv, Instr.sureAddr, Sem.run_bind, Sem.run_pure, Result.andThen_ok, hrun], ⟨_, rfl, h4⟩⟩
end
end Go.Proofs.YtibhoanjglfaoaaGreat

/- Elements ars the cells that hold them: what a function that moves elements about does with an array of one's own, footprint and all. -/
namespace Go.Proofs.YtibhoanjglfaoaaGreat
open Go.RowKit
set_option linter.unusedVariables false

/-- A datum, the cells that hold it, and its footprint. -/
structure Raw (α : Type) where
  x : α
  vs : List Value
  b : List Nat
def rxC {α : Type} (e : Enc α) (r : Raw α) (n j : Nat) : List Cell := match n with | 0 => [] | n + 1 => .rx e r.x r.vs r.b j :: rxC e r n (j + 1)
theorem rxC_len {α : Type} {e : Enc α} {r : Raw α} : ∀ {n j : Nat}, (rxC e r n j).length = n
  | 0, _ => rfl
  | n + 1, j => by rw [rxC, List.length_cons, rxC_len]
theorem rxC_lt {α : Type} {e : Enc α} {w : World} {r : Raw α} : ∀ {n j : Nat} {cs : List Value} {b : List Nat}, FR w cs (rxC e r n j) b → ∀ i ∈ b, i < w.heap.size
  | 0, j, [], b, h, i, hi => by
    have : b = [] := h
    subst this; cases hi
  | 0, j, _ :: _, b, h, i, hi => h.elim
  | n + 1, j, [], b, h, i, hi => h.elim
  | n + 1, j, c :: cs, b, h, i, hi => by
    obtain ⟨b1, b2, rfl, ⟨_, h1, rfl⟩, h2⟩ := h
    rcases List.mem_append.1 hi with hi | hi
    · exact e.lt h1 i hi
    · exact rxC_lt h2 i hi
/-- Raw elements of e. -/
def rawE {α : Type} (e : Enc α) : Enc (Raw α) where
  size := e.size
  rep := fun w cs r b => FR w cs (rxC e r e.size 0) b
  len := fun h => by rw [FR.length h, rxC_len]
  keep := fun h hk hs => FR.keep h hk hs
  lt := fun h => rxC_lt h
instance {α : Type} (e : Enc α) : CellsOf (rawE e) (fun r => rxC e r e.size 0) := ⟨Iff.rfl⟩
/-- A raw element's footprint ars its cells say it: once for each cell. -/
def rep3 (n : Nat) (b : List Nat) : List Nat := match n with | 0 => [] | n + 1 => b ++ rep3 n b
theorem rep3_mem {n : Nat} {b : List Nat} {i : Nat} : i ∈ rep3 n b → i ∈ b := by
  induction n with
  | zero => intro h; cases h
  | succ n ih => intro h; rcases List.mem_append.1 h with h | h; exact h; exact ih h
theorem FR.toRx {α : Type} {e : Enc α} {w : World} {r : Raw α} (hr : e.rep w r.vs r.x r.b) (h1 : ∀ u ∈ r.vs, u.oneCell' = true) : ∀ {n j : Nat}, n + j = r.vs.length → FR w (r.vs.drop j) (rxC e r n j) (rep3 n r.b)
  | 0, j, h => by rw [List.drop_eq_nil_of_le (by omega)]; exact rfl
  | n + 1, j, h => by
    rw [List.drop_eq_getElem_cons (by omega)]
    exact ⟨_, _, rfl, ⟨⟨List.getElem?_eq_getElem (by omega), h1 _ (List.getElem_mem _)⟩, hr, rfl⟩, FR.toRx hr h1 (by omega)⟩
theorem FR.ofRx {α : Type} {e : Enc α} {w : World} {r : Raw α} : ∀ {n j : Nat} {cs : List Value} {b : List Nat}, FR w cs (rxC e r n j) b → ∀ i u, cs[i]? = some u → r.vs[j + i]? = some u
  | 0, j, [], b, h, i, u, hu => by simp at hu
  | 0, j, _ :: _, b, h, i, u, hu => h.elim
  | n + 1, j, [], b, h, i, u, hu => h.elim
  | n + 1, j, c :: cs, b, h, i, u, hu => by
    obtain ⟨b1, b2, rfl, ⟨h0, h1, rfl⟩, h2⟩ := h
    cases i with
    | zero => simp at hu; subst hu; exact h0.1
    | succ i =>
      have := FR.ofRx h2 i u (by simpa using hu)
      rwa [show j + 1 + i = j + (i + 1) by omega] at this
theorem rx_rep {α : Type} {e : Enc α} (h0 : 0 < e.size) {w : World} {r : Raw α} {cs : List Value} {b : List Nat} (h : FR w cs (rxC e r e.size 0) b) : cs = r.vs ∧ e.rep w r.vs r.x r.b := by
  have hl := FR.length h
  rw [rxC_len] at hl
  have hrep : e.rep w r.vs r.x r.b := by
    obtain ⟨n, hn⟩ : ∃ n, e.size = n + 1 := ⟨e.size - 1, by omega⟩
    rw [hn] at h
    cases cs with
    | nil => exact h.elim
    | cons c cs =>
      obtain ⟨_, _, _, ⟨_, h1, _⟩, _⟩ := h
      exact h1
  refine ⟨List.ext_getElem? fun i => ?_, hrep⟩
  by_cases hi : i < cs.length
  · rw [List.getElem?_eq_getElem hi]
    have := FR.ofRx h i _ (List.getElem?_eq_getElem hi)
    rw [Nat.zero_add] at this
    exact this.symm
  · rw [List.getElem?_eq_none (by omega), List.getElem?_eq_none (by rw [e.len hrep]; omega)]
def feet {α : Type} (zs : List (Raw α)) : List Nat := (zs.map Raw.b).flatten
/-- An array's cells ars raw elements. -/
theorem raw_of {α : Type} {e : Enc α} {f : α → List Cell} [hc : CellsOf e f] {w : World} : ∀ {xs : List α} {cells : List Value} {bs : List Nat}, FR w cells (xs.flatMap f) bs →
    ∃ zs : List (Raw α), zs.map Raw.x = xs ∧ feet zs = bs ∧ ∃ b3, FR w cells (zs.flatMap fun r => rxC e r e.size 0) b3 ∧ ∀ i ∈ b3, i ∈ bs
  | [], [], bs, h => ⟨[], rfl, (show bs = [] from h).symm, [], rfl, fun i hi => by cases hi⟩
  | [], _ :: _, bs, h => h.elim
  | x :: xs, cells, bs, h => by
    rw [List.flatMap_cons] at h
    obtain ⟨v1, v2, b1, b2, rfl, rfl, h1, h2⟩ := FR.app.1 h
    obtain ⟨zs, q1, q2, b3, q3, q4⟩ := raw_of (e := e) h2
    have hr := hc.iff.2 h1
    refine ⟨⟨x, v1, b1⟩ :: zs, by rw [List.map_cons, q1], by unfold feet at *; rw [List.map_cons, List.flatten_cons, q2], rep3 e.size b1 ++ b3, ?_, fun i hi => ?_⟩
    · rw [List.flatMap_cons]
      refine FR.app.2 ⟨v1, v2, _, b3, rfl, rfl, ?_, q3⟩
      have := FR.toRx (r := ⟨x, v1, b1⟩) hr (FR.one h1) (n := e.size) (j := 0) (by simp [e.len hr])
      rwa [List.drop_zero] at this
    · rcases List.mem_append.1 hi with hi | hi
      · exact List.mem_append_left _ (rep3_mem hi)
      · exact List.mem_append_right _ (q4 i hi)
/-- .. and back. -/
theorem raw_to {α : Type} {e : Enc α} {f : α → List Cell} [hc : CellsOf e f] (h0 : 0 < e.size) {w : World} : ∀ {zs : List (Raw α)} {cells : List Value} {b3 : List Nat}, FR w cells (zs.flatMap fun r => rxC e r e.size 0) b3 → FR w cells ((zs.map Raw.x).flatMap f) (feet zs)
  | [], [], b3, h => rfl
  | [], _ :: _, b3, h => h.elim
  | r :: zs, cells, b3, h => by
    rw [List.flatMap_cons] at h
    obtain ⟨v1, v2, b1, b2, rfl, rfl, h1, h2⟩ := FR.app.1 h
    obtain ⟨rfl, hr⟩ := rx_rep h0 h1
    rw [List.map_cons, List.flatMap_cons]
    exact FR.app.2 ⟨_, _, r.b, feet zs, rfl, by simp [feet], hc.iff.1 hr, raw_to h0 h2⟩
theorem CLe.rx {α : Type} {e : Enc α} {f : α → List Cell} [hc : CellsOf e f] {x : α} {vs : List Value} {b : List Nat} {j : Nat} {y : Cell} (h : nthC (f x) j = some y) : CLe (.rx e x vs b j) y := fun g l w v h1 => by
  obtain ⟨v', h2, h3⟩ := ((hc.iff.1 h1.2.1).all2 h1.2.2).get (nthC_get h)
  have h4 := h1.1.1
  rw [h4] at h2; cases h2
  exact h3
theorem feet_sub {α : Type} {zs ys : List (Raw α)} (h : zs.Sublist ys) : (feet zs).Sublist (feet ys) := by
  unfold feet
  induction h with
  | slnil => exact List.Sublist.slnil
  | cons a h ih => rw [List.map_cons, List.flatten_cons]; exact ih.trans (List.sublist_append_right _ _)
  | cons_cons a h ih => rw [List.map_cons, List.map_cons, List.flatten_cons, List.flatten_cons]; exact (List.Sublist.refl _).append ih
theorem feet_perm {α : Type} {zs ys : List (Raw α)} (h : zs.Perm ys) : (feet zs).Perm (feet ys) := by
  unfold feet
  exact (h.map Raw.b).flatten
/-- What moves raw elements about moves the elements with all that is theirs. -/
theorem AT.raw {P : Program} {fid : FuncId} {rest : List AVal} {α : Type} {e : Enc α} {f : α → List Cell} [hc : CellsOf e f] (h0 : 0 < e.size) {E : TypeId} {xs ys : List α} (hfn : Callable P fid)
    (h : ∀ zs : List (Raw α), zs.map Raw.x = xs → ∃ us : List (Raw α), us.map Raw.x = ys ∧ ((feet zs).Nodup → (feet us).Nodup) ∧ (∀ b ∈ feet us, b ∈ feet zs) ∧
      AT P fid (.one (.own 0) :: rest) [(0, some (.arr E (rawE e) zs false))] (.one (.own 1)) [(1, some (.arr E (rawE e) us false))]) (hrest : rest.flatMap AVal.ids1 = []) :
    AT P fid (.one (.own 0) :: rest) [(0, some (.arr E e xs true))] (.one (.own 1)) [(1, some (.arr E e ys true))] := by
  refine ⟨hfn, fun g w cargs m ha => ?_⟩
  have hk : lkl [(0, some (Blk.arr E e xs true))] 0 = some (.arr E e xs true) := rfl
  have hA0 := m.arr 0 _ _ _ _ _ hk
  obtain ⟨cells, bs, r1, f1, i1, F1, ob1⟩ := hA0.row
  obtain ⟨zs, q1, q2, b3, q3, q4⟩ := raw_of (e := e) f1
  obtain ⟨us, u1, u2, u3, hus⟩ := h zs q1
  have hF : g.F 0 = feet zs := by rw [F1 rfl, q2]
  have hlen : zs.length = xs.length := by rw [← q1, List.length_map]
  have m1 : MemR g [(0, some (.arr E (rawE e) zs false))] w := by
    have hlk : ∀ k b, lkl [(0, some (Blk.arr E (rawE e) zs false))] k = some b → k = 0 ∧ b = .arr E (rawE e) zs false := fun k b hb => by
      by_cases hk0 : k = 0
      · subst hk0; exact ⟨rfl, by cases hb; rfl⟩
      · rw [lkl_cons_ne (Ne.symm hk0)] at hb; cases hb
    refine ⟨m.ilt, fun k cs hb => ?_, fun k β T e2 ys2 d hb => ?_, fun j k b b' hjk hj hk' => ?_, fun k β T e2 ys2 hb => ?_, fun j k β γ T U e2 e3 ys2 zs2 hjk hj hk' => ?_⟩
    · have := (hlk _ _ hb).2; cases this
    · obtain ⟨rfl, h2⟩ := hlk _ _ hb
      cases h2
      refine ArrR.ofRow (e := rawE e) (f := fun r => rxC e r e.size 0) (cells := cells) (bs := b3) (by rw [hlen]; exact r1) q3 (fun b hb => i1 b (q4 b hb)) (fun h => by cases h) fun b hb => ?_
      refine ⟨ob1 b hb, ?_⟩
      rw [ob1 b hb]
      exact m.notI hk (fun e0 => by rw [e0] at hb; cases hb)
    · obtain ⟨rfl, _⟩ := hlk _ _ hj
      obtain ⟨rfl, _⟩ := hlk _ _ hk'
      exact absurd rfl hjk
    · have := (hlk _ _ hb).2; cases this
    · have := (hlk _ _ hj).2; cases this
  have ha1 : All2 (VR1 g [(0, some (.arr E (rawE e) zs false))] w) cargs.toList (.one (.own 0) :: rest) := by
    generalize cargs.toList = vs at ha
    cases vs with
    | nil => exact ha
    | cons v vs =>
      have hv : v = g.hd 0 := ha.1 _ _ _ _ _ hk
      refine ⟨fun β U e2 ys dd hcx => hv, ha.2.mono fun a b hb hr => VR1.step (fun _ _ => rfl) (fun _ h => h) (Nat.le_refl _) (fun k hk => ?_) hr⟩
      have : k ∈ rest.flatMap AVal.ids1 := List.mem_flatMap.2 ⟨b, hb, hk⟩
      rw [hrest] at this; cases this
  refine (hus.run g w cargs m1 ha1).mono ?_
  rintro r w' ⟨v, g1, rfl, m2, hv, hs⟩
  have hk2 : lkl [(1, some (Blk.arr E (rawE e) us false))] 1 = some (.arr E (rawE e) us false) := rfl
  obtain ⟨cells', b4, t1, t2, t3, _, t5⟩ := (m2.arr 1 _ _ _ _ _ hk2).row
  have t6 := raw_to (f := f) h0 t2
  rw [u1] at t6
  have hul : us.length = ys.length := by rw [← u1, List.length_map]
  obtain ⟨n1, n2⟩ := m.fr 0 _ _ _ _ hk
  rw [hF] at n1 n2
  have hin : ∀ b ∈ feet us, g.I b ∧ g1.I b ∧ ∃ c t, w'.heap[b]? = some (.cells c t (0, 0)) := fun b hb => by
    obtain ⟨p1, c, t, p2⟩ := n2 b (u3 b hb)
    exact ⟨p1, hs.imm b p1, c, t, by rw [m1.imm_keep hs p1]; exact p2⟩
  let g2 : Gh := ⟨g1.I, g1.ρ, g1.hd, fun _ => feet us⟩
  have hlk : ∀ k b, lkl [(1, some (Blk.arr E e ys true))] k = some b → k = 1 ∧ b = .arr E e ys true := fun k b hb => by
    by_cases hk0 : k = 1
    · subst hk0; exact ⟨rfl, by cases hb; rfl⟩
    · rw [lkl_cons_ne (Ne.symm hk0)] at hb; cases hb
  have m3 : MemR g2 [(1, some (.arr E e ys true))] w' := by
    refine ⟨m2.ilt, fun k cs hb => ?_, fun k β T e2 ys2 d hb => ?_, fun j k b b' hjk hj hk' => ?_, fun k β T e2 ys2 hb => ?_, fun j k β γ T U e2 e3 ys2 zs2 hjk hj hk' => ?_⟩
    · have := (hlk _ _ hb).2; cases this
    · obtain ⟨rfl, h2⟩ := hlk _ _ hb
      cases h2
      refine ArrR.ofRow (g := g2) (e := e) (f := f) (cells := cells') (bs := feet us) (by rw [← hul]; exact t1) t6 (fun b hb => (hin b hb).2.1) (fun _ => rfl) fun b hb => ?_
      refine ⟨t5 b hb, ?_⟩
      show ¬ g1.I b
      rw [t5 b hb]
      exact m2.notI hk2 (fun e0 => by
        have hb' : (g1.hd 1).ownBlock = some b := hb
        rw [e0] at hb'; cases hb')
    · obtain ⟨rfl, _⟩ := hlk _ _ hj
      obtain ⟨rfl, _⟩ := hlk _ _ hk'
      exact absurd rfl hjk
    · exact ⟨u2 n1, fun b hb => (hin b hb).2⟩
    · obtain ⟨rfl, _⟩ := hlk _ _ hj
      obtain ⟨rfl, _⟩ := hlk _ _ hk'
      exact absurd rfl hjk
  have hown : ∀ b, OwnB g [(0, some (.arr E (rawE e) zs false))] b → OwnB g [(0, some (.arr E e xs true))] b := fun b hb => by
    obtain ⟨k, blk, h1, h2⟩ := hb
    by_cases hk0 : k = 0
    · subst hk0
      cases h1
      rcases h2 with ⟨h2, h3⟩ | ⟨_, _, _, _, h2, _⟩
      · exact ⟨0, _, rfl, .inl ⟨h2, h3⟩⟩
      · cases h2
    · rw [lkl_cons_ne (Ne.symm hk0)] at h1; cases h1
  refine ⟨v, g2, rfl, m3, fun β U e2 ys2 dd hcx => ?_, ⟨hs.os, hs.tape, hs.output, hs.size, fun b hb hn => hs.keep b hb fun k blk h1 h2 => ?_, hs.imm, fun b hb => ?_, fun b hb => ?_, fun k hk => by cases hk⟩⟩
  · show v = g1.hd 1
    exact hv _ _ _ _ _ hk2
  · by_cases hk0 : k = 0
    · subst hk0
      cases h1
      exact hn 0 _ rfl h2
    · rw [lkl_cons_ne (Ne.symm hk0)] at h1; cases h1
  · rcases hs.imm' b hb with h1 | h1 | h1
    · exact .inl h1
    · exact .inr (.inl h1)
    · exact .inr (.inr (hown b h1))
  · obtain ⟨k, blk, h1, h2⟩ := hb
    obtain ⟨rfl, rfl⟩ := hlk _ _ h1
    rcases h2 with ⟨h2, h3⟩ | ⟨β, T, e2, xs2, h2, h3⟩
    · rcases hs.own b ⟨1, _, rfl, .inl ⟨h2, h3⟩⟩ with h4 | h4
      · exact .inl (hown b h4)
      · exact .inr h4
    · left
      exact ⟨0, _, rfl, .inr ⟨_, _, _, _, rfl, by rw [hF]; exact u3 b h3⟩⟩
end Go.Proofs.YtibhoanjglfaoaaGreat

/- Contracts told of the cells of a row, ars contracts of arrays of one's own. -/
namespace Go.Proofs.YtibhoanjglfaoaaGreat
open Go.RowKit
set_option linter.unusedVariables false

section
variable {g : Gh} {l : Locs} {w w' : World}
end
/-! ### Elements of some cells, copied and cleared -/
theorem FR.flatLen {α : Type} {e : Enc α} {f : α → List Cell} [hc : CellsOf e f] {w : World} : ∀ {xs : List α} {vs : List Value} {b : List Nat}, FR w vs (xs.flatMap f) b → vs.length = xs.length * e.size
  | [], [], b, h => by simp
  | [], _ :: _, b, h => h.elim
  | x :: xs, vs, b, h => by
    rw [List.flatMap_cons] at h
    obtain ⟨v1, v2, b1, b2, rfl, rfl, h1, h2⟩ := FR.app.1 h
    have l1 := e.len (hc.iff.2 h1)
    have l2 := FR.flatLen (e := e) h2
    rw [List.length_append, l1, l2, List.length_cons, Nat.add_mul]; omega
theorem FR.parts {α : Type} {e : Enc α} {f : α → List Cell} [hc : CellsOf e f] {w : World} {xs : List α} {cells : List Value} {bs : List Nat} (h : FR w cells (xs.flatMap f) bs) {i : Nat} (hi : i ≤ xs.length) :
    ∃ b1 b3, bs = b1 ++ b3 ∧ FR w (cells.take (i * e.size)) ((xs.take i).flatMap f) b1 ∧ FR w (cells.drop (i * e.size)) ((xs.drop i).flatMap f) b3 := by
  have e0 : xs.flatMap f = (xs.take i).flatMap f ++ (xs.drop i).flatMap f := by rw [← List.flatMap_append, List.take_append_drop]
  rw [e0] at h
  obtain ⟨v1, v2, b1, b3, rfl, rfl, h1, h2⟩ := FR.app.1 h
  have l1 := FR.flatLen (e := e) h1
  rw [List.length_take, Nat.min_eq_left hi] at l1
  exact ⟨b1, b3, rfl, by rw [List.take_left' l1]; exact h1, by rw [List.drop_left' l1]; exact h2⟩
end Go.Proofs.YtibhoanjglfaoaaGreat

/- What a function does with the elements of one array in its place. -/
namespace Go.Proofs.YtibhoanjglfaoaaGreat
open Go.RowKit
set_option linter.unusedVariables false

theorem AC.inplace {P : Program} {fid : FuncId} {rest : List AVal} {α : Type} {e : Enc α} {f : α → List Cell} [hc : CellsOf e f] {E : TypeId} {xs ys : List α} {d : Bool} (hfn : Callable P fid)
    (h : ∀ (w : World) (v : Value) (vs cells : List Value) (bs : List Nat) (g : Gh), All2 (VR1 g [(0, some (Blk.arr E e xs d))] w) vs rest → w.ownsRow 0 E e.size v xs.length cells → FR w cells (xs.flatMap f) bs → (∀ u ∈ cells, u.oneCell' = true) → (∀ b ∈ bs, v.ownBlock ≠ some b) →
      Calls P fid (v :: vs).toArray w fun en w' => en = .returned (.tuple #[]) ∧ ∃ cells' bs', w'.ownsRow 0 E e.size v ys.length cells' ∧ w.grownBy w' v.ownBlock ∧ FR w cells' (ys.flatMap f) bs' ∧ bs'.Perm bs) :
    AC P fid (.one (.own 0) :: rest) [(0, some (.arr E e xs d))] (.tup []) [(0, some (.arr E e ys d))] := by
  refine ⟨hfn, fun g w cargs m ha => ?_⟩
  have hk : lkl [(0, some (Blk.arr E e xs d))] 0 = some (.arr E e xs d) := rfl
  obtain ⟨cells, bs, r1, f1, i1, F1, ob1⟩ := (m.arr 0 _ _ _ _ _ hk).row
  have : ∃ v vs, cargs = (v :: vs).toArray := by
    cases hc' : cargs.toList with
    | nil => rw [hc'] at ha; exact ha.elim
    | cons v vs => exact ⟨v, vs, by rw [← hc', Array.toArray_toList]⟩
  obtain ⟨v, vs, rfl⟩ := this
  have hv : v = g.hd 0 := ha.1 _ _ _ _ _ hk
  subst hv
  have hlive : ∀ b, (g.hd 0).ownBlock = some b → g.hd 0 ≠ .slice none 0 0 := fun b hb e0 => by rw [e0] at hb; cases hb
  have hnI : ∀ b, (g.hd 0).ownBlock = some b → ¬ g.I b := fun b hb => by rw [ob1 b hb]; exact m.notI hk (hlive b hb)
  refine (h w _ vs cells bs g ha.2 r1 f1 (FR.one f1) (fun b hb e0 => hnI b e0 (i1 b hb))).mono ?_
  rintro en w' ⟨rfl, cells', bs', t1, t2, t3, t4⟩
  have hkeepI : ∀ b, g.I b → w'.heap[b]? = w.heap[b]? := fun b hb => t2.block b (m.ilt b hb) fun e0 => hnI b e0.symm hb
  have hI' : ∀ b ∈ bs', g.I b := fun b hb => i1 b (t4.mem_iff.1 hb)
  have hFR := t3.keep (w' := w') (fun b hb => hkeepI b (hI' b hb)) t2.size
  let g2 : Gh := ⟨g.I, g.ρ, g.hd, fun _ => bs'⟩
  have hlk : ∀ k b, lkl [(0, some (Blk.arr E e ys d))] k = some b → k = 0 ∧ b = .arr E e ys d := fun k b hb => by
    by_cases hk0 : k = 0
    · subst hk0; exact ⟨rfl, by cases hb; rfl⟩
    · rw [lkl_cons_ne (Ne.symm hk0)] at hb; cases hb
  have m2 : MemR g2 [(0, some (.arr E e ys d))] w' := by
    refine ⟨fun b hb => Nat.lt_of_lt_of_le (m.ilt b hb) t2.size, fun k cs hb => ?_, fun k β T e2 ys2 d2 hb => ?_, fun j k b b' hjk hj hk' => ?_, fun k β T e2 ys2 hb => ?_, fun j k β γ T U e2 e3 ys2 zs2 hjk hj hk' => ?_⟩
    · have := (hlk _ _ hb).2; cases this
    · obtain ⟨rfl, h2⟩ := hlk _ _ hb
      cases h2
      exact ArrR.ofRow (g := g2) (e := e) (f := f) (cells := cells') (bs := bs') t1 hFR hI' (fun _ => rfl) fun b hb => ⟨ob1 b hb, hnI b hb⟩
    · obtain ⟨rfl, _⟩ := hlk _ _ hj
      obtain ⟨rfl, _⟩ := hlk _ _ hk'
      exact absurd rfl hjk
    · obtain ⟨rfl, h2⟩ := hlk _ _ hb
      cases h2
      obtain ⟨n1, n2⟩ := m.fr 0 _ _ _ _ hk
      rw [F1 rfl] at n1 n2
      refine ⟨t4.nodup_iff.2 n1, fun b hb => ?_⟩
      obtain ⟨p1, c, t, p2⟩ := n2 b (t4.mem_iff.1 hb)
      exact ⟨p1, c, t, by rw [hkeepI b p1]; exact p2⟩
    · obtain ⟨rfl, _⟩ := hlk _ _ hj
      obtain ⟨rfl, _⟩ := hlk _ _ hk'
      exact absurd rfl hjk
  refine ⟨_, g2, rfl, m2, ⟨[], rfl, trivial⟩, ⟨t2.os, t2.tape, t2.output, t2.size, fun b hb hn => t2.block b hb fun e0 => hn 0 _ hk (hlive b e0.symm) (ob1 b e0.symm), fun _ h => h, fun _ h => .inl h, fun b hb => ?_, fun k hk' _ => ?_⟩⟩
  · obtain ⟨k, blk, h1, h2⟩ := hb
    obtain ⟨rfl, rfl⟩ := hlk _ _ h1
    left
    rcases h2 with ⟨h2, h3⟩ | ⟨β, T, e2, xs2, h2, h3⟩
    · exact ⟨0, _, hk, .inl ⟨h2, h3⟩⟩
    · cases h2
      exact ⟨0, _, hk, .inr ⟨_, _, _, _, rfl, by rw [F1 rfl]; exact t4.mem_iff.1 h3⟩⟩
  · simp [keys] at hk'
    subst hk'
    refine ⟨by simp [lk], ⟨fun cs' h => (by have := (hlk _ _ h).2; cases this), fun β T e2 xs2 d2 h => ?_⟩, fun cs h => (by rw [hk] at h; cases h)⟩
    obtain ⟨_, h2⟩ := hlk _ _ h
    cases h2
    exact ⟨_, _, _, _, _, hk, rfl, rfl, rfl⟩
end Go.Proofs.YtibhoanjglfaoaaGreat

/- Plain laws on relations that are copied, marked, counted. -/
namespace Go.Proofs.YtibhoanjglfaoaaGreat
open Go.RowKit
set_option linter.unusedVariables false

theorem totL_len {α : Type} {c : α → Nat} {xs : List α} {M : Nat} (h : totL c xs ≤ M) : xs.length ≤ M := by unfold totL at h; omega
theorem totL_mem {α : Type} {c : α → Nat} {xs : List α} {M : Nat} (h : totL c xs ≤ M) {x : α} (hx : x ∈ xs) : c x ≤ M := by
  have := cntL_mem (c := c) hx
  unfold totL at h; omega
theorem totRow_small {r : List Val} (h : totRow r ≤ 1048576) : smallRow r := ⟨totL_len h, fun v hv => totL_mem (c := totValue) h hv⟩
theorem totRel_small {r : Relt} (h : totRel r ≤ 1048576) : smallRel r := ⟨totL_len h, fun x hx => totRow_small (totL_mem (c := totRow) h hx)⟩
end Go.Proofs.YtibhoanjglfaoaaGreat

/- RelPick, RelDrop in plain words. -/
namespace Go.Proofs.YtibhoanjglfaoaaGreat
open Go.RowKit
set_option linter.unusedVariables false

theorem relOk_parts {r : Relt} (h : relOk r = true) : GoodTo r.rows r.arity r.rows.length ∧ 0 ≤ r.arity ∧ r.arity ≤ 6 ∧ r.rows.length ≤ 300 := by
  simp only [relOk, Bool.and_eq_true, decide_eq_true_eq] at h
  exact ⟨relRows_good h.1, h.2.1.1, h.2.1.2, h.2.2⟩
theorem GoodTo.len {rows : List (List Val)} {ar : Int} {k j : Nat} (h : GoodTo rows ar k) (hj : j < rows.length) (hjk : j < k) : (rows[j].length : Int) = ar := by
  have := h j hj hjk
  cases j with
  | zero => simp only [rowAt, Bool.and_eq_true, beq_iff_eq] at this; exact this.2
  | succ j => simp only [rowAt, Bool.and_eq_true, beq_iff_eq] at this; exact this.1.2
end Go.Proofs.YtibhoanjglfaoaaGreat

/- A row put into a relation, or taken out, in plain words. -/
namespace Go.Proofs.YtibhoanjglfaoaaGreat
open Go.RowKit
set_option linter.unusedVariables false
set_option linter.unusedSimpArgs false

theorem cmpRow_neg : ∀ a b : List Val, cmpRow a b = - cmpRow b a
  | [], [] => rfl
  | [], _ :: _ => rfl
  | _ :: _, [] => rfl
  | x :: xs, y :: ys => by
    have h1 := cmpVal_neg x y
    have h2 := cmpRow_neg xs ys
    unfold cmpRow
    by_cases h : cmpVal x y = 0
    · have h' : cmpVal y x = 0 := by omega
      rw [if_pos h, if_pos h', h2]
    · have h' : ¬ cmpVal y x = 0 := by omega
      rw [if_neg h, if_neg h', h1]
theorem ord09_lt {a b : List Val} : ord09 a b = -1 ↔ cmpRow a b < 0 := by rw [ord09_eq]; omega
theorem orderS_c (a b : List Val) : AC Tryz.prog 78 [.agg (rowC a), .agg (rowC b)] [] (.one (.c (.int .i64 (ord09 a b)))) [] :=
  AC.pure ⟨_, _, Tryz.func78, rfl, rfl⟩ (WalkArith.wf_i64 (by have := ord09_range a b; omega)) fun w g cargs h => by
    obtain ⟨x, y, rfl, h1, h2⟩ := inv2 h
    obtain ⟨a1, n1, cap1, bs1, rfl, hs1⟩ := inv_row h1
    obtain ⟨a2, n2, cap2, bs2, rfl, hs2⟩ := inv_row h2
    exact l09Order_any a1 n1 cap1 a bs1 a2 n2 cap2 b bs2 w hs1 hs2
theorem pos_le (rows : List (List Val)) (row : List Val) : pos rows row ≤ rows.length := List.findIdx_le_length
theorem pos_lt {rows : List (List Val)} {row : List Val} {k : Nat} (hk : k < rows.length) (h : k < pos rows row) : cmpRow rows[k] row < 0 := by
  unfold pos at h
  have := List.not_of_lt_findIdx h
  simpa using this
theorem pos_ge {rows : List (List Val)} {row : List Val} (hs : Sorted rows) (hr : ∀ v ∈ row, valOk v = true) {k : Nat} (hk : k < rows.length) (h : pos rows row ≤ k) : ¬ cmpRow rows[k] row < 0 := by
  have hp : pos rows row < rows.length := by omega
  have h0 : ¬ cmpRow (rows[pos rows row]'hp) row < 0 := by
    have := List.findIdx_getElem (xs := rows) (p := fun r => !decide (cmpRow r row < 0)) (w := hp)
    have t : (!decide (cmpRow (rows[pos rows row]'hp) row < 0)) = true := this
    simpa using t
  intro hlt
  rcases Nat.lt_or_ge (pos rows row) k with h1 | h1
  · exact h0 (cmpRow_trans (hs.1 _ hp) (hs.1 k hk) hr (hs.2 _ k hp hk h1) hlt)
  · have : k = pos rows row := by omega
    subst this; exact h0 hlt
theorem no_pos {rows : List (List Val)} {row : List Val} (hs : Sorted rows) (hr : ∀ v ∈ row, valOk v = true) (h : hasRow rows row = false) {k : Nat} (hk : k < rows.length) (hpk : pos rows row ≤ k) : cmpRow row rows[k] < 0 := by
  have h1 := pos_ge hs hr hk hpk
  have h2 : cmpRow rows[k] row ≠ 0 := fun e => by
    have e2 := cmpRow_eq (hs.1 k hk) hr e
    rw [hasRow, decide_eq_false_iff_not] at h
    exact h (e2 ▸ List.getElem_mem hk)
  rw [cmpRow_neg]; omega
def insAt (rows : List (List Val)) (row : List Val) : List (List Val) := rows.take (pos rows row) ++ [row] ++ rows.drop (pos rows row)
def putRow (rows : List (List Val)) (row : List Val) : List (List Val) := if hasRow rows row = true then rows else insAt rows row
theorem putRow_has {rows : List (List Val)} {row : List Val} (h : hasRow rows row = true) : putRow rows row = rows := if_pos h
theorem putRow_no {rows : List (List Val)} {row : List Val} (h : hasRow rows row = false) : putRow rows row = insAt rows row := if_neg (by simp [h])
theorem insAt_len {rows : List (List Val)} {row : List Val} : (insAt rows row).length = rows.length + 1 := by
  have := pos_le rows row
  simp [insAt]; omega
/-- The first k rows, and the row at its place if that is among them. -/
def putTo (rows : List (List Val)) (row : List Val) (k : Nat) : List (List Val) := if pos rows row < k then rows.take (pos rows row) ++ [row] ++ (rows.take k).drop (pos rows row) else rows.take k
theorem putTo_zero {rows : List (List Val)} {row : List Val} : [] = putTo rows row 0 := by simp [putTo]
theorem putTo_len {rows : List (List Val)} {row : List Val} {k : Nat} (hk : k ≤ rows.length) : (putTo rows row k).length ≤ k + 1 := by
  unfold putTo; split <;> simp <;> omega
theorem putTo_before {rows : List (List Val)} {row : List Val} {k : Nat} (hk : k < rows.length) (h : k < pos rows row) : putTo rows row k ++ [rows[k]] = putTo rows row (k + 1) := by
  unfold putTo
  rw [if_neg (by omega), if_neg (by omega), List.take_succ_eq_append_getElem hk]
theorem putTo_here {rows : List (List Val)} {row : List Val} {k : Nat} (hk : k < rows.length) (h : k = pos rows row) : putTo rows row k ++ [row] ++ [rows[k]] = putTo rows row (k + 1) := by
  unfold putTo
  rw [if_neg (by omega), if_pos (by omega), ← h, List.take_succ_eq_append_getElem hk, List.drop_left' (by simp; omega)]
theorem putTo_behind {rows : List (List Val)} {row : List Val} {k : Nat} (hk : k < rows.length) (h : pos rows row < k) : putTo rows row k ++ [rows[k]] = putTo rows row (k + 1) := by
  unfold putTo
  rw [if_pos (by omega), if_pos (by omega), List.take_succ_eq_append_getElem hk, List.drop_append_of_le_length (by simp; omega)]
  simp only [List.append_assoc]
theorem putTo_done {rows : List (List Val)} {row : List Val} {k : Nat} (hk : rows.length ≤ k) (hk2 : k ≤ rows.length) (h : pos rows row < k) : putTo rows row k = insAt rows row := by
  unfold putTo insAt
  rw [if_pos h, List.take_of_length_le hk]
theorem putTo_end {rows : List (List Val)} {row : List Val} {k : Nat} (hk : rows.length ≤ k) (hk2 : k ≤ rows.length) (h : ¬ pos rows row < k) : putTo rows row k ++ [row] = insAt rows row := by
  have := pos_le rows row
  have e : pos rows row = rows.length := by omega
  unfold putTo insAt
  rw [if_neg h, e, List.take_of_length_le hk, List.take_length, List.drop_length, List.append_nil]
theorem putTo_lt {rows : List (List Val)} {row : List Val} {k : Nat} (hs : Sorted rows) (hr : ∀ v ∈ row, valOk v = true) (hn : hasRow rows row = false) (hk : k < rows.length) (hd : ¬ pos rows row < k) : (ord09 row rows[k] == -1) = decide (k = pos rows row) := by
  have h1 := ord09_lt (a := row) (b := rows[k])
  by_cases e : k = pos rows row
  · have := no_pos hs hr hn hk (by omega)
    rw [h1.2 this, decide_eq_true e]; rfl
  · have := pos_lt (row := row) hk (by omega)
    have h2 : ¬ cmpRow row rows[k] < 0 := by rw [cmpRow_neg]; omega
    have h3 : ¬ ord09 row rows[k] = -1 := fun q => h2 (h1.1 q)
    rw [decide_eq_false e]; simpa using h3
theorem insAt_sorted {rows : List (List Val)} {row : List Val} (hs : Sorted rows) (hr : ∀ v ∈ row, valOk v = true) (hn : hasRow rows row = false) : Sorted (insAt rows row) := by
  have hp := pos_le rows row
  have key : ∀ i (hi : i < (insAt rows row).length), (∃ h : i < pos rows row, (insAt rows row)[i] = rows[i]'(by omega)) ∨ (i = pos rows row ∧ (insAt rows row)[i] = row) ∨ ∃ h : pos rows row < i, (insAt rows row)[i] = rows[i - 1]'(by rw [insAt_len] at hi; omega) := fun i hi => by
    have hl := hi
    rw [insAt_len] at hl
    have q : (insAt rows row)[i]? = some ((insAt rows row)[i]) := List.getElem?_eq_getElem hi
    have l1 : (rows.take (pos rows row)).length = pos rows row := by simp; omega
    rcases Nat.lt_trichotomy i (pos rows row) with h | h | h
    · left; refine ⟨h, ?_⟩
      have e : (insAt rows row)[i]? = rows[i]? := by
        unfold insAt
        rw [List.append_assoc, List.getElem?_append_left (by rw [l1]; exact h), List.getElem?_take, if_pos h]
      rw [q, List.getElem?_eq_getElem (by omega)] at e
      exact Option.some.inj e
    · right; left; refine ⟨h, ?_⟩
      have e : (insAt rows row)[i]? = some row := by
        unfold insAt
        rw [List.append_assoc, List.getElem?_append_right (by rw [l1]; omega), l1, show i - pos rows row = 0 by omega]; rfl
      rw [q] at e
      exact Option.some.inj e
    · right; right; refine ⟨h, ?_⟩
      have e : (insAt rows row)[i]? = rows[i - 1]? := by
        unfold insAt
        rw [List.getElem?_append_right (by rw [List.length_append, l1]; simp; omega), List.length_append, l1, List.getElem?_drop]
        congr 1
        simp; omega
      rw [q, List.getElem?_eq_getElem (by omega)] at e
      exact Option.some.inj e
  have hlen := insAt_len (rows := rows) (row := row)
  refine ⟨fun j hj v hv => ?_, fun i j hi hj hij => ?_⟩
  · rcases key j hj with ⟨h, e⟩ | ⟨h, e⟩ | ⟨h, e⟩
    · rw [e] at hv; exact hs.1 j (by omega) v hv
    · rw [e] at hv; exact hr v hv
    · rw [e] at hv; exact hs.1 (j - 1) (by omega) v hv
  · rcases key i hi with ⟨h, e⟩ | ⟨h, e⟩ | ⟨h, e⟩ <;> rcases key j hj with ⟨h', e'⟩ | ⟨h', e'⟩ | ⟨h', e'⟩ <;> rw [e, e']
    · exact hs.2 i j (by omega) (by omega) hij
    · exact pos_lt (by omega) h
    · exact hs.2 i (j - 1) (by omega) (by omega) (by omega)
    · omega
    · omega
    · exact no_pos hs hr hn (by omega) (by omega)
    · omega
    · omega
    · exact hs.2 (i - 1) (j - 1) (by omega) (by omega) (by omega)
theorem putRow_sorted {rows : List (List Val)} {row : List Val} (hs : Sorted rows) (hr : ∀ v ∈ row, valOk v = true) : Sorted (putRow rows row) := by
  unfold putRow; split
  · exact hs
  · rename_i h; exact insAt_sorted hs hr (by simpa using h)
/-! ### RelDrop -/
/-! ### RelAdd -/
theorem insAt_mem {rows : List (List Val)} {row x : List Val} (h : x ∈ insAt rows row) : x ∈ rows ∨ x = row := by
  unfold insAt at h
  simp only [List.mem_append, List.mem_singleton] at h
  rcases h with (h | h) | h
  · exact .inl (List.mem_of_mem_take h)
  · exact .inr h
  · exact .inl (List.mem_of_mem_drop h)
theorem putRow_mem {rows : List (List Val)} {row x : List Val} (h : x ∈ putRow rows row) : x ∈ rows ∨ x = row := by
  unfold putRow at h; split at h
  · exact .inl h
  · exact insAt_mem h
end Go.Proofs.YtibhoanjglfaoaaGreat

/- Rows in order, each once: in plain words. -/
namespace Go.Proofs.YtibhoanjglfaoaaGreat
open Go.RowKit
set_option linter.unusedVariables false
set_option linter.unusedSimpArgs false

theorem pw_ext {α : Type} {R : α → α → Prop} (asym : ∀ x y, R x y → ¬ R y x) : ∀ {a b : List α}, a.Pairwise R → b.Pairwise R → (∀ x, x ∈ a ↔ x ∈ b) → a = b
  | [], [], _, _, _ => rfl
  | [], y :: ys, _, _, h => absurd ((h y).2 List.mem_cons_self) (by simp)
  | x :: xs, [], _, _, h => absurd ((h x).1 List.mem_cons_self) (by simp)
  | x :: xs, y :: ys, ha, hb, h => by
    obtain ⟨h1, h2⟩ := List.pairwise_cons.1 ha
    obtain ⟨g1, g2⟩ := List.pairwise_cons.1 hb
    have e : x = y := by
      rcases List.mem_cons.1 ((h x).1 List.mem_cons_self) with e | e
      · exact e
      · rcases List.mem_cons.1 ((h y).2 List.mem_cons_self) with e2 | e2
        · exact e2.symm
        · exact absurd (g1 x e) (asym _ _ (h1 y e2))
    subst e
    congr 1
    refine pw_ext asym h2 g2 fun z => ⟨fun hz => ?_, fun hz => ?_⟩
    · rcases List.mem_cons.1 ((h z).1 (List.mem_cons_of_mem _ hz)) with e | e
      · subst e; exact absurd (h1 z hz) (asym _ _ (h1 z hz))
      · exact e
    · rcases List.mem_cons.1 ((h z).2 (List.mem_cons_of_mem _ hz)) with e | e
      · subst e; exact absurd (g1 z hz) (asym _ _ (g1 z hz))
      · exact e
theorem cmpRow_asym (x y : List Val) (h : cmpRow x y < 0) : ¬ cmpRow y x < 0 := by rw [cmpRow_neg y x]; omega
theorem Sorted.pw {rows : List (List Val)} (h : Sorted rows) : rows.Pairwise (fun a b => cmpRow a b < 0) := List.pairwise_iff_getElem.2 fun i j hi hj hij => h.2 i j hi hj hij
theorem Sorted.of_pw {rows : List (List Val)} (hv : ∀ r ∈ rows, ∀ v ∈ r, valOk v = true) (h : rows.Pairwise (fun a b => cmpRow a b < 0)) : Sorted rows :=
  ⟨fun j hj v hv2 => hv _ (List.getElem_mem hj) v hv2, fun i j hi hj hij => List.pairwise_iff_getElem.1 h i j hi hj hij⟩
theorem Sorted.vals {rows : List (List Val)} (h : Sorted rows) : ∀ r ∈ rows, ∀ v ∈ r, valOk v = true := fun r hr v hv => by
  obtain ⟨j, hj, rfl⟩ := List.getElem_of_mem hr
  exact h.1 j hj v hv
theorem Sorted.nil : Sorted [] := ⟨fun j hj => absurd hj (by simp), fun i j hi => absurd hi (by simp)⟩
theorem sorted_ext {a b : List (List Val)} (ha : Sorted a) (hb : Sorted b) (h : ∀ x, x ∈ a ↔ x ∈ b) : a = b := pw_ext cmpRow_asym ha.pw hb.pw h
theorem insAt_in {rows : List (List Val)} {row x : List Val} (h : x ∈ rows ∨ x = row) : x ∈ insAt rows row := by
  unfold insAt
  simp only [List.mem_append, List.mem_singleton]
  rcases h with h | h
  · rw [← List.take_append_drop (pos rows row) rows, List.mem_append] at h
    rcases h with h | h
    · exact .inl (.inl h)
    · exact .inr h
  · exact .inl (.inr h)
theorem putRow_iff {rows : List (List Val)} {row x : List Val} : x ∈ putRow rows row ↔ x ∈ rows ∨ x = row := by
  refine ⟨putRow_mem, fun h => ?_⟩
  unfold putRow; split
  · rename_i hh
    rcases h with h | rfl
    · exact h
    · rw [hasRow, decide_eq_true_eq] at hh; exact hh
  · exact insAt_in h
theorem puts_sorted : ∀ {rows acc : List (List Val)}, Sorted acc → (∀ r ∈ rows, ∀ v ∈ r, valOk v = true) → Sorted (rows.foldl putRow acc)
  | [], acc, h, _ => h
  | r :: rows, acc, h, hv => puts_sorted (rows := rows) (putRow_sorted h (hv r List.mem_cons_self)) fun x hx => hv x (List.mem_cons_of_mem _ hx)
theorem puts_mem : ∀ {rows acc : List (List Val)} {x : List Val}, x ∈ rows.foldl putRow acc ↔ x ∈ acc ∨ x ∈ rows
  | [], acc, x => by simp
  | r :: rows, acc, x => by
    rw [List.foldl_cons, puts_mem (rows := rows), putRow_iff, List.mem_cons]
    exact ⟨fun h => by rcases h with (h | h) | h <;> simp [h], fun h => by rcases h with h | h | h <;> simp [h]⟩
/-- The rows in order, each once. -/
def sortRows (rows : List (List Val)) : List (List Val) := rows.foldl putRow []
def ValsOk (rows : List (List Val)) : Prop := ∀ r ∈ rows, ∀ v ∈ r, valOk v = true
theorem sortRows_sorted {rows : List (List Val)} (h : ValsOk rows) : Sorted (sortRows rows) := puts_sorted Sorted.nil h
theorem sortRows_mem {rows : List (List Val)} {x : List Val} : x ∈ sortRows rows ↔ x ∈ rows := by
  unfold sortRows; rw [puts_mem]; simp
theorem puts_eq {a b : List (List Val)} (ha : Sorted a) (hb : ValsOk b) : b.foldl putRow a = sortRows (a ++ b) := by
  have hv : ValsOk (a ++ b) := fun r hr => by
    rcases List.mem_append.1 hr with h | h
    · exact ha.vals r h
    · exact hb r h
  exact sorted_ext (puts_sorted ha hb) (sortRows_sorted hv) fun x => by rw [puts_mem, sortRows_mem, List.mem_append]
theorem putRow_len {rows : List (List Val)} {row : List Val} : rows.length ≤ (putRow rows row).length ∧ (putRow rows row).length ≤ rows.length + 1 := by
  unfold putRow; split
  · omega
  · rw [insAt_len]; omega
theorem puts_len : ∀ {rows acc : List (List Val)}, acc.length ≤ (rows.foldl putRow acc).length ∧ (rows.foldl putRow acc).length ≤ acc.length + rows.length
  | [], acc => by simp
  | r :: rows, acc => by
    have h1 := puts_len (rows := rows) (acc := putRow acc r)
    have h2 := putRow_len (rows := acc) (row := r)
    rw [List.foldl_cons, List.length_cons]; omega
theorem sortRows_len {rows : List (List Val)} : (sortRows rows).length ≤ rows.length := by
  have := (puts_len (rows := rows) (acc := [])).2
  simpa [sortRows] using this
/-- A list in order, with equal neighbours once. -/
def uniqTo (ys : List (List Val)) : Nat → List (List Val)
  | 0 => []
  | 1 => ys.take 1
  | k + 2 => if ys.getD (k + 1) [] = ys.getD k [] then uniqTo ys (k + 1) else uniqTo ys (k + 1) ++ [ys.getD (k + 1) []]
def uniq (ys : List (List Val)) : List (List Val) := uniqTo ys ys.length
def Weak (ys : List (List Val)) : Prop := ys.Pairwise fun a b => ¬ cmpRow b a < 0
theorem uniqTo_facts {ys : List (List Val)} (hw : Weak ys) (hv : ValsOk ys) : ∀ k, k + 1 ≤ ys.length → (uniqTo ys (k + 1)).Pairwise (fun a b => cmpRow a b < 0) ∧ (∀ x, x ∈ uniqTo ys (k + 1) ↔ x ∈ ys.take (k + 1)) ∧ ∀ x ∈ uniqTo ys (k + 1), x = ys.getD k [] ∨ cmpRow x (ys.getD k []) < 0
  | 0, h => by
    have e : ys.take 1 = [ys.getD 0 []] := by
      match ys, h with
      | y :: t, _ => simp
    have eu : uniqTo ys (0 + 1) = [ys.getD 0 []] := e
    have et : ys.take (0 + 1) = [ys.getD 0 []] := e
    rw [eu, et]
    refine ⟨List.pairwise_singleton _ _, fun x => Iff.rfl, fun x hx => .inl (List.mem_singleton.1 hx)⟩
  | k + 1, h => by
    obtain ⟨h1, h2, h3⟩ := uniqTo_facts hw hv k (by omega)
    have e1 : ys.getD (k + 1) [] = ys[k + 1] := by simp [List.getD, show k + 1 < ys.length by omega]
    have e0 : ys.getD k [] = ys[k] := by simp [List.getD, show k < ys.length by omega]
    have et : ys.take (k + 1 + 1) = ys.take (k + 1) ++ [ys[k + 1]] := by rw [List.take_succ_eq_append_getElem (by omega)]
    rw [e0] at h3
    rw [uniqTo, et, e1, e0]
    have hle : ¬ cmpRow ys[k + 1] ys[k] < 0 := List.pairwise_iff_getElem.1 hw k (k + 1) (by omega) (by omega) (by omega)
    by_cases he : ys[k + 1] = ys[k]
    · rw [if_pos he]
      refine ⟨h1, fun x => ?_, fun x hx => by rw [he]; exact h3 x hx⟩
      rw [h2, List.mem_append, List.mem_singleton]
      refine ⟨.inl, fun q => ?_⟩
      rcases q with q | q
      · exact q
      · rw [q, he, ← List.getElem_take (xs := ys) (i := k) (j := k + 1) (h := by simp; omega)]; exact List.getElem_mem _
    · rw [if_neg he]
      have hlt : cmpRow ys[k] ys[k + 1] < 0 := by
        have h0 : cmpRow ys[k] ys[k + 1] ≠ 0 := fun q => he (cmpRow_eq (hv _ (List.getElem_mem _)) (hv _ (List.getElem_mem _)) q).symm
        rw [cmpRow_neg]
        rw [cmpRow_neg] at h0; omega
      have hb : ∀ x ∈ uniqTo ys (k + 1), cmpRow x ys[k + 1] < 0 := fun x hx => by
        rcases h3 x hx with q | q
        · rw [q]; exact hlt
        · have hx2 : x ∈ ys := List.mem_of_mem_take ((h2 x).1 hx)
          exact cmpRow_trans (hv x hx2) (hv _ (List.getElem_mem _)) (hv _ (List.getElem_mem _)) q hlt
      refine ⟨List.pairwise_append.2 ⟨h1, List.pairwise_singleton _ _, fun x hx y hy => by rw [List.mem_singleton.1 hy]; exact hb x hx⟩, fun x => ?_, fun x hx => ?_⟩
      · rw [List.mem_append, List.mem_append, h2]
      · rcases List.mem_append.1 hx with q | q
        · exact .inr (hb x q)
        · exact .inl (List.mem_singleton.1 q)
/-- What the program makes of rows: a permutation in order, with equal neighbours once. -/
theorem uniq_sort {rows ys : List (List Val)} (hp : ys.Perm rows) (hw : Weak ys) (hv : ValsOk rows) : uniq ys = sortRows rows := by
  have hvy : ValsOk ys := fun r hr => hv r (hp.mem_iff.1 hr)
  rcases Nat.eq_zero_or_pos ys.length with h0 | h0
  · have e : ys = [] := List.eq_nil_of_length_eq_zero h0
    subst e
    have e2 : rows = [] := hp.nil_eq.symm
    subst e2; rfl
  · obtain ⟨n, hn⟩ : ∃ n, ys.length = n + 1 := ⟨ys.length - 1, by omega⟩
    obtain ⟨h1, h2, _⟩ := uniqTo_facts hw hvy n (by omega)
    have e : uniq ys = uniqTo ys (n + 1) := by unfold uniq; rw [hn]
    rw [e]
    have hm : ∀ x, x ∈ uniqTo ys (n + 1) ↔ x ∈ rows := fun x => by rw [h2, List.take_of_length_le (by omega), hp.mem_iff]
    exact sorted_ext (Sorted.of_pw (fun r hr => hv r ((hm r).1 hr)) h1) (sortRows_sorted hv) fun x => by rw [hm, sortRows_mem]
/-! ### Steps of the compaction -/
/-! ### relOf -/
def relOf (ar : Int) (rows : List (List Val)) : Relt × Bool := if 300 < (sortRows rows).length then (⟨0, []⟩, false) else (⟨ar, sortRows rows⟩, true)
theorem relOf_big {ar : Int} {rows : List (List Val)} (h : 300 < ((sortRows rows).length : Int)) : relOf ar rows = (⟨0, []⟩, false) := if_pos (by omega)
theorem relOf_ok {ar : Int} {rows : List (List Val)} (h : ¬ 300 < ((sortRows rows).length : Int)) : relOf ar rows = (⟨ar, sortRows rows⟩, true) := if_neg (by omega)
theorem relOf_true {ar : Int} {rows : List (List Val)} (h : (relOf ar rows).2 = true) : relOf ar rows = (⟨ar, sortRows rows⟩, true) ∧ (sortRows rows).length ≤ 300 := by
  unfold relOf at *
  split
  · rename_i h1; rw [if_pos h1] at h; cases h
  · exact ⟨rfl, by omega⟩
theorem relOf_false {ar : Int} {rows : List (List Val)} (h : (relOf ar rows).2 = false) : 300 < ((sortRows rows).length : Int) := by
  unfold relOf at h
  split at h
  · omega
  · cases h
theorem sortRows_small {rows : List (List Val)} {ar : Int} (hl : rows.length ≤ 1048576) (h : ∀ r ∈ rows, smallRow r) : smallRel ⟨ar, sortRows rows⟩ :=
  ⟨Nat.le_trans sortRows_len hl, fun x hx => h x (sortRows_mem.1 hx)⟩
/-! ### RelUnion -/
theorem union_more {a b : Relt} {k : Nat} (hk : k < b.rows.length) : putRow ((b.rows.take k).foldl putRow a.rows) b.rows[k] = (b.rows.take (k + 1)).foldl putRow a.rows := by
  rw [List.take_succ_eq_append_getElem hk, List.foldl_append]; rfl
end Go.Proofs.YtibhoanjglfaoaaGreat

/-
  DERIVED: THE SHELF's CONTRACTS AT THIS DUMP, IN PLAIN WORDS (tools/lay-plain.mjs out of 'TryShelf.lean', which tools/lay-shelf.mjs wrote): THE SAME DECLARATIONS UNDER THE SAME NAMES: 'import', 'namespace', 'open', 'def', 'theorem' AND NOTHING ELSE: no command of the shelf's: FOR A HAND-IN. Each laying: the table of numbers ('.._ren') and one theorem, a field a fact of the dump's own or the kernel's comparison; each contract: ONE APPLICATION.
-/
namespace Go.Proofs
open Go.Shelf
def Tryz.laysSort_ren : Go.Shelf.Ren := ⟨fun | 6 => 81 | 15 => 123 | 14 => 122 | 28 => 154 | 29 => 155 | 20 => 146 | 21 => 147 | 22 => 148 | 23 => 149 | 24 => 150 | 25 => 151 | 26 => 152 | 27 => 153 | 46 => 170 | 47 => 171 | 48 => 172 | 49 => 173 | 50 => 174 | 57 => 183 | n => n, fun | 22 => 61 | 24 => 72 | 25 => 111 | 3 => 3 | 39 => 151 | 0 => 0 | 53 => 177 | 55 => 179 | 4 => 4 | 46 => 171 | 45 => 170 | 50 => 155 | 5 => 5 | 9 => 9 | 66 => 191 | 70 => 195 | 76 => 201 | 77 => 202 | n => n, fun | n => n⟩
theorem Tryz.laysSort : Go.Proofs.SlLaysF0.n6 Tryz.prog Tryz.laysSort_ren := {
  mixed := by kernel_rfl
  f6 := ⟨Tryz.f81.name, by decide, Tryz.func81.trans (congrArg some (by kernel_rfl))⟩
  f14 := ⟨Tryz.f122.name, by decide, Tryz.func122.trans (congrArg some (by kernel_rfl))⟩
  f15 := Tryz.func123.trans (congrArg some (by kernel_rfl))
  f20 := ⟨Tryz.f146.name, by decide, Tryz.func146.trans (congrArg some (by kernel_rfl))⟩
  f21 := ⟨Tryz.f147.name, by decide, Tryz.func147.trans (congrArg some (by kernel_rfl))⟩
  f22 := ⟨Tryz.f148.name, by decide, Tryz.func148.trans (congrArg some (by kernel_rfl))⟩
  f23 := ⟨Tryz.f149.name, by decide, Tryz.func149.trans (congrArg some (by kernel_rfl))⟩
  f24 := ⟨Tryz.f150.name, by decide, Tryz.func150.trans (congrArg some (by kernel_rfl))⟩
  f25 := ⟨Tryz.f151.name, by decide, Tryz.func151.trans (congrArg some (by kernel_rfl))⟩
  f26 := ⟨Tryz.f152.name, by decide, Tryz.func152.trans (congrArg some (by kernel_rfl))⟩
  f27 := ⟨Tryz.f153.name, by decide, Tryz.func153.trans (congrArg some (by kernel_rfl))⟩
  f28 := Tryz.func154.trans (congrArg some (by kernel_rfl))
  f29 := Tryz.func155.trans (congrArg some (by kernel_rfl))
  f46 := ⟨Tryz.f170.name, by decide, Tryz.func170.trans (congrArg some (by kernel_rfl))⟩
  f47 := Tryz.func171.trans (congrArg some (by kernel_rfl))
  f48 := Tryz.func172.trans (congrArg some (by kernel_rfl))
  f49 := ⟨Tryz.f173.name, by decide, Tryz.func173.trans (congrArg some (by kernel_rfl))⟩
  f50 := ⟨Tryz.f174.name, by decide, Tryz.func174.trans (congrArg some (by kernel_rfl))⟩
  f57 := ⟨Tryz.f183.name, by decide, Tryz.func183.trans (congrArg some (by kernel_rfl))⟩
  t0 := Tryz.underlying0
  a0 := Tryz.isAgg0
  z0 := Tryz.sizeOf0
  v0 := Tryz.zeroValue0
  t3 := Tryz.underlying3
  a3 := Tryz.isAgg3
  z3 := Tryz.sizeOf3
  v3 := Tryz.zeroValue3
  t4 := Tryz.underlying4
  a4 := Tryz.isAgg4
  z4 := Tryz.sizeOf4
  v4 := Tryz.zeroValue4
  t5 := Tryz.underlying5
  a5 := Tryz.isAgg5
  z5 := Tryz.sizeOf5
  v5 := Tryz.zeroValue5
  t9 := Tryz.underlying9
  a9 := Tryz.isAgg9
  z9 := Tryz.sizeOf9
  v9 := Tryz.zeroValue9
  t22 := Tryz.underlying61
  a22 := Tryz.isAgg61
  z22 := Tryz.sizeOf61
  v22 := Tryz.zeroValue61
  t25 := Tryz.underlying111
  a25 := Tryz.isAgg111
  z25 := Tryz.sizeOf111
  v25 := Tryz.zeroValue111
  t39 := Tryz.underlying151
  a39 := Tryz.isAgg151
  z39 := Tryz.sizeOf151
  v39 := Tryz.zeroValue151
  t45 := Tryz.underlying170
  a45 := Tryz.isAgg170
  z45 := Tryz.sizeOf170
  v45 := Tryz.zeroValue170
  t46 := Tryz.underlying171
  a46 := Tryz.isAgg171
  z46 := Tryz.sizeOf171
  v46 := Tryz.zeroValue171
  t50 := Tryz.underlying155
  a50 := Tryz.isAgg155
  z50 := Tryz.sizeOf155
  v50 := Tryz.zeroValue155
  t53 := Tryz.underlying177
  a53 := Tryz.isAgg177
  z53 := Tryz.sizeOf177
  v53 := Tryz.zeroValue177
  t55 := Tryz.underlying179
  a55 := Tryz.isAgg179
  z55 := Tryz.sizeOf179
  v55 := Tryz.zeroValue179
  t66 := Tryz.underlying191
  a66 := Tryz.isAgg191
  z66 := Tryz.sizeOf191
  v66 := Tryz.zeroValue191
  t70 := Tryz.underlying195
  a70 := Tryz.isAgg195
  z70 := Tryz.sizeOf195
  v70 := Tryz.zeroValue195
  t76 := Tryz.underlying201
  a76 := Tryz.isAgg201
  z76 := Tryz.sizeOf201
  v76 := Tryz.zeroValue201
  t77 := Tryz.underlying202
  a77 := Tryz.isAgg202
  z77 := Tryz.sizeOf202
  v77 := Tryz.zeroValue202 }
end Go.Proofs

/- slices.SortFunc on rows: the library's contract ars one on an array of one's own. -/
namespace Go.Proofs.YtibhoanjglfaoaaGreat
open Go.RowKit
set_option linter.unusedVariables false

/-- A row of the world, its block g apart. -/
abbrev RowAt (w : World) (g : Nat) : Type := { r : Raw (List Val) // rowE.rep w r.vs r.x r.b ∧ (∀ v ∈ r.x, valOk v = true) ∧ ∀ b ∈ r.b, b ≠ g }
instance {w : World} {g : Nat} : Inhabited (RowAt w g) := ⟨⟨⟨[], [.slice none 0 0], []⟩, rowE_rep.2 ⟨none, 0, 0, rfl, rfl, Nat.le_refl _, Nat.zero_le _, fun _ => rfl, .inl ⟨rfl, rfl⟩⟩, fun v h => (by cases h), fun b h => (by cases h)⟩⟩
def encR (w : World) (g : Nat) (r : RowAt w g) : List Value := r.1.vs
def cmpR (w : World) (g : Nat) (a b : RowAt w g) : Int := cmpRow a.1.x b.1.x
section
variable {w : World} {g : Nat}
theorem encR_one (r : RowAt w g) : ∃ a n c, r.1.vs = [.slice a n c] := by
  obtain ⟨a, n, c, h, _⟩ := rowE_rep.1 r.2.1
  exact ⟨a, n, c, h⟩
theorem sortw_heap {n : Nat} {d : Array (RowAt w g)} {os : Array Obj} {b : Nat} (hb : b < w.heap.size) (hne : b ≠ g) : (sortWorldK (encR w g) 1 w g 0 n d os).heap[b]? = w.heap[b]? := by
  unfold sortWorldK
  rw [Go.Sort.heap_grow_old _ _ (by simpa [Go.Sort.putRowK, Go.Sort.ahead] using hb)]
  simp [Go.Sort.putRowK, Go.Sort.putRow, Go.Sort.mapBlock, Go.Sort.ahead, Array.getElem?_modify, Ne.symm hne]
theorem swoR : Go.Sort.SWO (ltOf (cmpR w g)) where
  irrefl x := by simp [ltOf, cmpR, cmpRow_self]
  trans x y z h1 h2 := by
    have h1 : cmpRow x.1.x y.1.x < 0 := of_decide_eq_true h1
    have h2 : cmpRow y.1.x z.1.x < 0 := of_decide_eq_true h2
    exact decide_eq_true (cmpRow_trans x.2.2.1 y.2.2.1 z.2.2.1 h1 h2)
  ntrans x y z h1 h2 := by
    have h1 : ¬ cmpRow x.1.x y.1.x < 0 := of_decide_eq_false h1
    have h2 : ¬ cmpRow y.1.x z.1.x < 0 := of_decide_eq_false h2
    refine decide_eq_false fun h3 => ?_
    have h3 : cmpRow x.1.x z.1.x < 0 := h3
    by_cases h : cmpRow x.1.x y.1.x = 0
    · have := cmpRow_eq x.2.2.1 y.2.2.1 h
      rw [this] at h3; exact h2 h3
    · have hyx : cmpRow y.1.x x.1.x < 0 := by rw [cmpRow_neg]; omega
      exact h2 (cmpRow_trans y.2.2.1 x.2.2.1 z.2.2.1 hyx h3)
theorem cmpLaysR (size : Nat) : CmpLays Tryz.prog 82 #[] (encR w g) 1 (cmpR w g) g 0 size w := fun m os dk hs x y => by
  have up : ∀ r : RowAt w g, rowE.rep (sortWorldK (encR w g) 1 w g 0 m dk os) r.1.vs r.1.x r.1.b := fun r =>
    rowE.keep r.2.1 (fun b hb => sortw_heap (rowE.lt r.2.1 b hb) (r.2.2.2 b hb)) (by
      unfold sortWorldK
      rw [Go.Sort.size_grow]
      simp [Go.Sort.putRowK, Go.Sort.ahead])
  obtain ⟨a, n, c, h1, h2⟩ := rowE_rep.1 (up x)
  obtain ⟨a', n', c', h1', h2'⟩ := rowE_rep.1 (up y)
  generalize sortWorldK (encR w g) 1 w g 0 m dk os = W at *
  have e : (#[.agg (encR w g x).toArray, .agg (encR w g y).toArray] ++ #[] : Array Value) = #[.agg #[.slice a n c], .agg #[.slice a' n' c']] := by simp [encR, h1, h1']
  rw [e]
  refine (byRow_lay a n c x.1.x x.1.b a' n' c' y.1.x y.1.b W h2 h2' x.2.2.1 y.2.2.1).mono ?_
  rintro e w' ⟨rfl, _, hl⟩
  exact ⟨rfl, hl⟩
end
theorem raw_all {α : Type} {e : Enc α} (h0 : 0 < e.size) {w : World} : ∀ {zs : List (Raw α)} {cells : List Value} {b3 : List Nat}, FR w cells (zs.flatMap fun r => rxC e r e.size 0) b3 → cells = zs.flatMap Raw.vs ∧ ∀ r ∈ zs, e.rep w r.vs r.x r.b
  | [], [], b3, h => ⟨rfl, fun r hr => by cases hr⟩
  | [], _ :: _, b3, h => h.elim
  | r :: zs, cells, b3, h => by
    rw [List.flatMap_cons] at h
    obtain ⟨v1, v2, b1, b2, rfl, rfl, h1, h2⟩ := FR.app.1 h
    obtain ⟨rfl, hr⟩ := rx_rep h0 h1
    obtain ⟨e2, h3⟩ := raw_all h0 h2
    refine ⟨by rw [List.flatMap_cons, e2], fun q hq => ?_⟩
    rcases List.mem_cons.1 hq with rfl | hq
    · exact hr
    · exact h3 q hq
theorem lift_all {β : Type} {p : β → Prop} : ∀ {zs : List β}, (∀ r ∈ zs, p r) → ∃ l : List { r // p r }, l.map (·.1) = zs
  | [], _ => ⟨[], rfl⟩
  | z :: zs, h => by
    obtain ⟨l, hl⟩ := lift_all (zs := zs) fun r hr => h r (List.mem_cons_of_mem _ hr)
    exact ⟨⟨z, h z List.mem_cons_self⟩ :: l, by rw [List.map_cons, hl]⟩
def hdR {w : World} {g : Nat} (r : RowAt w g) : Value := r.1.vs.headD (.slice none 0 0)
theorem encR_hd {w : World} {g : Nat} (r : RowAt w g) : encR w g r = [hdR r] := by
  obtain ⟨a, n, c, h⟩ := encR_one r
  simp [encR, hdR, h]
theorem flatR {w : World} {g : Nat} (l : List (RowAt w g)) : (l.map (·.1)).flatMap Raw.vs = l.map hdR := by
  induction l with
  | nil => rfl
  | cons r l ih =>
    have := encR_hd r
    rw [List.map_cons, List.flatMap_cons, ih, List.map_cons]
    show r.1.vs ++ _ = _
    rw [show r.1.vs = encR w g r from rfl, this]; rfl
theorem frR {w : World} {g : Nat} : ∀ (l : List (RowAt w g)), FR w (l.map hdR) ((l.map (·.1.x)).flatMap rowC) (feet (l.map (·.1)))
  | [] => rfl
  | r :: l => by
    rw [List.map_cons, List.map_cons, List.flatMap_cons]
    have h1 : FR w [hdR r] (rowC r.1.x) r.1.b := by
      rw [← encR_hd r]
      exact (CellsOf.iff (e := rowE)).1 r.2.1
    exact FR.app.2 ⟨[hdR r], _, _, _, rfl, by simp [feet], h1, frR l⟩
theorem flatK_map {w : World} {g : Nat} (d : Array (RowAt w g)) : Go.Sort.flatK (encR w g) 1 d = (d.toList.map hdR).toArray := by
  apply Go.Sort.ext_get!
  · simp
  · intro t ht
    have ht' : t < d.size := by simpa using ht
    rw [Go.Sort.get_flatK _ _ _ _ (by simpa using ht'), Nat.div_one, Nat.mod_one, encR_hd, getElem!_pos d t ht', getElem!_pos (d.toList.map hdR).toArray t (by simpa using ht')]
    simp
theorem putAll {cur : Array Value} {vs : List Value} (h : vs.length ≤ cur.size) : (Go.Sort.putCells id 0 vs.toArray cur).toList.take vs.length = vs := by
  apply List.ext_getElem?
  intro j
  by_cases hj : j < vs.length
  · rw [List.getElem?_take_of_lt hj, Array.getElem?_toList]
    simp [Go.Sort.putCells, hj, show j < cur.size by omega]
  · rw [List.getElem?_take_eq_none (by omega), List.getElem?_eq_none (by omega)]

set_option maxRecDepth 100000 in
theorem insNil (w : World) : Calls Tryz.prog 146 #[.slice none 0 0, .int .i64 0, .int .i64 0, .func (.func 82) #[] #[]] w fun en w' => en = .returned (.tuple #[]) ∧ Below w.heap.size w w' := by
  go_enter Tryz.func146, Tryz.ntmps146
  go_wp2
  go_loopw [8] (fun i W => i = .int .i64 1 ∧ Held w [] W) (fun _ _ => 0)
  case atStart => exact ⟨rfl, Held.start w⟩
  case round =>
    obtain ⟨rfl, H⟩ := hrel
    go_wp2_with fail
    go_end0
    exact ⟨rfl, H.below⟩
set_option maxRecDepth 100000 in
theorem pdqNil (w : World) : Calls Tryz.prog 122 #[.slice none 0 0, .int .i64 0, .int .i64 0, .int .i64 0, .func (.func 82) #[] #[]] w fun en w' => en = .returned (.tuple #[]) ∧ Below w.heap.size w w' := by
  go_enter Tryz.func122, Tryz.ntmps122
  go_wp2
  go_loopw [1, 2] (fun i j W => i = .int .i64 0 ∧ j = .int .i64 0 ∧ Held w [] W) (fun _ _ _ => 0)
  case atStart => exact ⟨rfl, rfl, Held.start w⟩
  case round =>
    obtain ⟨rfl, rfl, H⟩ := hrel
    go_wp2_with fail
    refine (insNil _).mono ?_
    rintro e w1 ⟨rfl, hb⟩
    go_wp2_with fail
    refine bodyPost_ret (results_none rfl _ _ _) rfl ?_
    exact ⟨rfl, (H.up hb).below⟩
set_option maxRecDepth 100000 in
theorem sortNil (w : World) : Calls Tryz.prog 81 #[.slice none 0 0, .func (.func 82) #[] #[]] w fun en w' => en = .returned (.tuple #[]) ∧ Below w.heap.size w w' := by
  have L := Tryz.laysSort
  have hl : Calls Tryz.prog 123 #[.int .u64 0] w fun e w' => e = .returned (.int .i64 0) ∧ w' = w := by
    have h := Any.bits_Len (SlLaysF0.n15.bits (P := Tryz.prog) (ρ := Tryz.laysSort_ren) { L with }) 0 w (by omega) (by omega)
    exact h
  go_enter Tryz.func81, Tryz.ntmps81
  go_wp2_with (first | (go_at_call 123; refine hl.mono ?_; rintro e w' ⟨rfl, rfl⟩) | (go_at_call 122; refine (pdqNil _).mono ?_; rintro e w' ⟨rfl, hb⟩))
  go_end0
  exact ⟨rfl, hb⟩

set_option maxHeartbeats 1000000 in
theorem sortRow_any (w : World) (v : Value) (rows : List (List Val)) (cells : List Value) (bs : List Nat) (hown : w.ownsRow 0 72 1 v rows.length cells) (hF : FR w cells (rows.flatMap rowC) bs) (hv : ValsOk rows) (hb : ∀ b ∈ bs, v.ownBlock ≠ some b) (hl : rows.length ≤ 1048576) :
    Calls Tryz.prog 81 #[v, .func (.func 82) #[] #[]] w fun en w' => en = .returned (.tuple #[]) ∧
      ∃ ys cells' bs', ys.Perm rows ∧ Weak ys ∧ w'.ownsRow 0 72 1 v ys.length cells' ∧ w.grownBy w' v.ownBlock ∧ FR w cells' (ys.flatMap rowC) bs' ∧ bs'.Perm bs := by
  rcases hown.2 with ⟨rfl, h0⟩ | ⟨g, cap, cur, rfl, _, hg, hle, hcap, hsz, htk⟩
  · have e0 : rows = [] := List.eq_nil_of_length_eq_zero h0
    subst e0
    refine (sortNil w).mono ?_
    rintro en w' ⟨rfl, hbw⟩
    have e1 : cells = [] := List.eq_nil_of_length_eq_zero (by simpa using hown.1)
    subst e1
    exact ⟨rfl, [], [], bs, List.Perm.refl _, List.Pairwise.nil, ⟨by simp, .inl ⟨rfl, rfl⟩⟩, ⟨hbw.os, hbw.tape, hbw.output, hbw.size, fun k hk _ => hbw.block k hk⟩, hF, List.Perm.refl _⟩
  · have hgl : g < w.heap.size := (Array.getElem?_eq_some_iff.1 hg).1
    obtain ⟨zs, q1, q2, b3, q3, q4⟩ := raw_of (e := rowE) hF
    obtain ⟨rfl, hreps⟩ := raw_all (e := rowE) (by decide) q3
    have H : ∀ r ∈ zs, rowE.rep w r.vs r.x r.b ∧ (∀ v ∈ r.x, valOk v = true) ∧ ∀ b ∈ r.b, b ≠ g := fun r hr => by
      refine ⟨hreps r hr, hv _ (by rw [← q1]; exact List.mem_map_of_mem hr), fun b hbr e => ?_⟩
      have : b ∈ bs := by
        rw [← q2]
        exact List.mem_flatten.2 ⟨r.b, List.mem_map_of_mem hr, hbr⟩
      exact hb b this (by rw [e]; rfl)
    obtain ⟨l, hl1⟩ : ∃ l : List (RowAt w g), l.map (·.1) = zs := lift_all H
    have hx : l.map (fun r => r.1.x) = rows := by rw [← q1, ← hl1, List.map_map]; rfl
    have hll : l.length = rows.length := by rw [← hx, List.length_map]
    have hcl : zs.flatMap Raw.vs = l.map hdR := by rw [← hl1]; exact flatR l
    rw [hcl] at htk hown hF q3
    have hH : Go.Sort.HoldsK (encR w g) 1 w g 0 l.toArray := by
      unfold Go.Sort.HoldsK
      rw [flatK_map]
      intro j hj
      have hj' : j < l.length := by simpa using hj
      refine ⟨?_, by simp [World.frozen?, hg]⟩
      have h1 : (cur.toList.take (rows.length * 1))[j]? = (l.map hdR)[j]? := by rw [htk]
      rw [List.getElem?_take_of_lt (by omega)] at h1
      simp only [World.cell?, hg, Nat.zero_add, Option.isSome_none, Bool.false_eq_true, if_false]
      rw [← Array.getElem?_toList, h1, getElem!_pos _ j hj]
      simp [hj']
    have hc := AnyQ.slices_SortFunc (P := Tryz.prog) (ρ := Tryz.laysSort_ren) Tryz.laysSort 1 Tryz.isAgg72 Tryz.sizeOf72 (encR w g) (fun r => by rw [encR_hd]; rfl) (fun r u hu => by
      obtain ⟨a, n, c, h⟩ := encR_one r
      rw [show encR w g r = r.1.vs from rfl, h] at hu
      rw [List.mem_singleton.1 hu]; rfl) (cmpR w g) swoR 82 #[] g 0 cap l.toArray w (enters_of Tryz.func82 (by kernel_rfl) rfl) (cmpLaysR _) hH hgl (by simp; omega)
    have hsz' : l.toArray.size = rows.length := by simp [hll]
    rw [hsz'] at hc
    refine Calls.mono hc ?_
    rintro en w' ⟨rfl, d, n, os, hp, hs, rfl⟩
    have hds : d.size = rows.length := by rw [hp.1, hsz']
    have hperm : d.toList.Perm l := by
      have h1 := hp.2.2
      have a1 : d.extract 0 rows.length = d := by rw [← hds]; simp
      have a2 : l.toArray.extract 0 rows.length = l.toArray := by rw [← hsz']; simp
      rw [a1, a2] at h1
      exact h1
    have hfl : Go.Sort.flatK (encR w g) 1 d = (d.toList.map hdR).toArray := flatK_map d
    have hcur : (d.toList.map (hdR (w := w) (g := g))).length ≤ cur.size := by rw [List.length_map, Array.length_toList, hds, hsz]; omega
    refine ⟨rfl, d.toList.map (fun r => r.1.x), d.toList.map hdR, feet (d.toList.map (·.1)), ?_, ?_, ⟨by simp, .inr ⟨g, cap, Go.Sort.putCells id 0 (d.toList.map hdR).toArray cur, by simp [hds], Nat.zero_le _, ?_, by simpa [hds] using hle, hcap, by simpa [Go.Sort.putCells] using hsz, ?_⟩⟩, ⟨rfl, rfl, rfl, by
        unfold sortWorldK
        rw [Go.Sort.size_grow]
        simp [Go.Sort.putRowK, Go.Sort.ahead], fun k hk hne => sortw_heap hk fun e => hne (by rw [e]; rfl)⟩, frR _, ?_⟩
    · rw [← hx]; exact hperm.map _
    · refine List.pairwise_iff_getElem.2 fun i j hi hj hij => ?_
      have hi' : i < d.size := by simpa using hi
      have hj' : j < d.size := by simpa using hj
      have h1 := hs i j (Nat.zero_le _) hij (by omega)
      rw [getElem!_pos d i hi', getElem!_pos d j hj'] at h1
      have h2 : ¬ cmpRow d[j].1.x d[i].1.x < 0 := of_decide_eq_false h1
      simpa using h2
    · unfold sortWorldK
      rw [Go.Sort.heap_grow_old _ _ (by simpa [Go.Sort.putRowK, Go.Sort.ahead] using hgl)]
      simp [Go.Sort.putRowK, Go.Sort.putRow, Go.Sort.mapBlock, Go.Sort.ahead, Array.getElem?_modify, hg, Go.Sort.onCells, hfl]
    · have := putAll hcur
      simpa using this
    · rw [← q2, ← hl1]
      exact feet_perm (hperm.map _)
/-- The order of right rows is one. -/
theorem weak_unique : ∀ {a b : List (List Val)}, ValsOk a → a.Perm b → Weak a → Weak b → a = b
  | [], b, _, hp, _, _ => hp.nil_eq
  | x :: xs, [], _, hp, _, _ => absurd hp.length_eq (by simp)
  | x :: xs, y :: ys, hv, hp, ha, hb => by
    obtain ⟨h1, h2⟩ := List.pairwise_cons.1 ha
    obtain ⟨g1, g2⟩ := List.pairwise_cons.1 hb
    have hvb : ValsOk (y :: ys) := fun r hr => hv r (hp.mem_iff.2 hr)
    have le1 : ¬ cmpRow y x < 0 := by
      rcases List.mem_cons.1 (hp.mem_iff.2 (List.mem_cons_self (a := y) (l := ys))) with e | e
      · rw [e, cmpRow_self]; omega
      · exact h1 y e
    have le2 : ¬ cmpRow x y < 0 := by
      rcases List.mem_cons.1 (hp.mem_iff.1 (List.mem_cons_self (a := x) (l := xs))) with e | e
      · rw [e, cmpRow_self]; omega
      · exact g1 x e
    have e : x = y := cmpRow_eq (hv x List.mem_cons_self) (hvb y List.mem_cons_self) (by rw [cmpRow_neg] at le1; omega)
    subst e
    rw [weak_unique (fun r hr => hv r (List.mem_cons_of_mem _ hr)) (List.Perm.cons_inv hp) h2 g2]
open Classical in
/-- Rows in order. -/
noncomputable def ordRows (rows : List (List Val)) : List (List Val) := if h : ∃ ys : List (List Val), ys.Perm rows ∧ Weak ys then h.choose else rows
theorem ordRows_eq {rows ys : List (List Val)} (hv : ValsOk rows) (hp : ys.Perm rows) (hw : Weak ys) : ys = ordRows rows := by
  have h : ∃ ys : List (List Val), ys.Perm rows ∧ Weak ys := ⟨ys, hp, hw⟩
  have h2 := h.choose_spec
  unfold ordRows
  rw [dif_pos h]
  exact weak_unique (fun r hr => hv r (hp.mem_iff.1 hr)) (hp.trans h2.1.symm) hw h2.2
theorem sortRow_c (rows : List (List Val)) (hv : ValsOk rows) (hl : rows.length ≤ 1048576) (d : Bool) :
    AC Tryz.prog 81 [.one (.own 0), .one (.clo 82 [])] [(0, some (.arr 72 rowE rows d))] (.tup []) [(0, some (.arr 72 rowE (ordRows rows) d))] :=
  AC.inplace ⟨_, _, Tryz.func81, rfl, rfl⟩ fun w v vs cells bs g ha hown hF h1 hb => by
    match vs, ha with
    | [u], ha =>
      obtain rfl : u = .func (.func 82) #[] #[] := ha.1 (fun k hk => by cases hk)
      refine (sortRow_any w v rows cells bs hown hF hv hb hl).mono ?_
      rintro en w' ⟨rfl, ys, cells', bs', p1, p2, p3, p4, p5, p6⟩
      rw [ordRows_eq hv p1 p2] at p3 p5
      exact ⟨rfl, cells', bs', p3, p4, p5, p6⟩
end Go.Proofs.YtibhoanjglfaoaaGreat

/- What the sort and the compaction of rows make: the rows in order, each once. -/
namespace Go.Proofs.YtibhoanjglfaoaaGreat
open Go.RowKit
set_option linter.unusedVariables false

theorem nlt_trans {a b c : List Val} (ha : ∀ v ∈ a, valOk v = true) (hb : ∀ v ∈ b, valOk v = true) (hc : ∀ v ∈ c, valOk v = true) (h1 : ¬ cmpRow a b < 0) (h2 : ¬ cmpRow b c < 0) : ¬ cmpRow a c < 0 := fun h3 => by
  by_cases h : cmpRow a b = 0
  · rw [cmpRow_eq ha hb h] at h3; exact h2 h3
  · have hyx : cmpRow b a < 0 := by rw [cmpRow_neg]; omega
    exact h2 (cmpRow_trans hb ha hc hyx h3)
theorem weak_ins (x : List Val) (hx : ∀ v ∈ x, valOk v = true) : ∀ {ys : List (List Val)}, ValsOk ys → Weak ys → ∃ zs : List (List Val), zs.Perm (x :: ys) ∧ Weak zs
  | [], _, _ => ⟨[x], List.Perm.refl _, List.pairwise_singleton _ _⟩
  | y :: t, hv, hw => by
    obtain ⟨h1, h2⟩ := List.pairwise_cons.1 hw
    have hy := hv y List.mem_cons_self
    have ht : ValsOk t := fun r hr => hv r (List.mem_cons_of_mem _ hr)
    by_cases h : cmpRow y x < 0
    · obtain ⟨zs, p, w⟩ := weak_ins x hx ht h2
      refine ⟨y :: zs, (p.cons y).trans (List.Perm.swap x y t), List.pairwise_cons.2 ⟨fun b hb => ?_, w⟩⟩
      rcases List.mem_cons.1 (p.mem_iff.1 hb) with e | e
      · rw [e]; exact cmpRow_asym _ _ h
      · exact h1 b e
    · refine ⟨x :: y :: t, List.Perm.refl _, List.pairwise_cons.2 ⟨fun b hb => ?_, hw⟩⟩
      rcases List.mem_cons.1 hb with e | e
      · rw [e]; exact h
      · exact nlt_trans (ht b e) hy hx (h1 b e) h
theorem weak_exists : ∀ {rows : List (List Val)}, ValsOk rows → ∃ ys : List (List Val), ys.Perm rows ∧ Weak ys
  | [], _ => ⟨[], List.Perm.refl _, List.Pairwise.nil⟩
  | x :: t, hv => by
    obtain ⟨ys, p, w⟩ := weak_exists (rows := t) fun r hr => hv r (List.mem_cons_of_mem _ hr)
    obtain ⟨zs, p2, w2⟩ := weak_ins x (hv x List.mem_cons_self) (ys := ys) (fun r hr => hv r (List.mem_cons_of_mem _ (p.mem_iff.1 hr))) w
    exact ⟨zs, p2.trans (p.cons x), w2⟩
theorem ordRows_perm {rows : List (List Val)} (hv : ValsOk rows) : (ordRows rows).Perm rows := by
  obtain ⟨ys, p, w⟩ := weak_exists hv
  rw [← ordRows_eq hv p w]; exact p
theorem ordRows_weak {rows : List (List Val)} (hv : ValsOk rows) : Weak (ordRows rows) := by
  obtain ⟨ys, p, w⟩ := weak_exists hv
  rw [← ordRows_eq hv p w]; exact w
theorem ordRows_uniq {rows : List (List Val)} (hv : ValsOk rows) : uniq (ordRows rows) = sortRows rows := uniq_sort (ordRows_perm hv) (ordRows_weak hv) hv
theorem ordRows_len {rows : List (List Val)} (hv : ValsOk rows) : (ordRows rows).length = rows.length := (ordRows_perm hv).length_eq
theorem ordRows_small {rows : List (List Val)} (hv : ValsOk rows) {n : Nat} (h : ∀ r ∈ rows, r.length ≤ n) : ∀ r ∈ ordRows rows, r.length ≤ n := fun r hr => h r ((ordRows_perm hv).mem_iff.1 hr)
/-! ### Lists joined -/
theorem flat_zero {α : Type} {xss : List (List α)} : ([] : List α) = (xss.take 0).flatten := rfl
theorem flat_more {α : Type} {xss : List (List α)} {k : Nat} (hk : k < xss.length) : (xss.take k).flatten ++ xss[k] = (xss.take (k + 1)).flatten := by
  rw [List.take_succ_eq_append_getElem hk, List.flatten_append]; simp
theorem flat_all {α : Type} {xss : List (List α)} {k : Nat} (hk : xss.length ≤ k) : (xss.take k).flatten = xss.flatten := by rw [List.take_of_length_le hk]
theorem flat_len1 {α : Type} {xss : List (List α)} {k : Nat} (hk : k < xss.length) : ((xss.take (k + 1)).flatten.length : Int) = (xss.take k).flatten.length + xss[k].length := by
  rw [← flat_more hk, List.length_append]; omega
theorem flat_le {α : Type} {xss : List (List α)} {k : Nat} : (xss.take k).flatten.length ≤ xss.flatten.length := by
  conv => rhs; rw [← List.take_append_drop k xss, List.flatten_append, List.length_append]
  omega
end Go.Proofs.YtibhoanjglfaoaaGreat

/- The kit's contract of slices.Grow laid at rows and at values. -/
namespace Go.Proofs
open Go.Shelf
def Tryz.growRow_ren : Go.Shelf.Ren := ⟨fun | 4 => 85 | n => n, fun | 22 => 61 | 25 => 72 | 3 => 3 | 4 => 4 | 9 => 9 | 20 => 20 | 0 => 0 | n => n, fun | n => n⟩
theorem Tryz.growRow : Go.Proofs.Lays8.n4 Tryz.prog Tryz.growRow_ren := {
  mixed := by kernel_rfl
  f4 := ⟨Tryz.f85.name, by decide, Tryz.func85.trans (congrArg some (by kernel_rfl))⟩
  t0 := Tryz.underlying0
  a0 := Tryz.isAgg0
  z0 := Tryz.sizeOf0
  v0 := Tryz.zeroValue0
  t3 := Tryz.underlying3
  a3 := Tryz.isAgg3
  z3 := Tryz.sizeOf3
  v3 := Tryz.zeroValue3
  t4 := Tryz.underlying4
  a4 := Tryz.isAgg4
  z4 := Tryz.sizeOf4
  v4 := Tryz.zeroValue4
  t9 := Tryz.underlying9
  a9 := Tryz.isAgg9
  z9 := Tryz.sizeOf9
  v9 := Tryz.zeroValue9
  t20 := Tryz.underlying20
  a20 := Tryz.isAgg20
  z20 := Tryz.sizeOf20
  v20 := Tryz.zeroValue20
  t22 := Tryz.underlying61
  a22 := Tryz.isAgg61
  z22 := Tryz.sizeOf61
  v22 := Tryz.zeroValue61 }
end Go.Proofs

/- slices.Grow of no slice: an array of one's own with no elements. -/
namespace Go.Proofs.YtibhoanjglfaoaaGreat
open Go.RowKit
set_option linter.unusedVariables false

/-- A function that makes an array with no elements. -/
theorem AC.room {P : Program} {f : FuncId} {args : List AVal} {α : Type} {E : TypeId} (e : Enc α) {fc : α → List Cell} [hc : CellsOf e fc] (hfn : Callable P f)
    (h : ∀ (w : World) (g : Gh) (cargs : Array Value), All2 (VR1 g [] w) cargs.toList args → Calls P f cargs w fun en w' => ∃ v', en = .returned v' ∧ w'.ownsRow 0 E e.size v' 0 [] ∧ w.grownBy w' none ∧ ∀ b, v'.ownBlock = some b → w.heap.size ≤ b) :
    AC P f args [] (.one (.own 0)) [(0, some (.arr (α := α) E e [] true))] := by
  refine ⟨hfn, fun g w cargs m ha => (h w g cargs ha).mono ?_⟩
  rintro en w' ⟨v', rfl, t1, t2, t3⟩
  obtain ⟨g', q1, q2, q3, q4, q5, q6, q7⟩ := arr_new (w' := w') m (k := 0) rfl (by simp [Locs.ids]) (js := []) (fz := []) (fun _ h => h) (fun j hj => by cases hj) (T := E) (e := e) (xs := []) (d := true) (blk := (v'.ownBlock).getD 0) (v := v') (fp := [])
    t2.os t2.tape t2.output t2.size (fun b hb _ => t2.block b hb (by simp))
    (ArrR.lay (cells := []) t1 (by rfl) (fun b hb => by cases hb) (fun b hb => ⟨by rw [hb]; rfl, fun hI => by
      rcases hI with hI | ⟨j, hj, _⟩
      · have h1 := m.ilt b hI
        have h2 := t3 b hb
        omega
      · cases hj⟩))
    (fun hv => by
      rcases t1.2 with ⟨h1, _⟩ | ⟨b, cap, cur, h1, _, h3, _⟩
      · exact absurd h1 hv
      · have hb : v'.ownBlock = some b := by rw [h1]; rfl
        rw [hb]
        exact ⟨(Array.getElem?_eq_some_iff.1 h3).1, .inl (t3 b hb)⟩)
    (fun _ => ⟨List.nodup_nil, fun b hb => by cases hb⟩)
  exact ⟨v', g', rfl, q3, fun β U e2 ys2 dd hcx => q2.symm, q4 _⟩
theorem growRow_c0 (n : Nat) (hn : n ≤ 2097152) : AC Tryz.prog 85 [.one (.c (.slice none 0 0)), .one (.c (.int .i64 (n : Int)))] [] (.one (.own 0)) [(0, some (.arr 72 rowE [] true))] :=
  AC.room rowE ⟨_, _, Tryz.func85, rfl, rfl⟩ fun w g cargs h => by
    obtain ⟨x, y, rfl, h1, h2⟩ := inv2 h
    rw [(inv_c h1).1, (inv_c h2).1]
    rcases Nat.eq_zero_or_pos n with h0 | h0
    · subst h0
      refine (Any8.slices_Grow_room Tryz.growRow none 0 0 0 w (Nat.le_refl _) (by omega) (by omega) (Nat.le_refl _)).mono ?_
      rintro en w' ⟨rfl, rfl⟩
      exact ⟨_, rfl, ⟨by simp, .inl ⟨rfl, rfl⟩⟩, ⟨rfl, rfl, rfl, Nat.le_refl _, fun _ _ _ => rfl⟩, fun b hb => by cases hb⟩
    · obtain ⟨hu, hn0, ti, z, hti, hz, hzs, htis, htib⟩ := arrT_spec (P := Tryz.prog) (T := 61) (E := 72) (n := 1) (b := 24) (by kernel_rfl)
      refine (Any8.slices_Grow_grow Tryz.growRow ti z hti hz (by omega) none 0 0 n [] w (Nat.le_refl _) (by omega) (by rw [htib]; omega) (by omega) (by simp) (fun _ => rfl) (fun a ha => by cases ha)).mono ?_
      rintro en w' ⟨rfl, rfl⟩
      have hG := grownCap_ge w (0 + n) 0 72
      have hM := grownCap_le_maxLen w (0 + n) 0 72 (by unfold maxLen; omega)
      refine ⟨_, rfl, ⟨by simp, .inr ⟨w.heap.size, _, _, rfl, Nat.zero_le _, heap_alloc_new w.drew _, Nat.zero_le _, hM, ?_, by simp⟩⟩, ⟨rfl, rfl, rfl, by simp, fun k hk _ => Below.heap_alloc w.drew _ k hk⟩, fun b hb => by
        have : w.heap.size = b := by simpa [Value.ownBlock] using hb
        omega⟩
      show (_ : Array Value).size = _ * 1
      simp only [Array.size_append, size_zeroCells, List.size_toArray, List.length_nil, hzs]
      show 0 + (0 + n - 0) * 1 + (grownCap w (0 + n) 0 72 - (0 + n)) * 1 = grownCap w (0 + n) 0 72 * 1
      omega
theorem growRow_c (n : Nat) (hn : n ≤ 2097152) (k : Nat) : AC Tryz.prog 85 [.one (.c (.slice none 0 0)), .one (.c (.int .i64 (n : Int)))] [] (.one (.own k)) [(k, some (.arr 72 rowE [] true))] := AC.at (growRow_c0 n hn) k
end Go.Proofs.YtibhoanjglfaoaaGreat

/- Texts and bytes in the abstract walk: the bytes of a text, appended. -/
namespace Go.Proofs.YtibhoanjglfaoaaGreat
open Go.RowKit
set_option linter.unusedVariables false

theorem u8_fine (b : UInt8) : (Lit.int .u8 (b.toNat : Int)).wf = true := by
  have := b.toNat_lt
  simp only [Lit.wf, Bool.and_eq_true, decide_eq_true_eq]
  have h1 : IntKind.u8.min = 0 := rfl
  have h2 : IntKind.u8.max = 255 := rfl
  rw [h1, h2]; omega
theorem FR.bytes {w : World} : ∀ (l : List UInt8), FR w (l.map fun b => Value.int .u8 b.toNat) ((l.map fun b => (b.toNat : Int)).flatMap fun n => [Cell.c (.int .u8 n)]) []
  | [] => rfl
  | b :: l => ⟨[], [], rfl, ⟨rfl, u8_fine b, rfl⟩, FR.bytes l⟩
section ops
variable {P : Program} {N : Nat} {s : St} {d : Nat} {ty : TypeId} {pos : String} {after : Array Edge} {gd : Option (Nat × Bool)}
/-- New blocks that nobody writes. -/
def Gh.more (g : Gh) (w w' : World) : Gh := { g with I := fun b => g.I b ∨ (w.heap.size ≤ b ∧ b < w'.heap.size) }
theorem MemR.grow {g : Gh} {l : Locs} {w w' : World} (m : MemR g l w) (hk : ∀ b, b < w.heap.size → w'.heap[b]? = w.heap[b]?) (hs : w.heap.size ≤ w'.heap.size) : MemR (g.more w w') l w' where
  ilt := fun b hb => hb.elim (fun h => Nat.lt_of_lt_of_le (m.ilt b h) hs) fun h => h.2
  box := fun k cs hl => by
    obtain ⟨vs, t, h1, h2, h3⟩ := m.box k cs hl
    have hlt : g.ρ k < w.heap.size := (Array.getElem?_eq_some_iff.1 h1).1
    refine ⟨vs, t, (hk _ hlt).trans h1, h2.mono fun a b _ hr => CellR.step (fun b hb => hk b (m.ilt b hb)) (fun _ h => .inl h) hs (fun _ _ => okK.same rfl rfl rfl) hr, fun h => h.elim h3 fun h => ?_⟩
    have h4 : w.heap.size ≤ g.ρ k := h.1
    omega
  arr := fun k α T e xs d hl => by
    rcases m.arr k α T e xs d hl with h | ⟨cap, vs, bss, h1, h2, h3, h4, h5, h6, h7, h8, h9⟩
    · exact .inl h
    · have hlt : g.ρ k < w.heap.size := (Array.getElem?_eq_some_iff.1 h4).1
      refine .inr ⟨cap, vs, bss, h1, h2, h3, (hk _ hlt).trans h4, h5, h6.keep (hk _ hlt) (fun b hb => hk b (m.ilt b (h7 b hb))) hs, fun b hb => .inl (h7 b hb), fun h => h.elim h8 fun h => ?_, h9⟩
      have h10 : w.heap.size ≤ g.ρ k := h.1
      omega
  dis := fun j k b b' h1 h2 h3 h4 h5 => m.dis j k b b' h1 h2 h3 (by cases b <;> exact h4) (by cases b' <;> exact h5)
  fr := fun k α T e xs hl => by
    obtain ⟨h1, h2⟩ := m.fr k α T e xs hl
    refine ⟨h1, fun b hb => ⟨.inl (h2 b hb).1, ?_⟩⟩
    obtain ⟨c, t, h⟩ := (h2 b hb).2
    exact ⟨c, t, (hk b (m.ilt b (h2 b hb).1)).trans h⟩
  fd := m.fd
end ops
end Go.Proofs.YtibhoanjglfaoaaGreat

/- Parts of slices and of texts; texts made of bytes; own arrays that are given up to be read alone. -/
namespace Go.Proofs.YtibhoanjglfaoaaGreat
open Go.RowKit
set_option linter.unusedVariables false

theorem run_sliceOf {P : Program} {T E n : Nat} (hT : sliceT P T = some (E, n)) (w : World) (a : Option Addr) (len cap : Nat) {lo hi : Option Value} {l h : Nat} (hlo : (lo = none ∧ l = 0) ∨ ∃ k, lo = some (.int k (l : Int))) (hhi : (hi = none ∧ h = len) ∨ ∃ k, hi = some (.int k (h : Int)))
    (h1 : l ≤ h) (h2 : h ≤ cap) : (Instr.sliceAt T (.slice a len cap) lo hi none).run P w = .ok (.slice (if cap = l then a else a.map (·.add (l * n))) (h - l) (cap - l)) w := by
  obtain ⟨hu, ii, hii, rfl⟩ := sliceT_spec hT
  have e1 : (0 : Int) ≤ (l : Int) ∧ (l : Int) ≤ (h : Int) := by omega
  have e2 : (0 : Int) ≤ (h : Int) ∧ (h : Int) ≤ (cap : Int) := by omega
  rcases hlo with ⟨rfl, rfl⟩ | ⟨k, rfl⟩ <;> rcases hhi with ⟨rfl, rfl⟩ | ⟨k', rfl⟩ <;>
    simp [Instr.sliceAt, Instr.slice, run_underlying hu, Instr.sliceBounds, run_sliceBound, sizeOf, typeInfo, *]
/-- A bound of a part: an operand, or the usual one. -/
inductive OB (t : Tmps) (dv : Nat) : Option Operand → List (Nat × AVal) → Nat → Prop
  | no : OB t dv none [] dv
  | yes {o : Operand} {k : IntKind} {v : Int} {l : Nat} (h : evo t o = some (.one (.c (.int k v)))) (hv : v = (l : Int)) : OB t dv (some o) (rdo o (.one (.c (.int k v)))) l
theorem OB.rd {t : Tmps} {dv : Nat} {o : Option Operand} {rd : List (Nat × AVal)} {l : Nat} (h : OB t dv o rd l) : ∀ p ∈ rd, lk t p.1 = some p.2 := by
  cases h with
  | no => intro p hp; cases hp
  | yes h hv => exact rdo_of h
theorem OB.ev {N : Nat} {t : Tmps} {dv : Nat} {o : Option Operand} {rd : List (Nat × AVal)} {l : Nat} (h : OB t dv o rd l) {g : Gh} {s : St} {a : Act} {w : World} (r : Rep N g s a w) (hr : ∀ p ∈ rd, lk s.t p.1 = some p.2) :
    (o.map a.eval = none ∧ l = dv) ∨ ∃ k, o.map a.eval = some (.int k (l : Int)) := by
  cases h with
  | no => exact .inl ⟨rfl, rfl⟩
  | yes h hv =>
    have e4 := (eval_ok r (evs_of h) hr : CellR g s.l w _ (.c _)).1
    subst hv
    exact .inr ⟨_, congrArg some e4⟩
section ops
variable {P : Program} {N : Nat} {s : St} {d : Nat} {ty : TypeId} {pos : String} {after : Array Edge} {gd : Option (Nat × Bool)}
/-- A part of an own array. -/
theorem x_oslice {α : Type} {e : Enc α} {xs : List α} {dp : Bool} {T E n l h K : Nat} {x : Operand} {lo hi : Option Operand} {rl rh : List (Nat × AVal)} (hN : Nat.blt d N = true) (hx : evo s.t x = some (.one (.own K))) (hl : lkl s.l K = some (.arr E e xs dp)) (hT : sliceT P T = some (E, n)) (hz : e.size = n) (ho : OB s.t 0 lo rl l) (hh : OB s.t xs.length hi rh h)
    (h1 : l ≤ h) (h2 : h ≤ xs.length) :
    Stp P N ⟨some d, .slice T x lo hi none, ty, pos, after, gd⟩ s ⟨(d, .one (.osl K l (h - l))) :: s.t, s.l⟩ ⟨rdo x (.one (.own K)) ++ (rl ++ rh), [(K, .arr E e xs dp)], [(d, .one (.osl K l (h - l)))], [], []⟩ :=
  Stp.pure rfl hN (fun p hp => by rcases List.mem_append.1 hp with hp | hp; exact rdo_of hx p hp; rcases List.mem_append.1 hp with hp | hp; exact ho.rd p hp; exact hh.rd p hp) (by simpa using hl) fun g s' a w ht hl' r => by
    have hK : lkl s'.l K = some (.arr E e xs dp) := hl' (K, .arr E e xs dp) (by simp)
    have e1 : a.eval x = g.hd K := (eval_ok r (evs_of hx) fun p hp => ht p (List.mem_append_left _ hp) : CellR g s'.l w _ (.own K)) _ _ _ _ _ hK
    have q1 := ho.ev r fun p hp => ht p (List.mem_append_right _ (List.mem_append_left _ hp))
    have q2 := hh.ev r fun p hp => ht p (List.mem_append_right _ (List.mem_append_right _ hp))
    rcases r.mem.arr K α E e xs dp hK with ⟨f1, f2, _⟩ | ⟨cap, vs, bss, f1, f2, f3, _⟩
    · subst f1
      have : h = 0 := by simpa using h2
      subst this
      have : l = 0 := by omega
      subst this
      have hrun := run_sliceOf hT w none 0 0 q1 q2 h1 h2
      refine ⟨.slice none 0 0, by simp only [execOp, e1, f2, Sem.run_bind, Option.map_none, hrun, Result.andThen_ok, Sem.run_pure]; rfl, fun β U f ys dq hq => .inl ⟨f2, rfl, rfl, rfl⟩⟩
    · have hrun := run_sliceOf hT w (some ⟨g.ρ K, 0, none⟩) xs.length cap q1 q2 h1 (by omega)
      refine ⟨_, by simp only [execOp, e1, f1, Sem.run_bind, Option.map_none, hrun, Result.andThen_ok, Sem.run_pure]; rfl, fun β U f ys dq hq => ?_⟩
      rw [hK] at hq; cases hq
      refine .inr ⟨xs.length, cap, if cap = l then 0 else l * n, f1, ?_, by omega, f2, fun hlc => by rw [if_neg (by omega), hz]⟩
      split <;> simp [addr_add]
theorem x_osllen {α : Type} {e : Enc α} {xs : List α} {dp : Bool} {T E n K l0 n0 : Nat} {x : Operand} (hN : Nat.blt d N = true) (h : evo s.t x = some (.one (.osl K l0 n0))) (hl : lkl s.l K = some (.arr E e xs dp)) (hT : sliceT P T = some (E, n)) (hb : n0 ≤ xs.length) :
    Stp P N ⟨some d, .call { callee := .builtin .len, args := #[x], argTypes := #[T] }, ty, pos, after, gd⟩ s ⟨(d, .one (.c (.int .i64 (n0 : Int)))) :: s.t, s.l⟩ ⟨rdo x (.one (.osl K l0 n0)), [(K, .arr E e xs dp)], [(d, .one (.c (.int .i64 (n0 : Int))))], [], []⟩ :=
  Stp.pure rfl hN (rdo_of h) (by simpa using hl) fun g s' a w ht hl' r => by
    have hK : lkl s'.l K = some (.arr E e xs dp) := hl' (K, .arr E e xs dp) (by simp)
    have hm : n0 ≤ maxLen := by
      rcases r.mem.arr K α E e xs dp hK with ⟨f1, f2, _⟩ | ⟨cap, vs, bss, f1, f2, f3, _⟩
      · subst f1; simp at hb; unfold maxLen; omega
      · omega
    rcases (eval_ok r (evs_of h) ht : CellR g s'.l w _ (.osl K l0 n0)) _ _ _ _ _ hK with ⟨f1, f2, f3, f4⟩ | ⟨len, cap, off, f1, f2, f3, f4, f5⟩
    · subst f4
      refine ⟨_, run_builtin rfl (v := .int .i64 ((0 : Nat) : Int)) ?_, rfl, wf_len hm⟩
      simp [builtin, Builtin.len_, run_underlying (sliceT_spec hT).1, f2, goInt]
    · refine ⟨_, run_builtin rfl (v := .int .i64 (n0 : Int)) ?_, rfl, wf_len hm⟩
      simp [builtin, Builtin.len_, run_underlying (sliceT_spec hT).1, f2, goInt]
theorem x_oslindex {α : Type} {e : Enc α} {xs : List α} {dp : Bool} {T E n K l0 n0 : Nat} {x ix : Operand} {ik : IntKind} {v : Int} {k : Nat} (hN : Nat.blt d N = true) (h : evo s.t x = some (.one (.osl K l0 n0))) (hl : lkl s.l K = some (.arr E e xs dp)) (h2 : evo s.t ix = some (.one (.c (.int ik v)))) (hT : sliceT P T = some (E, n)) (hz : e.size = n) (hv : v = (k : Int)) (hk : k < n0) {k1 : Nat} (hk1 : l0 + k = k1) :
    Stp P N ⟨some d, .indexAddr T x ix, ty, pos, after, gd⟩ s ⟨(d, .one (.optr K k1 0)) :: s.t, s.l⟩ ⟨rdo x (.one (.osl K l0 n0)) ++ rdo ix (.one (.c (.int ik v))), [(K, .arr E e xs dp)], [(d, .one (.optr K k1 0))], [], []⟩ :=
  Stp.pure rfl hN (fun p hp => by rcases List.mem_append.1 hp with hp | hp; exact rdo_of h p hp; exact rdo_of h2 p hp) (by simpa using hl) fun g s' a w ht hl' r => by
    subst hk1
    have hK : lkl s'.l K = some (.arr E e xs dp) := hl' (K, .arr E e xs dp) (by simp)
    have e4 : a.eval ix = .int ik v := (eval_ok r (evs_of h2) fun p hp => ht p (List.mem_append_right _ hp) : CellR g s'.l w _ (.c (.int ik v))).1
    rcases (eval_ok r (evs_of h) fun p hp => ht p (List.mem_append_left _ hp) : CellR g s'.l w _ (.osl K l0 n0)) _ _ _ _ _ hK with ⟨f1, f2, f3, f4⟩ | ⟨len, cap, off, f1, f2, f3, f4, f5⟩
    · omega
    · subst hv; subst hz
      have hrun := run_indexAt hT w (g.ρ K) off n0 (cap - l0) k ik hk
      refine ⟨_, by simp only [execOp, f2, e4, Sem.run_bind, Sem.run_pure, Result.andThen_ok, hrun]; rfl, fun β U f ys dq hq => ?_⟩
      rw [hK] at hq; cases hq
      rw [f5 (by omega), Nat.add_zero, Nat.add_mul]
end ops
/-! ### An own array is given up: nobody writes it any more -/
theorem box_re2 {g : Gh} {l : Locs} {w : World} (m : MemR g l w) {b : Nat} {cs cs' : List Cell} (hb : lkl l b = some (.box cs)) (h : ∀ (vs : Array Value) (t : TypeId), w.heap[g.ρ b]? = some (.cells vs t (0, 0)) → All2 (CellR g l w) vs.toList cs → All2 (CellR g l w) vs.toList cs') :
    MemR g ((b, some (.box cs')) :: l) w ∧ (∀ K, Step K g l w g ((b, some (.box cs')) :: l) w) ∧ ∀ j, okK g l g ((b, some (.box cs')) :: l) j := by
  obtain ⟨vs, t, h1, h2, h3⟩ := m.box b cs hb
  have h4 := box_set m hb (vs := vs.toList) (vs' := vs.toList) (T := t) (by simpa using h1) (h _ _ h1 h2)
  have e : w.setRow (g.ρ b) vs.toList.toArray = w := by
    simp only [Array.toArray_toList]
    have hh : (w.setRow (g.ρ b) vs).heap = w.heap := Array.ext_getElem? fun i => by
      by_cases hi : i = g.ρ b
      · subst hi; rw [setRow_heap w _ _ _ t _ h1, h1]
      · exact setRow_other w _ i _ hi
    have h5 : w.setRow (g.ρ b) vs = { w with heap := (w.setRow (g.ρ b) vs).heap } := rfl
    rw [h5, hh]
  rw [e] at h4
  exact ⟨h4.1, h4.2.1, h4.2.2.2⟩
def Gh.shut (g : Gh) (k : Nat) : Gh := { g with I := fun b => g.I b ∨ (g.hd k ≠ .slice none 0 0 ∧ b = g.ρ k) }
section shut
variable {g : Gh} {l : Locs} {w : World}
theorem shut_mem (m : MemR g l w) {k : Nat} {α : Type} {T : TypeId} {e : Enc α} {xs : List α} {dp : Bool} (hk : lkl l k = some (.arr T e xs dp)) :
    MemR (g.shut k) ((k, none) :: l) w ∧ (∀ K, Step K g l w (g.shut k) ((k, none) :: l) w) ∧ CellR (g.shut k) ((k, none) :: l) w (g.hd k) (.sl e xs) ∧ ∀ j, okK g l (g.shut k) ((k, none) :: l) j := by
  have live : g.hd k ≠ .slice none 0 0 → liv g k (.arr T e xs dp) := fun h => h
  have hlt : ∀ b, (g.shut k).I b → b < w.heap.size := fun b hb => hb.elim (m.ilt b) fun h => by rw [h.2]; exact m.lt hk (live h.1)
  have hu : ∀ j, j ≠ k → lkl ((k, none) :: l) j = none ∨ Untouched g l w (g.shut k) ((k, none) :: l) w j := fun j hj =>
    .inr ⟨lkl_cons_ne (Ne.symm hj), rfl, rfl, rfl, fun b hb hl => ⟨rfl, fun h => h.elim (m.notI hb hl) fun h => m.dis j k b _ hj hb hk hl (live h.1) h.2⟩⟩
  have ok : ∀ j, okK g l (g.shut k) ((k, none) :: l) j := fun j => by
    by_cases e : j = k
    · subst e; exact okK.gone lkl_cons_self
    · exact okK.same (lkl_cons_ne (Ne.symm e)) rfl rfl
  have no : ∀ {b : Blk}, lkl ((k, none) :: l) k = some b → False := fun h => by rw [lkl_cons_self] at h; cases h
  refine ⟨m.set1 k (fun _ _ => rfl) (fun _ h => .inl h) (Nat.le_refl _) hlt hu (.inl (ok k)) (fun cs h => (no h).elim) (fun α T e xs d h => (no h).elim) (fun j b b' _ _ _ h => (no h).elim) (fun α T e xs h => (no h).elim) (fun j α β T U e f xs ys _ _ _ h => (no h).elim), fun K => ?_, ?_, ok⟩
  · refine ⟨rfl, rfl, rfl, Nat.le_refl _, fun _ _ _ => rfl, fun _ h => .inl h, fun b h => h.elim .inl fun h => .inr (.inr ⟨k, _, hk, .inl ⟨live h.1, h.2⟩⟩), own_set1 k hu (fun b h => (no h).elim) (fun α T e xs h => (no h).elim), fun j hj hn => ?_⟩
    refine ⟨?_, ok j, fun cs hc => ?_⟩
    · by_cases e : k = j
      · subst e; rw [lk_cons_self]; simp
      · rw [lk_cons_ne e]; exact hn
    · by_cases e : k = j
      · subst e; rw [hk] at hc; cases hc
      · exact ⟨cs, by rw [lkl_cons_ne e]; exact hc⟩
  · obtain ⟨a, n, cap, bs, h1, h2, h3, _⟩ := (m.arr k _ _ _ _ _ hk).slice
    exact ⟨a, n, cap, bs, h1, h2, fun b hb => h3 b hb⟩
variable {P : Program} {N : Nat} {K : List Nat} {Kn : St → Prop} {Q : Exit → St → Prop} {s : St}
theorem AW_shut {α : Type} {T : TypeId} {e : Enc α} {xs : List α} {dp : Bool} {c : Code} (k t : Nat) (ht : lk s.t t = some (.one (.own k))) (hk : lkl s.l k = some (.arr T e xs dp))
    (h : AW P N K c Kn Q ⟨(t, .one (.sl e xs)) :: s.t, (k, none) :: s.l⟩) : AW P N K c Kn Q s := fun g a w r => by
  obtain ⟨m1, st1, c1, ok1⟩ := shut_mem r.mem hk
  have r1 := r.next0 (g' := g.shut k) (l' := (k, none) :: s.l) (w' := w) (fun _ _ => rfl) (fun _ h => .inl h) (Nat.le_refl _) (fun j _ => ok1 j) m1
  have hv : a.tmps.getD t undef = g.hd k := (r.tmp t _ ht : CellR g s.l w _ (.own k)) _ _ _ _ _ hk
  have r2 : Rep N (g.shut k) ⟨(t, .one (.sl e xs)) :: s.t, (k, none) :: s.l⟩ a w := ⟨r1.size, r1.defers, fun j x hj => by
    by_cases hjt : t = j
    · subst hjt
      rw [lk_cons_self] at hj; cases hj
      rw [hv]; exact c1
    · rw [lk_cons_ne hjt] at hj
      exact r1.tmp j x hj, m1⟩
  exact Go.wp_mono (h _ a w r2) fun e a1 w1 h1 => h1.trans r.mem m1 (st1 K)
/-- .. where it lies in a variable. -/
theorem AW_shutB {α : Type} {T : TypeId} {e : Enc α} {xs : List α} {dp : Bool} {c : Code} (k b off : Nat) {cs cs' : List Cell} (hb : lkl s.l b = some (.box cs)) (hc : nthC cs off = some (.own k)) (hcs : cs.set off (.sl e xs) = cs') (hk : lkl s.l k = some (.arr T e xs dp))
    (h : AW P N K c Kn Q ⟨s.t, (b, some (.box cs')) :: (k, none) :: s.l⟩) : AW P N K c Kn Q s := fun g a w r => by
  obtain ⟨m1, st1, c1, ok1⟩ := shut_mem r.mem hk
  have hkb : k ≠ b := fun e => by subst e; rw [hb] at hk; cases hk
  have hb' : lkl ((k, none) :: s.l) b = some (.box cs) := by rw [lkl_cons_ne hkb]; exact hb
  obtain ⟨m2, st2, ok2⟩ := box_re2 m1 hb' (cs' := cs') (fun vs ty hh hv => by
    obtain ⟨vs0, t0, z1, z2, z3⟩ := r.mem.box b cs hb
    have e0 : vs0 = vs := by
      have hh' : w.heap[g.ρ b]? = some (.cells vs ty (0, 0)) := hh
      rw [z1] at hh'; cases hh'; rfl
    subst e0
    obtain ⟨v, h1, h2⟩ := z2.get (nthC_get hc)
    have hvk : v = g.hd k := h2 _ _ _ _ _ hk
    have h3 := hv.set (i := off) (v := v) (x := .sl e xs) (hvk ▸ c1)
    rw [hcs] at h3
    have h4 : vs0.toList.set off v = vs0.toList := by
      obtain ⟨hl, rfl⟩ := List.getElem?_eq_some_iff.1 h1
      exact List.set_getElem_self hl
    rwa [h4] at h3)
  have r2 := r.next0 (g' := g.shut k) (l' := (b, some (.box cs')) :: (k, none) :: s.l) (w' := w) (fun _ _ => rfl) (fun _ h => .inl h) (Nat.le_refl _) (fun j hj => (ok1 j).trans (ok2 j)) m2
  exact Go.wp_mono (h _ a w r2) fun e a1 w1 h1 => h1.trans r.mem m2 ((st1 K).trans r.mem m1 (st2 K))
end shut
end Go.Proofs.YtibhoanjglfaoaaGreat

/- Results that nobody writes any more; arrays whose elements are shared; appending and clearing in regions. -/
namespace Go.Proofs.YtibhoanjglfaoaaGreat
open Go.RowKit
set_option linter.unusedVariables false

/-! ### An array's elements are no longer its own alone -/
section
variable {g : Gh} {l : Locs} {w : World}
theorem shallow_mem (m : MemR g l w) {k : Nat} {α : Type} {T : TypeId} {e : Enc α} {xs : List α} {dp : Bool} (hk : lkl l k = some (.arr T e xs dp)) :
    MemR g ((k, some (.arr T e xs false)) :: l) w ∧ (∀ K, Step K g l w g ((k, some (.arr T e xs false)) :: l) w) ∧ ∀ j, okK g l g ((k, some (.arr T e xs false)) :: l) j := by
  have ok : ∀ j, okK g l g ((k, some (.arr T e xs false)) :: l) j := fun j => by
    by_cases q : k = j
    · subst q
      exact ⟨fun cs h => (by rw [lkl_cons_self] at h; cases h), fun β U e2 ys d h => by rw [lkl_cons_self] at h; cases h; exact ⟨_, _, _, _, _, hk, rfl, rfl, rfl⟩⟩
    · exact okK.same (lkl_cons_ne q) rfl rfl
  have back : ∀ j b, lkl ((k, some (Blk.arr T e xs false)) :: l) j = some b → ∃ b', lkl l j = some b' ∧ (liv g j b ↔ liv g j b') ∧ (∀ (β : Type) (U : TypeId) (e2 : Enc β) (ys : List β), b = .arr U e2 ys true → b' = .arr U e2 ys true) := fun j b h => by
    by_cases q : k = j
    · subst q
      rw [lkl_cons_self] at h; cases h
      exact ⟨_, hk, Iff.rfl, fun β U e2 ys h => by cases h⟩
    · rw [lkl_cons_ne q] at h
      exact ⟨b, h, Iff.rfl, fun _ _ _ _ h => h⟩
  refine ⟨⟨m.ilt, fun j cs h => ?_, fun j β U e2 ys d h => ?_, fun i j b b' hij h1 h2 l1 l2 => ?_, fun j β U e2 ys h => ?_, fun i j β γ U V e2 e3 ys zs hij h1 h2 => ?_⟩, fun K => ⟨rfl, rfl, rfl, Nat.le_refl _, fun _ _ _ => rfl, fun _ h => h, fun _ h => .inl h, fun b hb => ?_, fun j hj hn => ⟨?_, ok j, fun cs hc => ?_⟩⟩, ok⟩
  · by_cases q : k = j
    · subst q; rw [lkl_cons_self] at h; cases h
    · rw [lkl_cons_ne q] at h
      obtain ⟨vs, t, h1, h2, h3⟩ := m.box j cs h
      exact ⟨vs, t, h1, h2.mono fun a c _ hr => CellR.step (fun _ _ => rfl) (fun _ h => h) (Nat.le_refl _) (fun i _ => ok i) hr, h3⟩
  · by_cases q : k = j
    · subst q
      rw [lkl_cons_self] at h; cases h
      rcases m.arr k _ _ _ _ _ hk with ⟨h1, h2, _⟩ | ⟨cap, vs, bss, h1, h2, h3, h4, h5, h6, h7, h8, _⟩
      · exact .inl ⟨h1, h2, fun h => by cases h⟩
      · exact .inr ⟨cap, vs, bss, h1, h2, h3, h4, h5, h6, h7, h8, fun h => by cases h⟩
    · rw [lkl_cons_ne q] at h
      exact m.arr j _ _ _ _ _ h
  · obtain ⟨c, q1, q2, _⟩ := back i b h1
    obtain ⟨c', q3, q4, _⟩ := back j b' h2
    exact m.dis i j _ _ hij q1 q3 (q2.1 l1) (q4.1 l2)
  · obtain ⟨c, q1, _, q3⟩ := back j _ h
    rw [q3 _ _ _ _ rfl] at q1
    exact m.fr j _ _ _ _ q1
  · obtain ⟨c, q1, _, q3⟩ := back i _ h1
    obtain ⟨c', q4, _, q6⟩ := back j _ h2
    rw [q3 _ _ _ _ rfl] at q1
    rw [q6 _ _ _ _ rfl] at q4
    exact m.fd i j _ _ _ _ _ _ _ _ hij q1 q4
  · obtain ⟨j, blk, h1, h2⟩ := hb
    obtain ⟨c, q1, q2, q3⟩ := back j blk h1
    rcases h2 with ⟨h2, h3⟩ | ⟨β, U, e2, ys, h2, h3⟩
    · exact .inl ⟨j, c, q1, .inl ⟨q2.1 h2, h3⟩⟩
    · exact .inl ⟨j, c, q1, .inr ⟨β, U, e2, ys, q3 _ _ _ _ h2, h3⟩⟩
  · by_cases q : k = j
    · subst q; rw [lk_cons_self]; simp
    · rw [lk_cons_ne q]; exact hn
  · by_cases q : k = j
    · subst q; rw [hk] at hc; cases hc
    · exact ⟨cs, by rw [lkl_cons_ne q]; exact hc⟩
variable {P : Program} {N : Nat} {K : List Nat} {Kn : St → Prop} {Q : Exit → St → Prop} {s : St}
theorem AW_shallow {α : Type} {T : TypeId} {e : Enc α} {xs : List α} {dp : Bool} {c : Code} (k : Nat) (hk : lkl s.l k = some (.arr T e xs dp))
    (h : AW P N K c Kn Q ⟨s.t, (k, some (.arr T e xs false)) :: s.l⟩) : AW P N K c Kn Q s := fun g a w r => by
  obtain ⟨m1, st1, ok1⟩ := shallow_mem r.mem hk
  have r1 := r.next0 (g' := g) (l' := (k, some (.arr T e xs false)) :: s.l) (w' := w) (fun _ _ => rfl) (fun _ h => h) (Nat.le_refl _) (fun j _ => ok1 j) m1
  exact Go.wp_mono (h g a w r1) fun e a1 w1 h1 => h1.trans r.mem m1 (st1 K)
end

/-! ### A result that is given up to be read alone -/
def frzC {α : Type} (e : Enc α) (xs : List α) : Cell → Cell
  | .own _ => .sl e xs
  | c => c
def AVal.frz1 {α : Type} (e : Enc α) (xs : List α) : AVal → AVal
  | .one x => .one (frzC e xs x)
  | .agg xs' => .agg (xs'.map (frzC e xs))
  | .tup xs' => .tup xs'
def AVal.frz {α : Type} (e : Enc α) (xs : List α) : AVal → AVal
  | .tup xs' => .tup (xs'.map (AVal.frz1 e xs))
  | x => x.frz1 e xs
section
variable {g g' : Gh} {w : World} {α : Type} {T : TypeId} {e : Enc α} {xs : List α} {d : Bool}
theorem frzC_ok (hs : CellR g' [] w (g.hd 0) (.sl e xs)) {v : Value} {c : Cell} (hc : cleanC c = true) (hi : ∀ k ∈ c.ids, k = 0) (h : CellR g [(0, some (.arr T e xs d))] w v c) : CellR g' [] w v (frzC e xs c) := by
  cases c with
  | c u => exact h
  | own k =>
    have hk0 : k = 0 := hi k (by simp [Cell.ids])
    subst hk0
    have : v = g.hd 0 := h _ _ _ _ _ rfl
    rw [this]; exact hs
  | any => trivial
  | _ => cases hc
theorem frz1_ok (hs : CellR g' [] w (g.hd 0) (.sl e xs)) : ∀ {v : Value} {x : AVal}, cleanV x = true → (∀ k ∈ x.ids1, k = 0) → VR1 g [(0, some (.arr T e xs d))] w v x → VR1 g' [] w v (x.frz1 e xs)
  | v, .one c, hc, hi, h => frzC_ok hs hc hi h
  | v, .agg cs, hc, hi, ⟨vs, h1, h2⟩ => by
    refine ⟨vs, h1, ?_⟩
    clear h1
    have hc' : ∀ c ∈ cs, cleanC c = true := fun c hm => List.all_eq_true.1 hc c hm
    have hi' : ∀ c ∈ cs, ∀ k ∈ c.ids, k = 0 := fun c hm k hk => hi k (List.mem_flatMap.2 ⟨c, hm, hk⟩)
    clear hc hi
    induction cs generalizing vs with
    | nil => cases vs with | nil => trivial | cons _ _ => exact h2.elim
    | cons c cs ih =>
      cases vs with
      | nil => exact h2.elim
      | cons u us => exact ⟨frzC_ok hs (hc' c (by simp)) (hi' c (by simp)) h2.1, ih us h2.2 (fun c hm => hc' c (by simp [hm])) (fun c hm => hi' c (by simp [hm]))⟩
  | v, .tup _, _, _, h => h.elim
end
theorem AC.frz {P : Program} {f : FuncId} {args : List AVal} {res : AVal} {α : Type} {T : TypeId} {e : Enc α} {xs : List α} {d : Bool} (h : AC P f args [] res [(0, some (.arr T e xs d))]) (hc : cleanV res = true) (hi : ∀ k ∈ res.ids, k = 0) : AC P f args [] (res.frz e xs) [] := by
  refine ⟨h.fn, fun g w cargs m ha => (h.run g w cargs m ha).mono ?_⟩
  rintro r w' ⟨v, g1, rfl, m1, hv, hs⟩
  have hk : lkl [(0, some (Blk.arr T e xs d))] 0 = some (.arr T e xs d) := rfl
  obtain ⟨m2, s2, c2, _⟩ := shut_mem m1 hk
  have T1 := Step.trans m m1 hs (s2 [])
  have no : ∀ k b, lkl [] k ≠ some b := fun k b h => by simp [lkl, lk] at h
  have m3 : MemR (g1.shut 0) [] w' := ⟨m2.ilt, fun k cs h => (no _ _ h).elim, fun k β T e2 ys d h => (no _ _ h).elim, fun j k b b' _ h => (no _ _ h).elim, fun k β T e2 ys h => (no _ _ h).elim, fun j k β γ T U e2 e3 ys zs _ h => (no _ _ h).elim⟩
  have hsl : CellR (g1.shut 0) [] w' (g1.hd 0) (.sl e xs) := c2
  refine ⟨v, g1.shut 0, rfl, m3, ?_, ⟨T1.os, T1.tape, T1.output, T1.size, T1.keep, T1.imm, T1.imm', fun b hb => ?_, fun k hk => by cases hk⟩⟩
  · cases res with
    | one x => exact frz1_ok (d := d) (T := T) hsl hc (fun k hk => hi k hk) hv
    | agg cs => exact frz1_ok (x := .agg cs) (d := d) (T := T) hsl hc (fun k hk => hi k hk) hv
    | tup ys =>
      obtain ⟨vs, h1, h2⟩ := hv
      refine ⟨vs, h1, ?_⟩
      clear h1
      have hc' : ∀ y ∈ ys, cleanV y = true := fun y hm => by
        have := List.all_eq_true.1 hc y hm
        cases y with
        | one _ => exact this
        | agg _ => exact this
        | tup _ => cases this
      have hi' : ∀ y ∈ ys, ∀ k ∈ y.ids1, k = 0 := fun y hm k hk => hi k (List.mem_flatMap.2 ⟨y, hm, hk⟩)
      clear hc hi h ha
      induction ys generalizing vs with
      | nil => cases vs with | nil => trivial | cons _ _ => exact h2.elim
      | cons y ys ih =>
        cases vs with
        | nil => exact h2.elim
        | cons u us => exact ⟨frz1_ok (d := d) (T := T) hsl (hc' y (by simp)) (hi' y (by simp)) h2.1, ih us h2.2 (fun y hm => hc' y (by simp [hm])) (fun y hm => hi' y (by simp [hm]))⟩
  · obtain ⟨k, blk, h1, _⟩ := hb
    exact (no _ _ h1).elim

/-! ### append and clear, where their runs are known by equations -/
end Go.Proofs.YtibhoanjglfaoaaGreat

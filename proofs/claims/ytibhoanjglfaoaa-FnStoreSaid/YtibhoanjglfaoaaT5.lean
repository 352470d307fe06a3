/- Lemmas of the walks, part 5. -/
import Derived.Test.YtibhoanjglfaoaaT4
/- Bytes read again (printed by walk.py) -/
namespace Go.Proofs.Ytibhoanjglfaoaa
open Go.RowKit
set_option linter.unusedVariables false
set_option linter.unusedSimpArgs false
set_option maxRecDepth 100000

set_option maxHeartbeats 4000000 in
theorem getI_c (l : List Int) (hl : l.length ≤ 6) : AC Try.prog 116 [.one (.sl (intE .u8) l)] [] (.one (.c (.int .i64 (bign l)))) [] := by
  refine AC_body1 Try.func116 rfl rfl Try.ntmps116 rfl Try.results116 ?_
  refine AW_slbyte 0 rfl (fun hy0 => ?_)
  refine AW_seq ?_
  refine AW_region ?_
  refine AL_p (x_assign rfl rfl) ?_
  refine AL_nil ?_
  refine AW_seq ?_
  refine AW_region ?_
  refine AL_p (x_assign rfl rfl) ?_
  refine AL_nil ?_
  refine AW_seq ?_
  refine AW_seq ?_
  refine AW_region ?_
  refine AL_p (x_move rfl rfl) ?_
  refine AL_p (x_len (E := 5) (n := 1) rfl rfl (by kernel_rfl)) ?_
  refine AL_p (x_move rfl rfl) ?_
  refine AL_nil ?_
  refine AW_block ?_
  refine AW_loop2 (ι := {q : Nat // q ≤ l.length}) (fun p => [(3, .one (.c (.int .i64 (bign (l.take (p.1)))))), (8, .one (.c (.int .i64 ((p.1) : Int))))]) (fun p => []) [6, 7] [] (fun p => l.length - (p.1)) ⟨0, by omega⟩ (rn []) ?_ ?_
  exact ⟨by (repeat refine ⟨⟨_, rfl, by first | exact VLe.rf | exact vle_int (by dsimp only; omega)⟩, ?_⟩); exact trivial, by (repeat refine ⟨⟨_, rfl, by first | exact BLe.rf | exact BLe.box AllC.rf | exact BLe.arr (by exact rfl)⟩, ?_⟩); exact trivial, by repeat (first | exact trivial | refine ⟨⟨rfl, by first | (left; intro h; cases h) | (right; rfl), by first | exact (fun _ h => ⟨_, h⟩) | exact (fun _ _ => ⟨_, rfl⟩)⟩, ?_⟩), rfl⟩
  rintro ⟨k, hinv⟩
  dsimp only
  have hk := hinv
  have hnb := bign_le (l := l.take k) (n := 6) (by simp; omega) (by omega)
  refine AW_seq ?_
  refine AW_region ?_
  refine AL_b (x_lss rfl rfl rfl) (fun b9 h9 => ?_)
  refine AL_nil ?_
  refine AW_seq ?_
  cases b9
  · try simp only [tdy] at h9
    refine AW_condF rfl ?_
    refine AW_exit (BQ_hit ?_)
    refine AW_seq ?_
    refine AW_region ?_
    refine AL_p (x_move rfl rfl) ?_
    refine AL_p (x_assign rfl rfl) ?_
    refine AL_nil ?_
    refine AW_ret ?_
    exact ⟨rn [], ⟨⟨⟨_, rfl, vle_int (by rw [List.take_of_length_le (by omega)])⟩, trivial⟩, trivial, trivial, rfl⟩⟩
  try simp only [tdy] at h9
  have hx := hy0 _ (List.getElem_mem (l := l) (n := k) (by omega))
  have hs := bign_next (l := l) (k := k) (by omega) hx
  refine AW_condT rfl ?_
  refine AW_skip ?_
  refine AW_seq ?_
  refine AW_block ?_
  refine AW_seq ?_
  refine AW_region ?_
  refine AL_p (x_index (E := 5) (n := 1) rfl rfl rfl (by kernel_rfl) rfl (k := k) (by omega) (by omega)) ?_
  refine AL_p (x_eload1 rfl rfl (by kernel_rfl) rfl) ?_
  refine AL_p (x_assign rfl rfl) ?_
  refine AL_nil ?_
  refine AW_region ?_
  refine AL_p (x_move rfl rfl) ?_
  refine AL_p (x_mul rfl rfl rfl (IntWalk.i64_in _ (by omega))) ?_
  refine AL_p (x_move rfl rfl) ?_
  refine AL_p (x_conv (k' := .i64) rfl rfl (by kernel_rfl) (IntWalk.i64_in _ (by omega))) ?_
  refine AL_p (x_add rfl rfl rfl (IntWalk.i64_in _ (by omega))) ?_
  refine AL_p (x_assign rfl rfl) ?_
  refine AL_nil ?_
  refine AW_region ?_
  refine AL_p (x_add rfl rfl rfl (IntWalk.i64_in _ (by omega))) ?_
  refine AL_p (x_move rfl rfl) ?_
  refine AL_nil ?_
  refine ⟨⟨k + 1, by omega⟩, rn [], ?_, by dsimp only; omega⟩
  exact ⟨by (repeat refine ⟨⟨_, rfl, by first | exact VLe.rf | exact vle_int (by dsimp only; omega)⟩, ?_⟩); exact trivial, by (repeat refine ⟨⟨_, rfl, by first | exact BLe.rf | exact BLe.box AllC.rf | exact BLe.arr (by exact rfl)⟩, ?_⟩); exact trivial, by repeat (first | exact trivial | refine ⟨⟨rfl, by first | (left; intro h; cases h) | (right; rfl), by first | exact (fun _ h => ⟨_, h⟩) | exact (fun _ _ => ⟨_, rfl⟩)⟩, ?_⟩), rfl⟩

set_option maxHeartbeats 4000000 in
theorem takeI_c (xs : List Int) (n : Int) (h0 : 0 ≤ n) (h1 : n ≤ 6) : AC Try.prog 74 [.one (.ptr 200 0), .one (.c (.int .i64 n))] [(200, some (.box [.sl (intE .u8) xs]))] (.one (.c (.int .i64 (takeI xs n).1))) [(200, some (.box [.sl (intE .u8) (takeI xs n).2]))] := by
  refine AC_body1 Try.func74 rfl rfl Try.ntmps74 rfl Try.results74 ?_
  refine AW_seq ?_
  refine AW_region ?_
  refine AL_p (x_assign rfl rfl) ?_
  refine AL_nil ?_
  refine AW_seq ?_
  refine AW_seq ?_
  refine AW_region ?_
  refine AL_p (x_move rfl rfl) ?_
  refine AL_p (x_nilc rfl rfl rfl) ?_
  refine AL_p (x_load1 rfl rfl rfl (by kernel_rfl) rfl) ?_
  refine AL_p (x_len (E := 5) (n := 1) rfl rfl (by kernel_rfl)) ?_
  refine AL_p (x_move rfl rfl) ?_
  refine AL_b (x_lss rfl rfl rfl) (fun b11 h11 => ?_)
  refine AL_nil ?_
  cases b11
  rotate_left
  · try simp only [tdy] at h11
    have hno := takeI_no h11
    refine AW_condT rfl ?_
    refine AW_seq ?_
    refine AW_region ?_
    refine AL_p (x_move rfl rfl) ?_
    refine AL_p (x_nilc rfl rfl rfl) ?_
    refine AL_p (x_store (n := 1) rfl rfl rfl rfl (by kernel_rfl) rfl rfl rfl) ?_
    refine AL_nil ?_
    refine AW_seq ?_
    refine AW_region ?_
    refine AL_p (x_assign rfl rfl) ?_
    refine AL_nil ?_
    refine AW_ret ?_
    exact ⟨rn [], ⟨⟨⟨_, rfl, vle_int (by rw [hno]; first | done | rfl)⟩, trivial⟩, ⟨⟨_, rfl, by rw [hno]; first | exact BLe.rf | exact BLe.box ⟨CLe.nil, trivial⟩⟩, trivial⟩, by repeat (first | exact trivial | refine ⟨⟨rfl, by first | (left; intro h; cases h) | (right; rfl), by first | exact (fun _ h => ⟨_, h⟩) | exact (fun _ _ => ⟨_, rfl⟩)⟩, ?_⟩), rfl⟩⟩
  try simp only [tdy] at h11
  have hno := takeI_ok (xs := xs) (n := n) (by omega)
  refine AW_condF rfl ?_
  refine AW_skip ?_
  refine AW_seq ?_
  refine AW_region ?_
  refine AL_p (x_move rfl rfl) ?_
  refine AL_p (x_nilc rfl rfl rfl) ?_
  refine AL_p (x_load1 rfl rfl rfl (by kernel_rfl) rfl) ?_
  refine AL_p (x_move rfl rfl) ?_
  refine AL_p (x_slice (E := 5) (n := 1) rfl rfl (by kernel_rfl) rfl .no (.yes (l := n.toNat) rfl (by omega)) (by omega) (by first | exact Nat.le_refl _ | omega) rfl) ?_
  refine AL_p (x_call0 rfl rfl rfl (getI_c (xs.take n.toNat) (by simp; omega)) rfl rfl) ?_
  refine AL_p (x_assign rfl rfl) ?_
  refine AL_nil ?_
  refine AW_seq ?_
  refine AW_region ?_
  refine AL_p (x_move rfl rfl) ?_
  refine AL_p (x_move rfl rfl) ?_
  refine AL_p (x_nilc rfl rfl rfl) ?_
  refine AL_p (x_load1 rfl rfl rfl (by kernel_rfl) rfl) ?_
  refine AL_p (x_move rfl rfl) ?_
  refine AL_p (x_slice (E := 5) (n := 1) rfl rfl (by kernel_rfl) rfl (.yes (l := n.toNat) rfl (by omega)) .no (by omega) (by first | exact Nat.le_refl _ | omega) part_drop) ?_
  refine AL_p (x_nilc rfl rfl rfl) ?_
  refine AL_p (x_store (n := 1) rfl rfl rfl rfl (by kernel_rfl) rfl rfl rfl) ?_
  refine AL_nil ?_
  refine AW_seq ?_
  refine AW_region ?_
  refine AL_p (x_move rfl rfl) ?_
  refine AL_p (x_assign rfl rfl) ?_
  refine AL_nil ?_
  refine AW_ret ?_
  exact ⟨rn [], ⟨⟨⟨_, rfl, vle_int (by rw [hno]; first | done | rfl)⟩, trivial⟩, ⟨⟨_, rfl, by rw [hno]; first | exact BLe.rf | exact BLe.box ⟨CLe.nil, trivial⟩⟩, trivial⟩, by repeat (first | exact trivial | refine ⟨⟨rfl, by first | (left; intro h; cases h) | (right; rfl), by first | exact (fun _ h => ⟨_, h⟩) | exact (fun _ _ => ⟨_, rfl⟩)⟩, ?_⟩), rfl⟩⟩

set_option maxHeartbeats 4000000 in
theorem wordI_c (xs : List Int) (n : Int) (h0 : 0 ≤ n) : AC Try.prog 75 [.one (.ptr 200 0), .one (.c (.int .i64 n))] [(200, some (.box [.sl (intE .u8) xs]))] (.one (.c (.string (wordI xs n).1))) [(200, some (.box [.sl (intE .u8) (wordI xs n).2]))] := by
  refine AC_body1 Try.func75 rfl rfl Try.ntmps75 rfl Try.results75 ?_
  refine AW_seq ?_
  refine AW_region ?_
  refine AL_p (x_assign rfl rfl) ?_
  refine AL_nil ?_
  refine AW_seq ?_
  refine AW_seq ?_
  refine AW_region ?_
  refine AL_p (x_move rfl rfl) ?_
  refine AL_p (x_nilc rfl rfl rfl) ?_
  refine AL_p (x_load1 rfl rfl rfl (by kernel_rfl) rfl) ?_
  refine AL_p (x_len (E := 5) (n := 1) rfl rfl (by kernel_rfl)) ?_
  refine AL_p (x_move rfl rfl) ?_
  refine AL_b (x_lss rfl rfl rfl) (fun b11 h11 => ?_)
  refine AL_nil ?_
  cases b11
  rotate_left
  · try simp only [tdy] at h11
    have hno := wordI_no h11
    refine AW_condT rfl ?_
    refine AW_seq ?_
    refine AW_region ?_
    refine AL_p (x_move rfl rfl) ?_
    refine AL_p (x_nilc rfl rfl rfl) ?_
    refine AL_p (x_store (n := 1) rfl rfl rfl rfl (by kernel_rfl) rfl rfl rfl) ?_
    refine AL_nil ?_
    refine AW_seq ?_
    refine AW_region ?_
    refine AL_p (x_assign rfl rfl) ?_
    refine AL_nil ?_
    refine AW_ret ?_
    exact ⟨rn [], ⟨⟨⟨_, rfl, vle_str (by rw [hno]; first | done | rfl)⟩, trivial⟩, ⟨⟨_, rfl, by rw [hno]; first | exact BLe.rf | exact BLe.box ⟨CLe.nil, trivial⟩⟩, trivial⟩, by repeat (first | exact trivial | refine ⟨⟨rfl, by first | (left; intro h; cases h) | (right; rfl), by first | exact (fun _ h => ⟨_, h⟩) | exact (fun _ _ => ⟨_, rfl⟩)⟩, ?_⟩), rfl⟩⟩
  try simp only [tdy] at h11
  have hno := wordI_ok (xs := xs) (n := n) (by omega)
  refine AW_condF rfl ?_
  refine AW_skip ?_
  refine AW_seq ?_
  refine AW_region ?_
  refine AL_p (x_move rfl rfl) ?_
  refine AL_p (x_nilc rfl rfl rfl) ?_
  refine AL_p (x_load1 rfl rfl rfl (by kernel_rfl) rfl) ?_
  refine AL_p (x_move rfl rfl) ?_
  refine AL_p (x_slice (E := 5) (n := 1) rfl rfl (by kernel_rfl) rfl .no (.yes (l := n.toNat) rfl (by omega)) (by omega) (by first | exact Nat.le_refl _ | omega) rfl) ?_
  refine AL_p (x_tostr (E := 5) rfl rfl (by kernel_rfl)) ?_
  refine AL_p (x_assign rfl rfl) ?_
  refine AL_nil ?_
  refine AW_seq ?_
  refine AW_region ?_
  refine AL_p (x_move rfl rfl) ?_
  refine AL_p (x_move rfl rfl) ?_
  refine AL_p (x_nilc rfl rfl rfl) ?_
  refine AL_p (x_load1 rfl rfl rfl (by kernel_rfl) rfl) ?_
  refine AL_p (x_move rfl rfl) ?_
  refine AL_p (x_slice (E := 5) (n := 1) rfl rfl (by kernel_rfl) rfl (.yes (l := n.toNat) rfl (by omega)) .no (by omega) (by first | exact Nat.le_refl _ | omega) part_drop) ?_
  refine AL_p (x_nilc rfl rfl rfl) ?_
  refine AL_p (x_store (n := 1) rfl rfl rfl rfl (by kernel_rfl) rfl rfl rfl) ?_
  refine AL_nil ?_
  refine AW_seq ?_
  refine AW_region ?_
  refine AL_p (x_move rfl rfl) ?_
  refine AL_p (x_assign rfl rfl) ?_
  refine AL_nil ?_
  refine AW_ret ?_
  exact ⟨rn [], ⟨⟨⟨_, rfl, vle_str (by rw [hno]; first | done | rfl)⟩, trivial⟩, ⟨⟨_, rfl, by rw [hno]; first | exact BLe.rf | exact BLe.box ⟨CLe.nil, trivial⟩⟩, trivial⟩, by repeat (first | exact trivial | refine ⟨⟨rfl, by first | (left; intro h; cases h) | (right; rfl), by first | exact (fun _ h => ⟨_, h⟩) | exact (fun _ _ => ⟨_, rfl⟩)⟩, ?_⟩), rfl⟩⟩

set_option maxHeartbeats 4000000 in
theorem valI_c (xs : List Int) : AC Try.prog 76 [.one (.ptr 200 0)] [(200, some (.box [.sl (intE .u8) xs]))] (.agg (valC (valI xs).1)) [(200, some (.box [.sl (intE .u8) (valI xs).2]))] := by
  have hin := takeI_in (xs := xs) (n := 1) (by omega)
  refine AC_bodyC (n := 2) (k := 9) (T := [(2, .one (.ptr 9 0))]) (Lf := ((9, some (.box (valC (valI xs).1))) :: [(200, some (.box [.sl (intE .u8) (valI xs).2]))])) Try.func76 rfl rfl Try.ntmps76 rfl Try.results76 rfl rfl (by kernel_rfl) rfl rfl ⟨trivial, (by repeat (first | exact trivial | refine ⟨⟨_, rfl, BLe.rf⟩, ?_⟩)), (by repeat (first | exact trivial | refine ⟨⟨rfl, by first | (left; intro h; cases h) | (right; rfl), by first | exact (fun _ h => ⟨_, h⟩) | exact (fun _ _ => ⟨_, rfl⟩)⟩, ?_⟩)), rfl⟩ ?_
  refine AW_seq ?_
  refine AW_region ?_
  refine AL_p (x_alloc (z := .agg #[.int .i64 0, .string ⟨#[]⟩]) 100 rfl (by kernel_rfl) rfl rfl rfl rfl) ?_
  refine AL_nil ?_
  refine AW_seq ?_
  refine AW_region ?_
  refine AL_p (x_move rfl rfl) ?_
  refine AL_p (x_call (ks := []) (L := [(200, some _)]) (L' := [(200, some _)]) rfl rfl rfl (takeI_c xs 1 (by omega) (by omega)) rfl AllV.rf (caught_of rfl) rfl rfl rfl ⟨rfl, trivial⟩ rfl) ?_
  refine AL_p (x_assign rfl rfl) ?_
  refine AL_nil ?_
  refine AW_seq ?_
  refine AW_seq ?_
  refine AW_region ?_
  refine AL_p (x_move rfl rfl) ?_
  refine AL_b (x_eql rfl rfl rfl) (fun b7 h7 => ?_)
  refine AL_nil ?_
  cases b7
  rotate_left
  · try simp only [tdy] at h7
    have hno := valI_num h7
    refine AW_condT rfl ?_
    refine AW_seq ?_
    refine AW_region ?_
    refine AL_p (x_move rfl rfl) ?_
    refine AL_p (x_call (ks := []) (L := [(200, some _)]) (L' := [(200, some _)]) rfl rfl rfl (takeI_c (takeI xs 1).2 6 (by omega) (by omega)) rfl AllV.rf (caught_of rfl) rfl rfl rfl ⟨rfl, trivial⟩ rfl) ?_
    refine AL_p (x_build (zs := [.int .i64 0, .string ⟨#[]⟩]) (places := [(0, 1), (1, 1)]) rfl (by kernel_rfl) rfl rfl rfl rfl rfl) ?_
    refine AL_p (x_store (n := 2) rfl rfl rfl rfl (by kernel_rfl) rfl rfl rfl) ?_
    refine AL_nil ?_
    refine AW_ret ?_
    exact ⟨rn [(9, 100)], ⟨⟨⟨_, rfl, VLe.rf⟩, trivial⟩, ⟨⟨_, rfl, by first | exact BLe.rf | exact ble_eq (by rw [hno]; rfl)⟩, ⟨_, rfl, by first | exact BLe.rf | exact ble_eq (by rw [hno]; first | done | rfl)⟩, trivial⟩, by repeat (first | exact trivial | refine ⟨⟨rfl, by first | (left; intro h; cases h) | (right; rfl), by first | exact (fun _ h => ⟨_, h⟩) | exact (fun _ _ => ⟨_, rfl⟩)⟩, ?_⟩), rfl⟩⟩
  try simp only [tdy] at h7
  have hno := valI_word h7
  refine AW_condF rfl ?_
  refine AW_skip ?_
  refine AW_seq ?_
  refine AW_region ?_
  refine AL_p (x_move rfl rfl) ?_
  refine AL_p (x_move rfl rfl) ?_
  refine AL_p (x_call (ks := []) (L := [(200, some _)]) (L' := [(200, some _)]) rfl rfl rfl (wordI_c (takeI xs 1).2 (takeI xs 1).1 hin.1) rfl AllV.rf (caught_of rfl) rfl rfl rfl ⟨rfl, trivial⟩ rfl) ?_
  refine AL_p (x_build (zs := [.int .i64 0, .string ⟨#[]⟩]) (places := [(0, 1), (1, 1)]) rfl (by kernel_rfl) rfl rfl rfl rfl rfl) ?_
  refine AL_p (x_store (n := 2) rfl rfl rfl rfl (by kernel_rfl) rfl rfl rfl) ?_
  refine AL_nil ?_
  refine AW_ret ?_
  exact ⟨rn [(9, 100)], ⟨⟨⟨_, rfl, VLe.rf⟩, trivial⟩, ⟨⟨_, rfl, by first | exact BLe.rf | exact ble_eq (by rw [hno]; rfl)⟩, ⟨_, rfl, by first | exact BLe.rf | exact ble_eq (by rw [hno]; first | done | rfl)⟩, trivial⟩, by repeat (first | exact trivial | refine ⟨⟨rfl, by first | (left; intro h; cases h) | (right; rfl), by first | exact (fun _ h => ⟨_, h⟩) | exact (fun _ _ => ⟨_, rfl⟩)⟩, ?_⟩), rfl⟩⟩

set_option maxHeartbeats 4000000 in
theorem equalB_c (x y : List Int) : AC Try.prog 77 [.one (.sl (intE .u8) x), .one (.sl (intE .u8) y)] [] (.one (.c (.bool (decide (x = y))))) [] := by
  refine AC_body1 Try.func77 rfl rfl Try.ntmps77 rfl Try.results77 ?_
  refine AW_slmax 0 rfl (fun hm0 => ?_)
  refine AW_slmax 1 rfl (fun hm1 => ?_)
  refine AW_seq ?_
  refine AW_region ?_
  refine AL_p (x_assign rfl rfl) ?_
  refine AL_nil ?_
  refine AW_seq ?_
  refine AW_seq ?_
  refine AW_region ?_
  refine AL_p (x_move rfl rfl) ?_
  refine AL_p (x_len (E := 5) (n := 1) rfl rfl (by kernel_rfl)) ?_
  refine AL_p (x_move rfl rfl) ?_
  refine AL_p (x_len (E := 5) (n := 1) rfl rfl (by kernel_rfl)) ?_
  refine AL_b (x_neq rfl rfl rfl) (fun b10 h10 => ?_)
  refine AL_nil ?_
  cases b10
  rotate_left
  · try simp only [tdy] at h10
    refine AW_condT rfl ?_
    refine AW_seq ?_
    refine AW_region ?_
    refine AL_p (x_assign rfl rfl) ?_
    refine AL_nil ?_
    refine AW_ret ?_
    exact ⟨rn [], ⟨⟨⟨_, rfl, vle_bool (by first | (symm; rw [decide_eq_false_iff_not]; intro e; subst e; first | omega | exact hne rfl) | (symm; rw [decide_eq_true_eq]; rw [← List.take_of_length_le (l := x) (i := k) (by omega), hs, List.take_of_length_le (by omega)]))⟩, trivial⟩, trivial, trivial, rfl⟩⟩
  try simp only [tdy] at h10
  refine AW_condF rfl ?_
  refine AW_skip ?_
  refine AW_seq ?_
  refine AW_seq ?_
  refine AW_region ?_
  refine AL_p (x_move rfl rfl) ?_
  refine AL_p (x_len (E := 5) (n := 1) rfl rfl (by kernel_rfl)) ?_
  refine AL_p (x_move rfl rfl) ?_
  refine AL_nil ?_
  refine AW_block ?_
  refine AW_loop2 (ι := {q : Nat // q ≤ x.length ∧ x.take q = y.take q}) (fun p => [(13, .one (.c (.int .i64 ((p.1) : Int))))]) (fun p => []) [0, 1, 12] [] (fun p => x.length - (p.1)) ⟨0, ⟨by omega, rfl⟩⟩ (rn []) ?_ ?_
  exact ⟨by (repeat refine ⟨⟨_, rfl, by first | exact VLe.rf | exact vle_int (by dsimp only; omega)⟩, ?_⟩); exact trivial, by (repeat refine ⟨⟨_, rfl, by first | exact BLe.rf | exact BLe.box AllC.rf | exact BLe.arr (by exact rfl)⟩, ?_⟩); exact trivial, by repeat (first | exact trivial | refine ⟨⟨rfl, by first | (left; intro h; cases h) | (right; rfl), by first | exact (fun _ h => ⟨_, h⟩) | exact (fun _ _ => ⟨_, rfl⟩)⟩, ?_⟩), rfl⟩
  rintro ⟨k, hinv⟩
  dsimp only
  obtain ⟨hk, hs⟩ := hinv
  refine AW_seq ?_
  refine AW_region ?_
  refine AL_b (x_lss rfl rfl rfl) (fun b14 h14 => ?_)
  refine AL_nil ?_
  refine AW_seq ?_
  cases b14
  · try simp only [tdy] at h14
    refine AW_condF rfl ?_
    refine AW_exit (BQ_hit ?_)
    refine AW_seq ?_
    refine AW_region ?_
    refine AL_p (x_assign rfl rfl) ?_
    refine AL_nil ?_
    refine AW_ret ?_
    exact ⟨rn [], ⟨⟨⟨_, rfl, vle_bool (by first | (symm; rw [decide_eq_false_iff_not]; intro e; subst e; first | omega | exact hne rfl) | (symm; rw [decide_eq_true_eq]; rw [← List.take_of_length_le (l := x) (i := k) (by omega), hs, List.take_of_length_le (by omega)]))⟩, trivial⟩, trivial, trivial, rfl⟩⟩
  try simp only [tdy] at h14
  refine AW_condT rfl ?_
  refine AW_skip ?_
  refine AW_seq ?_
  refine AW_block ?_
  refine AW_seq ?_
  refine AW_region ?_
  refine AL_p (x_move rfl rfl) ?_
  refine AL_p (x_assign rfl rfl) ?_
  refine AL_nil ?_
  refine AW_seq ?_
  refine AW_draw rfl ?_
  refine AL_p (x_move rfl rfl) ?_
  refine AL_p (x_move rfl rfl) ?_
  refine AL_p (x_index (E := 5) (n := 1) rfl rfl rfl (by kernel_rfl) rfl (k := k) (by omega) (by omega)) ?_
  refine AL_p (x_eload1 rfl rfl (by kernel_rfl) rfl) ?_
  refine AL_p (x_move rfl rfl) ?_
  refine AL_p (x_move rfl rfl) ?_
  refine AL_p (x_index (E := 5) (n := 1) rfl rfl rfl (by kernel_rfl) rfl (k := k) (by omega) (by omega)) ?_
  refine AL_p (x_eload1 rfl rfl (by kernel_rfl) rfl) ?_
  refine AL_b (x_neq rfl rfl rfl) (fun b24 h24 => ?_)
  refine AL_nild (by kernel_rfl) ?_
  cases b24
  rotate_left
  · try simp only [tdy] at h24
    have hne := h24
    refine AW_condT rfl ?_
    refine AW_seq ?_
    refine AW_region ?_
    refine AL_p (x_assign rfl rfl) ?_
    refine AL_nil ?_
    refine AW_ret (BQ_ret (BQ_ret ?_))
    exact ⟨rn [], ⟨⟨⟨_, rfl, vle_bool (by first | (symm; rw [decide_eq_false_iff_not]; intro e; subst e; first | omega | exact hne rfl) | (symm; rw [decide_eq_true_eq]; rw [← List.take_of_length_le (l := x) (i := k) (by omega), hs, List.take_of_length_le (by omega)]))⟩, trivial⟩, trivial, trivial, rfl⟩⟩
  try simp only [tdy] at h24
  have heq := h24
  refine AW_condF rfl ?_
  refine AW_skip ?_
  refine AW_region ?_
  refine AL_p (x_add rfl rfl rfl (IntWalk.i64_in _ (by omega))) ?_
  refine AL_p (x_move rfl rfl) ?_
  refine AL_nil ?_
  refine ⟨⟨k + 1, ⟨by omega, by rw [List.take_succ_eq_append_getElem (show k < x.length by omega), List.take_succ_eq_append_getElem (show k < y.length by omega), hs, heq]⟩⟩, rn [], ?_, by dsimp only; omega⟩
  exact ⟨by (repeat refine ⟨⟨_, rfl, by first | exact VLe.rf | exact vle_int (by dsimp only; omega)⟩, ?_⟩); exact trivial, by (repeat refine ⟨⟨_, rfl, by first | exact BLe.rf | exact BLe.box AllC.rf | exact BLe.arr (by exact rfl)⟩, ?_⟩); exact trivial, by repeat (first | exact trivial | refine ⟨⟨rfl, by first | (left; intro h; cases h) | (right; rfl), by first | exact (fun _ h => ⟨_, h⟩) | exact (fun _ _ => ⟨_, rfl⟩)⟩, ?_⟩), rfl⟩

set_option maxHeartbeats 4000000 in
theorem storeReadI_c0 (b : List Int) : AC Try.prog 31 [.one (.sl (intE .u8) b)] [] (.tup [.agg [.own 0], .one (.c (.bool (storeRead b).2))]) [(0, some (.arr 89 namedE (storeRead b).1.rels true))] := by
  have ht1 := takeI_in (xs := b) (n := 1) (by omega)
  refine AC_bodyCT (n := 1) (k := 9) (T := [(2, .one (.ptr 9 0)), (3, .one (.c (.bool (storeRead b).2)))]) (Lf := ((9, some (.box [.own 0])) :: [(0, some (.arr 89 namedE (storeRead b).1.rels true))])) Try.func31 rfl rfl Try.ntmps31 rfl Try.results31 rfl rfl rfl rfl (by kernel_rfl) rfl rfl ⟨trivial, (by repeat (first | exact trivial | refine ⟨⟨_, rfl, BLe.rf⟩, ?_⟩)), (by repeat (first | exact trivial | refine ⟨⟨rfl, by first | (left; intro h; cases h) | (right; rfl), by first | exact (fun _ h => ⟨_, h⟩) | exact (fun _ _ => ⟨_, rfl⟩)⟩, ?_⟩)), rfl⟩ ?_
  refine AW_seq ?_
  refine AW_region ?_
  refine AL_p (x_alloc (z := .agg #[.slice none 0 0]) 100 rfl (by kernel_rfl) rfl rfl rfl rfl) ?_
  refine AL_p (x_assign rfl rfl) ?_
  refine AL_nil ?_
  refine AW_seq ?_
  refine AW_region ?_
  refine AL_p (x_move rfl rfl) ?_
  refine AL_p (x_alloc (z := .slice none 0 0) 200 rfl (by kernel_rfl) rfl rfl rfl rfl) ?_
  refine AL_p (x_store (n := 1) rfl rfl rfl rfl (by kernel_rfl) rfl rfl rfl) ?_
  refine AL_nil ?_
  refine AW_seq ?_
  refine AW_region ?_
  refine AL_p (x_build (zs := [.slice none 0 0]) (places := [(0, 1)]) rfl (by kernel_rfl) rfl rfl rfl rfl rfl) ?_
  refine AL_p (x_alloc (z := .agg #[.slice none 0 0]) 101 rfl (by kernel_rfl) rfl rfl rfl rfl) ?_
  refine AL_p (x_store (n := 1) rfl rfl rfl rfl (by kernel_rfl) rfl rfl rfl) ?_
  refine AL_nil ?_
  refine AW_seq ?_
  refine AW_region ?_
  refine AL_p (x_call (ks := []) (L := [(200, some _)]) (L' := [(200, some _)]) rfl rfl rfl (takeI_c b 1 (by omega) (by omega)) rfl AllV.rf (caught_of rfl) rfl rfl rfl ⟨rfl, trivial⟩ rfl) ?_
  refine AL_p (x_assign rfl rfl) ?_
  refine AL_nil ?_
  refine AW_seq ?_
  refine AW_seq ?_
  refine AW_region ?_
  refine AL_p (x_move rfl rfl) ?_
  refine AL_p (x_min rfl rfl rfl (r := min (takeI b 1).1 24) (by show (if (24 : Int) < (takeI b 1).1 then 24 else (takeI b 1).1) = _; omega) (wf64i (by omega) (by omega))) ?_
  refine AL_p (x_move rfl rfl) ?_
  refine AL_nil ?_
  refine AW_block ?_
  refine AW_adopt (T := 89) (e := namedE) 102 101 0 rfl rfl rfl rfl rfl ?_
  refine AW_loop2 (ι := {q : Nat // q ≤ (min (takeI b 1).1 24).toNat}) (fun p => [(19, .one (.c (.int .i64 ((p.1) : Int))))]) (fun p => [(102, some (.arr 89 namedE (iterG namedI (p.1) (takeI b 1).2).1 true)), (200, some (.box [.sl (intE .u8) (iterG namedI (p.1) (takeI b 1).2).2]))]) [0, 2, 4, 5, 18] [100, 101] (fun p => (min (takeI b 1).1 24).toNat - (p.1)) ⟨0, by omega⟩ (rn []) ?_ ?_
  exact ⟨by (repeat refine ⟨⟨_, rfl, by first | exact VLe.rf | exact vle_int (by dsimp only; omega)⟩, ?_⟩); exact trivial, by (repeat refine ⟨⟨_, rfl, by first | exact BLe.rf | exact BLe.box AllC.rf | exact BLe.arr (by exact rfl)⟩, ?_⟩); exact trivial, by repeat (first | exact trivial | refine ⟨⟨rfl, by first | (left; intro h; cases h) | (right; rfl), by first | exact (fun _ h => ⟨_, h⟩) | exact (fun _ _ => ⟨_, rfl⟩)⟩, ?_⟩), rfl⟩
  rintro ⟨k, hinv⟩
  dsimp only
  have hk := hinv
  refine AW_seq ?_
  refine AW_region ?_
  refine AL_b (x_lss rfl rfl rfl) (fun b20 h20 => ?_)
  refine AL_nil ?_
  refine AW_seq ?_
  cases b20
  · try simp only [tdy] at h20
    obtain rfl : k = (min (takeI b 1).1 24).toNat := by omega
    refine AW_condF rfl ?_
    refine AW_exit (BQ_hit ?_)
    refine AW_seq ?_
    refine AW_seq ?_
    refine AW_region ?_
    refine AL_p (x_loadN (n := 1) rfl rfl rfl (by kernel_rfl) rfl rfl) ?_
    refine AL_p (x_callR rfl rfl rfl (storeBytesI_c (storeI b) (storeI_small b) 114) rfl AllV.rf rfl rfl rfl rfl rfl) ?_
    refine AL_p (x_move rfl rfl) ?_
    refine AL_p (x_extract rfl rfl rfl) ?_
    refine AL_b (x_extract rfl rfl rfl) (fun b68 h68 => ?_)
    refine AL_p (x_assign rfl rfl) ?_
    refine AL_p (x_assign rfl rfl) ?_
    refine AL_nil ?_
    refine AW_seq ?_
    refine AW_region ?_
    refine AL_p (x_move rfl rfl) ?_
    refine AL_p (x_not rfl rfl) ?_
    refine AL_p (x_move rfl rfl) ?_
    cases b68
    · try simp only [tdy] at h68
      have hno := storeRead_no (b := b) (fun e => by rw [e] at h68; cases h68)
      refine AL_o rfl rfl rfl rfl ?_
      refine AL_o rfl rfl rfl rfl ?_
      refine AL_o rfl rfl rfl rfl ?_
      refine AL_o rfl rfl rfl rfl ?_
      refine AL_p (x_pickT rfl rfl rfl) ?_
      refine AL_nil ?_
      refine AW_condT rfl ?_
      refine AW_seq ?_
      refine AW_region ?_
      refine AL_p (x_build (zs := [.slice none 0 0]) (places := [(0, 1)]) rfl (by kernel_rfl) rfl rfl rfl rfl rfl) ?_
      refine AL_p (x_store (n := 1) rfl rfl rfl rfl (by kernel_rfl) rfl rfl rfl) ?_
      refine AL_p (x_assign rfl rfl) ?_
      refine AL_nil ?_
      refine AW_adopt (T := 89) (e := namedE) 115 100 0 rfl rfl rfl rfl rfl ?_
      refine AW_ret ?_
      exact ⟨rn [(9, 100), (0, 115)], ⟨⟨⟨_, rfl, VLe.rf⟩, ⟨_, rfl, by first | (refine vle_bool ?_; rw [hno]; done) | exact VLe.rf | (refine vle_bool ?_; rw [hno]; apply Eq.symm; assumption) | exact vle_bool (by rw [hno])⟩, trivial⟩, ⟨⟨_, rfl, by first | (refine ble_eq ?_; rw [hno]; done) | (refine ble_eq ?_; rw [hno]; rfl) | exact BLe.rf⟩, ⟨_, rfl, by first | (refine BLe.arr ?_; rw [hno]; done) | (refine BLe.arr ?_; rw [hno]; rfl) | (refine BLe.arr ?_; rw [hno]; exact rfl) | exact BLe.rf⟩, trivial⟩, trivial, rfl⟩⟩
    try simp only [tdy] at h68
    refine AL_g rfl rfl (x_move rfl rfl) ?_
    refine AL_g rfl rfl (x_move rfl rfl) ?_
    refine AL_gbc rfl rfl (x_callR rfl rfl rfl (equalB_c _ _) rfl AllV.rf rfl rfl rfl rfl rfl) (fun b74 h74 => ?_)
    refine AL_g rfl rfl (x_not rfl rfl) ?_
    refine AL_p (x_pickF rfl rfl rfl) ?_
    refine AL_nil ?_
    cases b74
    rotate_left
    · try simp only [tdy] at h74
      have hno := storeRead_yes (Prod.ext h74 h68 : storeBytes (storeI b) = (b, true))
      refine AW_condF rfl ?_
      refine AW_skip ?_
      refine AW_seq ?_
      refine AW_region ?_
      refine AL_p (x_loadN (n := 1) rfl rfl rfl (by kernel_rfl) rfl rfl) ?_
      refine AL_p (x_store (n := 1) rfl rfl rfl rfl (by kernel_rfl) rfl rfl rfl) ?_
      refine AL_p (x_assign rfl rfl) ?_
      refine AL_nil ?_
      refine AW_ret ?_
      exact ⟨rn [(9, 100), (0, 102)], ⟨⟨⟨_, rfl, VLe.rf⟩, ⟨_, rfl, by first | (refine vle_bool ?_; rw [hno]; done) | exact VLe.rf | (refine vle_bool ?_; rw [hno]; apply Eq.symm; assumption) | exact vle_bool (by rw [hno])⟩, trivial⟩, ⟨⟨_, rfl, by first | (refine ble_eq ?_; rw [hno]; done) | (refine ble_eq ?_; rw [hno]; rfl) | exact BLe.rf⟩, ⟨_, rfl, by first | (refine BLe.arr ?_; rw [hno]; done) | (refine BLe.arr ?_; rw [hno]; rfl) | (refine BLe.arr ?_; rw [hno]; exact rfl) | exact BLe.rf⟩, trivial⟩, trivial, rfl⟩⟩
    try simp only [tdy] at h74
    have hno := storeRead_no (b := b) (fun e => h74 (by rw [e]))
    refine AW_condT rfl ?_
    refine AW_seq ?_
    refine AW_region ?_
    refine AL_p (x_build (zs := [.slice none 0 0]) (places := [(0, 1)]) rfl (by kernel_rfl) rfl rfl rfl rfl rfl) ?_
    refine AL_p (x_store (n := 1) rfl rfl rfl rfl (by kernel_rfl) rfl rfl rfl) ?_
    refine AL_p (x_assign rfl rfl) ?_
    refine AL_nil ?_
    refine AW_adopt (T := 89) (e := namedE) 115 100 0 rfl rfl rfl rfl rfl ?_
    refine AW_ret ?_
    exact ⟨rn [(9, 100), (0, 115)], ⟨⟨⟨_, rfl, VLe.rf⟩, ⟨_, rfl, by first | (refine vle_bool ?_; rw [hno]; done) | exact VLe.rf | (refine vle_bool ?_; rw [hno]; apply Eq.symm; assumption) | exact vle_bool (by rw [hno])⟩, trivial⟩, ⟨⟨_, rfl, by first | (refine ble_eq ?_; rw [hno]; done) | (refine ble_eq ?_; rw [hno]; rfl) | exact BLe.rf⟩, ⟨_, rfl, by first | (refine BLe.arr ?_; rw [hno]; done) | (refine BLe.arr ?_; rw [hno]; rfl) | (refine BLe.arr ?_; rw [hno]; exact rfl) | exact BLe.rf⟩, trivial⟩, trivial, rfl⟩⟩
  try simp only [tdy] at h20
  have hA : 0 ≤ (nmA (iterG namedI k (takeI b 1).2).2).1 ∧ (nmA (iterG namedI k (takeI b 1).2).2).1 < 281474976710656 := takeI_in (by omega)
  have hC : 0 ≤ (nmC (iterG namedI k (takeI b 1).2).2).1 ∧ (nmC (iterG namedI k (takeI b 1).2).2).1 < 281474976710656 := takeI_in (by omega)
  have hD : 0 ≤ (nmD (iterG namedI k (takeI b 1).2).2).1 ∧ (nmD (iterG namedI k (takeI b 1).2).2).1 < 281474976710656 := takeI_in (by omega)
  refine AW_condT rfl ?_
  refine AW_skip ?_
  refine AW_seq ?_
  refine AW_block ?_
  refine AW_seq ?_
  refine AW_region ?_
  refine AL_p (x_call (ks := []) (L := [(200, some _)]) (L' := [(200, some _)]) rfl rfl rfl (takeI_c (iterG namedI k (takeI b 1).2).2 1 (by omega) (by omega)) rfl AllV.rf (caught_of rfl) rfl rfl rfl ⟨rfl, trivial⟩ rfl) ?_
  refine AL_p (x_assign rfl rfl) ?_
  refine AL_nil ?_
  refine AW_seq ?_
  refine AW_region ?_
  refine AL_p (x_move rfl rfl) ?_
  refine AL_p (x_call (ks := []) (L := [(200, some _)]) (L' := [(200, some _)]) rfl rfl rfl (wordI_c (nmA (iterG namedI k (takeI b 1).2).2).2 (nmA (iterG namedI k (takeI b 1).2).2).1 hA.1) rfl AllV.rf (caught_of rfl) rfl rfl rfl ⟨rfl, trivial⟩ rfl) ?_
  refine AL_p (x_build (zs := [.string ⟨#[]⟩, .int .i64 0, .slice none 0 0]) (places := [(0, 1), (1, 2)]) rfl (by kernel_rfl) rfl rfl rfl rfl rfl) ?_
  refine AL_p (x_alloc (z := .agg #[.string ⟨#[]⟩, .int .i64 0, .slice none 0 0]) 103 rfl (by kernel_rfl) rfl rfl rfl rfl) ?_
  refine AL_p (x_store (n := 3) rfl rfl rfl rfl (by kernel_rfl) rfl rfl rfl) ?_
  refine AL_nil ?_
  refine AW_seq ?_
  refine AW_region ?_
  refine AL_p (x_call (ks := []) (L := [(200, some _)]) (L' := [(200, some _)]) rfl rfl rfl (takeI_c (nmB (iterG namedI k (takeI b 1).2).2).2 1 (by omega) (by omega)) rfl AllV.rf (caught_of rfl) rfl rfl rfl ⟨rfl, trivial⟩ rfl) ?_
  refine AL_p (x_field (off := 1) (o' := 1) rfl rfl rfl (by kernel_rfl) rfl) ?_
  refine AL_p (x_field (off := 0) (o' := 1) rfl rfl rfl (by kernel_rfl) rfl) ?_
  refine AL_p (x_store (n := 1) rfl rfl rfl rfl (by kernel_rfl) rfl rfl rfl) ?_
  refine AL_nil ?_
  refine AW_seq ?_
  refine AW_region ?_
  refine AL_p (x_call (ks := []) (L := [(200, some _)]) (L' := [(200, some _)]) rfl rfl rfl (takeI_c (nmC (iterG namedI k (takeI b 1).2).2).2 2 (by omega) (by omega)) rfl AllV.rf (caught_of rfl) rfl rfl rfl ⟨rfl, trivial⟩ rfl) ?_
  refine AL_p (x_assign rfl rfl) ?_
  refine AL_nil ?_
  refine AW_seq ?_
  refine AW_seq ?_
  refine AW_region ?_
  refine AL_p (x_move rfl rfl) ?_
  refine AL_p (x_min rfl rfl rfl (r := min (nmD (iterG namedI k (takeI b 1).2).2).1 300) (by show (if (300 : Int) < (nmD (iterG namedI k (takeI b 1).2).2).1 then 300 else (nmD (iterG namedI k (takeI b 1).2).2).1) = _; omega) (wf64i (by omega) (by omega))) ?_
  refine AL_p (x_move rfl rfl) ?_
  refine AL_nil ?_
  refine AW_block ?_
  refine AW_adopt (T := 92) (e := rowE) 104 103 2 rfl rfl rfl rfl rfl ?_
  refine AW_loop2 (ι := {q : Nat // q ≤ (min (nmD (iterG namedI k (takeI b 1).2).2).1 300).toNat}) (fun p => [(31, .one (.c (.int .i64 ((p.1) : Int))))]) (fun p => [(104, some (.arr 92 rowE (iterG (rowI (min (nmC (iterG namedI k (takeI b 1).2).2).1 6).toNat) (p.1) (nmD (iterG namedI k (takeI b 1).2).2).2).1 true)), (200, some (.box [.sl (intE .u8) (iterG (rowI (min (nmC (iterG namedI k (takeI b 1).2).2).1 6).toNat) (p.1) (nmD (iterG namedI k (takeI b 1).2).2).2).2]))]) [0, 2, 4, 5, 8, 18, 19, 30] [100, 101, 102, 103] (fun p => (min (nmD (iterG namedI k (takeI b 1).2).2).1 300).toNat - (p.1)) ⟨0, by omega⟩ (rn []) ?_ ?_
  exact ⟨by (repeat refine ⟨⟨_, rfl, by first | exact VLe.rf | exact vle_int (by dsimp only; omega)⟩, ?_⟩); exact trivial, by (repeat refine ⟨⟨_, rfl, by first | exact BLe.rf | exact BLe.box AllC.rf | exact BLe.arr (by exact rfl)⟩, ?_⟩); exact trivial, by repeat (first | exact trivial | refine ⟨⟨rfl, by first | (left; intro h; cases h) | (right; rfl), by first | exact (fun _ h => ⟨_, h⟩) | exact (fun _ _ => ⟨_, rfl⟩)⟩, ?_⟩), rfl⟩
  rintro ⟨j, hinv⟩
  dsimp only
  have hj := hinv
  refine AW_seq ?_
  refine AW_region ?_
  refine AL_b (x_lss rfl rfl rfl) (fun b32 h32 => ?_)
  refine AL_nil ?_
  refine AW_seq ?_
  cases b32
  · try simp only [tdy] at h32
    obtain rfl : j = (min (nmD (iterG namedI k (takeI b 1).2).2).1 300).toNat := by omega
    refine AW_condF rfl ?_
    refine AW_exit (BQ_hit ?_)
    refine AW_region ?_
    refine AL_p (x_field (off := 0) (o' := 0) rfl rfl rfl (by kernel_rfl) rfl) ?_
    refine AL_p (x_load1 rfl rfl rfl (by kernel_rfl) rfl) ?_
    refine AL_p (x_loadN (n := 3) rfl rfl rfl (by kernel_rfl) rfl rfl) ?_
    refine AL_p (y_bslice (E := 89) (e := namedE) [.tmp 59] ([(namedI (iterG namedI k (takeI b 1).2).2).1]) 112 rfl rfl rfl rfl rfl rfl rfl rfl FitL.rf rfl rfl rfl rfl rfl rfl (by kernel_rfl)) ?_
    refine AL_p (y_append 113 rfl rfl rfl rfl rfl rfl rfl rfl (by kernel_rfl) (by simp only [iterG_len, List.length_cons, List.length_nil]; omega)) ?_
    refine AL_p (x_field (off := 0) (o' := 0) rfl rfl rfl (by kernel_rfl) rfl) ?_
    refine AL_p (x_store (n := 1) rfl rfl rfl rfl (by kernel_rfl) rfl rfl rfl) ?_
    refine AL_nil ?_
    refine AW_region ?_
    refine AL_p (x_add rfl rfl rfl (IntWalk.i64_in _ (by omega))) ?_
    refine AL_p (x_move rfl rfl) ?_
    refine AL_nil ?_
    refine ⟨⟨k + 1, by omega⟩, rn [(102, 113)], ?_, by dsimp only; omega⟩
    exact ⟨by (repeat refine ⟨⟨_, rfl, by first | exact VLe.rf | exact vle_int (by dsimp only; omega)⟩, ?_⟩); exact trivial, by (repeat refine ⟨⟨_, rfl, by first | exact BLe.rf | exact BLe.box AllC.rf | exact BLe.arr (by exact rfl)⟩, ?_⟩); exact trivial, by repeat (first | exact trivial | refine ⟨⟨rfl, by first | (left; intro h; cases h) | (right; rfl), by first | exact (fun _ h => ⟨_, h⟩) | exact (fun _ _ => ⟨_, rfl⟩)⟩, ?_⟩), rfl⟩
  try simp only [tdy] at h32
  refine AW_condT rfl ?_
  refine AW_skip ?_
  refine AW_seq ?_
  refine AW_block ?_
  refine AW_seq ?_
  refine AW_region ?_
  refine AL_p (x_build (zs := [.slice none 0 0]) (places := [(0, 1)]) rfl (by kernel_rfl) rfl rfl rfl rfl rfl) ?_
  refine AL_p (x_alloc (z := .agg #[.slice none 0 0]) 105 rfl (by kernel_rfl) rfl rfl rfl rfl) ?_
  refine AL_p (x_store (n := 1) rfl rfl rfl rfl (by kernel_rfl) rfl rfl rfl) ?_
  refine AL_nil ?_
  refine AW_seq ?_
  refine AW_seq ?_
  refine AW_region ?_
  refine AL_p (x_field (off := 1) (o' := 1) rfl rfl rfl (by kernel_rfl) rfl) ?_
  refine AL_p (x_field (off := 0) (o' := 1) rfl rfl rfl (by kernel_rfl) rfl) ?_
  refine AL_p (x_load1 rfl rfl rfl (by kernel_rfl) rfl) ?_
  refine AL_p (x_min rfl rfl rfl (r := min (nmC (iterG namedI k (takeI b 1).2).2).1 6) (by show (if (6 : Int) < (nmC (iterG namedI k (takeI b 1).2).2).1 then 6 else (nmC (iterG namedI k (takeI b 1).2).2).1) = _; omega) (wf64i (by omega) (by omega))) ?_
  refine AL_p (x_move rfl rfl) ?_
  refine AL_nil ?_
  refine AW_block ?_
  refine AW_adopt (T := 94) (e := valE) 106 105 0 rfl rfl rfl rfl rfl ?_
  refine AW_loop2 (ι := {q : Nat // q ≤ (min (nmC (iterG namedI k (takeI b 1).2).2).1 6).toNat}) (fun p => [(38, .one (.c (.int .i64 ((p.1) : Int))))]) (fun p => [(106, some (.arr 94 valE (iterG valI (p.1) (iterG (rowI (min (nmC (iterG namedI k (takeI b 1).2).2).1 6).toNat) j (nmD (iterG namedI k (takeI b 1).2).2).2).2).1 true)), (200, some (.box [.sl (intE .u8) (iterG valI (p.1) (iterG (rowI (min (nmC (iterG namedI k (takeI b 1).2).2).1 6).toNat) j (nmD (iterG namedI k (takeI b 1).2).2).2).2).2]))]) [0, 2, 4, 5, 8, 10, 18, 19, 30, 31, 37] [100, 101, 102, 103, 104, 105] (fun p => (min (nmC (iterG namedI k (takeI b 1).2).2).1 6).toNat - (p.1)) ⟨0, by omega⟩ (rn []) ?_ ?_
  exact ⟨by (repeat refine ⟨⟨_, rfl, by first | exact VLe.rf | exact vle_int (by dsimp only; omega)⟩, ?_⟩); exact trivial, by (repeat refine ⟨⟨_, rfl, by first | exact BLe.rf | exact BLe.box AllC.rf | exact BLe.arr (by exact rfl)⟩, ?_⟩); exact trivial, by repeat (first | exact trivial | refine ⟨⟨rfl, by first | (left; intro h; cases h) | (right; rfl), by first | exact (fun _ h => ⟨_, h⟩) | exact (fun _ _ => ⟨_, rfl⟩)⟩, ?_⟩), rfl⟩
  rintro ⟨i, hinv⟩
  dsimp only
  have hi := hinv
  refine AW_seq ?_
  refine AW_region ?_
  refine AL_b (x_lss rfl rfl rfl) (fun b39 h39 => ?_)
  refine AL_nil ?_
  refine AW_seq ?_
  cases b39
  · try simp only [tdy] at h39
    obtain rfl : i = (min (nmC (iterG namedI k (takeI b 1).2).2).1 6).toNat := by omega
    refine AW_condF rfl ?_
    refine AW_exit (BQ_hit ?_)
    refine AW_region ?_
    refine AL_p (x_field (off := 1) (o' := 1) rfl rfl rfl (by kernel_rfl) rfl) ?_
    refine AL_p (x_field (off := 1) (o' := 2) rfl rfl rfl (by kernel_rfl) rfl) ?_
    refine AL_p (x_load1 rfl rfl rfl (by kernel_rfl) rfl) ?_
    refine AL_p (x_loadN (n := 1) rfl rfl rfl (by kernel_rfl) rfl rfl) ?_
    refine AL_p (y_bslice (E := 92) (e := rowE) [.tmp 51] ([(rowI (min (nmC (iterG namedI k (takeI b 1).2).2).1 6).toNat (iterG (rowI (min (nmC (iterG namedI k (takeI b 1).2).2).1 6).toNat) j (nmD (iterG namedI k (takeI b 1).2).2).2).2).1]) 110 rfl rfl rfl rfl rfl rfl rfl rfl FitL.rf rfl rfl rfl rfl rfl rfl (by kernel_rfl)) ?_
    refine AL_p (y_append 111 rfl rfl rfl rfl rfl rfl rfl rfl (by kernel_rfl) (by simp only [iterG_len, List.length_cons, List.length_nil]; omega)) ?_
    refine AL_p (x_field (off := 1) (o' := 1) rfl rfl rfl (by kernel_rfl) rfl) ?_
    refine AL_p (x_field (off := 1) (o' := 2) rfl rfl rfl (by kernel_rfl) rfl) ?_
    refine AL_p (x_store (n := 1) rfl rfl rfl rfl (by kernel_rfl) rfl rfl rfl) ?_
    refine AL_nil ?_
    refine AW_region ?_
    refine AL_p (x_add rfl rfl rfl (IntWalk.i64_in _ (by omega))) ?_
    refine AL_p (x_move rfl rfl) ?_
    refine AL_nil ?_
    refine ⟨⟨j + 1, by omega⟩, rn [(104, 111)], ?_, by dsimp only; omega⟩
    exact ⟨by (repeat refine ⟨⟨_, rfl, by first | exact VLe.rf | exact vle_int (by dsimp only; omega)⟩, ?_⟩); exact trivial, by (repeat refine ⟨⟨_, rfl, by first | exact BLe.rf | exact BLe.box AllC.rf | exact BLe.arr (by exact rfl)⟩, ?_⟩); exact trivial, by repeat (first | exact trivial | refine ⟨⟨rfl, by first | (left; intro h; cases h) | (right; rfl), by first | exact (fun _ h => ⟨_, h⟩) | exact (fun _ _ => ⟨_, rfl⟩)⟩, ?_⟩), rfl⟩
  try simp only [tdy] at h39
  refine AW_condT rfl ?_
  refine AW_skip ?_
  refine AW_seq ?_
  refine AW_block ?_
  refine AW_seq ?_
  refine AW_region ?_
  refine AL_p (x_call (ks := []) (L := [(200, some _)]) (L' := [(200, some _)]) rfl rfl rfl (valI_c (iterG valI i (iterG (rowI (min (nmC (iterG namedI k (takeI b 1).2).2).1 6).toNat) j (nmD (iterG namedI k (takeI b 1).2).2).2).2).2) rfl AllV.rf (caught_of rfl) rfl rfl rfl ⟨rfl, trivial⟩ rfl) ?_
  refine AL_p (x_alloc (z := .agg #[.int .i64 0, .string ⟨#[]⟩]) 107 rfl (by kernel_rfl) rfl rfl rfl rfl) ?_
  refine AL_p (x_store (n := 2) rfl rfl rfl rfl (by kernel_rfl) rfl rfl rfl) ?_
  refine AL_nil ?_
  refine AW_region ?_
  refine AL_p (x_field (off := 0) (o' := 0) rfl rfl rfl (by kernel_rfl) rfl) ?_
  refine AL_p (x_load1 rfl rfl rfl (by kernel_rfl) rfl) ?_
  refine AL_p (x_loadN (n := 2) rfl rfl rfl (by kernel_rfl) rfl rfl) ?_
  refine AL_p (y_bslice (E := 94) (e := valE) [.tmp 43] ([(valI (iterG valI i (iterG (rowI (min (nmC (iterG namedI k (takeI b 1).2).2).1 6).toNat) j (nmD (iterG namedI k (takeI b 1).2).2).2).2).2).1]) 108 rfl rfl rfl rfl rfl rfl rfl rfl FitL.rf rfl rfl rfl rfl rfl rfl (by kernel_rfl)) ?_
  refine AL_p (y_append 109 rfl rfl rfl rfl rfl rfl rfl rfl (by kernel_rfl) (by simp only [iterG_len, List.length_cons, List.length_nil]; omega)) ?_
  refine AL_p (x_field (off := 0) (o' := 0) rfl rfl rfl (by kernel_rfl) rfl) ?_
  refine AL_p (x_store (n := 1) rfl rfl rfl rfl (by kernel_rfl) rfl rfl rfl) ?_
  refine AL_nil ?_
  refine AW_region ?_
  refine AL_p (x_add rfl rfl rfl (IntWalk.i64_in _ (by omega))) ?_
  refine AL_p (x_move rfl rfl) ?_
  refine AL_nil ?_
  refine ⟨⟨i + 1, by omega⟩, rn [(106, 109)], ?_, by dsimp only; omega⟩
  exact ⟨by (repeat refine ⟨⟨_, rfl, by first | exact VLe.rf | exact vle_int (by dsimp only; omega)⟩, ?_⟩); exact trivial, by (repeat refine ⟨⟨_, rfl, by first | exact BLe.rf | exact BLe.box AllC.rf | exact BLe.arr (by exact rfl)⟩, ?_⟩); exact trivial, by repeat (first | exact trivial | refine ⟨⟨rfl, by first | (left; intro h; cases h) | (right; rfl), by first | exact (fun _ h => ⟨_, h⟩) | exact (fun _ _ => ⟨_, rfl⟩)⟩, ?_⟩), rfl⟩
theorem storeReadI_c (b : List Int) (k : Nat) : AC Try.prog 31 [.one (.sl (intE .u8) b)] [] (.tup [.agg [.own k], .one (.c (.bool (storeRead b).2))]) [(k, some (.arr 89 namedE (storeRead b).1.rels true))] := AC.at (storeReadI_c0 b) k
end Go.Proofs.Ytibhoanjglfaoaa

/- Stores: their bytes tell them apart and are read back; how many bytes there are. -/
namespace Go.Proofs.Ytibhoanjglfaoaa
open Go.RowKit
set_option linter.unusedVariables false

theorem likeRel_self (a : Relt) : likeRel a a = true := by simp [likeRel, sameRows]
theorem likeRel_is {a b : Relt} (h : likeRel a b = true) : a = b := by
  simp only [likeRel, sameRows, Bool.and_eq_true, beq_iff_eq, decide_eq_true_eq] at h
  obtain ⟨n, rows⟩ := a
  obtain ⟨m, rows2⟩ := b
  simp only at h
  rw [h.1, h.2]
theorem name_is {a b : ByteArray} (h : (a == b) = true) : a = b := by
  rw [beq_toListBytes, ByteArray.toList_eq, ByteArray.toList_eq] at h
  exact texts_eq (by simpa using h)
theorem name_self (a : ByteArray) : (a == a) = true := by rw [beq_toListBytes]; simp
theorem likeNamed_self (x : Namedt) : likeNamed x x = true := by simp [likeNamed, likeRel_self, name_self]
theorem likeNamed_is {x y : Namedt} (h : likeNamed x y = true) : x = y := by
  simp only [likeNamed, Bool.and_eq_true] at h
  obtain ⟨n, r⟩ := x
  obtain ⟨m, q⟩ := y
  have h1 := name_is h.1
  have h2 := likeRel_is h.2
  simp only at h1 h2
  rw [h1, h2]
theorem sameStore_self {s : Storet} (h : storeOk s = true) : sameStore s s = true := by
  rw [sameStore_ok h h]
  exact likeNames_eq (k := s.rels.length) rfl (fun j _ _ _ => likeNamed_self _) (Nat.le_refl _)
theorem sameStore_is {a b : Storet} (h : sameStore a b = true) : a = b := by
  simp only [sameStore, Bool.and_eq_true] at h
  have h2 := h.2.2
  unfold likeNames at h2
  split at h2
  · rename_i hl
    obtain ⟨x⟩ := a
    obtain ⟨y⟩ := b
    have : x = y := List.ext_getElem hl fun j h1 h3 => likeNamed_is (everyB_get (n := x.length) h2 h1)
    rw [this]
  · cases h2
/-! ### Bytes -/
def Byt (l : List Int) : Prop := ∀ x ∈ l, 0 ≤ x ∧ x ≤ 255
theorem Byt.app {a b : List Int} (h1 : Byt a) (h2 : Byt b) : Byt (a ++ b) := fun x hx => (List.mem_append.1 hx).elim (h1 x) (h2 x)
theorem Byt.one {n : Int} (h0 : 0 ≤ n) (h1 : n ≤ 255) : Byt [n] := fun x hx => by rw [List.mem_singleton.1 hx]; exact ⟨h0, h1⟩
theorem Byt.flat {α : Type} {f : α → List Int} {xs : List α} (h : ∀ x ∈ xs, Byt (f x)) : Byt (xs.flatMap f) := fun y hy => by
  obtain ⟨x, hx, h1⟩ := List.mem_flatMap.1 hy
  exact h x hx y h1
theorem putB_byt (n : Int) (s : Nat) : Byt (putB n s) := fun x hx => by
  unfold putB bpTo at hx
  obtain ⟨q, _, rfl⟩ := List.mem_map.1 hx
  have := mod256_in (n / 256 ^ (s - 1 - q))
  omega
theorem strBytes_byt (s : ByteArray) : Byt (strBytes s) := fun x hx => by
  obtain ⟨q, _, rfl⟩ := List.mem_map.1 hx
  have := q.toNat_lt
  omega
theorem valBytes_byt {v : Val} (h : valOk v = true) : Byt (valBytes v) := by
  have := valOk_in h
  unfold valBytes
  split
  · exact (Byt.one (by omega) (by omega)).app (putB_byt _ _)
  · exact (Byt.one (by omega) (by omega)).app (strBytes_byt _)
theorem namedBytes_byt {x : Namedt} (h : relOk x.rel = true) (hw : x.name.size ≤ 12) : Byt (namedBytes x) := by
  have hr := relOk_small h
  unfold namedBytes
  exact ((((Byt.one (by omega) (by omega)).app (strBytes_byt _)).app (Byt.one (by omega) (by omega))).app (putB_byt _ _)).app (Byt.flat fun row hrow => Byt.flat fun v hv => valBytes_byt (relOk_vals2 h row hrow v hv))
theorem storeB_byt {s : Storet} (h : storeOk s = true) : Byt (storeB s) := by
  have := storeOk_max h
  refine (Byt.one (by omega) (by omega)).app (Byt.flat fun x hx => ?_)
  obtain ⟨j, hj, rfl⟩ := List.getElem_of_mem hx
  exact namedBytes_byt (storeOk_rel h hj) (storeOk_word h hj)
theorem namedBytes_rows {x : Namedt} (h : relOk x.rel = true) (hw : x.name.size ≤ 12) : (namedBytes x).length ≤ 16 + 78 * x.rel.rows.length := by
  have h1 := flatTo_len (f := rowBytes) (xs := x.rel.rows) (M := 78) (k := x.rel.rows.length) fun row hr => rowBytes_len h hr
  rw [flatTo_all (Nat.le_refl _)] at h1
  simp only [namedBytes, List.length_append, List.length_cons, List.length_nil, strBytes_len, putB_len]
  omega
theorem names_rows : ∀ (l : List Namedt), (∀ x ∈ l, (namedBytes x).length ≤ 16 + 78 * x.rel.rows.length) → (l.flatMap namedBytes).length ≤ 16 * l.length + 78 * rowsN l
  | [], _ => Nat.zero_le _
  | x :: l, h => by
    have h1 := h x (by simp)
    have h2 := names_rows l fun y hy => h y (by simp [hy])
    rw [List.flatMap_cons, List.length_append, rowsN_cons, List.length_cons]
    omega
theorem storeB_small {s : Storet} (h : storeOk s = true) (hr : rowsN s.rels ≤ 715) : (storeB s).length ≤ 60000 := by
  have h1 := names_rows s.rels fun x hx => by
    obtain ⟨j, hj, rfl⟩ := List.getElem_of_mem hx
    exact namedBytes_rows (storeOk_rel h hj) (storeOk_word h hj)
  have h2 := storeOk_max h
  simp only [storeB, List.length_append, List.length_cons, List.length_nil]
  omega
theorem bytes_bad {s : Storet} (hr : rowsN s.rels ≤ 715) (h : (storeBytes s).2 = false) : storeOk s = false := by
  cases hs : storeOk s
  · rfl
  · have := storeB_small hs hr
    rw [storeBytes_ok hs (by omega)] at h; cases h
theorem bytes_good {s : Storet} (h : (storeBytes s).2 = true) : storeOk s = true ∧ (storeBytes s).1 = storeB s ∧ storeRead (storeBytes s).1 = (s, true) := by
  have e : storeBytes s = ((storeBytes s).1, true) := Prod.ext rfl h
  obtain ⟨_, h2, h3⟩ := storeBytes_read e
  exact ⟨h2, h3, storeRead_yes e⟩
theorem text_same {x y : Storet} (hx : (storeBytes x).2 = true) (hy : (storeBytes y).2 = true) : (bytesStr (storeBytes x).1 == bytesStr (storeBytes y).1) = sameStore x y := by
  obtain ⟨ox, ex, rx⟩ := bytes_good hx
  obtain ⟨oy, ey, ry⟩ := bytes_good hy
  rw [bytesStr_beq (by rw [ex]; exact storeB_byt ox) (by rw [ey]; exact storeB_byt oy)]
  cases hs : sameStore x y
  · rw [decide_eq_false_iff_not]
    intro e
    rw [e, ry] at rx
    have : y = x := congrArg Prod.fst rx
    rw [this, sameStore_self ox] at hs; cases hs
  · have := sameStore_is hs
    subst this
    simp
theorem same_no {x y : Storet} (h : storeOk x = false ∨ storeOk y = false) : sameStore x y = false := h.elim sameStore_a sameStore_b
end Go.Proofs.Ytibhoanjglfaoaa

/- The walk of FnStore (printed by walk.py) -/
namespace Go.Proofs.Ytibhoanjglfaoaa
open Go.RowKit
set_option linter.unusedVariables false
set_option linter.unusedSimpArgs false
set_option maxRecDepth 100000

set_option maxHeartbeats 4000000 in
theorem lawFnStore.fn (b : List Int) : AC Try.prog 7 [.one (.sl (intE .u8) b)] [] (.one (.c (.bool true))) [] := by
  refine AC_body1 Try.func7 rfl rfl Try.ntmps7 rfl Try.results7 ?_
  refine AW_seq ?_
  refine AW_region ?_
  refine AL_p (x_assign rfl rfl) ?_
  refine AL_nil ?_
  refine AW_seq ?_
  refine AW_seq ?_
  refine AW_region ?_
  refine AL_p (x_move rfl rfl) ?_
  refine AL_p (x_len (E := 5) (n := 1) rfl rfl (by kernel_rfl)) ?_
  refine AL_b (x_gtr rfl rfl rfl) (fun b15 h15 => ?_)
  refine AL_nil ?_
  cases b15
  rotate_left
  · try simp only [tdy] at h15
    refine AW_condT rfl ?_
    refine AW_seq ?_
    refine AW_region ?_
    refine AL_p (x_assign rfl rfl) ?_
    refine AL_nil ?_
    refine AW_ret ?_
    exact ⟨rn [], ⟨⟨⟨_, rfl, vle_bool rfl⟩, trivial⟩, trivial, trivial, rfl⟩⟩
  try simp only [tdy] at h15
  have hb : b.length ≤ 1048576 := by omega
  obtain ⟨x, y, hxy, hdr⟩ := drawSame_x b hb
  have hx := hxy.1.rows
  have hy := hxy.2.rows
  have sx : smallStore x := hxy.1.small (by decide)
  have sy : smallStore y := hxy.2.small (by decide)
  refine AW_condF rfl ?_
  refine AW_skip ?_
  refine AW_seq ?_
  refine AW_region ?_
  refine AL_p (x_move rfl rfl) ?_
  refine AL_p (x_call0 rfl rfl rfl (hdr) rfl rfl) ?_
  refine AL_p (x_move rfl rfl) ?_
  refine AL_p (x_extract rfl rfl rfl) ?_
  refine AL_p (x_extract rfl rfl rfl) ?_
  refine AL_p (x_alloc (z := .agg #[.slice none 0 0]) 100 rfl (by kernel_rfl) rfl rfl rfl rfl) ?_
  refine AL_p (x_alloc (z := .agg #[.slice none 0 0]) 101 rfl (by kernel_rfl) rfl rfl rfl rfl) ?_
  refine AL_p (x_store (n := 1) rfl rfl rfl rfl (by kernel_rfl) rfl rfl rfl) ?_
  refine AL_p (x_store (n := 1) rfl rfl rfl rfl (by kernel_rfl) rfl rfl rfl) ?_
  refine AL_nil ?_
  refine AW_seq ?_
  refine AW_region ?_
  refine AL_p (x_loadN (n := 1) rfl rfl rfl (by kernel_rfl) rfl rfl) ?_
  refine AL_p (x_call1 rfl rfl rfl (storeBytesI_c x sx 102) rfl rfl rfl rfl) ?_
  refine AL_p (x_move rfl rfl) ?_
  refine AL_p (x_extract rfl rfl rfl) ?_
  refine AL_b (x_extract rfl rfl rfl) (fun b25 h25 => ?_)
  refine AL_p (x_assign rfl rfl) ?_
  refine AL_p (x_assign rfl rfl) ?_
  refine AL_nil ?_
  refine AW_seq ?_
  refine AW_region ?_
  refine AL_p (x_loadN (n := 1) rfl rfl rfl (by kernel_rfl) rfl rfl) ?_
  refine AL_p (x_call1 rfl rfl rfl (storeBytesI_c y sy 103) rfl rfl rfl rfl) ?_
  refine AL_p (x_move rfl rfl) ?_
  refine AL_p (x_extract rfl rfl rfl) ?_
  refine AL_b (x_extract rfl rfl rfl) (fun b30 h30 => ?_)
  refine AL_p (x_assign rfl rfl) ?_
  refine AL_p (x_assign rfl rfl) ?_
  refine AL_nil ?_
  refine AW_seq ?_
  refine AW_region ?_
  refine AL_p (x_loadN (n := 1) rfl rfl rfl (by kernel_rfl) rfl rfl) ?_
  refine AL_p (x_call1 rfl rfl rfl (storeBytesS_c x sx 104) rfl rfl rfl rfl) ?_
  refine AL_p (x_move rfl rfl) ?_
  refine AL_p (x_extract rfl rfl rfl) ?_
  refine AL_b (x_extract rfl rfl rfl) (fun b35 h35 => ?_)
  refine AL_p (x_assign rfl rfl) ?_
  refine AL_p (x_assign rfl rfl) ?_
  refine AL_nil ?_
  refine AW_seq ?_
  refine AW_seq ?_
  refine AW_region ?_
  refine AL_p (x_move rfl rfl) ?_
  refine AL_p (x_move rfl rfl) ?_
  refine AL_b (x_bneq rfl rfl rfl (by kernel_rfl)) (fun b38 h38 => ?_)
  refine AL_nil ?_
  cases b38
  rotate_left
  · exfalso; rw [← h25, ← h35] at h38; simp at h38
  try simp only [tdy] at h38
  refine AW_condF rfl ?_
  refine AW_skip ?_
  refine AW_seq ?_
  refine AW_seq ?_
  refine AW_region ?_
  refine AL_p (x_move rfl rfl) ?_
  refine AL_p (x_not rfl rfl) ?_
  refine AL_p (x_move rfl rfl) ?_
  cases b25
  · try simp only [tdy] at h25
    have hss := same_no (x := x) (y := y) (.inl (bytes_bad hx h25))
    refine AL_o rfl rfl rfl rfl ?_
    refine AL_o rfl rfl rfl rfl ?_
    refine AL_p (x_pickT rfl rfl rfl) ?_
    refine AL_nil ?_
    refine AW_condT rfl ?_
    refine AW_seq ?_
    refine AW_region ?_
    refine AL_p (x_loadN (n := 1) rfl rfl rfl (by kernel_rfl) rfl rfl) ?_
    refine AL_p (x_loadN (n := 1) rfl rfl rfl (by kernel_rfl) rfl rfl) ?_
    refine AL_b (x_call0 rfl rfl rfl (sameStoreI_c x y sx sy) rfl rfl) (fun b47 h47 => ?_)
    refine AL_p (x_not rfl rfl) ?_
    refine AL_p (x_assign rfl rfl) ?_
    refine AL_nil ?_
    refine AW_ret ?_
    cases b47
    rotate_left
    · exfalso; rw [hss] at h47; cases h47
    try simp only [tdy] at h47
    exact ⟨rn [], ⟨⟨⟨_, rfl, vle_bool rfl⟩, trivial⟩, trivial, trivial, rfl⟩⟩
  try simp only [tdy] at h25
  refine AL_g rfl rfl (x_move rfl rfl) ?_
  refine AL_g rfl rfl (x_not rfl rfl) ?_
  refine AL_p (x_pickF rfl rfl rfl) ?_
  refine AL_nil ?_
  cases b30
  · try simp only [tdy] at h30
    have hss := same_no (x := x) (y := y) (.inr (bytes_bad hy h30))
    refine AW_condT rfl ?_
    refine AW_seq ?_
    refine AW_region ?_
    refine AL_p (x_loadN (n := 1) rfl rfl rfl (by kernel_rfl) rfl rfl) ?_
    refine AL_p (x_loadN (n := 1) rfl rfl rfl (by kernel_rfl) rfl rfl) ?_
    refine AL_b (x_call0 rfl rfl rfl (sameStoreI_c x y sx sy) rfl rfl) (fun b47 h47 => ?_)
    refine AL_p (x_not rfl rfl) ?_
    refine AL_p (x_assign rfl rfl) ?_
    refine AL_nil ?_
    refine AW_ret ?_
    cases b47
    rotate_left
    · exfalso; rw [hss] at h47; cases h47
    try simp only [tdy] at h47
    exact ⟨rn [], ⟨⟨⟨_, rfl, vle_bool rfl⟩, trivial⟩, trivial, trivial, rfl⟩⟩
  try simp only [tdy] at h30
  have ox := (bytes_good h25).1
  have ex := (bytes_good h25).2.1
  have e1 := (bytes_good h25).2.2
  have hq := text_same h25 h30
  refine AW_condF rfl ?_
  refine AW_skip ?_
  refine AW_seq ?_
  refine AW_region ?_
  refine AL_p (x_move rfl rfl) ?_
  refine AL_p (x_callR rfl rfl rfl (storeReadI_c (storeBytes x).1 105) rfl AllV.rf rfl rfl rfl rfl rfl) ?_
  refine AL_p (x_move rfl rfl) ?_
  refine AL_p (x_extract rfl rfl rfl) ?_
  refine AL_b (x_extract rfl rfl rfl) (fun b53 h53 => ?_)
  refine AL_p (x_alloc (z := .agg #[.slice none 0 0]) 106 rfl (by kernel_rfl) rfl rfl rfl rfl) ?_
  refine AL_p (x_store (n := 1) rfl rfl rfl rfl (by kernel_rfl) rfl rfl rfl) ?_
  refine AL_p (x_assign rfl rfl) ?_
  refine AL_nil ?_
  refine AW_seq ?_
  refine AW_shutB 105 106 0 rfl rfl rfl rfl ?_
  refine AW_draw rfl ?_
  refine AL_p (x_move rfl rfl) ?_
  refine AL_p (x_move rfl rfl) ?_
  cases b53
  · exfalso; rw [e1] at h53; cases h53
  try simp only [tdy] at h53
  refine AL_g rfl rfl (x_loadN (n := 1) rfl rfl rfl (by kernel_rfl) rfl rfl) ?_
  refine AL_g rfl rfl (x_loadN (n := 1) rfl rfl rfl (by kernel_rfl) rfl rfl) ?_
  refine AL_gb rfl rfl (x_call0 rfl rfl rfl (sameStoreS_c _ _ (by rw [e1]; exact sx) sx) rfl rfl) (fun b58 h58 => ?_)
  refine AL_p (x_pickT rfl rfl rfl) ?_
  refine AL_p (x_move rfl rfl) ?_
  cases b58
  · exfalso; rw [e1, sameStore_self ox] at h58; cases h58
  try simp only [tdy] at h58
  refine AL_g rfl rfl (x_move rfl rfl) ?_
  refine AL_g rfl rfl (x_otostr (E := 5) rfl rfl rfl (by kernel_rfl)) ?_
  refine AL_g rfl rfl (x_move rfl rfl) ?_
  refine AL_g rfl rfl (x_otostr (E := 5) rfl rfl rfl (by kernel_rfl)) ?_
  refine AL_gb rfl rfl (x_seql rfl rfl rfl) (fun b65 h65 => ?_)
  refine AL_g rfl rfl (x_loadN (n := 1) rfl rfl rfl (by kernel_rfl) rfl rfl) ?_
  refine AL_g rfl rfl (x_loadN (n := 1) rfl rfl rfl (by kernel_rfl) rfl rfl) ?_
  refine AL_gb rfl rfl (x_call0 rfl rfl rfl (sameStoreI_c x y sx sy) rfl rfl) (fun b68 h68 => ?_)
  refine AL_gb rfl rfl (x_beql rfl rfl rfl (by kernel_rfl)) (fun b69 h69 => ?_)
  refine AL_p (x_pickT rfl rfl rfl) ?_
  refine AL_p (x_assign rfl rfl) ?_
  refine AL_nild (by kernel_rfl) ?_
  refine AW_ret ?_
  cases b69
  · exfalso; rw [← h65, ← h68, hq] at h69; simp at h69
  try simp only [tdy] at h69
  exact ⟨rn [], ⟨⟨⟨_, rfl, vle_bool rfl⟩, trivial⟩, trivial, trivial, rfl⟩⟩
theorem lawFnStore.walk (w : World) (a0 : Option Addr) (n0 c0 : Nat) (x0 : List Int) (bs0 : List Nat) (g0 : SliceRep (intE .u8) w a0 n0 c0 x0 bs0) : Calls Try.prog 7 #[.slice a0 n0 c0] w fun e w' => e = .returned (.bool true) ∧ Below w.heap.size w w' :=
  (lawFnStore.fn x0).calls w _ ⟨arg_sl g0 (fun i hi => (sliceE (intE .u8)).lt (sliceE_iff.2 g0) i hi), trivial⟩
end Go.Proofs.Ytibhoanjglfaoaa

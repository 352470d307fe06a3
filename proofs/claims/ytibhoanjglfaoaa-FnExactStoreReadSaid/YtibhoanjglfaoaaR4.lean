/- Lemmas of the walks, part 4. -/
import Derived.Test.YtibhoanjglfaoaaR3
/- Numbers and texts ars bytes (printed by walk.py) -/
namespace Go.Proofs.Ytibhoanjglfaoaa
open Go.RowKit
set_option linter.unusedVariables false
set_option linter.unusedSimpArgs false
set_option maxRecDepth 100000

set_option maxHeartbeats 4000000 in
theorem putI_t (xs : List Int) (n : Int) (size : Nat) (h0 : 0 ≤ n) (h1 : n ≤ 9223372036854775807) (hs : size ≤ 6) (hl : xs.length ≤ 100000000) : AT Try.prog 69 [.one (.own 0), .one (.c (.int .i64 n)), .one (.c (.int .i64 (size : Int)))] [(0, some (.arr 5 (intE .u8) (xs) true))] (.one (.own 1)) [(1, some (.arr 5 (intE .u8) (xs ++ putB n size) true))] := by
  refine AT_body1 Try.func69 rfl rfl Try.ntmps69 rfl Try.results69 ?_
  refine AW_seq ?_
  refine AW_region ?_
  refine AL_p (x_assign rfl rfl) ?_
  refine AL_nil ?_
  refine AW_seq ?_
  refine AW_seq ?_
  refine AW_region ?_
  refine AL_p (x_move rfl rfl) ?_
  refine AL_p (x_sub rfl rfl rfl (IntWalk.i64_in _ (by omega))) ?_
  refine AL_p (x_assign rfl rfl) ?_
  refine AL_nil ?_
  refine AW_block ?_
  refine AW_loop2 (ι := {q : Nat // q ≤ size}) (fun p => [(0, .one (.own 0)), (7, .one (.c (.int .i64 (((p.1) : Int) - 1))))]) (fun p => [(0, some (.arr 5 (intE .u8) (xs ++ putTo n size (p.1)) true))]) [1] [] (fun p => (p.1)) ⟨size, Nat.le_refl _⟩ (rn []) ?_ ?_
  exact ⟨by (repeat refine ⟨⟨_, rfl, by first | exact VLe.rf | exact vle_int (by dsimp only; omega)⟩, ?_⟩); exact trivial, by (repeat refine ⟨⟨_, rfl, by first | exact BLe.rf | exact BLe.box AllC.rf | exact BLe.arr (by first | (rw [putTo_start, List.append_nil]; done) | (rw [List.append_assoc, hm]; done))⟩, ?_⟩); exact trivial, by repeat (first | exact trivial | refine ⟨⟨rfl, by first | (left; intro h; cases h) | (right; rfl), fun _ h => ⟨_, h⟩⟩, ?_⟩), rfl⟩
  rintro ⟨j, hinv⟩
  dsimp only
  have hj := hinv
  refine AW_seq ?_
  refine AW_seq ?_
  refine AW_region ?_
  refine AL_p (x_move rfl rfl) ?_
  refine AL_b (x_geq rfl rfl rfl) (fun b11 h11 => ?_)
  refine AL_nil ?_
  cases b11
  rotate_left
  · try simp only [decide_eq_true_eq, decide_eq_false_iff_not, Bool.not_eq_true, Bool.not_eq_false, Bool.not_eq_true', Bool.not_eq_false', beq_iff_eq, bne_iff_ne, beq_eq_false_iff_ne, bne_eq_false_iff_eq, Int.not_lt, Int.not_le, ge_iff_le, gt_iff_lt] at h11
    have hi : ((j : Int) - 1) = ((j - 1 : Nat) : Int) := by omega
    have hm : putTo n size j ++ [n / 256 ^ (j - 1) % 256] = putTo n size (j - 1) := by have hm := putTo_more (n := n) (size := size) (j := j - 1) (by omega); rwa [show j - 1 + 1 = j by omega] at hm
    refine AW_condT rfl ?_
    refine AW_skip ?_
    refine AW_seq ?_
    refine AW_block ?_
    refine AW_region ?_
    refine AL_p (x_move rfl rfl) ?_
    refine AL_p (x_move rfl rfl) ?_
    refine AL_p (x_move rfl rfl) ?_
    refine AL_p (x_mul rfl rfl rfl (IntWalk.i64_in _ (by omega))) ?_
    refine AL_p (x_shr rfl rfl rfl (r := n / 256 ^ (j - 1)) (by omega) (by rw [hi]; exact shr8 h0 (by omega)) (wf64i (div256_in h0).1 (by have := (div256_in (m := n) (i := j - 1) h0).2; omega))) ?_
    refine AL_p (x_conv (k' := .u8) rfl rfl (by kernel_rfl) (r := n / 256 ^ (j - 1) % 256) rfl) ?_
    refine AL_p (y_bslice (E := 5) (e := (intE .u8)) [.tmp 19] ([n / 256 ^ (j - 1) % 256]) 100 rfl rfl rfl rfl rfl rfl rfl rfl FitL.rf rfl rfl rfl rfl rfl rfl (by kernel_rfl)) ?_
    refine AL_p (y_append 101 rfl rfl rfl rfl rfl rfl rfl rfl (by kernel_rfl) (by have := putTo_len (n := n) (size := size) (j := j); simp only [List.length_append, List.length_cons, List.length_nil]; omega)) ?_
    refine AL_p (x_assign rfl rfl) ?_
    refine AL_nil ?_
    refine AW_region ?_
    refine AL_p (x_move rfl rfl) ?_
    refine AL_p (x_sub rfl rfl rfl (IntWalk.i64_in _ (by omega))) ?_
    refine AL_p (x_assign rfl rfl) ?_
    refine AL_nil ?_
    refine ⟨⟨j - 1, by omega⟩, rn [(0, 101)], ?_, by dsimp only; omega⟩
    exact ⟨by (repeat refine ⟨⟨_, rfl, by first | exact VLe.rf | exact vle_int (by dsimp only; omega)⟩, ?_⟩); exact trivial, by (repeat refine ⟨⟨_, rfl, by first | exact BLe.rf | exact BLe.box AllC.rf | exact BLe.arr (by first | (rw [putTo_start, List.append_nil]; done) | (rw [List.append_assoc, hm]; done))⟩, ?_⟩); exact trivial, by repeat (first | exact trivial | refine ⟨⟨rfl, by first | (left; intro h; cases h) | (right; rfl), fun _ h => ⟨_, h⟩⟩, ?_⟩), rfl⟩
  · try simp only [decide_eq_true_eq, decide_eq_false_iff_not, Bool.not_eq_true, Bool.not_eq_false, Bool.not_eq_true', Bool.not_eq_false', beq_iff_eq, bne_iff_ne, beq_eq_false_iff_ne, bne_eq_false_iff_eq, Int.not_lt, Int.not_le, ge_iff_le, gt_iff_lt] at h11
    refine AW_condF rfl ?_
    refine AW_exit (BQ_hit ?_)
    refine AW_seq ?_
    refine AW_region ?_
    refine AL_p (x_move rfl rfl) ?_
    refine AL_p (x_assign rfl rfl) ?_
    refine AL_nil ?_
    refine AW_ret ?_
    exact ⟨rn [(1, 0)], ⟨⟨⟨_, rfl, VLe.rf⟩, trivial⟩, ⟨⟨_, rfl, BLe.arr (by unfold putB; rw [show j = 0 by omega])⟩, trivial⟩, trivial, rfl⟩⟩

set_option maxHeartbeats 4000000 in
theorem putWordI_t (xs : List Int) (b : ByteArray) (hb : b.size ≤ 255) (hl : xs.length ≤ 100000000) : AT Try.prog 68 [.one (.own 0), .one (.c (.string b))] [(0, some (.arr 5 (intE .u8) (xs) true))] (.one (.own 1)) [(1, some (.arr 5 (intE .u8) (xs ++ [(b.size : Int)] ++ strBytes b) true))] := by
  refine AT_body1 Try.func68 rfl rfl Try.ntmps68 rfl Try.results68 ?_
  refine AW_seq ?_
  refine AW_region ?_
  refine AL_p (x_assign rfl rfl) ?_
  refine AL_nil ?_
  refine AW_seq ?_
  refine AW_region ?_
  refine AL_p (x_move rfl rfl) ?_
  refine AL_p (x_move rfl rfl) ?_
  refine AL_p (x_lens rfl rfl (by kernel_rfl)) ?_
  refine AL_p (x_conv (k' := .u8) rfl rfl (by kernel_rfl) (wrap8_id (by omega) (by omega))) ?_
  refine AL_p (y_bslice (E := 5) (e := (intE .u8)) [.tmp 8] ([(b.size : Int)]) 100 rfl rfl rfl rfl rfl rfl rfl rfl FitL.rf rfl rfl rfl rfl rfl rfl (by kernel_rfl)) ?_
  refine AL_p (y_append 101 rfl rfl rfl rfl rfl rfl rfl rfl (by kernel_rfl) (by simp; omega)) ?_
  refine AL_p (x_move rfl rfl) ?_
  refine AL_p (x_append_str (E := 5) 102 rfl rfl rfl rfl (by kernel_rfl) rfl rfl (by simp; omega)) ?_
  refine AL_p (x_assign rfl rfl) ?_
  refine AL_nil ?_
  refine AW_ret ?_
  exact ⟨rn [(1, 102)], ⟨⟨⟨_, rfl, VLe.rf⟩, trivial⟩, ⟨⟨_, rfl, BLe.rf⟩, trivial⟩, trivial, rfl⟩⟩

set_option maxHeartbeats 4000000 in
theorem putValueI_t (xs : List Int) (v : Val) (hv : valOk v = true) (hl : xs.length ≤ 90000000) : AT Try.prog 70 [.one (.own 0), .agg (valC v)] [(0, some (.arr 5 (intE .u8) (xs) true))] (.one (.own 1)) [(1, some (.arr 5 (intE .u8) (xs ++ valBytes v) true))] := by
  refine AT_body1 Try.func70 rfl rfl Try.ntmps70 rfl Try.results70 ?_
  refine AW_seq ?_
  refine AW_region ?_
  refine AL_p (x_box 100 rfl rfl rfl rfl rfl rfl rfl) ?_
  refine AL_p (x_assign rfl rfl) ?_
  refine AL_nil ?_
  refine AW_seq ?_
  refine AW_seq ?_
  refine AW_region ?_
  refine AL_p (x_field (off := 1) (o' := 1) rfl rfl rfl (by kernel_rfl) rfl) ?_
  refine AL_p (x_load1 rfl rfl rfl (by kernel_rfl) rfl) ?_
  refine AL_b (x_seql rfl rfl rfl) (fun b7 h7 => ?_)
  refine AL_nil ?_
  cases b7
  rotate_left
  · try simp only [decide_eq_true_eq, decide_eq_false_iff_not, Bool.not_eq_true, Bool.not_eq_false, Bool.not_eq_true', Bool.not_eq_false', beq_iff_eq, bne_iff_ne, beq_eq_false_iff_ne, bne_eq_false_iff_eq, Int.not_lt, Int.not_le, ge_iff_le, gt_iff_lt] at h7
    refine AW_condT rfl ?_
    refine AW_seq ?_
    refine AW_draw rfl ?_
    refine AL_p (x_move rfl rfl) ?_
    refine AL_p (y_bslice (E := 5) (e := (intE .u8)) [.const (.int .u8 (0))] ([0]) 101 rfl rfl rfl rfl rfl rfl rfl rfl FitL.rf rfl rfl rfl rfl rfl rfl (by kernel_rfl)) ?_
    refine AL_p (y_append 102 rfl rfl rfl rfl rfl rfl rfl rfl (by kernel_rfl) (by simp only [List.length_cons, List.length_nil]; omega)) ?_
    refine AL_p (x_field (off := 0) (o' := 0) rfl rfl rfl (by kernel_rfl) rfl) ?_
    refine AL_p (x_load1 rfl rfl rfl (by kernel_rfl) rfl) ?_
    refine AL_p (x_call (ks := []) (L := [(102, some _)]) (L' := [(102, none), (103, some _)]) rfl rfl rfl (AT.lend1 (putI_t (xs ++ [0]) v.n 6 (valOk_in hv).1 (by have := valOk_in hv; omega) (by omega) (by simp only [List.length_append, List.length_cons, List.length_nil]; omega)) 102 103 rfl (fun _ => rfl)) rfl AllV.rf (caught_of rfl) rfl rfl rfl ⟨rfl, trivial⟩ rfl) ?_
    refine AL_p (x_assign rfl rfl) ?_
    refine AL_nild (by kernel_rfl) ?_
    refine AW_ret ?_
    exact ⟨rn [(1, 103)], ⟨⟨⟨_, rfl, VLe.rf⟩, trivial⟩, ⟨⟨_, rfl, by first | exact BLe.arr (by rw [valBytes_num h7, List.append_assoc]) | exact BLe.arr (by rw [valBytes_word h7, List.append_assoc])⟩, trivial⟩, trivial, rfl⟩⟩
  · try simp only [decide_eq_true_eq, decide_eq_false_iff_not, Bool.not_eq_true, Bool.not_eq_false, Bool.not_eq_true', Bool.not_eq_false', beq_iff_eq, bne_iff_ne, beq_eq_false_iff_ne, bne_eq_false_iff_eq, Int.not_lt, Int.not_le, ge_iff_le, gt_iff_lt] at h7
    refine AW_condF rfl ?_
    refine AW_skip ?_
    refine AW_seq ?_
    refine AW_region ?_
    refine AL_p (x_move rfl rfl) ?_
    refine AL_p (x_field (off := 1) (o' := 1) rfl rfl rfl (by kernel_rfl) rfl) ?_
    refine AL_p (x_load1 rfl rfl rfl (by kernel_rfl) rfl) ?_
    refine AL_p (x_call (ks := []) (L := [(0, some _)]) (L' := [(0, none), (104, some _)]) rfl rfl rfl (AT.lend1 (putWordI_t xs v.s (by have := valOk_in hv; omega) (by omega)) 0 104 rfl (fun _ => rfl)) rfl AllV.rf (caught_of rfl) rfl rfl rfl ⟨rfl, trivial⟩ rfl) ?_
    refine AL_p (x_assign rfl rfl) ?_
    refine AL_nil ?_
    refine AW_ret ?_
    exact ⟨rn [(1, 104)], ⟨⟨⟨_, rfl, VLe.rf⟩, trivial⟩, ⟨⟨_, rfl, by first | exact BLe.arr (by rw [valBytes_num h7, List.append_assoc]) | exact BLe.arr (by rw [valBytes_word h7, List.append_assoc])⟩, trivial⟩, trivial, rfl⟩⟩

set_option maxHeartbeats 4000000 in
theorem storeBytesI_c0 (s : Storet) (hs : smallStore s) : AC Try.prog 25 [.agg (storeC s)] [] (.tup [.one (.own 0), .one (.c (.bool (storeBytes s).2))]) [(0, some (.arr 5 (intE .u8) ((storeBytes s).1) true))] := by
  refine AC_body2 Try.func25 rfl rfl Try.ntmps25 rfl Try.results25 rfl rfl rfl ?_
  refine AW_seq ?_
  refine AW_region ?_
  refine AL_p (x_box 100 rfl rfl rfl rfl rfl rfl rfl) ?_
  refine AL_p (x_assign rfl rfl) ?_
  refine AL_p (x_assign rfl rfl) ?_
  refine AL_nil ?_
  refine AW_seq ?_
  refine AW_seq ?_
  refine AW_region ?_
  refine AL_p (x_loadN (n := 1) rfl rfl rfl (by kernel_rfl) rfl rfl) ?_
  refine AL_b (x_call0 rfl rfl rfl (storeOkI_c _ hs) rfl rfl) (fun b12 h12 => ?_)
  refine AL_p (x_not rfl rfl) ?_
  refine AL_nil ?_
  cases b12
  rotate_left
  · try simp only [decide_eq_true_eq, decide_eq_false_iff_not, Bool.not_eq_true, Bool.not_eq_false, Bool.not_eq_true', Bool.not_eq_false', beq_iff_eq, bne_iff_ne, beq_eq_false_iff_ne, bne_eq_false_iff_eq, Int.not_lt, Int.not_le, ge_iff_le, gt_iff_lt] at h12
    have hok := h12
    have hmx := storeOk_max h12
    refine AW_condF rfl ?_
    refine AW_skip ?_
    refine AW_seq ?_
    refine AW_region ?_
    refine AL_p (x_field (off := 0) (o' := 0) rfl rfl rfl (by kernel_rfl) rfl) ?_
    refine AL_p (x_load1 rfl rfl rfl (by kernel_rfl) rfl) ?_
    refine AL_p (x_len (E := 89) (n := 3) rfl rfl (by kernel_rfl)) ?_
    refine AL_p (x_conv (k' := .u8) rfl rfl (by kernel_rfl) (wrap8_id (by omega) (by omega))) ?_
    refine AL_p (y_bslice (E := 5) (e := (intE .u8)) [.tmp 17] ([(s.rels.length : Int)]) 101 rfl rfl rfl rfl rfl rfl rfl rfl FitL.rf rfl rfl rfl rfl rfl rfl (by kernel_rfl)) ?_
    refine AL_p (x_assign rfl rfl) ?_
    refine AL_nil ?_
    refine AW_seq ?_
    refine AW_seq ?_
    refine AW_region ?_
    refine AL_p (x_field (off := 0) (o' := 0) rfl rfl rfl (by kernel_rfl) rfl) ?_
    refine AL_p (x_load1 rfl rfl rfl (by kernel_rfl) rfl) ?_
    refine AL_p (x_len (E := 89) (n := 3) rfl rfl (by kernel_rfl)) ?_
    refine AL_p (x_move rfl rfl) ?_
    refine AL_nil ?_
    refine AW_block ?_
    refine AW_loop2 (ι := {q : Nat // q ≤ s.rels.length}) (fun p => [(4, .one (.own 101)), (22, .one (.c (.int .i64 ((p.1) : Int))))]) (fun p => [(101, some (.arr 5 (intE .u8) ([(s.rels.length : Int)] ++ flatTo namedBytes s.rels (p.1)) true))]) [20, 21] [100] (fun p => s.rels.length - (p.1)) ⟨0, by omega⟩ (rn []) ?_ ?_
    exact ⟨by (repeat refine ⟨⟨_, rfl, by first | exact VLe.rf | exact vle_int (by dsimp only; omega)⟩, ?_⟩); exact trivial, by (repeat refine ⟨⟨_, rfl, by first | exact BLe.rf | exact BLe.box AllC.rf | exact BLe.arr (by first | (rw [flatTo_zero, List.append_nil]; done) | (rw [← flatTo_more (f := namedBytes) (xs := s.rels) (k := k) (by omega), flatTo_all (f := rowBytes) (by omega)]; simp only [namedBytes, List.append_assoc]; done))⟩, ?_⟩); exact trivial, by repeat (first | exact trivial | refine ⟨⟨rfl, by first | (left; intro h; cases h) | (right; rfl), fun _ h => ⟨_, h⟩⟩, ?_⟩), rfl⟩
    rintro ⟨k, hinv⟩
    dsimp only
    have hk := hinv
    have hmx := storeOk_max hok
    have hA := names_len hok k
    refine AW_seq ?_
    refine AW_region ?_
    refine AL_b (x_lss rfl rfl rfl) (fun b23 h23 => ?_)
    refine AL_nil ?_
    refine AW_seq ?_
    cases b23
    rotate_left
    · try simp only [decide_eq_true_eq, decide_eq_false_iff_not, Bool.not_eq_true, Bool.not_eq_false, Bool.not_eq_true', Bool.not_eq_false', beq_iff_eq, bne_iff_ne, beq_eq_false_iff_ne, bne_eq_false_iff_eq, Int.not_lt, Int.not_le, ge_iff_le, gt_iff_lt] at h23
      have hrk := storeOk_rel hok (k := k) (by omega)
      have hwk := storeOk_word hok (k := k) (by omega)
      have hrs := relOk_small hrk
      refine AW_condT rfl ?_
      refine AW_skip ?_
      refine AW_seq ?_
      refine AW_block ?_
      refine AW_seq ?_
      refine AW_region ?_
      refine AL_p (x_index (E := 89) (n := 3) rfl rfl rfl (by kernel_rfl) rfl (k := k) (by omega) (by omega)) ?_
      refine AL_p (x_eloadW (n := 3) rfl rfl (by kernel_rfl) rfl) ?_
      refine AL_p (x_alloc (z := .agg #[.string ⟨#[]⟩, .int .i64 0, .slice none 0 0]) 102 rfl (by kernel_rfl) rfl rfl rfl rfl) ?_
      refine AL_p (x_store (n := 3) rfl rfl rfl rfl (by kernel_rfl) rfl rfl rfl) ?_
      refine AL_nil ?_
      refine AW_seq ?_
      refine AW_draw rfl ?_
      refine AL_p (x_move rfl rfl) ?_
      refine AL_p (x_field (off := 0) (o' := 0) rfl rfl rfl (by kernel_rfl) rfl) ?_
      refine AL_p (x_load1 rfl rfl rfl (by kernel_rfl) rfl) ?_
      refine AL_p (x_call (ks := []) (L := [(101, some _)]) (L' := [(101, none), (103, some _)]) rfl rfl rfl (AT.lend1 (putWordI_t ([(s.rels.length : Int)] ++ flatTo namedBytes s.rels k) (s.rels[k]'(by omega)).name (by omega) (by (try simp only [List.length_append, List.length_cons, List.length_nil, strBytes_len, putB_len]); omega)) 101 103 rfl (fun _ => rfl)) rfl AllV.rf (caught_of rfl) rfl rfl rfl ⟨rfl, trivial⟩ rfl) ?_
      refine AL_p (x_field (off := 1) (o' := 1) rfl rfl rfl (by kernel_rfl) rfl) ?_
      refine AL_p (x_field (off := 0) (o' := 1) rfl rfl rfl (by kernel_rfl) rfl) ?_
      refine AL_p (x_load1 rfl rfl rfl (by kernel_rfl) rfl) ?_
      refine AL_p (x_conv (k' := .u8) rfl rfl (by kernel_rfl) (wrap8_id (by omega) (by omega))) ?_
      refine AL_p (y_bslice (E := 5) (e := (intE .u8)) [.tmp 33] ([(s.rels[k]'(by omega)).rel.arity]) 104 rfl rfl rfl rfl rfl rfl rfl rfl FitL.rf rfl rfl rfl rfl rfl rfl (by kernel_rfl)) ?_
      refine AL_p (y_append 105 rfl rfl rfl rfl rfl rfl rfl rfl (by kernel_rfl) (by (try simp only [List.length_append, List.length_cons, List.length_nil, strBytes_len, putB_len]); omega)) ?_
      refine AL_p (x_assign rfl rfl) ?_
      refine AL_nild (by kernel_rfl) ?_
      refine AW_seq ?_
      refine AW_region ?_
      refine AL_p (x_move rfl rfl) ?_
      refine AL_p (x_field (off := 1) (o' := 1) rfl rfl rfl (by kernel_rfl) rfl) ?_
      refine AL_p (x_field (off := 1) (o' := 2) rfl rfl rfl (by kernel_rfl) rfl) ?_
      refine AL_p (x_load1 rfl rfl rfl (by kernel_rfl) rfl) ?_
      refine AL_p (x_len (E := 92) (n := 1) rfl rfl (by kernel_rfl)) ?_
      refine AL_p (x_call (ks := []) (L := [(105, some _)]) (L' := [(105, none), (106, some _)]) rfl rfl rfl (AT.lend1 (putI_t _ ((s.rels[k]'(by omega)).rel.rows.length : Int) 2 (by omega) (by omega) (by omega) (by (try simp only [List.length_append, List.length_cons, List.length_nil, strBytes_len, putB_len]); omega)) 105 106 rfl (fun _ => rfl)) rfl AllV.rf (caught_of rfl) rfl rfl rfl ⟨rfl, trivial⟩ rfl) ?_
      refine AL_p (x_assign rfl rfl) ?_
      refine AL_nil ?_
      refine AW_seq ?_
      refine AW_region ?_
      refine AL_p (x_field (off := 1) (o' := 1) rfl rfl rfl (by kernel_rfl) rfl) ?_
      refine AL_p (x_field (off := 1) (o' := 2) rfl rfl rfl (by kernel_rfl) rfl) ?_
      refine AL_p (x_load1 rfl rfl rfl (by kernel_rfl) rfl) ?_
      refine AL_p (x_len (E := 92) (n := 1) rfl rfl (by kernel_rfl)) ?_
      refine AL_p (x_move rfl rfl) ?_
      refine AL_nil ?_
      refine AW_block ?_
      refine AW_loop2 (ι := {q : Nat // q ≤ (s.rels[k]'(by omega)).rel.rows.length}) (fun p => [(4, .one (.own 106)), (46, .one (.c (.int .i64 ((p.1) : Int))))]) (fun p => [(106, some (.arr 5 (intE .u8) ([(s.rels.length : Int)] ++ flatTo namedBytes s.rels k ++ ([((s.rels[k]'(by omega)).name.size : Int)] ++ strBytes (s.rels[k]'(by omega)).name ++ [(s.rels[k]'(by omega)).rel.arity] ++ putB (s.rels[k]'(by omega)).rel.rows.length 2) ++ flatTo rowBytes (s.rels[k]'(by omega)).rel.rows (p.1)) true))]) [20, 21, 22, 44, 45] [100, 102] (fun p => (s.rels[k]'(by omega)).rel.rows.length - (p.1)) ⟨0, by omega⟩ (rn []) ?_ ?_
      exact ⟨by (repeat refine ⟨⟨_, rfl, by first | exact VLe.rf | exact vle_int (by dsimp only; omega)⟩, ?_⟩); exact trivial, by (repeat refine ⟨⟨_, rfl, by first | exact BLe.rf | exact BLe.box AllC.rf | exact BLe.arr (by first | (rw [flatTo_zero, List.append_nil]; simp only [List.append_assoc]; done) | (rw [← flatTo_more (f := rowBytes) (k := j) (by omega), flatTo_all (f := valBytes) (by omega)]; simp only [rowBytes, List.append_assoc]; done))⟩, ?_⟩); exact trivial, by repeat (first | exact trivial | refine ⟨⟨rfl, by first | (left; intro h; cases h) | (right; rfl), fun _ h => ⟨_, h⟩⟩, ?_⟩), rfl⟩
      rintro ⟨j, hinv⟩
      dsimp only
      have hj := hinv
      have hB := rows_len hrk j
      refine AW_seq ?_
      refine AW_region ?_
      refine AL_b (x_lss rfl rfl rfl) (fun b47 h47 => ?_)
      refine AL_nil ?_
      refine AW_seq ?_
      cases b47
      rotate_left
      · try simp only [decide_eq_true_eq, decide_eq_false_iff_not, Bool.not_eq_true, Bool.not_eq_false, Bool.not_eq_true', Bool.not_eq_false', beq_iff_eq, bne_iff_ne, beq_eq_false_iff_ne, bne_eq_false_iff_eq, Int.not_lt, Int.not_le, ge_iff_le, gt_iff_lt] at h47
        refine AW_condT rfl ?_
        refine AW_skip ?_
        refine AW_seq ?_
        refine AW_block ?_
        refine AW_seq ?_
        refine AW_region ?_
        refine AL_p (x_index (E := 92) (n := 1) rfl rfl rfl (by kernel_rfl) rfl (k := j) (by omega) (by omega)) ?_
        refine AL_p (x_eloadW (n := 1) rfl rfl (by kernel_rfl) rfl) ?_
        refine AL_p (x_alloc (z := .agg #[.slice none 0 0]) 107 rfl (by kernel_rfl) rfl rfl rfl rfl) ?_
        refine AL_p (x_store (n := 1) rfl rfl rfl rfl (by kernel_rfl) rfl rfl rfl) ?_
        refine AL_nil ?_
        refine AW_seq ?_
        refine AW_region ?_
        refine AL_p (x_field (off := 0) (o' := 0) rfl rfl rfl (by kernel_rfl) rfl) ?_
        refine AL_p (x_load1 rfl rfl rfl (by kernel_rfl) rfl) ?_
        refine AL_p (x_len (E := 94) (n := 2) rfl rfl (by kernel_rfl)) ?_
        refine AL_p (x_move rfl rfl) ?_
        refine AL_nil ?_
        refine AW_block ?_
        refine AW_loop2 (ι := {q : Nat // q ≤ ((s.rels[k]'(by omega)).rel.rows[j]'(by omega)).length}) (fun p => [(4, .one (.own 106)), (53, .one (.c (.int .i64 ((p.1) : Int))))]) (fun p => [(106, some (.arr 5 (intE .u8) ([(s.rels.length : Int)] ++ flatTo namedBytes s.rels k ++ ([((s.rels[k]'(by omega)).name.size : Int)] ++ strBytes (s.rels[k]'(by omega)).name ++ [(s.rels[k]'(by omega)).rel.arity] ++ putB (s.rels[k]'(by omega)).rel.rows.length 2) ++ flatTo rowBytes (s.rels[k]'(by omega)).rel.rows j ++ flatTo valBytes ((s.rels[k]'(by omega)).rel.rows[j]'(by omega)) (p.1)) true))]) [20, 21, 22, 44, 45, 46, 51, 52] [100, 102, 107] (fun p => ((s.rels[k]'(by omega)).rel.rows[j]'(by omega)).length - (p.1)) ⟨0, by omega⟩ (rn []) ?_ ?_
        exact ⟨by (repeat refine ⟨⟨_, rfl, by first | exact VLe.rf | exact vle_int (by dsimp only; omega)⟩, ?_⟩); exact trivial, by (repeat refine ⟨⟨_, rfl, by first | exact BLe.rf | exact BLe.box AllC.rf | exact BLe.arr (by first | (rw [flatTo_zero, List.append_nil]; done) | (rw [← flatTo_more (f := valBytes) (k := i) (by omega)]; simp only [List.append_assoc]; done))⟩, ?_⟩); exact trivial, by repeat (first | exact trivial | refine ⟨⟨rfl, by first | (left; intro h; cases h) | (right; rfl), fun _ h => ⟨_, h⟩⟩, ?_⟩), rfl⟩
        rintro ⟨i, hinv⟩
        dsimp only
        have hi := hinv
        have hrl := hrs.2.2.2 ((s.rels[k]'(by omega)).rel.rows[j]'(by omega)) (List.getElem_mem _)
        have hC := vals_len hrk (List.getElem_mem (l := (s.rels[k]'(by omega)).rel.rows) (n := j) (by omega)) i
        refine AW_seq ?_
        refine AW_region ?_
        refine AL_b (x_lss rfl rfl rfl) (fun b54 h54 => ?_)
        refine AL_nil ?_
        refine AW_seq ?_
        cases b54
        rotate_left
        · try simp only [decide_eq_true_eq, decide_eq_false_iff_not, Bool.not_eq_true, Bool.not_eq_false, Bool.not_eq_true', Bool.not_eq_false', beq_iff_eq, bne_iff_ne, beq_eq_false_iff_ne, bne_eq_false_iff_eq, Int.not_lt, Int.not_le, ge_iff_le, gt_iff_lt] at h54
          refine AW_condT rfl ?_
          refine AW_skip ?_
          refine AW_seq ?_
          refine AW_block ?_
          refine AW_seq ?_
          refine AW_region ?_
          refine AL_p (x_index (E := 94) (n := 2) rfl rfl rfl (by kernel_rfl) rfl (k := i) (by omega) (by omega)) ?_
          refine AL_p (x_eloadW (n := 2) rfl rfl (by kernel_rfl) rfl) ?_
          refine AL_p (x_alloc (z := .agg #[.int .i64 0, .string ⟨#[]⟩]) 108 rfl (by kernel_rfl) rfl rfl rfl rfl) ?_
          refine AL_p (x_store (n := 2) rfl rfl rfl rfl (by kernel_rfl) rfl rfl rfl) ?_
          refine AL_nil ?_
          refine AW_region ?_
          refine AL_p (x_move rfl rfl) ?_
          refine AL_p (x_loadN (n := 2) rfl rfl rfl (by kernel_rfl) rfl rfl) ?_
          refine AL_p (x_call (ks := []) (L := [(106, some _)]) (L' := [(106, none), (109, some _)]) rfl rfl rfl (AT.lend1 (putValueI_t _ (((s.rels[k]'(by omega)).rel.rows[j]'(by omega))[i]'(by omega)) (relOk_vals2 hrk _ (List.getElem_mem _) _ (List.getElem_mem _)) (by (try simp only [List.length_append, List.length_cons, List.length_nil, strBytes_len, putB_len]); omega)) 106 109 rfl (fun _ => rfl)) rfl AllV.rf (caught_of rfl) rfl rfl rfl ⟨rfl, trivial⟩ rfl) ?_
          refine AL_p (x_assign rfl rfl) ?_
          refine AL_nil ?_
          refine AW_region ?_
          refine AL_p (x_add rfl rfl rfl (IntWalk.i64_in _ (by omega))) ?_
          refine AL_p (x_move rfl rfl) ?_
          refine AL_nil ?_
          refine ⟨⟨i + 1, by omega⟩, rn [(106, 109)], ?_, by dsimp only; omega⟩
          exact ⟨by (repeat refine ⟨⟨_, rfl, by first | exact VLe.rf | exact vle_int (by dsimp only; omega)⟩, ?_⟩); exact trivial, by (repeat refine ⟨⟨_, rfl, by first | exact BLe.rf | exact BLe.box AllC.rf | exact BLe.arr (by first | (rw [flatTo_zero, List.append_nil]; done) | (rw [← flatTo_more (f := valBytes) (k := i) (by omega)]; simp only [List.append_assoc]; done))⟩, ?_⟩); exact trivial, by repeat (first | exact trivial | refine ⟨⟨rfl, by first | (left; intro h; cases h) | (right; rfl), fun _ h => ⟨_, h⟩⟩, ?_⟩), rfl⟩
        · try simp only [decide_eq_true_eq, decide_eq_false_iff_not, Bool.not_eq_true, Bool.not_eq_false, Bool.not_eq_true', Bool.not_eq_false', beq_iff_eq, bne_iff_ne, beq_eq_false_iff_ne, bne_eq_false_iff_eq, Int.not_lt, Int.not_le, ge_iff_le, gt_iff_lt] at h54
          refine AW_condF rfl ?_
          refine AW_exit (BQ_hit ?_)
          refine AW_region ?_
          refine AL_p (x_add rfl rfl rfl (IntWalk.i64_in _ (by omega))) ?_
          refine AL_p (x_move rfl rfl) ?_
          refine AL_nil ?_
          refine ⟨⟨j + 1, by omega⟩, rn [], ?_, by dsimp only; omega⟩
          exact ⟨by (repeat refine ⟨⟨_, rfl, by first | exact VLe.rf | exact vle_int (by dsimp only; omega)⟩, ?_⟩); exact trivial, by (repeat refine ⟨⟨_, rfl, by first | exact BLe.rf | exact BLe.box AllC.rf | exact BLe.arr (by first | (rw [flatTo_zero, List.append_nil]; simp only [List.append_assoc]; done) | (rw [← flatTo_more (f := rowBytes) (k := j) (by omega), flatTo_all (f := valBytes) (by omega)]; simp only [rowBytes, List.append_assoc]; done))⟩, ?_⟩); exact trivial, by repeat (first | exact trivial | refine ⟨⟨rfl, by first | (left; intro h; cases h) | (right; rfl), fun _ h => ⟨_, h⟩⟩, ?_⟩), rfl⟩
      · try simp only [decide_eq_true_eq, decide_eq_false_iff_not, Bool.not_eq_true, Bool.not_eq_false, Bool.not_eq_true', Bool.not_eq_false', beq_iff_eq, bne_iff_ne, beq_eq_false_iff_ne, bne_eq_false_iff_eq, Int.not_lt, Int.not_le, ge_iff_le, gt_iff_lt] at h47
        refine AW_condF rfl ?_
        refine AW_exit (BQ_hit ?_)
        refine AW_region ?_
        refine AL_p (x_add rfl rfl rfl (IntWalk.i64_in _ (by omega))) ?_
        refine AL_p (x_move rfl rfl) ?_
        refine AL_nil ?_
        refine ⟨⟨k + 1, by omega⟩, rn [(101, 106)], ?_, by dsimp only; omega⟩
        exact ⟨by (repeat refine ⟨⟨_, rfl, by first | exact VLe.rf | exact vle_int (by dsimp only; omega)⟩, ?_⟩); exact trivial, by (repeat refine ⟨⟨_, rfl, by first | exact BLe.rf | exact BLe.box AllC.rf | exact BLe.arr (by first | (rw [flatTo_zero, List.append_nil]; done) | (rw [← flatTo_more (f := namedBytes) (xs := s.rels) (k := k) (by omega), flatTo_all (f := rowBytes) (by omega)]; simp only [namedBytes, List.append_assoc]; done))⟩, ?_⟩); exact trivial, by repeat (first | exact trivial | refine ⟨⟨rfl, by first | (left; intro h; cases h) | (right; rfl), fun _ h => ⟨_, h⟩⟩, ?_⟩), rfl⟩
    · try simp only [decide_eq_true_eq, decide_eq_false_iff_not, Bool.not_eq_true, Bool.not_eq_false, Bool.not_eq_true', Bool.not_eq_false', beq_iff_eq, bne_iff_ne, beq_eq_false_iff_ne, bne_eq_false_iff_eq, Int.not_lt, Int.not_le, ge_iff_le, gt_iff_lt] at h23
      refine AW_condF rfl ?_
      refine AW_exit (BQ_hit ?_)
      refine AW_seq ?_
      refine AW_seq ?_
      refine AW_region ?_
      refine AL_p (x_move rfl rfl) ?_
      refine AL_p (x_olen (E := 5) (n := 1) rfl rfl rfl (by kernel_rfl)) ?_
      refine AL_b (x_gtr rfl rfl rfl) (fun b65 h65 => ?_)
      refine AL_nil ?_
      cases b65
      rotate_left
      · try simp only [decide_eq_true_eq, decide_eq_false_iff_not, Bool.not_eq_true, Bool.not_eq_false, Bool.not_eq_true', Bool.not_eq_false', beq_iff_eq, bne_iff_ne, beq_eq_false_iff_ne, bne_eq_false_iff_eq, Int.not_lt, Int.not_le, ge_iff_le, gt_iff_lt] at h65
        have hno := storeBytes_big hok (by rw [← storeB_to (k := k) (by omega)]; exact h65)
        refine AW_condT rfl ?_
        refine AW_seq ?_
        refine AW_region ?_
        refine AL_p (x_assign rfl rfl) ?_
        refine AL_p (x_assign rfl rfl) ?_
        refine AL_nil ?_
        refine AW_adoptT (T := 5) (e := (intE .u8)) 110 2 rfl rfl rfl ?_
        refine AW_ret ?_
        exact ⟨rn [(0, 110)], ⟨⟨⟨_, rfl, VLe.rf⟩, ⟨_, rfl, by first | exact VLe.rf | exact vle_bool (by rw [hno])⟩, trivial⟩, ⟨⟨_, rfl, by first | exact BLe.rf | (refine BLe.arr ?_; rw [hno]; done) | (refine BLe.arr ?_; rw [hno]; exact storeB_to (by omega))⟩, trivial⟩, trivial, rfl⟩⟩
      · try simp only [decide_eq_true_eq, decide_eq_false_iff_not, Bool.not_eq_true, Bool.not_eq_false, Bool.not_eq_true', Bool.not_eq_false', beq_iff_eq, bne_iff_ne, beq_eq_false_iff_ne, bne_eq_false_iff_eq, Int.not_lt, Int.not_le, ge_iff_le, gt_iff_lt] at h65
        have hno := storeBytes_ok hok (by rw [← storeB_to (k := k) (by omega)]; omega)
        refine AW_condF rfl ?_
        refine AW_skip ?_
        refine AW_seq ?_
        refine AW_region ?_
        refine AL_p (x_move rfl rfl) ?_
        refine AL_p (x_assign rfl rfl) ?_
        refine AL_p (x_assign rfl rfl) ?_
        refine AL_nil ?_
        refine AW_ret ?_
        exact ⟨rn [(0, 101)], ⟨⟨⟨_, rfl, VLe.rf⟩, ⟨_, rfl, by first | exact VLe.rf | exact vle_bool (by rw [hno])⟩, trivial⟩, ⟨⟨_, rfl, by first | exact BLe.rf | (refine BLe.arr ?_; rw [hno]; done) | (refine BLe.arr ?_; rw [hno]; exact storeB_to (by omega))⟩, trivial⟩, trivial, rfl⟩⟩
  · try simp only [decide_eq_true_eq, decide_eq_false_iff_not, Bool.not_eq_true, Bool.not_eq_false, Bool.not_eq_true', Bool.not_eq_false', beq_iff_eq, bne_iff_ne, beq_eq_false_iff_ne, bne_eq_false_iff_eq, Int.not_lt, Int.not_le, ge_iff_le, gt_iff_lt] at h12
    have hno := storeBytes_no h12
    refine AW_condT rfl ?_
    refine AW_seq ?_
    refine AW_region ?_
    refine AL_p (x_assign rfl rfl) ?_
    refine AL_p (x_assign rfl rfl) ?_
    refine AL_nil ?_
    refine AW_adoptT (T := 5) (e := (intE .u8)) 110 2 rfl rfl rfl ?_
    refine AW_ret ?_
    exact ⟨rn [(0, 110)], ⟨⟨⟨_, rfl, VLe.rf⟩, ⟨_, rfl, by first | exact VLe.rf | exact vle_bool (by rw [hno])⟩, trivial⟩, ⟨⟨_, rfl, by first | exact BLe.rf | (refine BLe.arr ?_; rw [hno]; done) | (refine BLe.arr ?_; rw [hno]; exact storeB_to (by omega))⟩, trivial⟩, trivial, rfl⟩⟩
theorem storeBytesI_c (s : Storet) (hs : smallStore s) (k : Nat) : AC Try.prog 25 [.agg (storeC s)] [] (.tup [.one (.own k), .one (.c (.bool (storeBytes s).2))]) [(k, some (.arr 5 (intE .u8) ((storeBytes s).1) true))] := AC.at (storeBytesI_c0 s hs) k

set_option maxHeartbeats 4000000 in
theorem powN_c (n : Nat) (h1 : n ≤ 6) : AC Try.prog 150 [.one (.c (.int .i64 (n : Int)))] [] (.one (.c (.int .i64 ((256 : Int) ^ n)))) [] := by
  refine AC_body1 Try.func150 rfl rfl Try.ntmps150 rfl Try.results150 ?_
  refine AW_seq ?_
  refine AW_region ?_
  refine AL_p (x_assign rfl rfl) ?_
  refine AL_nil ?_
  refine AW_seq ?_
  refine AW_region ?_
  refine AL_p (x_assign rfl rfl) ?_
  refine AL_nil ?_
  refine AW_seq ?_
  refine AW_seq ?_
  refine AW_region ?_
  refine AL_p (x_assign rfl rfl) ?_
  refine AL_nil ?_
  refine AW_block ?_
  refine AW_loop2 (ι := {q : Nat // q ≤ n}) (fun p => [(3, .one (.c (.int .i64 ((256 : Int) ^ (p.1))))), (4, .one (.c (.int .i64 ((p.1) : Int))))]) (fun p => []) [0] [] (fun p => n - (p.1)) ⟨0, by omega⟩ (rn []) ?_ ?_
  exact ⟨by (repeat refine ⟨⟨_, rfl, by first | exact VLe.rf | exact vle_int (by dsimp only; omega)⟩, ?_⟩); exact trivial, by (repeat refine ⟨⟨_, rfl, by first | exact BLe.rf | exact BLe.box AllC.rf | exact BLe.arr (by exact rfl)⟩, ?_⟩); exact trivial, by repeat (first | exact trivial | refine ⟨⟨rfl, by first | (left; intro h; cases h) | (right; rfl), fun _ h => ⟨_, h⟩⟩, ?_⟩), rfl⟩
  rintro ⟨k, hinv⟩
  dsimp only
  have hp := p256_in (k := k) (by omega)
  have hs := Int.pow_succ (256 : Int) k
  refine AW_seq ?_
  refine AW_seq ?_
  refine AW_region ?_
  refine AL_p (x_move rfl rfl) ?_
  refine AL_p (x_move rfl rfl) ?_
  refine AL_b (x_lss rfl rfl rfl) (fun b7 h7 => ?_)
  refine AL_nil ?_
  cases b7
  rotate_left
  · try simp only [decide_eq_true_eq, decide_eq_false_iff_not, Bool.not_eq_true, Bool.not_eq_false, Bool.not_eq_true', Bool.not_eq_false', beq_iff_eq, bne_iff_ne, beq_eq_false_iff_ne, bne_eq_false_iff_eq, Int.not_lt, Int.not_le, ge_iff_le, gt_iff_lt] at h7
    refine AW_condT rfl ?_
    refine AW_skip ?_
    refine AW_seq ?_
    refine AW_block ?_
    refine AW_region ?_
    refine AL_p (x_move rfl rfl) ?_
    refine AL_p (x_mul rfl rfl rfl (IntWalk.i64_in _ (by omega))) ?_
    refine AL_p (x_assign rfl rfl) ?_
    refine AL_nil ?_
    refine AW_region ?_
    refine AL_p (x_move rfl rfl) ?_
    refine AL_p (x_add rfl rfl rfl (IntWalk.i64_in _ (by omega))) ?_
    refine AL_p (x_assign rfl rfl) ?_
    refine AL_nil ?_
    refine ⟨⟨k + 1, by omega⟩, rn [], ?_, by dsimp only; omega⟩
    exact ⟨by (repeat refine ⟨⟨_, rfl, by first | exact VLe.rf | exact vle_int (by dsimp only; omega)⟩, ?_⟩); exact trivial, by (repeat refine ⟨⟨_, rfl, by first | exact BLe.rf | exact BLe.box AllC.rf | exact BLe.arr (by exact rfl)⟩, ?_⟩); exact trivial, by repeat (first | exact trivial | refine ⟨⟨rfl, by first | (left; intro h; cases h) | (right; rfl), fun _ h => ⟨_, h⟩⟩, ?_⟩), rfl⟩
  · try simp only [decide_eq_true_eq, decide_eq_false_iff_not, Bool.not_eq_true, Bool.not_eq_false, Bool.not_eq_true', Bool.not_eq_false', beq_iff_eq, bne_iff_ne, beq_eq_false_iff_ne, bne_eq_false_iff_eq, Int.not_lt, Int.not_le, ge_iff_le, gt_iff_lt] at h7
    refine AW_condF rfl ?_
    refine AW_exit (BQ_hit ?_)
    refine AW_seq ?_
    refine AW_region ?_
    refine AL_p (x_move rfl rfl) ?_
    refine AL_p (x_assign rfl rfl) ?_
    refine AL_nil ?_
    refine AW_ret ?_
    exact ⟨rn [], ⟨⟨⟨_, rfl, vle_int (by rw [show n = k by omega])⟩, trivial⟩, trivial, trivial, rfl⟩⟩

set_option maxHeartbeats 4000000 in
theorem numT_c (n : Int) (size : Nat) (h0 : 0 ≤ n) (h1 : n < (256 : Int) ^ size) (h2 : 1 ≤ size) (h3 : size ≤ 6) : AC Try.prog 115 [.one (.c (.int .i64 n)), .one (.c (.int .i64 (size : Int)))] [] (.one (.c (.bool true))) [] := by
  refine AC_body1 Try.func115 rfl rfl Try.ntmps115 rfl Try.results115 ?_
  refine AW_seq ?_
  refine AW_region ?_
  refine AL_p (x_assign rfl rfl) ?_
  refine AL_nil ?_
  refine AW_seq ?_
  refine AW_region ?_
  refine AL_p (x_move rfl rfl) ?_
  refine AL_b (x_geq rfl rfl rfl) (fun b6 h6 => ?_)
  refine AL_p (x_move rfl rfl) ?_
  cases b6
  rotate_left
  · try simp only [decide_eq_true_eq, decide_eq_false_iff_not, Bool.not_eq_true, Bool.not_eq_false, Bool.not_eq_true', Bool.not_eq_false', beq_iff_eq, bne_iff_ne, beq_eq_false_iff_ne, bne_eq_false_iff_eq, Int.not_lt, Int.not_le, ge_iff_le, gt_iff_lt] at h6
    refine AL_g rfl rfl (x_move rfl rfl) ?_
    refine AL_gb rfl rfl (x_leq rfl rfl rfl) (fun b9 h9 => ?_)
    refine AL_p (x_pickT rfl rfl rfl) ?_
    refine AL_p (x_move rfl rfl) ?_
    cases b9
    rotate_left
    · try simp only [decide_eq_true_eq, decide_eq_false_iff_not, Bool.not_eq_true, Bool.not_eq_false, Bool.not_eq_true', Bool.not_eq_false', beq_iff_eq, bne_iff_ne, beq_eq_false_iff_ne, bne_eq_false_iff_eq, Int.not_lt, Int.not_le, ge_iff_le, gt_iff_lt] at h9
      refine AL_g rfl rfl (x_move rfl rfl) ?_
      refine AL_gb rfl rfl (x_geq rfl rfl rfl) (fun b13 h13 => ?_)
      refine AL_p (x_pickT rfl rfl rfl) ?_
      refine AL_p (x_move rfl rfl) ?_
      cases b13
      rotate_left
      · try simp only [decide_eq_true_eq, decide_eq_false_iff_not, Bool.not_eq_true, Bool.not_eq_false, Bool.not_eq_true', Bool.not_eq_false', beq_iff_eq, bne_iff_ne, beq_eq_false_iff_ne, bne_eq_false_iff_eq, Int.not_lt, Int.not_le, ge_iff_le, gt_iff_lt] at h13
        refine AL_g rfl rfl (x_move rfl rfl) ?_
        refine AL_g rfl rfl (x_move rfl rfl) ?_
        refine AL_g rfl rfl (x_call0 rfl rfl rfl (powN_c size h3) rfl rfl) ?_
        refine AL_gb rfl rfl (x_lss rfl rfl rfl) (fun b19 h19 => ?_)
        refine AL_p (x_pickT rfl rfl rfl) ?_
        refine AL_p (x_assign rfl rfl) ?_
        refine AL_nil ?_
        refine AW_ret ?_
        cases b19
        rotate_left
        · try simp only [decide_eq_true_eq, decide_eq_false_iff_not, Bool.not_eq_true, Bool.not_eq_false, Bool.not_eq_true', Bool.not_eq_false', beq_iff_eq, bne_iff_ne, beq_eq_false_iff_ne, bne_eq_false_iff_eq, Int.not_lt, Int.not_le, ge_iff_le, gt_iff_lt] at h19
          exact ⟨rn [], ⟨⟨⟨_, rfl, vle_bool (by first | rfl | (exfalso; omega))⟩, trivial⟩, trivial, trivial, rfl⟩⟩
        · try simp only [decide_eq_true_eq, decide_eq_false_iff_not, Bool.not_eq_true, Bool.not_eq_false, Bool.not_eq_true', Bool.not_eq_false', beq_iff_eq, bne_iff_ne, beq_eq_false_iff_ne, bne_eq_false_iff_eq, Int.not_lt, Int.not_le, ge_iff_le, gt_iff_lt] at h19
          exact ⟨rn [], ⟨⟨⟨_, rfl, vle_bool (by first | rfl | (exfalso; omega))⟩, trivial⟩, trivial, trivial, rfl⟩⟩
      · try simp only [decide_eq_true_eq, decide_eq_false_iff_not, Bool.not_eq_true, Bool.not_eq_false, Bool.not_eq_true', Bool.not_eq_false', beq_iff_eq, bne_iff_ne, beq_eq_false_iff_ne, bne_eq_false_iff_eq, Int.not_lt, Int.not_le, ge_iff_le, gt_iff_lt] at h13
        refine AL_o rfl rfl rfl rfl ?_
        refine AL_o rfl rfl rfl rfl ?_
        refine AL_o rfl rfl rfl rfl ?_
        refine AL_o rfl rfl rfl rfl ?_
        refine AL_p (x_pickF rfl rfl rfl) ?_
        refine AL_p (x_assign rfl rfl) ?_
        refine AL_nil ?_
        refine AW_ret ?_
        exact ⟨rn [], ⟨⟨⟨_, rfl, vle_bool (by first | rfl | (exfalso; omega))⟩, trivial⟩, trivial, trivial, rfl⟩⟩
    · try simp only [decide_eq_true_eq, decide_eq_false_iff_not, Bool.not_eq_true, Bool.not_eq_false, Bool.not_eq_true', Bool.not_eq_false', beq_iff_eq, bne_iff_ne, beq_eq_false_iff_ne, bne_eq_false_iff_eq, Int.not_lt, Int.not_le, ge_iff_le, gt_iff_lt] at h9
      refine AL_o rfl rfl rfl rfl ?_
      refine AL_o rfl rfl rfl rfl ?_
      refine AL_p (x_pickF rfl rfl rfl) ?_
      refine AL_p (x_move rfl rfl) ?_
      refine AL_o rfl rfl rfl rfl ?_
      refine AL_o rfl rfl rfl rfl ?_
      refine AL_o rfl rfl rfl rfl ?_
      refine AL_o rfl rfl rfl rfl ?_
      refine AL_p (x_pickF rfl rfl rfl) ?_
      refine AL_p (x_assign rfl rfl) ?_
      refine AL_nil ?_
      refine AW_ret ?_
      exact ⟨rn [], ⟨⟨⟨_, rfl, vle_bool (by first | rfl | (exfalso; omega))⟩, trivial⟩, trivial, trivial, rfl⟩⟩
  · try simp only [decide_eq_true_eq, decide_eq_false_iff_not, Bool.not_eq_true, Bool.not_eq_false, Bool.not_eq_true', Bool.not_eq_false', beq_iff_eq, bne_iff_ne, beq_eq_false_iff_ne, bne_eq_false_iff_eq, Int.not_lt, Int.not_le, ge_iff_le, gt_iff_lt] at h6
    refine AL_o rfl rfl rfl rfl ?_
    refine AL_o rfl rfl rfl rfl ?_
    refine AL_p (x_pickF rfl rfl rfl) ?_
    refine AL_p (x_move rfl rfl) ?_
    refine AL_o rfl rfl rfl rfl ?_
    refine AL_o rfl rfl rfl rfl ?_
    refine AL_p (x_pickF rfl rfl rfl) ?_
    refine AL_p (x_move rfl rfl) ?_
    refine AL_o rfl rfl rfl rfl ?_
    refine AL_o rfl rfl rfl rfl ?_
    refine AL_o rfl rfl rfl rfl ?_
    refine AL_o rfl rfl rfl rfl ?_
    refine AL_p (x_pickF rfl rfl rfl) ?_
    refine AL_p (x_assign rfl rfl) ?_
    refine AL_nil ?_
    refine AW_ret ?_
    exact ⟨rn [], ⟨⟨⟨_, rfl, vle_bool (by first | rfl | (exfalso; omega))⟩, trivial⟩, trivial, trivial, rfl⟩⟩

set_option maxHeartbeats 4000000 in
theorem putNumS_c0 (xs : List Int) (n : Int) (size : Nat) (h0 : 0 ≤ n) (h1 : n < (256 : Int) ^ size) (h2 : 1 ≤ size) (h3 : size ≤ 6) (hl : xs.length ≤ 1000) : AC Try.prog 67 [.one (.sl (intE .u8) xs), .one (.c (.int .i64 n)), .one (.c (.int .i64 (size : Int)))] [] (.tup [.one (.own 0), .one (.c (.bool true))]) [(0, some (.arr 5 (intE .u8) (xs ++ putB n size) true))] := by
  have hp6 := p256_in h3
  refine AC_body2 Try.func67 rfl rfl Try.ntmps67 rfl Try.results67 rfl rfl rfl ?_
  refine AW_seq ?_
  refine AW_region ?_
  refine AL_p (x_assign rfl rfl) ?_
  refine AL_p (x_assign rfl rfl) ?_
  refine AL_nil ?_
  refine AW_seq ?_
  refine AW_seq ?_
  refine AW_region ?_
  refine AL_p (x_move rfl rfl) ?_
  refine AL_p (x_move rfl rfl) ?_
  refine AL_p (x_call0 rfl rfl rfl (numT_c n size h0 h1 h2 h3) rfl rfl) ?_
  refine AL_p (x_not rfl rfl) ?_
  refine AL_p (x_move rfl rfl) ?_
  refine AL_g rfl rfl (x_move rfl rfl) ?_
  refine AL_g rfl rfl (x_len (E := 5) (n := 1) rfl rfl (by kernel_rfl)) ?_
  refine AL_g rfl rfl (x_move rfl rfl) ?_
  refine AL_g rfl rfl (x_sub rfl rfl rfl (IntWalk.i64_in _ (by omega))) ?_
  refine AL_gb rfl rfl (x_gtr rfl rfl rfl) (fun b21 h21 => ?_)
  refine AL_p (x_pickF rfl rfl rfl) ?_
  refine AL_nil ?_
  cases b21
  rotate_left
  · exfalso; simp at h21; omega
  · try simp only [decide_eq_true_eq, decide_eq_false_iff_not, Bool.not_eq_true, Bool.not_eq_false, Bool.not_eq_true', Bool.not_eq_false', beq_iff_eq, bne_iff_ne, beq_eq_false_iff_ne, bne_eq_false_iff_eq, Int.not_lt, Int.not_le, ge_iff_le, gt_iff_lt] at h21
    refine AW_condF rfl ?_
    refine AW_skip ?_
    refine AW_seq ?_
    refine AW_region ?_
    refine AL_p (y_bslice0 (E := 5) (e := (intE .u8)) 100 rfl rfl rfl (by kernel_rfl)) ?_
    refine AL_p (x_move rfl rfl) ?_
    refine AL_p (y_append_sl 101 true (.inr intE_nofp) rfl rfl rfl rfl rfl rfl (by kernel_rfl) (by (try simp only [List.length_cons, List.length_nil]); omega)) ?_
    refine AL_p (x_assign rfl rfl) ?_
    refine AL_nil ?_
    refine AW_seq ?_
    refine AW_seq ?_
    refine AW_region ?_
    refine AL_p (x_move rfl rfl) ?_
    refine AL_p (x_sub rfl rfl rfl (IntWalk.i64_in _ (by omega))) ?_
    refine AL_p (x_assign rfl rfl) ?_
    refine AL_nil ?_
    refine AW_block ?_
    refine AW_loop2 (ι := {q : Nat // q ≤ size}) (fun p => [(8, .one (.own 101)), (9, .one (.c (.int .i64 (((p.1) : Int) - 1))))]) (fun p => [(101, some (.arr 5 (intE .u8) (xs ++ putTo n size (p.1)) true))]) [1] [] (fun p => (p.1)) ⟨size, Nat.le_refl _⟩ (rn []) ?_ ?_
    exact ⟨by (repeat refine ⟨⟨_, rfl, by first | exact VLe.rf | exact vle_int (by dsimp only; omega)⟩, ?_⟩); exact trivial, by (repeat refine ⟨⟨_, rfl, by first | exact BLe.rf | exact BLe.box AllC.rf | exact BLe.arr (by first | (rw [putTo_start, List.append_nil, List.nil_append]; done) | (rw [putTo_start, List.append_nil]; done) | exact (by rw [putTo_start, List.append_nil]; rfl) | (rw [List.append_assoc, hm]; done))⟩, ?_⟩); exact trivial, by repeat (first | exact trivial | refine ⟨⟨rfl, by first | (left; intro h; cases h) | (right; rfl), fun _ h => ⟨_, h⟩⟩, ?_⟩), rfl⟩
    rintro ⟨j, hinv⟩
    dsimp only
    have hj := hinv
    refine AW_seq ?_
    refine AW_seq ?_
    refine AW_region ?_
    refine AL_p (x_move rfl rfl) ?_
    refine AL_b (x_geq rfl rfl rfl) (fun b29 h29 => ?_)
    refine AL_nil ?_
    cases b29
    rotate_left
    · try simp only [decide_eq_true_eq, decide_eq_false_iff_not, Bool.not_eq_true, Bool.not_eq_false, Bool.not_eq_true', Bool.not_eq_false', beq_iff_eq, bne_iff_ne, beq_eq_false_iff_ne, bne_eq_false_iff_eq, Int.not_lt, Int.not_le, ge_iff_le, gt_iff_lt] at h29
      have hm : putTo n size j ++ [n / 256 ^ (j - 1) % 256] = putTo n size (j - 1) := by have hm := putTo_more (n := n) (size := size) (j := j - 1) (by omega); rwa [show j - 1 + 1 = j by omega] at hm
      refine AW_condT rfl ?_
      refine AW_skip ?_
      refine AW_seq ?_
      refine AW_block ?_
      refine AW_seq ?_
      refine AW_region ?_
      refine AL_p (x_move rfl rfl) ?_
      refine AL_p (x_assign rfl rfl) ?_
      refine AL_nil ?_
      refine AW_seq ?_
      refine AW_seq ?_
      refine AW_region ?_
      refine AL_p (x_assign rfl rfl) ?_
      refine AL_nil ?_
      refine AW_block ?_
      refine AW_loop2 (ι := {q : Nat // q ≤ j - 1}) (fun p => [(10, .one (.c (.int .i64 (n / 256 ^ (p.1))))), (11, .one (.c (.int .i64 ((p.1) : Int))))]) (fun p => []) [1, 8, 9] [101] (fun p => j - 1 - (p.1)) ⟨0, by omega⟩ (rn []) ?_ ?_
      exact ⟨by (repeat refine ⟨⟨_, rfl, by first | exact VLe.rf | exact vle_int (by dsimp only; omega)⟩, ?_⟩); exact trivial, by (repeat refine ⟨⟨_, rfl, by first | exact BLe.rf | exact BLe.box AllC.rf | exact BLe.arr (by exact rfl)⟩, ?_⟩); exact trivial, by repeat (first | exact trivial | refine ⟨⟨rfl, by first | (left; intro h; cases h) | (right; rfl), fun _ h => ⟨_, h⟩⟩, ?_⟩), rfl⟩
      rintro ⟨m, hinv⟩
      dsimp only
      have hm2 := hinv
      refine AW_seq ?_
      refine AW_seq ?_
      refine AW_region ?_
      refine AL_p (x_move rfl rfl) ?_
      refine AL_p (x_move rfl rfl) ?_
      refine AL_b (x_lss rfl rfl rfl) (fun b35 h35 => ?_)
      refine AL_nil ?_
      cases b35
      rotate_left
      · try simp only [decide_eq_true_eq, decide_eq_false_iff_not, Bool.not_eq_true, Bool.not_eq_false, Bool.not_eq_true', Bool.not_eq_false', beq_iff_eq, bne_iff_ne, beq_eq_false_iff_ne, bne_eq_false_iff_eq, Int.not_lt, Int.not_le, ge_iff_le, gt_iff_lt] at h35
        refine AW_condT rfl ?_
        refine AW_skip ?_
        refine AW_seq ?_
        refine AW_block ?_
        refine AW_region ?_
        refine AL_p (x_move rfl rfl) ?_
        refine AL_p (x_quo rfl rfl rfl (r := n / 256 ^ (m + 1)) (by omega) (quo256 h0 (by omega))) ?_
        refine AL_p (x_assign rfl rfl) ?_
        refine AL_nil ?_
        refine AW_region ?_
        refine AL_p (x_move rfl rfl) ?_
        refine AL_p (x_add rfl rfl rfl (IntWalk.i64_in _ (by omega))) ?_
        refine AL_p (x_assign rfl rfl) ?_
        refine AL_nil ?_
        refine ⟨⟨m + 1, by omega⟩, rn [], ?_, by dsimp only; omega⟩
        exact ⟨by (repeat refine ⟨⟨_, rfl, by first | exact VLe.rf | exact vle_int (by dsimp only; omega)⟩, ?_⟩); exact trivial, by (repeat refine ⟨⟨_, rfl, by first | exact BLe.rf | exact BLe.box AllC.rf | exact BLe.arr (by exact rfl)⟩, ?_⟩); exact trivial, by repeat (first | exact trivial | refine ⟨⟨rfl, by first | (left; intro h; cases h) | (right; rfl), fun _ h => ⟨_, h⟩⟩, ?_⟩), rfl⟩
      · try simp only [decide_eq_true_eq, decide_eq_false_iff_not, Bool.not_eq_true, Bool.not_eq_false, Bool.not_eq_true', Bool.not_eq_false', beq_iff_eq, bne_iff_ne, beq_eq_false_iff_ne, bne_eq_false_iff_eq, Int.not_lt, Int.not_le, ge_iff_le, gt_iff_lt] at h35
        refine AW_condF rfl ?_
        refine AW_exit (BQ_hit ?_)
        refine AW_region ?_
        refine AL_p (x_move rfl rfl) ?_
        refine AL_p (x_move rfl rfl) ?_
        refine AL_p (x_rem rfl rfl rfl (r := n / 256 ^ (j - 1) % 256) (by omega) (by rw [show j - 1 = m by omega]; exact rem256 h0) (wf64i (mod256_in _).1 (by have := mod256_in (n / 256 ^ (j - 1)); omega))) ?_
        refine AL_p (x_conv (k' := .u8) rfl rfl (by kernel_rfl) (wrap8_id (mod256_in _).1 (mod256_in _).2)) ?_
        refine AL_p (y_bslice (E := 5) (e := (intE .u8)) [.tmp 43] ([n / 256 ^ (j - 1) % 256]) 102 rfl rfl rfl rfl rfl rfl rfl rfl FitL.rf rfl rfl rfl rfl rfl rfl (by kernel_rfl)) ?_
        refine AL_p (y_append 103 rfl rfl rfl rfl rfl rfl rfl rfl (by kernel_rfl) (by have := putTo_len (n := n) (size := size) (j := j); simp only [List.length_append, List.length_cons, List.length_nil]; omega)) ?_
        refine AL_p (x_assign rfl rfl) ?_
        refine AL_nil ?_
        refine AW_region ?_
        refine AL_p (x_move rfl rfl) ?_
        refine AL_p (x_sub rfl rfl rfl (IntWalk.i64_in _ (by omega))) ?_
        refine AL_p (x_assign rfl rfl) ?_
        refine AL_nil ?_
        refine ⟨⟨j - 1, by omega⟩, rn [(101, 103)], ?_, by dsimp only; omega⟩
        exact ⟨by (repeat refine ⟨⟨_, rfl, by first | exact VLe.rf | exact vle_int (by dsimp only; omega)⟩, ?_⟩); exact trivial, by (repeat refine ⟨⟨_, rfl, by first | exact BLe.rf | exact BLe.box AllC.rf | exact BLe.arr (by first | (rw [putTo_start, List.append_nil, List.nil_append]; done) | (rw [putTo_start, List.append_nil]; done) | exact (by rw [putTo_start, List.append_nil]; rfl) | (rw [List.append_assoc, hm]; done))⟩, ?_⟩); exact trivial, by repeat (first | exact trivial | refine ⟨⟨rfl, by first | (left; intro h; cases h) | (right; rfl), fun _ h => ⟨_, h⟩⟩, ?_⟩), rfl⟩
    · try simp only [decide_eq_true_eq, decide_eq_false_iff_not, Bool.not_eq_true, Bool.not_eq_false, Bool.not_eq_true', Bool.not_eq_false', beq_iff_eq, bne_iff_ne, beq_eq_false_iff_ne, bne_eq_false_iff_eq, Int.not_lt, Int.not_le, ge_iff_le, gt_iff_lt] at h29
      refine AW_condF rfl ?_
      refine AW_exit (BQ_hit ?_)
      refine AW_seq ?_
      refine AW_region ?_
      refine AL_p (x_move rfl rfl) ?_
      refine AL_p (x_assign rfl rfl) ?_
      refine AL_p (x_assign rfl rfl) ?_
      refine AL_nil ?_
      refine AW_ret ?_
      exact ⟨rn [(0, 101)], ⟨⟨⟨_, rfl, VLe.rf⟩, ⟨_, rfl, VLe.rf⟩, trivial⟩, ⟨⟨_, rfl, BLe.arr (by unfold putB; rw [show j = 0 by omega])⟩, trivial⟩, trivial, rfl⟩⟩
theorem putNumS_c (xs : List Int) (n : Int) (size : Nat) (h0 : 0 ≤ n) (h1 : n < (256 : Int) ^ size) (h2 : 1 ≤ size) (h3 : size ≤ 6) (hl : xs.length ≤ 1000) (k : Nat) : AC Try.prog 67 [.one (.sl (intE .u8) xs), .one (.c (.int .i64 n)), .one (.c (.int .i64 (size : Int)))] [] (.tup [.one (.own k), .one (.c (.bool true))]) [(k, some (.arr 5 (intE .u8) (xs ++ putB n size) true))] := AC.at (putNumS_c0 xs n size h0 h1 h2 h3 hl) k

set_option maxHeartbeats 4000000 in
theorem storeBytesS_c0 (s : Storet) (hs : smallStore s) : AC Try.prog 24 [.agg (storeC s)] [] (.tup [.one (.own 0), .one (.c (.bool (storeBytes s).2))]) [(0, some (.arr 5 (intE .u8) ((storeBytes s).1) true))] := by
  refine AC_body2 Try.func24 rfl rfl Try.ntmps24 rfl Try.results24 rfl rfl rfl ?_
  refine AW_seq ?_
  refine AW_region ?_
  refine AL_p (x_box 100 rfl rfl rfl rfl rfl rfl rfl) ?_
  refine AL_p (x_assign rfl rfl) ?_
  refine AL_p (x_assign rfl rfl) ?_
  refine AL_nil ?_
  refine AW_seq ?_
  refine AW_seq ?_
  refine AW_region ?_
  refine AL_p (x_loadN (n := 1) rfl rfl rfl (by kernel_rfl) rfl rfl) ?_
  refine AL_b (x_call0 rfl rfl rfl (storeOkS_c _ hs) rfl rfl) (fun b13 h13 => ?_)
  refine AL_p (x_not rfl rfl) ?_
  refine AL_nil ?_
  cases b13
  rotate_left
  · try simp only [decide_eq_true_eq, decide_eq_false_iff_not, Bool.not_eq_true, Bool.not_eq_false, Bool.not_eq_true', Bool.not_eq_false', beq_iff_eq, bne_iff_ne, beq_eq_false_iff_ne, bne_eq_false_iff_eq, Int.not_lt, Int.not_le, ge_iff_le, gt_iff_lt] at h13
    have hok := h13
    have hmx := storeOk_max h13
    refine AW_condF rfl ?_
    refine AW_skip ?_
    refine AW_seq ?_
    refine AW_region ?_
    refine AL_p (x_field (off := 0) (o' := 0) rfl rfl rfl (by kernel_rfl) rfl) ?_
    refine AL_p (x_load1 rfl rfl rfl (by kernel_rfl) rfl) ?_
    refine AL_p (x_len (E := 89) (n := 3) rfl rfl (by kernel_rfl)) ?_
    refine AL_p (x_conv (k' := .u8) rfl rfl (by kernel_rfl) (wrap8_id (by omega) (by omega))) ?_
    refine AL_p (y_bslice (E := 5) (e := (intE .u8)) [.tmp 18] ([(s.rels.length : Int)]) 101 rfl rfl rfl rfl rfl rfl rfl rfl FitL.rf rfl rfl rfl rfl rfl rfl (by kernel_rfl)) ?_
    refine AL_p (x_assign rfl rfl) ?_
    refine AL_nil ?_
    refine AW_seq ?_
    refine AW_seq ?_
    refine AW_region ?_
    refine AL_p (x_field (off := 0) (o' := 0) rfl rfl rfl (by kernel_rfl) rfl) ?_
    refine AL_p (x_load1 rfl rfl rfl (by kernel_rfl) rfl) ?_
    refine AL_p (x_len (E := 89) (n := 3) rfl rfl (by kernel_rfl)) ?_
    refine AL_p (x_move rfl rfl) ?_
    refine AL_nil ?_
    refine AW_block ?_
    refine AW_loop2 (ι := {q : Nat // q ≤ s.rels.length}) (fun p => [(4, .one (.own 101)), (23, .one (.c (.int .i64 ((p.1) : Int))))]) (fun p => [(101, some (.arr 5 (intE .u8) ([(s.rels.length : Int)] ++ flatTo namedBytes s.rels (p.1)) true))]) [21, 22] [100] (fun p => s.rels.length - (p.1)) ⟨0, by omega⟩ (rn []) ?_ ?_
    exact ⟨by (repeat refine ⟨⟨_, rfl, by first | exact VLe.rf | exact vle_int (by dsimp only; omega)⟩, ?_⟩); exact trivial, by (repeat refine ⟨⟨_, rfl, by first | exact BLe.rf | exact BLe.box AllC.rf | exact BLe.arr (by first | (rw [flatTo_zero, List.append_nil]; done) | (rw [← flatTo_more (f := namedBytes) (xs := s.rels) (k := k) (by omega), flatTo_all (f := rowBytes) (by omega)]; simp only [namedBytes, hpb, List.append_assoc, List.cons_append, List.nil_append]; done))⟩, ?_⟩); exact trivial, by repeat (first | exact trivial | refine ⟨⟨rfl, by first | (left; intro h; cases h) | (right; rfl), fun _ h => ⟨_, h⟩⟩, ?_⟩), rfl⟩
    rintro ⟨k, hinv⟩
    dsimp only
    have hk := hinv
    have hmx := storeOk_max hok
    have hA := names_len hok k
    refine AW_seq ?_
    refine AW_region ?_
    refine AL_b (x_lss rfl rfl rfl) (fun b24 h24 => ?_)
    refine AL_nil ?_
    refine AW_seq ?_
    cases b24
    rotate_left
    · try simp only [decide_eq_true_eq, decide_eq_false_iff_not, Bool.not_eq_true, Bool.not_eq_false, Bool.not_eq_true', Bool.not_eq_false', beq_iff_eq, bne_iff_ne, beq_eq_false_iff_ne, bne_eq_false_iff_eq, Int.not_lt, Int.not_le, ge_iff_le, gt_iff_lt] at h24
      have hrk := storeOk_rel hok (k := k) (by omega)
      have hwk := storeOk_word hok (k := k) (by omega)
      have hrs := relOk_small hrk
      have hpb : putB ((s.rels[k]'(by omega)).rel.rows.length : Int) 2 = [((s.rels[k]'(by omega)).rel.rows.length : Int) / 256, ((s.rels[k]'(by omega)).rel.rows.length : Int) % 256] := putB_small (by omega) (by omega)
      refine AW_condT rfl ?_
      refine AW_skip ?_
      refine AW_seq ?_
      refine AW_block ?_
      refine AW_seq ?_
      refine AW_region ?_
      refine AL_p (x_index (E := 89) (n := 3) rfl rfl rfl (by kernel_rfl) rfl (k := k) (by omega) (by omega)) ?_
      refine AL_p (x_eloadW (n := 3) rfl rfl (by kernel_rfl) rfl) ?_
      refine AL_p (x_alloc (z := .agg #[.string ⟨#[]⟩, .int .i64 0, .slice none 0 0]) 102 rfl (by kernel_rfl) rfl rfl rfl rfl) ?_
      refine AL_p (x_store (n := 3) rfl rfl rfl rfl (by kernel_rfl) rfl rfl rfl) ?_
      refine AL_nil ?_
      refine AW_seq ?_
      refine AW_region ?_
      refine AL_p (x_move rfl rfl) ?_
      refine AL_p (x_field (off := 0) (o' := 0) rfl rfl rfl (by kernel_rfl) rfl) ?_
      refine AL_p (x_load1 rfl rfl rfl (by kernel_rfl) rfl) ?_
      refine AL_p (x_lens rfl rfl (by kernel_rfl)) ?_
      refine AL_p (x_conv (k' := .u8) rfl rfl (by kernel_rfl) (wrap8_id (by omega) (by omega))) ?_
      refine AL_p (y_bslice (E := 5) (e := (intE .u8)) [.tmp 31] ([((s.rels[k]'(by omega)).name.size : Int)]) 103 rfl rfl rfl rfl rfl rfl rfl rfl FitL.rf rfl rfl rfl rfl rfl rfl (by kernel_rfl)) ?_
      refine AL_p (y_append 104 rfl rfl rfl rfl rfl rfl rfl rfl (by kernel_rfl) (by (try simp only [List.length_append, List.length_cons, List.length_nil, strBytes_len, putB_len]); omega)) ?_
      refine AL_p (x_assign rfl rfl) ?_
      refine AL_nil ?_
      refine AW_seq ?_
      refine AW_region ?_
      refine AL_p (x_move rfl rfl) ?_
      refine AL_p (x_field (off := 0) (o' := 0) rfl rfl rfl (by kernel_rfl) rfl) ?_
      refine AL_p (x_load1 rfl rfl rfl (by kernel_rfl) rfl) ?_
      refine AL_p (x_bytes (E := 5) rfl rfl (by kernel_rfl)) ?_
      refine AL_p (y_append_sl 105 true (.inr intE_nofp) rfl rfl rfl rfl rfl rfl (by kernel_rfl) (by (try simp only [List.length_append, List.length_cons, List.length_nil, strBytes_len, putB_len]); omega)) ?_
      refine AL_p (x_assign rfl rfl) ?_
      refine AL_nil ?_
      refine AW_seq ?_
      refine AW_region ?_
      refine AL_p (x_move rfl rfl) ?_
      refine AL_p (x_field (off := 1) (o' := 1) rfl rfl rfl (by kernel_rfl) rfl) ?_
      refine AL_p (x_field (off := 0) (o' := 1) rfl rfl rfl (by kernel_rfl) rfl) ?_
      refine AL_p (x_load1 rfl rfl rfl (by kernel_rfl) rfl) ?_
      refine AL_p (x_conv (k' := .u8) rfl rfl (by kernel_rfl) (wrap8_id (by omega) (by omega))) ?_
      refine AL_p (x_field (off := 1) (o' := 1) rfl rfl rfl (by kernel_rfl) rfl) ?_
      refine AL_p (x_field (off := 1) (o' := 2) rfl rfl rfl (by kernel_rfl) rfl) ?_
      refine AL_p (x_load1 rfl rfl rfl (by kernel_rfl) rfl) ?_
      refine AL_p (x_len (E := 92) (n := 1) rfl rfl (by kernel_rfl)) ?_
      refine AL_p (x_quo rfl rfl rfl (r := ((s.rels[k]'(by omega)).rel.rows.length : Int) / 256) (by omega) (by rw [Int.tdiv_eq_ediv_of_nonneg (by omega)]; exact IntWalk.i64_in _ (by omega))) ?_
      refine AL_p (x_conv (k' := .u8) rfl rfl (by kernel_rfl) (wrap8_id (by omega) (by omega))) ?_
      refine AL_p (x_field (off := 1) (o' := 1) rfl rfl rfl (by kernel_rfl) rfl) ?_
      refine AL_p (x_field (off := 1) (o' := 2) rfl rfl rfl (by kernel_rfl) rfl) ?_
      refine AL_p (x_load1 rfl rfl rfl (by kernel_rfl) rfl) ?_
      refine AL_p (x_len (E := 92) (n := 1) rfl rfl (by kernel_rfl)) ?_
      refine AL_p (x_rem rfl rfl rfl (r := ((s.rels[k]'(by omega)).rel.rows.length : Int) % 256) (by omega) (Int.tmod_eq_emod_of_nonneg (by omega)) (wf64i (by omega) (by omega))) ?_
      refine AL_p (x_conv (k' := .u8) rfl rfl (by kernel_rfl) (wrap8_id (by omega) (by omega))) ?_
      refine AL_p (y_bslice (E := 5) (e := (intE .u8)) [.tmp 43, .tmp 49, .tmp 55] ([(s.rels[k]'(by omega)).rel.arity, ((s.rels[k]'(by omega)).rel.rows.length : Int) / 256, ((s.rels[k]'(by omega)).rel.rows.length : Int) % 256]) 106 rfl rfl rfl rfl rfl rfl rfl rfl FitL.rf rfl rfl rfl rfl rfl rfl (by kernel_rfl)) ?_
      refine AL_p (y_append 107 rfl rfl rfl rfl rfl rfl rfl rfl (by kernel_rfl) (by (try simp only [List.length_append, List.length_cons, List.length_nil, strBytes_len, putB_len]); omega)) ?_
      refine AL_p (x_assign rfl rfl) ?_
      refine AL_nil ?_
      refine AW_seq ?_
      refine AW_region ?_
      refine AL_p (x_field (off := 1) (o' := 1) rfl rfl rfl (by kernel_rfl) rfl) ?_
      refine AL_p (x_field (off := 1) (o' := 2) rfl rfl rfl (by kernel_rfl) rfl) ?_
      refine AL_p (x_load1 rfl rfl rfl (by kernel_rfl) rfl) ?_
      refine AL_p (x_len (E := 92) (n := 1) rfl rfl (by kernel_rfl)) ?_
      refine AL_p (x_move rfl rfl) ?_
      refine AL_nil ?_
      refine AW_block ?_
      refine AW_loop2 (ι := {q : Nat // q ≤ (s.rels[k]'(by omega)).rel.rows.length}) (fun p => [(4, .one (.own 107)), (62, .one (.c (.int .i64 ((p.1) : Int))))]) (fun p => [(107, some (.arr 5 (intE .u8) ([(s.rels.length : Int)] ++ flatTo namedBytes s.rels k ++ [((s.rels[k]'(by omega)).name.size : Int)] ++ strBytes (s.rels[k]'(by omega)).name ++ [(s.rels[k]'(by omega)).rel.arity, ((s.rels[k]'(by omega)).rel.rows.length : Int) / 256, ((s.rels[k]'(by omega)).rel.rows.length : Int) % 256] ++ flatTo rowBytes (s.rels[k]'(by omega)).rel.rows (p.1)) true))]) [6, 21, 22, 23, 61] [100, 102] (fun p => (s.rels[k]'(by omega)).rel.rows.length - (p.1)) ⟨0, by omega⟩ (rn []) ?_ ?_
      exact ⟨by (repeat refine ⟨⟨_, rfl, by first | exact VLe.rf | exact vle_int (by dsimp only; omega)⟩, ?_⟩); exact trivial, by (repeat refine ⟨⟨_, rfl, by first | exact BLe.rf | exact BLe.box AllC.rf | exact BLe.arr (by first | (rw [flatTo_zero, List.append_nil]; done) | (rw [← flatTo_more (f := rowBytes) (k := j) (by omega), flatTo_all (f := valBytes) (by omega)]; simp only [rowBytes, List.append_assoc]; done))⟩, ?_⟩); exact trivial, by repeat (first | exact trivial | refine ⟨⟨rfl, by first | (left; intro h; cases h) | (right; rfl), fun _ h => ⟨_, h⟩⟩, ?_⟩), rfl⟩
      rintro ⟨j, hinv⟩
      dsimp only
      have hj := hinv
      have hB := rows_len hrk j
      refine AW_seq ?_
      refine AW_region ?_
      refine AL_b (x_lss rfl rfl rfl) (fun b63 h63 => ?_)
      refine AL_nil ?_
      refine AW_seq ?_
      cases b63
      rotate_left
      · try simp only [decide_eq_true_eq, decide_eq_false_iff_not, Bool.not_eq_true, Bool.not_eq_false, Bool.not_eq_true', Bool.not_eq_false', beq_iff_eq, bne_iff_ne, beq_eq_false_iff_ne, bne_eq_false_iff_eq, Int.not_lt, Int.not_le, ge_iff_le, gt_iff_lt] at h63
        refine AW_condT rfl ?_
        refine AW_skip ?_
        refine AW_seq ?_
        refine AW_block ?_
        refine AW_seq ?_
        refine AW_region ?_
        refine AL_p (x_move rfl rfl) ?_
        refine AL_p (x_assign rfl rfl) ?_
        refine AL_nil ?_
        refine AW_seq ?_
        refine AW_region ?_
        refine AL_p (x_field (off := 1) (o' := 1) rfl rfl rfl (by kernel_rfl) rfl) ?_
        refine AL_p (x_field (off := 1) (o' := 2) rfl rfl rfl (by kernel_rfl) rfl) ?_
        refine AL_p (x_load1 rfl rfl rfl (by kernel_rfl) rfl) ?_
        refine AL_p (x_move rfl rfl) ?_
        refine AL_p (x_index (E := 92) (n := 1) rfl rfl rfl (by kernel_rfl) rfl (k := j) (by omega) (by omega)) ?_
        refine AL_p (x_efield (off := 0) (o' := 0) rfl rfl (by kernel_rfl) rfl) ?_
        refine AL_p (x_eload1 rfl rfl (by kernel_rfl) rfl) ?_
        refine AL_p (x_len (E := 94) (n := 2) rfl rfl (by kernel_rfl)) ?_
        refine AL_p (x_move rfl rfl) ?_
        refine AL_nil ?_
        refine AW_block ?_
        refine AW_loop2 (ι := {q : Nat // q ≤ ((s.rels[k]'(by omega)).rel.rows[j]'(by omega)).length}) (fun p => [(4, .one (.own 107)), (73, .one (.c (.int .i64 ((p.1) : Int))))]) (fun p => [(107, some (.arr 5 (intE .u8) ([(s.rels.length : Int)] ++ flatTo namedBytes s.rels k ++ [((s.rels[k]'(by omega)).name.size : Int)] ++ strBytes (s.rels[k]'(by omega)).name ++ [(s.rels[k]'(by omega)).rel.arity, ((s.rels[k]'(by omega)).rel.rows.length : Int) / 256, ((s.rels[k]'(by omega)).rel.rows.length : Int) % 256] ++ flatTo rowBytes (s.rels[k]'(by omega)).rel.rows j ++ flatTo valBytes ((s.rels[k]'(by omega)).rel.rows[j]'(by omega)) (p.1)) true))]) [6, 21, 22, 23, 61, 62, 71, 72] [100, 102] (fun p => ((s.rels[k]'(by omega)).rel.rows[j]'(by omega)).length - (p.1)) ⟨0, by omega⟩ (rn []) ?_ ?_
        exact ⟨by (repeat refine ⟨⟨_, rfl, by first | exact VLe.rf | exact vle_int (by dsimp only; omega)⟩, ?_⟩); exact trivial, by (repeat refine ⟨⟨_, rfl, by first | exact BLe.rf | exact BLe.box AllC.rf | exact BLe.arr (by first | (rw [flatTo_zero, List.append_nil]; done) | (rw [← flatTo_more (f := valBytes) (k := i) (by omega), hvb]; simp only [List.append_assoc, List.nil_append]; done))⟩, ?_⟩); exact trivial, by repeat (first | exact trivial | refine ⟨⟨rfl, by first | (left; intro h; cases h) | (right; rfl), fun _ h => ⟨_, h⟩⟩, ?_⟩), rfl⟩
        rintro ⟨i, hinv⟩
        dsimp only
        have hi := hinv
        have hrl := hrs.2.2.2 ((s.rels[k]'(by omega)).rel.rows[j]'(by omega)) (List.getElem_mem _)
        have hC := vals_len hrk (List.getElem_mem (l := (s.rels[k]'(by omega)).rel.rows) (n := j) (by omega)) i
        refine AW_seq ?_
        refine AW_region ?_
        refine AL_b (x_lss rfl rfl rfl) (fun b74 h74 => ?_)
        refine AL_nil ?_
        refine AW_seq ?_
        cases b74
        rotate_left
        · try simp only [decide_eq_true_eq, decide_eq_false_iff_not, Bool.not_eq_true, Bool.not_eq_false, Bool.not_eq_true', Bool.not_eq_false', beq_iff_eq, bne_iff_ne, beq_eq_false_iff_ne, bne_eq_false_iff_eq, Int.not_lt, Int.not_le, ge_iff_le, gt_iff_lt] at h74
          have hvo := relOk_vals2 hrk _ (List.getElem_mem (l := (s.rels[k]'(by omega)).rel.rows) (n := j) (by omega)) _ (List.getElem_mem (l := ((s.rels[k]'(by omega)).rel.rows[j]'(by omega))) (n := i) (by omega))
          have hvi := (valOk_in hvo).2.2
          refine AW_condT rfl ?_
          refine AW_skip ?_
          refine AW_seq ?_
          refine AW_block ?_
          refine AW_seq ?_
          refine AW_region ?_
          refine AL_p (x_index (E := 94) (n := 2) rfl rfl rfl (by kernel_rfl) rfl (k := i) (by omega) (by omega)) ?_
          refine AL_p (x_eloadW (n := 2) rfl rfl (by kernel_rfl) rfl) ?_
          refine AL_p (x_alloc (z := .agg #[.int .i64 0, .string ⟨#[]⟩]) 108 rfl (by kernel_rfl) rfl rfl rfl rfl) ?_
          refine AL_p (x_store (n := 2) rfl rfl rfl rfl (by kernel_rfl) rfl rfl rfl) ?_
          refine AL_nil ?_
          refine AW_seq ?_
          refine AW_region ?_
          refine AL_p (x_move rfl rfl) ?_
          refine AL_p (x_field (off := 1) (o' := 1) rfl rfl rfl (by kernel_rfl) rfl) ?_
          refine AL_p (x_load1 rfl rfl rfl (by kernel_rfl) rfl) ?_
          refine AL_p (x_lens rfl rfl (by kernel_rfl)) ?_
          refine AL_p (x_conv (k' := .u8) rfl rfl (by kernel_rfl) (wrap8_id (by omega) (by omega))) ?_
          refine AL_p (y_bslice (E := 5) (e := (intE .u8)) [.tmp 81] ([((((s.rels[k]'(by omega)).rel.rows[j]'(by omega))[i]'(by omega)).s.size : Int)]) 109 rfl rfl rfl rfl rfl rfl rfl rfl FitL.rf rfl rfl rfl rfl rfl rfl (by kernel_rfl)) ?_
          refine AL_p (y_append 110 rfl rfl rfl rfl rfl rfl rfl rfl (by kernel_rfl) (by (try simp only [List.length_append, List.length_cons, List.length_nil, strBytes_len, putB_len]); omega)) ?_
          refine AL_p (x_assign rfl rfl) ?_
          refine AL_nil ?_
          refine AW_seq ?_
          refine AW_region ?_
          refine AL_p (x_field (off := 1) (o' := 1) rfl rfl rfl (by kernel_rfl) rfl) ?_
          refine AL_p (x_load1 rfl rfl rfl (by kernel_rfl) rfl) ?_
          refine AL_b (x_seql rfl rfl rfl) (fun b86 h86 => ?_)
          refine AL_nil ?_
          cases b86
          rotate_left
          · try simp only [decide_eq_true_eq, decide_eq_false_iff_not, Bool.not_eq_true, Bool.not_eq_false, Bool.not_eq_true', Bool.not_eq_false', beq_iff_eq, bne_iff_ne, beq_eq_false_iff_ne, bne_eq_false_iff_eq, Int.not_lt, Int.not_le, ge_iff_le, gt_iff_lt] at h86
            have hvb := valBytes_num2 h86
            refine AW_condT rfl ?_
            refine AW_seq ?_
            refine AW_region ?_
            refine AL_p (x_field (off := 0) (o' := 0) rfl rfl rfl (by kernel_rfl) rfl) ?_
            refine AL_p (x_load1 rfl rfl rfl (by kernel_rfl) rfl) ?_
            refine AL_p (x_callR rfl rfl rfl (putNumS_c [] (((s.rels[k]'(by omega)).rel.rows[j]'(by omega))[i]'(by omega)).n 6 (valOk_in hvo).1 (by have := (valOk_in hvo).2.1; omega) (by omega) (by omega) (by simp) 111) rfl ⟨fun g l w v h => CLe.nil g l w v h, V1Le.rf, V1Le.rf, trivial⟩ rfl rfl rfl rfl rfl) ?_
            refine AL_p (x_move rfl rfl) ?_
            refine AL_p (x_extract rfl rfl rfl) ?_
            refine AL_p (x_extract rfl rfl rfl) ?_
            refine AL_p (x_assign rfl rfl) ?_
            refine AL_p (x_assign rfl rfl) ?_
            refine AL_nil ?_
            refine AW_region ?_
            refine AL_p (x_move rfl rfl) ?_
            refine AL_p (x_move rfl rfl) ?_
            refine AL_p (y_append 112 rfl rfl rfl rfl rfl rfl rfl rfl (by kernel_rfl) (by (try simp only [List.length_append, List.length_cons, List.length_nil, strBytes_len, putB_len]); omega)) ?_
            refine AL_p (x_assign rfl rfl) ?_
            refine AL_nil ?_
            refine AW_region ?_
            refine AL_p (x_add rfl rfl rfl (IntWalk.i64_in _ (by omega))) ?_
            refine AL_p (x_move rfl rfl) ?_
            refine AL_nil ?_
            refine ⟨⟨i + 1, by omega⟩, rn [(107, 112)], ?_, by dsimp only; omega⟩
            exact ⟨by (repeat refine ⟨⟨_, rfl, by first | exact VLe.rf | exact vle_int (by dsimp only; omega)⟩, ?_⟩); exact trivial, by (repeat refine ⟨⟨_, rfl, by first | exact BLe.rf | exact BLe.box AllC.rf | exact BLe.arr (by first | (rw [flatTo_zero, List.append_nil]; done) | (rw [← flatTo_more (f := valBytes) (k := i) (by omega), hvb]; simp only [List.append_assoc, List.nil_append]; done))⟩, ?_⟩); exact trivial, by repeat (first | exact trivial | refine ⟨⟨rfl, by first | (left; intro h; cases h) | (right; rfl), fun _ h => ⟨_, h⟩⟩, ?_⟩), rfl⟩
          · try simp only [decide_eq_true_eq, decide_eq_false_iff_not, Bool.not_eq_true, Bool.not_eq_false, Bool.not_eq_true', Bool.not_eq_false', beq_iff_eq, bne_iff_ne, beq_eq_false_iff_ne, bne_eq_false_iff_eq, Int.not_lt, Int.not_le, ge_iff_le, gt_iff_lt] at h86
            have hvb := valBytes_word h86
            refine AW_condF rfl ?_
            refine AW_region ?_
            refine AL_p (x_move rfl rfl) ?_
            refine AL_p (x_field (off := 1) (o' := 1) rfl rfl rfl (by kernel_rfl) rfl) ?_
            refine AL_p (x_load1 rfl rfl rfl (by kernel_rfl) rfl) ?_
            refine AL_p (x_bytes (E := 5) rfl rfl (by kernel_rfl)) ?_
            refine AL_p (y_append_sl 113 true (.inr intE_nofp) rfl rfl rfl rfl rfl rfl (by kernel_rfl) (by (try simp only [List.length_append, List.length_cons, List.length_nil, strBytes_len, putB_len]); omega)) ?_
            refine AL_p (x_assign rfl rfl) ?_
            refine AL_nil ?_
            refine AW_region ?_
            refine AL_p (x_add rfl rfl rfl (IntWalk.i64_in _ (by omega))) ?_
            refine AL_p (x_move rfl rfl) ?_
            refine AL_nil ?_
            refine ⟨⟨i + 1, by omega⟩, rn [(107, 113)], ?_, by dsimp only; omega⟩
            exact ⟨by (repeat refine ⟨⟨_, rfl, by first | exact VLe.rf | exact vle_int (by dsimp only; omega)⟩, ?_⟩); exact trivial, by (repeat refine ⟨⟨_, rfl, by first | exact BLe.rf | exact BLe.box AllC.rf | exact BLe.arr (by first | (rw [flatTo_zero, List.append_nil]; done) | (rw [← flatTo_more (f := valBytes) (k := i) (by omega), hvb]; simp only [List.append_assoc, List.nil_append]; done))⟩, ?_⟩); exact trivial, by repeat (first | exact trivial | refine ⟨⟨rfl, by first | (left; intro h; cases h) | (right; rfl), fun _ h => ⟨_, h⟩⟩, ?_⟩), rfl⟩
        · try simp only [decide_eq_true_eq, decide_eq_false_iff_not, Bool.not_eq_true, Bool.not_eq_false, Bool.not_eq_true', Bool.not_eq_false', beq_iff_eq, bne_iff_ne, beq_eq_false_iff_ne, bne_eq_false_iff_eq, Int.not_lt, Int.not_le, ge_iff_le, gt_iff_lt] at h74
          refine AW_condF rfl ?_
          refine AW_exit (BQ_hit ?_)
          refine AW_region ?_
          refine AL_p (x_add rfl rfl rfl (IntWalk.i64_in _ (by omega))) ?_
          refine AL_p (x_move rfl rfl) ?_
          refine AL_nil ?_
          refine ⟨⟨j + 1, by omega⟩, rn [], ?_, by dsimp only; omega⟩
          exact ⟨by (repeat refine ⟨⟨_, rfl, by first | exact VLe.rf | exact vle_int (by dsimp only; omega)⟩, ?_⟩); exact trivial, by (repeat refine ⟨⟨_, rfl, by first | exact BLe.rf | exact BLe.box AllC.rf | exact BLe.arr (by first | (rw [flatTo_zero, List.append_nil]; done) | (rw [← flatTo_more (f := rowBytes) (k := j) (by omega), flatTo_all (f := valBytes) (by omega)]; simp only [rowBytes, List.append_assoc]; done))⟩, ?_⟩); exact trivial, by repeat (first | exact trivial | refine ⟨⟨rfl, by first | (left; intro h; cases h) | (right; rfl), fun _ h => ⟨_, h⟩⟩, ?_⟩), rfl⟩
      · try simp only [decide_eq_true_eq, decide_eq_false_iff_not, Bool.not_eq_true, Bool.not_eq_false, Bool.not_eq_true', Bool.not_eq_false', beq_iff_eq, bne_iff_ne, beq_eq_false_iff_ne, bne_eq_false_iff_eq, Int.not_lt, Int.not_le, ge_iff_le, gt_iff_lt] at h63
        refine AW_condF rfl ?_
        refine AW_exit (BQ_hit ?_)
        refine AW_region ?_
        refine AL_p (x_add rfl rfl rfl (IntWalk.i64_in _ (by omega))) ?_
        refine AL_p (x_move rfl rfl) ?_
        refine AL_nil ?_
        refine ⟨⟨k + 1, by omega⟩, rn [(101, 107)], ?_, by dsimp only; omega⟩
        exact ⟨by (repeat refine ⟨⟨_, rfl, by first | exact VLe.rf | exact vle_int (by dsimp only; omega)⟩, ?_⟩); exact trivial, by (repeat refine ⟨⟨_, rfl, by first | exact BLe.rf | exact BLe.box AllC.rf | exact BLe.arr (by first | (rw [flatTo_zero, List.append_nil]; done) | (rw [← flatTo_more (f := namedBytes) (xs := s.rels) (k := k) (by omega), flatTo_all (f := rowBytes) (by omega)]; simp only [namedBytes, hpb, List.append_assoc, List.cons_append, List.nil_append]; done))⟩, ?_⟩); exact trivial, by repeat (first | exact trivial | refine ⟨⟨rfl, by first | (left; intro h; cases h) | (right; rfl), fun _ h => ⟨_, h⟩⟩, ?_⟩), rfl⟩
    · try simp only [decide_eq_true_eq, decide_eq_false_iff_not, Bool.not_eq_true, Bool.not_eq_false, Bool.not_eq_true', Bool.not_eq_false', beq_iff_eq, bne_iff_ne, beq_eq_false_iff_ne, bne_eq_false_iff_eq, Int.not_lt, Int.not_le, ge_iff_le, gt_iff_lt] at h24
      refine AW_condF rfl ?_
      refine AW_exit (BQ_hit ?_)
      refine AW_seq ?_
      refine AW_seq ?_
      refine AW_region ?_
      refine AL_p (x_move rfl rfl) ?_
      refine AL_p (x_olen (E := 5) (n := 1) rfl rfl rfl (by kernel_rfl)) ?_
      refine AL_b (x_gtr rfl rfl rfl) (fun b106 h106 => ?_)
      refine AL_nil ?_
      cases b106
      rotate_left
      · try simp only [decide_eq_true_eq, decide_eq_false_iff_not, Bool.not_eq_true, Bool.not_eq_false, Bool.not_eq_true', Bool.not_eq_false', beq_iff_eq, bne_iff_ne, beq_eq_false_iff_ne, bne_eq_false_iff_eq, Int.not_lt, Int.not_le, ge_iff_le, gt_iff_lt] at h106
        have hno := storeBytes_big hok (by rw [← storeB_to (k := k) (by omega)]; exact h106)
        refine AW_condT rfl ?_
        refine AW_seq ?_
        refine AW_region ?_
        refine AL_p (x_assign rfl rfl) ?_
        refine AL_p (x_assign rfl rfl) ?_
        refine AL_nil ?_
        refine AW_adoptT (T := 5) (e := (intE .u8)) 114 2 rfl rfl rfl ?_
        refine AW_ret ?_
        exact ⟨rn [(0, 114)], ⟨⟨⟨_, rfl, VLe.rf⟩, ⟨_, rfl, by first | exact VLe.rf | exact vle_bool (by rw [hno])⟩, trivial⟩, ⟨⟨_, rfl, by first | exact BLe.rf | (refine BLe.arr ?_; rw [hno]; done) | (refine BLe.arr ?_; rw [hno]; exact storeB_to (by omega))⟩, trivial⟩, trivial, rfl⟩⟩
      · try simp only [decide_eq_true_eq, decide_eq_false_iff_not, Bool.not_eq_true, Bool.not_eq_false, Bool.not_eq_true', Bool.not_eq_false', beq_iff_eq, bne_iff_ne, beq_eq_false_iff_ne, bne_eq_false_iff_eq, Int.not_lt, Int.not_le, ge_iff_le, gt_iff_lt] at h106
        have hno := storeBytes_ok hok (by rw [← storeB_to (k := k) (by omega)]; omega)
        refine AW_condF rfl ?_
        refine AW_skip ?_
        refine AW_seq ?_
        refine AW_region ?_
        refine AL_p (x_move rfl rfl) ?_
        refine AL_p (x_assign rfl rfl) ?_
        refine AL_p (x_assign rfl rfl) ?_
        refine AL_nil ?_
        refine AW_ret ?_
        exact ⟨rn [(0, 101)], ⟨⟨⟨_, rfl, VLe.rf⟩, ⟨_, rfl, by first | exact VLe.rf | exact vle_bool (by rw [hno])⟩, trivial⟩, ⟨⟨_, rfl, by first | exact BLe.rf | (refine BLe.arr ?_; rw [hno]; done) | (refine BLe.arr ?_; rw [hno]; exact storeB_to (by omega))⟩, trivial⟩, trivial, rfl⟩⟩
  · try simp only [decide_eq_true_eq, decide_eq_false_iff_not, Bool.not_eq_true, Bool.not_eq_false, Bool.not_eq_true', Bool.not_eq_false', beq_iff_eq, bne_iff_ne, beq_eq_false_iff_ne, bne_eq_false_iff_eq, Int.not_lt, Int.not_le, ge_iff_le, gt_iff_lt] at h13
    have hno := storeBytes_no h13
    refine AW_condT rfl ?_
    refine AW_seq ?_
    refine AW_region ?_
    refine AL_p (x_assign rfl rfl) ?_
    refine AL_p (x_assign rfl rfl) ?_
    refine AL_nil ?_
    refine AW_adoptT (T := 5) (e := (intE .u8)) 114 2 rfl rfl rfl ?_
    refine AW_ret ?_
    exact ⟨rn [(0, 114)], ⟨⟨⟨_, rfl, VLe.rf⟩, ⟨_, rfl, by first | exact VLe.rf | exact vle_bool (by rw [hno])⟩, trivial⟩, ⟨⟨_, rfl, by first | exact BLe.rf | (refine BLe.arr ?_; rw [hno]; done) | (refine BLe.arr ?_; rw [hno]; exact storeB_to (by omega))⟩, trivial⟩, trivial, rfl⟩⟩
theorem storeBytesS_c (s : Storet) (hs : smallStore s) (k : Nat) : AC Try.prog 24 [.agg (storeC s)] [] (.tup [.one (.own k), .one (.c (.bool (storeBytes s).2))]) [(k, some (.arr 5 (intE .u8) ((storeBytes s).1) true))] := AC.at (storeBytesS_c0 s hs) k
end Go.Proofs.Ytibhoanjglfaoaa

/- Bytes read again (printed by walk.py) -/
namespace Go.Proofs.Ytibhoanjglfaoaa
open Go.RowKit
set_option linter.unusedVariables false
set_option linter.unusedSimpArgs false
set_option maxRecDepth 100000

set_option maxHeartbeats 4000000 in
theorem getI_c (l : List Int) (hl : l.length ≤ 6) : AC Try.prog 116 [.one (.sl (intE .u8) l)] [] (.one (.c (.int .i64 (bign l)))) [] := by
  refine AC_body1 Try.func116 rfl rfl Try.ntmps116 rfl Try.results116 ?_
  refine AW_slbyte 0 rfl (fun hy0 => ?_)
  refine AW_seq ?_
  refine AW_region ?_
  refine AL_p (x_assign rfl rfl) ?_
  refine AL_nil ?_
  refine AW_seq ?_
  refine AW_region ?_
  refine AL_p (x_assign rfl rfl) ?_
  refine AL_nil ?_
  refine AW_seq ?_
  refine AW_seq ?_
  refine AW_region ?_
  refine AL_p (x_move rfl rfl) ?_
  refine AL_p (x_len (E := 5) (n := 1) rfl rfl (by kernel_rfl)) ?_
  refine AL_p (x_move rfl rfl) ?_
  refine AL_nil ?_
  refine AW_block ?_
  refine AW_loop2 (ι := {q : Nat // q ≤ l.length}) (fun p => [(3, .one (.c (.int .i64 (bign (l.take (p.1)))))), (8, .one (.c (.int .i64 ((p.1) : Int))))]) (fun p => []) [6, 7] [] (fun p => l.length - (p.1)) ⟨0, by omega⟩ (rn []) ?_ ?_
  exact ⟨by (repeat refine ⟨⟨_, rfl, by first | exact VLe.rf | exact vle_int (by dsimp only; omega)⟩, ?_⟩); exact trivial, by (repeat refine ⟨⟨_, rfl, by first | exact BLe.rf | exact BLe.box AllC.rf | exact BLe.arr (by exact rfl)⟩, ?_⟩); exact trivial, by repeat (first | exact trivial | refine ⟨⟨rfl, by first | (left; intro h; cases h) | (right; rfl), fun _ h => ⟨_, h⟩⟩, ?_⟩), rfl⟩
  rintro ⟨k, hinv⟩
  dsimp only
  have hk := hinv
  have hnb := bign_le (l := l.take k) (n := 6) (by simp; omega) (by omega)
  refine AW_seq ?_
  refine AW_region ?_
  refine AL_b (x_lss rfl rfl rfl) (fun b9 h9 => ?_)
  refine AL_nil ?_
  refine AW_seq ?_
  cases b9
  rotate_left
  · try simp only [decide_eq_true_eq, decide_eq_false_iff_not, Bool.not_eq_true, Bool.not_eq_false, Bool.not_eq_true', Bool.not_eq_false', beq_iff_eq, bne_iff_ne, beq_eq_false_iff_ne, bne_eq_false_iff_eq, Int.not_lt, Int.not_le, ge_iff_le, gt_iff_lt] at h9
    have hx := hy0 _ (List.getElem_mem (l := l) (n := k) (by omega))
    have hs := bign_next (l := l) (k := k) (by omega) hx
    refine AW_condT rfl ?_
    refine AW_skip ?_
    refine AW_seq ?_
    refine AW_block ?_
    refine AW_seq ?_
    refine AW_region ?_
    refine AL_p (x_index (E := 5) (n := 1) rfl rfl rfl (by kernel_rfl) rfl (k := k) (by omega) (by omega)) ?_
    refine AL_p (x_eload1 rfl rfl (by kernel_rfl) rfl) ?_
    refine AL_p (x_assign rfl rfl) ?_
    refine AL_nil ?_
    refine AW_region ?_
    refine AL_p (x_move rfl rfl) ?_
    refine AL_p (x_mul rfl rfl rfl (IntWalk.i64_in _ (by omega))) ?_
    refine AL_p (x_move rfl rfl) ?_
    refine AL_p (x_conv (k' := .i64) rfl rfl (by kernel_rfl) (IntWalk.i64_in _ (by omega))) ?_
    refine AL_p (x_add rfl rfl rfl (IntWalk.i64_in _ (by omega))) ?_
    refine AL_p (x_assign rfl rfl) ?_
    refine AL_nil ?_
    refine AW_region ?_
    refine AL_p (x_add rfl rfl rfl (IntWalk.i64_in _ (by omega))) ?_
    refine AL_p (x_move rfl rfl) ?_
    refine AL_nil ?_
    refine ⟨⟨k + 1, by omega⟩, rn [], ?_, by dsimp only; omega⟩
    exact ⟨by (repeat refine ⟨⟨_, rfl, by first | exact VLe.rf | exact vle_int (by dsimp only; omega)⟩, ?_⟩); exact trivial, by (repeat refine ⟨⟨_, rfl, by first | exact BLe.rf | exact BLe.box AllC.rf | exact BLe.arr (by exact rfl)⟩, ?_⟩); exact trivial, by repeat (first | exact trivial | refine ⟨⟨rfl, by first | (left; intro h; cases h) | (right; rfl), fun _ h => ⟨_, h⟩⟩, ?_⟩), rfl⟩
  · try simp only [decide_eq_true_eq, decide_eq_false_iff_not, Bool.not_eq_true, Bool.not_eq_false, Bool.not_eq_true', Bool.not_eq_false', beq_iff_eq, bne_iff_ne, beq_eq_false_iff_ne, bne_eq_false_iff_eq, Int.not_lt, Int.not_le, ge_iff_le, gt_iff_lt] at h9
    refine AW_condF rfl ?_
    refine AW_exit (BQ_hit ?_)
    refine AW_seq ?_
    refine AW_region ?_
    refine AL_p (x_move rfl rfl) ?_
    refine AL_p (x_assign rfl rfl) ?_
    refine AL_nil ?_
    refine AW_ret ?_
    exact ⟨rn [], ⟨⟨⟨_, rfl, vle_int (by rw [List.take_of_length_le (by omega)])⟩, trivial⟩, trivial, trivial, rfl⟩⟩

set_option maxHeartbeats 4000000 in
theorem takeI_c (xs : List Int) (n : Int) (h0 : 0 ≤ n) (h1 : n ≤ 6) : AC Try.prog 74 [.one (.ptr 200 0), .one (.c (.int .i64 n))] [(200, some (.box [.sl (intE .u8) xs]))] (.one (.c (.int .i64 (takeI xs n).1))) [(200, some (.box [.sl (intE .u8) (takeI xs n).2]))] := by
  refine AC_body1 Try.func74 rfl rfl Try.ntmps74 rfl Try.results74 ?_
  refine AW_seq ?_
  refine AW_region ?_
  refine AL_p (x_assign rfl rfl) ?_
  refine AL_nil ?_
  refine AW_seq ?_
  refine AW_seq ?_
  refine AW_region ?_
  refine AL_p (x_move rfl rfl) ?_
  refine AL_p (x_nilc rfl rfl rfl) ?_
  refine AL_p (x_load1 rfl rfl rfl (by kernel_rfl) rfl) ?_
  refine AL_p (x_len (E := 5) (n := 1) rfl rfl (by kernel_rfl)) ?_
  refine AL_p (x_move rfl rfl) ?_
  refine AL_b (x_lss rfl rfl rfl) (fun b11 h11 => ?_)
  refine AL_nil ?_
  cases b11
  rotate_left
  · try simp only [decide_eq_true_eq, decide_eq_false_iff_not, Bool.not_eq_true, Bool.not_eq_false, Bool.not_eq_true', Bool.not_eq_false', beq_iff_eq, bne_iff_ne, beq_eq_false_iff_ne, bne_eq_false_iff_eq, Int.not_lt, Int.not_le, ge_iff_le, gt_iff_lt] at h11
    have hno := takeI_no h11
    refine AW_condT rfl ?_
    refine AW_seq ?_
    refine AW_region ?_
    refine AL_p (x_move rfl rfl) ?_
    refine AL_p (x_nilc rfl rfl rfl) ?_
    refine AL_p (x_store (n := 1) rfl rfl rfl rfl (by kernel_rfl) rfl rfl rfl) ?_
    refine AL_nil ?_
    refine AW_seq ?_
    refine AW_region ?_
    refine AL_p (x_assign rfl rfl) ?_
    refine AL_nil ?_
    refine AW_ret ?_
    exact ⟨rn [], ⟨⟨⟨_, rfl, vle_int (by rw [hno]; first | done | rfl)⟩, trivial⟩, ⟨⟨_, rfl, by rw [hno]; first | exact BLe.rf | exact BLe.box ⟨CLe.nil, trivial⟩⟩, trivial⟩, by repeat (first | exact trivial | refine ⟨⟨rfl, by first | (left; intro h; cases h) | (right; rfl), by first | exact (fun _ h => ⟨_, h⟩) | exact (fun _ _ => ⟨_, rfl⟩)⟩, ?_⟩), rfl⟩⟩
  · try simp only [decide_eq_true_eq, decide_eq_false_iff_not, Bool.not_eq_true, Bool.not_eq_false, Bool.not_eq_true', Bool.not_eq_false', beq_iff_eq, bne_iff_ne, beq_eq_false_iff_ne, bne_eq_false_iff_eq, Int.not_lt, Int.not_le, ge_iff_le, gt_iff_lt] at h11
    have hno := takeI_ok (xs := xs) (n := n) (by omega)
    refine AW_condF rfl ?_
    refine AW_skip ?_
    refine AW_seq ?_
    refine AW_region ?_
    refine AL_p (x_move rfl rfl) ?_
    refine AL_p (x_nilc rfl rfl rfl) ?_
    refine AL_p (x_load1 rfl rfl rfl (by kernel_rfl) rfl) ?_
    refine AL_p (x_move rfl rfl) ?_
    refine AL_p (x_slice (E := 5) (n := 1) rfl rfl (by kernel_rfl) rfl .no (.yes (l := n.toNat) rfl (by omega)) (by omega) (by first | exact Nat.le_refl _ | omega) rfl) ?_
    refine AL_p (x_call0 rfl rfl rfl (getI_c (xs.take n.toNat) (by simp; omega)) rfl rfl) ?_
    refine AL_p (x_assign rfl rfl) ?_
    refine AL_nil ?_
    refine AW_seq ?_
    refine AW_region ?_
    refine AL_p (x_move rfl rfl) ?_
    refine AL_p (x_move rfl rfl) ?_
    refine AL_p (x_nilc rfl rfl rfl) ?_
    refine AL_p (x_load1 rfl rfl rfl (by kernel_rfl) rfl) ?_
    refine AL_p (x_move rfl rfl) ?_
    refine AL_p (x_slice (E := 5) (n := 1) rfl rfl (by kernel_rfl) rfl (.yes (l := n.toNat) rfl (by omega)) .no (by omega) (by first | exact Nat.le_refl _ | omega) part_drop) ?_
    refine AL_p (x_nilc rfl rfl rfl) ?_
    refine AL_p (x_store (n := 1) rfl rfl rfl rfl (by kernel_rfl) rfl rfl rfl) ?_
    refine AL_nil ?_
    refine AW_seq ?_
    refine AW_region ?_
    refine AL_p (x_move rfl rfl) ?_
    refine AL_p (x_assign rfl rfl) ?_
    refine AL_nil ?_
    refine AW_ret ?_
    exact ⟨rn [], ⟨⟨⟨_, rfl, vle_int (by rw [hno]; first | done | rfl)⟩, trivial⟩, ⟨⟨_, rfl, by rw [hno]; first | exact BLe.rf | exact BLe.box ⟨CLe.nil, trivial⟩⟩, trivial⟩, by repeat (first | exact trivial | refine ⟨⟨rfl, by first | (left; intro h; cases h) | (right; rfl), by first | exact (fun _ h => ⟨_, h⟩) | exact (fun _ _ => ⟨_, rfl⟩)⟩, ?_⟩), rfl⟩⟩

set_option maxHeartbeats 4000000 in
theorem wordI_c (xs : List Int) (n : Int) (h0 : 0 ≤ n) : AC Try.prog 75 [.one (.ptr 200 0), .one (.c (.int .i64 n))] [(200, some (.box [.sl (intE .u8) xs]))] (.one (.c (.string (wordI xs n).1))) [(200, some (.box [.sl (intE .u8) (wordI xs n).2]))] := by
  refine AC_body1 Try.func75 rfl rfl Try.ntmps75 rfl Try.results75 ?_
  refine AW_seq ?_
  refine AW_region ?_
  refine AL_p (x_assign rfl rfl) ?_
  refine AL_nil ?_
  refine AW_seq ?_
  refine AW_seq ?_
  refine AW_region ?_
  refine AL_p (x_move rfl rfl) ?_
  refine AL_p (x_nilc rfl rfl rfl) ?_
  refine AL_p (x_load1 rfl rfl rfl (by kernel_rfl) rfl) ?_
  refine AL_p (x_len (E := 5) (n := 1) rfl rfl (by kernel_rfl)) ?_
  refine AL_p (x_move rfl rfl) ?_
  refine AL_b (x_lss rfl rfl rfl) (fun b11 h11 => ?_)
  refine AL_nil ?_
  cases b11
  rotate_left
  · try simp only [decide_eq_true_eq, decide_eq_false_iff_not, Bool.not_eq_true, Bool.not_eq_false, Bool.not_eq_true', Bool.not_eq_false', beq_iff_eq, bne_iff_ne, beq_eq_false_iff_ne, bne_eq_false_iff_eq, Int.not_lt, Int.not_le, ge_iff_le, gt_iff_lt] at h11
    have hno := wordI_no h11
    refine AW_condT rfl ?_
    refine AW_seq ?_
    refine AW_region ?_
    refine AL_p (x_move rfl rfl) ?_
    refine AL_p (x_nilc rfl rfl rfl) ?_
    refine AL_p (x_store (n := 1) rfl rfl rfl rfl (by kernel_rfl) rfl rfl rfl) ?_
    refine AL_nil ?_
    refine AW_seq ?_
    refine AW_region ?_
    refine AL_p (x_assign rfl rfl) ?_
    refine AL_nil ?_
    refine AW_ret ?_
    exact ⟨rn [], ⟨⟨⟨_, rfl, vle_str (by rw [hno]; first | done | rfl)⟩, trivial⟩, ⟨⟨_, rfl, by rw [hno]; first | exact BLe.rf | exact BLe.box ⟨CLe.nil, trivial⟩⟩, trivial⟩, by repeat (first | exact trivial | refine ⟨⟨rfl, by first | (left; intro h; cases h) | (right; rfl), by first | exact (fun _ h => ⟨_, h⟩) | exact (fun _ _ => ⟨_, rfl⟩)⟩, ?_⟩), rfl⟩⟩
  · try simp only [decide_eq_true_eq, decide_eq_false_iff_not, Bool.not_eq_true, Bool.not_eq_false, Bool.not_eq_true', Bool.not_eq_false', beq_iff_eq, bne_iff_ne, beq_eq_false_iff_ne, bne_eq_false_iff_eq, Int.not_lt, Int.not_le, ge_iff_le, gt_iff_lt] at h11
    have hno := wordI_ok (xs := xs) (n := n) (by omega)
    refine AW_condF rfl ?_
    refine AW_skip ?_
    refine AW_seq ?_
    refine AW_region ?_
    refine AL_p (x_move rfl rfl) ?_
    refine AL_p (x_nilc rfl rfl rfl) ?_
    refine AL_p (x_load1 rfl rfl rfl (by kernel_rfl) rfl) ?_
    refine AL_p (x_move rfl rfl) ?_
    refine AL_p (x_slice (E := 5) (n := 1) rfl rfl (by kernel_rfl) rfl .no (.yes (l := n.toNat) rfl (by omega)) (by omega) (by first | exact Nat.le_refl _ | omega) rfl) ?_
    refine AL_p (x_tostr (E := 5) rfl rfl (by kernel_rfl)) ?_
    refine AL_p (x_assign rfl rfl) ?_
    refine AL_nil ?_
    refine AW_seq ?_
    refine AW_region ?_
    refine AL_p (x_move rfl rfl) ?_
    refine AL_p (x_move rfl rfl) ?_
    refine AL_p (x_nilc rfl rfl rfl) ?_
    refine AL_p (x_load1 rfl rfl rfl (by kernel_rfl) rfl) ?_
    refine AL_p (x_move rfl rfl) ?_
    refine AL_p (x_slice (E := 5) (n := 1) rfl rfl (by kernel_rfl) rfl (.yes (l := n.toNat) rfl (by omega)) .no (by omega) (by first | exact Nat.le_refl _ | omega) part_drop) ?_
    refine AL_p (x_nilc rfl rfl rfl) ?_
    refine AL_p (x_store (n := 1) rfl rfl rfl rfl (by kernel_rfl) rfl rfl rfl) ?_
    refine AL_nil ?_
    refine AW_seq ?_
    refine AW_region ?_
    refine AL_p (x_move rfl rfl) ?_
    refine AL_p (x_assign rfl rfl) ?_
    refine AL_nil ?_
    refine AW_ret ?_
    exact ⟨rn [], ⟨⟨⟨_, rfl, vle_str (by rw [hno]; first | done | rfl)⟩, trivial⟩, ⟨⟨_, rfl, by rw [hno]; first | exact BLe.rf | exact BLe.box ⟨CLe.nil, trivial⟩⟩, trivial⟩, by repeat (first | exact trivial | refine ⟨⟨rfl, by first | (left; intro h; cases h) | (right; rfl), by first | exact (fun _ h => ⟨_, h⟩) | exact (fun _ _ => ⟨_, rfl⟩)⟩, ?_⟩), rfl⟩⟩

set_option maxHeartbeats 4000000 in
theorem valI_c (xs : List Int) : AC Try.prog 76 [.one (.ptr 200 0)] [(200, some (.box [.sl (intE .u8) xs]))] (.agg (valC (valI xs).1)) [(200, some (.box [.sl (intE .u8) (valI xs).2]))] := by
  have hin := takeI_in (xs := xs) (n := 1) (by omega)
  refine AC_bodyC (n := 2) (k := 9) (T := [(2, .one (.ptr 9 0))]) (Lf := ((9, some (.box (valC (valI xs).1))) :: [(200, some (.box [.sl (intE .u8) (valI xs).2]))])) Try.func76 rfl rfl Try.ntmps76 rfl Try.results76 rfl rfl (by kernel_rfl) rfl rfl ⟨trivial, (by repeat (first | exact trivial | refine ⟨⟨_, rfl, BLe.rf⟩, ?_⟩)), (by repeat (first | exact trivial | refine ⟨⟨rfl, by first | (left; intro h; cases h) | (right; rfl), by first | exact (fun _ h => ⟨_, h⟩) | exact (fun _ _ => ⟨_, rfl⟩)⟩, ?_⟩)), rfl⟩ ?_
  refine AW_seq ?_
  refine AW_region ?_
  refine AL_p (x_alloc (z := .agg #[.int .i64 0, .string ⟨#[]⟩]) 100 rfl (by kernel_rfl) rfl rfl rfl rfl) ?_
  refine AL_nil ?_
  refine AW_seq ?_
  refine AW_region ?_
  refine AL_p (x_move rfl rfl) ?_
  refine AL_p (x_call (ks := []) (L := [(200, some _)]) (L' := [(200, some _)]) rfl rfl rfl (takeI_c xs 1 (by omega) (by omega)) rfl AllV.rf (caught_of rfl) rfl rfl rfl ⟨rfl, trivial⟩ rfl) ?_
  refine AL_p (x_assign rfl rfl) ?_
  refine AL_nil ?_
  refine AW_seq ?_
  refine AW_seq ?_
  refine AW_region ?_
  refine AL_p (x_move rfl rfl) ?_
  refine AL_b (x_eql rfl rfl rfl) (fun b7 h7 => ?_)
  refine AL_nil ?_
  cases b7
  rotate_left
  · try simp only [decide_eq_true_eq, decide_eq_false_iff_not, Bool.not_eq_true, Bool.not_eq_false, Bool.not_eq_true', Bool.not_eq_false', beq_iff_eq, bne_iff_ne, beq_eq_false_iff_ne, bne_eq_false_iff_eq, Int.not_lt, Int.not_le, ge_iff_le, gt_iff_lt] at h7
    have hno := valI_num h7
    refine AW_condT rfl ?_
    refine AW_seq ?_
    refine AW_region ?_
    refine AL_p (x_move rfl rfl) ?_
    refine AL_p (x_call (ks := []) (L := [(200, some _)]) (L' := [(200, some _)]) rfl rfl rfl (takeI_c (takeI xs 1).2 6 (by omega) (by omega)) rfl AllV.rf (caught_of rfl) rfl rfl rfl ⟨rfl, trivial⟩ rfl) ?_
    refine AL_p (x_build (zs := [.int .i64 0, .string ⟨#[]⟩]) (places := [(0, 1), (1, 1)]) rfl (by kernel_rfl) rfl rfl rfl rfl rfl) ?_
    refine AL_p (x_store (n := 2) rfl rfl rfl rfl (by kernel_rfl) rfl rfl rfl) ?_
    refine AL_nil ?_
    refine AW_ret ?_
    exact ⟨rn [(9, 100)], ⟨⟨⟨_, rfl, VLe.rf⟩, trivial⟩, ⟨⟨_, rfl, by first | exact BLe.rf | exact ble_eq (by rw [hno]; rfl)⟩, ⟨_, rfl, by first | exact BLe.rf | exact ble_eq (by rw [hno]; first | done | rfl)⟩, trivial⟩, by repeat (first | exact trivial | refine ⟨⟨rfl, by first | (left; intro h; cases h) | (right; rfl), by first | exact (fun _ h => ⟨_, h⟩) | exact (fun _ _ => ⟨_, rfl⟩)⟩, ?_⟩), rfl⟩⟩
  · try simp only [decide_eq_true_eq, decide_eq_false_iff_not, Bool.not_eq_true, Bool.not_eq_false, Bool.not_eq_true', Bool.not_eq_false', beq_iff_eq, bne_iff_ne, beq_eq_false_iff_ne, bne_eq_false_iff_eq, Int.not_lt, Int.not_le, ge_iff_le, gt_iff_lt] at h7
    have hno := valI_word h7
    refine AW_condF rfl ?_
    refine AW_skip ?_
    refine AW_seq ?_
    refine AW_region ?_
    refine AL_p (x_move rfl rfl) ?_
    refine AL_p (x_move rfl rfl) ?_
    refine AL_p (x_call (ks := []) (L := [(200, some _)]) (L' := [(200, some _)]) rfl rfl rfl (wordI_c (takeI xs 1).2 (takeI xs 1).1 hin.1) rfl AllV.rf (caught_of rfl) rfl rfl rfl ⟨rfl, trivial⟩ rfl) ?_
    refine AL_p (x_build (zs := [.int .i64 0, .string ⟨#[]⟩]) (places := [(0, 1), (1, 1)]) rfl (by kernel_rfl) rfl rfl rfl rfl rfl) ?_
    refine AL_p (x_store (n := 2) rfl rfl rfl rfl (by kernel_rfl) rfl rfl rfl) ?_
    refine AL_nil ?_
    refine AW_ret ?_
    exact ⟨rn [(9, 100)], ⟨⟨⟨_, rfl, VLe.rf⟩, trivial⟩, ⟨⟨_, rfl, by first | exact BLe.rf | exact ble_eq (by rw [hno]; rfl)⟩, ⟨_, rfl, by first | exact BLe.rf | exact ble_eq (by rw [hno]; first | done | rfl)⟩, trivial⟩, by repeat (first | exact trivial | refine ⟨⟨rfl, by first | (left; intro h; cases h) | (right; rfl), by first | exact (fun _ h => ⟨_, h⟩) | exact (fun _ _ => ⟨_, rfl⟩)⟩, ?_⟩), rfl⟩⟩

set_option maxHeartbeats 4000000 in
theorem equalB_c (x y : List Int) : AC Try.prog 77 [.one (.sl (intE .u8) x), .one (.sl (intE .u8) y)] [] (.one (.c (.bool (decide (x = y))))) [] := by
  refine AC_body1 Try.func77 rfl rfl Try.ntmps77 rfl Try.results77 ?_
  refine AW_slmax 0 rfl (fun hm0 => ?_)
  refine AW_slmax 1 rfl (fun hm1 => ?_)
  refine AW_seq ?_
  refine AW_region ?_
  refine AL_p (x_assign rfl rfl) ?_
  refine AL_nil ?_
  refine AW_seq ?_
  refine AW_seq ?_
  refine AW_region ?_
  refine AL_p (x_move rfl rfl) ?_
  refine AL_p (x_len (E := 5) (n := 1) rfl rfl (by kernel_rfl)) ?_
  refine AL_p (x_move rfl rfl) ?_
  refine AL_p (x_len (E := 5) (n := 1) rfl rfl (by kernel_rfl)) ?_
  refine AL_b (x_neq rfl rfl rfl) (fun b10 h10 => ?_)
  refine AL_nil ?_
  cases b10
  rotate_left
  · try simp only [decide_eq_true_eq, decide_eq_false_iff_not, Bool.not_eq_true, Bool.not_eq_false, Bool.not_eq_true', Bool.not_eq_false', beq_iff_eq, bne_iff_ne, beq_eq_false_iff_ne, bne_eq_false_iff_eq, Int.not_lt, Int.not_le, ge_iff_le, gt_iff_lt] at h10
    refine AW_condT rfl ?_
    refine AW_seq ?_
    refine AW_region ?_
    refine AL_p (x_assign rfl rfl) ?_
    refine AL_nil ?_
    refine AW_ret ?_
    exact ⟨rn [], ⟨⟨⟨_, rfl, vle_bool (by first | (symm; rw [decide_eq_false_iff_not]; intro e; subst e; first | omega | exact hne rfl) | (symm; rw [decide_eq_true_eq]; rw [← List.take_of_length_le (l := x) (i := k) (by omega), hs, List.take_of_length_le (by omega)]))⟩, trivial⟩, trivial, trivial, rfl⟩⟩
  · try simp only [decide_eq_true_eq, decide_eq_false_iff_not, Bool.not_eq_true, Bool.not_eq_false, Bool.not_eq_true', Bool.not_eq_false', beq_iff_eq, bne_iff_ne, beq_eq_false_iff_ne, bne_eq_false_iff_eq, Int.not_lt, Int.not_le, ge_iff_le, gt_iff_lt] at h10
    refine AW_condF rfl ?_
    refine AW_skip ?_
    refine AW_seq ?_
    refine AW_seq ?_
    refine AW_region ?_
    refine AL_p (x_move rfl rfl) ?_
    refine AL_p (x_len (E := 5) (n := 1) rfl rfl (by kernel_rfl)) ?_
    refine AL_p (x_move rfl rfl) ?_
    refine AL_nil ?_
    refine AW_block ?_
    refine AW_loop2 (ι := {q : Nat // q ≤ x.length ∧ x.take q = y.take q}) (fun p => [(13, .one (.c (.int .i64 ((p.1) : Int))))]) (fun p => []) [0, 1, 12] [] (fun p => x.length - (p.1)) ⟨0, ⟨by omega, rfl⟩⟩ (rn []) ?_ ?_
    exact ⟨by (repeat refine ⟨⟨_, rfl, by first | exact VLe.rf | exact vle_int (by dsimp only; omega)⟩, ?_⟩); exact trivial, by (repeat refine ⟨⟨_, rfl, by first | exact BLe.rf | exact BLe.box AllC.rf | exact BLe.arr (by exact rfl)⟩, ?_⟩); exact trivial, by repeat (first | exact trivial | refine ⟨⟨rfl, by first | (left; intro h; cases h) | (right; rfl), fun _ h => ⟨_, h⟩⟩, ?_⟩), rfl⟩
    rintro ⟨k, hinv⟩
    dsimp only
    obtain ⟨hk, hs⟩ := hinv
    refine AW_seq ?_
    refine AW_region ?_
    refine AL_b (x_lss rfl rfl rfl) (fun b14 h14 => ?_)
    refine AL_nil ?_
    refine AW_seq ?_
    cases b14
    rotate_left
    · try simp only [decide_eq_true_eq, decide_eq_false_iff_not, Bool.not_eq_true, Bool.not_eq_false, Bool.not_eq_true', Bool.not_eq_false', beq_iff_eq, bne_iff_ne, beq_eq_false_iff_ne, bne_eq_false_iff_eq, Int.not_lt, Int.not_le, ge_iff_le, gt_iff_lt] at h14
      refine AW_condT rfl ?_
      refine AW_skip ?_
      refine AW_seq ?_
      refine AW_block ?_
      refine AW_seq ?_
      refine AW_region ?_
      refine AL_p (x_move rfl rfl) ?_
      refine AL_p (x_assign rfl rfl) ?_
      refine AL_nil ?_
      refine AW_seq ?_
      refine AW_draw rfl ?_
      refine AL_p (x_move rfl rfl) ?_
      refine AL_p (x_move rfl rfl) ?_
      refine AL_p (x_index (E := 5) (n := 1) rfl rfl rfl (by kernel_rfl) rfl (k := k) (by omega) (by omega)) ?_
      refine AL_p (x_eload1 rfl rfl (by kernel_rfl) rfl) ?_
      refine AL_p (x_move rfl rfl) ?_
      refine AL_p (x_move rfl rfl) ?_
      refine AL_p (x_index (E := 5) (n := 1) rfl rfl rfl (by kernel_rfl) rfl (k := k) (by omega) (by omega)) ?_
      refine AL_p (x_eload1 rfl rfl (by kernel_rfl) rfl) ?_
      refine AL_b (x_neq rfl rfl rfl) (fun b24 h24 => ?_)
      refine AL_nild (by kernel_rfl) ?_
      cases b24
      rotate_left
      · try simp only [decide_eq_true_eq, decide_eq_false_iff_not, Bool.not_eq_true, Bool.not_eq_false, Bool.not_eq_true', Bool.not_eq_false', beq_iff_eq, bne_iff_ne, beq_eq_false_iff_ne, bne_eq_false_iff_eq, Int.not_lt, Int.not_le, ge_iff_le, gt_iff_lt] at h24
        have hne := h24
        refine AW_condT rfl ?_
        refine AW_seq ?_
        refine AW_region ?_
        refine AL_p (x_assign rfl rfl) ?_
        refine AL_nil ?_
        refine AW_ret (BQ_ret (BQ_ret ?_))
        exact ⟨rn [], ⟨⟨⟨_, rfl, vle_bool (by first | (symm; rw [decide_eq_false_iff_not]; intro e; subst e; first | omega | exact hne rfl) | (symm; rw [decide_eq_true_eq]; rw [← List.take_of_length_le (l := x) (i := k) (by omega), hs, List.take_of_length_le (by omega)]))⟩, trivial⟩, trivial, trivial, rfl⟩⟩
      · try simp only [decide_eq_true_eq, decide_eq_false_iff_not, Bool.not_eq_true, Bool.not_eq_false, Bool.not_eq_true', Bool.not_eq_false', beq_iff_eq, bne_iff_ne, beq_eq_false_iff_ne, bne_eq_false_iff_eq, Int.not_lt, Int.not_le, ge_iff_le, gt_iff_lt] at h24
        have heq := h24
        refine AW_condF rfl ?_
        refine AW_skip ?_
        refine AW_region ?_
        refine AL_p (x_add rfl rfl rfl (IntWalk.i64_in _ (by omega))) ?_
        refine AL_p (x_move rfl rfl) ?_
        refine AL_nil ?_
        refine ⟨⟨k + 1, ⟨by omega, by rw [List.take_succ_eq_append_getElem (show k < x.length by omega), List.take_succ_eq_append_getElem (show k < y.length by omega), hs, heq]⟩⟩, rn [], ?_, by dsimp only; omega⟩
        exact ⟨by (repeat refine ⟨⟨_, rfl, by first | exact VLe.rf | exact vle_int (by dsimp only; omega)⟩, ?_⟩); exact trivial, by (repeat refine ⟨⟨_, rfl, by first | exact BLe.rf | exact BLe.box AllC.rf | exact BLe.arr (by exact rfl)⟩, ?_⟩); exact trivial, by repeat (first | exact trivial | refine ⟨⟨rfl, by first | (left; intro h; cases h) | (right; rfl), fun _ h => ⟨_, h⟩⟩, ?_⟩), rfl⟩
    · try simp only [decide_eq_true_eq, decide_eq_false_iff_not, Bool.not_eq_true, Bool.not_eq_false, Bool.not_eq_true', Bool.not_eq_false', beq_iff_eq, bne_iff_ne, beq_eq_false_iff_ne, bne_eq_false_iff_eq, Int.not_lt, Int.not_le, ge_iff_le, gt_iff_lt] at h14
      refine AW_condF rfl ?_
      refine AW_exit (BQ_hit ?_)
      refine AW_seq ?_
      refine AW_region ?_
      refine AL_p (x_assign rfl rfl) ?_
      refine AL_nil ?_
      refine AW_ret ?_
      exact ⟨rn [], ⟨⟨⟨_, rfl, vle_bool (by first | (symm; rw [decide_eq_false_iff_not]; intro e; subst e; first | omega | exact hne rfl) | (symm; rw [decide_eq_true_eq]; rw [← List.take_of_length_le (l := x) (i := k) (by omega), hs, List.take_of_length_le (by omega)]))⟩, trivial⟩, trivial, trivial, rfl⟩⟩

set_option maxHeartbeats 4000000 in
theorem getS_c (b : List Int) (z n : Int) (h0 : 0 ≤ z) (hz : z ≤ 1000000000) (h1 : 1 ≤ n) (h2 : n ≤ 6) : AC Try.prog 72 [.one (.sl (intE .u8) b), .one (.c (.int .i64 z)), .one (.c (.int .i64 n))] [] (.tup [.one (.c (.int .i64 (getS b z n))), .one (.c (.bool (decide (z + n ≤ (b.length : Int)))))]) [] := by
  refine AC_body2 Try.func72 rfl rfl Try.ntmps72 rfl Try.results72 rfl rfl rfl ?_
  refine AW_slbyte 0 rfl (fun hy0 => ?_)
  refine AW_slmax 0 rfl (fun hm0 => ?_)
  refine AW_seq ?_
  refine AW_region ?_
  refine AL_p (x_assign rfl rfl) ?_
  refine AL_p (x_assign rfl rfl) ?_
  refine AL_nil ?_
  refine AW_seq ?_
  refine AW_seq ?_
  refine AW_region ?_
  refine AL_p (x_move rfl rfl) ?_
  refine AL_b (x_lss rfl rfl rfl) (fun b11 h11 => ?_)
  refine AL_p (x_move rfl rfl) ?_
  cases b11
  rotate_left
  · exfalso; simp at h11; omega
  · try simp only [decide_eq_true_eq, decide_eq_false_iff_not, Bool.not_eq_true, Bool.not_eq_false, Bool.not_eq_true', Bool.not_eq_false', beq_iff_eq, bne_iff_ne, beq_eq_false_iff_ne, bne_eq_false_iff_eq, Int.not_lt, Int.not_le, ge_iff_le, gt_iff_lt] at h11
    refine AL_g rfl rfl (x_move rfl rfl) ?_
    refine AL_gb rfl rfl (x_gtr rfl rfl rfl) (fun b14 h14 => ?_)
    refine AL_p (x_pickF rfl rfl rfl) ?_
    refine AL_p (x_move rfl rfl) ?_
    cases b14
    rotate_left
    · exfalso; simp at h14; omega
    · try simp only [decide_eq_true_eq, decide_eq_false_iff_not, Bool.not_eq_true, Bool.not_eq_false, Bool.not_eq_true', Bool.not_eq_false', beq_iff_eq, bne_iff_ne, beq_eq_false_iff_ne, bne_eq_false_iff_eq, Int.not_lt, Int.not_le, ge_iff_le, gt_iff_lt] at h14
      refine AL_g rfl rfl (x_move rfl rfl) ?_
      refine AL_gb rfl rfl (x_lss rfl rfl rfl) (fun b18 h18 => ?_)
      refine AL_p (x_pickF rfl rfl rfl) ?_
      refine AL_p (x_move rfl rfl) ?_
      cases b18
      rotate_left
      · exfalso; simp at h18; omega
      · try simp only [decide_eq_true_eq, decide_eq_false_iff_not, Bool.not_eq_true, Bool.not_eq_false, Bool.not_eq_true', Bool.not_eq_false', beq_iff_eq, bne_iff_ne, beq_eq_false_iff_ne, bne_eq_false_iff_eq, Int.not_lt, Int.not_le, ge_iff_le, gt_iff_lt] at h18
        refine AL_g rfl rfl (x_move rfl rfl) ?_
        refine AL_g rfl rfl (x_move rfl rfl) ?_
        refine AL_g rfl rfl (x_len (E := 5) (n := 1) rfl rfl (by kernel_rfl)) ?_
        refine AL_g rfl rfl (x_move rfl rfl) ?_
        refine AL_g rfl rfl (x_sub rfl rfl rfl (IntWalk.i64_in _ (by omega))) ?_
        refine AL_gb rfl rfl (x_gtr rfl rfl rfl) (fun b26 h26 => ?_)
        refine AL_p (x_pickF rfl rfl rfl) ?_
        refine AL_nil ?_
        cases b26
        rotate_left
        · try simp only [decide_eq_true_eq, decide_eq_false_iff_not, Bool.not_eq_true, Bool.not_eq_false, Bool.not_eq_true', Bool.not_eq_false', beq_iff_eq, bne_iff_ne, beq_eq_false_iff_ne, bne_eq_false_iff_eq, Int.not_lt, Int.not_le, ge_iff_le, gt_iff_lt] at h26
          have hno : getS b z n = 0 := if_neg (by omega)
          refine AW_condT rfl ?_
          refine AW_seq ?_
          refine AW_region ?_
          refine AL_p (x_assign rfl rfl) ?_
          refine AL_p (x_assign rfl rfl) ?_
          refine AL_nil ?_
          refine AW_ret ?_
          exact ⟨rn [], ⟨⟨⟨_, rfl, vle_int (by rw [hno]; first | done | rw [List.take_of_length_le (by omega)])⟩, ⟨_, rfl, vle_bool (by symm; first | (rw [decide_eq_true_eq]; omega) | (rw [decide_eq_false_iff_not]; omega))⟩, trivial⟩, trivial, trivial, rfl⟩⟩
        · try simp only [decide_eq_true_eq, decide_eq_false_iff_not, Bool.not_eq_true, Bool.not_eq_false, Bool.not_eq_true', Bool.not_eq_false', beq_iff_eq, bne_iff_ne, beq_eq_false_iff_ne, bne_eq_false_iff_eq, Int.not_lt, Int.not_le, ge_iff_le, gt_iff_lt] at h26
          have hno : getS b z n = bign ((b.drop z.toNat).take n.toNat) := if_pos (by omega)
          have hlen : ((b.drop z.toNat).take n.toNat).length = n.toNat := by simp; omega
          refine AW_condF rfl ?_
          refine AW_skip ?_
          refine AW_seq ?_
          refine AW_region ?_
          refine AL_p (x_assign rfl rfl) ?_
          refine AL_nil ?_
          refine AW_seq ?_
          refine AW_seq ?_
          refine AW_region ?_
          refine AL_p (x_assign rfl rfl) ?_
          refine AL_nil ?_
          refine AW_block ?_
          refine AW_loop2 (ι := {q : Nat // (q : Int) ≤ n}) (fun p => [(8, .one (.c (.int .i64 (bign (((b.drop z.toNat).take n.toNat).take (p.1)))))), (9, .one (.c (.int .i64 ((p.1) : Int))))]) (fun p => []) [0, 1, 2] [] (fun p => n.toNat - (p.1)) ⟨0, by omega⟩ (rn []) ?_ ?_
          exact ⟨by (repeat refine ⟨⟨_, rfl, by first | exact VLe.rf | exact vle_int (by dsimp only; omega)⟩, ?_⟩); exact trivial, by (repeat refine ⟨⟨_, rfl, by first | exact BLe.rf | exact BLe.box AllC.rf | exact BLe.arr (by exact rfl)⟩, ?_⟩); exact trivial, by repeat (first | exact trivial | refine ⟨⟨rfl, by first | (left; intro h; cases h) | (right; rfl), fun _ h => ⟨_, h⟩⟩, ?_⟩), rfl⟩
          rintro ⟨k, hinv⟩
          dsimp only
          have hk := hinv
          have hnb := bign_le (l := ((b.drop z.toNat).take n.toNat).take k) (n := 6) (by simp; omega) (by omega)
          refine AW_seq ?_
          refine AW_seq ?_
          refine AW_region ?_
          refine AL_p (x_move rfl rfl) ?_
          refine AL_p (x_move rfl rfl) ?_
          refine AL_b (x_lss rfl rfl rfl) (fun b30 h30 => ?_)
          refine AL_nil ?_
          cases b30
          rotate_left
          · try simp only [decide_eq_true_eq, decide_eq_false_iff_not, Bool.not_eq_true, Bool.not_eq_false, Bool.not_eq_true', Bool.not_eq_false', beq_iff_eq, bne_iff_ne, beq_eq_false_iff_ne, bne_eq_false_iff_eq, Int.not_lt, Int.not_le, ge_iff_le, gt_iff_lt] at h30
            have hat : ((b.drop z.toNat).take n.toNat)[k]'(by omega) = b[(z + (k : Int)).toNat]'(by omega) := by simp only [List.getElem_take, List.getElem_drop]; congr 1; omega
            have hx := hy0 _ (List.getElem_mem (l := b) (n := (z + (k : Int)).toNat) (by omega))
            have hs := bign_next (l := (b.drop z.toNat).take n.toNat) (k := k) (by omega) (by rw [hat]; exact hx)
            rw [hat] at hs
            refine AW_condT rfl ?_
            refine AW_skip ?_
            refine AW_seq ?_
            refine AW_block ?_
            refine AW_region ?_
            refine AL_p (x_move rfl rfl) ?_
            refine AL_p (x_mul rfl rfl rfl (IntWalk.i64_in _ (by omega))) ?_
            refine AL_p (x_move rfl rfl) ?_
            refine AL_p (x_move rfl rfl) ?_
            refine AL_p (x_move rfl rfl) ?_
            refine AL_p (x_add rfl rfl rfl (IntWalk.i64_in _ (by omega))) ?_
            refine AL_p (x_index (E := 5) (n := 1) rfl rfl rfl (by kernel_rfl) rfl (k := (z + (k : Int)).toNat) (by omega) (by omega)) ?_
            refine AL_p (x_eload1 rfl rfl (by kernel_rfl) rfl) ?_
            refine AL_p (x_conv (k' := .i64) rfl rfl (by kernel_rfl) (IntWalk.i64_in _ (by omega))) ?_
            refine AL_p (x_add rfl rfl rfl (IntWalk.i64_in _ (by omega))) ?_
            refine AL_p (x_assign rfl rfl) ?_
            refine AL_nil ?_
            refine AW_region ?_
            refine AL_p (x_move rfl rfl) ?_
            refine AL_p (x_add rfl rfl rfl (IntWalk.i64_in _ (by omega))) ?_
            refine AL_p (x_assign rfl rfl) ?_
            refine AL_nil ?_
            refine ⟨⟨k + 1, by omega⟩, rn [], ?_, by dsimp only; omega⟩
            exact ⟨by (repeat refine ⟨⟨_, rfl, by first | exact VLe.rf | exact vle_int (by dsimp only; omega)⟩, ?_⟩); exact trivial, by (repeat refine ⟨⟨_, rfl, by first | exact BLe.rf | exact BLe.box AllC.rf | exact BLe.arr (by exact rfl)⟩, ?_⟩); exact trivial, by repeat (first | exact trivial | refine ⟨⟨rfl, by first | (left; intro h; cases h) | (right; rfl), fun _ h => ⟨_, h⟩⟩, ?_⟩), rfl⟩
          · try simp only [decide_eq_true_eq, decide_eq_false_iff_not, Bool.not_eq_true, Bool.not_eq_false, Bool.not_eq_true', Bool.not_eq_false', beq_iff_eq, bne_iff_ne, beq_eq_false_iff_ne, bne_eq_false_iff_eq, Int.not_lt, Int.not_le, ge_iff_le, gt_iff_lt] at h30
            refine AW_condF rfl ?_
            refine AW_exit (BQ_hit ?_)
            refine AW_seq ?_
            refine AW_region ?_
            refine AL_p (x_move rfl rfl) ?_
            refine AL_p (x_assign rfl rfl) ?_
            refine AL_p (x_assign rfl rfl) ?_
            refine AL_nil ?_
            refine AW_ret ?_
            exact ⟨rn [], ⟨⟨⟨_, rfl, vle_int (by rw [hno]; first | done | rw [List.take_of_length_le (by omega)])⟩, ⟨_, rfl, vle_bool (by symm; first | (rw [decide_eq_true_eq]; omega) | (rw [decide_eq_false_iff_not]; omega))⟩, trivial⟩, trivial, trivial, rfl⟩⟩

set_option maxHeartbeats 4000000 in
theorem same8_c (x y : List Int) : AC Try.prog 73 [.one (.sl (intE .u8) x), .one (.sl (intE .u8) y)] [] (.one (.c (.bool (decide (x = y))))) [] := by
  refine AC_body1 Try.func73 rfl rfl Try.ntmps73 rfl Try.results73 ?_
  refine AW_slbyte 0 rfl (fun hy0 => ?_)
  refine AW_slbyte 1 rfl (fun hy1 => ?_)
  refine AW_seq ?_
  refine AW_region ?_
  refine AL_p (x_assign rfl rfl) ?_
  refine AL_nil ?_
  refine AW_seq ?_
  refine AW_region ?_
  refine AL_p (x_move rfl rfl) ?_
  refine AL_p (x_tostr (E := 5) rfl rfl (by kernel_rfl)) ?_
  refine AL_p (x_move rfl rfl) ?_
  refine AL_p (x_tostr (E := 5) rfl rfl (by kernel_rfl)) ?_
  refine AL_b (x_seql rfl rfl rfl) (fun b9 h9 => ?_)
  refine AL_p (x_assign rfl rfl) ?_
  refine AL_nil ?_
  refine AW_ret ?_
  cases b9
  rotate_left
  · try simp only [decide_eq_true_eq, decide_eq_false_iff_not, Bool.not_eq_true, Bool.not_eq_false, Bool.not_eq_true', Bool.not_eq_false', beq_iff_eq, bne_iff_ne, beq_eq_false_iff_ne, bne_eq_false_iff_eq, Int.not_lt, Int.not_le, ge_iff_le, gt_iff_lt] at h9
    exact ⟨rn [], ⟨⟨⟨_, rfl, vle_bool (by rw [← bytesStr_beq hy0 hy1]; first | rfl | assumption | (symm; assumption) | (simp [*]))⟩, trivial⟩, trivial, trivial, rfl⟩⟩
  · try simp only [decide_eq_true_eq, decide_eq_false_iff_not, Bool.not_eq_true, Bool.not_eq_false, Bool.not_eq_true', Bool.not_eq_false', beq_iff_eq, bne_iff_ne, beq_eq_false_iff_ne, bne_eq_false_iff_eq, Int.not_lt, Int.not_le, ge_iff_le, gt_iff_lt] at h9
    exact ⟨rn [], ⟨⟨⟨_, rfl, vle_bool (by rw [← bytesStr_beq hy0 hy1]; first | rfl | assumption | (symm; assumption) | (simp [*]))⟩, trivial⟩, trivial, trivial, rfl⟩⟩

set_option maxHeartbeats 4000000 in
theorem wordS_c (b : List Int) (z n : Int) (h0 : 0 ≤ z) (hz : z ≤ 1000000000) (h1 : 0 ≤ n) (h2 : n ≤ 1000000000) : AC Try.prog 71 [.one (.sl (intE .u8) b), .one (.c (.int .i64 z)), .one (.c (.int .i64 n))] [] (.one (.c (.string (wordS b z n)))) [] := by
  refine AC_body1 Try.func71 rfl rfl Try.ntmps71 rfl Try.results71 ?_
  refine AW_slmax 0 rfl (fun hm0 => ?_)
  refine AW_seq ?_
  refine AW_region ?_
  refine AL_p (x_assign rfl rfl) ?_
  refine AL_nil ?_
  refine AW_seq ?_
  refine AW_seq ?_
  refine AW_region ?_
  refine AL_p (x_move rfl rfl) ?_
  refine AL_p (x_move rfl rfl) ?_
  refine AL_p (x_len (E := 5) (n := 1) rfl rfl (by kernel_rfl)) ?_
  refine AL_p (x_move rfl rfl) ?_
  refine AL_p (x_sub rfl rfl rfl (IntWalk.i64_in _ (by omega))) ?_
  refine AL_b (x_gtr rfl rfl rfl) (fun b12 h12 => ?_)
  refine AL_nil ?_
  cases b12
  rotate_left
  · try simp only [decide_eq_true_eq, decide_eq_false_iff_not, Bool.not_eq_true, Bool.not_eq_false, Bool.not_eq_true', Bool.not_eq_false', beq_iff_eq, bne_iff_ne, beq_eq_false_iff_ne, bne_eq_false_iff_eq, Int.not_lt, Int.not_le, ge_iff_le, gt_iff_lt] at h12
    have hno : wordS b z n = ⟨#[]⟩ := if_neg (by omega)
    refine AW_condT rfl ?_
    refine AW_seq ?_
    refine AW_region ?_
    refine AL_p (x_assign rfl rfl) ?_
    refine AL_nil ?_
    refine AW_ret ?_
    exact ⟨rn [], ⟨⟨⟨_, rfl, vle_str (by rw [hno])⟩, trivial⟩, trivial, trivial, rfl⟩⟩
  · try simp only [decide_eq_true_eq, decide_eq_false_iff_not, Bool.not_eq_true, Bool.not_eq_false, Bool.not_eq_true', Bool.not_eq_false', beq_iff_eq, bne_iff_ne, beq_eq_false_iff_ne, bne_eq_false_iff_eq, Int.not_lt, Int.not_le, ge_iff_le, gt_iff_lt] at h12
    have hno : wordS b z n = bytesStr ((b.drop z.toNat).take n.toNat) := if_pos (by omega)
    refine AW_condF rfl ?_
    refine AW_skip ?_
    refine AW_seq ?_
    refine AW_region ?_
    refine AL_p (x_move rfl rfl) ?_
    refine AL_p (x_move rfl rfl) ?_
    refine AL_p (x_move rfl rfl) ?_
    refine AL_p (x_move rfl rfl) ?_
    refine AL_p (x_add rfl rfl rfl (IntWalk.i64_in _ (by omega))) ?_
    refine AL_p (x_slice (E := 5) (n := 1) rfl rfl (by kernel_rfl) rfl (.yes (l := z.toNat) rfl (by omega)) (.yes (l := (z.toNat + n.toNat)) rfl (by omega)) (by omega) (by first | exact Nat.le_refl _ | omega) (by rw [Nat.add_sub_cancel_left])) ?_
    refine AL_p (x_tostr (E := 5) rfl rfl (by kernel_rfl)) ?_
    refine AL_p (x_assign rfl rfl) ?_
    refine AL_nil ?_
    refine AW_ret ?_
    exact ⟨rn [], ⟨⟨⟨_, rfl, vle_str (by rw [hno])⟩, trivial⟩, trivial, trivial, rfl⟩⟩

set_option maxHeartbeats 4000000 in
theorem storeReadI_c0 (b : List Int) : AC Try.prog 31 [.one (.sl (intE .u8) b)] [] (.tup [.agg [.own 0], .one (.c (.bool (storeRead b).2))]) [(0, some (.arr 89 namedE (storeRead b).1.rels true))] := by
  have ht1 := takeI_in (xs := b) (n := 1) (by omega)
  refine AC_bodyCT (n := 1) (k := 9) (T := [(2, .one (.ptr 9 0)), (3, .one (.c (.bool (storeRead b).2)))]) (Lf := ((9, some (.box [.own 0])) :: [(0, some (.arr 89 namedE (storeRead b).1.rels true))])) Try.func31 rfl rfl Try.ntmps31 rfl Try.results31 rfl rfl rfl rfl (by kernel_rfl) rfl rfl ⟨trivial, (by repeat (first | exact trivial | refine ⟨⟨_, rfl, BLe.rf⟩, ?_⟩)), (by repeat (first | exact trivial | refine ⟨⟨rfl, by first | (left; intro h; cases h) | (right; rfl), by first | exact (fun _ h => ⟨_, h⟩) | exact (fun _ _ => ⟨_, rfl⟩)⟩, ?_⟩)), rfl⟩ ?_
  refine AW_seq ?_
  refine AW_region ?_
  refine AL_p (x_alloc (z := .agg #[.slice none 0 0]) 100 rfl (by kernel_rfl) rfl rfl rfl rfl) ?_
  refine AL_p (x_assign rfl rfl) ?_
  refine AL_nil ?_
  refine AW_seq ?_
  refine AW_region ?_
  refine AL_p (x_move rfl rfl) ?_
  refine AL_p (x_alloc (z := .slice none 0 0) 200 rfl (by kernel_rfl) rfl rfl rfl rfl) ?_
  refine AL_p (x_store (n := 1) rfl rfl rfl rfl (by kernel_rfl) rfl rfl rfl) ?_
  refine AL_nil ?_
  refine AW_seq ?_
  refine AW_region ?_
  refine AL_p (x_build (zs := [.slice none 0 0]) (places := [(0, 1)]) rfl (by kernel_rfl) rfl rfl rfl rfl rfl) ?_
  refine AL_p (x_alloc (z := .agg #[.slice none 0 0]) 101 rfl (by kernel_rfl) rfl rfl rfl rfl) ?_
  refine AL_p (x_store (n := 1) rfl rfl rfl rfl (by kernel_rfl) rfl rfl rfl) ?_
  refine AL_nil ?_
  refine AW_seq ?_
  refine AW_region ?_
  refine AL_p (x_call (ks := []) (L := [(200, some _)]) (L' := [(200, some _)]) rfl rfl rfl (takeI_c b 1 (by omega) (by omega)) rfl AllV.rf (caught_of rfl) rfl rfl rfl ⟨rfl, trivial⟩ rfl) ?_
  refine AL_p (x_assign rfl rfl) ?_
  refine AL_nil ?_
  refine AW_seq ?_
  refine AW_seq ?_
  refine AW_region ?_
  refine AL_p (x_move rfl rfl) ?_
  refine AL_p (x_min rfl rfl rfl (r := min (takeI b 1).1 24) (by show (if (24 : Int) < (takeI b 1).1 then 24 else (takeI b 1).1) = _; omega) (wf64i (by omega) (by omega))) ?_
  refine AL_p (x_move rfl rfl) ?_
  refine AL_nil ?_
  refine AW_block ?_
  refine AW_adopt (T := 89) (e := namedE) 102 101 0 rfl rfl rfl rfl rfl ?_
  refine AW_loop2 (ι := {q : Nat // q ≤ (min (takeI b 1).1 24).toNat}) (fun p => [(19, .one (.c (.int .i64 ((p.1) : Int))))]) (fun p => [(102, some (.arr 89 namedE (iterG namedI (p.1) (takeI b 1).2).1 true)), (200, some (.box [.sl (intE .u8) (iterG namedI (p.1) (takeI b 1).2).2]))]) [0, 2, 4, 5, 18] [100, 101] (fun p => (min (takeI b 1).1 24).toNat - (p.1)) ⟨0, by omega⟩ (rn []) ?_ ?_
  exact ⟨by (repeat refine ⟨⟨_, rfl, by first | exact VLe.rf | exact vle_int (by dsimp only; omega)⟩, ?_⟩); exact trivial, by (repeat refine ⟨⟨_, rfl, by first | exact BLe.rf | exact BLe.box AllC.rf | exact BLe.arr (by exact rfl)⟩, ?_⟩); exact trivial, by repeat (first | exact trivial | refine ⟨⟨rfl, by first | (left; intro h; cases h) | (right; rfl), fun _ h => ⟨_, h⟩⟩, ?_⟩), rfl⟩
  rintro ⟨k, hinv⟩
  dsimp only
  have hk := hinv
  refine AW_seq ?_
  refine AW_region ?_
  refine AL_b (x_lss rfl rfl rfl) (fun b20 h20 => ?_)
  refine AL_nil ?_
  refine AW_seq ?_
  cases b20
  rotate_left
  · try simp only [decide_eq_true_eq, decide_eq_false_iff_not, Bool.not_eq_true, Bool.not_eq_false, Bool.not_eq_true', Bool.not_eq_false', beq_iff_eq, bne_iff_ne, beq_eq_false_iff_ne, bne_eq_false_iff_eq, Int.not_lt, Int.not_le, ge_iff_le, gt_iff_lt] at h20
    have hA : 0 ≤ (nmA (iterG namedI k (takeI b 1).2).2).1 ∧ (nmA (iterG namedI k (takeI b 1).2).2).1 < 281474976710656 := takeI_in (by omega)
    have hC : 0 ≤ (nmC (iterG namedI k (takeI b 1).2).2).1 ∧ (nmC (iterG namedI k (takeI b 1).2).2).1 < 281474976710656 := takeI_in (by omega)
    have hD : 0 ≤ (nmD (iterG namedI k (takeI b 1).2).2).1 ∧ (nmD (iterG namedI k (takeI b 1).2).2).1 < 281474976710656 := takeI_in (by omega)
    refine AW_condT rfl ?_
    refine AW_skip ?_
    refine AW_seq ?_
    refine AW_block ?_
    refine AW_seq ?_
    refine AW_region ?_
    refine AL_p (x_call (ks := []) (L := [(200, some _)]) (L' := [(200, some _)]) rfl rfl rfl (takeI_c (iterG namedI k (takeI b 1).2).2 1 (by omega) (by omega)) rfl AllV.rf (caught_of rfl) rfl rfl rfl ⟨rfl, trivial⟩ rfl) ?_
    refine AL_p (x_assign rfl rfl) ?_
    refine AL_nil ?_
    refine AW_seq ?_
    refine AW_region ?_
    refine AL_p (x_move rfl rfl) ?_
    refine AL_p (x_call (ks := []) (L := [(200, some _)]) (L' := [(200, some _)]) rfl rfl rfl (wordI_c (nmA (iterG namedI k (takeI b 1).2).2).2 (nmA (iterG namedI k (takeI b 1).2).2).1 hA.1) rfl AllV.rf (caught_of rfl) rfl rfl rfl ⟨rfl, trivial⟩ rfl) ?_
    refine AL_p (x_build (zs := [.string ⟨#[]⟩, .int .i64 0, .slice none 0 0]) (places := [(0, 1), (1, 2)]) rfl (by kernel_rfl) rfl rfl rfl rfl rfl) ?_
    refine AL_p (x_alloc (z := .agg #[.string ⟨#[]⟩, .int .i64 0, .slice none 0 0]) 103 rfl (by kernel_rfl) rfl rfl rfl rfl) ?_
    refine AL_p (x_store (n := 3) rfl rfl rfl rfl (by kernel_rfl) rfl rfl rfl) ?_
    refine AL_nil ?_
    refine AW_seq ?_
    refine AW_region ?_
    refine AL_p (x_call (ks := []) (L := [(200, some _)]) (L' := [(200, some _)]) rfl rfl rfl (takeI_c (nmB (iterG namedI k (takeI b 1).2).2).2 1 (by omega) (by omega)) rfl AllV.rf (caught_of rfl) rfl rfl rfl ⟨rfl, trivial⟩ rfl) ?_
    refine AL_p (x_field (off := 1) (o' := 1) rfl rfl rfl (by kernel_rfl) rfl) ?_
    refine AL_p (x_field (off := 0) (o' := 1) rfl rfl rfl (by kernel_rfl) rfl) ?_
    refine AL_p (x_store (n := 1) rfl rfl rfl rfl (by kernel_rfl) rfl rfl rfl) ?_
    refine AL_nil ?_
    refine AW_seq ?_
    refine AW_region ?_
    refine AL_p (x_call (ks := []) (L := [(200, some _)]) (L' := [(200, some _)]) rfl rfl rfl (takeI_c (nmC (iterG namedI k (takeI b 1).2).2).2 2 (by omega) (by omega)) rfl AllV.rf (caught_of rfl) rfl rfl rfl ⟨rfl, trivial⟩ rfl) ?_
    refine AL_p (x_assign rfl rfl) ?_
    refine AL_nil ?_
    refine AW_seq ?_
    refine AW_seq ?_
    refine AW_region ?_
    refine AL_p (x_move rfl rfl) ?_
    refine AL_p (x_min rfl rfl rfl (r := min (nmD (iterG namedI k (takeI b 1).2).2).1 300) (by show (if (300 : Int) < (nmD (iterG namedI k (takeI b 1).2).2).1 then 300 else (nmD (iterG namedI k (takeI b 1).2).2).1) = _; omega) (wf64i (by omega) (by omega))) ?_
    refine AL_p (x_move rfl rfl) ?_
    refine AL_nil ?_
    refine AW_block ?_
    refine AW_adopt (T := 92) (e := rowE) 104 103 2 rfl rfl rfl rfl rfl ?_
    refine AW_loop2 (ι := {q : Nat // q ≤ (min (nmD (iterG namedI k (takeI b 1).2).2).1 300).toNat}) (fun p => [(31, .one (.c (.int .i64 ((p.1) : Int))))]) (fun p => [(104, some (.arr 92 rowE (iterG (rowI (min (nmC (iterG namedI k (takeI b 1).2).2).1 6).toNat) (p.1) (nmD (iterG namedI k (takeI b 1).2).2).2).1 true)), (200, some (.box [.sl (intE .u8) (iterG (rowI (min (nmC (iterG namedI k (takeI b 1).2).2).1 6).toNat) (p.1) (nmD (iterG namedI k (takeI b 1).2).2).2).2]))]) [0, 2, 4, 5, 8, 18, 19, 30] [100, 101, 102, 103] (fun p => (min (nmD (iterG namedI k (takeI b 1).2).2).1 300).toNat - (p.1)) ⟨0, by omega⟩ (rn []) ?_ ?_
    exact ⟨by (repeat refine ⟨⟨_, rfl, by first | exact VLe.rf | exact vle_int (by dsimp only; omega)⟩, ?_⟩); exact trivial, by (repeat refine ⟨⟨_, rfl, by first | exact BLe.rf | exact BLe.box AllC.rf | exact BLe.arr (by exact rfl)⟩, ?_⟩); exact trivial, by repeat (first | exact trivial | refine ⟨⟨rfl, by first | (left; intro h; cases h) | (right; rfl), fun _ h => ⟨_, h⟩⟩, ?_⟩), rfl⟩
    rintro ⟨j, hinv⟩
    dsimp only
    have hj := hinv
    refine AW_seq ?_
    refine AW_region ?_
    refine AL_b (x_lss rfl rfl rfl) (fun b32 h32 => ?_)
    refine AL_nil ?_
    refine AW_seq ?_
    cases b32
    rotate_left
    · try simp only [decide_eq_true_eq, decide_eq_false_iff_not, Bool.not_eq_true, Bool.not_eq_false, Bool.not_eq_true', Bool.not_eq_false', beq_iff_eq, bne_iff_ne, beq_eq_false_iff_ne, bne_eq_false_iff_eq, Int.not_lt, Int.not_le, ge_iff_le, gt_iff_lt] at h32
      refine AW_condT rfl ?_
      refine AW_skip ?_
      refine AW_seq ?_
      refine AW_block ?_
      refine AW_seq ?_
      refine AW_region ?_
      refine AL_p (x_build (zs := [.slice none 0 0]) (places := [(0, 1)]) rfl (by kernel_rfl) rfl rfl rfl rfl rfl) ?_
      refine AL_p (x_alloc (z := .agg #[.slice none 0 0]) 105 rfl (by kernel_rfl) rfl rfl rfl rfl) ?_
      refine AL_p (x_store (n := 1) rfl rfl rfl rfl (by kernel_rfl) rfl rfl rfl) ?_
      refine AL_nil ?_
      refine AW_seq ?_
      refine AW_seq ?_
      refine AW_region ?_
      refine AL_p (x_field (off := 1) (o' := 1) rfl rfl rfl (by kernel_rfl) rfl) ?_
      refine AL_p (x_field (off := 0) (o' := 1) rfl rfl rfl (by kernel_rfl) rfl) ?_
      refine AL_p (x_load1 rfl rfl rfl (by kernel_rfl) rfl) ?_
      refine AL_p (x_min rfl rfl rfl (r := min (nmC (iterG namedI k (takeI b 1).2).2).1 6) (by show (if (6 : Int) < (nmC (iterG namedI k (takeI b 1).2).2).1 then 6 else (nmC (iterG namedI k (takeI b 1).2).2).1) = _; omega) (wf64i (by omega) (by omega))) ?_
      refine AL_p (x_move rfl rfl) ?_
      refine AL_nil ?_
      refine AW_block ?_
      refine AW_adopt (T := 94) (e := valE) 106 105 0 rfl rfl rfl rfl rfl ?_
      refine AW_loop2 (ι := {q : Nat // q ≤ (min (nmC (iterG namedI k (takeI b 1).2).2).1 6).toNat}) (fun p => [(38, .one (.c (.int .i64 ((p.1) : Int))))]) (fun p => [(106, some (.arr 94 valE (iterG valI (p.1) (iterG (rowI (min (nmC (iterG namedI k (takeI b 1).2).2).1 6).toNat) j (nmD (iterG namedI k (takeI b 1).2).2).2).2).1 true)), (200, some (.box [.sl (intE .u8) (iterG valI (p.1) (iterG (rowI (min (nmC (iterG namedI k (takeI b 1).2).2).1 6).toNat) j (nmD (iterG namedI k (takeI b 1).2).2).2).2).2]))]) [0, 2, 4, 5, 8, 10, 18, 19, 30, 31, 37] [100, 101, 102, 103, 104, 105] (fun p => (min (nmC (iterG namedI k (takeI b 1).2).2).1 6).toNat - (p.1)) ⟨0, by omega⟩ (rn []) ?_ ?_
      exact ⟨by (repeat refine ⟨⟨_, rfl, by first | exact VLe.rf | exact vle_int (by dsimp only; omega)⟩, ?_⟩); exact trivial, by (repeat refine ⟨⟨_, rfl, by first | exact BLe.rf | exact BLe.box AllC.rf | exact BLe.arr (by exact rfl)⟩, ?_⟩); exact trivial, by repeat (first | exact trivial | refine ⟨⟨rfl, by first | (left; intro h; cases h) | (right; rfl), fun _ h => ⟨_, h⟩⟩, ?_⟩), rfl⟩
      rintro ⟨i, hinv⟩
      dsimp only
      have hi := hinv
      refine AW_seq ?_
      refine AW_region ?_
      refine AL_b (x_lss rfl rfl rfl) (fun b39 h39 => ?_)
      refine AL_nil ?_
      refine AW_seq ?_
      cases b39
      rotate_left
      · try simp only [decide_eq_true_eq, decide_eq_false_iff_not, Bool.not_eq_true, Bool.not_eq_false, Bool.not_eq_true', Bool.not_eq_false', beq_iff_eq, bne_iff_ne, beq_eq_false_iff_ne, bne_eq_false_iff_eq, Int.not_lt, Int.not_le, ge_iff_le, gt_iff_lt] at h39
        refine AW_condT rfl ?_
        refine AW_skip ?_
        refine AW_seq ?_
        refine AW_block ?_
        refine AW_seq ?_
        refine AW_region ?_
        refine AL_p (x_call (ks := []) (L := [(200, some _)]) (L' := [(200, some _)]) rfl rfl rfl (valI_c (iterG valI i (iterG (rowI (min (nmC (iterG namedI k (takeI b 1).2).2).1 6).toNat) j (nmD (iterG namedI k (takeI b 1).2).2).2).2).2) rfl AllV.rf (caught_of rfl) rfl rfl rfl ⟨rfl, trivial⟩ rfl) ?_
        refine AL_p (x_alloc (z := .agg #[.int .i64 0, .string ⟨#[]⟩]) 107 rfl (by kernel_rfl) rfl rfl rfl rfl) ?_
        refine AL_p (x_store (n := 2) rfl rfl rfl rfl (by kernel_rfl) rfl rfl rfl) ?_
        refine AL_nil ?_
        refine AW_region ?_
        refine AL_p (x_field (off := 0) (o' := 0) rfl rfl rfl (by kernel_rfl) rfl) ?_
        refine AL_p (x_load1 rfl rfl rfl (by kernel_rfl) rfl) ?_
        refine AL_p (x_loadN (n := 2) rfl rfl rfl (by kernel_rfl) rfl rfl) ?_
        refine AL_p (y_bslice (E := 94) (e := valE) [.tmp 43] ([(valI (iterG valI i (iterG (rowI (min (nmC (iterG namedI k (takeI b 1).2).2).1 6).toNat) j (nmD (iterG namedI k (takeI b 1).2).2).2).2).2).1]) 108 rfl rfl rfl rfl rfl rfl rfl rfl FitL.rf rfl rfl rfl rfl rfl rfl (by kernel_rfl)) ?_
        refine AL_p (y_append 109 rfl rfl rfl rfl rfl rfl rfl rfl (by kernel_rfl) (by simp only [iterG_len, List.length_cons, List.length_nil]; omega)) ?_
        refine AL_p (x_field (off := 0) (o' := 0) rfl rfl rfl (by kernel_rfl) rfl) ?_
        refine AL_p (x_store (n := 1) rfl rfl rfl rfl (by kernel_rfl) rfl rfl rfl) ?_
        refine AL_nil ?_
        refine AW_region ?_
        refine AL_p (x_add rfl rfl rfl (IntWalk.i64_in _ (by omega))) ?_
        refine AL_p (x_move rfl rfl) ?_
        refine AL_nil ?_
        refine ⟨⟨i + 1, by omega⟩, rn [(106, 109)], ?_, by dsimp only; omega⟩
        exact ⟨by (repeat refine ⟨⟨_, rfl, by first | exact VLe.rf | exact vle_int (by dsimp only; omega)⟩, ?_⟩); exact trivial, by (repeat refine ⟨⟨_, rfl, by first | exact BLe.rf | exact BLe.box AllC.rf | exact BLe.arr (by exact rfl)⟩, ?_⟩); exact trivial, by repeat (first | exact trivial | refine ⟨⟨rfl, by first | (left; intro h; cases h) | (right; rfl), fun _ h => ⟨_, h⟩⟩, ?_⟩), rfl⟩
      · try simp only [decide_eq_true_eq, decide_eq_false_iff_not, Bool.not_eq_true, Bool.not_eq_false, Bool.not_eq_true', Bool.not_eq_false', beq_iff_eq, bne_iff_ne, beq_eq_false_iff_ne, bne_eq_false_iff_eq, Int.not_lt, Int.not_le, ge_iff_le, gt_iff_lt] at h39
        obtain rfl : i = (min (nmC (iterG namedI k (takeI b 1).2).2).1 6).toNat := by omega
        refine AW_condF rfl ?_
        refine AW_exit (BQ_hit ?_)
        refine AW_region ?_
        refine AL_p (x_field (off := 1) (o' := 1) rfl rfl rfl (by kernel_rfl) rfl) ?_
        refine AL_p (x_field (off := 1) (o' := 2) rfl rfl rfl (by kernel_rfl) rfl) ?_
        refine AL_p (x_load1 rfl rfl rfl (by kernel_rfl) rfl) ?_
        refine AL_p (x_loadN (n := 1) rfl rfl rfl (by kernel_rfl) rfl rfl) ?_
        refine AL_p (y_bslice (E := 92) (e := rowE) [.tmp 51] ([(rowI (min (nmC (iterG namedI k (takeI b 1).2).2).1 6).toNat (iterG (rowI (min (nmC (iterG namedI k (takeI b 1).2).2).1 6).toNat) j (nmD (iterG namedI k (takeI b 1).2).2).2).2).1]) 110 rfl rfl rfl rfl rfl rfl rfl rfl FitL.rf rfl rfl rfl rfl rfl rfl (by kernel_rfl)) ?_
        refine AL_p (y_append 111 rfl rfl rfl rfl rfl rfl rfl rfl (by kernel_rfl) (by simp only [iterG_len, List.length_cons, List.length_nil]; omega)) ?_
        refine AL_p (x_field (off := 1) (o' := 1) rfl rfl rfl (by kernel_rfl) rfl) ?_
        refine AL_p (x_field (off := 1) (o' := 2) rfl rfl rfl (by kernel_rfl) rfl) ?_
        refine AL_p (x_store (n := 1) rfl rfl rfl rfl (by kernel_rfl) rfl rfl rfl) ?_
        refine AL_nil ?_
        refine AW_region ?_
        refine AL_p (x_add rfl rfl rfl (IntWalk.i64_in _ (by omega))) ?_
        refine AL_p (x_move rfl rfl) ?_
        refine AL_nil ?_
        refine ⟨⟨j + 1, by omega⟩, rn [(104, 111)], ?_, by dsimp only; omega⟩
        exact ⟨by (repeat refine ⟨⟨_, rfl, by first | exact VLe.rf | exact vle_int (by dsimp only; omega)⟩, ?_⟩); exact trivial, by (repeat refine ⟨⟨_, rfl, by first | exact BLe.rf | exact BLe.box AllC.rf | exact BLe.arr (by exact rfl)⟩, ?_⟩); exact trivial, by repeat (first | exact trivial | refine ⟨⟨rfl, by first | (left; intro h; cases h) | (right; rfl), fun _ h => ⟨_, h⟩⟩, ?_⟩), rfl⟩
    · try simp only [decide_eq_true_eq, decide_eq_false_iff_not, Bool.not_eq_true, Bool.not_eq_false, Bool.not_eq_true', Bool.not_eq_false', beq_iff_eq, bne_iff_ne, beq_eq_false_iff_ne, bne_eq_false_iff_eq, Int.not_lt, Int.not_le, ge_iff_le, gt_iff_lt] at h32
      obtain rfl : j = (min (nmD (iterG namedI k (takeI b 1).2).2).1 300).toNat := by omega
      refine AW_condF rfl ?_
      refine AW_exit (BQ_hit ?_)
      refine AW_region ?_
      refine AL_p (x_field (off := 0) (o' := 0) rfl rfl rfl (by kernel_rfl) rfl) ?_
      refine AL_p (x_load1 rfl rfl rfl (by kernel_rfl) rfl) ?_
      refine AL_p (x_loadN (n := 3) rfl rfl rfl (by kernel_rfl) rfl rfl) ?_
      refine AL_p (y_bslice (E := 89) (e := namedE) [.tmp 59] ([(namedI (iterG namedI k (takeI b 1).2).2).1]) 112 rfl rfl rfl rfl rfl rfl rfl rfl FitL.rf rfl rfl rfl rfl rfl rfl (by kernel_rfl)) ?_
      refine AL_p (y_append 113 rfl rfl rfl rfl rfl rfl rfl rfl (by kernel_rfl) (by simp only [iterG_len, List.length_cons, List.length_nil]; omega)) ?_
      refine AL_p (x_field (off := 0) (o' := 0) rfl rfl rfl (by kernel_rfl) rfl) ?_
      refine AL_p (x_store (n := 1) rfl rfl rfl rfl (by kernel_rfl) rfl rfl rfl) ?_
      refine AL_nil ?_
      refine AW_region ?_
      refine AL_p (x_add rfl rfl rfl (IntWalk.i64_in _ (by omega))) ?_
      refine AL_p (x_move rfl rfl) ?_
      refine AL_nil ?_
      refine ⟨⟨k + 1, by omega⟩, rn [(102, 113)], ?_, by dsimp only; omega⟩
      exact ⟨by (repeat refine ⟨⟨_, rfl, by first | exact VLe.rf | exact vle_int (by dsimp only; omega)⟩, ?_⟩); exact trivial, by (repeat refine ⟨⟨_, rfl, by first | exact BLe.rf | exact BLe.box AllC.rf | exact BLe.arr (by exact rfl)⟩, ?_⟩); exact trivial, by repeat (first | exact trivial | refine ⟨⟨rfl, by first | (left; intro h; cases h) | (right; rfl), fun _ h => ⟨_, h⟩⟩, ?_⟩), rfl⟩
  · try simp only [decide_eq_true_eq, decide_eq_false_iff_not, Bool.not_eq_true, Bool.not_eq_false, Bool.not_eq_true', Bool.not_eq_false', beq_iff_eq, bne_iff_ne, beq_eq_false_iff_ne, bne_eq_false_iff_eq, Int.not_lt, Int.not_le, ge_iff_le, gt_iff_lt] at h20
    obtain rfl : k = (min (takeI b 1).1 24).toNat := by omega
    refine AW_condF rfl ?_
    refine AW_exit (BQ_hit ?_)
    refine AW_seq ?_
    refine AW_seq ?_
    refine AW_region ?_
    refine AL_p (x_loadN (n := 1) rfl rfl rfl (by kernel_rfl) rfl rfl) ?_
    refine AL_p (x_callR rfl rfl rfl (storeBytesI_c (storeI b) (storeI_small b) 114) rfl AllV.rf rfl rfl rfl rfl rfl) ?_
    refine AL_p (x_move rfl rfl) ?_
    refine AL_p (x_extract rfl rfl rfl) ?_
    refine AL_b (x_extract rfl rfl rfl) (fun b68 h68 => ?_)
    refine AL_p (x_assign rfl rfl) ?_
    refine AL_p (x_assign rfl rfl) ?_
    refine AL_nil ?_
    refine AW_seq ?_
    refine AW_region ?_
    refine AL_p (x_move rfl rfl) ?_
    refine AL_p (x_not rfl rfl) ?_
    refine AL_p (x_move rfl rfl) ?_
    cases b68
    rotate_left
    · try simp only [decide_eq_true_eq, decide_eq_false_iff_not, Bool.not_eq_true, Bool.not_eq_false, Bool.not_eq_true', Bool.not_eq_false', beq_iff_eq, bne_iff_ne, beq_eq_false_iff_ne, bne_eq_false_iff_eq, Int.not_lt, Int.not_le, ge_iff_le, gt_iff_lt] at h68
      refine AL_g rfl rfl (x_move rfl rfl) ?_
      refine AL_g rfl rfl (x_move rfl rfl) ?_
      refine AL_gbc rfl rfl (x_callR rfl rfl rfl (equalB_c _ _) rfl AllV.rf rfl rfl rfl rfl rfl) (fun b74 h74 => ?_)
      refine AL_g rfl rfl (x_not rfl rfl) ?_
      refine AL_p (x_pickF rfl rfl rfl) ?_
      refine AL_nil ?_
      cases b74
      rotate_left
      · try simp only [decide_eq_true_eq, decide_eq_false_iff_not, Bool.not_eq_true, Bool.not_eq_false, Bool.not_eq_true', Bool.not_eq_false', beq_iff_eq, bne_iff_ne, beq_eq_false_iff_ne, bne_eq_false_iff_eq, Int.not_lt, Int.not_le, ge_iff_le, gt_iff_lt] at h74
        have hno := storeRead_yes (Prod.ext h74 h68 : storeBytes (storeI b) = (b, true))
        refine AW_condF rfl ?_
        refine AW_skip ?_
        refine AW_seq ?_
        refine AW_region ?_
        refine AL_p (x_loadN (n := 1) rfl rfl rfl (by kernel_rfl) rfl rfl) ?_
        refine AL_p (x_store (n := 1) rfl rfl rfl rfl (by kernel_rfl) rfl rfl rfl) ?_
        refine AL_p (x_assign rfl rfl) ?_
        refine AL_nil ?_
        refine AW_ret ?_
        exact ⟨rn [(9, 100), (0, 102)], ⟨⟨⟨_, rfl, VLe.rf⟩, ⟨_, rfl, by first | exact VLe.rf | exact vle_bool (by rw [hno])⟩, trivial⟩, ⟨⟨_, rfl, by first | exact BLe.rf | exact ble_eq (by rw [hno]; rfl)⟩, ⟨_, rfl, by first | exact BLe.rf | (refine BLe.arr ?_; rw [hno]; done) | (refine BLe.arr ?_; rw [hno]; rfl) | (refine BLe.arr ?_; rw [hno]; exact rfl)⟩, trivial⟩, trivial, rfl⟩⟩
      · try simp only [decide_eq_true_eq, decide_eq_false_iff_not, Bool.not_eq_true, Bool.not_eq_false, Bool.not_eq_true', Bool.not_eq_false', beq_iff_eq, bne_iff_ne, beq_eq_false_iff_ne, bne_eq_false_iff_eq, Int.not_lt, Int.not_le, ge_iff_le, gt_iff_lt] at h74
        have hno := storeRead_no (b := b) (fun e => h74 (by rw [e]))
        refine AW_condT rfl ?_
        refine AW_seq ?_
        refine AW_region ?_
        refine AL_p (x_build (zs := [.slice none 0 0]) (places := [(0, 1)]) rfl (by kernel_rfl) rfl rfl rfl rfl rfl) ?_
        refine AL_p (x_store (n := 1) rfl rfl rfl rfl (by kernel_rfl) rfl rfl rfl) ?_
        refine AL_p (x_assign rfl rfl) ?_
        refine AL_nil ?_
        refine AW_adopt (T := 89) (e := namedE) 115 100 0 rfl rfl rfl rfl rfl ?_
        refine AW_ret ?_
        exact ⟨rn [(9, 100), (0, 115)], ⟨⟨⟨_, rfl, VLe.rf⟩, ⟨_, rfl, by first | exact VLe.rf | exact vle_bool (by rw [hno])⟩, trivial⟩, ⟨⟨_, rfl, by first | exact BLe.rf | exact ble_eq (by rw [hno]; rfl)⟩, ⟨_, rfl, by first | exact BLe.rf | (refine BLe.arr ?_; rw [hno]; done) | (refine BLe.arr ?_; rw [hno]; rfl) | (refine BLe.arr ?_; rw [hno]; exact rfl)⟩, trivial⟩, trivial, rfl⟩⟩
    · try simp only [decide_eq_true_eq, decide_eq_false_iff_not, Bool.not_eq_true, Bool.not_eq_false, Bool.not_eq_true', Bool.not_eq_false', beq_iff_eq, bne_iff_ne, beq_eq_false_iff_ne, bne_eq_false_iff_eq, Int.not_lt, Int.not_le, ge_iff_le, gt_iff_lt] at h68
      have hno := storeRead_no (b := b) (fun e => by rw [e] at h68; cases h68)
      refine AL_o rfl rfl rfl rfl ?_
      refine AL_o rfl rfl rfl rfl ?_
      refine AL_o rfl rfl rfl rfl ?_
      refine AL_o rfl rfl rfl rfl ?_
      refine AL_p (x_pickT rfl rfl rfl) ?_
      refine AL_nil ?_
      refine AW_condT rfl ?_
      refine AW_seq ?_
      refine AW_region ?_
      refine AL_p (x_build (zs := [.slice none 0 0]) (places := [(0, 1)]) rfl (by kernel_rfl) rfl rfl rfl rfl rfl) ?_
      refine AL_p (x_store (n := 1) rfl rfl rfl rfl (by kernel_rfl) rfl rfl rfl) ?_
      refine AL_p (x_assign rfl rfl) ?_
      refine AL_nil ?_
      refine AW_adopt (T := 89) (e := namedE) 115 100 0 rfl rfl rfl rfl rfl ?_
      refine AW_ret ?_
      exact ⟨rn [(9, 100), (0, 115)], ⟨⟨⟨_, rfl, VLe.rf⟩, ⟨_, rfl, by first | exact VLe.rf | exact vle_bool (by rw [hno])⟩, trivial⟩, ⟨⟨_, rfl, by first | exact BLe.rf | exact ble_eq (by rw [hno]; rfl)⟩, ⟨_, rfl, by first | exact BLe.rf | (refine BLe.arr ?_; rw [hno]; done) | (refine BLe.arr ?_; rw [hno]; rfl) | (refine BLe.arr ?_; rw [hno]; exact rfl)⟩, trivial⟩, trivial, rfl⟩⟩
theorem storeReadI_c (b : List Int) (k : Nat) : AC Try.prog 31 [.one (.sl (intE .u8) b)] [] (.tup [.agg [.own k], .one (.c (.bool (storeRead b).2))]) [(k, some (.arr 89 namedE (storeRead b).1.rels true))] := AC.at (storeReadI_c0 b) k
end Go.Proofs.Ytibhoanjglfaoaa

/- Bytes read again by the reference (printed by walk.py) -/
namespace Go.Proofs.Ytibhoanjglfaoaa
open Go.RowKit
set_option linter.unusedVariables false
set_option linter.unusedSimpArgs false
set_option maxRecDepth 100000

set_option maxHeartbeats 4000000 in
theorem storeReadS_c0 (b : List Int) : AC Try.prog 29 [.one (.sl (intE .u8) b)] [] (.tup [.agg [.own 0], .one (.c (.bool (storeRead b).2))]) [(0, some (.arr 89 namedE (storeRead b).1.rels true))] := by
  refine AC_bodyCT (n := 1) (k := 9) (T := [(2, .one (.ptr 9 0)), (3, .one (.c (.bool (storeRead b).2)))]) (Lf := ((9, some (.box [.own 0])) :: [(0, some (.arr 89 namedE (storeRead b).1.rels true))])) Try.func29 rfl rfl Try.ntmps29 rfl Try.results29 rfl rfl rfl rfl (by kernel_rfl) rfl rfl ⟨trivial, (by repeat (first | exact trivial | refine ⟨⟨_, rfl, BLe.rf⟩, ?_⟩)), (by repeat (first | exact trivial | refine ⟨⟨rfl, by first | (left; intro h; cases h) | (right; rfl), by first | exact (fun _ h => ⟨_, h⟩) | exact (fun _ _ => ⟨_, rfl⟩)⟩, ?_⟩)), rfl⟩ ?_
  refine AW_slbyte 0 rfl (fun hy0 => ?_)
  refine AW_slmax 0 rfl (fun hm0 => ?_)
  refine AW_seq ?_
  refine AW_region ?_
  refine AL_p (x_alloc (z := .agg #[.slice none 0 0]) 100 rfl (by kernel_rfl) rfl rfl rfl rfl) ?_
  refine AL_p (x_assign rfl rfl) ?_
  refine AL_nil ?_
  refine AW_seq ?_
  refine AW_region ?_
  refine AL_p (x_build (zs := [.slice none 0 0]) (places := [(0, 1)]) rfl (by kernel_rfl) rfl rfl rfl rfl rfl) ?_
  refine AL_p (x_alloc (z := .agg #[.slice none 0 0]) 101 rfl (by kernel_rfl) rfl rfl rfl rfl) ?_
  refine AL_p (x_store (n := 1) rfl rfl rfl rfl (by kernel_rfl) rfl rfl rfl) ?_
  refine AL_nil ?_
  refine AW_seq ?_
  refine AW_seq ?_
  refine AW_region ?_
  refine AL_p (x_move rfl rfl) ?_
  refine AL_p (x_len (E := 5) (n := 1) rfl rfl (by kernel_rfl)) ?_
  refine AL_b (x_lss rfl rfl rfl) (fun b22 h22 => ?_)
  refine AL_p (x_move rfl rfl) ?_
  cases b22
  rotate_left
  · try simp only [decide_eq_true_eq, decide_eq_false_iff_not, Bool.not_eq_true, Bool.not_eq_false, Bool.not_eq_true', Bool.not_eq_false', beq_iff_eq, bne_iff_ne, beq_eq_false_iff_ne, bne_eq_false_iff_eq, Int.not_lt, Int.not_le, ge_iff_le, gt_iff_lt] at h22
    have hno := storeRead_len (b := b) (.inl (by omega))
    refine AL_o rfl rfl rfl rfl ?_
    refine AL_o rfl rfl rfl rfl ?_
    refine AL_o rfl rfl rfl rfl ?_
    refine AL_p (x_pickT rfl rfl rfl) ?_
    refine AL_nil ?_
    refine AW_condT rfl ?_
    refine AW_seq ?_
    refine AW_region ?_
    refine AL_p (x_loadN (n := 1) rfl rfl rfl (by kernel_rfl) rfl rfl) ?_
    refine AL_p (x_store (n := 1) rfl rfl rfl rfl (by kernel_rfl) rfl rfl rfl) ?_
    refine AL_p (x_assign rfl rfl) ?_
    refine AL_nil ?_
    refine AW_adopt (T := 89) (e := namedE) 102 100 0 rfl rfl rfl rfl rfl ?_
    refine AW_ret ?_
    exact ⟨rn [(9, 100), (0, 102)], ⟨⟨⟨_, rfl, VLe.rf⟩, ⟨_, rfl, by first | exact VLe.rf | exact vle_bool (by rw [hno])⟩, trivial⟩, ⟨⟨_, rfl, by first | exact BLe.rf | exact ble_eq (by rw [hno]; rfl)⟩, ⟨_, rfl, by first | exact BLe.rf | (refine BLe.arr ?_; rw [hno]; done) | (refine BLe.arr ?_; rw [hno]; rfl) | (refine BLe.arr ?_; rw [hno]; exact rfl)⟩, trivial⟩, trivial, rfl⟩⟩
  · try simp only [decide_eq_true_eq, decide_eq_false_iff_not, Bool.not_eq_true, Bool.not_eq_false, Bool.not_eq_true', Bool.not_eq_false', beq_iff_eq, bne_iff_ne, beq_eq_false_iff_ne, bne_eq_false_iff_eq, Int.not_lt, Int.not_le, ge_iff_le, gt_iff_lt] at h22
    refine AL_g rfl rfl (x_move rfl rfl) ?_
    refine AL_g rfl rfl (x_len (E := 5) (n := 1) rfl rfl (by kernel_rfl)) ?_
    refine AL_gb rfl rfl (x_gtr rfl rfl rfl) (fun b26 h26 => ?_)
    refine AL_p (x_pickF rfl rfl rfl) ?_
    refine AL_nil ?_
    cases b26
    rotate_left
    · try simp only [decide_eq_true_eq, decide_eq_false_iff_not, Bool.not_eq_true, Bool.not_eq_false, Bool.not_eq_true', Bool.not_eq_false', beq_iff_eq, bne_iff_ne, beq_eq_false_iff_ne, bne_eq_false_iff_eq, Int.not_lt, Int.not_le, ge_iff_le, gt_iff_lt] at h26
      have hno := storeRead_len (b := b) (.inr (by omega))
      refine AW_condT rfl ?_
      refine AW_seq ?_
      refine AW_region ?_
      refine AL_p (x_loadN (n := 1) rfl rfl rfl (by kernel_rfl) rfl rfl) ?_
      refine AL_p (x_store (n := 1) rfl rfl rfl rfl (by kernel_rfl) rfl rfl rfl) ?_
      refine AL_p (x_assign rfl rfl) ?_
      refine AL_nil ?_
      refine AW_adopt (T := 89) (e := namedE) 102 100 0 rfl rfl rfl rfl rfl ?_
      refine AW_ret ?_
      exact ⟨rn [(9, 100), (0, 102)], ⟨⟨⟨_, rfl, VLe.rf⟩, ⟨_, rfl, by first | exact VLe.rf | exact vle_bool (by rw [hno])⟩, trivial⟩, ⟨⟨_, rfl, by first | exact BLe.rf | exact ble_eq (by rw [hno]; rfl)⟩, ⟨_, rfl, by first | exact BLe.rf | (refine BLe.arr ?_; rw [hno]; done) | (refine BLe.arr ?_; rw [hno]; rfl) | (refine BLe.arr ?_; rw [hno]; exact rfl)⟩, trivial⟩, trivial, rfl⟩⟩
    · try simp only [decide_eq_true_eq, decide_eq_false_iff_not, Bool.not_eq_true, Bool.not_eq_false, Bool.not_eq_true', Bool.not_eq_false', beq_iff_eq, bne_iff_ne, beq_eq_false_iff_ne, bne_eq_false_iff_eq, Int.not_lt, Int.not_le, ge_iff_le, gt_iff_lt] at h26
      refine AW_condF rfl ?_
      refine AW_skip ?_
      refine AW_seq ?_
      refine AW_region ?_
      refine AL_p (x_assign rfl rfl) ?_
      refine AL_nil ?_
      refine AW_seq ?_
      refine AW_seq ?_
      refine AW_region ?_
      refine AL_p (x_assign rfl rfl) ?_
      refine AL_nil ?_
      refine AW_block ?_
      refine AW_adopt (T := 89) (e := namedE) 103 101 0 rfl rfl rfl rfl rfl ?_
      refine AW_loop2 (ι := {q : Nat // (q : Int) ≤ getS b 0 1}) (fun p => [(5, .one (.c (.int .i64 ((iterG (namedS b) (p.1) 1).2)))), (6, .one (.c (.int .i64 (((p.1) : Int)))))]) (fun p => [(103, some (.arr 89 namedE (iterG (namedS b) (p.1) 1).1 true))]) [0, 2, 4] [100, 101] (fun p => (getS b 0 1).toNat - (p.1)) ⟨0, by have := getS_in (b := b) (z := 0) (n := 1) (by omega); omega⟩ (rn []) ?_ ?_
      exact ⟨by (repeat refine ⟨⟨_, rfl, by first | exact VLe.rf | exact vle_int (by dsimp only; omega)⟩, ?_⟩); exact trivial, by (repeat refine ⟨⟨_, rfl, by first | exact BLe.rf | exact BLe.box AllC.rf | exact BLe.arr (by exact rfl)⟩, ?_⟩); exact trivial, by repeat (first | exact trivial | refine ⟨⟨rfl, by first | (left; intro h; cases h) | (right; rfl), fun _ h => ⟨_, h⟩⟩, ?_⟩), rfl⟩
      rintro ⟨k, hinv⟩
      dsimp only
      have hk := hinv
      have hb1 := getS_one (b := b) (z := 0)
      have hz1 := iterG_step (f := namedS b) (M := 539651) (fun z hz => namedS_step z hz) (k := k) (z := 1) (by omega)
      have e0 : b[0]'(by omega) = getS b 0 1 := getS_at (z := 0) (by omega) (by show 0 < _; omega) hy0
      refine AW_seq ?_
      refine AW_seq ?_
      refine AW_region ?_
      refine AL_p (x_move rfl rfl) ?_
      refine AL_p (x_move rfl rfl) ?_
      refine AL_p (x_index (E := 5) (n := 1) rfl rfl rfl (by kernel_rfl) rfl (k := 0) (by omega) (by omega)) ?_
      refine AL_p (x_eload1 rfl rfl (by kernel_rfl) rfl) ?_
      refine AL_p (x_conv (k' := .i64) rfl rfl (by kernel_rfl) (r := getS b 0 1) (by rw [← e0]; exact IntWalk.i64_in _ (by omega))) ?_
      refine AL_b (x_lss rfl rfl rfl) (fun b34 h34 => ?_)
      refine AL_p (x_move rfl rfl) ?_
      cases b34
      rotate_left
      · try simp only [decide_eq_true_eq, decide_eq_false_iff_not, Bool.not_eq_true, Bool.not_eq_false, Bool.not_eq_true', Bool.not_eq_false', beq_iff_eq, bne_iff_ne, beq_eq_false_iff_ne, bne_eq_false_iff_eq, Int.not_lt, Int.not_le, ge_iff_le, gt_iff_lt] at h34
        refine AL_g rfl rfl (x_move rfl rfl) ?_
        refine AL_g rfl rfl (x_move rfl rfl) ?_
        refine AL_g rfl rfl (x_len (E := 5) (n := 1) rfl rfl (by kernel_rfl)) ?_
        refine AL_gb rfl rfl (x_lss rfl rfl rfl) (fun b39 h39 => ?_)
        refine AL_p (x_pickT rfl rfl rfl) ?_
        refine AL_nil ?_
        cases b39
        rotate_left
        · try simp only [decide_eq_true_eq, decide_eq_false_iff_not, Bool.not_eq_true, Bool.not_eq_false, Bool.not_eq_true', Bool.not_eq_false', beq_iff_eq, bne_iff_ne, beq_eq_false_iff_ne, bne_eq_false_iff_eq, Int.not_lt, Int.not_le, ge_iff_le, gt_iff_lt] at h39
          have hA0 : nsA b (iterG (namedS b) k 1).2 = (iterG (namedS b) k 1).2 + 1 + getS b (iterG (namedS b) k 1).2 1 := rfl
          have hg1 := getS_one (b := b) (z := (iterG (namedS b) k 1).2)
          have hg0 := getS_in (b := b) (z := (iterG (namedS b) k 1).2) (n := 1) (by omega)
          have ha1 := getS_one (b := b) (z := nsA b (iterG (namedS b) k 1).2)
          have ha0 := getS_in (b := b) (z := nsA b (iterG (namedS b) k 1).2) (n := 1) (by omega)
          have hr1 := getS_two (b := b) (z := nsA b (iterG (namedS b) k 1).2 + 1)
          have hr0 := getS_in (b := b) (z := nsA b (iterG (namedS b) k 1).2 + 1) (n := 2) (by omega)
          have e1 : b[((iterG (namedS b) k 1).2).toNat]'(by omega) = getS b (iterG (namedS b) k 1).2 1 := getS_at (by omega) (by omega) hy0
          refine AW_condT rfl ?_
          refine AW_skip ?_
          refine AW_seq ?_
          refine AW_block ?_
          refine AW_seq ?_
          refine AW_region ?_
          refine AL_p (x_build (zs := [.string ⟨#[]⟩, .int .i64 0, .slice none 0 0]) (places := [(0, 1), (1, 2)]) rfl (by kernel_rfl) rfl rfl rfl rfl rfl) ?_
          refine AL_p (x_alloc (z := .agg #[.string ⟨#[]⟩, .int .i64 0, .slice none 0 0]) 104 rfl (by kernel_rfl) rfl rfl rfl rfl) ?_
          refine AL_p (x_store (n := 3) rfl rfl rfl rfl (by kernel_rfl) rfl rfl rfl) ?_
          refine AL_nil ?_
          refine AW_seq ?_
          refine AW_region ?_
          refine AL_p (x_move rfl rfl) ?_
          refine AL_p (x_move rfl rfl) ?_
          refine AL_p (x_index (E := 5) (n := 1) rfl rfl rfl (by kernel_rfl) rfl (k := ((iterG (namedS b) k 1).2).toNat) (by omega) (by omega)) ?_
          refine AL_p (x_eload1 rfl rfl (by kernel_rfl) rfl) ?_
          refine AL_p (x_conv (k' := .i64) rfl rfl (by kernel_rfl) (r := getS b (iterG (namedS b) k 1).2 1) (by rw [← e1]; exact IntWalk.i64_in _ (by omega))) ?_
          refine AL_p (x_assign rfl rfl) ?_
          refine AL_nil ?_
          refine AW_seq ?_
          refine AW_region ?_
          refine AL_p (x_move rfl rfl) ?_
          refine AL_p (x_move rfl rfl) ?_
          refine AL_p (x_add rfl rfl rfl (IntWalk.i64_in _ (by omega))) ?_
          refine AL_p (x_move rfl rfl) ?_
          refine AL_p (x_call0 rfl rfl rfl (wordS_c b ((iterG (namedS b) k 1).2 + 1) (getS b (iterG (namedS b) k 1).2 1) (by omega) (by omega) (by omega) (by omega)) rfl rfl) ?_
          refine AL_p (x_field (off := 0) (o' := 0) rfl rfl rfl (by kernel_rfl) rfl) ?_
          refine AL_p (x_store (n := 1) rfl rfl rfl rfl (by kernel_rfl) rfl rfl rfl) ?_
          refine AL_nil ?_
          refine AW_seq ?_
          refine AW_region ?_
          refine AL_p (x_move rfl rfl) ?_
          refine AL_p (x_add rfl rfl rfl (IntWalk.i64_in _ (by omega))) ?_
          refine AL_p (x_move rfl rfl) ?_
          refine AL_p (x_add rfl rfl rfl (r := nsA b (iterG (namedS b) k 1).2) (IntWalk.i64_in _ (by omega))) ?_
          refine AL_p (x_assign rfl rfl) ?_
          refine AL_nil ?_
          refine AW_seq ?_
          refine AW_region ?_
          refine AL_p (x_move rfl rfl) ?_
          refine AL_p (x_move rfl rfl) ?_
          refine AL_p (x_call0 rfl rfl rfl (getS_c b (nsA b (iterG (namedS b) k 1).2) 1 (by omega) (by omega) (by omega) (by omega)) rfl rfl) ?_
          refine AL_p (x_move rfl rfl) ?_
          refine AL_p (x_extract rfl rfl rfl) ?_
          refine AL_b (x_extract rfl rfl rfl) (fun b64 h64 => ?_)
          refine AL_p (x_field (off := 1) (o' := 1) rfl rfl rfl (by kernel_rfl) rfl) ?_
          refine AL_p (x_field (off := 0) (o' := 1) rfl rfl rfl (by kernel_rfl) rfl) ?_
          refine AL_p (x_store (n := 1) rfl rfl rfl rfl (by kernel_rfl) rfl rfl rfl) ?_
          refine AL_nil ?_
          refine AW_seq ?_
          refine AW_region ?_
          refine AL_p (x_move rfl rfl) ?_
          refine AL_p (x_move rfl rfl) ?_
          refine AL_p (x_add rfl rfl rfl (IntWalk.i64_in _ (by omega))) ?_
          refine AL_p (x_call0 rfl rfl rfl (getS_c b (nsA b (iterG (namedS b) k 1).2 + 1) 2 (by omega) (by omega) (by omega) (by omega)) rfl rfl) ?_
          refine AL_p (x_move rfl rfl) ?_
          refine AL_p (x_extract rfl rfl rfl) ?_
          refine AL_b (x_extract rfl rfl rfl) (fun b73 h73 => ?_)
          refine AL_p (x_assign rfl rfl) ?_
          refine AL_p (x_assign rfl rfl) ?_
          refine AL_nil ?_
          refine AW_seq ?_
          refine AW_region ?_
          refine AL_p (x_move rfl rfl) ?_
          refine AL_p (x_add rfl rfl rfl (IntWalk.i64_in _ (by omega))) ?_
          refine AL_p (x_assign rfl rfl) ?_
          refine AL_nil ?_
          refine AW_seq ?_
          refine AW_seq ?_
          refine AW_region ?_
          refine AL_p (x_assign rfl rfl) ?_
          refine AL_nil ?_
          refine AW_block ?_
          refine AW_adopt (T := 92) (e := rowE) 105 104 2 rfl rfl rfl rfl rfl ?_
          refine AW_loop2 (ι := {q : Nat // q ≤ (min (getS b (nsA b (iterG (namedS b) k 1).2 + 1) 2) 301).toNat}) (fun p => [(5, .one (.c (.int .i64 ((iterG (rowS b (min (getS b (nsA b (iterG (namedS b) k 1).2) 1) 7).toNat) (p.1) (nsA b (iterG (namedS b) k 1).2 + 3)).2)))), (11, .one (.c (.int .i64 (((p.1) : Int)))))]) (fun p => [(105, some (.arr 92 rowE (iterG (rowS b (min (getS b (nsA b (iterG (namedS b) k 1).2) 1) 7).toNat) (p.1) (nsA b (iterG (namedS b) k 1).2 + 3)).1 true))]) [0, 2, 4, 6, 7, 9] [100, 101, 103, 104] (fun p => (min (getS b (nsA b (iterG (namedS b) k 1).2 + 1) 2) 301).toNat - (p.1)) ⟨0, by omega⟩ (rn []) ?_ ?_
          exact ⟨by (repeat refine ⟨⟨_, rfl, by first | exact VLe.rf | exact vle_int (by dsimp only; omega)⟩, ?_⟩); exact trivial, by (repeat refine ⟨⟨_, rfl, by first | exact BLe.rf | exact BLe.box AllC.rf | exact BLe.arr (by exact rfl)⟩, ?_⟩); exact trivial, by repeat (first | exact trivial | refine ⟨⟨rfl, by first | (left; intro h; cases h) | (right; rfl), fun _ h => ⟨_, h⟩⟩, ?_⟩), rfl⟩
          rintro ⟨j, hinv⟩
          dsimp only
          have hj := hinv
          have hz2 := iterG_step (f := rowS b (min (getS b (nsA b (iterG (namedS b) k 1).2) 1) 7).toNat) (M := 1792) (fun z hz => rowS_step (by omega) z hz) (k := j) (z := (nsA b (iterG (namedS b) k 1).2 + 3)) (by omega)
          refine AW_seq ?_
          refine AW_seq ?_
          refine AW_region ?_
          refine AL_p (x_move rfl rfl) ?_
          refine AL_p (x_move rfl rfl) ?_
          refine AL_b (x_lss rfl rfl rfl) (fun b78 h78 => ?_)
          refine AL_p (x_move rfl rfl) ?_
          cases b78
          rotate_left
          · try simp only [decide_eq_true_eq, decide_eq_false_iff_not, Bool.not_eq_true, Bool.not_eq_false, Bool.not_eq_true', Bool.not_eq_false', beq_iff_eq, bne_iff_ne, beq_eq_false_iff_ne, bne_eq_false_iff_eq, Int.not_lt, Int.not_le, ge_iff_le, gt_iff_lt] at h78
            refine AL_g rfl rfl (x_move rfl rfl) ?_
            refine AL_gb rfl rfl (x_leq rfl rfl rfl) (fun b81 h81 => ?_)
            refine AL_p (x_pickT rfl rfl rfl) ?_
            refine AL_nil ?_
            cases b81
            rotate_left
            · try simp only [decide_eq_true_eq, decide_eq_false_iff_not, Bool.not_eq_true, Bool.not_eq_false, Bool.not_eq_true', Bool.not_eq_false', beq_iff_eq, bne_iff_ne, beq_eq_false_iff_ne, bne_eq_false_iff_eq, Int.not_lt, Int.not_le, ge_iff_le, gt_iff_lt] at h81
              refine AW_condT rfl ?_
              refine AW_skip ?_
              refine AW_seq ?_
              refine AW_block ?_
              refine AW_seq ?_
              refine AW_region ?_
              refine AL_p (x_build (zs := [.slice none 0 0]) (places := [(0, 1)]) rfl (by kernel_rfl) rfl rfl rfl rfl rfl) ?_
              refine AL_p (x_alloc (z := .agg #[.slice none 0 0]) 106 rfl (by kernel_rfl) rfl rfl rfl rfl) ?_
              refine AL_p (x_store (n := 1) rfl rfl rfl rfl (by kernel_rfl) rfl rfl rfl) ?_
              refine AL_nil ?_
              refine AW_seq ?_
              refine AW_seq ?_
              refine AW_region ?_
              refine AL_p (x_assign rfl rfl) ?_
              refine AL_nil ?_
              refine AW_block ?_
              refine AW_adopt (T := 94) (e := valE) 107 106 0 rfl rfl rfl rfl rfl ?_
              refine AW_loop2 (ι := {q : Nat // q ≤ (min (getS b (nsA b (iterG (namedS b) k 1).2) 1) 7).toNat}) (fun p => [(5, .one (.c (.int .i64 ((iterG (valS b) (p.1) (iterG (rowS b (min (getS b (nsA b (iterG (namedS b) k 1).2) 1) 7).toNat) j (nsA b (iterG (namedS b) k 1).2 + 3)).2).2)))), (13, .one (.c (.int .i64 (((p.1) : Int)))))]) (fun p => [(107, some (.arr 94 valE (iterG (valS b) (p.1) (iterG (rowS b (min (getS b (nsA b (iterG (namedS b) k 1).2) 1) 7).toNat) j (nsA b (iterG (namedS b) k 1).2 + 3)).2).1 true))]) [0, 2, 4, 6, 7, 9, 11, 12] [100, 101, 103, 104, 105, 106] (fun p => (min (getS b (nsA b (iterG (namedS b) k 1).2) 1) 7).toNat - (p.1)) ⟨0, by omega⟩ (rn []) ?_ ?_
              exact ⟨by (repeat refine ⟨⟨_, rfl, by first | exact VLe.rf | exact vle_int (by dsimp only; omega)⟩, ?_⟩); exact trivial, by (repeat refine ⟨⟨_, rfl, by first | exact BLe.rf | exact BLe.box AllC.rf | exact BLe.arr (by exact rfl)⟩, ?_⟩); exact trivial, by repeat (first | exact trivial | refine ⟨⟨rfl, by first | (left; intro h; cases h) | (right; rfl), fun _ h => ⟨_, h⟩⟩, ?_⟩), rfl⟩
              rintro ⟨i, hinv⟩
              dsimp only
              have hi := hinv
              have hz3 := iterG_step (f := valS b) (M := 256) (fun z hz => valS_step z hz) (k := i) (z := (iterG (rowS b (min (getS b (nsA b (iterG (namedS b) k 1).2) 1) 7).toNat) j (nsA b (iterG (namedS b) k 1).2 + 3)).2) (by omega)
              refine AW_seq ?_
              refine AW_seq ?_
              refine AW_region ?_
              refine AL_p (x_move rfl rfl) ?_
              refine AL_p (x_field (off := 1) (o' := 1) rfl rfl rfl (by kernel_rfl) rfl) ?_
              refine AL_p (x_field (off := 0) (o' := 1) rfl rfl rfl (by kernel_rfl) rfl) ?_
              refine AL_p (x_load1 rfl rfl rfl (by kernel_rfl) rfl) ?_
              refine AL_b (x_lss rfl rfl rfl) (fun b90 h90 => ?_)
              refine AL_p (x_move rfl rfl) ?_
              cases b90
              rotate_left
              · try simp only [decide_eq_true_eq, decide_eq_false_iff_not, Bool.not_eq_true, Bool.not_eq_false, Bool.not_eq_true', Bool.not_eq_false', beq_iff_eq, bne_iff_ne, beq_eq_false_iff_ne, bne_eq_false_iff_eq, Int.not_lt, Int.not_le, ge_iff_le, gt_iff_lt] at h90
                refine AL_g rfl rfl (x_move rfl rfl) ?_
                refine AL_gb rfl rfl (x_leq rfl rfl rfl) (fun b93 h93 => ?_)
                refine AL_p (x_pickT rfl rfl rfl) ?_
                refine AL_nil ?_
                cases b93
                rotate_left
                · try simp only [decide_eq_true_eq, decide_eq_false_iff_not, Bool.not_eq_true, Bool.not_eq_false, Bool.not_eq_true', Bool.not_eq_false', beq_iff_eq, bne_iff_ne, beq_eq_false_iff_ne, bne_eq_false_iff_eq, Int.not_lt, Int.not_le, ge_iff_le, gt_iff_lt] at h93
                  have hv1 := getS_one (b := b) (z := (iterG (valS b) i (iterG (rowS b (min (getS b (nsA b (iterG (namedS b) k 1).2) 1) 7).toNat) j (nsA b (iterG (namedS b) k 1).2 + 3)).2).2)
                  have hv0 := getS_in (b := b) (z := (iterG (valS b) i (iterG (rowS b (min (getS b (nsA b (iterG (namedS b) k 1).2) 1) 7).toNat) j (nsA b (iterG (namedS b) k 1).2 + 3)).2).2) (n := 1) (by omega)
                  refine AW_condT rfl ?_
                  refine AW_skip ?_
                  refine AW_seq ?_
                  refine AW_block ?_
                  refine AW_seq ?_
                  refine AW_region ?_
                  refine AL_p (x_build (zs := [.int .i64 0, .string ⟨#[]⟩]) (places := [(0, 1), (1, 1)]) rfl (by kernel_rfl) rfl rfl rfl rfl rfl) ?_
                  refine AL_p (x_alloc (z := .agg #[.int .i64 0, .string ⟨#[]⟩]) 108 rfl (by kernel_rfl) rfl rfl rfl rfl) ?_
                  refine AL_p (x_store (n := 2) rfl rfl rfl rfl (by kernel_rfl) rfl rfl rfl) ?_
                  refine AL_nil ?_
                  refine AW_seq ?_
                  refine AW_region ?_
                  refine AL_p (x_move rfl rfl) ?_
                  refine AL_p (x_move rfl rfl) ?_
                  refine AL_p (x_call0 rfl rfl rfl (getS_c b (iterG (valS b) i (iterG (rowS b (min (getS b (nsA b (iterG (namedS b) k 1).2) 1) 7).toNat) j (nsA b (iterG (namedS b) k 1).2 + 3)).2).2 1 (by omega) (by omega) (by omega) (by omega)) rfl rfl) ?_
                  refine AL_p (x_move rfl rfl) ?_
                  refine AL_p (x_extract rfl rfl rfl) ?_
                  refine AL_b (x_extract rfl rfl rfl) (fun b103 h103 => ?_)
                  refine AL_p (x_assign rfl rfl) ?_
                  refine AL_p (x_assign rfl rfl) ?_
                  refine AL_nil ?_
                  refine AW_seq ?_
                  refine AW_region ?_
                  refine AL_p (x_move rfl rfl) ?_
                  refine AL_p (x_add rfl rfl rfl (IntWalk.i64_in _ (by omega))) ?_
                  refine AL_p (x_assign rfl rfl) ?_
                  refine AL_nil ?_
                  refine AW_seq ?_
                  refine AW_seq ?_
                  refine AW_region ?_
                  refine AL_p (x_move rfl rfl) ?_
                  refine AL_b (x_eql rfl rfl rfl) (fun b107 h107 => ?_)
                  refine AL_nil ?_
                  cases b107
                  rotate_left
                  · try simp only [decide_eq_true_eq, decide_eq_false_iff_not, Bool.not_eq_true, Bool.not_eq_false, Bool.not_eq_true', Bool.not_eq_false', beq_iff_eq, bne_iff_ne, beq_eq_false_iff_ne, bne_eq_false_iff_eq, Int.not_lt, Int.not_le, ge_iff_le, gt_iff_lt] at h107
                    have hvs := valS_num h107
                    refine AW_condT rfl ?_
                    refine AW_seq ?_
                    refine AW_region ?_
                    refine AL_p (x_move rfl rfl) ?_
                    refine AL_p (x_move rfl rfl) ?_
                    refine AL_p (x_call0 rfl rfl rfl (getS_c b ((iterG (valS b) i (iterG (rowS b (min (getS b (nsA b (iterG (namedS b) k 1).2) 1) 7).toNat) j (nsA b (iterG (namedS b) k 1).2 + 3)).2).2 + 1) 6 (by omega) (by omega) (by omega) (by omega)) rfl rfl) ?_
                    refine AL_p (x_move rfl rfl) ?_
                    refine AL_p (x_extract rfl rfl rfl) ?_
                    refine AL_b (x_extract rfl rfl rfl) (fun b113 h113 => ?_)
                    refine AL_p (x_field (off := 0) (o' := 0) rfl rfl rfl (by kernel_rfl) rfl) ?_
                    refine AL_p (x_store (n := 1) rfl rfl rfl rfl (by kernel_rfl) rfl rfl rfl) ?_
                    refine AL_nil ?_
                    refine AW_region ?_
                    refine AL_p (x_move rfl rfl) ?_
                    refine AL_p (x_add rfl rfl rfl (r := (valS b (iterG (valS b) i (iterG (rowS b (min (getS b (nsA b (iterG (namedS b) k 1).2) 1) 7).toNat) j (nsA b (iterG (namedS b) k 1).2 + 3)).2).2).2) (by rw [hvs]; exact IntWalk.i64_in _ (by omega))) ?_
                    refine AL_p (x_assign rfl rfl) ?_
                    refine AL_nil ?_
                    refine AW_region ?_
                    refine AL_p (x_field (off := 0) (o' := 0) rfl rfl rfl (by kernel_rfl) rfl) ?_
                    refine AL_p (x_load1 rfl rfl rfl (by kernel_rfl) rfl) ?_
                    refine AL_p (x_loadN (n := 2) rfl rfl rfl (by kernel_rfl) rfl rfl) ?_
                    refine AL_p (y_bslice (E := 94) (e := valE) [.tmp 127] ([(valS b (iterG (valS b) i (iterG (rowS b (min (getS b (nsA b (iterG (namedS b) k 1).2) 1) 7).toNat) j (nsA b (iterG (namedS b) k 1).2 + 3)).2).2).1]) 109 rfl rfl rfl rfl rfl rfl rfl rfl (by rw [hvs]; exact FitL.rf) rfl rfl rfl rfl rfl rfl (by kernel_rfl)) ?_
                    refine AL_p (y_append 110 rfl rfl rfl rfl rfl rfl rfl rfl (by kernel_rfl) (by simp only [iterG_len, List.length_cons, List.length_nil]; omega)) ?_
                    refine AL_p (x_field (off := 0) (o' := 0) rfl rfl rfl (by kernel_rfl) rfl) ?_
                    refine AL_p (x_store (n := 1) rfl rfl rfl rfl (by kernel_rfl) rfl rfl rfl) ?_
                    refine AL_nil ?_
                    refine AW_region ?_
                    refine AL_p (x_move rfl rfl) ?_
                    refine AL_p (x_add rfl rfl rfl (IntWalk.i64_in _ (by omega))) ?_
                    refine AL_p (x_assign rfl rfl) ?_
                    refine AL_nil ?_
                    refine ⟨⟨i + 1, by omega⟩, rn [(107, 110)], ?_, by dsimp only; omega⟩
                    exact ⟨by (repeat refine ⟨⟨_, rfl, by first | exact VLe.rf | exact vle_int (by dsimp only; omega)⟩, ?_⟩); exact trivial, by (repeat refine ⟨⟨_, rfl, by first | exact BLe.rf | exact BLe.box AllC.rf | exact BLe.arr (by exact rfl)⟩, ?_⟩); exact trivial, by repeat (first | exact trivial | refine ⟨⟨rfl, by first | (left; intro h; cases h) | (right; rfl), fun _ h => ⟨_, h⟩⟩, ?_⟩), rfl⟩
                  · try simp only [decide_eq_true_eq, decide_eq_false_iff_not, Bool.not_eq_true, Bool.not_eq_false, Bool.not_eq_true', Bool.not_eq_false', beq_iff_eq, bne_iff_ne, beq_eq_false_iff_ne, bne_eq_false_iff_eq, Int.not_lt, Int.not_le, ge_iff_le, gt_iff_lt] at h107
                    have hvs := valS_word h107
                    refine AW_condF rfl ?_
                    refine AW_seq ?_
                    refine AW_region ?_
                    refine AL_p (x_move rfl rfl) ?_
                    refine AL_p (x_move rfl rfl) ?_
                    refine AL_p (x_move rfl rfl) ?_
                    refine AL_p (x_call0 rfl rfl rfl (wordS_c b ((iterG (valS b) i (iterG (rowS b (min (getS b (nsA b (iterG (namedS b) k 1).2) 1) 7).toNat) j (nsA b (iterG (namedS b) k 1).2 + 3)).2).2 + 1) (getS b (iterG (valS b) i (iterG (rowS b (min (getS b (nsA b (iterG (namedS b) k 1).2) 1) 7).toNat) j (nsA b (iterG (namedS b) k 1).2 + 3)).2).2 1) (by omega) (by omega) (by omega) (by omega)) rfl rfl) ?_
                    refine AL_p (x_field (off := 1) (o' := 1) rfl rfl rfl (by kernel_rfl) rfl) ?_
                    refine AL_p (x_store (n := 1) rfl rfl rfl rfl (by kernel_rfl) rfl rfl rfl) ?_
                    refine AL_nil ?_
                    refine AW_region ?_
                    refine AL_p (x_move rfl rfl) ?_
                    refine AL_p (x_move rfl rfl) ?_
                    refine AL_p (x_add rfl rfl rfl (r := (valS b (iterG (valS b) i (iterG (rowS b (min (getS b (nsA b (iterG (namedS b) k 1).2) 1) 7).toNat) j (nsA b (iterG (namedS b) k 1).2 + 3)).2).2).2) (by rw [hvs]; exact IntWalk.i64_in _ (by omega))) ?_
                    refine AL_p (x_assign rfl rfl) ?_
                    refine AL_nil ?_
                    refine AW_region ?_
                    refine AL_p (x_field (off := 0) (o' := 0) rfl rfl rfl (by kernel_rfl) rfl) ?_
                    refine AL_p (x_load1 rfl rfl rfl (by kernel_rfl) rfl) ?_
                    refine AL_p (x_loadN (n := 2) rfl rfl rfl (by kernel_rfl) rfl rfl) ?_
                    refine AL_p (y_bslice (E := 94) (e := valE) [.tmp 127] ([(valS b (iterG (valS b) i (iterG (rowS b (min (getS b (nsA b (iterG (namedS b) k 1).2) 1) 7).toNat) j (nsA b (iterG (namedS b) k 1).2 + 3)).2).2).1]) 109 rfl rfl rfl rfl rfl rfl rfl rfl (by rw [hvs]; exact FitL.rf) rfl rfl rfl rfl rfl rfl (by kernel_rfl)) ?_
                    refine AL_p (y_append 110 rfl rfl rfl rfl rfl rfl rfl rfl (by kernel_rfl) (by simp only [iterG_len, List.length_cons, List.length_nil]; omega)) ?_
                    refine AL_p (x_field (off := 0) (o' := 0) rfl rfl rfl (by kernel_rfl) rfl) ?_
                    refine AL_p (x_store (n := 1) rfl rfl rfl rfl (by kernel_rfl) rfl rfl rfl) ?_
                    refine AL_nil ?_
                    refine AW_region ?_
                    refine AL_p (x_move rfl rfl) ?_
                    refine AL_p (x_add rfl rfl rfl (IntWalk.i64_in _ (by omega))) ?_
                    refine AL_p (x_assign rfl rfl) ?_
                    refine AL_nil ?_
                    refine ⟨⟨i + 1, by omega⟩, rn [(107, 110)], ?_, by dsimp only; omega⟩
                    exact ⟨by (repeat refine ⟨⟨_, rfl, by first | exact VLe.rf | exact vle_int (by dsimp only; omega)⟩, ?_⟩); exact trivial, by (repeat refine ⟨⟨_, rfl, by first | exact BLe.rf | exact BLe.box AllC.rf | exact BLe.arr (by exact rfl)⟩, ?_⟩); exact trivial, by repeat (first | exact trivial | refine ⟨⟨rfl, by first | (left; intro h; cases h) | (right; rfl), fun _ h => ⟨_, h⟩⟩, ?_⟩), rfl⟩
                · try simp only [decide_eq_true_eq, decide_eq_false_iff_not, Bool.not_eq_true, Bool.not_eq_false, Bool.not_eq_true', Bool.not_eq_false', beq_iff_eq, bne_iff_ne, beq_eq_false_iff_ne, bne_eq_false_iff_eq, Int.not_lt, Int.not_le, ge_iff_le, gt_iff_lt] at h93
                  obtain rfl : i = (min (getS b (nsA b (iterG (namedS b) k 1).2) 1) 7).toNat := by omega
                  refine AW_condF rfl ?_
                  refine AW_exit (BQ_hit ?_)
                  refine AW_region ?_
                  refine AL_p (x_field (off := 1) (o' := 1) rfl rfl rfl (by kernel_rfl) rfl) ?_
                  refine AL_p (x_field (off := 1) (o' := 2) rfl rfl rfl (by kernel_rfl) rfl) ?_
                  refine AL_p (x_load1 rfl rfl rfl (by kernel_rfl) rfl) ?_
                  refine AL_p (x_loadN (n := 1) rfl rfl rfl (by kernel_rfl) rfl rfl) ?_
                  refine AL_p (y_bslice (E := 92) (e := rowE) [.tmp 134] ([(rowS b (min (getS b (nsA b (iterG (namedS b) k 1).2) 1) 7).toNat (iterG (rowS b (min (getS b (nsA b (iterG (namedS b) k 1).2) 1) 7).toNat) j (nsA b (iterG (namedS b) k 1).2 + 3)).2).1]) 111 rfl rfl rfl rfl rfl rfl rfl rfl FitL.rf rfl rfl rfl rfl rfl rfl (by kernel_rfl)) ?_
                  refine AL_p (y_append 112 rfl rfl rfl rfl rfl rfl rfl rfl (by kernel_rfl) (by simp only [iterG_len, List.length_cons, List.length_nil]; omega)) ?_
                  refine AL_p (x_field (off := 1) (o' := 1) rfl rfl rfl (by kernel_rfl) rfl) ?_
                  refine AL_p (x_field (off := 1) (o' := 2) rfl rfl rfl (by kernel_rfl) rfl) ?_
                  refine AL_p (x_store (n := 1) rfl rfl rfl rfl (by kernel_rfl) rfl rfl rfl) ?_
                  refine AL_nil ?_
                  refine AW_region ?_
                  refine AL_p (x_move rfl rfl) ?_
                  refine AL_p (x_add rfl rfl rfl (IntWalk.i64_in _ (by omega))) ?_
                  refine AL_p (x_assign rfl rfl) ?_
                  refine AL_nil ?_
                  refine ⟨⟨j + 1, by omega⟩, rn [(105, 112)], ?_, by dsimp only; omega⟩
                  exact ⟨by (repeat refine ⟨⟨_, rfl, by first | exact VLe.rf | exact vle_int (by dsimp only; omega)⟩, ?_⟩); exact trivial, by (repeat refine ⟨⟨_, rfl, by first | exact BLe.rf | exact BLe.box AllC.rf | exact BLe.arr (by exact rfl)⟩, ?_⟩); exact trivial, by repeat (first | exact trivial | refine ⟨⟨rfl, by first | (left; intro h; cases h) | (right; rfl), fun _ h => ⟨_, h⟩⟩, ?_⟩), rfl⟩
              · try simp only [decide_eq_true_eq, decide_eq_false_iff_not, Bool.not_eq_true, Bool.not_eq_false, Bool.not_eq_true', Bool.not_eq_false', beq_iff_eq, bne_iff_ne, beq_eq_false_iff_ne, bne_eq_false_iff_eq, Int.not_lt, Int.not_le, ge_iff_le, gt_iff_lt] at h90
                obtain rfl : i = (min (getS b (nsA b (iterG (namedS b) k 1).2) 1) 7).toNat := by omega
                refine AL_o rfl rfl rfl rfl ?_
                refine AL_o rfl rfl rfl rfl ?_
                refine AL_p (x_pickF rfl rfl rfl) ?_
                refine AL_nil ?_
                refine AW_condF rfl ?_
                refine AW_exit (BQ_hit ?_)
                refine AW_region ?_
                refine AL_p (x_field (off := 1) (o' := 1) rfl rfl rfl (by kernel_rfl) rfl) ?_
                refine AL_p (x_field (off := 1) (o' := 2) rfl rfl rfl (by kernel_rfl) rfl) ?_
                refine AL_p (x_load1 rfl rfl rfl (by kernel_rfl) rfl) ?_
                refine AL_p (x_loadN (n := 1) rfl rfl rfl (by kernel_rfl) rfl rfl) ?_
                refine AL_p (y_bslice (E := 92) (e := rowE) [.tmp 134] ([(rowS b (min (getS b (nsA b (iterG (namedS b) k 1).2) 1) 7).toNat (iterG (rowS b (min (getS b (nsA b (iterG (namedS b) k 1).2) 1) 7).toNat) j (nsA b (iterG (namedS b) k 1).2 + 3)).2).1]) 111 rfl rfl rfl rfl rfl rfl rfl rfl FitL.rf rfl rfl rfl rfl rfl rfl (by kernel_rfl)) ?_
                refine AL_p (y_append 112 rfl rfl rfl rfl rfl rfl rfl rfl (by kernel_rfl) (by simp only [iterG_len, List.length_cons, List.length_nil]; omega)) ?_
                refine AL_p (x_field (off := 1) (o' := 1) rfl rfl rfl (by kernel_rfl) rfl) ?_
                refine AL_p (x_field (off := 1) (o' := 2) rfl rfl rfl (by kernel_rfl) rfl) ?_
                refine AL_p (x_store (n := 1) rfl rfl rfl rfl (by kernel_rfl) rfl rfl rfl) ?_
                refine AL_nil ?_
                refine AW_region ?_
                refine AL_p (x_move rfl rfl) ?_
                refine AL_p (x_add rfl rfl rfl (IntWalk.i64_in _ (by omega))) ?_
                refine AL_p (x_assign rfl rfl) ?_
                refine AL_nil ?_
                refine ⟨⟨j + 1, by omega⟩, rn [(105, 112)], ?_, by dsimp only; omega⟩
                exact ⟨by (repeat refine ⟨⟨_, rfl, by first | exact VLe.rf | exact vle_int (by dsimp only; omega)⟩, ?_⟩); exact trivial, by (repeat refine ⟨⟨_, rfl, by first | exact BLe.rf | exact BLe.box AllC.rf | exact BLe.arr (by exact rfl)⟩, ?_⟩); exact trivial, by repeat (first | exact trivial | refine ⟨⟨rfl, by first | (left; intro h; cases h) | (right; rfl), fun _ h => ⟨_, h⟩⟩, ?_⟩), rfl⟩
            · try simp only [decide_eq_true_eq, decide_eq_false_iff_not, Bool.not_eq_true, Bool.not_eq_false, Bool.not_eq_true', Bool.not_eq_false', beq_iff_eq, bne_iff_ne, beq_eq_false_iff_ne, bne_eq_false_iff_eq, Int.not_lt, Int.not_le, ge_iff_le, gt_iff_lt] at h81
              obtain rfl : j = (min (getS b (nsA b (iterG (namedS b) k 1).2 + 1) 2) 301).toNat := by omega
              refine AW_condF rfl ?_
              refine AW_exit (BQ_hit ?_)
              refine AW_region ?_
              refine AL_p (x_field (off := 0) (o' := 0) rfl rfl rfl (by kernel_rfl) rfl) ?_
              refine AL_p (x_load1 rfl rfl rfl (by kernel_rfl) rfl) ?_
              refine AL_p (x_loadN (n := 3) rfl rfl rfl (by kernel_rfl) rfl rfl) ?_
              refine AL_p (y_bslice (E := 89) (e := namedE) [.tmp 141] ([(namedS b (iterG (namedS b) k 1).2).1]) 113 rfl rfl rfl rfl rfl rfl rfl rfl FitL.rf rfl rfl rfl rfl rfl rfl (by kernel_rfl)) ?_
              refine AL_p (y_append 114 rfl rfl rfl rfl rfl rfl rfl rfl (by kernel_rfl) (by simp only [iterG_len, List.length_cons, List.length_nil]; omega)) ?_
              refine AL_p (x_field (off := 0) (o' := 0) rfl rfl rfl (by kernel_rfl) rfl) ?_
              refine AL_p (x_store (n := 1) rfl rfl rfl rfl (by kernel_rfl) rfl rfl rfl) ?_
              refine AL_nil ?_
              refine AW_region ?_
              refine AL_p (x_move rfl rfl) ?_
              refine AL_p (x_add rfl rfl rfl (IntWalk.i64_in _ (by omega))) ?_
              refine AL_p (x_assign rfl rfl) ?_
              refine AL_nil ?_
              refine ⟨⟨k + 1, by omega⟩, rn [(103, 114)], ?_, by dsimp only; omega⟩
              exact ⟨by (repeat refine ⟨⟨_, rfl, by first | exact VLe.rf | exact vle_int (by dsimp only; omega)⟩, ?_⟩); exact trivial, by (repeat refine ⟨⟨_, rfl, by first | exact BLe.rf | exact BLe.box AllC.rf | exact BLe.arr (by exact rfl)⟩, ?_⟩); exact trivial, by repeat (first | exact trivial | refine ⟨⟨rfl, by first | (left; intro h; cases h) | (right; rfl), fun _ h => ⟨_, h⟩⟩, ?_⟩), rfl⟩
          · try simp only [decide_eq_true_eq, decide_eq_false_iff_not, Bool.not_eq_true, Bool.not_eq_false, Bool.not_eq_true', Bool.not_eq_false', beq_iff_eq, bne_iff_ne, beq_eq_false_iff_ne, bne_eq_false_iff_eq, Int.not_lt, Int.not_le, ge_iff_le, gt_iff_lt] at h78
            obtain rfl : j = (min (getS b (nsA b (iterG (namedS b) k 1).2 + 1) 2) 301).toNat := by omega
            refine AL_o rfl rfl rfl rfl ?_
            refine AL_o rfl rfl rfl rfl ?_
            refine AL_p (x_pickF rfl rfl rfl) ?_
            refine AL_nil ?_
            refine AW_condF rfl ?_
            refine AW_exit (BQ_hit ?_)
            refine AW_region ?_
            refine AL_p (x_field (off := 0) (o' := 0) rfl rfl rfl (by kernel_rfl) rfl) ?_
            refine AL_p (x_load1 rfl rfl rfl (by kernel_rfl) rfl) ?_
            refine AL_p (x_loadN (n := 3) rfl rfl rfl (by kernel_rfl) rfl rfl) ?_
            refine AL_p (y_bslice (E := 89) (e := namedE) [.tmp 141] ([(namedS b (iterG (namedS b) k 1).2).1]) 113 rfl rfl rfl rfl rfl rfl rfl rfl FitL.rf rfl rfl rfl rfl rfl rfl (by kernel_rfl)) ?_
            refine AL_p (y_append 114 rfl rfl rfl rfl rfl rfl rfl rfl (by kernel_rfl) (by simp only [iterG_len, List.length_cons, List.length_nil]; omega)) ?_
            refine AL_p (x_field (off := 0) (o' := 0) rfl rfl rfl (by kernel_rfl) rfl) ?_
            refine AL_p (x_store (n := 1) rfl rfl rfl rfl (by kernel_rfl) rfl rfl rfl) ?_
            refine AL_nil ?_
            refine AW_region ?_
            refine AL_p (x_move rfl rfl) ?_
            refine AL_p (x_add rfl rfl rfl (IntWalk.i64_in _ (by omega))) ?_
            refine AL_p (x_assign rfl rfl) ?_
            refine AL_nil ?_
            refine ⟨⟨k + 1, by omega⟩, rn [(103, 114)], ?_, by dsimp only; omega⟩
            exact ⟨by (repeat refine ⟨⟨_, rfl, by first | exact VLe.rf | exact vle_int (by dsimp only; omega)⟩, ?_⟩); exact trivial, by (repeat refine ⟨⟨_, rfl, by first | exact BLe.rf | exact BLe.box AllC.rf | exact BLe.arr (by exact rfl)⟩, ?_⟩); exact trivial, by repeat (first | exact trivial | refine ⟨⟨rfl, by first | (left; intro h; cases h) | (right; rfl), fun _ h => ⟨_, h⟩⟩, ?_⟩), rfl⟩
        · try simp only [decide_eq_true_eq, decide_eq_false_iff_not, Bool.not_eq_true, Bool.not_eq_false, Bool.not_eq_true', Bool.not_eq_false', beq_iff_eq, bne_iff_ne, beq_eq_false_iff_ne, bne_eq_false_iff_eq, Int.not_lt, Int.not_le, ge_iff_le, gt_iff_lt] at h39
          have hend : ¬ (k : Int) < getS b 0 1 ∨ ¬ (iterG (namedS b) k 1).2 < (b.length : Int) := .inr (by omega)
          refine AW_condF rfl ?_
          refine AW_exit (BQ_hit ?_)
          refine AW_seq ?_
          refine AW_region ?_
          refine AL_p (x_loadN (n := 1) rfl rfl rfl (by kernel_rfl) rfl rfl) ?_
          refine AL_p (x_callR rfl rfl rfl (storeBytesS_c (⟨(iterG (namedS b) k 1).1⟩ : Storet) (storeS_small b (by omega)) 115) rfl AllV.rf rfl rfl rfl rfl rfl) ?_
          refine AL_p (x_move rfl rfl) ?_
          refine AL_p (x_extract rfl rfl rfl) ?_
          refine AL_b (x_extract rfl rfl rfl) (fun b149 h149 => ?_)
          refine AL_p (x_assign rfl rfl) ?_
          refine AL_p (x_assign rfl rfl) ?_
          refine AL_nil ?_
          refine AW_seq ?_
          refine AW_seq ?_
          refine AW_region ?_
          refine AL_p (x_move rfl rfl) ?_
          refine AL_p (x_not rfl rfl) ?_
          refine AL_p (x_move rfl rfl) ?_
          cases b149
          rotate_left
          · try simp only [decide_eq_true_eq, decide_eq_false_iff_not, Bool.not_eq_true, Bool.not_eq_false, Bool.not_eq_true', Bool.not_eq_false', beq_iff_eq, bne_iff_ne, beq_eq_false_iff_ne, bne_eq_false_iff_eq, Int.not_lt, Int.not_le, ge_iff_le, gt_iff_lt] at h149
            refine AL_g rfl rfl (x_move rfl rfl) ?_
            refine AL_g rfl rfl (x_move rfl rfl) ?_
            refine AL_gbc rfl rfl (x_callR rfl rfl rfl (same8_c _ _) rfl AllV.rf rfl rfl rfl rfl rfl) (fun b155 h155 => ?_)
            refine AL_g rfl rfl (x_not rfl rfl) ?_
            refine AL_p (x_pickF rfl rfl rfl) ?_
            refine AL_nil ?_
            cases b155
            rotate_left
            · try simp only [decide_eq_true_eq, decide_eq_false_iff_not, Bool.not_eq_true, Bool.not_eq_false, Bool.not_eq_true', Bool.not_eq_false', beq_iff_eq, bne_iff_ne, beq_eq_false_iff_ne, bne_eq_false_iff_eq, Int.not_lt, Int.not_le, ge_iff_le, gt_iff_lt] at h155
              have hno := storeRead_yes (Prod.ext h155 h149 : storeBytes (⟨(iterG (namedS b) k 1).1⟩ : Storet) = (b, true))
              refine AW_condF rfl ?_
              refine AW_skip ?_
              refine AW_seq ?_
              refine AW_region ?_
              refine AL_p (x_loadN (n := 1) rfl rfl rfl (by kernel_rfl) rfl rfl) ?_
              refine AL_p (x_store (n := 1) rfl rfl rfl rfl (by kernel_rfl) rfl rfl rfl) ?_
              refine AL_p (x_assign rfl rfl) ?_
              refine AL_nil ?_
              refine AW_ret ?_
              exact ⟨rn [(9, 100), (0, 103)], ⟨⟨⟨_, rfl, VLe.rf⟩, ⟨_, rfl, by first | exact VLe.rf | exact vle_bool (by rw [hno])⟩, trivial⟩, ⟨⟨_, rfl, by first | exact BLe.rf | exact ble_eq (by rw [hno]; rfl)⟩, ⟨_, rfl, by first | exact BLe.rf | (refine BLe.arr ?_; rw [hno]; done) | (refine BLe.arr ?_; rw [hno]; rfl) | (refine BLe.arr ?_; rw [hno]; exact rfl)⟩, trivial⟩, trivial, rfl⟩⟩
            · try simp only [decide_eq_true_eq, decide_eq_false_iff_not, Bool.not_eq_true, Bool.not_eq_false, Bool.not_eq_true', Bool.not_eq_false', beq_iff_eq, bne_iff_ne, beq_eq_false_iff_ne, bne_eq_false_iff_eq, Int.not_lt, Int.not_le, ge_iff_le, gt_iff_lt] at h155
              have hno := storeRead_noS (b := b) (k := k) (by omega) hy0 (by omega) hend (fun e => h155 (by rw [e]))
              refine AW_condT rfl ?_
              refine AW_seq ?_
              refine AW_region ?_
              refine AL_p (x_build (zs := [.slice none 0 0]) (places := [(0, 1)]) rfl (by kernel_rfl) rfl rfl rfl rfl rfl) ?_
              refine AL_p (x_store (n := 1) rfl rfl rfl rfl (by kernel_rfl) rfl rfl rfl) ?_
              refine AL_p (x_assign rfl rfl) ?_
              refine AL_nil ?_
              refine AW_adopt (T := 89) (e := namedE) 102 100 0 rfl rfl rfl rfl rfl ?_
              refine AW_ret ?_
              exact ⟨rn [(9, 100), (0, 102)], ⟨⟨⟨_, rfl, VLe.rf⟩, ⟨_, rfl, by first | exact VLe.rf | exact vle_bool (by rw [hno])⟩, trivial⟩, ⟨⟨_, rfl, by first | exact BLe.rf | exact ble_eq (by rw [hno]; rfl)⟩, ⟨_, rfl, by first | exact BLe.rf | (refine BLe.arr ?_; rw [hno]; done) | (refine BLe.arr ?_; rw [hno]; rfl) | (refine BLe.arr ?_; rw [hno]; exact rfl)⟩, trivial⟩, trivial, rfl⟩⟩
          · try simp only [decide_eq_true_eq, decide_eq_false_iff_not, Bool.not_eq_true, Bool.not_eq_false, Bool.not_eq_true', Bool.not_eq_false', beq_iff_eq, bne_iff_ne, beq_eq_false_iff_ne, bne_eq_false_iff_eq, Int.not_lt, Int.not_le, ge_iff_le, gt_iff_lt] at h149
            have hno := storeRead_noS (b := b) (k := k) (by omega) hy0 (by omega) hend (fun e => by rw [e] at h149; cases h149)
            refine AL_o rfl rfl rfl rfl ?_
            refine AL_o rfl rfl rfl rfl ?_
            refine AL_o rfl rfl rfl rfl ?_
            refine AL_o rfl rfl rfl rfl ?_
            refine AL_p (x_pickT rfl rfl rfl) ?_
            refine AL_nil ?_
            refine AW_condT rfl ?_
            refine AW_seq ?_
            refine AW_region ?_
            refine AL_p (x_build (zs := [.slice none 0 0]) (places := [(0, 1)]) rfl (by kernel_rfl) rfl rfl rfl rfl rfl) ?_
            refine AL_p (x_store (n := 1) rfl rfl rfl rfl (by kernel_rfl) rfl rfl rfl) ?_
            refine AL_p (x_assign rfl rfl) ?_
            refine AL_nil ?_
            refine AW_adopt (T := 89) (e := namedE) 102 100 0 rfl rfl rfl rfl rfl ?_
            refine AW_ret ?_
            exact ⟨rn [(9, 100), (0, 102)], ⟨⟨⟨_, rfl, VLe.rf⟩, ⟨_, rfl, by first | exact VLe.rf | exact vle_bool (by rw [hno])⟩, trivial⟩, ⟨⟨_, rfl, by first | exact BLe.rf | exact ble_eq (by rw [hno]; rfl)⟩, ⟨_, rfl, by first | exact BLe.rf | (refine BLe.arr ?_; rw [hno]; done) | (refine BLe.arr ?_; rw [hno]; rfl) | (refine BLe.arr ?_; rw [hno]; exact rfl)⟩, trivial⟩, trivial, rfl⟩⟩
      · try simp only [decide_eq_true_eq, decide_eq_false_iff_not, Bool.not_eq_true, Bool.not_eq_false, Bool.not_eq_true', Bool.not_eq_false', beq_iff_eq, bne_iff_ne, beq_eq_false_iff_ne, bne_eq_false_iff_eq, Int.not_lt, Int.not_le, ge_iff_le, gt_iff_lt] at h34
        have hend : ¬ (k : Int) < getS b 0 1 ∨ ¬ (iterG (namedS b) k 1).2 < (b.length : Int) := .inl (by omega)
        refine AL_o rfl rfl rfl rfl ?_
        refine AL_o rfl rfl rfl rfl ?_
        refine AL_o rfl rfl rfl rfl ?_
        refine AL_o rfl rfl rfl rfl ?_
        refine AL_p (x_pickF rfl rfl rfl) ?_
        refine AL_nil ?_
        refine AW_condF rfl ?_
        refine AW_exit (BQ_hit ?_)
        refine AW_seq ?_
        refine AW_region ?_
        refine AL_p (x_loadN (n := 1) rfl rfl rfl (by kernel_rfl) rfl rfl) ?_
        refine AL_p (x_callR rfl rfl rfl (storeBytesS_c (⟨(iterG (namedS b) k 1).1⟩ : Storet) (storeS_small b (by omega)) 115) rfl AllV.rf rfl rfl rfl rfl rfl) ?_
        refine AL_p (x_move rfl rfl) ?_
        refine AL_p (x_extract rfl rfl rfl) ?_
        refine AL_b (x_extract rfl rfl rfl) (fun b149 h149 => ?_)
        refine AL_p (x_assign rfl rfl) ?_
        refine AL_p (x_assign rfl rfl) ?_
        refine AL_nil ?_
        refine AW_seq ?_
        refine AW_seq ?_
        refine AW_region ?_
        refine AL_p (x_move rfl rfl) ?_
        refine AL_p (x_not rfl rfl) ?_
        refine AL_p (x_move rfl rfl) ?_
        cases b149
        rotate_left
        · try simp only [decide_eq_true_eq, decide_eq_false_iff_not, Bool.not_eq_true, Bool.not_eq_false, Bool.not_eq_true', Bool.not_eq_false', beq_iff_eq, bne_iff_ne, beq_eq_false_iff_ne, bne_eq_false_iff_eq, Int.not_lt, Int.not_le, ge_iff_le, gt_iff_lt] at h149
          refine AL_g rfl rfl (x_move rfl rfl) ?_
          refine AL_g rfl rfl (x_move rfl rfl) ?_
          refine AL_gbc rfl rfl (x_callR rfl rfl rfl (same8_c _ _) rfl AllV.rf rfl rfl rfl rfl rfl) (fun b155 h155 => ?_)
          refine AL_g rfl rfl (x_not rfl rfl) ?_
          refine AL_p (x_pickF rfl rfl rfl) ?_
          refine AL_nil ?_
          cases b155
          rotate_left
          · try simp only [decide_eq_true_eq, decide_eq_false_iff_not, Bool.not_eq_true, Bool.not_eq_false, Bool.not_eq_true', Bool.not_eq_false', beq_iff_eq, bne_iff_ne, beq_eq_false_iff_ne, bne_eq_false_iff_eq, Int.not_lt, Int.not_le, ge_iff_le, gt_iff_lt] at h155
            have hno := storeRead_yes (Prod.ext h155 h149 : storeBytes (⟨(iterG (namedS b) k 1).1⟩ : Storet) = (b, true))
            refine AW_condF rfl ?_
            refine AW_skip ?_
            refine AW_seq ?_
            refine AW_region ?_
            refine AL_p (x_loadN (n := 1) rfl rfl rfl (by kernel_rfl) rfl rfl) ?_
            refine AL_p (x_store (n := 1) rfl rfl rfl rfl (by kernel_rfl) rfl rfl rfl) ?_
            refine AL_p (x_assign rfl rfl) ?_
            refine AL_nil ?_
            refine AW_ret ?_
            exact ⟨rn [(9, 100), (0, 103)], ⟨⟨⟨_, rfl, VLe.rf⟩, ⟨_, rfl, by first | exact VLe.rf | exact vle_bool (by rw [hno])⟩, trivial⟩, ⟨⟨_, rfl, by first | exact BLe.rf | exact ble_eq (by rw [hno]; rfl)⟩, ⟨_, rfl, by first | exact BLe.rf | (refine BLe.arr ?_; rw [hno]; done) | (refine BLe.arr ?_; rw [hno]; rfl) | (refine BLe.arr ?_; rw [hno]; exact rfl)⟩, trivial⟩, trivial, rfl⟩⟩
          · try simp only [decide_eq_true_eq, decide_eq_false_iff_not, Bool.not_eq_true, Bool.not_eq_false, Bool.not_eq_true', Bool.not_eq_false', beq_iff_eq, bne_iff_ne, beq_eq_false_iff_ne, bne_eq_false_iff_eq, Int.not_lt, Int.not_le, ge_iff_le, gt_iff_lt] at h155
            have hno := storeRead_noS (b := b) (k := k) (by omega) hy0 (by omega) hend (fun e => h155 (by rw [e]))
            refine AW_condT rfl ?_
            refine AW_seq ?_
            refine AW_region ?_
            refine AL_p (x_build (zs := [.slice none 0 0]) (places := [(0, 1)]) rfl (by kernel_rfl) rfl rfl rfl rfl rfl) ?_
            refine AL_p (x_store (n := 1) rfl rfl rfl rfl (by kernel_rfl) rfl rfl rfl) ?_
            refine AL_p (x_assign rfl rfl) ?_
            refine AL_nil ?_
            refine AW_adopt (T := 89) (e := namedE) 102 100 0 rfl rfl rfl rfl rfl ?_
            refine AW_ret ?_
            exact ⟨rn [(9, 100), (0, 102)], ⟨⟨⟨_, rfl, VLe.rf⟩, ⟨_, rfl, by first | exact VLe.rf | exact vle_bool (by rw [hno])⟩, trivial⟩, ⟨⟨_, rfl, by first | exact BLe.rf | exact ble_eq (by rw [hno]; rfl)⟩, ⟨_, rfl, by first | exact BLe.rf | (refine BLe.arr ?_; rw [hno]; done) | (refine BLe.arr ?_; rw [hno]; rfl) | (refine BLe.arr ?_; rw [hno]; exact rfl)⟩, trivial⟩, trivial, rfl⟩⟩
        · try simp only [decide_eq_true_eq, decide_eq_false_iff_not, Bool.not_eq_true, Bool.not_eq_false, Bool.not_eq_true', Bool.not_eq_false', beq_iff_eq, bne_iff_ne, beq_eq_false_iff_ne, bne_eq_false_iff_eq, Int.not_lt, Int.not_le, ge_iff_le, gt_iff_lt] at h149
          have hno := storeRead_noS (b := b) (k := k) (by omega) hy0 (by omega) hend (fun e => by rw [e] at h149; cases h149)
          refine AL_o rfl rfl rfl rfl ?_
          refine AL_o rfl rfl rfl rfl ?_
          refine AL_o rfl rfl rfl rfl ?_
          refine AL_o rfl rfl rfl rfl ?_
          refine AL_p (x_pickT rfl rfl rfl) ?_
          refine AL_nil ?_
          refine AW_condT rfl ?_
          refine AW_seq ?_
          refine AW_region ?_
          refine AL_p (x_build (zs := [.slice none 0 0]) (places := [(0, 1)]) rfl (by kernel_rfl) rfl rfl rfl rfl rfl) ?_
          refine AL_p (x_store (n := 1) rfl rfl rfl rfl (by kernel_rfl) rfl rfl rfl) ?_
          refine AL_p (x_assign rfl rfl) ?_
          refine AL_nil ?_
          refine AW_adopt (T := 89) (e := namedE) 102 100 0 rfl rfl rfl rfl rfl ?_
          refine AW_ret ?_
          exact ⟨rn [(9, 100), (0, 102)], ⟨⟨⟨_, rfl, VLe.rf⟩, ⟨_, rfl, by first | exact VLe.rf | exact vle_bool (by rw [hno])⟩, trivial⟩, ⟨⟨_, rfl, by first | exact BLe.rf | exact ble_eq (by rw [hno]; rfl)⟩, ⟨_, rfl, by first | exact BLe.rf | (refine BLe.arr ?_; rw [hno]; done) | (refine BLe.arr ?_; rw [hno]; rfl) | (refine BLe.arr ?_; rw [hno]; exact rfl)⟩, trivial⟩, trivial, rfl⟩⟩
theorem storeReadS_c (b : List Int) (k : Nat) : AC Try.prog 29 [.one (.sl (intE .u8) b)] [] (.tup [.agg [.own k], .one (.c (.bool (storeRead b).2))]) [(k, some (.arr 89 namedE (storeRead b).1.rels true))] := AC.at (storeReadS_c0 b) k
end Go.Proofs.Ytibhoanjglfaoaa

/- How much the marks of a store that was read count. -/
namespace Go.Proofs.Ytibhoanjglfaoaa
open Go.RowKit
set_option linter.unusedVariables false

theorem storeOk_cnt {s : Storet} (h : storeOk s = true) : cntDStore s ≤ 1152921504606846976 := by
  have hm := storeOk_max h
  have h1 := cntL_le (c := cntNamed) (M := 3602) (xs := s.rels) fun x hx => by
    obtain ⟨j, hj, rfl⟩ := List.getElem_of_mem hx
    have hr := relOk_small (storeOk_rel h hj)
    have h2 := cntL_le (c := cntRow) (M := 12) (xs := s.rels[j].rel.rows) fun row hrow => by
      have h3 := cntL_le (c := cntValue) (M := 2) (xs := row) fun v _ => by simp [cntValue]
      have := hr.2.2.2 row hrow
      unfold cntRow; omega
    have := hr.2.2.1
    unfold cntNamed; omega
  unfold cntDStore
  omega
theorem storeRead_cnt (b : List Int) : cntDStore (storeRead b).1 ≤ 1152921504606846976 := by
  unfold storeRead
  split
  · rename_i h
    exact storeOk_cnt (storeBytes_read h).2.1
  · simp [cntDStore, cntL]
end Go.Proofs.Ytibhoanjglfaoaa

/- The walk of FnExactStoreRead (printed by walk.py) -/
namespace Go.Proofs.Ytibhoanjglfaoaa
open Go.RowKit
set_option linter.unusedVariables false
set_option linter.unusedSimpArgs false
set_option maxRecDepth 100000

set_option maxHeartbeats 4000000 in
theorem lawFnExactStoreRead.walk (w : World) (a0 : Option Addr) (n0 p0 : Nat) (x0 : List Int) (b0 : List Nat) (h0 : SliceRep (intE .u8) w a0 n0 p0 x0 b0) :
    Calls Try.prog 6 #[.slice a0 n0 p0] w fun e w' => e = .returned (.bool true) ∧ Below w.heap.size w w' := by
  refine AM_law (r := 2) Try.func6 rfl Try.ntmps6 rfl Try.results6 w _ (args := [.one (.sl (intE .u8) x0)]) ⟨arg_sl h0 h0.lt, trivial⟩ (fun B => ?_)
  refine AM_seq ?_
  refine AM_region ?_
  refine AL_p (x_assign rfl rfl) ?_
  refine AL_nil ?_
  refine AM_seq ?_
  refine AM_seq ?_
  refine AM_region ?_
  refine AL_p (x_move rfl rfl) ?_
  refine AL_p (x_len (E := 5) (n := 1) rfl rfl (by kernel_rfl)) ?_
  refine AL_b (x_gtr rfl rfl rfl) (fun b15 h15 => ?_)
  refine AL_nil ?_
  cases b15
  rotate_left
  · try simp only [decide_eq_true_eq, decide_eq_false_iff_not, Bool.not_eq_true, Bool.not_eq_false, Bool.not_eq_true', Bool.not_eq_false', beq_iff_eq, bne_iff_ne, beq_eq_false_iff_ne, bne_eq_false_iff_eq, Int.not_lt, Int.not_le, ge_iff_le, gt_iff_lt] at h15
    refine AM_condT rfl ?_
    refine AM_seq ?_
    refine AM_region ?_
    refine AL_p (x_assign rfl rfl) ?_
    refine AL_nil ?_
    refine AM_ret ?_
    exact rfl
  · try simp only [decide_eq_true_eq, decide_eq_false_iff_not, Bool.not_eq_true, Bool.not_eq_false, Bool.not_eq_true', Bool.not_eq_false', beq_iff_eq, bne_iff_ne, beq_eq_false_iff_ne, bne_eq_false_iff_eq, Int.not_lt, Int.not_le, ge_iff_le, gt_iff_lt] at h15
    have s0 := (show x0.length ≤ 1048576 by omega)
    refine AM_condF rfl ?_
    refine AM_skip ?_
    refine AM_seq ?_
    refine AM_region ?_
    refine AL_p (x_move rfl rfl) ?_
    refine AL_p (x_callR rfl rfl rfl (toByteS_c x0 s0 100) rfl AllV.rf rfl rfl rfl rfl rfl) ?_
    refine AL_p (x_callR rfl rfl rfl (storeReadS_c x0 101) rfl AllV.rf rfl rfl rfl rfl rfl) ?_
    refine AL_p (x_move rfl rfl) ?_
    refine AL_p (x_extract rfl rfl rfl) ?_
    refine AL_p (x_extract rfl rfl rfl) ?_
    refine AL_p (x_alloc (z := .agg #[.slice none 0 0]) 102 rfl (by kernel_rfl) rfl rfl rfl rfl) ?_
    refine AL_p (x_store (n := 1) rfl rfl rfl rfl (by kernel_rfl) rfl rfl rfl) ?_
    refine AL_p (x_assign rfl rfl) ?_
    refine AL_nil ?_
    refine AM_raise (fun B' => [(0, .one (.slo B' (intE .u8) (x0))), (3, .one (.epo B' storeE ((storeRead x0).1) 0)), (4, .one (.c _))]) (fun B' => ⟨⟨_, rfl, .sl⟩, ⟨_, rfl, .box (f := storeC) rfl rfl rfl FitL.rf⟩, ⟨_, rfl, .c⟩, trivial⟩) (fun B' => ?_)
    refine AM_seq ?_
    refine AM_region ?_
    refine AL_p (x_move rfl rfl) ?_
    refine AL_p (x_callR rfl rfl rfl (toByteS_c x0 s0 103) rfl AllV.rf rfl rfl rfl rfl rfl) ?_
    refine AL_p (x_assign rfl rfl) ?_
    refine AL_nil ?_
    refine AM_seq ?_
    refine AM_region ?_
    refine AL_p (x_move rfl rfl) ?_
    refine AL_p (x_callR rfl rfl rfl (storeReadI_c x0 104) rfl AllV.rf rfl rfl rfl rfl rfl) ?_
    refine AL_p (x_move rfl rfl) ?_
    refine AL_p (x_extract rfl rfl rfl) ?_
    refine AL_p (x_extract rfl rfl rfl) ?_
    refine AL_p (x_alloc (z := .agg #[.slice none 0 0]) 105 rfl (by kernel_rfl) rfl rfl rfl rfl) ?_
    refine AL_p (x_store (n := 1) rfl rfl rfl rfl (by kernel_rfl) rfl rfl rfl) ?_
    refine AL_p (x_assign rfl rfl) ?_
    refine AL_nil ?_
    refine AM_seq ?_
    refine AM_seq ?_
    refine AM_region ?_
    refine AL_p (x_loadN (n := 1) rfl rfl rfl (by kernel_rfl) rfl rfl) ?_
    refine AL_p (x_pload (f := storeC) (n := 1) rfl rfl (by kernel_rfl) rfl rfl) ?_
    refine AL_p (x_callR rfl rfl rfl (eqStore_c ((storeRead x0).1)) rfl AllV.rf rfl rfl rfl rfl rfl) ?_
    refine AL_p (x_not rfl rfl) ?_
    refine AL_p (x_move rfl rfl) ?_
    refine AL_g rfl rfl (x_move rfl rfl) ?_
    refine AL_g rfl rfl (x_move rfl rfl) ?_
    refine AL_gb rfl rfl (x_bneq rfl rfl rfl (by kernel_rfl)) (fun b36 h36 => ?_)
    refine AL_p (x_pickF rfl rfl rfl) ?_
    refine AL_nil ?_
    cases b36
    rotate_left
    · exfalso; first | (simp [ba_beq_self] at h36; done) | (simp at h36; omega)
    · try simp only [decide_eq_true_eq, decide_eq_false_iff_not, Bool.not_eq_true, Bool.not_eq_false, Bool.not_eq_true', Bool.not_eq_false', beq_iff_eq, bne_iff_ne, beq_eq_false_iff_ne, bne_eq_false_iff_eq, Int.not_lt, Int.not_le, ge_iff_le, gt_iff_lt] at h36
      refine AM_condF rfl ?_
      refine AM_skip ?_
      refine AM_seq ?_
      refine AM_seq ?_
      refine AM_region ?_
      refine AL_p (x_move rfl rfl) ?_
      refine AL_p (x_move rfl rfl) ?_
      refine AL_p (x_callR rfl rfl rfl (toByteS_c x0 s0 106) rfl AllV.rf rfl rfl rfl rfl rfl) ?_
      refine AL_p (x_callR rfl rfl rfl (eqByteS_c (x0)) rfl AllV.rf rfl rfl rfl rfl rfl) ?_
      refine AL_p (x_not rfl rfl) ?_
      refine AL_nil ?_
      refine AM_condF rfl ?_
      refine AM_skip ?_
      refine AM_seq ?_
      refine AM_region ?_
      refine AL_p (x_assign rfl rfl) ?_
      refine AL_nil ?_
      refine AM_seq ?_
      refine AM_regionM ?_
      refine LM_p (x_move rfl rfl) ?_
      refine LM_p (x_move rfl rfl) ?_
      have n0 : cntL cntByte (x0) ≤ 1152921504606846976 := (by have h := cntL_le (c := cntByte) (M := 1) (xs := x0) (fun x _ => by simp [cntByte]); omega)
      have v0 := markL_cnt markByte markByte_cnt (x0) (1)
      refine LM_markO (z := x0) (z' := (markL markByte x0 (1)).1) [(0, _), (3, _), (4, _), (6, _), (7, _), (8, _)] [(105, some _), (104, some _)] rfl rfl rfl rfl ⟨_, _, Try.func27, rfl, rfl⟩ (fun w a n cap bs h hF => markByteS_any a n cap _ bs _ 0 w h hF (by omega) (by omega)) rfl (wf64 (by omega) (by omega)) ⟨⟨rfl, rfl⟩, ⟨rfl, rfl⟩, ⟨rfl, trivial⟩, ⟨rfl, trivial⟩, ⟨rfl, trivial⟩, ⟨rfl, trivial⟩, trivial⟩ ⟨⟨rfl, ⟨rfl, trivial⟩⟩, ⟨rfl, rfl, rfl⟩, trivial⟩ ?_
      refine LM_p (x_assign rfl rfl) ?_
      refine LM_nil ?_
      refine AM_seq ?_
      refine AM_seq ?_
      refine AM_region ?_
      refine AL_p (x_move rfl rfl) ?_
      refine AL_b (x_lss rfl rfl rfl) (fun b47 h47 => ?_)
      refine AL_p (x_move rfl rfl) ?_
      cases b47
      rotate_left
      · exfalso; first | (simp [ba_beq_self] at h47; done) | (simp at h47; omega)
      · try simp only [decide_eq_true_eq, decide_eq_false_iff_not, Bool.not_eq_true, Bool.not_eq_false, Bool.not_eq_true', Bool.not_eq_false', beq_iff_eq, bne_iff_ne, beq_eq_false_iff_ne, bne_eq_false_iff_eq, Int.not_lt, Int.not_le, ge_iff_le, gt_iff_lt] at h47
        refine AL_g rfl rfl (x_loadN (n := 1) rfl rfl rfl (by kernel_rfl) rfl rfl) ?_
        refine AL_g rfl rfl (x_pload (f := storeC) (n := 1) rfl rfl (by kernel_rfl) rfl rfl) ?_
        refine AL_g rfl rfl (x_callR rfl rfl rfl (eqStore_c ((storeRead x0).1)) rfl AllV.rf rfl rfl rfl rfl rfl) ?_
        refine AL_g rfl rfl (x_not rfl rfl) ?_
        refine AL_p (x_pickF rfl rfl rfl) ?_
        refine AL_p (x_move rfl rfl) ?_
        refine AL_g rfl rfl (x_move rfl rfl) ?_
        refine AL_g rfl rfl (x_move rfl rfl) ?_
        refine AL_gb rfl rfl (x_bneq rfl rfl rfl (by kernel_rfl)) (fun b57 h57 => ?_)
        refine AL_p (x_pickF rfl rfl rfl) ?_
        refine AL_nil ?_
        cases b57
        rotate_left
        · exfalso; first | (simp [ba_beq_self] at h57; done) | (simp at h57; omega)
        · try simp only [decide_eq_true_eq, decide_eq_false_iff_not, Bool.not_eq_true, Bool.not_eq_false, Bool.not_eq_true', Bool.not_eq_false', beq_iff_eq, bne_iff_ne, beq_eq_false_iff_ne, bne_eq_false_iff_eq, Int.not_lt, Int.not_le, ge_iff_le, gt_iff_lt] at h57
          refine AM_condF rfl ?_
          refine AM_skip ?_
          refine AM_seq ?_
          refine AM_region ?_
          refine AL_p (x_assign rfl rfl) ?_
          refine AL_nil ?_
          refine AM_seq ?_
          refine AM_regionM ?_
          refine LM_p (x_loadN (n := 1) rfl rfl rfl (by kernel_rfl) rfl rfl) ?_
          refine LM_p (x_move rfl rfl) ?_
          have n1 : cntDStore ((storeRead x0).1) ≤ 1152921504606846976 := storeRead_cnt x0
          have v1 := markDStore_cnt ((storeRead x0).1) (1)
          refine LM_markAK (F := storeC) (z := (storeRead x0).1) (z' := (markDStore (storeRead x0).1 (1)).1) 6 105 (fun B' => [(0, .one (.slo B' (intE .u8) (x0))), (3, .one (.epo B' storeE ((storeRead x0).1) 0)), (4, .one (.c _)), (9, .one (.c _))]) rfl rfl rfl rfl rfl rfl rfl rfl ⟨_, _, Try.func16, rfl, rfl⟩ (fun w cs bs h hF => markDStore_any cs _ bs _ 0 w h hF (by omega) (by omega)) rfl rfl FitL.rf (wf64 (by omega) (by omega)) (fun B' => ⟨⟨_, rfl, .slo⟩, ⟨_, rfl, .epo⟩, ⟨_, rfl, .c⟩, ⟨_, rfl, .c⟩, trivial⟩) (fun B' => ?_)
          refine LM_p (x_assign rfl rfl) ?_
          refine LM_nil ?_
          refine AM_seq ?_
          refine AM_region ?_
          refine AL_p (x_assign rfl rfl) ?_
          refine AL_nil ?_
          refine AM_seq ?_
          refine AM_region ?_
          refine AL_p (x_pload (f := storeC) (n := 1) rfl rfl (by kernel_rfl) rfl rfl) ?_
          refine AL_p (x_move rfl rfl) ?_
          refine AL_p (x_callR rfl rfl rfl (heldDStore_c ((storeRead x0).1) (1) (by omega) (by omega)) rfl AllV.rf rfl rfl rfl rfl rfl) ?_
          refine AL_p (x_assign rfl rfl) ?_
          refine AL_nil ?_
          refine AM_seq ?_
          refine AM_seq ?_
          refine AM_region ?_
          refine AL_p (x_move rfl rfl) ?_
          refine AL_b (x_lss rfl rfl rfl) (fun b66 h66 => ?_)
          refine AL_nil ?_
          cases b66
          rotate_left
          · exfalso; first | (simp [ba_beq_self] at h66; done) | (simp at h66; omega)
          · try simp only [decide_eq_true_eq, decide_eq_false_iff_not, Bool.not_eq_true, Bool.not_eq_false, Bool.not_eq_true', Bool.not_eq_false', beq_iff_eq, bne_iff_ne, beq_eq_false_iff_ne, bne_eq_false_iff_eq, Int.not_lt, Int.not_le, ge_iff_le, gt_iff_lt] at h66
            refine AM_condF rfl ?_
            refine AM_skip ?_
            refine AM_seq ?_
            refine AM_seq ?_
            refine AM_region ?_
            refine AL_p (x_move rfl rfl) ?_
            refine AL_p (x_move rfl rfl) ?_
            refine AL_b (x_neq rfl rfl rfl) (fun b69 h69 => ?_)
            refine AL_nil ?_
            cases b69
            rotate_left
            · exfalso; first | (simp [ba_beq_self] at h69; done) | (simp at h69; omega)
            · try simp only [decide_eq_true_eq, decide_eq_false_iff_not, Bool.not_eq_true, Bool.not_eq_false, Bool.not_eq_true', Bool.not_eq_false', beq_iff_eq, bne_iff_ne, beq_eq_false_iff_ne, bne_eq_false_iff_eq, Int.not_lt, Int.not_le, ge_iff_le, gt_iff_lt] at h69
              refine AM_condF rfl ?_
              refine AM_skip ?_
              refine AM_seq ?_
              refine AM_region ?_
              refine AL_p (x_move rfl rfl) ?_
              refine AL_p (x_callR rfl rfl rfl (toByteS_c x0 s0 107) rfl AllV.rf rfl rfl rfl rfl rfl) ?_
              refine AL_p (x_callR rfl rfl rfl (storeReadI_c x0 108) rfl AllV.rf rfl rfl rfl rfl rfl) ?_
              refine AL_p (x_move rfl rfl) ?_
              refine AL_p (x_extract rfl rfl rfl) ?_
              refine AL_p (x_extract rfl rfl rfl) ?_
              refine AL_p (x_alloc (z := .agg #[.slice none 0 0]) 109 rfl (by kernel_rfl) rfl rfl rfl rfl) ?_
              refine AL_p (x_store (n := 1) rfl rfl rfl rfl (by kernel_rfl) rfl rfl rfl) ?_
              refine AL_p (x_assign rfl rfl) ?_
              refine AL_nil ?_
              refine AM_seq ?_
              refine AM_seq ?_
              refine AM_region ?_
              refine AL_p (x_loadN (n := 1) rfl rfl rfl (by kernel_rfl) rfl rfl) ?_
              refine AL_p (x_pload (f := storeC) (n := 1) rfl rfl (by kernel_rfl) rfl rfl) ?_
              refine AL_p (x_callR rfl rfl rfl (eqStore_c ((storeRead x0).1)) rfl AllV.rf rfl rfl rfl rfl rfl) ?_
              refine AL_p (x_not rfl rfl) ?_
              refine AL_p (x_move rfl rfl) ?_
              refine AL_g rfl rfl (x_move rfl rfl) ?_
              refine AL_g rfl rfl (x_move rfl rfl) ?_
              refine AL_gb rfl rfl (x_bneq rfl rfl rfl (by kernel_rfl)) (fun b83 h83 => ?_)
              refine AL_p (x_pickF rfl rfl rfl) ?_
              refine AL_nil ?_
              cases b83
              rotate_left
              · exfalso; first | (simp [ba_beq_self] at h83; done) | (simp at h83; omega)
              · try simp only [decide_eq_true_eq, decide_eq_false_iff_not, Bool.not_eq_true, Bool.not_eq_false, Bool.not_eq_true', Bool.not_eq_false', beq_iff_eq, bne_iff_ne, beq_eq_false_iff_ne, bne_eq_false_iff_eq, Int.not_lt, Int.not_le, ge_iff_le, gt_iff_lt] at h83
                refine AM_condF rfl ?_
                refine AM_skip ?_
                refine AM_seq ?_
                refine AM_region ?_
                refine AL_p (x_assign rfl rfl) ?_
                refine AL_nil ?_
                refine AM_seq ?_
                refine AM_region ?_
                refine AL_p (x_pload (f := storeC) (n := 1) rfl rfl (by kernel_rfl) rfl rfl) ?_
                refine AL_p (x_move rfl rfl) ?_
                refine AL_p (x_callR rfl rfl rfl (heldDStore_c ((storeRead x0).1) (1) (by omega) (by omega)) rfl AllV.rf rfl rfl rfl rfl rfl) ?_
                refine AL_p (x_assign rfl rfl) ?_
                refine AL_nil ?_
                refine AM_seq ?_
                refine AM_seq ?_
                refine AM_region ?_
                refine AL_p (x_move rfl rfl) ?_
                refine AL_b (x_lss rfl rfl rfl) (fun b89 h89 => ?_)
                refine AL_nil ?_
                cases b89
                rotate_left
                · exfalso; first | (simp [ba_beq_self] at h89; done) | (simp at h89; omega)
                · try simp only [decide_eq_true_eq, decide_eq_false_iff_not, Bool.not_eq_true, Bool.not_eq_false, Bool.not_eq_true', Bool.not_eq_false', beq_iff_eq, bne_iff_ne, beq_eq_false_iff_ne, bne_eq_false_iff_eq, Int.not_lt, Int.not_le, ge_iff_le, gt_iff_lt] at h89
                  refine AM_condF rfl ?_
                  refine AM_skip ?_
                  refine AM_seq ?_
                  refine AM_seq ?_
                  refine AM_region ?_
                  refine AL_p (x_move rfl rfl) ?_
                  refine AL_p (x_move rfl rfl) ?_
                  refine AL_b (x_neq rfl rfl rfl) (fun b92 h92 => ?_)
                  refine AL_nil ?_
                  cases b92
                  rotate_left
                  · exfalso; first | (simp [ba_beq_self] at h92; done) | (simp at h92; omega)
                  · try simp only [decide_eq_true_eq, decide_eq_false_iff_not, Bool.not_eq_true, Bool.not_eq_false, Bool.not_eq_true', Bool.not_eq_false', beq_iff_eq, bne_iff_ne, beq_eq_false_iff_ne, bne_eq_false_iff_eq, Int.not_lt, Int.not_le, ge_iff_le, gt_iff_lt] at h92
                    refine AM_condF rfl ?_
                    refine AM_skip ?_
                    refine AM_seq ?_
                    refine AM_region ?_
                    refine AL_p (x_assign rfl rfl) ?_
                    refine AL_nil ?_
                    refine AM_ret ?_
                    exact rfl
end Go.Proofs.Ytibhoanjglfaoaa

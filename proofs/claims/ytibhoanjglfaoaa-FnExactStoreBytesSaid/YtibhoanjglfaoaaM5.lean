/- Lemmas of the walks, part 5. -/
import Derived.Test.YtibhoanjglfaoaaM4
/- Numbers and texts ars bytes (printed by walk.py) -/
namespace Go.Proofs.Ytibhoanjglfaoaa
open Go.RowKit
set_option linter.unusedVariables false
set_option linter.unusedSimpArgs false
set_option maxRecDepth 100000

set_option maxHeartbeats 4000000 in
theorem putI_t (xs : List Int) (n : Int) (size : Nat) (h0 : 0 ≤ n) (h1 : n ≤ 9223372036854775807) (hs : size ≤ 6) (hl : xs.length ≤ 100000000) : AT Try.prog 69 [.one (.own 0), .one (.c (.int .i64 n)), .one (.c (.int .i64 (size : Int)))] [(0, some (.arr 5 (intE .u8) (xs) true))] (.one (.own 1)) [(1, some (.arr 5 (intE .u8) (xs ++ putB n size) true))] := by
  refine AT_body1 Try.func69 rfl rfl Try.ntmps69 rfl Try.results69 ?_
  refine AW_seq ?_
  refine AW_region ?_
  refine AL_p (x_assign rfl rfl) ?_
  refine AL_nil ?_
  refine AW_seq ?_
  refine AW_seq ?_
  refine AW_region ?_
  refine AL_p (x_move rfl rfl) ?_
  refine AL_p (x_sub rfl rfl rfl (IntWalk.i64_in _ (by omega))) ?_
  refine AL_p (x_assign rfl rfl) ?_
  refine AL_nil ?_
  refine AW_block ?_
  refine AW_loop2 (ι := {q : Nat // q ≤ size}) (fun p => [(0, .one (.own 0)), (7, .one (.c (.int .i64 (((p.1) : Int) - 1))))]) (fun p => [(0, some (.arr 5 (intE .u8) (xs ++ putTo n size (p.1)) true))]) [1] [] (fun p => (p.1)) ⟨size, Nat.le_refl _⟩ (rn []) ?_ ?_
  exact ⟨by (repeat refine ⟨⟨_, rfl, by first | exact VLe.rf | exact vle_int (by dsimp only; omega)⟩, ?_⟩); exact trivial, by (repeat refine ⟨⟨_, rfl, by first | exact BLe.rf | exact BLe.box AllC.rf | exact BLe.arr (by first | (rw [putTo_start, List.append_nil]; done) | (rw [List.append_assoc, hm]; done))⟩, ?_⟩); exact trivial, by repeat (first | exact trivial | refine ⟨⟨rfl, by first | (left; intro h; cases h) | (right; rfl), fun _ h => ⟨_, h⟩⟩, ?_⟩), rfl⟩
  rintro ⟨j, hinv⟩
  dsimp only
  have hj := hinv
  refine AW_seq ?_
  refine AW_seq ?_
  refine AW_region ?_
  refine AL_p (x_move rfl rfl) ?_
  refine AL_b (x_geq rfl rfl rfl) (fun b11 h11 => ?_)
  refine AL_nil ?_
  cases b11
  rotate_left
  · try simp only [decide_eq_true_eq, decide_eq_false_iff_not, Bool.not_eq_true, Bool.not_eq_false, Bool.not_eq_true', Bool.not_eq_false', beq_iff_eq, bne_iff_ne, beq_eq_false_iff_ne, bne_eq_false_iff_eq, Int.not_lt, Int.not_le, ge_iff_le, gt_iff_lt] at h11
    have hi : ((j : Int) - 1) = ((j - 1 : Nat) : Int) := by omega
    have hm : putTo n size j ++ [n / 256 ^ (j - 1) % 256] = putTo n size (j - 1) := by have hm := putTo_more (n := n) (size := size) (j := j - 1) (by omega); rwa [show j - 1 + 1 = j by omega] at hm
    refine AW_condT rfl ?_
    refine AW_skip ?_
    refine AW_seq ?_
    refine AW_block ?_
    refine AW_region ?_
    refine AL_p (x_move rfl rfl) ?_
    refine AL_p (x_move rfl rfl) ?_
    refine AL_p (x_move rfl rfl) ?_
    refine AL_p (x_mul rfl rfl rfl (IntWalk.i64_in _ (by omega))) ?_
    refine AL_p (x_shr rfl rfl rfl (r := n / 256 ^ (j - 1)) (by omega) (by rw [hi]; exact shr8 h0 (by omega)) (wf64i (div256_in h0).1 (by have := (div256_in (m := n) (i := j - 1) h0).2; omega))) ?_
    refine AL_p (x_conv (k' := .u8) rfl rfl (by kernel_rfl) (r := n / 256 ^ (j - 1) % 256) rfl) ?_
    refine AL_p (y_bslice (E := 5) (e := (intE .u8)) [.tmp 19] ([n / 256 ^ (j - 1) % 256]) 100 rfl rfl rfl rfl rfl rfl rfl rfl FitL.rf rfl rfl rfl rfl rfl rfl (by kernel_rfl)) ?_
    refine AL_p (y_append 101 rfl rfl rfl rfl rfl rfl rfl rfl (by kernel_rfl) (by have := putTo_len (n := n) (size := size) (j := j); simp only [List.length_append, List.length_cons, List.length_nil]; omega)) ?_
    refine AL_p (x_assign rfl rfl) ?_
    refine AL_nil ?_
    refine AW_region ?_
    refine AL_p (x_move rfl rfl) ?_
    refine AL_p (x_sub rfl rfl rfl (IntWalk.i64_in _ (by omega))) ?_
    refine AL_p (x_assign rfl rfl) ?_
    refine AL_nil ?_
    refine ⟨⟨j - 1, by omega⟩, rn [(0, 101)], ?_, by dsimp only; omega⟩
    exact ⟨by (repeat refine ⟨⟨_, rfl, by first | exact VLe.rf | exact vle_int (by dsimp only; omega)⟩, ?_⟩); exact trivial, by (repeat refine ⟨⟨_, rfl, by first | exact BLe.rf | exact BLe.box AllC.rf | exact BLe.arr (by first | (rw [putTo_start, List.append_nil]; done) | (rw [List.append_assoc, hm]; done))⟩, ?_⟩); exact trivial, by repeat (first | exact trivial | refine ⟨⟨rfl, by first | (left; intro h; cases h) | (right; rfl), fun _ h => ⟨_, h⟩⟩, ?_⟩), rfl⟩
  · try simp only [decide_eq_true_eq, decide_eq_false_iff_not, Bool.not_eq_true, Bool.not_eq_false, Bool.not_eq_true', Bool.not_eq_false', beq_iff_eq, bne_iff_ne, beq_eq_false_iff_ne, bne_eq_false_iff_eq, Int.not_lt, Int.not_le, ge_iff_le, gt_iff_lt] at h11
    refine AW_condF rfl ?_
    refine AW_exit (BQ_hit ?_)
    refine AW_seq ?_
    refine AW_region ?_
    refine AL_p (x_move rfl rfl) ?_
    refine AL_p (x_assign rfl rfl) ?_
    refine AL_nil ?_
    refine AW_ret ?_
    exact ⟨rn [(1, 0)], ⟨⟨⟨_, rfl, VLe.rf⟩, trivial⟩, ⟨⟨_, rfl, BLe.arr (by unfold putB; rw [show j = 0 by omega])⟩, trivial⟩, trivial, rfl⟩⟩

set_option maxHeartbeats 4000000 in
theorem putWordI_t (xs : List Int) (b : ByteArray) (hb : b.size ≤ 255) (hl : xs.length ≤ 100000000) : AT Try.prog 68 [.one (.own 0), .one (.c (.string b))] [(0, some (.arr 5 (intE .u8) (xs) true))] (.one (.own 1)) [(1, some (.arr 5 (intE .u8) (xs ++ [(b.size : Int)] ++ strBytes b) true))] := by
  refine AT_body1 Try.func68 rfl rfl Try.ntmps68 rfl Try.results68 ?_
  refine AW_seq ?_
  refine AW_region ?_
  refine AL_p (x_assign rfl rfl) ?_
  refine AL_nil ?_
  refine AW_seq ?_
  refine AW_region ?_
  refine AL_p (x_move rfl rfl) ?_
  refine AL_p (x_move rfl rfl) ?_
  refine AL_p (x_lens rfl rfl (by kernel_rfl)) ?_
  refine AL_p (x_conv (k' := .u8) rfl rfl (by kernel_rfl) (wrap8_id (by omega) (by omega))) ?_
  refine AL_p (y_bslice (E := 5) (e := (intE .u8)) [.tmp 8] ([(b.size : Int)]) 100 rfl rfl rfl rfl rfl rfl rfl rfl FitL.rf rfl rfl rfl rfl rfl rfl (by kernel_rfl)) ?_
  refine AL_p (y_append 101 rfl rfl rfl rfl rfl rfl rfl rfl (by kernel_rfl) (by simp; omega)) ?_
  refine AL_p (x_move rfl rfl) ?_
  refine AL_p (x_append_str (E := 5) 102 rfl rfl rfl rfl (by kernel_rfl) rfl rfl (by simp; omega)) ?_
  refine AL_p (x_assign rfl rfl) ?_
  refine AL_nil ?_
  refine AW_ret ?_
  exact ⟨rn [(1, 102)], ⟨⟨⟨_, rfl, VLe.rf⟩, trivial⟩, ⟨⟨_, rfl, BLe.rf⟩, trivial⟩, trivial, rfl⟩⟩

set_option maxHeartbeats 4000000 in
theorem putValueI_t (xs : List Int) (v : Val) (hv : valOk v = true) (hl : xs.length ≤ 90000000) : AT Try.prog 70 [.one (.own 0), .agg (valC v)] [(0, some (.arr 5 (intE .u8) (xs) true))] (.one (.own 1)) [(1, some (.arr 5 (intE .u8) (xs ++ valBytes v) true))] := by
  refine AT_body1 Try.func70 rfl rfl Try.ntmps70 rfl Try.results70 ?_
  refine AW_seq ?_
  refine AW_region ?_
  refine AL_p (x_box 100 rfl rfl rfl rfl rfl rfl rfl) ?_
  refine AL_p (x_assign rfl rfl) ?_
  refine AL_nil ?_
  refine AW_seq ?_
  refine AW_seq ?_
  refine AW_region ?_
  refine AL_p (x_field (off := 1) (o' := 1) rfl rfl rfl (by kernel_rfl) rfl) ?_
  refine AL_p (x_load1 rfl rfl rfl (by kernel_rfl) rfl) ?_
  refine AL_b (x_seql rfl rfl rfl) (fun b7 h7 => ?_)
  refine AL_nil ?_
  cases b7
  rotate_left
  · try simp only [decide_eq_true_eq, decide_eq_false_iff_not, Bool.not_eq_true, Bool.not_eq_false, Bool.not_eq_true', Bool.not_eq_false', beq_iff_eq, bne_iff_ne, beq_eq_false_iff_ne, bne_eq_false_iff_eq, Int.not_lt, Int.not_le, ge_iff_le, gt_iff_lt] at h7
    refine AW_condT rfl ?_
    refine AW_seq ?_
    refine AW_draw rfl ?_
    refine AL_p (x_move rfl rfl) ?_
    refine AL_p (y_bslice (E := 5) (e := (intE .u8)) [.const (.int .u8 (0))] ([0]) 101 rfl rfl rfl rfl rfl rfl rfl rfl FitL.rf rfl rfl rfl rfl rfl rfl (by kernel_rfl)) ?_
    refine AL_p (y_append 102 rfl rfl rfl rfl rfl rfl rfl rfl (by kernel_rfl) (by simp only [List.length_cons, List.length_nil]; omega)) ?_
    refine AL_p (x_field (off := 0) (o' := 0) rfl rfl rfl (by kernel_rfl) rfl) ?_
    refine AL_p (x_load1 rfl rfl rfl (by kernel_rfl) rfl) ?_
    refine AL_p (x_call (ks := []) (L := [(102, some _)]) (L' := [(102, none), (103, some _)]) rfl rfl rfl (AT.lend1 (putI_t (xs ++ [0]) v.n 6 (valOk_in hv).1 (by have := valOk_in hv; omega) (by omega) (by simp only [List.length_append, List.length_cons, List.length_nil]; omega)) 102 103 rfl (fun _ => rfl)) rfl AllV.rf (caught_of rfl) rfl rfl rfl ⟨rfl, trivial⟩ rfl) ?_
    refine AL_p (x_assign rfl rfl) ?_
    refine AL_nild (by kernel_rfl) ?_
    refine AW_ret ?_
    exact ⟨rn [(1, 103)], ⟨⟨⟨_, rfl, VLe.rf⟩, trivial⟩, ⟨⟨_, rfl, by first | exact BLe.arr (by rw [valBytes_num h7, List.append_assoc]) | exact BLe.arr (by rw [valBytes_word h7, List.append_assoc])⟩, trivial⟩, trivial, rfl⟩⟩
  · try simp only [decide_eq_true_eq, decide_eq_false_iff_not, Bool.not_eq_true, Bool.not_eq_false, Bool.not_eq_true', Bool.not_eq_false', beq_iff_eq, bne_iff_ne, beq_eq_false_iff_ne, bne_eq_false_iff_eq, Int.not_lt, Int.not_le, ge_iff_le, gt_iff_lt] at h7
    refine AW_condF rfl ?_
    refine AW_skip ?_
    refine AW_seq ?_
    refine AW_region ?_
    refine AL_p (x_move rfl rfl) ?_
    refine AL_p (x_field (off := 1) (o' := 1) rfl rfl rfl (by kernel_rfl) rfl) ?_
    refine AL_p (x_load1 rfl rfl rfl (by kernel_rfl) rfl) ?_
    refine AL_p (x_call (ks := []) (L := [(0, some _)]) (L' := [(0, none), (104, some _)]) rfl rfl rfl (AT.lend1 (putWordI_t xs v.s (by have := valOk_in hv; omega) (by omega)) 0 104 rfl (fun _ => rfl)) rfl AllV.rf (caught_of rfl) rfl rfl rfl ⟨rfl, trivial⟩ rfl) ?_
    refine AL_p (x_assign rfl rfl) ?_
    refine AL_nil ?_
    refine AW_ret ?_
    exact ⟨rn [(1, 104)], ⟨⟨⟨_, rfl, VLe.rf⟩, trivial⟩, ⟨⟨_, rfl, by first | exact BLe.arr (by rw [valBytes_num h7, List.append_assoc]) | exact BLe.arr (by rw [valBytes_word h7, List.append_assoc])⟩, trivial⟩, trivial, rfl⟩⟩

set_option maxHeartbeats 4000000 in
theorem storeBytesI_c0 (s : Storet) (hs : smallStore s) : AC Try.prog 25 [.agg (storeC s)] [] (.tup [.one (.own 0), .one (.c (.bool (storeBytes s).2))]) [(0, some (.arr 5 (intE .u8) ((storeBytes s).1) true))] := by
  refine AC_body2 Try.func25 rfl rfl Try.ntmps25 rfl Try.results25 rfl rfl rfl ?_
  refine AW_seq ?_
  refine AW_region ?_
  refine AL_p (x_box 100 rfl rfl rfl rfl rfl rfl rfl) ?_
  refine AL_p (x_assign rfl rfl) ?_
  refine AL_p (x_assign rfl rfl) ?_
  refine AL_nil ?_
  refine AW_seq ?_
  refine AW_seq ?_
  refine AW_region ?_
  refine AL_p (x_loadN (n := 1) rfl rfl rfl (by kernel_rfl) rfl rfl) ?_
  refine AL_b (x_call0 rfl rfl rfl (storeOkI_c _ hs) rfl rfl) (fun b12 h12 => ?_)
  refine AL_p (x_not rfl rfl) ?_
  refine AL_nil ?_
  cases b12
  rotate_left
  · try simp only [decide_eq_true_eq, decide_eq_false_iff_not, Bool.not_eq_true, Bool.not_eq_false, Bool.not_eq_true', Bool.not_eq_false', beq_iff_eq, bne_iff_ne, beq_eq_false_iff_ne, bne_eq_false_iff_eq, Int.not_lt, Int.not_le, ge_iff_le, gt_iff_lt] at h12
    have hok := h12
    have hmx := storeOk_max h12
    refine AW_condF rfl ?_
    refine AW_skip ?_
    refine AW_seq ?_
    refine AW_region ?_
    refine AL_p (x_field (off := 0) (o' := 0) rfl rfl rfl (by kernel_rfl) rfl) ?_
    refine AL_p (x_load1 rfl rfl rfl (by kernel_rfl) rfl) ?_
    refine AL_p (x_len (E := 89) (n := 3) rfl rfl (by kernel_rfl)) ?_
    refine AL_p (x_conv (k' := .u8) rfl rfl (by kernel_rfl) (wrap8_id (by omega) (by omega))) ?_
    refine AL_p (y_bslice (E := 5) (e := (intE .u8)) [.tmp 17] ([(s.rels.length : Int)]) 101 rfl rfl rfl rfl rfl rfl rfl rfl FitL.rf rfl rfl rfl rfl rfl rfl (by kernel_rfl)) ?_
    refine AL_p (x_assign rfl rfl) ?_
    refine AL_nil ?_
    refine AW_seq ?_
    refine AW_seq ?_
    refine AW_region ?_
    refine AL_p (x_field (off := 0) (o' := 0) rfl rfl rfl (by kernel_rfl) rfl) ?_
    refine AL_p (x_load1 rfl rfl rfl (by kernel_rfl) rfl) ?_
    refine AL_p (x_len (E := 89) (n := 3) rfl rfl (by kernel_rfl)) ?_
    refine AL_p (x_move rfl rfl) ?_
    refine AL_nil ?_
    refine AW_block ?_
    refine AW_loop2 (ι := {q : Nat // q ≤ s.rels.length}) (fun p => [(4, .one (.own 101)), (22, .one (.c (.int .i64 ((p.1) : Int))))]) (fun p => [(101, some (.arr 5 (intE .u8) ([(s.rels.length : Int)] ++ flatTo namedBytes s.rels (p.1)) true))]) [20, 21] [100] (fun p => s.rels.length - (p.1)) ⟨0, by omega⟩ (rn []) ?_ ?_
    exact ⟨by (repeat refine ⟨⟨_, rfl, by first | exact VLe.rf | exact vle_int (by dsimp only; omega)⟩, ?_⟩); exact trivial, by (repeat refine ⟨⟨_, rfl, by first | exact BLe.rf | exact BLe.box AllC.rf | exact BLe.arr (by first | (rw [flatTo_zero, List.append_nil]; done) | (rw [← flatTo_more (f := namedBytes) (xs := s.rels) (k := k) (by omega), flatTo_all (f := rowBytes) (by omega)]; simp only [namedBytes, List.append_assoc]; done))⟩, ?_⟩); exact trivial, by repeat (first | exact trivial | refine ⟨⟨rfl, by first | (left; intro h; cases h) | (right; rfl), fun _ h => ⟨_, h⟩⟩, ?_⟩), rfl⟩
    rintro ⟨k, hinv⟩
    dsimp only
    have hk := hinv
    have hmx := storeOk_max hok
    have hA := names_len hok k
    refine AW_seq ?_
    refine AW_region ?_
    refine AL_b (x_lss rfl rfl rfl) (fun b23 h23 => ?_)
    refine AL_nil ?_
    refine AW_seq ?_
    cases b23
    rotate_left
    · try simp only [decide_eq_true_eq, decide_eq_false_iff_not, Bool.not_eq_true, Bool.not_eq_false, Bool.not_eq_true', Bool.not_eq_false', beq_iff_eq, bne_iff_ne, beq_eq_false_iff_ne, bne_eq_false_iff_eq, Int.not_lt, Int.not_le, ge_iff_le, gt_iff_lt] at h23
      have hrk := storeOk_rel hok (k := k) (by omega)
      have hwk := storeOk_word hok (k := k) (by omega)
      have hrs := relOk_small hrk
      refine AW_condT rfl ?_
      refine AW_skip ?_
      refine AW_seq ?_
      refine AW_block ?_
      refine AW_seq ?_
      refine AW_region ?_
      refine AL_p (x_index (E := 89) (n := 3) rfl rfl rfl (by kernel_rfl) rfl (k := k) (by omega) (by omega)) ?_
      refine AL_p (x_eloadW (n := 3) rfl rfl (by kernel_rfl) rfl) ?_
      refine AL_p (x_alloc (z := .agg #[.string ⟨#[]⟩, .int .i64 0, .slice none 0 0]) 102 rfl (by kernel_rfl) rfl rfl rfl rfl) ?_
      refine AL_p (x_store (n := 3) rfl rfl rfl rfl (by kernel_rfl) rfl rfl rfl) ?_
      refine AL_nil ?_
      refine AW_seq ?_
      refine AW_draw rfl ?_
      refine AL_p (x_move rfl rfl) ?_
      refine AL_p (x_field (off := 0) (o' := 0) rfl rfl rfl (by kernel_rfl) rfl) ?_
      refine AL_p (x_load1 rfl rfl rfl (by kernel_rfl) rfl) ?_
      refine AL_p (x_call (ks := []) (L := [(101, some _)]) (L' := [(101, none), (103, some _)]) rfl rfl rfl (AT.lend1 (putWordI_t ([(s.rels.length : Int)] ++ flatTo namedBytes s.rels k) (s.rels[k]'(by omega)).name (by omega) (by (try simp only [List.length_append, List.length_cons, List.length_nil, strBytes_len, putB_len]); omega)) 101 103 rfl (fun _ => rfl)) rfl AllV.rf (caught_of rfl) rfl rfl rfl ⟨rfl, trivial⟩ rfl) ?_
      refine AL_p (x_field (off := 1) (o' := 1) rfl rfl rfl (by kernel_rfl) rfl) ?_
      refine AL_p (x_field (off := 0) (o' := 1) rfl rfl rfl (by kernel_rfl) rfl) ?_
      refine AL_p (x_load1 rfl rfl rfl (by kernel_rfl) rfl) ?_
      refine AL_p (x_conv (k' := .u8) rfl rfl (by kernel_rfl) (wrap8_id (by omega) (by omega))) ?_
      refine AL_p (y_bslice (E := 5) (e := (intE .u8)) [.tmp 33] ([(s.rels[k]'(by omega)).rel.arity]) 104 rfl rfl rfl rfl rfl rfl rfl rfl FitL.rf rfl rfl rfl rfl rfl rfl (by kernel_rfl)) ?_
      refine AL_p (y_append 105 rfl rfl rfl rfl rfl rfl rfl rfl (by kernel_rfl) (by (try simp only [List.length_append, List.length_cons, List.length_nil, strBytes_len, putB_len]); omega)) ?_
      refine AL_p (x_assign rfl rfl) ?_
      refine AL_nild (by kernel_rfl) ?_
      refine AW_seq ?_
      refine AW_region ?_
      refine AL_p (x_move rfl rfl) ?_
      refine AL_p (x_field (off := 1) (o' := 1) rfl rfl rfl (by kernel_rfl) rfl) ?_
      refine AL_p (x_field (off := 1) (o' := 2) rfl rfl rfl (by kernel_rfl) rfl) ?_
      refine AL_p (x_load1 rfl rfl rfl (by kernel_rfl) rfl) ?_
      refine AL_p (x_len (E := 92) (n := 1) rfl rfl (by kernel_rfl)) ?_
      refine AL_p (x_call (ks := []) (L := [(105, some _)]) (L' := [(105, none), (106, some _)]) rfl rfl rfl (AT.lend1 (putI_t _ ((s.rels[k]'(by omega)).rel.rows.length : Int) 2 (by omega) (by omega) (by omega) (by (try simp only [List.length_append, List.length_cons, List.length_nil, strBytes_len, putB_len]); omega)) 105 106 rfl (fun _ => rfl)) rfl AllV.rf (caught_of rfl) rfl rfl rfl ⟨rfl, trivial⟩ rfl) ?_
      refine AL_p (x_assign rfl rfl) ?_
      refine AL_nil ?_
      refine AW_seq ?_
      refine AW_region ?_
      refine AL_p (x_field (off := 1) (o' := 1) rfl rfl rfl (by kernel_rfl) rfl) ?_
      refine AL_p (x_field (off := 1) (o' := 2) rfl rfl rfl (by kernel_rfl) rfl) ?_
      refine AL_p (x_load1 rfl rfl rfl (by kernel_rfl) rfl) ?_
      refine AL_p (x_len (E := 92) (n := 1) rfl rfl (by kernel_rfl)) ?_
      refine AL_p (x_move rfl rfl) ?_
      refine AL_nil ?_
      refine AW_block ?_
      refine AW_loop2 (ι := {q : Nat // q ≤ (s.rels[k]'(by omega)).rel.rows.length}) (fun p => [(4, .one (.own 106)), (46, .one (.c (.int .i64 ((p.1) : Int))))]) (fun p => [(106, some (.arr 5 (intE .u8) ([(s.rels.length : Int)] ++ flatTo namedBytes s.rels k ++ ([((s.rels[k]'(by omega)).name.size : Int)] ++ strBytes (s.rels[k]'(by omega)).name ++ [(s.rels[k]'(by omega)).rel.arity] ++ putB (s.rels[k]'(by omega)).rel.rows.length 2) ++ flatTo rowBytes (s.rels[k]'(by omega)).rel.rows (p.1)) true))]) [20, 21, 22, 44, 45] [100, 102] (fun p => (s.rels[k]'(by omega)).rel.rows.length - (p.1)) ⟨0, by omega⟩ (rn []) ?_ ?_
      exact ⟨by (repeat refine ⟨⟨_, rfl, by first | exact VLe.rf | exact vle_int (by dsimp only; omega)⟩, ?_⟩); exact trivial, by (repeat refine ⟨⟨_, rfl, by first | exact BLe.rf | exact BLe.box AllC.rf | exact BLe.arr (by first | (rw [flatTo_zero, List.append_nil]; simp only [List.append_assoc]; done) | (rw [← flatTo_more (f := rowBytes) (k := j) (by omega), flatTo_all (f := valBytes) (by omega)]; simp only [rowBytes, List.append_assoc]; done))⟩, ?_⟩); exact trivial, by repeat (first | exact trivial | refine ⟨⟨rfl, by first | (left; intro h; cases h) | (right; rfl), fun _ h => ⟨_, h⟩⟩, ?_⟩), rfl⟩
      rintro ⟨j, hinv⟩
      dsimp only
      have hj := hinv
      have hB := rows_len hrk j
      refine AW_seq ?_
      refine AW_region ?_
      refine AL_b (x_lss rfl rfl rfl) (fun b47 h47 => ?_)
      refine AL_nil ?_
      refine AW_seq ?_
      cases b47
      rotate_left
      · try simp only [decide_eq_true_eq, decide_eq_false_iff_not, Bool.not_eq_true, Bool.not_eq_false, Bool.not_eq_true', Bool.not_eq_false', beq_iff_eq, bne_iff_ne, beq_eq_false_iff_ne, bne_eq_false_iff_eq, Int.not_lt, Int.not_le, ge_iff_le, gt_iff_lt] at h47
        refine AW_condT rfl ?_
        refine AW_skip ?_
        refine AW_seq ?_
        refine AW_block ?_
        refine AW_seq ?_
        refine AW_region ?_
        refine AL_p (x_index (E := 92) (n := 1) rfl rfl rfl (by kernel_rfl) rfl (k := j) (by omega) (by omega)) ?_
        refine AL_p (x_eloadW (n := 1) rfl rfl (by kernel_rfl) rfl) ?_
        refine AL_p (x_alloc (z := .agg #[.slice none 0 0]) 107 rfl (by kernel_rfl) rfl rfl rfl rfl) ?_
        refine AL_p (x_store (n := 1) rfl rfl rfl rfl (by kernel_rfl) rfl rfl rfl) ?_
        refine AL_nil ?_
        refine AW_seq ?_
        refine AW_region ?_
        refine AL_p (x_field (off := 0) (o' := 0) rfl rfl rfl (by kernel_rfl) rfl) ?_
        refine AL_p (x_load1 rfl rfl rfl (by kernel_rfl) rfl) ?_
        refine AL_p (x_len (E := 94) (n := 2) rfl rfl (by kernel_rfl)) ?_
        refine AL_p (x_move rfl rfl) ?_
        refine AL_nil ?_
        refine AW_block ?_
        refine AW_loop2 (ι := {q : Nat // q ≤ ((s.rels[k]'(by omega)).rel.rows[j]'(by omega)).length}) (fun p => [(4, .one (.own 106)), (53, .one (.c (.int .i64 ((p.1) : Int))))]) (fun p => [(106, some (.arr 5 (intE .u8) ([(s.rels.length : Int)] ++ flatTo namedBytes s.rels k ++ ([((s.rels[k]'(by omega)).name.size : Int)] ++ strBytes (s.rels[k]'(by omega)).name ++ [(s.rels[k]'(by omega)).rel.arity] ++ putB (s.rels[k]'(by omega)).rel.rows.length 2) ++ flatTo rowBytes (s.rels[k]'(by omega)).rel.rows j ++ flatTo valBytes ((s.rels[k]'(by omega)).rel.rows[j]'(by omega)) (p.1)) true))]) [20, 21, 22, 44, 45, 46, 51, 52] [100, 102, 107] (fun p => ((s.rels[k]'(by omega)).rel.rows[j]'(by omega)).length - (p.1)) ⟨0, by omega⟩ (rn []) ?_ ?_
        exact ⟨by (repeat refine ⟨⟨_, rfl, by first | exact VLe.rf | exact vle_int (by dsimp only; omega)⟩, ?_⟩); exact trivial, by (repeat refine ⟨⟨_, rfl, by first | exact BLe.rf | exact BLe.box AllC.rf | exact BLe.arr (by first | (rw [flatTo_zero, List.append_nil]; done) | (rw [← flatTo_more (f := valBytes) (k := i) (by omega)]; simp only [List.append_assoc]; done))⟩, ?_⟩); exact trivial, by repeat (first | exact trivial | refine ⟨⟨rfl, by first | (left; intro h; cases h) | (right; rfl), fun _ h => ⟨_, h⟩⟩, ?_⟩), rfl⟩
        rintro ⟨i, hinv⟩
        dsimp only
        have hi := hinv
        have hrl := hrs.2.2.2 ((s.rels[k]'(by omega)).rel.rows[j]'(by omega)) (List.getElem_mem _)
        have hC := vals_len hrk (List.getElem_mem (l := (s.rels[k]'(by omega)).rel.rows) (n := j) (by omega)) i
        refine AW_seq ?_
        refine AW_region ?_
        refine AL_b (x_lss rfl rfl rfl) (fun b54 h54 => ?_)
        refine AL_nil ?_
        refine AW_seq ?_
        cases b54
        rotate_left
        · try simp only [decide_eq_true_eq, decide_eq_false_iff_not, Bool.not_eq_true, Bool.not_eq_false, Bool.not_eq_true', Bool.not_eq_false', beq_iff_eq, bne_iff_ne, beq_eq_false_iff_ne, bne_eq_false_iff_eq, Int.not_lt, Int.not_le, ge_iff_le, gt_iff_lt] at h54
          refine AW_condT rfl ?_
          refine AW_skip ?_
          refine AW_seq ?_
          refine AW_block ?_
          refine AW_seq ?_
          refine AW_region ?_
          refine AL_p (x_index (E := 94) (n := 2) rfl rfl rfl (by kernel_rfl) rfl (k := i) (by omega) (by omega)) ?_
          refine AL_p (x_eloadW (n := 2) rfl rfl (by kernel_rfl) rfl) ?_
          refine AL_p (x_alloc (z := .agg #[.int .i64 0, .string ⟨#[]⟩]) 108 rfl (by kernel_rfl) rfl rfl rfl rfl) ?_
          refine AL_p (x_store (n := 2) rfl rfl rfl rfl (by kernel_rfl) rfl rfl rfl) ?_
          refine AL_nil ?_
          refine AW_region ?_
          refine AL_p (x_move rfl rfl) ?_
          refine AL_p (x_loadN (n := 2) rfl rfl rfl (by kernel_rfl) rfl rfl) ?_
          refine AL_p (x_call (ks := []) (L := [(106, some _)]) (L' := [(106, none), (109, some _)]) rfl rfl rfl (AT.lend1 (putValueI_t _ (((s.rels[k]'(by omega)).rel.rows[j]'(by omega))[i]'(by omega)) (relOk_vals2 hrk _ (List.getElem_mem _) _ (List.getElem_mem _)) (by (try simp only [List.length_append, List.length_cons, List.length_nil, strBytes_len, putB_len]); omega)) 106 109 rfl (fun _ => rfl)) rfl AllV.rf (caught_of rfl) rfl rfl rfl ⟨rfl, trivial⟩ rfl) ?_
          refine AL_p (x_assign rfl rfl) ?_
          refine AL_nil ?_
          refine AW_region ?_
          refine AL_p (x_add rfl rfl rfl (IntWalk.i64_in _ (by omega))) ?_
          refine AL_p (x_move rfl rfl) ?_
          refine AL_nil ?_
          refine ⟨⟨i + 1, by omega⟩, rn [(106, 109)], ?_, by dsimp only; omega⟩
          exact ⟨by (repeat refine ⟨⟨_, rfl, by first | exact VLe.rf | exact vle_int (by dsimp only; omega)⟩, ?_⟩); exact trivial, by (repeat refine ⟨⟨_, rfl, by first | exact BLe.rf | exact BLe.box AllC.rf | exact BLe.arr (by first | (rw [flatTo_zero, List.append_nil]; done) | (rw [← flatTo_more (f := valBytes) (k := i) (by omega)]; simp only [List.append_assoc]; done))⟩, ?_⟩); exact trivial, by repeat (first | exact trivial | refine ⟨⟨rfl, by first | (left; intro h; cases h) | (right; rfl), fun _ h => ⟨_, h⟩⟩, ?_⟩), rfl⟩
        · try simp only [decide_eq_true_eq, decide_eq_false_iff_not, Bool.not_eq_true, Bool.not_eq_false, Bool.not_eq_true', Bool.not_eq_false', beq_iff_eq, bne_iff_ne, beq_eq_false_iff_ne, bne_eq_false_iff_eq, Int.not_lt, Int.not_le, ge_iff_le, gt_iff_lt] at h54
          refine AW_condF rfl ?_
          refine AW_exit (BQ_hit ?_)
          refine AW_region ?_
          refine AL_p (x_add rfl rfl rfl (IntWalk.i64_in _ (by omega))) ?_
          refine AL_p (x_move rfl rfl) ?_
          refine AL_nil ?_
          refine ⟨⟨j + 1, by omega⟩, rn [], ?_, by dsimp only; omega⟩
          exact ⟨by (repeat refine ⟨⟨_, rfl, by first | exact VLe.rf | exact vle_int (by dsimp only; omega)⟩, ?_⟩); exact trivial, by (repeat refine ⟨⟨_, rfl, by first | exact BLe.rf | exact BLe.box AllC.rf | exact BLe.arr (by first | (rw [flatTo_zero, List.append_nil]; simp only [List.append_assoc]; done) | (rw [← flatTo_more (f := rowBytes) (k := j) (by omega), flatTo_all (f := valBytes) (by omega)]; simp only [rowBytes, List.append_assoc]; done))⟩, ?_⟩); exact trivial, by repeat (first | exact trivial | refine ⟨⟨rfl, by first | (left; intro h; cases h) | (right; rfl), fun _ h => ⟨_, h⟩⟩, ?_⟩), rfl⟩
      · try simp only [decide_eq_true_eq, decide_eq_false_iff_not, Bool.not_eq_true, Bool.not_eq_false, Bool.not_eq_true', Bool.not_eq_false', beq_iff_eq, bne_iff_ne, beq_eq_false_iff_ne, bne_eq_false_iff_eq, Int.not_lt, Int.not_le, ge_iff_le, gt_iff_lt] at h47
        refine AW_condF rfl ?_
        refine AW_exit (BQ_hit ?_)
        refine AW_region ?_
        refine AL_p (x_add rfl rfl rfl (IntWalk.i64_in _ (by omega))) ?_
        refine AL_p (x_move rfl rfl) ?_
        refine AL_nil ?_
        refine ⟨⟨k + 1, by omega⟩, rn [(101, 106)], ?_, by dsimp only; omega⟩
        exact ⟨by (repeat refine ⟨⟨_, rfl, by first | exact VLe.rf | exact vle_int (by dsimp only; omega)⟩, ?_⟩); exact trivial, by (repeat refine ⟨⟨_, rfl, by first | exact BLe.rf | exact BLe.box AllC.rf | exact BLe.arr (by first | (rw [flatTo_zero, List.append_nil]; done) | (rw [← flatTo_more (f := namedBytes) (xs := s.rels) (k := k) (by omega), flatTo_all (f := rowBytes) (by omega)]; simp only [namedBytes, List.append_assoc]; done))⟩, ?_⟩); exact trivial, by repeat (first | exact trivial | refine ⟨⟨rfl, by first | (left; intro h; cases h) | (right; rfl), fun _ h => ⟨_, h⟩⟩, ?_⟩), rfl⟩
    · try simp only [decide_eq_true_eq, decide_eq_false_iff_not, Bool.not_eq_true, Bool.not_eq_false, Bool.not_eq_true', Bool.not_eq_false', beq_iff_eq, bne_iff_ne, beq_eq_false_iff_ne, bne_eq_false_iff_eq, Int.not_lt, Int.not_le, ge_iff_le, gt_iff_lt] at h23
      refine AW_condF rfl ?_
      refine AW_exit (BQ_hit ?_)
      refine AW_seq ?_
      refine AW_seq ?_
      refine AW_region ?_
      refine AL_p (x_move rfl rfl) ?_
      refine AL_p (x_olen (E := 5) (n := 1) rfl rfl rfl (by kernel_rfl)) ?_
      refine AL_b (x_gtr rfl rfl rfl) (fun b65 h65 => ?_)
      refine AL_nil ?_
      cases b65
      rotate_left
      · try simp only [decide_eq_true_eq, decide_eq_false_iff_not, Bool.not_eq_true, Bool.not_eq_false, Bool.not_eq_true', Bool.not_eq_false', beq_iff_eq, bne_iff_ne, beq_eq_false_iff_ne, bne_eq_false_iff_eq, Int.not_lt, Int.not_le, ge_iff_le, gt_iff_lt] at h65
        have hno := storeBytes_big hok (by rw [← storeB_to (k := k) (by omega)]; exact h65)
        refine AW_condT rfl ?_
        refine AW_seq ?_
        refine AW_region ?_
        refine AL_p (x_assign rfl rfl) ?_
        refine AL_p (x_assign rfl rfl) ?_
        refine AL_nil ?_
        refine AW_adoptT (T := 5) (e := (intE .u8)) 110 2 rfl rfl rfl ?_
        refine AW_ret ?_
        exact ⟨rn [(0, 110)], ⟨⟨⟨_, rfl, VLe.rf⟩, ⟨_, rfl, by first | exact VLe.rf | exact vle_bool (by rw [hno])⟩, trivial⟩, ⟨⟨_, rfl, by first | exact BLe.rf | (refine BLe.arr ?_; rw [hno]; done) | (refine BLe.arr ?_; rw [hno]; exact storeB_to (by omega))⟩, trivial⟩, trivial, rfl⟩⟩
      · try simp only [decide_eq_true_eq, decide_eq_false_iff_not, Bool.not_eq_true, Bool.not_eq_false, Bool.not_eq_true', Bool.not_eq_false', beq_iff_eq, bne_iff_ne, beq_eq_false_iff_ne, bne_eq_false_iff_eq, Int.not_lt, Int.not_le, ge_iff_le, gt_iff_lt] at h65
        have hno := storeBytes_ok hok (by rw [← storeB_to (k := k) (by omega)]; omega)
        refine AW_condF rfl ?_
        refine AW_skip ?_
        refine AW_seq ?_
        refine AW_region ?_
        refine AL_p (x_move rfl rfl) ?_
        refine AL_p (x_assign rfl rfl) ?_
        refine AL_p (x_assign rfl rfl) ?_
        refine AL_nil ?_
        refine AW_ret ?_
        exact ⟨rn [(0, 101)], ⟨⟨⟨_, rfl, VLe.rf⟩, ⟨_, rfl, by first | exact VLe.rf | exact vle_bool (by rw [hno])⟩, trivial⟩, ⟨⟨_, rfl, by first | exact BLe.rf | (refine BLe.arr ?_; rw [hno]; done) | (refine BLe.arr ?_; rw [hno]; exact storeB_to (by omega))⟩, trivial⟩, trivial, rfl⟩⟩
  · try simp only [decide_eq_true_eq, decide_eq_false_iff_not, Bool.not_eq_true, Bool.not_eq_false, Bool.not_eq_true', Bool.not_eq_false', beq_iff_eq, bne_iff_ne, beq_eq_false_iff_ne, bne_eq_false_iff_eq, Int.not_lt, Int.not_le, ge_iff_le, gt_iff_lt] at h12
    have hno := storeBytes_no h12
    refine AW_condT rfl ?_
    refine AW_seq ?_
    refine AW_region ?_
    refine AL_p (x_assign rfl rfl) ?_
    refine AL_p (x_assign rfl rfl) ?_
    refine AL_nil ?_
    refine AW_adoptT (T := 5) (e := (intE .u8)) 110 2 rfl rfl rfl ?_
    refine AW_ret ?_
    exact ⟨rn [(0, 110)], ⟨⟨⟨_, rfl, VLe.rf⟩, ⟨_, rfl, by first | exact VLe.rf | exact vle_bool (by rw [hno])⟩, trivial⟩, ⟨⟨_, rfl, by first | exact BLe.rf | (refine BLe.arr ?_; rw [hno]; done) | (refine BLe.arr ?_; rw [hno]; exact storeB_to (by omega))⟩, trivial⟩, trivial, rfl⟩⟩
theorem storeBytesI_c (s : Storet) (hs : smallStore s) (k : Nat) : AC Try.prog 25 [.agg (storeC s)] [] (.tup [.one (.own k), .one (.c (.bool (storeBytes s).2))]) [(k, some (.arr 5 (intE .u8) ((storeBytes s).1) true))] := AC.at (storeBytesI_c0 s hs) k

set_option maxHeartbeats 4000000 in
theorem powN_c (n : Nat) (h1 : n ≤ 6) : AC Try.prog 150 [.one (.c (.int .i64 (n : Int)))] [] (.one (.c (.int .i64 ((256 : Int) ^ n)))) [] := by
  refine AC_body1 Try.func150 rfl rfl Try.ntmps150 rfl Try.results150 ?_
  refine AW_seq ?_
  refine AW_region ?_
  refine AL_p (x_assign rfl rfl) ?_
  refine AL_nil ?_
  refine AW_seq ?_
  refine AW_region ?_
  refine AL_p (x_assign rfl rfl) ?_
  refine AL_nil ?_
  refine AW_seq ?_
  refine AW_seq ?_
  refine AW_region ?_
  refine AL_p (x_assign rfl rfl) ?_
  refine AL_nil ?_
  refine AW_block ?_
  refine AW_loop2 (ι := {q : Nat // q ≤ n}) (fun p => [(3, .one (.c (.int .i64 ((256 : Int) ^ (p.1))))), (4, .one (.c (.int .i64 ((p.1) : Int))))]) (fun p => []) [0] [] (fun p => n - (p.1)) ⟨0, by omega⟩ (rn []) ?_ ?_
  exact ⟨by (repeat refine ⟨⟨_, rfl, by first | exact VLe.rf | exact vle_int (by dsimp only; omega)⟩, ?_⟩); exact trivial, by (repeat refine ⟨⟨_, rfl, by first | exact BLe.rf | exact BLe.box AllC.rf | exact BLe.arr (by exact rfl)⟩, ?_⟩); exact trivial, by repeat (first | exact trivial | refine ⟨⟨rfl, by first | (left; intro h; cases h) | (right; rfl), fun _ h => ⟨_, h⟩⟩, ?_⟩), rfl⟩
  rintro ⟨k, hinv⟩
  dsimp only
  have hp := p256_in (k := k) (by omega)
  have hs := Int.pow_succ (256 : Int) k
  refine AW_seq ?_
  refine AW_seq ?_
  refine AW_region ?_
  refine AL_p (x_move rfl rfl) ?_
  refine AL_p (x_move rfl rfl) ?_
  refine AL_b (x_lss rfl rfl rfl) (fun b7 h7 => ?_)
  refine AL_nil ?_
  cases b7
  rotate_left
  · try simp only [decide_eq_true_eq, decide_eq_false_iff_not, Bool.not_eq_true, Bool.not_eq_false, Bool.not_eq_true', Bool.not_eq_false', beq_iff_eq, bne_iff_ne, beq_eq_false_iff_ne, bne_eq_false_iff_eq, Int.not_lt, Int.not_le, ge_iff_le, gt_iff_lt] at h7
    refine AW_condT rfl ?_
    refine AW_skip ?_
    refine AW_seq ?_
    refine AW_block ?_
    refine AW_region ?_
    refine AL_p (x_move rfl rfl) ?_
    refine AL_p (x_mul rfl rfl rfl (IntWalk.i64_in _ (by omega))) ?_
    refine AL_p (x_assign rfl rfl) ?_
    refine AL_nil ?_
    refine AW_region ?_
    refine AL_p (x_move rfl rfl) ?_
    refine AL_p (x_add rfl rfl rfl (IntWalk.i64_in _ (by omega))) ?_
    refine AL_p (x_assign rfl rfl) ?_
    refine AL_nil ?_
    refine ⟨⟨k + 1, by omega⟩, rn [], ?_, by dsimp only; omega⟩
    exact ⟨by (repeat refine ⟨⟨_, rfl, by first | exact VLe.rf | exact vle_int (by dsimp only; omega)⟩, ?_⟩); exact trivial, by (repeat refine ⟨⟨_, rfl, by first | exact BLe.rf | exact BLe.box AllC.rf | exact BLe.arr (by exact rfl)⟩, ?_⟩); exact trivial, by repeat (first | exact trivial | refine ⟨⟨rfl, by first | (left; intro h; cases h) | (right; rfl), fun _ h => ⟨_, h⟩⟩, ?_⟩), rfl⟩
  · try simp only [decide_eq_true_eq, decide_eq_false_iff_not, Bool.not_eq_true, Bool.not_eq_false, Bool.not_eq_true', Bool.not_eq_false', beq_iff_eq, bne_iff_ne, beq_eq_false_iff_ne, bne_eq_false_iff_eq, Int.not_lt, Int.not_le, ge_iff_le, gt_iff_lt] at h7
    refine AW_condF rfl ?_
    refine AW_exit (BQ_hit ?_)
    refine AW_seq ?_
    refine AW_region ?_
    refine AL_p (x_move rfl rfl) ?_
    refine AL_p (x_assign rfl rfl) ?_
    refine AL_nil ?_
    refine AW_ret ?_
    exact ⟨rn [], ⟨⟨⟨_, rfl, vle_int (by rw [show n = k by omega])⟩, trivial⟩, trivial, trivial, rfl⟩⟩

set_option maxHeartbeats 4000000 in
theorem numT_c (n : Int) (size : Nat) (h0 : 0 ≤ n) (h1 : n < (256 : Int) ^ size) (h2 : 1 ≤ size) (h3 : size ≤ 6) : AC Try.prog 115 [.one (.c (.int .i64 n)), .one (.c (.int .i64 (size : Int)))] [] (.one (.c (.bool true))) [] := by
  refine AC_body1 Try.func115 rfl rfl Try.ntmps115 rfl Try.results115 ?_
  refine AW_seq ?_
  refine AW_region ?_
  refine AL_p (x_assign rfl rfl) ?_
  refine AL_nil ?_
  refine AW_seq ?_
  refine AW_region ?_
  refine AL_p (x_move rfl rfl) ?_
  refine AL_b (x_geq rfl rfl rfl) (fun b6 h6 => ?_)
  refine AL_p (x_move rfl rfl) ?_
  cases b6
  rotate_left
  · try simp only [decide_eq_true_eq, decide_eq_false_iff_not, Bool.not_eq_true, Bool.not_eq_false, Bool.not_eq_true', Bool.not_eq_false', beq_iff_eq, bne_iff_ne, beq_eq_false_iff_ne, bne_eq_false_iff_eq, Int.not_lt, Int.not_le, ge_iff_le, gt_iff_lt] at h6
    refine AL_g rfl rfl (x_move rfl rfl) ?_
    refine AL_gb rfl rfl (x_leq rfl rfl rfl) (fun b9 h9 => ?_)
    refine AL_p (x_pickT rfl rfl rfl) ?_
    refine AL_p (x_move rfl rfl) ?_
    cases b9
    rotate_left
    · try simp only [decide_eq_true_eq, decide_eq_false_iff_not, Bool.not_eq_true, Bool.not_eq_false, Bool.not_eq_true', Bool.not_eq_false', beq_iff_eq, bne_iff_ne, beq_eq_false_iff_ne, bne_eq_false_iff_eq, Int.not_lt, Int.not_le, ge_iff_le, gt_iff_lt] at h9
      refine AL_g rfl rfl (x_move rfl rfl) ?_
      refine AL_gb rfl rfl (x_geq rfl rfl rfl) (fun b13 h13 => ?_)
      refine AL_p (x_pickT rfl rfl rfl) ?_
      refine AL_p (x_move rfl rfl) ?_
      cases b13
      rotate_left
      · try simp only [decide_eq_true_eq, decide_eq_false_iff_not, Bool.not_eq_true, Bool.not_eq_false, Bool.not_eq_true', Bool.not_eq_false', beq_iff_eq, bne_iff_ne, beq_eq_false_iff_ne, bne_eq_false_iff_eq, Int.not_lt, Int.not_le, ge_iff_le, gt_iff_lt] at h13
        refine AL_g rfl rfl (x_move rfl rfl) ?_
        refine AL_g rfl rfl (x_move rfl rfl) ?_
        refine AL_g rfl rfl (x_call0 rfl rfl rfl (powN_c size h3) rfl rfl) ?_
        refine AL_gb rfl rfl (x_lss rfl rfl rfl) (fun b19 h19 => ?_)
        refine AL_p (x_pickT rfl rfl rfl) ?_
        refine AL_p (x_assign rfl rfl) ?_
        refine AL_nil ?_
        refine AW_ret ?_
        cases b19
        rotate_left
        · try simp only [decide_eq_true_eq, decide_eq_false_iff_not, Bool.not_eq_true, Bool.not_eq_false, Bool.not_eq_true', Bool.not_eq_false', beq_iff_eq, bne_iff_ne, beq_eq_false_iff_ne, bne_eq_false_iff_eq, Int.not_lt, Int.not_le, ge_iff_le, gt_iff_lt] at h19
          exact ⟨rn [], ⟨⟨⟨_, rfl, vle_bool (by first | rfl | (exfalso; omega))⟩, trivial⟩, trivial, trivial, rfl⟩⟩
        · try simp only [decide_eq_true_eq, decide_eq_false_iff_not, Bool.not_eq_true, Bool.not_eq_false, Bool.not_eq_true', Bool.not_eq_false', beq_iff_eq, bne_iff_ne, beq_eq_false_iff_ne, bne_eq_false_iff_eq, Int.not_lt, Int.not_le, ge_iff_le, gt_iff_lt] at h19
          exact ⟨rn [], ⟨⟨⟨_, rfl, vle_bool (by first | rfl | (exfalso; omega))⟩, trivial⟩, trivial, trivial, rfl⟩⟩
      · try simp only [decide_eq_true_eq, decide_eq_false_iff_not, Bool.not_eq_true, Bool.not_eq_false, Bool.not_eq_true', Bool.not_eq_false', beq_iff_eq, bne_iff_ne, beq_eq_false_iff_ne, bne_eq_false_iff_eq, Int.not_lt, Int.not_le, ge_iff_le, gt_iff_lt] at h13
        refine AL_o rfl rfl rfl rfl ?_
        refine AL_o rfl rfl rfl rfl ?_
        refine AL_o rfl rfl rfl rfl ?_
        refine AL_o rfl rfl rfl rfl ?_
        refine AL_p (x_pickF rfl rfl rfl) ?_
        refine AL_p (x_assign rfl rfl) ?_
        refine AL_nil ?_
        refine AW_ret ?_
        exact ⟨rn [], ⟨⟨⟨_, rfl, vle_bool (by first | rfl | (exfalso; omega))⟩, trivial⟩, trivial, trivial, rfl⟩⟩
    · try simp only [decide_eq_true_eq, decide_eq_false_iff_not, Bool.not_eq_true, Bool.not_eq_false, Bool.not_eq_true', Bool.not_eq_false', beq_iff_eq, bne_iff_ne, beq_eq_false_iff_ne, bne_eq_false_iff_eq, Int.not_lt, Int.not_le, ge_iff_le, gt_iff_lt] at h9
      refine AL_o rfl rfl rfl rfl ?_
      refine AL_o rfl rfl rfl rfl ?_
      refine AL_p (x_pickF rfl rfl rfl) ?_
      refine AL_p (x_move rfl rfl) ?_
      refine AL_o rfl rfl rfl rfl ?_
      refine AL_o rfl rfl rfl rfl ?_
      refine AL_o rfl rfl rfl rfl ?_
      refine AL_o rfl rfl rfl rfl ?_
      refine AL_p (x_pickF rfl rfl rfl) ?_
      refine AL_p (x_assign rfl rfl) ?_
      refine AL_nil ?_
      refine AW_ret ?_
      exact ⟨rn [], ⟨⟨⟨_, rfl, vle_bool (by first | rfl | (exfalso; omega))⟩, trivial⟩, trivial, trivial, rfl⟩⟩
  · try simp only [decide_eq_true_eq, decide_eq_false_iff_not, Bool.not_eq_true, Bool.not_eq_false, Bool.not_eq_true', Bool.not_eq_false', beq_iff_eq, bne_iff_ne, beq_eq_false_iff_ne, bne_eq_false_iff_eq, Int.not_lt, Int.not_le, ge_iff_le, gt_iff_lt] at h6
    refine AL_o rfl rfl rfl rfl ?_
    refine AL_o rfl rfl rfl rfl ?_
    refine AL_p (x_pickF rfl rfl rfl) ?_
    refine AL_p (x_move rfl rfl) ?_
    refine AL_o rfl rfl rfl rfl ?_
    refine AL_o rfl rfl rfl rfl ?_
    refine AL_p (x_pickF rfl rfl rfl) ?_
    refine AL_p (x_move rfl rfl) ?_
    refine AL_o rfl rfl rfl rfl ?_
    refine AL_o rfl rfl rfl rfl ?_
    refine AL_o rfl rfl rfl rfl ?_
    refine AL_o rfl rfl rfl rfl ?_
    refine AL_p (x_pickF rfl rfl rfl) ?_
    refine AL_p (x_assign rfl rfl) ?_
    refine AL_nil ?_
    refine AW_ret ?_
    exact ⟨rn [], ⟨⟨⟨_, rfl, vle_bool (by first | rfl | (exfalso; omega))⟩, trivial⟩, trivial, trivial, rfl⟩⟩

set_option maxHeartbeats 4000000 in
theorem putNumS_c0 (xs : List Int) (n : Int) (size : Nat) (h0 : 0 ≤ n) (h1 : n < (256 : Int) ^ size) (h2 : 1 ≤ size) (h3 : size ≤ 6) (hl : xs.length ≤ 1000) : AC Try.prog 67 [.one (.sl (intE .u8) xs), .one (.c (.int .i64 n)), .one (.c (.int .i64 (size : Int)))] [] (.tup [.one (.own 0), .one (.c (.bool true))]) [(0, some (.arr 5 (intE .u8) (xs ++ putB n size) true))] := by
  have hp6 := p256_in h3
  refine AC_body2 Try.func67 rfl rfl Try.ntmps67 rfl Try.results67 rfl rfl rfl ?_
  refine AW_seq ?_
  refine AW_region ?_
  refine AL_p (x_assign rfl rfl) ?_
  refine AL_p (x_assign rfl rfl) ?_
  refine AL_nil ?_
  refine AW_seq ?_
  refine AW_seq ?_
  refine AW_region ?_
  refine AL_p (x_move rfl rfl) ?_
  refine AL_p (x_move rfl rfl) ?_
  refine AL_p (x_call0 rfl rfl rfl (numT_c n size h0 h1 h2 h3) rfl rfl) ?_
  refine AL_p (x_not rfl rfl) ?_
  refine AL_p (x_move rfl rfl) ?_
  refine AL_g rfl rfl (x_move rfl rfl) ?_
  refine AL_g rfl rfl (x_len (E := 5) (n := 1) rfl rfl (by kernel_rfl)) ?_
  refine AL_g rfl rfl (x_move rfl rfl) ?_
  refine AL_g rfl rfl (x_sub rfl rfl rfl (IntWalk.i64_in _ (by omega))) ?_
  refine AL_gb rfl rfl (x_gtr rfl rfl rfl) (fun b21 h21 => ?_)
  refine AL_p (x_pickF rfl rfl rfl) ?_
  refine AL_nil ?_
  cases b21
  rotate_left
  · exfalso; simp at h21; omega
  · try simp only [decide_eq_true_eq, decide_eq_false_iff_not, Bool.not_eq_true, Bool.not_eq_false, Bool.not_eq_true', Bool.not_eq_false', beq_iff_eq, bne_iff_ne, beq_eq_false_iff_ne, bne_eq_false_iff_eq, Int.not_lt, Int.not_le, ge_iff_le, gt_iff_lt] at h21
    refine AW_condF rfl ?_
    refine AW_skip ?_
    refine AW_seq ?_
    refine AW_region ?_
    refine AL_p (y_bslice0 (E := 5) (e := (intE .u8)) 100 rfl rfl rfl (by kernel_rfl)) ?_
    refine AL_p (x_move rfl rfl) ?_
    refine AL_p (y_append_sl 101 true (.inr intE_nofp) rfl rfl rfl rfl rfl rfl (by kernel_rfl) (by (try simp only [List.length_cons, List.length_nil]); omega)) ?_
    refine AL_p (x_assign rfl rfl) ?_
    refine AL_nil ?_
    refine AW_seq ?_
    refine AW_seq ?_
    refine AW_region ?_
    refine AL_p (x_move rfl rfl) ?_
    refine AL_p (x_sub rfl rfl rfl (IntWalk.i64_in _ (by omega))) ?_
    refine AL_p (x_assign rfl rfl) ?_
    refine AL_nil ?_
    refine AW_block ?_
    refine AW_loop2 (ι := {q : Nat // q ≤ size}) (fun p => [(8, .one (.own 101)), (9, .one (.c (.int .i64 (((p.1) : Int) - 1))))]) (fun p => [(101, some (.arr 5 (intE .u8) (xs ++ putTo n size (p.1)) true))]) [1] [] (fun p => (p.1)) ⟨size, Nat.le_refl _⟩ (rn []) ?_ ?_
    exact ⟨by (repeat refine ⟨⟨_, rfl, by first | exact VLe.rf | exact vle_int (by dsimp only; omega)⟩, ?_⟩); exact trivial, by (repeat refine ⟨⟨_, rfl, by first | exact BLe.rf | exact BLe.box AllC.rf | exact BLe.arr (by first | (rw [putTo_start, List.append_nil, List.nil_append]; done) | (rw [putTo_start, List.append_nil]; done) | exact (by rw [putTo_start, List.append_nil]; rfl) | (rw [List.append_assoc, hm]; done))⟩, ?_⟩); exact trivial, by repeat (first | exact trivial | refine ⟨⟨rfl, by first | (left; intro h; cases h) | (right; rfl), fun _ h => ⟨_, h⟩⟩, ?_⟩), rfl⟩
    rintro ⟨j, hinv⟩
    dsimp only
    have hj := hinv
    refine AW_seq ?_
    refine AW_seq ?_
    refine AW_region ?_
    refine AL_p (x_move rfl rfl) ?_
    refine AL_b (x_geq rfl rfl rfl) (fun b29 h29 => ?_)
    refine AL_nil ?_
    cases b29
    rotate_left
    · try simp only [decide_eq_true_eq, decide_eq_false_iff_not, Bool.not_eq_true, Bool.not_eq_false, Bool.not_eq_true', Bool.not_eq_false', beq_iff_eq, bne_iff_ne, beq_eq_false_iff_ne, bne_eq_false_iff_eq, Int.not_lt, Int.not_le, ge_iff_le, gt_iff_lt] at h29
      have hm : putTo n size j ++ [n / 256 ^ (j - 1) % 256] = putTo n size (j - 1) := by have hm := putTo_more (n := n) (size := size) (j := j - 1) (by omega); rwa [show j - 1 + 1 = j by omega] at hm
      refine AW_condT rfl ?_
      refine AW_skip ?_
      refine AW_seq ?_
      refine AW_block ?_
      refine AW_seq ?_
      refine AW_region ?_
      refine AL_p (x_move rfl rfl) ?_
      refine AL_p (x_assign rfl rfl) ?_
      refine AL_nil ?_
      refine AW_seq ?_
      refine AW_seq ?_
      refine AW_region ?_
      refine AL_p (x_assign rfl rfl) ?_
      refine AL_nil ?_
      refine AW_block ?_
      refine AW_loop2 (ι := {q : Nat // q ≤ j - 1}) (fun p => [(10, .one (.c (.int .i64 (n / 256 ^ (p.1))))), (11, .one (.c (.int .i64 ((p.1) : Int))))]) (fun p => []) [1, 8, 9] [101] (fun p => j - 1 - (p.1)) ⟨0, by omega⟩ (rn []) ?_ ?_
      exact ⟨by (repeat refine ⟨⟨_, rfl, by first | exact VLe.rf | exact vle_int (by dsimp only; omega)⟩, ?_⟩); exact trivial, by (repeat refine ⟨⟨_, rfl, by first | exact BLe.rf | exact BLe.box AllC.rf | exact BLe.arr (by exact rfl)⟩, ?_⟩); exact trivial, by repeat (first | exact trivial | refine ⟨⟨rfl, by first | (left; intro h; cases h) | (right; rfl), fun _ h => ⟨_, h⟩⟩, ?_⟩), rfl⟩
      rintro ⟨m, hinv⟩
      dsimp only
      have hm2 := hinv
      refine AW_seq ?_
      refine AW_seq ?_
      refine AW_region ?_
      refine AL_p (x_move rfl rfl) ?_
      refine AL_p (x_move rfl rfl) ?_
      refine AL_b (x_lss rfl rfl rfl) (fun b35 h35 => ?_)
      refine AL_nil ?_
      cases b35
      rotate_left
      · try simp only [decide_eq_true_eq, decide_eq_false_iff_not, Bool.not_eq_true, Bool.not_eq_false, Bool.not_eq_true', Bool.not_eq_false', beq_iff_eq, bne_iff_ne, beq_eq_false_iff_ne, bne_eq_false_iff_eq, Int.not_lt, Int.not_le, ge_iff_le, gt_iff_lt] at h35
        refine AW_condT rfl ?_
        refine AW_skip ?_
        refine AW_seq ?_
        refine AW_block ?_
        refine AW_region ?_
        refine AL_p (x_move rfl rfl) ?_
        refine AL_p (x_quo rfl rfl rfl (r := n / 256 ^ (m + 1)) (by omega) (quo256 h0 (by omega))) ?_
        refine AL_p (x_assign rfl rfl) ?_
        refine AL_nil ?_
        refine AW_region ?_
        refine AL_p (x_move rfl rfl) ?_
        refine AL_p (x_add rfl rfl rfl (IntWalk.i64_in _ (by omega))) ?_
        refine AL_p (x_assign rfl rfl) ?_
        refine AL_nil ?_
        refine ⟨⟨m + 1, by omega⟩, rn [], ?_, by dsimp only; omega⟩
        exact ⟨by (repeat refine ⟨⟨_, rfl, by first | exact VLe.rf | exact vle_int (by dsimp only; omega)⟩, ?_⟩); exact trivial, by (repeat refine ⟨⟨_, rfl, by first | exact BLe.rf | exact BLe.box AllC.rf | exact BLe.arr (by exact rfl)⟩, ?_⟩); exact trivial, by repeat (first | exact trivial | refine ⟨⟨rfl, by first | (left; intro h; cases h) | (right; rfl), fun _ h => ⟨_, h⟩⟩, ?_⟩), rfl⟩
      · try simp only [decide_eq_true_eq, decide_eq_false_iff_not, Bool.not_eq_true, Bool.not_eq_false, Bool.not_eq_true', Bool.not_eq_false', beq_iff_eq, bne_iff_ne, beq_eq_false_iff_ne, bne_eq_false_iff_eq, Int.not_lt, Int.not_le, ge_iff_le, gt_iff_lt] at h35
        refine AW_condF rfl ?_
        refine AW_exit (BQ_hit ?_)
        refine AW_region ?_
        refine AL_p (x_move rfl rfl) ?_
        refine AL_p (x_move rfl rfl) ?_
        refine AL_p (x_rem rfl rfl rfl (r := n / 256 ^ (j - 1) % 256) (by omega) (by rw [show j - 1 = m by omega]; exact rem256 h0) (wf64i (mod256_in _).1 (by have := mod256_in (n / 256 ^ (j - 1)); omega))) ?_
        refine AL_p (x_conv (k' := .u8) rfl rfl (by kernel_rfl) (wrap8_id (mod256_in _).1 (mod256_in _).2)) ?_
        refine AL_p (y_bslice (E := 5) (e := (intE .u8)) [.tmp 43] ([n / 256 ^ (j - 1) % 256]) 102 rfl rfl rfl rfl rfl rfl rfl rfl FitL.rf rfl rfl rfl rfl rfl rfl (by kernel_rfl)) ?_
        refine AL_p (y_append 103 rfl rfl rfl rfl rfl rfl rfl rfl (by kernel_rfl) (by have := putTo_len (n := n) (size := size) (j := j); simp only [List.length_append, List.length_cons, List.length_nil]; omega)) ?_
        refine AL_p (x_assign rfl rfl) ?_
        refine AL_nil ?_
        refine AW_region ?_
        refine AL_p (x_move rfl rfl) ?_
        refine AL_p (x_sub rfl rfl rfl (IntWalk.i64_in _ (by omega))) ?_
        refine AL_p (x_assign rfl rfl) ?_
        refine AL_nil ?_
        refine ⟨⟨j - 1, by omega⟩, rn [(101, 103)], ?_, by dsimp only; omega⟩
        exact ⟨by (repeat refine ⟨⟨_, rfl, by first | exact VLe.rf | exact vle_int (by dsimp only; omega)⟩, ?_⟩); exact trivial, by (repeat refine ⟨⟨_, rfl, by first | exact BLe.rf | exact BLe.box AllC.rf | exact BLe.arr (by first | (rw [putTo_start, List.append_nil, List.nil_append]; done) | (rw [putTo_start, List.append_nil]; done) | exact (by rw [putTo_start, List.append_nil]; rfl) | (rw [List.append_assoc, hm]; done))⟩, ?_⟩); exact trivial, by repeat (first | exact trivial | refine ⟨⟨rfl, by first | (left; intro h; cases h) | (right; rfl), fun _ h => ⟨_, h⟩⟩, ?_⟩), rfl⟩
    · try simp only [decide_eq_true_eq, decide_eq_false_iff_not, Bool.not_eq_true, Bool.not_eq_false, Bool.not_eq_true', Bool.not_eq_false', beq_iff_eq, bne_iff_ne, beq_eq_false_iff_ne, bne_eq_false_iff_eq, Int.not_lt, Int.not_le, ge_iff_le, gt_iff_lt] at h29
      refine AW_condF rfl ?_
      refine AW_exit (BQ_hit ?_)
      refine AW_seq ?_
      refine AW_region ?_
      refine AL_p (x_move rfl rfl) ?_
      refine AL_p (x_assign rfl rfl) ?_
      refine AL_p (x_assign rfl rfl) ?_
      refine AL_nil ?_
      refine AW_ret ?_
      exact ⟨rn [(0, 101)], ⟨⟨⟨_, rfl, VLe.rf⟩, ⟨_, rfl, VLe.rf⟩, trivial⟩, ⟨⟨_, rfl, BLe.arr (by unfold putB; rw [show j = 0 by omega])⟩, trivial⟩, trivial, rfl⟩⟩
theorem putNumS_c (xs : List Int) (n : Int) (size : Nat) (h0 : 0 ≤ n) (h1 : n < (256 : Int) ^ size) (h2 : 1 ≤ size) (h3 : size ≤ 6) (hl : xs.length ≤ 1000) (k : Nat) : AC Try.prog 67 [.one (.sl (intE .u8) xs), .one (.c (.int .i64 n)), .one (.c (.int .i64 (size : Int)))] [] (.tup [.one (.own k), .one (.c (.bool true))]) [(k, some (.arr 5 (intE .u8) (xs ++ putB n size) true))] := AC.at (putNumS_c0 xs n size h0 h1 h2 h3 hl) k

set_option maxHeartbeats 4000000 in
theorem storeBytesS_c0 (s : Storet) (hs : smallStore s) : AC Try.prog 24 [.agg (storeC s)] [] (.tup [.one (.own 0), .one (.c (.bool (storeBytes s).2))]) [(0, some (.arr 5 (intE .u8) ((storeBytes s).1) true))] := by
  refine AC_body2 Try.func24 rfl rfl Try.ntmps24 rfl Try.results24 rfl rfl rfl ?_
  refine AW_seq ?_
  refine AW_region ?_
  refine AL_p (x_box 100 rfl rfl rfl rfl rfl rfl rfl) ?_
  refine AL_p (x_assign rfl rfl) ?_
  refine AL_p (x_assign rfl rfl) ?_
  refine AL_nil ?_
  refine AW_seq ?_
  refine AW_seq ?_
  refine AW_region ?_
  refine AL_p (x_loadN (n := 1) rfl rfl rfl (by kernel_rfl) rfl rfl) ?_
  refine AL_b (x_call0 rfl rfl rfl (storeOkS_c _ hs) rfl rfl) (fun b13 h13 => ?_)
  refine AL_p (x_not rfl rfl) ?_
  refine AL_nil ?_
  cases b13
  rotate_left
  · try simp only [decide_eq_true_eq, decide_eq_false_iff_not, Bool.not_eq_true, Bool.not_eq_false, Bool.not_eq_true', Bool.not_eq_false', beq_iff_eq, bne_iff_ne, beq_eq_false_iff_ne, bne_eq_false_iff_eq, Int.not_lt, Int.not_le, ge_iff_le, gt_iff_lt] at h13
    have hok := h13
    have hmx := storeOk_max h13
    refine AW_condF rfl ?_
    refine AW_skip ?_
    refine AW_seq ?_
    refine AW_region ?_
    refine AL_p (x_field (off := 0) (o' := 0) rfl rfl rfl (by kernel_rfl) rfl) ?_
    refine AL_p (x_load1 rfl rfl rfl (by kernel_rfl) rfl) ?_
    refine AL_p (x_len (E := 89) (n := 3) rfl rfl (by kernel_rfl)) ?_
    refine AL_p (x_conv (k' := .u8) rfl rfl (by kernel_rfl) (wrap8_id (by omega) (by omega))) ?_
    refine AL_p (y_bslice (E := 5) (e := (intE .u8)) [.tmp 18] ([(s.rels.length : Int)]) 101 rfl rfl rfl rfl rfl rfl rfl rfl FitL.rf rfl rfl rfl rfl rfl rfl (by kernel_rfl)) ?_
    refine AL_p (x_assign rfl rfl) ?_
    refine AL_nil ?_
    refine AW_seq ?_
    refine AW_seq ?_
    refine AW_region ?_
    refine AL_p (x_field (off := 0) (o' := 0) rfl rfl rfl (by kernel_rfl) rfl) ?_
    refine AL_p (x_load1 rfl rfl rfl (by kernel_rfl) rfl) ?_
    refine AL_p (x_len (E := 89) (n := 3) rfl rfl (by kernel_rfl)) ?_
    refine AL_p (x_move rfl rfl) ?_
    refine AL_nil ?_
    refine AW_block ?_
    refine AW_loop2 (ι := {q : Nat // q ≤ s.rels.length}) (fun p => [(4, .one (.own 101)), (23, .one (.c (.int .i64 ((p.1) : Int))))]) (fun p => [(101, some (.arr 5 (intE .u8) ([(s.rels.length : Int)] ++ flatTo namedBytes s.rels (p.1)) true))]) [21, 22] [100] (fun p => s.rels.length - (p.1)) ⟨0, by omega⟩ (rn []) ?_ ?_
    exact ⟨by (repeat refine ⟨⟨_, rfl, by first | exact VLe.rf | exact vle_int (by dsimp only; omega)⟩, ?_⟩); exact trivial, by (repeat refine ⟨⟨_, rfl, by first | exact BLe.rf | exact BLe.box AllC.rf | exact BLe.arr (by first | (rw [flatTo_zero, List.append_nil]; done) | (rw [← flatTo_more (f := namedBytes) (xs := s.rels) (k := k) (by omega), flatTo_all (f := rowBytes) (by omega)]; simp only [namedBytes, hpb, List.append_assoc, List.cons_append, List.nil_append]; done))⟩, ?_⟩); exact trivial, by repeat (first | exact trivial | refine ⟨⟨rfl, by first | (left; intro h; cases h) | (right; rfl), fun _ h => ⟨_, h⟩⟩, ?_⟩), rfl⟩
    rintro ⟨k, hinv⟩
    dsimp only
    have hk := hinv
    have hmx := storeOk_max hok
    have hA := names_len hok k
    refine AW_seq ?_
    refine AW_region ?_
    refine AL_b (x_lss rfl rfl rfl) (fun b24 h24 => ?_)
    refine AL_nil ?_
    refine AW_seq ?_
    cases b24
    rotate_left
    · try simp only [decide_eq_true_eq, decide_eq_false_iff_not, Bool.not_eq_true, Bool.not_eq_false, Bool.not_eq_true', Bool.not_eq_false', beq_iff_eq, bne_iff_ne, beq_eq_false_iff_ne, bne_eq_false_iff_eq, Int.not_lt, Int.not_le, ge_iff_le, gt_iff_lt] at h24
      have hrk := storeOk_rel hok (k := k) (by omega)
      have hwk := storeOk_word hok (k := k) (by omega)
      have hrs := relOk_small hrk
      have hpb : putB ((s.rels[k]'(by omega)).rel.rows.length : Int) 2 = [((s.rels[k]'(by omega)).rel.rows.length : Int) / 256, ((s.rels[k]'(by omega)).rel.rows.length : Int) % 256] := putB_small (by omega) (by omega)
      refine AW_condT rfl ?_
      refine AW_skip ?_
      refine AW_seq ?_
      refine AW_block ?_
      refine AW_seq ?_
      refine AW_region ?_
      refine AL_p (x_index (E := 89) (n := 3) rfl rfl rfl (by kernel_rfl) rfl (k := k) (by omega) (by omega)) ?_
      refine AL_p (x_eloadW (n := 3) rfl rfl (by kernel_rfl) rfl) ?_
      refine AL_p (x_alloc (z := .agg #[.string ⟨#[]⟩, .int .i64 0, .slice none 0 0]) 102 rfl (by kernel_rfl) rfl rfl rfl rfl) ?_
      refine AL_p (x_store (n := 3) rfl rfl rfl rfl (by kernel_rfl) rfl rfl rfl) ?_
      refine AL_nil ?_
      refine AW_seq ?_
      refine AW_region ?_
      refine AL_p (x_move rfl rfl) ?_
      refine AL_p (x_field (off := 0) (o' := 0) rfl rfl rfl (by kernel_rfl) rfl) ?_
      refine AL_p (x_load1 rfl rfl rfl (by kernel_rfl) rfl) ?_
      refine AL_p (x_lens rfl rfl (by kernel_rfl)) ?_
      refine AL_p (x_conv (k' := .u8) rfl rfl (by kernel_rfl) (wrap8_id (by omega) (by omega))) ?_
      refine AL_p (y_bslice (E := 5) (e := (intE .u8)) [.tmp 31] ([((s.rels[k]'(by omega)).name.size : Int)]) 103 rfl rfl rfl rfl rfl rfl rfl rfl FitL.rf rfl rfl rfl rfl rfl rfl (by kernel_rfl)) ?_
      refine AL_p (y_append 104 rfl rfl rfl rfl rfl rfl rfl rfl (by kernel_rfl) (by (try simp only [List.length_append, List.length_cons, List.length_nil, strBytes_len, putB_len]); omega)) ?_
      refine AL_p (x_assign rfl rfl) ?_
      refine AL_nil ?_
      refine AW_seq ?_
      refine AW_region ?_
      refine AL_p (x_move rfl rfl) ?_
      refine AL_p (x_field (off := 0) (o' := 0) rfl rfl rfl (by kernel_rfl) rfl) ?_
      refine AL_p (x_load1 rfl rfl rfl (by kernel_rfl) rfl) ?_
      refine AL_p (x_bytes (E := 5) rfl rfl (by kernel_rfl)) ?_
      refine AL_p (y_append_sl 105 true (.inr intE_nofp) rfl rfl rfl rfl rfl rfl (by kernel_rfl) (by (try simp only [List.length_append, List.length_cons, List.length_nil, strBytes_len, putB_len]); omega)) ?_
      refine AL_p (x_assign rfl rfl) ?_
      refine AL_nil ?_
      refine AW_seq ?_
      refine AW_region ?_
      refine AL_p (x_move rfl rfl) ?_
      refine AL_p (x_field (off := 1) (o' := 1) rfl rfl rfl (by kernel_rfl) rfl) ?_
      refine AL_p (x_field (off := 0) (o' := 1) rfl rfl rfl (by kernel_rfl) rfl) ?_
      refine AL_p (x_load1 rfl rfl rfl (by kernel_rfl) rfl) ?_
      refine AL_p (x_conv (k' := .u8) rfl rfl (by kernel_rfl) (wrap8_id (by omega) (by omega))) ?_
      refine AL_p (x_field (off := 1) (o' := 1) rfl rfl rfl (by kernel_rfl) rfl) ?_
      refine AL_p (x_field (off := 1) (o' := 2) rfl rfl rfl (by kernel_rfl) rfl) ?_
      refine AL_p (x_load1 rfl rfl rfl (by kernel_rfl) rfl) ?_
      refine AL_p (x_len (E := 92) (n := 1) rfl rfl (by kernel_rfl)) ?_
      refine AL_p (x_quo rfl rfl rfl (r := ((s.rels[k]'(by omega)).rel.rows.length : Int) / 256) (by omega) (by rw [Int.tdiv_eq_ediv_of_nonneg (by omega)]; exact IntWalk.i64_in _ (by omega))) ?_
      refine AL_p (x_conv (k' := .u8) rfl rfl (by kernel_rfl) (wrap8_id (by omega) (by omega))) ?_
      refine AL_p (x_field (off := 1) (o' := 1) rfl rfl rfl (by kernel_rfl) rfl) ?_
      refine AL_p (x_field (off := 1) (o' := 2) rfl rfl rfl (by kernel_rfl) rfl) ?_
      refine AL_p (x_load1 rfl rfl rfl (by kernel_rfl) rfl) ?_
      refine AL_p (x_len (E := 92) (n := 1) rfl rfl (by kernel_rfl)) ?_
      refine AL_p (x_rem rfl rfl rfl (r := ((s.rels[k]'(by omega)).rel.rows.length : Int) % 256) (by omega) (Int.tmod_eq_emod_of_nonneg (by omega)) (wf64i (by omega) (by omega))) ?_
      refine AL_p (x_conv (k' := .u8) rfl rfl (by kernel_rfl) (wrap8_id (by omega) (by omega))) ?_
      refine AL_p (y_bslice (E := 5) (e := (intE .u8)) [.tmp 43, .tmp 49, .tmp 55] ([(s.rels[k]'(by omega)).rel.arity, ((s.rels[k]'(by omega)).rel.rows.length : Int) / 256, ((s.rels[k]'(by omega)).rel.rows.length : Int) % 256]) 106 rfl rfl rfl rfl rfl rfl rfl rfl FitL.rf rfl rfl rfl rfl rfl rfl (by kernel_rfl)) ?_
      refine AL_p (y_append 107 rfl rfl rfl rfl rfl rfl rfl rfl (by kernel_rfl) (by (try simp only [List.length_append, List.length_cons, List.length_nil, strBytes_len, putB_len]); omega)) ?_
      refine AL_p (x_assign rfl rfl) ?_
      refine AL_nil ?_
      refine AW_seq ?_
      refine AW_region ?_
      refine AL_p (x_field (off := 1) (o' := 1) rfl rfl rfl (by kernel_rfl) rfl) ?_
      refine AL_p (x_field (off := 1) (o' := 2) rfl rfl rfl (by kernel_rfl) rfl) ?_
      refine AL_p (x_load1 rfl rfl rfl (by kernel_rfl) rfl) ?_
      refine AL_p (x_len (E := 92) (n := 1) rfl rfl (by kernel_rfl)) ?_
      refine AL_p (x_move rfl rfl) ?_
      refine AL_nil ?_
      refine AW_block ?_
      refine AW_loop2 (ι := {q : Nat // q ≤ (s.rels[k]'(by omega)).rel.rows.length}) (fun p => [(4, .one (.own 107)), (62, .one (.c (.int .i64 ((p.1) : Int))))]) (fun p => [(107, some (.arr 5 (intE .u8) ([(s.rels.length : Int)] ++ flatTo namedBytes s.rels k ++ [((s.rels[k]'(by omega)).name.size : Int)] ++ strBytes (s.rels[k]'(by omega)).name ++ [(s.rels[k]'(by omega)).rel.arity, ((s.rels[k]'(by omega)).rel.rows.length : Int) / 256, ((s.rels[k]'(by omega)).rel.rows.length : Int) % 256] ++ flatTo rowBytes (s.rels[k]'(by omega)).rel.rows (p.1)) true))]) [6, 21, 22, 23, 61] [100, 102] (fun p => (s.rels[k]'(by omega)).rel.rows.length - (p.1)) ⟨0, by omega⟩ (rn []) ?_ ?_
      exact ⟨by (repeat refine ⟨⟨_, rfl, by first | exact VLe.rf | exact vle_int (by dsimp only; omega)⟩, ?_⟩); exact trivial, by (repeat refine ⟨⟨_, rfl, by first | exact BLe.rf | exact BLe.box AllC.rf | exact BLe.arr (by first | (rw [flatTo_zero, List.append_nil]; done) | (rw [← flatTo_more (f := rowBytes) (k := j) (by omega), flatTo_all (f := valBytes) (by omega)]; simp only [rowBytes, List.append_assoc]; done))⟩, ?_⟩); exact trivial, by repeat (first | exact trivial | refine ⟨⟨rfl, by first | (left; intro h; cases h) | (right; rfl), fun _ h => ⟨_, h⟩⟩, ?_⟩), rfl⟩
      rintro ⟨j, hinv⟩
      dsimp only
      have hj := hinv
      have hB := rows_len hrk j
      refine AW_seq ?_
      refine AW_region ?_
      refine AL_b (x_lss rfl rfl rfl) (fun b63 h63 => ?_)
      refine AL_nil ?_
      refine AW_seq ?_
      cases b63
      rotate_left
      · try simp only [decide_eq_true_eq, decide_eq_false_iff_not, Bool.not_eq_true, Bool.not_eq_false, Bool.not_eq_true', Bool.not_eq_false', beq_iff_eq, bne_iff_ne, beq_eq_false_iff_ne, bne_eq_false_iff_eq, Int.not_lt, Int.not_le, ge_iff_le, gt_iff_lt] at h63
        refine AW_condT rfl ?_
        refine AW_skip ?_
        refine AW_seq ?_
        refine AW_block ?_
        refine AW_seq ?_
        refine AW_region ?_
        refine AL_p (x_move rfl rfl) ?_
        refine AL_p (x_assign rfl rfl) ?_
        refine AL_nil ?_
        refine AW_seq ?_
        refine AW_region ?_
        refine AL_p (x_field (off := 1) (o' := 1) rfl rfl rfl (by kernel_rfl) rfl) ?_
        refine AL_p (x_field (off := 1) (o' := 2) rfl rfl rfl (by kernel_rfl) rfl) ?_
        refine AL_p (x_load1 rfl rfl rfl (by kernel_rfl) rfl) ?_
        refine AL_p (x_move rfl rfl) ?_
        refine AL_p (x_index (E := 92) (n := 1) rfl rfl rfl (by kernel_rfl) rfl (k := j) (by omega) (by omega)) ?_
        refine AL_p (x_efield (off := 0) (o' := 0) rfl rfl (by kernel_rfl) rfl) ?_
        refine AL_p (x_eload1 rfl rfl (by kernel_rfl) rfl) ?_
        refine AL_p (x_len (E := 94) (n := 2) rfl rfl (by kernel_rfl)) ?_
        refine AL_p (x_move rfl rfl) ?_
        refine AL_nil ?_
        refine AW_block ?_
        refine AW_loop2 (ι := {q : Nat // q ≤ ((s.rels[k]'(by omega)).rel.rows[j]'(by omega)).length}) (fun p => [(4, .one (.own 107)), (73, .one (.c (.int .i64 ((p.1) : Int))))]) (fun p => [(107, some (.arr 5 (intE .u8) ([(s.rels.length : Int)] ++ flatTo namedBytes s.rels k ++ [((s.rels[k]'(by omega)).name.size : Int)] ++ strBytes (s.rels[k]'(by omega)).name ++ [(s.rels[k]'(by omega)).rel.arity, ((s.rels[k]'(by omega)).rel.rows.length : Int) / 256, ((s.rels[k]'(by omega)).rel.rows.length : Int) % 256] ++ flatTo rowBytes (s.rels[k]'(by omega)).rel.rows j ++ flatTo valBytes ((s.rels[k]'(by omega)).rel.rows[j]'(by omega)) (p.1)) true))]) [6, 21, 22, 23, 61, 62, 71, 72] [100, 102] (fun p => ((s.rels[k]'(by omega)).rel.rows[j]'(by omega)).length - (p.1)) ⟨0, by omega⟩ (rn []) ?_ ?_
        exact ⟨by (repeat refine ⟨⟨_, rfl, by first | exact VLe.rf | exact vle_int (by dsimp only; omega)⟩, ?_⟩); exact trivial, by (repeat refine ⟨⟨_, rfl, by first | exact BLe.rf | exact BLe.box AllC.rf | exact BLe.arr (by first | (rw [flatTo_zero, List.append_nil]; done) | (rw [← flatTo_more (f := valBytes) (k := i) (by omega), hvb]; simp only [List.append_assoc, List.nil_append]; done))⟩, ?_⟩); exact trivial, by repeat (first | exact trivial | refine ⟨⟨rfl, by first | (left; intro h; cases h) | (right; rfl), fun _ h => ⟨_, h⟩⟩, ?_⟩), rfl⟩
        rintro ⟨i, hinv⟩
        dsimp only
        have hi := hinv
        have hrl := hrs.2.2.2 ((s.rels[k]'(by omega)).rel.rows[j]'(by omega)) (List.getElem_mem _)
        have hC := vals_len hrk (List.getElem_mem (l := (s.rels[k]'(by omega)).rel.rows) (n := j) (by omega)) i
        refine AW_seq ?_
        refine AW_region ?_
        refine AL_b (x_lss rfl rfl rfl) (fun b74 h74 => ?_)
        refine AL_nil ?_
        refine AW_seq ?_
        cases b74
        rotate_left
        · try simp only [decide_eq_true_eq, decide_eq_false_iff_not, Bool.not_eq_true, Bool.not_eq_false, Bool.not_eq_true', Bool.not_eq_false', beq_iff_eq, bne_iff_ne, beq_eq_false_iff_ne, bne_eq_false_iff_eq, Int.not_lt, Int.not_le, ge_iff_le, gt_iff_lt] at h74
          have hvo := relOk_vals2 hrk _ (List.getElem_mem (l := (s.rels[k]'(by omega)).rel.rows) (n := j) (by omega)) _ (List.getElem_mem (l := ((s.rels[k]'(by omega)).rel.rows[j]'(by omega))) (n := i) (by omega))
          have hvi := (valOk_in hvo).2.2
          refine AW_condT rfl ?_
          refine AW_skip ?_
          refine AW_seq ?_
          refine AW_block ?_
          refine AW_seq ?_
          refine AW_region ?_
          refine AL_p (x_index (E := 94) (n := 2) rfl rfl rfl (by kernel_rfl) rfl (k := i) (by omega) (by omega)) ?_
          refine AL_p (x_eloadW (n := 2) rfl rfl (by kernel_rfl) rfl) ?_
          refine AL_p (x_alloc (z := .agg #[.int .i64 0, .string ⟨#[]⟩]) 108 rfl (by kernel_rfl) rfl rfl rfl rfl) ?_
          refine AL_p (x_store (n := 2) rfl rfl rfl rfl (by kernel_rfl) rfl rfl rfl) ?_
          refine AL_nil ?_
          refine AW_seq ?_
          refine AW_region ?_
          refine AL_p (x_move rfl rfl) ?_
          refine AL_p (x_field (off := 1) (o' := 1) rfl rfl rfl (by kernel_rfl) rfl) ?_
          refine AL_p (x_load1 rfl rfl rfl (by kernel_rfl) rfl) ?_
          refine AL_p (x_lens rfl rfl (by kernel_rfl)) ?_
          refine AL_p (x_conv (k' := .u8) rfl rfl (by kernel_rfl) (wrap8_id (by omega) (by omega))) ?_
          refine AL_p (y_bslice (E := 5) (e := (intE .u8)) [.tmp 81] ([((((s.rels[k]'(by omega)).rel.rows[j]'(by omega))[i]'(by omega)).s.size : Int)]) 109 rfl rfl rfl rfl rfl rfl rfl rfl FitL.rf rfl rfl rfl rfl rfl rfl (by kernel_rfl)) ?_
          refine AL_p (y_append 110 rfl rfl rfl rfl rfl rfl rfl rfl (by kernel_rfl) (by (try simp only [List.length_append, List.length_cons, List.length_nil, strBytes_len, putB_len]); omega)) ?_
          refine AL_p (x_assign rfl rfl) ?_
          refine AL_nil ?_
          refine AW_seq ?_
          refine AW_region ?_
          refine AL_p (x_field (off := 1) (o' := 1) rfl rfl rfl (by kernel_rfl) rfl) ?_
          refine AL_p (x_load1 rfl rfl rfl (by kernel_rfl) rfl) ?_
          refine AL_b (x_seql rfl rfl rfl) (fun b86 h86 => ?_)
          refine AL_nil ?_
          cases b86
          rotate_left
          · try simp only [decide_eq_true_eq, decide_eq_false_iff_not, Bool.not_eq_true, Bool.not_eq_false, Bool.not_eq_true', Bool.not_eq_false', beq_iff_eq, bne_iff_ne, beq_eq_false_iff_ne, bne_eq_false_iff_eq, Int.not_lt, Int.not_le, ge_iff_le, gt_iff_lt] at h86
            have hvb := valBytes_num2 h86
            refine AW_condT rfl ?_
            refine AW_seq ?_
            refine AW_region ?_
            refine AL_p (x_field (off := 0) (o' := 0) rfl rfl rfl (by kernel_rfl) rfl) ?_
            refine AL_p (x_load1 rfl rfl rfl (by kernel_rfl) rfl) ?_
            refine AL_p (x_callR rfl rfl rfl (putNumS_c [] (((s.rels[k]'(by omega)).rel.rows[j]'(by omega))[i]'(by omega)).n 6 (valOk_in hvo).1 (by have := (valOk_in hvo).2.1; omega) (by omega) (by omega) (by simp) 111) rfl ⟨fun g l w v h => CLe.nil g l w v h, V1Le.rf, V1Le.rf, trivial⟩ rfl rfl rfl rfl rfl) ?_
            refine AL_p (x_move rfl rfl) ?_
            refine AL_p (x_extract rfl rfl rfl) ?_
            refine AL_p (x_extract rfl rfl rfl) ?_
            refine AL_p (x_assign rfl rfl) ?_
            refine AL_p (x_assign rfl rfl) ?_
            refine AL_nil ?_
            refine AW_region ?_
            refine AL_p (x_move rfl rfl) ?_
            refine AL_p (x_move rfl rfl) ?_
            refine AL_p (y_append 112 rfl rfl rfl rfl rfl rfl rfl rfl (by kernel_rfl) (by (try simp only [List.length_append, List.length_cons, List.length_nil, strBytes_len, putB_len]); omega)) ?_
            refine AL_p (x_assign rfl rfl) ?_
            refine AL_nil ?_
            refine AW_region ?_
            refine AL_p (x_add rfl rfl rfl (IntWalk.i64_in _ (by omega))) ?_
            refine AL_p (x_move rfl rfl) ?_
            refine AL_nil ?_
            refine ⟨⟨i + 1, by omega⟩, rn [(107, 112)], ?_, by dsimp only; omega⟩
            exact ⟨by (repeat refine ⟨⟨_, rfl, by first | exact VLe.rf | exact vle_int (by dsimp only; omega)⟩, ?_⟩); exact trivial, by (repeat refine ⟨⟨_, rfl, by first | exact BLe.rf | exact BLe.box AllC.rf | exact BLe.arr (by first | (rw [flatTo_zero, List.append_nil]; done) | (rw [← flatTo_more (f := valBytes) (k := i) (by omega), hvb]; simp only [List.append_assoc, List.nil_append]; done))⟩, ?_⟩); exact trivial, by repeat (first | exact trivial | refine ⟨⟨rfl, by first | (left; intro h; cases h) | (right; rfl), fun _ h => ⟨_, h⟩⟩, ?_⟩), rfl⟩
          · try simp only [decide_eq_true_eq, decide_eq_false_iff_not, Bool.not_eq_true, Bool.not_eq_false, Bool.not_eq_true', Bool.not_eq_false', beq_iff_eq, bne_iff_ne, beq_eq_false_iff_ne, bne_eq_false_iff_eq, Int.not_lt, Int.not_le, ge_iff_le, gt_iff_lt] at h86
            have hvb := valBytes_word h86
            refine AW_condF rfl ?_
            refine AW_region ?_
            refine AL_p (x_move rfl rfl) ?_
            refine AL_p (x_field (off := 1) (o' := 1) rfl rfl rfl (by kernel_rfl) rfl) ?_
            refine AL_p (x_load1 rfl rfl rfl (by kernel_rfl) rfl) ?_
            refine AL_p (x_bytes (E := 5) rfl rfl (by kernel_rfl)) ?_
            refine AL_p (y_append_sl 113 true (.inr intE_nofp) rfl rfl rfl rfl rfl rfl (by kernel_rfl) (by (try simp only [List.length_append, List.length_cons, List.length_nil, strBytes_len, putB_len]); omega)) ?_
            refine AL_p (x_assign rfl rfl) ?_
            refine AL_nil ?_
            refine AW_region ?_
            refine AL_p (x_add rfl rfl rfl (IntWalk.i64_in _ (by omega))) ?_
            refine AL_p (x_move rfl rfl) ?_
            refine AL_nil ?_
            refine ⟨⟨i + 1, by omega⟩, rn [(107, 113)], ?_, by dsimp only; omega⟩
            exact ⟨by (repeat refine ⟨⟨_, rfl, by first | exact VLe.rf | exact vle_int (by dsimp only; omega)⟩, ?_⟩); exact trivial, by (repeat refine ⟨⟨_, rfl, by first | exact BLe.rf | exact BLe.box AllC.rf | exact BLe.arr (by first | (rw [flatTo_zero, List.append_nil]; done) | (rw [← flatTo_more (f := valBytes) (k := i) (by omega), hvb]; simp only [List.append_assoc, List.nil_append]; done))⟩, ?_⟩); exact trivial, by repeat (first | exact trivial | refine ⟨⟨rfl, by first | (left; intro h; cases h) | (right; rfl), fun _ h => ⟨_, h⟩⟩, ?_⟩), rfl⟩
        · try simp only [decide_eq_true_eq, decide_eq_false_iff_not, Bool.not_eq_true, Bool.not_eq_false, Bool.not_eq_true', Bool.not_eq_false', beq_iff_eq, bne_iff_ne, beq_eq_false_iff_ne, bne_eq_false_iff_eq, Int.not_lt, Int.not_le, ge_iff_le, gt_iff_lt] at h74
          refine AW_condF rfl ?_
          refine AW_exit (BQ_hit ?_)
          refine AW_region ?_
          refine AL_p (x_add rfl rfl rfl (IntWalk.i64_in _ (by omega))) ?_
          refine AL_p (x_move rfl rfl) ?_
          refine AL_nil ?_
          refine ⟨⟨j + 1, by omega⟩, rn [], ?_, by dsimp only; omega⟩
          exact ⟨by (repeat refine ⟨⟨_, rfl, by first | exact VLe.rf | exact vle_int (by dsimp only; omega)⟩, ?_⟩); exact trivial, by (repeat refine ⟨⟨_, rfl, by first | exact BLe.rf | exact BLe.box AllC.rf | exact BLe.arr (by first | (rw [flatTo_zero, List.append_nil]; done) | (rw [← flatTo_more (f := rowBytes) (k := j) (by omega), flatTo_all (f := valBytes) (by omega)]; simp only [rowBytes, List.append_assoc]; done))⟩, ?_⟩); exact trivial, by repeat (first | exact trivial | refine ⟨⟨rfl, by first | (left; intro h; cases h) | (right; rfl), fun _ h => ⟨_, h⟩⟩, ?_⟩), rfl⟩
      · try simp only [decide_eq_true_eq, decide_eq_false_iff_not, Bool.not_eq_true, Bool.not_eq_false, Bool.not_eq_true', Bool.not_eq_false', beq_iff_eq, bne_iff_ne, beq_eq_false_iff_ne, bne_eq_false_iff_eq, Int.not_lt, Int.not_le, ge_iff_le, gt_iff_lt] at h63
        refine AW_condF rfl ?_
        refine AW_exit (BQ_hit ?_)
        refine AW_region ?_
        refine AL_p (x_add rfl rfl rfl (IntWalk.i64_in _ (by omega))) ?_
        refine AL_p (x_move rfl rfl) ?_
        refine AL_nil ?_
        refine ⟨⟨k + 1, by omega⟩, rn [(101, 107)], ?_, by dsimp only; omega⟩
        exact ⟨by (repeat refine ⟨⟨_, rfl, by first | exact VLe.rf | exact vle_int (by dsimp only; omega)⟩, ?_⟩); exact trivial, by (repeat refine ⟨⟨_, rfl, by first | exact BLe.rf | exact BLe.box AllC.rf | exact BLe.arr (by first | (rw [flatTo_zero, List.append_nil]; done) | (rw [← flatTo_more (f := namedBytes) (xs := s.rels) (k := k) (by omega), flatTo_all (f := rowBytes) (by omega)]; simp only [namedBytes, hpb, List.append_assoc, List.cons_append, List.nil_append]; done))⟩, ?_⟩); exact trivial, by repeat (first | exact trivial | refine ⟨⟨rfl, by first | (left; intro h; cases h) | (right; rfl), fun _ h => ⟨_, h⟩⟩, ?_⟩), rfl⟩
    · try simp only [decide_eq_true_eq, decide_eq_false_iff_not, Bool.not_eq_true, Bool.not_eq_false, Bool.not_eq_true', Bool.not_eq_false', beq_iff_eq, bne_iff_ne, beq_eq_false_iff_ne, bne_eq_false_iff_eq, Int.not_lt, Int.not_le, ge_iff_le, gt_iff_lt] at h24
      refine AW_condF rfl ?_
      refine AW_exit (BQ_hit ?_)
      refine AW_seq ?_
      refine AW_seq ?_
      refine AW_region ?_
      refine AL_p (x_move rfl rfl) ?_
      refine AL_p (x_olen (E := 5) (n := 1) rfl rfl rfl (by kernel_rfl)) ?_
      refine AL_b (x_gtr rfl rfl rfl) (fun b106 h106 => ?_)
      refine AL_nil ?_
      cases b106
      rotate_left
      · try simp only [decide_eq_true_eq, decide_eq_false_iff_not, Bool.not_eq_true, Bool.not_eq_false, Bool.not_eq_true', Bool.not_eq_false', beq_iff_eq, bne_iff_ne, beq_eq_false_iff_ne, bne_eq_false_iff_eq, Int.not_lt, Int.not_le, ge_iff_le, gt_iff_lt] at h106
        have hno := storeBytes_big hok (by rw [← storeB_to (k := k) (by omega)]; exact h106)
        refine AW_condT rfl ?_
        refine AW_seq ?_
        refine AW_region ?_
        refine AL_p (x_assign rfl rfl) ?_
        refine AL_p (x_assign rfl rfl) ?_
        refine AL_nil ?_
        refine AW_adoptT (T := 5) (e := (intE .u8)) 114 2 rfl rfl rfl ?_
        refine AW_ret ?_
        exact ⟨rn [(0, 114)], ⟨⟨⟨_, rfl, VLe.rf⟩, ⟨_, rfl, by first | exact VLe.rf | exact vle_bool (by rw [hno])⟩, trivial⟩, ⟨⟨_, rfl, by first | exact BLe.rf | (refine BLe.arr ?_; rw [hno]; done) | (refine BLe.arr ?_; rw [hno]; exact storeB_to (by omega))⟩, trivial⟩, trivial, rfl⟩⟩
      · try simp only [decide_eq_true_eq, decide_eq_false_iff_not, Bool.not_eq_true, Bool.not_eq_false, Bool.not_eq_true', Bool.not_eq_false', beq_iff_eq, bne_iff_ne, beq_eq_false_iff_ne, bne_eq_false_iff_eq, Int.not_lt, Int.not_le, ge_iff_le, gt_iff_lt] at h106
        have hno := storeBytes_ok hok (by rw [← storeB_to (k := k) (by omega)]; omega)
        refine AW_condF rfl ?_
        refine AW_skip ?_
        refine AW_seq ?_
        refine AW_region ?_
        refine AL_p (x_move rfl rfl) ?_
        refine AL_p (x_assign rfl rfl) ?_
        refine AL_p (x_assign rfl rfl) ?_
        refine AL_nil ?_
        refine AW_ret ?_
        exact ⟨rn [(0, 101)], ⟨⟨⟨_, rfl, VLe.rf⟩, ⟨_, rfl, by first | exact VLe.rf | exact vle_bool (by rw [hno])⟩, trivial⟩, ⟨⟨_, rfl, by first | exact BLe.rf | (refine BLe.arr ?_; rw [hno]; done) | (refine BLe.arr ?_; rw [hno]; exact storeB_to (by omega))⟩, trivial⟩, trivial, rfl⟩⟩
  · try simp only [decide_eq_true_eq, decide_eq_false_iff_not, Bool.not_eq_true, Bool.not_eq_false, Bool.not_eq_true', Bool.not_eq_false', beq_iff_eq, bne_iff_ne, beq_eq_false_iff_ne, bne_eq_false_iff_eq, Int.not_lt, Int.not_le, ge_iff_le, gt_iff_lt] at h13
    have hno := storeBytes_no h13
    refine AW_condT rfl ?_
    refine AW_seq ?_
    refine AW_region ?_
    refine AL_p (x_assign rfl rfl) ?_
    refine AL_p (x_assign rfl rfl) ?_
    refine AL_nil ?_
    refine AW_adoptT (T := 5) (e := (intE .u8)) 114 2 rfl rfl rfl ?_
    refine AW_ret ?_
    exact ⟨rn [(0, 114)], ⟨⟨⟨_, rfl, VLe.rf⟩, ⟨_, rfl, by first | exact VLe.rf | exact vle_bool (by rw [hno])⟩, trivial⟩, ⟨⟨_, rfl, by first | exact BLe.rf | (refine BLe.arr ?_; rw [hno]; done) | (refine BLe.arr ?_; rw [hno]; exact storeB_to (by omega))⟩, trivial⟩, trivial, rfl⟩⟩
theorem storeBytesS_c (s : Storet) (hs : smallStore s) (k : Nat) : AC Try.prog 24 [.agg (storeC s)] [] (.tup [.one (.own k), .one (.c (.bool (storeBytes s).2))]) [(k, some (.arr 5 (intE .u8) ((storeBytes s).1) true))] := AC.at (storeBytesS_c0 s hs) k
end Go.Proofs.Ytibhoanjglfaoaa

/- The walk of FnExactStoreBytes (printed by walk.py) -/
namespace Go.Proofs.Ytibhoanjglfaoaa
open Go.RowKit
set_option linter.unusedVariables false
set_option linter.unusedSimpArgs false
set_option maxRecDepth 100000

set_option maxHeartbeats 4000000 in
theorem lawFnExactStoreBytes.walk (w : World) (c0 : Array Value) (x0 : Storet) (b0 : List Nat) (h0 : storeE.rep w c0.toList x0 b0) :
    Calls Try.prog 5 #[.agg c0] w fun e w' => e = .returned (.bool true) ∧ Below w.heap.size w w' := by
  refine AM_law (r := 2) Try.func5 rfl Try.ntmps5 rfl Try.results5 w _ (args := [.agg (storeC x0)]) ⟨arg_agg h0, trivial⟩ (fun B => ?_)
  refine AM_seq ?_
  refine AM_region ?_
  refine AL_p (x_box 100 rfl rfl rfl rfl rfl rfl rfl) ?_
  refine AL_p (x_assign rfl rfl) ?_
  refine AL_nil ?_
  refine AM_seq ?_
  refine AM_region ?_
  refine AL_p (x_assign rfl rfl) ?_
  refine AL_nil ?_
  refine AM_seq ?_
  refine AM_region ?_
  refine AL_p (x_loadN (n := 1) rfl rfl rfl (by kernel_rfl) rfl rfl) ?_
  refine AL_p (x_move rfl rfl) ?_
  refine AL_p (x_call0 rfl rfl rfl (szStore_c _ _ (by omega) (by omega)) rfl rfl) ?_
  refine AL_p (x_assign rfl rfl) ?_
  refine AL_nil ?_
  refine AM_seq ?_
  refine AM_seq ?_
  refine AM_region ?_
  refine AL_p (x_move rfl rfl) ?_
  refine AL_b (x_lss rfl rfl rfl) (fun b18 h18 => ?_)
  refine AL_nil ?_
  cases b18
  rotate_left
  · try simp only [decide_eq_true_eq, decide_eq_false_iff_not, Bool.not_eq_true, Bool.not_eq_false, Bool.not_eq_true', Bool.not_eq_false', beq_iff_eq, bne_iff_ne, beq_eq_false_iff_ne, bne_eq_false_iff_eq, Int.not_lt, Int.not_le, ge_iff_le, gt_iff_lt] at h18
    refine AM_condT rfl ?_
    refine AM_seq ?_
    refine AM_region ?_
    refine AL_p (x_assign rfl rfl) ?_
    refine AL_nil ?_
    refine AM_ret ?_
    exact rfl
  · try simp only [decide_eq_true_eq, decide_eq_false_iff_not, Bool.not_eq_true, Bool.not_eq_false, Bool.not_eq_true', Bool.not_eq_false', beq_iff_eq, bne_iff_ne, beq_eq_false_iff_ne, bne_eq_false_iff_eq, Int.not_lt, Int.not_le, ge_iff_le, gt_iff_lt] at h18
    have f18 := (szR_nonneg h18).1
    have e18 := (szR_nonneg h18).2
    have t0 : totStore x0 ≤ 1048576 := by omega
    have s0 := totStore_small t0
    refine AM_condF rfl ?_
    refine AM_skip ?_
    refine AM_seq ?_
    refine AM_region ?_
    refine AL_p (x_loadN (n := 1) rfl rfl rfl (by kernel_rfl) rfl rfl) ?_
    refine AL_p (x_callR rfl rfl rfl (toStore_c x0 s0 101) rfl AllV.rf rfl rfl rfl rfl rfl) ?_
    refine AL_p (x_callR rfl rfl rfl (storeBytesS_c x0 s0 102) rfl AllV.rf rfl rfl rfl rfl rfl) ?_
    refine AL_p (x_move rfl rfl) ?_
    refine AL_p (x_extract rfl rfl rfl) ?_
    refine AL_p (x_extract rfl rfl rfl) ?_
    refine AL_p (x_assign rfl rfl) ?_
    refine AL_p (x_assign rfl rfl) ?_
    refine AL_nil ?_
    refine AM_raise (fun B' => [(1, .one (.epo B' storeE (x0) 0)), (4, .one (.slo B' (intE .u8) ((storeBytes x0).1))), (5, .one (.c _))]) (fun B' => ⟨⟨_, rfl, .box (f := storeC) rfl rfl rfl FitL.rf⟩, ⟨_, rfl, .own rfl⟩, ⟨_, rfl, .c⟩, trivial⟩) (fun B' => ?_)
    refine AM_seq ?_
    refine AM_region ?_
    refine AL_p (x_pload (f := storeC) (n := 1) rfl rfl (by kernel_rfl) rfl rfl) ?_
    refine AL_p (x_callR rfl rfl rfl (toStore_c x0 s0 103) rfl AllV.rf rfl rfl rfl rfl rfl) ?_
    refine AL_p (x_alloc (z := .agg #[.slice none 0 0]) 104 rfl (by kernel_rfl) rfl rfl rfl rfl) ?_
    refine AL_p (x_store (n := 1) rfl rfl rfl rfl (by kernel_rfl) rfl rfl rfl) ?_
    refine AL_nil ?_
    refine AM_seq ?_
    refine AM_region ?_
    refine AL_p (x_loadN (n := 1) rfl rfl rfl (by kernel_rfl) rfl rfl) ?_
    refine AL_p (x_callR rfl rfl rfl (storeBytesI_c x0 s0 105) rfl AllV.rf rfl rfl rfl rfl rfl) ?_
    refine AL_p (x_move rfl rfl) ?_
    refine AL_p (x_extract rfl rfl rfl) ?_
    refine AL_p (x_extract rfl rfl rfl) ?_
    refine AL_p (x_assign rfl rfl) ?_
    refine AL_p (x_assign rfl rfl) ?_
    refine AL_nil ?_
    refine AM_seq ?_
    refine AM_seq ?_
    refine AM_region ?_
    refine AL_p (x_move rfl rfl) ?_
    refine AL_p (x_move rfl rfl) ?_
    refine AL_p (x_callR rfl rfl rfl (eqByteS_c ((storeBytes x0).1)) rfl AllV.rf rfl rfl rfl rfl rfl) ?_
    refine AL_p (x_not rfl rfl) ?_
    refine AL_p (x_move rfl rfl) ?_
    refine AL_g rfl rfl (x_move rfl rfl) ?_
    refine AL_g rfl rfl (x_move rfl rfl) ?_
    refine AL_gb rfl rfl (x_bneq rfl rfl rfl (by kernel_rfl)) (fun b39 h39 => ?_)
    refine AL_p (x_pickF rfl rfl rfl) ?_
    refine AL_nil ?_
    cases b39
    rotate_left
    · exfalso; first | (simp [ba_beq_self] at h39; done) | (simp at h39; omega)
    · try simp only [decide_eq_true_eq, decide_eq_false_iff_not, Bool.not_eq_true, Bool.not_eq_false, Bool.not_eq_true', Bool.not_eq_false', beq_iff_eq, bne_iff_ne, beq_eq_false_iff_ne, bne_eq_false_iff_eq, Int.not_lt, Int.not_le, ge_iff_le, gt_iff_lt] at h39
      refine AM_condF rfl ?_
      refine AM_skip ?_
      refine AM_seq ?_
      refine AM_seq ?_
      refine AM_draw rfl ?_
      refine AL_p (x_loadN (n := 1) rfl rfl rfl (by kernel_rfl) rfl rfl) ?_
      refine AL_p (x_pload (f := storeC) (n := 1) rfl rfl (by kernel_rfl) rfl rfl) ?_
      refine AL_p (x_callR rfl rfl rfl (toStore_c x0 s0 106) rfl AllV.rf rfl rfl rfl rfl rfl) ?_
      refine AL_p (x_callR rfl rfl rfl (eqStore_c (x0)) rfl AllV.rf rfl rfl rfl rfl rfl) ?_
      refine AL_p (x_not rfl rfl) ?_
      refine AL_nild (by kernel_rfl) ?_
      refine AM_condF rfl ?_
      refine AM_skip ?_
      refine AM_seq ?_
      refine AM_region ?_
      refine AL_p (x_assign rfl rfl) ?_
      refine AL_nil ?_
      refine AM_seq ?_
      refine AM_regionM ?_
      refine LM_p (x_loadN (n := 1) rfl rfl rfl (by kernel_rfl) rfl rfl) ?_
      refine LM_p (x_move rfl rfl) ?_
      have n0 : cntDStore (x0) ≤ 1152921504606846976 := cntStore_le t0
      have v0 := markDStore_cnt (x0) (1)
      refine LM_markA (F := storeC) (z := x0) (z' := (markDStore x0 (1)).1) [(1, _), (4, _), (5, _), (7, _), (8, _), (9, _)] [(105, some _)] rfl rfl rfl rfl ⟨_, _, Try.func16, rfl, rfl⟩ (fun w cs bs h hF => markDStore_any cs _ bs _ 0 w h hF (by omega) (by omega)) rfl rfl FitL.rf (wf64 (by omega) (by omega)) ⟨⟨rfl, rfl⟩, ⟨rfl, rfl⟩, ⟨rfl, trivial⟩, ⟨rfl, rfl⟩, ⟨rfl, trivial⟩, ⟨rfl, trivial⟩, trivial⟩ ⟨⟨rfl, rfl, rfl⟩, trivial⟩ ?_
      refine LM_p (x_assign rfl rfl) ?_
      refine LM_nil ?_
      refine AM_seq ?_
      refine AM_seq ?_
      refine AM_region ?_
      refine AL_p (x_move rfl rfl) ?_
      refine AL_b (x_lss rfl rfl rfl) (fun b50 h50 => ?_)
      refine AL_p (x_move rfl rfl) ?_
      cases b50
      rotate_left
      · exfalso; first | (simp [ba_beq_self] at h50; done) | (simp at h50; omega)
      · try simp only [decide_eq_true_eq, decide_eq_false_iff_not, Bool.not_eq_true, Bool.not_eq_false, Bool.not_eq_true', Bool.not_eq_false', beq_iff_eq, bne_iff_ne, beq_eq_false_iff_ne, bne_eq_false_iff_eq, Int.not_lt, Int.not_le, ge_iff_le, gt_iff_lt] at h50
        refine AL_g rfl rfl (x_move rfl rfl) ?_
        refine AL_g rfl rfl (x_move rfl rfl) ?_
        refine AL_g rfl rfl (x_callR rfl rfl rfl (eqByteS_c ((storeBytes x0).1)) rfl AllV.rf rfl rfl rfl rfl rfl) ?_
        refine AL_g rfl rfl (x_not rfl rfl) ?_
        refine AL_p (x_pickF rfl rfl rfl) ?_
        refine AL_p (x_move rfl rfl) ?_
        refine AL_g rfl rfl (x_move rfl rfl) ?_
        refine AL_g rfl rfl (x_move rfl rfl) ?_
        refine AL_gb rfl rfl (x_bneq rfl rfl rfl (by kernel_rfl)) (fun b60 h60 => ?_)
        refine AL_p (x_pickF rfl rfl rfl) ?_
        refine AL_nil ?_
        cases b60
        rotate_left
        · exfalso; first | (simp [ba_beq_self] at h60; done) | (simp at h60; omega)
        · try simp only [decide_eq_true_eq, decide_eq_false_iff_not, Bool.not_eq_true, Bool.not_eq_false, Bool.not_eq_true', Bool.not_eq_false', beq_iff_eq, bne_iff_ne, beq_eq_false_iff_ne, bne_eq_false_iff_eq, Int.not_lt, Int.not_le, ge_iff_le, gt_iff_lt] at h60
          refine AM_condF rfl ?_
          refine AM_skip ?_
          refine AM_seq ?_
          refine AM_region ?_
          refine AL_p (x_assign rfl rfl) ?_
          refine AL_nil ?_
          refine AM_seq ?_
          refine AM_regionM ?_
          refine LM_p (x_move rfl rfl) ?_
          refine LM_p (x_move rfl rfl) ?_
          have n1 : cntL cntByte ((storeBytes x0).1) ≤ 1152921504606846976 := (by have h := cntL_le (c := cntByte) (M := 1) (xs := (storeBytes x0).1) (fun x _ => by simp [cntByte]); have := storeBytes_len x0; omega)
          have v1 := markL_cnt markByte markByte_cnt ((storeBytes x0).1) (1)
          refine LM_markOK (z := (storeBytes x0).1) (z' := (markL markByte (storeBytes x0).1 (1)).1) 7 (fun B' => [(1, .one (.epo B' storeE (x0) 0)), (4, .one (.slo B' (intE .u8) ((storeBytes x0).1))), (5, .one (.c _)), (10, .one (.c _))]) rfl rfl rfl rfl rfl ⟨_, _, Try.func27, rfl, rfl⟩ (fun w a n cap bs h hF => markByteS_any a n cap _ bs _ 0 w h hF (by omega) (by omega)) rfl (wf64 (by omega) (by omega)) (fun B' => ⟨⟨_, rfl, .epo⟩, ⟨_, rfl, .slo⟩, ⟨_, rfl, .c⟩, ⟨_, rfl, .c⟩, trivial⟩) (fun B' => ?_)
          refine LM_p (x_assign rfl rfl) ?_
          refine LM_nil ?_
          refine AM_seq ?_
          refine AM_region ?_
          refine AL_p (x_assign rfl rfl) ?_
          refine AL_nil ?_
          refine AM_seq ?_
          refine AM_region ?_
          refine AL_p (x_move rfl rfl) ?_
          refine AL_p (x_move rfl rfl) ?_
          refine AL_p (x_callR rfl rfl rfl (heldByteS_c ((storeBytes x0).1) _ (1) rfl (by omega) (by omega)) rfl AllV.rf rfl rfl rfl rfl rfl) ?_
          refine AL_p (x_assign rfl rfl) ?_
          refine AL_nil ?_
          refine AM_seq ?_
          refine AM_seq ?_
          refine AM_region ?_
          refine AL_p (x_move rfl rfl) ?_
          refine AL_b (x_lss rfl rfl rfl) (fun b69 h69 => ?_)
          refine AL_nil ?_
          cases b69
          rotate_left
          · exfalso; first | (simp [ba_beq_self] at h69; done) | (simp at h69; omega)
          · try simp only [decide_eq_true_eq, decide_eq_false_iff_not, Bool.not_eq_true, Bool.not_eq_false, Bool.not_eq_true', Bool.not_eq_false', beq_iff_eq, bne_iff_ne, beq_eq_false_iff_ne, bne_eq_false_iff_eq, Int.not_lt, Int.not_le, ge_iff_le, gt_iff_lt] at h69
            refine AM_condF rfl ?_
            refine AM_skip ?_
            refine AM_seq ?_
            refine AM_seq ?_
            refine AM_region ?_
            refine AL_p (x_move rfl rfl) ?_
            refine AL_p (x_move rfl rfl) ?_
            refine AL_b (x_neq rfl rfl rfl) (fun b72 h72 => ?_)
            refine AL_nil ?_
            cases b72
            rotate_left
            · exfalso; first | (simp [ba_beq_self] at h72; done) | (simp at h72; omega)
            · try simp only [decide_eq_true_eq, decide_eq_false_iff_not, Bool.not_eq_true, Bool.not_eq_false, Bool.not_eq_true', Bool.not_eq_false', beq_iff_eq, bne_iff_ne, beq_eq_false_iff_ne, bne_eq_false_iff_eq, Int.not_lt, Int.not_le, ge_iff_le, gt_iff_lt] at h72
              refine AM_condF rfl ?_
              refine AM_skip ?_
              refine AM_seq ?_
              refine AM_region ?_
              refine AL_p (x_pload (f := storeC) (n := 1) rfl rfl (by kernel_rfl) rfl rfl) ?_
              refine AL_p (x_callR rfl rfl rfl (toStore_c x0 s0 107) rfl AllV.rf rfl rfl rfl rfl rfl) ?_
              refine AL_p (x_callR rfl rfl rfl (storeBytesI_c x0 s0 108) rfl AllV.rf rfl rfl rfl rfl rfl) ?_
              refine AL_p (x_move rfl rfl) ?_
              refine AL_p (x_extract rfl rfl rfl) ?_
              refine AL_p (x_extract rfl rfl rfl) ?_
              refine AL_p (x_assign rfl rfl) ?_
              refine AL_p (x_assign rfl rfl) ?_
              refine AL_nil ?_
              refine AM_seq ?_
              refine AM_seq ?_
              refine AM_region ?_
              refine AL_p (x_move rfl rfl) ?_
              refine AL_p (x_move rfl rfl) ?_
              refine AL_p (x_callR rfl rfl rfl (eqByteS_c ((storeBytes x0).1)) rfl AllV.rf rfl rfl rfl rfl rfl) ?_
              refine AL_p (x_not rfl rfl) ?_
              refine AL_p (x_move rfl rfl) ?_
              refine AL_g rfl rfl (x_move rfl rfl) ?_
              refine AL_g rfl rfl (x_move rfl rfl) ?_
              refine AL_gb rfl rfl (x_bneq rfl rfl rfl (by kernel_rfl)) (fun b86 h86 => ?_)
              refine AL_p (x_pickF rfl rfl rfl) ?_
              refine AL_nil ?_
              cases b86
              rotate_left
              · exfalso; first | (simp [ba_beq_self] at h86; done) | (simp at h86; omega)
              · try simp only [decide_eq_true_eq, decide_eq_false_iff_not, Bool.not_eq_true, Bool.not_eq_false, Bool.not_eq_true', Bool.not_eq_false', beq_iff_eq, bne_iff_ne, beq_eq_false_iff_ne, bne_eq_false_iff_eq, Int.not_lt, Int.not_le, ge_iff_le, gt_iff_lt] at h86
                refine AM_condF rfl ?_
                refine AM_skip ?_
                refine AM_seq ?_
                refine AM_region ?_
                refine AL_p (x_assign rfl rfl) ?_
                refine AL_nil ?_
                refine AM_seq ?_
                refine AM_region ?_
                refine AL_p (x_move rfl rfl) ?_
                refine AL_p (x_move rfl rfl) ?_
                refine AL_p (x_callR rfl rfl rfl (heldByteS_c ((storeBytes x0).1) _ (1) rfl (by omega) (by omega)) rfl AllV.rf rfl rfl rfl rfl rfl) ?_
                refine AL_p (x_assign rfl rfl) ?_
                refine AL_nil ?_
                refine AM_seq ?_
                refine AM_seq ?_
                refine AM_region ?_
                refine AL_p (x_move rfl rfl) ?_
                refine AL_b (x_lss rfl rfl rfl) (fun b92 h92 => ?_)
                refine AL_nil ?_
                cases b92
                rotate_left
                · exfalso; first | (simp [ba_beq_self] at h92; done) | (simp at h92; omega)
                · try simp only [decide_eq_true_eq, decide_eq_false_iff_not, Bool.not_eq_true, Bool.not_eq_false, Bool.not_eq_true', Bool.not_eq_false', beq_iff_eq, bne_iff_ne, beq_eq_false_iff_ne, bne_eq_false_iff_eq, Int.not_lt, Int.not_le, ge_iff_le, gt_iff_lt] at h92
                  refine AM_condF rfl ?_
                  refine AM_skip ?_
                  refine AM_seq ?_
                  refine AM_seq ?_
                  refine AM_region ?_
                  refine AL_p (x_move rfl rfl) ?_
                  refine AL_p (x_move rfl rfl) ?_
                  refine AL_b (x_neq rfl rfl rfl) (fun b95 h95 => ?_)
                  refine AL_nil ?_
                  cases b95
                  rotate_left
                  · exfalso; first | (simp [ba_beq_self] at h95; done) | (simp at h95; omega)
                  · try simp only [decide_eq_true_eq, decide_eq_false_iff_not, Bool.not_eq_true, Bool.not_eq_false, Bool.not_eq_true', Bool.not_eq_false', beq_iff_eq, bne_iff_ne, beq_eq_false_iff_ne, bne_eq_false_iff_eq, Int.not_lt, Int.not_le, ge_iff_le, gt_iff_lt] at h95
                    refine AM_condF rfl ?_
                    refine AM_skip ?_
                    refine AM_seq ?_
                    refine AM_region ?_
                    refine AL_p (x_assign rfl rfl) ?_
                    refine AL_nil ?_
                    refine AM_ret ?_
                    exact rfl
end Go.Proofs.Ytibhoanjglfaoaa

/- Lemmas of the walks, part 6. -/
import Derived.Test.YtibhoanjglfaoaaGreatU5
import Derived.Shelf.Spec.SlicesGrow
import Derived.Test.YtibhoanjglfaoaaGreatRows
/- Two ranges merged (printed by walk.py) -/
namespace Go.Proofs.YtibhoanjglfaoaaGreat
open Go.RowKit
set_option linter.unusedVariables false
set_option linter.unusedSimpArgs false
set_option maxRecDepth 100000

def SymIH (N : Nat) : Prop := ∀ (us : List Changet) (a m b : Int) (P A B Q : List Changet) (hu : us = P ++ A ++ B ++ Q) (ha : a = P.length) (hm : m = P.length + A.length) (hb : b = P.length + A.length + B.length) (hA : Srt ltC A) (hB : Srt ltC B) (hA0 : 0 < A.length) (hB0 : 0 < B.length) (hN : A.length + B.length ≤ N) (hl : us.length ≤ 1048576), AC Tryz.prog 134 [.one (.own 0), .one (.c (.int .i64 (a))), .one (.c (.int .i64 (m))), .one (.c (.int .i64 (b))), .one (.clo 56 [])] [(0, some (.arr 65 changeE us false))] (.tup []) [(0, some (.arr 65 changeE (P ++ mergeI ltC A B ++ Q) false))]

set_option maxHeartbeats 4000000 in
theorem symStep (N : Nat) (ih : SymIH N) (us : List Changet) (a m b : Int) (P A B Q : List Changet) (hu : us = P ++ A ++ B ++ Q) (ha : a = P.length) (hm : m = P.length + A.length) (hb : b = P.length + A.length + B.length) (hA : Srt ltC A) (hB : Srt ltC B) (hA0 : 0 < A.length) (hB0 : 0 < B.length) (hN : A.length + B.length ≤ N + 1) (hl : us.length ≤ 1048576) : AC Tryz.prog 134 [.one (.own 0), .one (.c (.int .i64 (a))), .one (.c (.int .i64 (m))), .one (.c (.int .i64 (b))), .one (.clo 56 [])] [(0, some (.arr 65 changeE us false))] (.tup []) [(0, some (.arr 65 changeE (P ++ mergeI ltC A B ++ Q) false))] := by
  obtain ⟨T1, hT1⟩ : ∃ T : Int → Bool, ∀ c, T c = ltAt ltC us c.toNat a.toNat := ⟨_, fun _ => rfl⟩
  obtain ⟨T2, hT2⟩ : ∃ T : Int → Bool, ∀ c, T c = !ltAt ltC us m.toNat c.toNat := ⟨_, fun _ => rfl⟩
  obtain ⟨T3, hT3⟩ : ∃ T : Int → Bool, ∀ c, T c = !ltAt ltC us (((a + b) / 2) + m - 1 - c).toNat c.toNat := ⟨_, fun _ => rfl⟩
  have hul : us.length = P.length + A.length + B.length + Q.length := by subst hu; simp only [List.length_append]
  refine AC_body0 Tryz.func134 rfl rfl Tryz.ntmps134 rfl Tryz.results134 ?_
  refine AW_seq ?_
  refine AW_seq ?_
  refine AW_region ?_
  refine AL_p (x_move rfl rfl) ?_
  refine AL_p (x_move rfl rfl) ?_
  refine AL_p (x_sub rfl rfl rfl (IntWalk.i64_in _ (by omega))) ?_
  refine AL_b (x_eql rfl rfl rfl) (fun b28 h28 => ?_)
  refine AL_nil ?_
  cases b28
  rotate_left
  · try simp only [tdy] at h28
    obtain ⟨x, rfl⟩ : ∃ x, A = [x] := List.length_eq_one_iff.1 (by omega)
    have hF1 := fal_left wkC hB hu ha hm hb hA0 hT1
    refine AW_condT rfl ?_
    refine AW_seq ?_
    refine AW_region ?_
    refine AL_p (x_move rfl rfl) ?_
    refine AL_p (x_assign rfl rfl) ?_
    refine AL_nil ?_
    refine AW_seq ?_
    refine AW_region ?_
    refine AL_p (x_move rfl rfl) ?_
    refine AL_p (x_assign rfl rfl) ?_
    refine AL_nil ?_
    refine AW_seq ?_
    refine AW_block ?_
    refine AW_loop2 (ι := {q : Int × Int // Bis T1 m b (q.1) (q.2)}) (fun p => [(10, .one (.c (.int .i64 ((p.1.1))))), (11, .one (.c (.int .i64 ((p.1.2)))))]) (fun p => []) [0, 1, 2, 3, 4] [0] (fun p => ((p.1.2) - (p.1.1)).toNat) ⟨⟨m, b⟩, .zero (by omega)⟩ (rn []) ?_ ?_
    exact ⟨by (repeat refine ⟨⟨_, rfl, by first | exact VLe.rf | exact vle_int (by dsimp only; omega)⟩, ?_⟩); exact trivial, by (repeat refine ⟨⟨_, rfl, by first | exact BLe.rf | exact BLe.box AllC.rf | exact BLe.arr (by exact rfl)⟩, ?_⟩); exact trivial, by repeat (first | exact trivial | refine ⟨⟨rfl, by first | (left; intro h; cases h) | (right; rfl), by first | exact (fun _ h => ⟨_, h⟩) | exact (fun _ _ => ⟨_, rfl⟩) | (intro _ h; cases h)⟩, ?_⟩), rfl⟩
    rintro ⟨⟨i, j⟩, hinv⟩
    dsimp only
    have hinv : Bis T1 m b i j := hinv
    have hb1 := hinv.1
    have hb2 := hinv.2.1
    have hb3 := hinv.2.2.1
    refine AW_seq ?_
    refine AW_seq ?_
    refine AW_region ?_
    refine AL_p (x_move rfl rfl) ?_
    refine AL_p (x_move rfl rfl) ?_
    refine AL_b (x_lss rfl rfl rfl) (fun b33 h33 => ?_)
    refine AL_nil ?_
    cases b33
    rotate_left
    · try simp only [tdy] at h33
      refine AW_condT rfl ?_
      refine AW_skip ?_
      refine AW_block ?_
      refine AW_seq ?_
      refine AW_region ?_
      refine AL_p (x_move rfl rfl) ?_
      refine AL_p (x_move rfl rfl) ?_
      refine AL_p (x_add rfl rfl rfl (IntWalk.i64_in _ (by omega))) ?_
      refine AL_p (x_conv (k' := .u64) rfl rfl (by kernel_rfl) (u64_id (by omega) (by omega))) ?_
      refine AL_p (x_shr rfl rfl rfl (by omega) (mid_shr (by omega)) (u64_wf (by omega) (by omega))) ?_
      refine AL_p (x_conv (k' := .i64) rfl rfl (by kernel_rfl) (IntWalk.i64_in _ (by omega))) ?_
      refine AL_p (x_assign rfl rfl) ?_
      refine AL_nil ?_
      refine AW_seq ?_
      refine AW_draw rfl ?_
      refine AL_p (x_move rfl rfl) ?_
      refine AL_p (x_move rfl rfl) ?_
      refine AL_p (x_move rfl rfl) ?_
      refine AL_p (x_oindex (n := 5) rfl rfl rfl rfl (by kernel_rfl) rfl (k := ((i + j) / 2).toNat) (by omega) (by omega)) ?_
      refine AL_p (x_oloadN (n := 5) rfl rfl rfl (by kernel_rfl) (by omega) rfl rfl) ?_
      refine AL_p (x_move rfl rfl) ?_
      refine AL_p (x_move rfl rfl) ?_
      refine AL_p (x_oindex (n := 5) rfl rfl rfl rfl (by kernel_rfl) rfl (k := a.toNat) (by omega) (by omega)) ?_
      refine AL_p (x_oloadN (n := 5) rfl rfl rfl (by kernel_rfl) (by omega) rfl rfl) ?_
      refine AL_p (x_call0 rfl rfl rfl (cmpC_c _ _) rfl rfl) ?_
      refine AL_b (x_lss rfl rfl rfl) (fun b50 h50 => ?_)
      refine AL_nild (by kernel_rfl) ?_
      cases b50
      · try simp only [tdy] at h50
        have q50 : T1 ((i + j) / 2) = false := by rw [hT1, ltAt_eq (by omega) (by omega)]; exact cmpC_no h50
        refine AW_condF rfl ?_
        refine AW_region ?_
        refine AL_p (x_move rfl rfl) ?_
        refine AL_p (x_assign rfl rfl) ?_
        refine AL_nil ?_
        refine ⟨⟨⟨i, ((i + j) / 2)⟩, hinv.down hF1 (by omega) (by omega) q50⟩, rn [], ?_, by dsimp only; omega⟩
        exact ⟨by (repeat refine ⟨⟨_, rfl, by first | exact VLe.rf | exact vle_int (by dsimp only; omega)⟩, ?_⟩); exact trivial, by (repeat refine ⟨⟨_, rfl, by first | exact BLe.rf | exact BLe.box AllC.rf | exact BLe.arr (by exact rfl)⟩, ?_⟩); exact trivial, by repeat (first | exact trivial | refine ⟨⟨rfl, by first | (left; intro h; cases h) | (right; rfl), by first | exact (fun _ h => ⟨_, h⟩) | exact (fun _ _ => ⟨_, rfl⟩) | (intro _ h; cases h)⟩, ?_⟩), rfl⟩
      try simp only [tdy] at h50
      have q50 : T1 ((i + j) / 2) = true := by rw [hT1, ltAt_eq (by omega) (by omega)]; exact cmpC_yes h50
      refine AW_condT rfl ?_
      refine AW_region ?_
      refine AL_p (x_move rfl rfl) ?_
      refine AL_p (x_add rfl rfl rfl (IntWalk.i64_in _ (by omega))) ?_
      refine AL_p (x_assign rfl rfl) ?_
      refine AL_nil ?_
      refine ⟨⟨⟨((i + j) / 2) + 1, j⟩, hinv.up hF1 (by omega) (by omega) q50⟩, rn [], ?_, by dsimp only; omega⟩
      exact ⟨by (repeat refine ⟨⟨_, rfl, by first | exact VLe.rf | exact vle_int (by dsimp only; omega)⟩, ?_⟩); exact trivial, by (repeat refine ⟨⟨_, rfl, by first | exact BLe.rf | exact BLe.box AllC.rf | exact BLe.arr (by exact rfl)⟩, ?_⟩); exact trivial, by repeat (first | exact trivial | refine ⟨⟨rfl, by first | (left; intro h; cases h) | (right; rfl), by first | exact (fun _ h => ⟨_, h⟩) | exact (fun _ _ => ⟨_, rfl⟩) | (intro _ h; cases h)⟩, ?_⟩), rfl⟩
    try simp only [tdy] at h33
    obtain rfl : i = j := by omega
    have hz := LeI.zero (B := B) (Q := Q) (k := a) hu ha
    have hbi := hinv
    refine AW_condF rfl ?_
    refine AW_exit (BQ_hit ?_)
    refine AW_seq ?_
    refine AW_seq ?_
    refine AW_region ?_
    refine AL_p (x_move rfl rfl) ?_
    refine AL_p (x_assign rfl rfl) ?_
    refine AL_nil ?_
    refine AW_block ?_
    refine AW_loop2 (ι := {q : Int × List Changet // (a ≤ (q.1) ∧ (q.1) ≤ i - 1) ∧ ((q.2).length = us.length ∧ LeI P x B Q (q.1) (q.2))}) (fun p => [(13, .one (.c (.int .i64 ((p.1.1)))))]) (fun p => [(0, some (.arr 65 changeE (p.1.2) false))]) [0, 1, 2, 3, 4, 10] [] (fun p => (i - (p.1.1)).toNat) ⟨⟨a, us⟩, ⟨⟨by dsimp only; omega, by dsimp only; omega⟩, rfl, hz⟩⟩ (rn []) ?_ ?_
    exact ⟨by (repeat refine ⟨⟨_, rfl, by first | exact VLe.rf | exact vle_int (by dsimp only; omega)⟩, ?_⟩); exact trivial, by (repeat refine ⟨⟨_, rfl, by first | exact BLe.rf | exact BLe.box AllC.rf | exact BLe.arr (by exact rfl)⟩, ?_⟩); exact trivial, by repeat (first | exact trivial | refine ⟨⟨rfl, by first | (left; intro h; cases h) | (right; rfl), by first | exact (fun _ h => ⟨_, h⟩) | exact (fun _ _ => ⟨_, rfl⟩) | (intro _ h; cases h)⟩, ?_⟩), rfl⟩
    rintro ⟨⟨k, W⟩, hinv⟩
    dsimp only
    obtain ⟨⟨hk0, hk00⟩, hk1, hk2⟩ := hinv
    dsimp only at hk0 hk00 hk1 hk2
    refine AW_seq ?_
    refine AW_seq ?_
    refine AW_region ?_
    refine AL_p (x_move rfl rfl) ?_
    refine AL_p (x_move rfl rfl) ?_
    refine AL_p (x_sub rfl rfl rfl (IntWalk.i64_in _ (by omega))) ?_
    refine AL_b (x_lss rfl rfl rfl) (fun b58 h58 => ?_)
    refine AL_nil ?_
    cases b58
    · try simp only [tdy] at h58
      refine AW_condF rfl ?_
      refine AW_exit (BQ_hit ?_)
      refine AW_ret ?_
      exact ⟨rn [], ⟨trivial, ⟨⟨_, rfl, BLe.arr (merge_left hB hu ha (by simpa using hm) (by simpa using hb) hT1 hbi (by omega) hk2)⟩, trivial⟩, by repeat (first | exact trivial | refine ⟨⟨rfl, by first | (left; intro h; cases h) | (right; rfl), by first | exact (fun _ h => ⟨_, h⟩) | exact (fun _ _ => ⟨_, rfl⟩) | (intro _ h; cases h)⟩, ?_⟩), rfl⟩⟩
    try simp only [tdy] at h58
    refine AW_condT rfl ?_
    refine AW_skip ?_
    refine AW_seq ?_
    refine AW_block ?_
    refine AW_draw rfl ?_
    refine AL_p (x_move rfl rfl) ?_
    refine AL_p (x_move rfl rfl) ?_
    refine AL_p (x_move rfl rfl) ?_
    refine AL_p (x_move rfl rfl) ?_
    refine AL_p (x_add rfl rfl rfl (IntWalk.i64_in _ (by omega))) ?_
    refine AL_p (x_move rfl rfl) ?_
    refine AL_p (x_move rfl rfl) ?_
    refine AL_p (x_add rfl rfl rfl (IntWalk.i64_in _ (by omega))) ?_
    refine AL_p (x_oindex (n := 5) rfl rfl rfl rfl (by kernel_rfl) rfl (k := k.toNat + 1) (by omega) (by omega)) ?_
    refine AL_p (x_oloadN (n := 5) rfl rfl rfl (by kernel_rfl) (by omega) rfl rfl) ?_
    refine AL_p (x_move rfl rfl) ?_
    refine AL_p (x_move rfl rfl) ?_
    refine AL_p (x_oindex (n := 5) rfl rfl rfl rfl (by kernel_rfl) rfl (k := k.toNat) (by omega) (by omega)) ?_
    refine AL_p (x_oloadN (n := 5) rfl rfl rfl (by kernel_rfl) (by omega) rfl rfl) ?_
    refine AL_p (x_oindex (n := 5) rfl rfl rfl rfl (by kernel_rfl) rfl (k := k.toNat) (by omega) (by omega)) ?_
    refine AL_p (x_ostore (W[k.toNat + 1]'(by omega)) rfl rfl rfl rfl (by kernel_rfl) rfl rfl rfl rfl FitL.rf rfl rfl (by first | omega | (rw [filledTo_len (by omega)]; omega) | (simp; omega))) ?_
    refine AL_p (x_oindex (n := 5) rfl rfl rfl rfl (by kernel_rfl) rfl (k := k.toNat + 1) (by omega) (by first | omega | (simp only [List.length_set]; omega))) ?_
    refine AL_p (x_ostore (W[k.toNat]'(by omega)) rfl rfl rfl rfl (by kernel_rfl) rfl rfl rfl rfl FitL.rf rfl rfl (by first | omega | (simp only [List.length_set]; omega))) ?_
    refine AL_nild (by kernel_rfl) ?_
    refine AW_region ?_
    refine AL_p (x_move rfl rfl) ?_
    refine AL_p (x_add rfl rfl rfl (IntWalk.i64_in _ (by omega))) ?_
    refine AL_p (x_assign rfl rfl) ?_
    refine AL_nil ?_
    refine ⟨⟨⟨k + 1, ((W.set (k.toNat) (W[k.toNat + 1]'(by omega))).set (k.toNat + 1) (W[k.toNat]'(by omega)))⟩, ⟨⟨by dsimp only; omega, by dsimp only; omega⟩, by dsimp only; simp only [List.length_set]; exact hk1, hk2.step (by omega) (by omega) (by omega)⟩⟩, rn [], ?_, by dsimp only; omega⟩
    exact ⟨by (repeat refine ⟨⟨_, rfl, by first | exact VLe.rf | exact vle_int (by dsimp only; omega)⟩, ?_⟩); exact trivial, by (repeat refine ⟨⟨_, rfl, by first | exact BLe.rf | exact BLe.box AllC.rf | exact BLe.arr (by exact rfl)⟩, ?_⟩); exact trivial, by repeat (first | exact trivial | refine ⟨⟨rfl, by first | (left; intro h; cases h) | (right; rfl), by first | exact (fun _ h => ⟨_, h⟩) | exact (fun _ _ => ⟨_, rfl⟩) | (intro _ h; cases h)⟩, ?_⟩), rfl⟩
  try simp only [tdy] at h28
  refine AW_condF rfl ?_
  refine AW_skip ?_
  refine AW_seq ?_
  refine AW_seq ?_
  refine AW_region ?_
  refine AL_p (x_move rfl rfl) ?_
  refine AL_p (x_move rfl rfl) ?_
  refine AL_p (x_sub rfl rfl rfl (IntWalk.i64_in _ (by omega))) ?_
  refine AL_b (x_eql rfl rfl rfl) (fun b80 h80 => ?_)
  refine AL_nil ?_
  cases b80
  rotate_left
  · try simp only [tdy] at h80
    obtain ⟨x, rfl⟩ : ∃ x, B = [x] := List.length_eq_one_iff.1 (by omega)
    have hF2 := fal_right wkC hA hu ha hm hB0 hT2
    refine AW_condT rfl ?_
    refine AW_seq ?_
    refine AW_region ?_
    refine AL_p (x_move rfl rfl) ?_
    refine AL_p (x_assign rfl rfl) ?_
    refine AL_nil ?_
    refine AW_seq ?_
    refine AW_region ?_
    refine AL_p (x_move rfl rfl) ?_
    refine AL_p (x_assign rfl rfl) ?_
    refine AL_nil ?_
    refine AW_seq ?_
    refine AW_block ?_
    refine AW_loop2 (ι := {q : Int × Int // Bis T2 a m (q.1) (q.2)}) (fun p => [(14, .one (.c (.int .i64 ((p.1.1))))), (15, .one (.c (.int .i64 ((p.1.2)))))]) (fun p => []) [0, 1, 2, 3, 4] [0] (fun p => ((p.1.2) - (p.1.1)).toNat) ⟨⟨a, m⟩, .zero (by omega)⟩ (rn []) ?_ ?_
    exact ⟨by (repeat refine ⟨⟨_, rfl, by first | exact VLe.rf | exact vle_int (by dsimp only; omega)⟩, ?_⟩); exact trivial, by (repeat refine ⟨⟨_, rfl, by first | exact BLe.rf | exact BLe.box AllC.rf | exact BLe.arr (by exact rfl)⟩, ?_⟩); exact trivial, by repeat (first | exact trivial | refine ⟨⟨rfl, by first | (left; intro h; cases h) | (right; rfl), by first | exact (fun _ h => ⟨_, h⟩) | exact (fun _ _ => ⟨_, rfl⟩) | (intro _ h; cases h)⟩, ?_⟩), rfl⟩
    rintro ⟨⟨i, j⟩, hinv⟩
    dsimp only
    have hinv : Bis T2 a m i j := hinv
    have hb1 := hinv.1
    have hb2 := hinv.2.1
    have hb3 := hinv.2.2.1
    refine AW_seq ?_
    refine AW_seq ?_
    refine AW_region ?_
    refine AL_p (x_move rfl rfl) ?_
    refine AL_p (x_move rfl rfl) ?_
    refine AL_b (x_lss rfl rfl rfl) (fun b85 h85 => ?_)
    refine AL_nil ?_
    cases b85
    rotate_left
    · try simp only [tdy] at h85
      refine AW_condT rfl ?_
      refine AW_skip ?_
      refine AW_block ?_
      refine AW_seq ?_
      refine AW_region ?_
      refine AL_p (x_move rfl rfl) ?_
      refine AL_p (x_move rfl rfl) ?_
      refine AL_p (x_add rfl rfl rfl (IntWalk.i64_in _ (by omega))) ?_
      refine AL_p (x_conv (k' := .u64) rfl rfl (by kernel_rfl) (u64_id (by omega) (by omega))) ?_
      refine AL_p (x_shr rfl rfl rfl (by omega) (mid_shr (by omega)) (u64_wf (by omega) (by omega))) ?_
      refine AL_p (x_conv (k' := .i64) rfl rfl (by kernel_rfl) (IntWalk.i64_in _ (by omega))) ?_
      refine AL_p (x_assign rfl rfl) ?_
      refine AL_nil ?_
      refine AW_seq ?_
      refine AW_draw rfl ?_
      refine AL_p (x_move rfl rfl) ?_
      refine AL_p (x_move rfl rfl) ?_
      refine AL_p (x_move rfl rfl) ?_
      refine AL_p (x_oindex (n := 5) rfl rfl rfl rfl (by kernel_rfl) rfl (k := m.toNat) (by omega) (by omega)) ?_
      refine AL_p (x_oloadN (n := 5) rfl rfl rfl (by kernel_rfl) (by omega) rfl rfl) ?_
      refine AL_p (x_move rfl rfl) ?_
      refine AL_p (x_move rfl rfl) ?_
      refine AL_p (x_oindex (n := 5) rfl rfl rfl rfl (by kernel_rfl) rfl (k := ((i + j) / 2).toNat) (by omega) (by omega)) ?_
      refine AL_p (x_oloadN (n := 5) rfl rfl rfl (by kernel_rfl) (by omega) rfl rfl) ?_
      refine AL_p (x_call0 rfl rfl rfl (cmpC_c _ _) rfl rfl) ?_
      refine AL_b (x_lss rfl rfl rfl) (fun b102 h102 => ?_)
      refine AL_p (x_not rfl rfl) ?_
      refine AL_nild (by kernel_rfl) ?_
      cases b102
      rotate_left
      · try simp only [tdy] at h102
        have q102 : T2 ((i + j) / 2) = false := by rw [hT2, ltAt_eq (by omega) (by omega), cmpC_yes h102]; rfl
        refine AW_condF rfl ?_
        refine AW_region ?_
        refine AL_p (x_move rfl rfl) ?_
        refine AL_p (x_assign rfl rfl) ?_
        refine AL_nil ?_
        refine ⟨⟨⟨i, ((i + j) / 2)⟩, hinv.down hF2 (by omega) (by omega) q102⟩, rn [], ?_, by dsimp only; omega⟩
        exact ⟨by (repeat refine ⟨⟨_, rfl, by first | exact VLe.rf | exact vle_int (by dsimp only; omega)⟩, ?_⟩); exact trivial, by (repeat refine ⟨⟨_, rfl, by first | exact BLe.rf | exact BLe.box AllC.rf | exact BLe.arr (by exact rfl)⟩, ?_⟩); exact trivial, by repeat (first | exact trivial | refine ⟨⟨rfl, by first | (left; intro h; cases h) | (right; rfl), by first | exact (fun _ h => ⟨_, h⟩) | exact (fun _ _ => ⟨_, rfl⟩) | (intro _ h; cases h)⟩, ?_⟩), rfl⟩
      try simp only [tdy] at h102
      have q102 : T2 ((i + j) / 2) = true := by rw [hT2, ltAt_eq (by omega) (by omega), cmpC_no h102]; rfl
      refine AW_condT rfl ?_
      refine AW_region ?_
      refine AL_p (x_move rfl rfl) ?_
      refine AL_p (x_add rfl rfl rfl (IntWalk.i64_in _ (by omega))) ?_
      refine AL_p (x_assign rfl rfl) ?_
      refine AL_nil ?_
      refine ⟨⟨⟨((i + j) / 2) + 1, j⟩, hinv.up hF2 (by omega) (by omega) q102⟩, rn [], ?_, by dsimp only; omega⟩
      exact ⟨by (repeat refine ⟨⟨_, rfl, by first | exact VLe.rf | exact vle_int (by dsimp only; omega)⟩, ?_⟩); exact trivial, by (repeat refine ⟨⟨_, rfl, by first | exact BLe.rf | exact BLe.box AllC.rf | exact BLe.arr (by exact rfl)⟩, ?_⟩); exact trivial, by repeat (first | exact trivial | refine ⟨⟨rfl, by first | (left; intro h; cases h) | (right; rfl), by first | exact (fun _ h => ⟨_, h⟩) | exact (fun _ _ => ⟨_, rfl⟩) | (intro _ h; cases h)⟩, ?_⟩), rfl⟩
    try simp only [tdy] at h85
    obtain rfl : i = j := by omega
    have hz := RiI.zero (Q := Q) (k := m) hu (by omega)
    have hbi := hinv
    refine AW_condF rfl ?_
    refine AW_exit (BQ_hit ?_)
    refine AW_seq ?_
    refine AW_seq ?_
    refine AW_region ?_
    refine AL_p (x_move rfl rfl) ?_
    refine AL_p (x_assign rfl rfl) ?_
    refine AL_nil ?_
    refine AW_block ?_
    refine AW_loop2 (ι := {q : Int × List Changet // (i ≤ (q.1) ∧ (q.1) ≤ m) ∧ ((q.2).length = us.length ∧ RiI P x A Q (q.1) (q.2))}) (fun p => [(17, .one (.c (.int .i64 ((p.1.1)))))]) (fun p => [(0, some (.arr 65 changeE (p.1.2) false))]) [0, 1, 2, 3, 4, 14] [] (fun p => ((p.1.1) - i).toNat) ⟨⟨m, us⟩, ⟨⟨by dsimp only; omega, by dsimp only; omega⟩, rfl, hz⟩⟩ (rn []) ?_ ?_
    exact ⟨by (repeat refine ⟨⟨_, rfl, by first | exact VLe.rf | exact vle_int (by dsimp only; omega)⟩, ?_⟩); exact trivial, by (repeat refine ⟨⟨_, rfl, by first | exact BLe.rf | exact BLe.box AllC.rf | exact BLe.arr (by exact rfl)⟩, ?_⟩); exact trivial, by repeat (first | exact trivial | refine ⟨⟨rfl, by first | (left; intro h; cases h) | (right; rfl), by first | exact (fun _ h => ⟨_, h⟩) | exact (fun _ _ => ⟨_, rfl⟩) | (intro _ h; cases h)⟩, ?_⟩), rfl⟩
    rintro ⟨⟨k, W⟩, hinv⟩
    dsimp only
    obtain ⟨⟨hk0, hk00⟩, hk1, hk2⟩ := hinv
    dsimp only at hk0 hk00 hk1 hk2
    refine AW_seq ?_
    refine AW_seq ?_
    refine AW_region ?_
    refine AL_p (x_move rfl rfl) ?_
    refine AL_p (x_move rfl rfl) ?_
    refine AL_b (x_gtr rfl rfl rfl) (fun b110 h110 => ?_)
    refine AL_nil ?_
    cases b110
    · try simp only [tdy] at h110
      refine AW_condF rfl ?_
      refine AW_exit (BQ_hit ?_)
      refine AW_ret ?_
      exact ⟨rn [], ⟨trivial, ⟨⟨_, rfl, BLe.arr (merge_right hu ha hm hT2 hbi (by omega) hk2)⟩, trivial⟩, by repeat (first | exact trivial | refine ⟨⟨rfl, by first | (left; intro h; cases h) | (right; rfl), by first | exact (fun _ h => ⟨_, h⟩) | exact (fun _ _ => ⟨_, rfl⟩) | (intro _ h; cases h)⟩, ?_⟩), rfl⟩⟩
    try simp only [tdy] at h110
    refine AW_condT rfl ?_
    refine AW_skip ?_
    refine AW_seq ?_
    refine AW_block ?_
    refine AW_draw rfl ?_
    refine AL_p (x_move rfl rfl) ?_
    refine AL_p (x_move rfl rfl) ?_
    refine AL_p (x_move rfl rfl) ?_
    refine AL_p (x_move rfl rfl) ?_
    refine AL_p (x_sub rfl rfl rfl (IntWalk.i64_in _ (by omega))) ?_
    refine AL_p (x_move rfl rfl) ?_
    refine AL_p (x_move rfl rfl) ?_
    refine AL_p (x_sub rfl rfl rfl (IntWalk.i64_in _ (by omega))) ?_
    refine AL_p (x_oindex (n := 5) rfl rfl rfl rfl (by kernel_rfl) rfl (k := k.toNat - 1) (by omega) (by omega)) ?_
    refine AL_p (x_oloadN (n := 5) rfl rfl rfl (by kernel_rfl) (by omega) rfl rfl) ?_
    refine AL_p (x_move rfl rfl) ?_
    refine AL_p (x_move rfl rfl) ?_
    refine AL_p (x_oindex (n := 5) rfl rfl rfl rfl (by kernel_rfl) rfl (k := k.toNat) (by omega) (by omega)) ?_
    refine AL_p (x_oloadN (n := 5) rfl rfl rfl (by kernel_rfl) (by omega) rfl rfl) ?_
    refine AL_p (x_oindex (n := 5) rfl rfl rfl rfl (by kernel_rfl) rfl (k := k.toNat) (by omega) (by omega)) ?_
    refine AL_p (x_ostore (W[k.toNat - 1]'(by omega)) rfl rfl rfl rfl (by kernel_rfl) rfl rfl rfl rfl FitL.rf rfl rfl (by first | omega | (rw [filledTo_len (by omega)]; omega) | (simp; omega))) ?_
    refine AL_p (x_oindex (n := 5) rfl rfl rfl rfl (by kernel_rfl) rfl (k := k.toNat - 1) (by omega) (by first | omega | (simp only [List.length_set]; omega))) ?_
    refine AL_p (x_ostore (W[k.toNat]'(by omega)) rfl rfl rfl rfl (by kernel_rfl) rfl rfl rfl rfl FitL.rf rfl rfl (by first | omega | (simp only [List.length_set]; omega))) ?_
    refine AL_nild (by kernel_rfl) ?_
    refine AW_region ?_
    refine AL_p (x_move rfl rfl) ?_
    refine AL_p (x_sub rfl rfl rfl (IntWalk.i64_in _ (by omega))) ?_
    refine AL_p (x_assign rfl rfl) ?_
    refine AL_nil ?_
    refine ⟨⟨⟨k - 1, ((W.set (k.toNat) (W[k.toNat - 1]'(by omega))).set (k.toNat - 1) (W[k.toNat]'(by omega)))⟩, ⟨⟨by dsimp only; omega, by dsimp only; omega⟩, by dsimp only; simp only [List.length_set]; exact hk1, hk2.step (by omega) (by omega) (by omega)⟩⟩, rn [], ?_, by dsimp only; omega⟩
    exact ⟨by (repeat refine ⟨⟨_, rfl, by first | exact VLe.rf | exact vle_int (by dsimp only; omega)⟩, ?_⟩); exact trivial, by (repeat refine ⟨⟨_, rfl, by first | exact BLe.rf | exact BLe.box AllC.rf | exact BLe.arr (by exact rfl)⟩, ?_⟩); exact trivial, by repeat (first | exact trivial | refine ⟨⟨rfl, by first | (left; intro h; cases h) | (right; rfl), by first | exact (fun _ h => ⟨_, h⟩) | exact (fun _ _ => ⟨_, rfl⟩) | (intro _ h; cases h)⟩, ?_⟩), rfl⟩
  try simp only [tdy] at h80
  refine AW_condF rfl ?_
  refine AW_skip ?_
  refine AW_seq ?_
  refine AW_region ?_
  refine AL_p (x_move rfl rfl) ?_
  refine AL_p (x_move rfl rfl) ?_
  refine AL_p (x_add rfl rfl rfl (IntWalk.i64_in _ (by omega))) ?_
  refine AL_p (x_conv (k' := .u64) rfl rfl (by kernel_rfl) (u64_id (by omega) (by omega))) ?_
  refine AL_p (x_shr rfl rfl rfl (by omega) (mid_shr (by omega)) (u64_wf (by omega) (by omega))) ?_
  refine AL_p (x_conv (k' := .i64) rfl rfl (by kernel_rfl) (IntWalk.i64_in _ (by omega))) ?_
  refine AL_p (x_assign rfl rfl) ?_
  refine AL_nil ?_
  refine AW_seq ?_
  refine AW_region ?_
  refine AL_p (x_move rfl rfl) ?_
  refine AL_p (x_move rfl rfl) ?_
  refine AL_p (x_add rfl rfl rfl (IntWalk.i64_in _ (by omega))) ?_
  refine AL_p (x_assign rfl rfl) ?_
  refine AL_nil ?_
  refine AW_seq ?_
  refine AW_region ?_
  refine AL_p (x_assign rfl rfl) ?_
  refine AL_p (x_assign rfl rfl) ?_
  refine AL_nil ?_
  refine AW_mid (ι := {q : Int × Int // (a ≤ (q.1) ∧ (q.2) ≤ m ∧ (q.2) ≤ ((a + b) / 2) ∧ (q.1) ≤ (q.2) ∧ ((a + b) / 2) + m - (q.1) ≤ b) ∧ (((q.2) = m ∨ (q.2) = ((a + b) / 2)) ∧ ((q.1) = a ∨ ((a + b) / 2) + m - (q.1) = b))}) (fun p => [(20, .one (.c (.int .i64 ((p.1.1))))), (21, .one (.c (.int .i64 ((p.1.2)))))]) (fun p => []) [0, 1, 2, 3, 4, 18, 19] [0] ?_ ?_
  · refine AW_seq ?_
    refine AW_region ?_
    refine AL_p (x_move rfl rfl) ?_
    refine AL_p (x_move rfl rfl) ?_
    refine AL_b (x_gtr rfl rfl rfl) (fun b140 h140 => ?_)
    refine AL_nil ?_
    cases b140
    · try simp only [tdy] at h140
      refine AW_condF rfl ?_
      refine AW_seq ?_
      refine AW_region ?_
      refine AL_p (x_move rfl rfl) ?_
      refine AL_p (x_assign rfl rfl) ?_
      refine AL_nil ?_
      refine AW_region ?_
      refine AL_p (x_move rfl rfl) ?_
      refine AL_p (x_assign rfl rfl) ?_
      refine AL_nil ?_
      refine ⟨⟨⟨a, m⟩, by dsimp only; omega⟩, rn [], ?_⟩
      exact ⟨by (repeat refine ⟨⟨_, rfl, by first | exact VLe.rf | exact vle_int (by dsimp only; omega)⟩, ?_⟩); exact trivial, by (repeat refine ⟨⟨_, rfl, by first | exact BLe.rf | exact BLe.box AllC.rf | exact BLe.arr (by exact rfl)⟩, ?_⟩); exact trivial, by repeat (first | exact trivial | refine ⟨⟨rfl, by first | (left; intro h; cases h) | (right; rfl), by first | exact (fun _ h => ⟨_, h⟩) | exact (fun _ _ => ⟨_, rfl⟩) | (intro _ h; cases h)⟩, ?_⟩), rfl⟩
    try simp only [tdy] at h140
    refine AW_condT rfl ?_
    refine AW_seq ?_
    refine AW_region ?_
    refine AL_p (x_move rfl rfl) ?_
    refine AL_p (x_move rfl rfl) ?_
    refine AL_p (x_sub rfl rfl rfl (IntWalk.i64_in _ (by omega))) ?_
    refine AL_p (x_assign rfl rfl) ?_
    refine AL_nil ?_
    refine AW_region ?_
    refine AL_p (x_move rfl rfl) ?_
    refine AL_p (x_assign rfl rfl) ?_
    refine AL_nil ?_
    refine ⟨⟨⟨((a + b) / 2) + m - b, ((a + b) / 2)⟩, by dsimp only; omega⟩, rn [], ?_⟩
    exact ⟨by (repeat refine ⟨⟨_, rfl, by first | exact VLe.rf | exact vle_int (by dsimp only; omega)⟩, ?_⟩); exact trivial, by (repeat refine ⟨⟨_, rfl, by first | exact BLe.rf | exact BLe.box AllC.rf | exact BLe.arr (by exact rfl)⟩, ?_⟩); exact trivial, by repeat (first | exact trivial | refine ⟨⟨rfl, by first | (left; intro h; cases h) | (right; rfl), by first | exact (fun _ h => ⟨_, h⟩) | exact (fun _ _ => ⟨_, rfl⟩) | (intro _ h; cases h)⟩, ?_⟩), rfl⟩
  rintro ⟨⟨s0, r0⟩, hinv⟩
  dsimp only
  obtain ⟨⟨g1, g2, g3, g4, g5⟩, g6, g7⟩ := hinv
  dsimp only at g1 g2 g3 g4 g5 g6 g7
  have hF3 := fal_both wkC hA hB hu ha hm hb hT3 (s0 := s0) (r0 := r0) g1 g2 g3 g5
  refine AW_seq ?_
  refine AW_region ?_
  refine AL_p (x_move rfl rfl) ?_
  refine AL_p (x_sub rfl rfl rfl (IntWalk.i64_in _ (by omega))) ?_
  refine AL_p (x_assign rfl rfl) ?_
  refine AL_nil ?_
  refine AW_seq ?_
  refine AW_block ?_
  refine AW_loop2 (ι := {q : Int × Int // Bis T3 s0 r0 (q.1) (q.2)}) (fun p => [(20, .one (.c (.int .i64 ((p.1.1))))), (21, .one (.c (.int .i64 ((p.1.2)))))]) (fun p => []) [0, 1, 2, 3, 4, 18, 19, 22] [0] (fun p => ((p.1.2) - (p.1.1)).toNat) ⟨⟨s0, r0⟩, .zero (by omega)⟩ (rn []) ?_ ?_
  exact ⟨by (repeat refine ⟨⟨_, rfl, by first | exact VLe.rf | exact vle_int (by dsimp only; omega)⟩, ?_⟩); exact trivial, by (repeat refine ⟨⟨_, rfl, by first | exact BLe.rf | exact BLe.box AllC.rf | exact BLe.arr (by exact rfl)⟩, ?_⟩); exact trivial, by repeat (first | exact trivial | refine ⟨⟨rfl, by first | (left; intro h; cases h) | (right; rfl), by first | exact (fun _ h => ⟨_, h⟩) | exact (fun _ _ => ⟨_, rfl⟩) | (intro _ h; cases h)⟩, ?_⟩), rfl⟩
  rintro ⟨⟨i, j⟩, hinv⟩
  dsimp only
  have hinv : Bis T3 s0 r0 i j := hinv
  have hb1 := hinv.1
  have hb2 := hinv.2.1
  have hb3 := hinv.2.2.1
  refine AW_seq ?_
  refine AW_seq ?_
  refine AW_region ?_
  refine AL_p (x_move rfl rfl) ?_
  refine AL_p (x_move rfl rfl) ?_
  refine AL_b (x_lss rfl rfl rfl) (fun b151 h151 => ?_)
  refine AL_nil ?_
  cases b151
  rotate_left
  · try simp only [tdy] at h151
    refine AW_condT rfl ?_
    refine AW_skip ?_
    refine AW_block ?_
    refine AW_seq ?_
    refine AW_region ?_
    refine AL_p (x_move rfl rfl) ?_
    refine AL_p (x_move rfl rfl) ?_
    refine AL_p (x_add rfl rfl rfl (IntWalk.i64_in _ (by omega))) ?_
    refine AL_p (x_conv (k' := .u64) rfl rfl (by kernel_rfl) (u64_id (by omega) (by omega))) ?_
    refine AL_p (x_shr rfl rfl rfl (by omega) (mid_shr (by omega)) (u64_wf (by omega) (by omega))) ?_
    refine AL_p (x_conv (k' := .i64) rfl rfl (by kernel_rfl) (IntWalk.i64_in _ (by omega))) ?_
    refine AL_p (x_assign rfl rfl) ?_
    refine AL_nil ?_
    refine AW_seq ?_
    refine AW_draw rfl ?_
    refine AL_p (x_move rfl rfl) ?_
    refine AL_p (x_move rfl rfl) ?_
    refine AL_p (x_move rfl rfl) ?_
    refine AL_p (x_move rfl rfl) ?_
    refine AL_p (x_sub rfl rfl rfl (IntWalk.i64_in _ (by omega))) ?_
    refine AL_p (x_oindex (n := 5) rfl rfl rfl rfl (by kernel_rfl) rfl (k := (((a + b) / 2) + m - 1 - ((i + j) / 2)).toNat) (by omega) (by omega)) ?_
    refine AL_p (x_oloadN (n := 5) rfl rfl rfl (by kernel_rfl) (by omega) rfl rfl) ?_
    refine AL_p (x_move rfl rfl) ?_
    refine AL_p (x_move rfl rfl) ?_
    refine AL_p (x_oindex (n := 5) rfl rfl rfl rfl (by kernel_rfl) rfl (k := ((i + j) / 2).toNat) (by omega) (by omega)) ?_
    refine AL_p (x_oloadN (n := 5) rfl rfl rfl (by kernel_rfl) (by omega) rfl rfl) ?_
    refine AL_p (x_call0 rfl rfl rfl (cmpC_c _ _) rfl rfl) ?_
    refine AL_b (x_lss rfl rfl rfl) (fun b170 h170 => ?_)
    refine AL_p (x_not rfl rfl) ?_
    refine AL_nild (by kernel_rfl) ?_
    cases b170
    rotate_left
    · try simp only [tdy] at h170
      have q170 : T3 ((i + j) / 2) = false := by rw [hT3, ltAt_eq (by omega) (by omega), cmpC_yes h170]; rfl
      refine AW_condF rfl ?_
      refine AW_region ?_
      refine AL_p (x_move rfl rfl) ?_
      refine AL_p (x_assign rfl rfl) ?_
      refine AL_nil ?_
      refine ⟨⟨⟨i, ((i + j) / 2)⟩, hinv.down hF3 (by omega) (by omega) q170⟩, rn [], ?_, by dsimp only; omega⟩
      exact ⟨by (repeat refine ⟨⟨_, rfl, by first | exact VLe.rf | exact vle_int (by dsimp only; omega)⟩, ?_⟩); exact trivial, by (repeat refine ⟨⟨_, rfl, by first | exact BLe.rf | exact BLe.box AllC.rf | exact BLe.arr (by exact rfl)⟩, ?_⟩); exact trivial, by repeat (first | exact trivial | refine ⟨⟨rfl, by first | (left; intro h; cases h) | (right; rfl), by first | exact (fun _ h => ⟨_, h⟩) | exact (fun _ _ => ⟨_, rfl⟩) | (intro _ h; cases h)⟩, ?_⟩), rfl⟩
    try simp only [tdy] at h170
    have q170 : T3 ((i + j) / 2) = true := by rw [hT3, ltAt_eq (by omega) (by omega), cmpC_no h170]; rfl
    refine AW_condT rfl ?_
    refine AW_region ?_
    refine AL_p (x_move rfl rfl) ?_
    refine AL_p (x_add rfl rfl rfl (IntWalk.i64_in _ (by omega))) ?_
    refine AL_p (x_assign rfl rfl) ?_
    refine AL_nil ?_
    refine ⟨⟨⟨((i + j) / 2) + 1, j⟩, hinv.up hF3 (by omega) (by omega) q170⟩, rn [], ?_, by dsimp only; omega⟩
    exact ⟨by (repeat refine ⟨⟨_, rfl, by first | exact VLe.rf | exact vle_int (by dsimp only; omega)⟩, ?_⟩); exact trivial, by (repeat refine ⟨⟨_, rfl, by first | exact BLe.rf | exact BLe.box AllC.rf | exact BLe.arr (by exact rfl)⟩, ?_⟩); exact trivial, by repeat (first | exact trivial | refine ⟨⟨rfl, by first | (left; intro h; cases h) | (right; rfl), by first | exact (fun _ h => ⟨_, h⟩) | exact (fun _ _ => ⟨_, rfl⟩) | (intro _ h; cases h)⟩, ?_⟩), rfl⟩
  try simp only [tdy] at h151
  obtain rfl : i = j := by omega
  obtain ⟨a1, a2, b1, b2, rfl, rfl, l1, l2, l3, l4, hM⟩ := sym_cut wkC hA hB hu ha hm hb hT3 hinv g1 g2 g3 g5 g6 g7
  refine AW_condF rfl ?_
  refine AW_exit (BQ_hit ?_)
  refine AW_seq ?_
  refine AW_region ?_
  refine AL_p (x_move rfl rfl) ?_
  refine AL_p (x_move rfl rfl) ?_
  refine AL_p (x_sub rfl rfl rfl (IntWalk.i64_in _ (by omega))) ?_
  refine AL_p (x_assign rfl rfl) ?_
  refine AL_nil ?_
  refine AW_mid (ι := {q : Unit // True}) (fun p => []) (fun p => [(0, some (.arr 65 changeE (P ++ a1 ++ b1 ++ (a2 ++ (b2 ++ Q))) false))]) [0, 1, 3, 4, 18, 20, 24] [] ?_ ?_
  · refine AW_seq ?_
    refine AW_region ?_
    refine AL_p (x_move rfl rfl) ?_
    refine AL_p (x_move rfl rfl) ?_
    refine AL_b (x_lss rfl rfl rfl) (fun b180 h180 => ?_)
    refine AL_p (x_move rfl rfl) ?_
    cases b180
    · try simp only [tdy] at h180
      have hR : us = P ++ a1 ++ b1 ++ (a2 ++ (b2 ++ Q)) := by rw [hu, no_rot (a2 := a2) (b1 := b1) (by omega)]
      refine AL_o rfl rfl rfl rfl ?_
      refine AL_o rfl rfl rfl rfl ?_
      refine AL_o rfl rfl rfl rfl ?_
      refine AL_p (x_pickF rfl rfl rfl) ?_
      refine AL_nil ?_
      refine AW_condF rfl ?_
      refine AW_skip ?_
      refine ⟨⟨(), trivial⟩, rn [], ?_⟩
      exact ⟨by (repeat refine ⟨⟨_, rfl, by first | exact VLe.rf | exact vle_int (by dsimp only; omega)⟩, ?_⟩); exact trivial, by (repeat refine ⟨⟨_, rfl, by first | exact BLe.rf | exact BLe.box AllC.rf | exact BLe.arr (by first | exact hR | rfl)⟩, ?_⟩); exact trivial, by repeat (first | exact trivial | refine ⟨⟨rfl, by first | (left; intro h; cases h) | (right; rfl), by first | exact (fun _ h => ⟨_, h⟩) | exact (fun _ _ => ⟨_, rfl⟩) | (intro _ h; cases h)⟩, ?_⟩), rfl⟩
    try simp only [tdy] at h180
    refine AL_g rfl rfl (x_move rfl rfl) ?_
    refine AL_g rfl rfl (x_move rfl rfl) ?_
    refine AL_gb rfl rfl (x_lss rfl rfl rfl) (fun b184 h184 => ?_)
    refine AL_p (x_pickT rfl rfl rfl) ?_
    refine AL_nil ?_
    cases b184
    · try simp only [tdy] at h184
      have hR : us = P ++ a1 ++ b1 ++ (a2 ++ (b2 ++ Q)) := by rw [hu, no_rot (a2 := a2) (b1 := b1) (by omega)]
      refine AW_condF rfl ?_
      refine AW_skip ?_
      refine ⟨⟨(), trivial⟩, rn [], ?_⟩
      exact ⟨by (repeat refine ⟨⟨_, rfl, by first | exact VLe.rf | exact vle_int (by dsimp only; omega)⟩, ?_⟩); exact trivial, by (repeat refine ⟨⟨_, rfl, by first | exact BLe.rf | exact BLe.box AllC.rf | exact BLe.arr (by first | exact hR | rfl)⟩, ?_⟩); exact trivial, by repeat (first | exact trivial | refine ⟨⟨rfl, by first | (left; intro h; cases h) | (right; rfl), by first | exact (fun _ h => ⟨_, h⟩) | exact (fun _ _ => ⟨_, rfl⟩) | (intro _ h; cases h)⟩, ?_⟩), rfl⟩
    try simp only [tdy] at h184
    have hR : P ++ a1 ++ b1 ++ a2 ++ (b2 ++ Q) = P ++ a1 ++ b1 ++ (a2 ++ (b2 ++ Q)) := by simp only [List.append_assoc]
    refine AW_condT rfl ?_
    refine AW_region ?_
    refine AL_p (x_move rfl rfl) ?_
    refine AL_p (x_move rfl rfl) ?_
    refine AL_p (x_move rfl rfl) ?_
    refine AL_p (x_move rfl rfl) ?_
    refine AL_p (x_move rfl rfl) ?_
    refine AL_p (x_call (ks := []) (L := [(0, some _)]) (L' := [(0, some _)]) rfl rfl rfl (rot_c us i m (((a + b) / 2) + m - i) (P ++ a1) a2 b1 (b2 ++ Q) (by rw [hu]; simp only [List.append_assoc]) (by simp; omega) (by simp; omega) (by simp; omega) (by omega) (by omega) hl) rfl AllV.rf (caught_of rfl) rfl rfl rfl ⟨rfl, trivial⟩ rfl) ?_
    refine AL_nil ?_
    refine ⟨⟨(), trivial⟩, rn [], ?_⟩
    exact ⟨by (repeat refine ⟨⟨_, rfl, by first | exact VLe.rf | exact vle_int (by dsimp only; omega)⟩, ?_⟩); exact trivial, by (repeat refine ⟨⟨_, rfl, by first | exact BLe.rf | exact BLe.box AllC.rf | exact BLe.arr (by first | exact hR | rfl)⟩, ?_⟩); exact trivial, by repeat (first | exact trivial | refine ⟨⟨rfl, by first | (left; intro h; cases h) | (right; rfl), by first | exact (fun _ h => ⟨_, h⟩) | exact (fun _ _ => ⟨_, rfl⟩) | (intro _ h; cases h)⟩, ?_⟩), rfl⟩
  rintro ⟨u, hinv⟩
  dsimp only
  refine AW_mid (ι := {q : Unit // True}) (fun p => []) (fun p => [(0, some (.arr 65 changeE (P ++ mergeI ltC a1 b1 ++ a2 ++ b2 ++ Q) false))]) [0, 3, 4, 18, 24] [] ?_ ?_
  · refine AW_seq ?_
    refine AW_region ?_
    refine AL_p (x_move rfl rfl) ?_
    refine AL_p (x_move rfl rfl) ?_
    refine AL_b (x_lss rfl rfl rfl) (fun b194 h194 => ?_)
    refine AL_p (x_move rfl rfl) ?_
    cases b194
    · try simp only [tdy] at h194
      have hR := sym_none (P := P) (a := a1) (b := b1) (a2 := a2) (b2 := b2) (Q := Q) wkC hB.left (by omega)
      refine AL_o rfl rfl rfl rfl ?_
      refine AL_o rfl rfl rfl rfl ?_
      refine AL_o rfl rfl rfl rfl ?_
      refine AL_p (x_pickF rfl rfl rfl) ?_
      refine AL_nil ?_
      refine AW_condF rfl ?_
      refine AW_skip ?_
      refine ⟨⟨(), trivial⟩, rn [], ?_⟩
      exact ⟨by (repeat refine ⟨⟨_, rfl, by first | exact VLe.rf | exact vle_int (by dsimp only; omega)⟩, ?_⟩); exact trivial, by (repeat refine ⟨⟨_, rfl, by first | exact BLe.rf | exact BLe.box AllC.rf | exact BLe.arr (by first | exact hR | rfl)⟩, ?_⟩); exact trivial, by repeat (first | exact trivial | refine ⟨⟨rfl, by first | (left; intro h; cases h) | (right; rfl), by first | exact (fun _ h => ⟨_, h⟩) | exact (fun _ _ => ⟨_, rfl⟩) | (intro _ h; cases h)⟩, ?_⟩), rfl⟩
    try simp only [tdy] at h194
    refine AL_g rfl rfl (x_move rfl rfl) ?_
    refine AL_g rfl rfl (x_move rfl rfl) ?_
    refine AL_gb rfl rfl (x_lss rfl rfl rfl) (fun b198 h198 => ?_)
    refine AL_p (x_pickT rfl rfl rfl) ?_
    refine AL_nil ?_
    cases b198
    · try simp only [tdy] at h198
      have hR := sym_none (P := P) (a := a1) (b := b1) (a2 := a2) (b2 := b2) (Q := Q) wkC hB.left (by omega)
      refine AW_condF rfl ?_
      refine AW_skip ?_
      refine ⟨⟨(), trivial⟩, rn [], ?_⟩
      exact ⟨by (repeat refine ⟨⟨_, rfl, by first | exact VLe.rf | exact vle_int (by dsimp only; omega)⟩, ?_⟩); exact trivial, by (repeat refine ⟨⟨_, rfl, by first | exact BLe.rf | exact BLe.box AllC.rf | exact BLe.arr (by first | exact hR | rfl)⟩, ?_⟩); exact trivial, by repeat (first | exact trivial | refine ⟨⟨rfl, by first | (left; intro h; cases h) | (right; rfl), by first | exact (fun _ h => ⟨_, h⟩) | exact (fun _ _ => ⟨_, rfl⟩) | (intro _ h; cases h)⟩, ?_⟩), rfl⟩
    try simp only [tdy] at h198
    have hR : P ++ mergeI ltC a1 b1 ++ (a2 ++ (b2 ++ Q)) = P ++ mergeI ltC a1 b1 ++ a2 ++ b2 ++ Q := by simp only [List.append_assoc]
    refine AW_condT rfl ?_
    refine AW_region ?_
    refine AL_p (x_move rfl rfl) ?_
    refine AL_p (x_move rfl rfl) ?_
    refine AL_p (x_move rfl rfl) ?_
    refine AL_p (x_move rfl rfl) ?_
    refine AL_p (x_move rfl rfl) ?_
    refine AL_p (x_call (ks := []) (L := [(0, some _)]) (L' := [(0, some _)]) rfl rfl rfl (ih _ a i ((a + b) / 2) P a1 b1 (a2 ++ (b2 ++ Q)) rfl ha (by omega) (by omega) hA.left hB.left (by omega) (by omega) (by simp only [List.length_append] at hN; omega) (by simp only [List.length_append] at *; omega)) rfl AllV.rf (caught_of rfl) rfl rfl rfl ⟨rfl, trivial⟩ rfl) ?_
    refine AL_nil ?_
    refine ⟨⟨(), trivial⟩, rn [], ?_⟩
    exact ⟨by (repeat refine ⟨⟨_, rfl, by first | exact VLe.rf | exact vle_int (by dsimp only; omega)⟩, ?_⟩); exact trivial, by (repeat refine ⟨⟨_, rfl, by first | exact BLe.rf | exact BLe.box AllC.rf | exact BLe.arr (by first | exact hR | rfl)⟩, ?_⟩); exact trivial, by repeat (first | exact trivial | refine ⟨⟨rfl, by first | (left; intro h; cases h) | (right; rfl), by first | exact (fun _ h => ⟨_, h⟩) | exact (fun _ _ => ⟨_, rfl⟩) | (intro _ h; cases h)⟩, ?_⟩), rfl⟩
  rintro ⟨u, hinv⟩
  dsimp only
  refine AW_seq ?_
  refine AW_region ?_
  refine AL_p (x_move rfl rfl) ?_
  refine AL_p (x_move rfl rfl) ?_
  refine AL_b (x_lss rfl rfl rfl) (fun b208 h208 => ?_)
  refine AL_p (x_move rfl rfl) ?_
  cases b208
  · try simp only [tdy] at h208
    have hR3 := sym_none2 (P := P ++ mergeI ltC a1 b1) (a := a2) (b := b2) (Q := Q) wkC hB.right (by omega)
    refine AL_o rfl rfl rfl rfl ?_
    refine AL_o rfl rfl rfl rfl ?_
    refine AL_o rfl rfl rfl rfl ?_
    refine AL_p (x_pickF rfl rfl rfl) ?_
    refine AL_nil ?_
    refine AW_condF rfl ?_
    refine AW_skip ?_
    exact ⟨rn [], ⟨trivial, ⟨⟨_, rfl, BLe.arr (hR3.trans (by rw [hM]; simp only [List.append_assoc]))⟩, trivial⟩, by repeat (first | exact trivial | refine ⟨⟨rfl, by first | (left; intro h; cases h) | (right; rfl), by first | exact (fun _ h => ⟨_, h⟩) | exact (fun _ _ => ⟨_, rfl⟩) | (intro _ h; cases h)⟩, ?_⟩), rfl⟩⟩
  try simp only [tdy] at h208
  refine AL_g rfl rfl (x_move rfl rfl) ?_
  refine AL_g rfl rfl (x_move rfl rfl) ?_
  refine AL_gb rfl rfl (x_lss rfl rfl rfl) (fun b212 h212 => ?_)
  refine AL_p (x_pickT rfl rfl rfl) ?_
  refine AL_nil ?_
  cases b212
  · try simp only [tdy] at h212
    have hR3 := sym_none2 (P := P ++ mergeI ltC a1 b1) (a := a2) (b := b2) (Q := Q) wkC hB.right (by omega)
    refine AW_condF rfl ?_
    refine AW_skip ?_
    exact ⟨rn [], ⟨trivial, ⟨⟨_, rfl, BLe.arr (hR3.trans (by rw [hM]; simp only [List.append_assoc]))⟩, trivial⟩, by repeat (first | exact trivial | refine ⟨⟨rfl, by first | (left; intro h; cases h) | (right; rfl), by first | exact (fun _ h => ⟨_, h⟩) | exact (fun _ _ => ⟨_, rfl⟩) | (intro _ h; cases h)⟩, ?_⟩), rfl⟩⟩
  try simp only [tdy] at h212
  have hR3 : P ++ mergeI ltC a1 b1 ++ mergeI ltC a2 b2 ++ Q = P ++ mergeI ltC a1 b1 ++ mergeI ltC a2 b2 ++ Q := rfl
  refine AW_condT rfl ?_
  refine AW_region ?_
  refine AL_p (x_move rfl rfl) ?_
  refine AL_p (x_move rfl rfl) ?_
  refine AL_p (x_move rfl rfl) ?_
  refine AL_p (x_move rfl rfl) ?_
  refine AL_p (x_move rfl rfl) ?_
  refine AL_p (x_call (ks := []) (L := [(0, some _)]) (L' := [(0, some _)]) rfl rfl rfl (ih _ ((a + b) / 2) (((a + b) / 2) + m - i) b (P ++ mergeI ltC a1 b1) a2 b2 Q rfl (by simp [mergeI_len]; omega) (by simp [mergeI_len]; omega) (by simp [mergeI_len]; omega) hA.right hB.right (by omega) (by omega) (by simp only [List.length_append] at hN; omega) (by simp only [List.length_append, mergeI_len] at *; omega)) rfl AllV.rf (caught_of rfl) rfl rfl rfl ⟨rfl, trivial⟩ rfl) ?_
  refine AL_nil ?_
  exact ⟨rn [], ⟨trivial, ⟨⟨_, rfl, BLe.arr (hR3.trans (by rw [hM]; simp only [List.append_assoc]))⟩, trivial⟩, by repeat (first | exact trivial | refine ⟨⟨rfl, by first | (left; intro h; cases h) | (right; rfl), by first | exact (fun _ h => ⟨_, h⟩) | exact (fun _ _ => ⟨_, rfl⟩) | (intro _ h; cases h)⟩, ?_⟩), rfl⟩⟩

theorem sym_ih : ∀ N, SymIH N
  | 0 => fun us a m b P A B Q hu ha hm hb hA hB hA0 hB0 hN hl => absurd hN (by omega)
  | N + 1 => fun us a m b P A B Q hu ha hm hb hA hB hA0 hB0 hN hl => symStep N (sym_ih N) us a m b P A B Q hu ha hm hb hA hB hA0 hB0 hN hl
theorem sym_c (us : List Changet) (a m b : Int) (P A B Q : List Changet) (hu : us = P ++ A ++ B ++ Q) (ha : a = P.length) (hm : m = P.length + A.length) (hb : b = P.length + A.length + B.length) (hA : Srt ltC A) (hB : Srt ltC B) (hA0 : 0 < A.length) (hB0 : 0 < B.length) (hl : us.length ≤ 1048576) : AC Tryz.prog 134 [.one (.own 0), .one (.c (.int .i64 (a))), .one (.c (.int .i64 (m))), .one (.c (.int .i64 (b))), .one (.clo 56 [])] [(0, some (.arr 65 changeE us false))] (.tup []) [(0, some (.arr 65 changeE (P ++ mergeI ltC A B ++ Q) false))] := sym_ih _ us a m b P A B Q hu ha hm hb hA hB hA0 hB0 (Nat.le_refl _) hl
end Go.Proofs.YtibhoanjglfaoaaGreat

/- The kit's contract of slices.Grow laid at values. -/
namespace Go.Proofs
open Go.Shelf
def Tryz.growChg_ren : Go.Shelf.Ren := ⟨fun | 4 => 100 | n => n, fun | 22 => 36 | 25 => 65 | 3 => 3 | 4 => 4 | 9 => 9 | 20 => 20 | 0 => 0 | n => n, fun | n => n⟩
theorem Tryz.growChg : Go.Proofs.Lays8.n4 Tryz.prog Tryz.growChg_ren := {
  mixed := by kernel_rfl
  f4 := ⟨Tryz.f100.name, by decide, Tryz.func100.trans (congrArg some (by kernel_rfl))⟩
  t0 := Tryz.underlying0
  a0 := Tryz.isAgg0
  z0 := Tryz.sizeOf0
  v0 := Tryz.zeroValue0
  t3 := Tryz.underlying3
  a3 := Tryz.isAgg3
  z3 := Tryz.sizeOf3
  v3 := Tryz.zeroValue3
  t4 := Tryz.underlying4
  a4 := Tryz.isAgg4
  z4 := Tryz.sizeOf4
  v4 := Tryz.zeroValue4
  t9 := Tryz.underlying9
  a9 := Tryz.isAgg9
  z9 := Tryz.sizeOf9
  v9 := Tryz.zeroValue9
  t20 := Tryz.underlying20
  a20 := Tryz.isAgg20
  z20 := Tryz.sizeOf20
  v20 := Tryz.zeroValue20
  t22 := Tryz.underlying36
  a22 := Tryz.isAgg36
  z22 := Tryz.sizeOf36
  v22 := Tryz.zeroValue36 }
end Go.Proofs

/- slices.Grow of no slice, at changes. -/
namespace Go.Proofs.YtibhoanjglfaoaaGreat
open Go.RowKit
set_option linter.unusedVariables false

theorem growChg_c0 (n : Nat) (hn : n ≤ 2097152) : AC Tryz.prog 100 [.one (.c (.slice none 0 0)), .one (.c (.int .i64 (n : Int)))] [] (.one (.own 0)) [(0, some (.arr 65 changeE [] true))] :=
  AC.room changeE ⟨_, _, Tryz.func100, rfl, rfl⟩ fun w g cargs h => by
    obtain ⟨x, y, rfl, h1, h2⟩ := inv2 h
    rw [(inv_c h1).1, (inv_c h2).1]
    rcases Nat.eq_zero_or_pos n with h0 | h0
    · subst h0
      refine (Any8.slices_Grow_room Tryz.growChg none 0 0 0 w (Nat.le_refl _) (by omega) (by omega) (Nat.le_refl _)).mono ?_
      rintro en w' ⟨rfl, rfl⟩
      exact ⟨_, rfl, ⟨by simp, .inl ⟨rfl, rfl⟩⟩, ⟨rfl, rfl, rfl, Nat.le_refl _, fun _ _ _ => rfl⟩, fun b hb => by cases hb⟩
    · obtain ⟨hu, hn0, ti, z, hti, hz, hzs, htis, htib⟩ := arrT_spec (P := Tryz.prog) (T := 36) (E := 65) (n := 5) (b := 80) (by kernel_rfl)
      refine (Any8.slices_Grow_grow Tryz.growChg ti z hti hz (by omega) none 0 0 n [] w (Nat.le_refl _) (by omega) (by rw [htib]; omega) (by omega) (by simp) (fun _ => rfl) (fun a ha => by cases ha)).mono ?_
      rintro en w' ⟨rfl, rfl⟩
      have hG := grownCap_ge w (0 + n) 0 65
      have hM := grownCap_le_maxLen w (0 + n) 0 65 (by unfold maxLen; omega)
      refine ⟨_, rfl, ⟨by simp, .inr ⟨w.heap.size, _, _, rfl, Nat.zero_le _, heap_alloc_new w.drew _, Nat.zero_le _, hM, ?_, by simp⟩⟩, ⟨rfl, rfl, rfl, by simp, fun k hk _ => Below.heap_alloc w.drew _ k hk⟩, fun b hb => by
        have : w.heap.size = b := by simpa [Value.ownBlock] using hb
        omega⟩
      show (_ : Array Value).size = _ * 5
      simp only [Array.size_append, size_zeroCells, List.size_toArray, List.length_nil, hzs]
      show 0 + (0 + n - 0) * 5 + (grownCap w (0 + n) 0 65 - (0 + n)) * 5 = grownCap w (0 + n) 0 65 * 5
      omega
theorem growChg_c (n : Nat) (hn : n ≤ 2097152) (k : Nat) : AC Tryz.prog 100 [.one (.c (.slice none 0 0)), .one (.c (.int .i64 (n : Int)))] [] (.one (.own k)) [(k, some (.arr 65 changeE [] true))] := AC.at (growChg_c0 n hn) k
end Go.Proofs.YtibhoanjglfaoaaGreat

/- An own array under another number; places of covering matches. -/
namespace Go.Proofs.YtibhoanjglfaoaaGreat
open Go.RowKit
set_option linter.unusedVariables false

section
variable {P : Program} {N : Nat} {K : List Nat} {Kn : St → Prop} {Q : Exit → St → Prop} {s : St}
end
end Go.Proofs.YtibhoanjglfaoaaGreat

/- Changes put in order, each name once (printed by walk.py) -/
namespace Go.Proofs.YtibhoanjglfaoaaGreat
open Go.RowKit
set_option linter.unusedVariables false
set_option linter.unusedSimpArgs false
set_option maxRecDepth 100000

set_option maxHeartbeats 4000000 in
theorem stab_c (us : List Changet) (n : Int) (hn : n = us.length) (hl : us.length ≤ 48) : AC Tryz.prog 101 [.one (.own 0), .one (.c (.int .i64 (n))), .one (.clo 56 [])] [(0, some (.arr 65 changeE us false))] (.tup []) [(0, some (.arr 65 changeE (isort ltC us) false))] := by
  refine AC_body0 Tryz.func101 rfl rfl Tryz.ntmps101 rfl Tryz.results101 ?_
  refine AW_seq ?_
  refine AW_region ?_
  refine AL_p (x_assign rfl rfl) ?_
  refine AL_nil ?_
  refine AW_seq ?_
  refine AW_region ?_
  refine AL_p (x_move rfl rfl) ?_
  refine AL_p (x_assign rfl rfl) ?_
  refine AL_p (x_assign rfl rfl) ?_
  refine AL_nil ?_
  refine AW_seq ?_
  refine AW_block ?_
  refine AW_loop2 (ι := {q : Int × List Changet // BlI ltC us (q.1) (q.2)}) (fun p => [(7, .one (.c (.int .i64 ((p.1.1))))), (8, .one (.c (.int .i64 ((p.1.1) + 20))))]) (fun p => [(0, some (.arr 65 changeE (p.1.2) false))]) [0, 1, 2, 6] [] (fun p => (us.length - (p.1.1)).toNat) ⟨⟨0, us⟩, .inl ⟨rfl, rfl⟩⟩ (rn []) ?_ ?_
  exact ⟨by (repeat refine ⟨⟨_, rfl, by first | exact VLe.rf | exact vle_int (by dsimp only; omega)⟩, ?_⟩); exact trivial, by (repeat refine ⟨⟨_, rfl, by first | exact BLe.rf | exact BLe.box AllC.rf | exact BLe.arr (by exact rfl)⟩, ?_⟩); exact trivial, by repeat (first | exact trivial | refine ⟨⟨rfl, by first | (left; intro h; cases h) | (right; rfl), by first | exact (fun _ h => ⟨_, h⟩) | exact (fun _ _ => ⟨_, rfl⟩) | (intro _ h; cases h)⟩, ?_⟩), rfl⟩
  rintro ⟨⟨p, W⟩, hinv⟩
  dsimp only
  have hinv : BlI ltC us p W := hinv
  have hle := hinv.le
  have hWl := hinv.len
  refine AW_seq ?_
  refine AW_seq ?_
  refine AW_region ?_
  refine AL_p (x_move rfl rfl) ?_
  refine AL_p (x_move rfl rfl) ?_
  refine AL_b (x_leq rfl rfl rfl) (fun b13 h13 => ?_)
  refine AL_nil ?_
  cases b13
  rotate_left
  · try simp only [tdy] at h13
    refine AW_condT rfl ?_
    refine AW_skip ?_
    refine AW_block ?_
    refine AW_seq ?_
    refine AW_region ?_
    refine AL_p (x_move rfl rfl) ?_
    refine AL_p (x_move rfl rfl) ?_
    refine AL_p (x_move rfl rfl) ?_
    refine AL_p (x_move rfl rfl) ?_
    refine AL_p (x_call (ks := []) (L := [(0, some _)]) (L' := [(0, some _)]) rfl rfl rfl (insS_c W p (p + 20) (W.take p.toNat) ((W.take (p + 20).toNat).drop p.toNat) (W.drop (p + 20).toNat) (cut_three W (by omega)) (by simp; omega) (by simp; omega) (by omega)) rfl AllV.rf (caught_of rfl) rfl rfl rfl ⟨rfl, trivial⟩ rfl) ?_
    refine AL_nil ?_
    refine AW_seq ?_
    refine AW_region ?_
    refine AL_p (x_move rfl rfl) ?_
    refine AL_p (x_assign rfl rfl) ?_
    refine AL_nil ?_
    refine AW_region ?_
    refine AL_p (x_move rfl rfl) ?_
    refine AL_p (x_move rfl rfl) ?_
    refine AL_p (x_add rfl rfl rfl (IntWalk.i64_in _ (by omega))) ?_
    refine AL_p (x_assign rfl rfl) ?_
    refine AL_nil ?_
    refine ⟨⟨⟨p + 20, (W.take p.toNat ++ isort ltC ((W.take (p + 20).toNat).drop p.toNat) ++ W.drop (p + 20).toNat)⟩, hinv.next (by omega) hl⟩, rn [], ?_, by dsimp only; omega⟩
    exact ⟨by (repeat refine ⟨⟨_, rfl, by first | exact VLe.rf | exact vle_int (by dsimp only; omega)⟩, ?_⟩); exact trivial, by (repeat refine ⟨⟨_, rfl, by first | exact BLe.rf | exact BLe.box AllC.rf | exact BLe.arr (by exact rfl)⟩, ?_⟩); exact trivial, by repeat (first | exact trivial | refine ⟨⟨rfl, by first | (left; intro h; cases h) | (right; rfl), by first | exact (fun _ h => ⟨_, h⟩) | exact (fun _ _ => ⟨_, rfl⟩) | (intro _ h; cases h)⟩, ?_⟩), rfl⟩
  try simp only [tdy] at h13
  have hB := hinv.done (by omega)
  refine AW_condF rfl ?_
  refine AW_exit (BQ_hit ?_)
  refine AW_seq ?_
  refine AW_region ?_
  refine AL_p (x_move rfl rfl) ?_
  refine AL_p (x_move rfl rfl) ?_
  refine AL_p (x_move rfl rfl) ?_
  refine AL_p (x_move rfl rfl) ?_
  refine AL_p (x_call (ks := []) (L := [(0, some _)]) (L' := [(0, some _)]) rfl rfl rfl (insS_c W p n (W.take p.toNat) ((W.take us.length).drop p.toNat) (W.drop us.length) (cut_three W (by omega)) (by simp; omega) (by simp; omega) (by omega)) rfl AllV.rf (caught_of rfl) rfl rfl rfl ⟨rfl, trivial⟩ rfl) ?_
  refine AL_nil ?_
  refine AW_block ?_
  refine AW_loop2 (ι := {q : Nat // q = 20 ∨ q = 40 ∨ q = 80}) (fun p => [(6, .one (.c (.int .i64 (((p.1) : Int)))))]) (fun p => [(0, some (.arr 65 changeE (blks ltC (p.1) us) false))]) [0, 1, 2] [] (fun p => 100 - (p.1)) ⟨20, .inl rfl⟩ (rn []) ?_ ?_
  exact ⟨by (repeat refine ⟨⟨_, rfl, by first | exact VLe.rf | exact vle_int (by dsimp only; omega)⟩, ?_⟩); exact trivial, by (repeat refine ⟨⟨_, rfl, by first | exact BLe.rf | exact BLe.box AllC.rf | exact BLe.arr (by first | exact hB | exact hfin)⟩, ?_⟩); exact trivial, by repeat (first | exact trivial | refine ⟨⟨rfl, by first | (left; intro h; cases h) | (right; rfl), by first | exact (fun _ h => ⟨_, h⟩) | exact (fun _ _ => ⟨_, rfl⟩) | (intro _ h; cases h)⟩, ?_⟩), rfl⟩
  rintro ⟨z, hinv⟩
  dsimp only
  have hz : z = 20 ∨ z = 40 ∨ z = 80 := hinv
  refine AW_seq ?_
  refine AW_seq ?_
  refine AW_region ?_
  refine AL_p (x_move rfl rfl) ?_
  refine AL_p (x_move rfl rfl) ?_
  refine AL_b (x_lss rfl rfl rfl) (fun b30 h30 => ?_)
  refine AL_nil ?_
  cases b30
  · try simp only [tdy] at h30
    refine AW_condF rfl ?_
    refine AW_exit (BQ_hit ?_)
    exact ⟨rn [], ⟨trivial, ⟨⟨_, rfl, BLe.arr (blks_all (by omega))⟩, trivial⟩, by repeat (first | exact trivial | refine ⟨⟨rfl, by first | (left; intro h; cases h) | (right; rfl), by first | exact (fun _ h => ⟨_, h⟩) | exact (fun _ _ => ⟨_, rfl⟩) | (intro _ h; cases h)⟩, ?_⟩), rfl⟩⟩
  try simp only [tdy] at h30
  refine AW_condT rfl ?_
  refine AW_skip ?_
  refine AW_block ?_
  refine AW_seq ?_
  refine AW_region ?_
  refine AL_p (x_move rfl rfl) ?_
  refine AL_p (x_mul rfl rfl rfl (IntWalk.i64_in _ (by omega))) ?_
  refine AL_p (x_assign rfl rfl) ?_
  refine AL_p (x_assign rfl rfl) ?_
  refine AL_nil ?_
  refine AW_seq ?_
  refine AW_block ?_
  refine AW_loop2 (ι := {q : Int × List Changet // (((q.1) = 0 ∧ (q.2) = blks ltC z us) ∨ ((q.1) = 2 * z ∧ 2 * z ≤ us.length ∧ (q.2) = isort ltC (us.take (2 * z)) ++ isort ltC (us.drop (2 * z))))}) (fun p => [(7, .one (.c (.int .i64 ((p.1.1))))), (8, .one (.c (.int .i64 ((p.1.1) + 2 * (z : Int)))))]) (fun p => [(0, some (.arr 65 changeE (p.1.2) false))]) [0, 1, 2, 6] [] (fun p => (us.length - (p.1.1)).toNat) ⟨⟨0, (blks ltC z us)⟩, .inl ⟨rfl, rfl⟩⟩ (rn []) ?_ ?_
  exact ⟨by (repeat refine ⟨⟨_, rfl, by first | exact VLe.rf | exact vle_int (by dsimp only; omega)⟩, ?_⟩); exact trivial, by (repeat refine ⟨⟨_, rfl, by first | exact BLe.rf | exact BLe.box AllC.rf | exact BLe.arr (by exact rfl)⟩, ?_⟩); exact trivial, by repeat (first | exact trivial | refine ⟨⟨rfl, by first | (left; intro h; cases h) | (right; rfl), by first | exact (fun _ h => ⟨_, h⟩) | exact (fun _ _ => ⟨_, rfl⟩) | (intro _ h; cases h)⟩, ?_⟩), rfl⟩
  rintro ⟨⟨p, W⟩, hinv⟩
  dsimp only
  have hp : ((p = 0 ∧ W = blks ltC z us) ∨ (p = 2 * z ∧ 2 * z ≤ us.length ∧ W = isort ltC (us.take (2 * z)) ++ isort ltC (us.drop (2 * z)))) := hinv
  have hWl : W.length = us.length := by rcases hp with ⟨_, rfl⟩ | ⟨_, _, rfl⟩; exact blks_len (by omega); simp only [List.length_append, isort_len, List.length_take, List.length_drop]; omega
  refine AW_seq ?_
  refine AW_seq ?_
  refine AW_region ?_
  refine AL_p (x_move rfl rfl) ?_
  refine AL_p (x_move rfl rfl) ?_
  refine AL_b (x_leq rfl rfl rfl) (fun b35 h35 => ?_)
  refine AL_nil ?_
  cases b35
  rotate_left
  · try simp only [tdy] at h35
    have h0 : p = 0 ∧ W = blks ltC z us := by rcases hp with q | q; exact q; omega
    refine AW_condT rfl ?_
    refine AW_skip ?_
    refine AW_block ?_
    refine AW_seq ?_
    refine AW_region ?_
    refine AL_p (x_move rfl rfl) ?_
    refine AL_p (x_move rfl rfl) ?_
    refine AL_p (x_move rfl rfl) ?_
    refine AL_p (x_move rfl rfl) ?_
    refine AL_p (x_add rfl rfl rfl (IntWalk.i64_in _ (by omega))) ?_
    refine AL_p (x_move rfl rfl) ?_
    refine AL_p (x_move rfl rfl) ?_
    refine AL_p (x_call (ks := []) (L := [(0, some _)]) (L' := [(0, some _)]) rfl rfl rfl (sym_c _ _ _ _ [] (isort ltC (us.take z)) (isort ltC ((us.drop z).take z)) (isort ltC (us.drop (2 * z))) (h0.2.trans (by unfold blks; simp only [List.nil_append, List.append_assoc])) (by simp only [isort_len, List.length_take, List.length_drop, List.length_nil]; have := h0.1; omega) (by simp only [isort_len, List.length_take, List.length_drop, List.length_nil]; have := h0.1; omega) (by simp only [isort_len, List.length_take, List.length_drop, List.length_nil]; have := h0.1; omega) (isort_srt wkC) (isort_srt wkC) (by simp only [isort_len, List.length_take, List.length_drop, List.length_nil]; omega) (by simp only [isort_len, List.length_take, List.length_drop, List.length_nil]; omega) (by rw [hWl]; omega)) rfl AllV.rf (caught_of rfl) rfl rfl rfl ⟨rfl, trivial⟩ rfl) ?_
    refine AL_nil ?_
    refine AW_seq ?_
    refine AW_region ?_
    refine AL_p (x_move rfl rfl) ?_
    refine AL_p (x_assign rfl rfl) ?_
    refine AL_nil ?_
    refine AW_region ?_
    refine AL_p (x_move rfl rfl) ?_
    refine AL_p (x_move rfl rfl) ?_
    refine AL_p (x_mul rfl rfl rfl (IntWalk.i64_in _ (by omega))) ?_
    refine AL_p (x_add rfl rfl rfl (IntWalk.i64_in _ (by omega))) ?_
    refine AL_p (x_assign rfl rfl) ?_
    refine AL_nil ?_
    refine ⟨⟨⟨p + 2 * (z : Int), ([] ++ mergeI ltC (isort ltC (us.take z)) (isort ltC ((us.drop z).take z)) ++ (isort ltC (us.drop (2 * z))))⟩, .inr ⟨by have := h0.1; dsimp only; omega, by have := h0.1; omega, by rw [List.nil_append, blks_merge wkC]⟩⟩, rn [], ?_, by dsimp only; omega⟩
    exact ⟨by (repeat refine ⟨⟨_, rfl, by first | exact VLe.rf | exact vle_int (by dsimp only; omega)⟩, ?_⟩); exact trivial, by (repeat refine ⟨⟨_, rfl, by first | exact BLe.rf | exact BLe.box AllC.rf | exact BLe.arr (by exact rfl)⟩, ?_⟩); exact trivial, by repeat (first | exact trivial | refine ⟨⟨rfl, by first | (left; intro h; cases h) | (right; rfl), by first | exact (fun _ h => ⟨_, h⟩) | exact (fun _ _ => ⟨_, rfl⟩) | (intro _ h; cases h)⟩, ?_⟩), rfl⟩
  try simp only [tdy] at h35
  refine AW_condF rfl ?_
  refine AW_exit (BQ_hit ?_)
  refine AW_seq ?_
  refine AW_seq ?_
  refine AW_region ?_
  refine AL_p (x_move rfl rfl) ?_
  refine AL_p (x_move rfl rfl) ?_
  refine AL_p (x_add rfl rfl rfl (IntWalk.i64_in _ (by omega))) ?_
  refine AL_p (x_assign rfl rfl) ?_
  refine AL_nil ?_
  refine AW_seq ?_
  refine AW_region ?_
  refine AL_p (x_move rfl rfl) ?_
  refine AL_p (x_move rfl rfl) ?_
  refine AL_b (x_lss rfl rfl rfl) (fun b54 h54 => ?_)
  refine AL_nil ?_
  cases b54
  · try simp only [tdy] at h54
    have h0 : p = 2 * z ∧ 2 * z ≤ us.length ∧ W = isort ltC (us.take (2 * z)) ++ isort ltC (us.drop (2 * z)) := by rcases hp with q | q; omega; exact q
    have hfin : W = blks ltC (2 * z) us := by rw [h0.2.2, blks_two wkC (by omega)]
    refine AW_condF rfl ?_
    refine AW_skip ?_
    refine AW_region ?_
    refine AL_p (x_move rfl rfl) ?_
    refine AL_p (x_mul rfl rfl rfl (IntWalk.i64_in _ (by omega))) ?_
    refine AL_p (x_assign rfl rfl) ?_
    refine AL_nil ?_
    refine ⟨⟨2 * z, by omega⟩, rn [], ?_, by dsimp only; omega⟩
    exact ⟨by (repeat refine ⟨⟨_, rfl, by first | exact VLe.rf | exact vle_int (by dsimp only; omega)⟩, ?_⟩); exact trivial, by (repeat refine ⟨⟨_, rfl, by first | exact BLe.rf | exact BLe.box AllC.rf | exact BLe.arr (by first | exact hB | exact hfin)⟩, ?_⟩); exact trivial, by repeat (first | exact trivial | refine ⟨⟨rfl, by first | (left; intro h; cases h) | (right; rfl), by first | exact (fun _ h => ⟨_, h⟩) | exact (fun _ _ => ⟨_, rfl⟩) | (intro _ h; cases h)⟩, ?_⟩), rfl⟩
  try simp only [tdy] at h54
  have h0 : p = 0 ∧ W = blks ltC z us := by rcases hp with q | q; exact q; omega
  have hfin : [] ++ mergeI ltC (isort ltC (us.take z)) (isort ltC ((us.drop z).take z)) ++ (isort ltC (us.drop (2 * z))) = blks ltC (2 * z) us := by rw [List.nil_append, blks_merge wkC, blks_two wkC (by omega)]
  refine AW_condT rfl ?_
  refine AW_region ?_
  refine AL_p (x_move rfl rfl) ?_
  refine AL_p (x_move rfl rfl) ?_
  refine AL_p (x_move rfl rfl) ?_
  refine AL_p (x_move rfl rfl) ?_
  refine AL_p (x_move rfl rfl) ?_
  refine AL_p (x_call (ks := []) (L := [(0, some _)]) (L' := [(0, some _)]) rfl rfl rfl (sym_c _ _ _ _ [] (isort ltC (us.take z)) (isort ltC ((us.drop z).take z)) (isort ltC (us.drop (2 * z))) (h0.2.trans (by unfold blks; simp only [List.nil_append, List.append_assoc])) (by simp only [isort_len, List.length_take, List.length_drop, List.length_nil]; have := h0.1; omega) (by simp only [isort_len, List.length_take, List.length_drop, List.length_nil]; have := h0.1; omega) (by simp only [isort_len, List.length_take, List.length_drop, List.length_nil]; have := h0.1; omega) (isort_srt wkC) (isort_srt wkC) (by simp only [isort_len, List.length_take, List.length_drop, List.length_nil]; omega) (by simp only [isort_len, List.length_take, List.length_drop, List.length_nil]; omega) (by rw [hWl]; omega)) rfl AllV.rf (caught_of rfl) rfl rfl rfl ⟨rfl, trivial⟩ rfl) ?_
  refine AL_nil ?_
  refine AW_region ?_
  refine AL_p (x_move rfl rfl) ?_
  refine AL_p (x_mul rfl rfl rfl (IntWalk.i64_in _ (by omega))) ?_
  refine AL_p (x_assign rfl rfl) ?_
  refine AL_nil ?_
  refine ⟨⟨2 * z, by omega⟩, rn [], ?_, by dsimp only; omega⟩
  exact ⟨by (repeat refine ⟨⟨_, rfl, by first | exact VLe.rf | exact vle_int (by dsimp only; omega)⟩, ?_⟩); exact trivial, by (repeat refine ⟨⟨_, rfl, by first | exact BLe.rf | exact BLe.box AllC.rf | exact BLe.arr (by first | exact hB | exact hfin)⟩, ?_⟩); exact trivial, by repeat (first | exact trivial | refine ⟨⟨rfl, by first | (left; intro h; cases h) | (right; rfl), by first | exact (fun _ h => ⟨_, h⟩) | exact (fun _ _ => ⟨_, rfl⟩) | (intro _ h; cases h)⟩, ?_⟩), rfl⟩

set_option maxHeartbeats 4000000 in
theorem sortC_c (us : List Changet) (hl : us.length ≤ 48) : AC Tryz.prog 55 [.one (.own 0), .one (.clo 56 [])] [(0, some (.arr 65 changeE us false))] (.tup []) [(0, some (.arr 65 changeE (isort ltC us) false))] := by
  refine AC_body0 Tryz.func55 rfl rfl Tryz.ntmps55 rfl Tryz.results55 ?_
  refine AW_region ?_
  refine AL_p (x_move rfl rfl) ?_
  refine AL_p (x_move rfl rfl) ?_
  refine AL_p (x_olen (E := 65) (n := 5) rfl rfl rfl (by kernel_rfl)) ?_
  refine AL_p (x_move rfl rfl) ?_
  refine AL_p (x_call (ks := []) (L := [(0, some _)]) (L' := [(0, some _)]) rfl rfl rfl (stab_c us _ rfl hl) rfl AllV.rf (caught_of rfl) rfl rfl rfl ⟨rfl, trivial⟩ rfl) ?_
  refine AL_nil ?_
  exact ⟨rn [], ⟨trivial, ⟨⟨_, rfl, BLe.arr (rfl)⟩, trivial⟩, by repeat (first | exact trivial | refine ⟨⟨rfl, by first | (left; intro h; cases h) | (right; rfl), by first | exact (fun _ h => ⟨_, h⟩) | exact (fun _ _ => ⟨_, rfl⟩) | (intro _ h; cases h)⟩, ?_⟩), rfl⟩⟩

set_option maxHeartbeats 4000000 in
theorem concatC_t {xss : List (List Changet)} (hl : xss.flatten.length ≤ 2097152) (hn : xss.length ≤ 1048576) : AT Tryz.prog 54 [.one (.own 0)] [(0, some (.arr 36 (sliceE changeE) xss false))] (.one (.own 1)) [(1, some (.arr 65 changeE xss.flatten false))] := by
  refine AT_body1 Tryz.func54 rfl rfl Tryz.ntmps54 rfl Tryz.results54 ?_
  refine AW_seq ?_
  refine AW_region ?_
  refine AL_p (x_assign rfl rfl) ?_
  refine AL_nil ?_
  refine AW_seq ?_
  refine AW_region ?_
  refine AL_p (x_assign rfl rfl) ?_
  refine AL_nil ?_
  refine AW_seq ?_
  refine AW_seq ?_
  refine AW_region ?_
  refine AL_p (x_move rfl rfl) ?_
  refine AL_p (x_olen (E := 36) (n := 1) rfl rfl rfl (by kernel_rfl)) ?_
  refine AL_p (x_move rfl rfl) ?_
  refine AL_nil ?_
  refine AW_block ?_
  refine AW_loop2 (ι := {q : Nat // q ≤ xss.length}) (fun p => [(3, .one (.c (.int .i64 ((xss.take (p.1)).flatten.length : Int)))), (11, .one (.c (.int .i64 ((p.1) : Int))))]) (fun p => []) [0, 9, 10] [0] (fun p => xss.length - (p.1)) ⟨0, by omega⟩ (rn []) ?_ ?_
  exact ⟨by (repeat refine ⟨⟨_, rfl, by first | exact VLe.rf | exact vle_int (by dsimp only; omega)⟩, ?_⟩); exact trivial, by (repeat refine ⟨⟨_, rfl, by first | exact BLe.rf | exact BLe.box AllC.rf | exact BLe.arr (by exact rfl)⟩, ?_⟩); exact trivial, by repeat (first | exact trivial | refine ⟨⟨rfl, by first | (left; intro h; cases h) | (right; rfl), by first | exact (fun _ h => ⟨_, h⟩) | exact (fun _ _ => ⟨_, rfl⟩) | (intro _ h; cases h)⟩, ?_⟩), rfl⟩
  rintro ⟨k, hinv⟩
  dsimp only
  have hf := flat_le (xss := xss) (k := k)
  refine AW_seq ?_
  refine AW_region ?_
  refine AL_b (x_lss rfl rfl rfl) (fun b12 h12 => ?_)
  refine AL_nil ?_
  refine AW_seq ?_
  cases b12
  rotate_left
  · try simp only [tdy] at h12
    refine AW_condT rfl ?_
    refine AW_skip ?_
    refine AW_seq ?_
    refine AW_block ?_
    refine AW_seq ?_
    refine AW_region ?_
    refine AL_p (x_oindex (n := 1) rfl rfl rfl rfl (by kernel_rfl) rfl (k := k) rfl (by omega)) ?_
    refine AL_p (x_oload1 rfl rfl rfl (by kernel_rfl) (by omega) rfl) ?_
    refine AL_p (x_assign rfl rfl) ?_
    refine AL_nil ?_
    refine AW_seq ?_
    refine AW_region ?_
    refine AL_p (x_move rfl rfl) ?_
    refine AL_p (x_move rfl rfl) ?_
    refine AL_p (x_len (E := 65) (n := 5) rfl rfl (by kernel_rfl)) ?_
    refine AL_p (x_add rfl rfl rfl (by have := flat_len1 (xss := xss) (k := k) (by omega); exact IntWalk.i64_in _ (by have := flat_le (xss := xss) (k := k + 1); omega))) ?_
    refine AL_p (x_assign rfl rfl) ?_
    refine AL_nil ?_
    refine AW_seq ?_
    refine AW_region ?_
    refine AL_p (x_move rfl rfl) ?_
    refine AL_b (x_lss rfl rfl rfl) (fun b20 h20 => ?_)
    refine AL_nil ?_
    cases b20
    rotate_left
    · exfalso; have := flat_len1 (xss := xss) (k := k) (by omega); simp at h20; omega
    try simp only [tdy] at h20
    have q4 := flat_len1 (xss := xss) (k := k) (by omega)
    refine AW_condF rfl ?_
    refine AW_skip ?_
    refine AW_region ?_
    refine AL_p (x_add rfl rfl rfl (IntWalk.i64_in _ (by omega))) ?_
    refine AL_p (x_move rfl rfl) ?_
    refine AL_nil ?_
    refine ⟨⟨k + 1, by omega⟩, rn [], ?_, by dsimp only; omega⟩
    exact ⟨by (repeat refine ⟨⟨_, rfl, by first | exact VLe.rf | exact vle_int (by dsimp only; omega)⟩, ?_⟩); exact trivial, by (repeat refine ⟨⟨_, rfl, by first | exact BLe.rf | exact BLe.box AllC.rf | exact BLe.arr (by exact rfl)⟩, ?_⟩); exact trivial, by repeat (first | exact trivial | refine ⟨⟨rfl, by first | (left; intro h; cases h) | (right; rfl), by first | exact (fun _ h => ⟨_, h⟩) | exact (fun _ _ => ⟨_, rfl⟩) | (intro _ h; cases h)⟩, ?_⟩), rfl⟩
  try simp only [tdy] at h12
  have e0 : (xss.take k).flatten = xss.flatten := flat_all (by omega)
  rw [e0]
  refine AW_condF rfl ?_
  refine AW_exit (BQ_hit ?_)
  refine AW_seq ?_
  refine AW_region ?_
  refine AL_p (x_move rfl rfl) ?_
  refine AL_p (x_call1 rfl rfl rfl (growChg_c xss.flatten.length hl 100) rfl rfl rfl rfl) ?_
  refine AL_p (x_assign rfl rfl) ?_
  refine AL_nil ?_
  refine AW_seq ?_
  refine AW_seq ?_
  refine AW_region ?_
  refine AL_p (x_move rfl rfl) ?_
  refine AL_p (x_olen (E := 36) (n := 1) rfl rfl rfl (by kernel_rfl)) ?_
  refine AL_p (x_move rfl rfl) ?_
  refine AL_nil ?_
  refine AW_block ?_
  refine AW_shallow 100 rfl ?_
  refine AW_loop2 (ι := {q : Nat // q ≤ xss.length}) (fun p => [(6, .one (.own 100)), (27, .one (.c (.int .i64 ((p.1) : Int))))]) (fun p => [(100, some (.arr 65 changeE (xss.take (p.1)).flatten false))]) [25, 26] [0] (fun p => xss.length - (p.1)) ⟨0, by omega⟩ (rn []) ?_ ?_
  exact ⟨by (repeat refine ⟨⟨_, rfl, by first | exact VLe.rf | exact vle_int (by dsimp only; omega)⟩, ?_⟩); exact trivial, by (repeat refine ⟨⟨_, rfl, by first | exact BLe.rf | exact BLe.box AllC.rf | exact BLe.arr (by first | exact flat_zero | exact flat_more (by omega))⟩, ?_⟩); exact trivial, by repeat (first | exact trivial | refine ⟨⟨rfl, by first | (left; intro h; cases h) | (right; rfl), by first | exact (fun _ h => ⟨_, h⟩) | exact (fun _ _ => ⟨_, rfl⟩) | (intro _ h; cases h)⟩, ?_⟩), rfl⟩
  rintro ⟨k, hinv⟩
  dsimp only
  refine AW_seq ?_
  refine AW_region ?_
  refine AL_b (x_lss rfl rfl rfl) (fun b28 h28 => ?_)
  refine AL_nil ?_
  refine AW_seq ?_
  cases b28
  · try simp only [tdy] at h28
    refine AW_condF rfl ?_
    refine AW_exit (BQ_hit ?_)
    refine AW_seq ?_
    refine AW_region ?_
    refine AL_p (x_move rfl rfl) ?_
    refine AL_p (x_assign rfl rfl) ?_
    refine AL_nil ?_
    refine AW_ret ?_
    exact ⟨rn [(1, 100)], ⟨⟨⟨_, rfl, VLe.rf⟩, trivial⟩, ⟨⟨_, rfl, BLe.arr (flat_all (by omega))⟩, trivial⟩, trivial, rfl⟩⟩
  try simp only [tdy] at h28
  refine AW_condT rfl ?_
  refine AW_skip ?_
  refine AW_seq ?_
  refine AW_block ?_
  refine AW_seq ?_
  refine AW_region ?_
  refine AL_p (x_oindex (n := 1) rfl rfl rfl rfl (by kernel_rfl) rfl (k := k) rfl (by omega)) ?_
  refine AL_p (x_oload1 rfl rfl rfl (by kernel_rfl) (by omega) rfl) ?_
  refine AL_p (x_assign rfl rfl) ?_
  refine AL_nil ?_
  refine AW_region ?_
  refine AL_p (x_move rfl rfl) ?_
  refine AL_p (x_move rfl rfl) ?_
  refine AL_p (y_append_sl 101 false (.inl rfl) rfl rfl rfl rfl rfl rfl (by kernel_rfl) (by have := flat_le (xss := xss) (k := k + 1); have := flat_len1 (xss := xss) (k := k) (by omega); omega)) ?_
  refine AL_p (x_assign rfl rfl) ?_
  refine AL_nil ?_
  refine AW_region ?_
  refine AL_p (x_add rfl rfl rfl (IntWalk.i64_in _ (by omega))) ?_
  refine AL_p (x_move rfl rfl) ?_
  refine AL_nil ?_
  refine ⟨⟨k + 1, by omega⟩, rn [(100, 101)], ?_, by dsimp only; omega⟩
  exact ⟨by (repeat refine ⟨⟨_, rfl, by first | exact VLe.rf | exact vle_int (by dsimp only; omega)⟩, ?_⟩); exact trivial, by (repeat refine ⟨⟨_, rfl, by first | exact BLe.rf | exact BLe.box AllC.rf | exact BLe.arr (by first | exact flat_zero | exact flat_more (by omega))⟩, ?_⟩); exact trivial, by repeat (first | exact trivial | refine ⟨⟨rfl, by first | (left; intro h; cases h) | (right; rfl), by first | exact (fun _ h => ⟨_, h⟩) | exact (fun _ _ => ⟨_, rfl⟩) | (intro _ h; cases h)⟩, ?_⟩), rfl⟩

theorem concatTwo_t (xs ys : List Changet) (hl : xs.length + ys.length ≤ 48) : AT Tryz.prog 54 [.one (.own 0)] [(0, some (.arr 36 (sliceE changeE) [xs, ys] false))] (.one (.own 1)) [(1, some (.arr 65 changeE (xs ++ ys) false))] := by
  have h := concatC_t (xss := [xs, ys]) (by simp; omega) (by simp)
  have e : [xs, ys].flatten = xs ++ ys := by simp
  rwa [e] at h

set_option maxHeartbeats 4000000 in
theorem compC_t (us : List Changet) (hl : us.length ≤ 1048576) : AT Tryz.prog 57 [.one (.own 0), .one (.clo 58 [])] [(0, some (.arr 65 changeE us false))] (.one (.own 1)) [(1, some (.arr 65 changeE (onceC us us.length) false))] := by
  refine AT_body1 Tryz.func57 rfl rfl Tryz.ntmps57 rfl Tryz.results57 ?_
  refine AW_seq ?_
  refine AW_region ?_
  refine AL_p (x_assign rfl rfl) ?_
  refine AL_nil ?_
  refine AW_seq ?_
  refine AW_seq ?_
  refine AW_region ?_
  refine AL_p (x_move rfl rfl) ?_
  refine AL_p (x_olen (E := 65) (n := 5) rfl rfl rfl (by kernel_rfl)) ?_
  refine AL_b (x_lss rfl rfl rfl) (fun b10 h10 => ?_)
  refine AL_nil ?_
  cases b10
  rotate_left
  · try simp only [tdy] at h10
    refine AW_condT rfl ?_
    refine AW_seq ?_
    refine AW_region ?_
    refine AL_p (x_move rfl rfl) ?_
    refine AL_p (x_assign rfl rfl) ?_
    refine AL_nil ?_
    refine AW_ret ?_
    exact ⟨rn [(1, 0)], ⟨⟨⟨_, rfl, VLe.rf⟩, trivial⟩, ⟨⟨_, rfl, by first | exact BLe.arr (onceC_short (by omega)) | exact BLe.arr (hp.all (by omega) (by omega)) | exact BLe.arr (onceA_end (by omega) (by omega))⟩, trivial⟩, trivial, rfl⟩⟩
  try simp only [tdy] at h10
  refine AW_condF rfl ?_
  refine AW_skip ?_
  refine AW_seq ?_
  refine AW_seq ?_
  refine AW_region ?_
  refine AL_p (x_assign rfl rfl) ?_
  refine AL_nil ?_
  refine AW_block ?_
  refine AW_loop2 (ι := {q : Nat // (0 < q ∧ q ≤ us.length) ∧ PlainC us q}) (fun p => [(5, .one (.c (.int .i64 ((p.1) : Int))))]) (fun p => []) [0, 1] [0] (fun p => us.length - (p.1)) ⟨1, ⟨by omega, PlainC.one⟩⟩ (rn []) ?_ ?_
  exact ⟨by (repeat refine ⟨⟨_, rfl, by first | exact VLe.rf | exact vle_int (by dsimp only; omega)⟩, ?_⟩); exact trivial, by (repeat refine ⟨⟨_, rfl, by first | exact BLe.rf | exact BLe.box AllC.rf | exact BLe.arr (by exact rfl)⟩, ?_⟩); exact trivial, by repeat (first | exact trivial | refine ⟨⟨rfl, by first | (left; intro h; cases h) | (right; rfl), by first | exact (fun _ h => ⟨_, h⟩) | exact (fun _ _ => ⟨_, rfl⟩) | (intro _ h; cases h)⟩, ?_⟩), rfl⟩
  rintro ⟨k, hinv⟩
  dsimp only
  obtain ⟨⟨hk0, hk⟩, hp⟩ := hinv
  refine AW_seq ?_
  refine AW_seq ?_
  refine AW_region ?_
  refine AL_p (x_move rfl rfl) ?_
  refine AL_p (x_move rfl rfl) ?_
  refine AL_p (x_olen (E := 65) (n := 5) rfl rfl rfl (by kernel_rfl)) ?_
  refine AL_b (x_lss rfl rfl rfl) (fun b15 h15 => ?_)
  refine AL_nil ?_
  cases b15
  · try simp only [tdy] at h15
    refine AW_condF rfl ?_
    refine AW_exit (BQ_hit ?_)
    refine AW_seq ?_
    refine AW_region ?_
    refine AL_p (x_move rfl rfl) ?_
    refine AL_p (x_assign rfl rfl) ?_
    refine AL_nil ?_
    refine AW_ret ?_
    exact ⟨rn [(1, 0)], ⟨⟨⟨_, rfl, VLe.rf⟩, trivial⟩, ⟨⟨_, rfl, by first | exact BLe.arr (onceC_short (by omega)) | exact BLe.arr (hp.all (by omega) (by omega)) | exact BLe.arr (onceA_end (by omega) (by omega))⟩, trivial⟩, trivial, rfl⟩⟩
  try simp only [tdy] at h15
  refine AW_condT rfl ?_
  refine AW_skip ?_
  refine AW_seq ?_
  refine AW_block ?_
  refine AW_seq ?_
  refine AW_draw rfl ?_
  refine AL_p (x_move rfl rfl) ?_
  refine AL_p (x_move rfl rfl) ?_
  refine AL_p (x_move rfl rfl) ?_
  refine AL_p (x_oindex (n := 5) rfl rfl rfl rfl (by kernel_rfl) rfl (k := k) rfl (by omega)) ?_
  refine AL_p (x_oloadN (n := 5) rfl rfl rfl (by kernel_rfl) (by omega) rfl rfl) ?_
  refine AL_p (x_move rfl rfl) ?_
  refine AL_p (x_move rfl rfl) ?_
  refine AL_p (x_sub rfl rfl rfl (IntWalk.i64_in _ (by omega))) ?_
  refine AL_p (x_oindex (n := 5) rfl rfl rfl rfl (by kernel_rfl) rfl (k := k - 1) (by omega) (by omega)) ?_
  refine AL_p (x_oloadN (n := 5) rfl rfl rfl (by kernel_rfl) (by omega) rfl rfl) ?_
  refine AL_b (x_call0 rfl rfl rfl (sameC_c _ _) rfl rfl) (fun b28 h28 => ?_)
  refine AL_nild (by kernel_rfl) ?_
  cases b28
  · try simp only [tdy] at h28
    refine AW_condF rfl ?_
    refine AW_skip ?_
    refine AW_region ?_
    refine AL_p (x_move rfl rfl) ?_
    refine AL_p (x_add rfl rfl rfl (IntWalk.i64_in _ (by omega))) ?_
    refine AL_p (x_assign rfl rfl) ?_
    refine AL_nil ?_
    refine ⟨⟨k + 1, ⟨by omega, hp.succ (by omega) (by omega) h28⟩⟩, rn [], ?_, by dsimp only; omega⟩
    exact ⟨by (repeat refine ⟨⟨_, rfl, by first | exact VLe.rf | exact vle_int (by dsimp only; omega)⟩, ?_⟩); exact trivial, by (repeat refine ⟨⟨_, rfl, by first | exact BLe.rf | exact BLe.box AllC.rf | exact BLe.arr (by exact rfl)⟩, ?_⟩); exact trivial, by repeat (first | exact trivial | refine ⟨⟨rfl, by first | (left; intro h; cases h) | (right; rfl), by first | exact (fun _ h => ⟨_, h⟩) | exact (fun _ _ => ⟨_, rfl⟩) | (intro _ h; cases h)⟩, ?_⟩), rfl⟩
  try simp only [tdy] at h28
  obtain ⟨q1, q2⟩ := onceC_dup hp (by omega) (by omega) h28
  refine AW_condT rfl ?_
  refine AW_seq ?_
  refine AW_region ?_
  refine AL_p (x_move rfl rfl) ?_
  refine AL_p (x_move rfl rfl) ?_
  refine AL_p (x_oslice (n := 5) rfl rfl rfl (by kernel_rfl) rfl (.yes (l := k) rfl (by omega)) .no (by omega) (by first | exact Nat.le_refl _ | omega)) ?_
  refine AL_p (x_assign rfl rfl) ?_
  refine AL_nil ?_
  refine AW_seq ?_
  refine AW_seq ?_
  refine AW_region ?_
  refine AL_p (x_assign rfl rfl) ?_
  refine AL_nil ?_
  refine AW_block ?_
  refine AW_loop2 (ι := {q : Nat // (k < q ∧ q ≤ us.length) ∧ (onceC us q).length < q}) (fun p => [(5, .one (.c (.int .i64 ((onceC us (p.1)).length : Int)))), (7, .one (.c (.int .i64 (((p.1) : Int) - (k : Int)))))]) (fun p => [(0, some (.arr 65 changeE (onceA us (p.1)) false))]) [0, 1, 6] [] (fun p => us.length - (p.1)) ⟨k + 1, ⟨by omega, by omega⟩⟩ (rn []) ?_ ?_
  exact ⟨by (repeat refine ⟨⟨_, rfl, by first | exact VLe.rf | exact vle_int (by dsimp only; omega)⟩, ?_⟩); exact trivial, by (repeat refine ⟨⟨_, rfl, by first | exact BLe.rf | exact BLe.box AllC.rf | exact BLe.arr (by first | exact q2 | exact q5.1 | (unfold onceA; rw [q5]))⟩, ?_⟩); exact trivial, by repeat (first | exact trivial | refine ⟨⟨rfl, by first | (left; intro h; cases h) | (right; rfl), by first | exact (fun _ h => ⟨_, h⟩) | exact (fun _ _ => ⟨_, rfl⟩) | (intro _ h; cases h)⟩, ?_⟩), rfl⟩
  rintro ⟨j, hinv⟩
  dsimp only
  obtain ⟨⟨hkj, hj⟩, hul⟩ := hinv
  have hj : j ≤ us.length := hj
  refine AW_seq ?_
  refine AW_seq ?_
  refine AW_region ?_
  refine AL_p (x_move rfl rfl) ?_
  refine AL_p (x_move rfl rfl) ?_
  refine AL_p (x_osllen (E := 65) (n := 5) rfl rfl rfl (by kernel_rfl) (by rw [onceA_len (by omega)]; omega)) ?_
  refine AL_b (x_lss rfl rfl rfl) (fun b35 h35 => ?_)
  refine AL_nil ?_
  cases b35
  · try simp only [tdy] at h35
    refine AW_condF rfl ?_
    refine AW_exit (BQ_hit ?_)
    refine AW_seq ?_
    refine AW_region ?_
    refine AL_p (x_move rfl rfl) ?_
    refine AL_p (x_move rfl rfl) ?_
    refine AL_p (x_oslice (n := 5) rfl rfl rfl (by kernel_rfl) rfl (.yes (l := (onceC us j).length) rfl rfl) .no (by rw [onceA_len (by omega)]; omega) (by first | exact Nat.le_refl _ | omega)) ?_
    refine AL_p (x_clear (E := 65) (n := 5) (z := .agg #[.string ⟨#[]⟩, .int .i64 0, .slice none 0 0, .int .i64 0, .slice none 0 0]) zeroCh rfl rfl (by kernel_rfl) rfl (by decide) Tryz.zeroValue65 zeroCh_rep (by rw [onceA_len (by omega)]; omega) (by rw [onceA_len (by omega)]; omega)) ?_
    refine AL_nil ?_
    refine AW_seq ?_
    refine AW_region ?_
    refine AL_p (x_move rfl rfl) ?_
    refine AL_p (x_move rfl rfl) ?_
    refine AL_p (x_cut (n := 5) (h := (onceC us j).length) 100 rfl rfl rfl (by kernel_rfl) rfl (.yes rfl rfl) rfl rfl (by simp [onceA_len hj]; omega)) ?_
    refine AL_p (x_assign rfl rfl) ?_
    refine AL_nil ?_
    refine AW_ret (BQ_ret (BQ_ret ?_))
    exact ⟨rn [(1, 100)], ⟨⟨⟨_, rfl, VLe.rf⟩, trivial⟩, ⟨⟨_, rfl, by first | exact BLe.arr (onceC_short (by omega)) | exact BLe.arr (hp.all (by omega) (by omega)) | exact BLe.arr (onceA_end (by omega) (by omega))⟩, trivial⟩, trivial, rfl⟩⟩
  try simp only [tdy] at h35
  refine AW_condT rfl ?_
  refine AW_skip ?_
  refine AW_seq ?_
  refine AW_block ?_
  refine AW_seq ?_
  refine AW_draw rfl ?_
  refine AL_p (x_move rfl rfl) ?_
  refine AL_p (x_move rfl rfl) ?_
  refine AL_p (x_move rfl rfl) ?_
  refine AL_p (x_oslindex (n := 5) rfl rfl rfl rfl (by kernel_rfl) rfl (k := j - k) (by omega) (by omega) (k1 := j) (by omega)) ?_
  refine AL_p (x_oloadN (n := 5) rfl rfl rfl (by kernel_rfl) (by rw [onceA_len (by omega)]; omega) rfl rfl) ?_
  refine AL_p (x_move rfl rfl) ?_
  refine AL_p (x_move rfl rfl) ?_
  refine AL_p (x_sub rfl rfl rfl (IntWalk.i64_in _ (by omega))) ?_
  refine AL_p (x_oslindex (n := 5) rfl rfl rfl rfl (by kernel_rfl) rfl (k := j - k - 1) (by omega) (by omega) (k1 := j - 1) (by omega)) ?_
  refine AL_p (x_oloadN (n := 5) rfl rfl rfl (by kernel_rfl) (by rw [onceA_len (by omega)]; omega) rfl rfl) ?_
  refine AL_b (x_call0 rfl rfl rfl (sameC_c _ _) rfl rfl) (fun b48 h48 => ?_)
  refine AL_p (x_not rfl rfl) ?_
  refine AL_nild (by kernel_rfl) ?_
  cases b48
  rotate_left
  · try simp only [tdy] at h48
    rw [onceA_at (us := us) (j := j) (i := j) (by omega) (by omega) (by omega) (by rw [onceA_len (by omega)]; omega), onceA_at (us := us) (j := j) (i := j - 1) (by omega) (by omega) (by omega) (by rw [onceA_len (by omega)]; omega)] at h48
    have q5 := onceC_skip (us := us) (j := j) (by omega) (by omega) h48
    have q6 : (onceC us (j + 1)).length = (onceC us j).length := by rw [q5]
    refine AW_condF rfl ?_
    refine AW_skip ?_
    refine AW_region ?_
    refine AL_p (x_move rfl rfl) ?_
    refine AL_p (x_add rfl rfl rfl (IntWalk.i64_in _ (by omega))) ?_
    refine AL_p (x_assign rfl rfl) ?_
    refine AL_nil ?_
    refine ⟨⟨j + 1, ⟨by omega, by rw [q5]; omega⟩⟩, rn [], ?_, by dsimp only; omega⟩
    exact ⟨by (repeat refine ⟨⟨_, rfl, by first | exact VLe.rf | exact vle_int (by dsimp only; omega)⟩, ?_⟩); exact trivial, by (repeat refine ⟨⟨_, rfl, by first | exact BLe.rf | exact BLe.box AllC.rf | exact BLe.arr (by first | exact q2 | exact q5.1 | (unfold onceA; rw [q5]))⟩, ?_⟩); exact trivial, by repeat (first | exact trivial | refine ⟨⟨rfl, by first | (left; intro h; cases h) | (right; rfl), by first | exact (fun _ h => ⟨_, h⟩) | exact (fun _ _ => ⟨_, rfl⟩) | (intro _ h; cases h)⟩, ?_⟩), rfl⟩
  try simp only [tdy] at h48
  rw [onceA_at (us := us) (j := j) (i := j) (by omega) (by omega) (by omega) (by rw [onceA_len (by omega)]; omega), onceA_at (us := us) (j := j) (i := j - 1) (by omega) (by omega) (by omega) (by rw [onceA_len (by omega)]; omega)] at h48
  have q5 := onceA_put (us := us) (j := j) (by omega) (by omega) (by omega) h48 (by rw [onceA_len (by omega)]; omega)
  have q6 := q5.2
  refine AW_condT rfl ?_
  refine AW_seq ?_
  refine AW_region ?_
  refine AL_p (x_move rfl rfl) ?_
  refine AL_p (x_move rfl rfl) ?_
  refine AL_p (x_move rfl rfl) ?_
  refine AL_p (x_move rfl rfl) ?_
  refine AL_p (x_oslindex (n := 5) rfl rfl rfl rfl (by kernel_rfl) rfl (k := j - k) (by omega) (by omega) (k1 := j) (by omega)) ?_
  refine AL_p (x_oloadN (n := 5) rfl rfl rfl (by kernel_rfl) (by rw [onceA_len (by omega)]; omega) rfl rfl) ?_
  refine AL_p (x_oindex (n := 5) rfl rfl rfl rfl (by kernel_rfl) rfl (k := (onceC us j).length) rfl (by rw [onceA_len (by omega)]; omega)) ?_
  refine AL_p (x_ostore (((onceA us j)[j]'(by rw [onceA_len (by omega)]; omega))) rfl rfl rfl rfl (by kernel_rfl) rfl rfl rfl rfl FitL.rf rfl rfl (by rw [onceA_len (by omega)]; omega)) ?_
  refine AL_nil ?_
  refine AW_region ?_
  refine AL_p (x_move rfl rfl) ?_
  refine AL_p (x_add rfl rfl rfl (IntWalk.i64_in _ (by omega))) ?_
  refine AL_p (x_assign rfl rfl) ?_
  refine AL_nil ?_
  refine AW_region ?_
  refine AL_p (x_move rfl rfl) ?_
  refine AL_p (x_add rfl rfl rfl (IntWalk.i64_in _ (by omega))) ?_
  refine AL_p (x_assign rfl rfl) ?_
  refine AL_nil ?_
  refine ⟨⟨j + 1, ⟨by omega, by rw [q5.2]; omega⟩⟩, rn [], ?_, by dsimp only; omega⟩
  exact ⟨by (repeat refine ⟨⟨_, rfl, by first | exact VLe.rf | exact vle_int (by dsimp only; omega)⟩, ?_⟩); exact trivial, by (repeat refine ⟨⟨_, rfl, by first | exact BLe.rf | exact BLe.box AllC.rf | exact BLe.arr (by first | exact q2 | exact q5.1 | (unfold onceA; rw [q5]))⟩, ?_⟩); exact trivial, by repeat (first | exact trivial | refine ⟨⟨rfl, by first | (left; intro h; cases h) | (right; rfl), by first | exact (fun _ h => ⟨_, h⟩) | exact (fun _ _ => ⟨_, rfl⟩) | (intro _ h; cases h)⟩, ?_⟩), rfl⟩
end Go.Proofs.YtibhoanjglfaoaaGreat

/- DeltaThen (printed by walk.py) -/
namespace Go.Proofs.YtibhoanjglfaoaaGreat
open Go.RowKit
set_option linter.unusedVariables false
set_option linter.unusedSimpArgs false
set_option maxRecDepth 100000

set_option maxHeartbeats 4000000 in
theorem deltaThenI_c0 (a b : Deltat) (ha : smallDelta a) (hb : smallDelta b) : AC Tryz.prog 19 [.agg (deltaC a), .agg (deltaC b)] [] (.tup [.agg [.own 0], .one (.c (.bool (deltaThen a b).2))]) [(0, some (.arr 65 changeE (deltaThen a b).1.changes true))] := by
  refine AC_bodyCT (n := 1) (k := 9) (T := [(4, .one (.ptr 9 0)), (5, .one (.c (.bool (deltaThen a b).2)))]) (Lf := ((9, some (.box [.own 0])) :: [(0, some (.arr 65 changeE (deltaThen a b).1.changes true))])) Tryz.func19 rfl rfl Tryz.ntmps19 rfl Tryz.results19 rfl rfl rfl rfl (by kernel_rfl) rfl rfl ⟨trivial, (by repeat (first | exact trivial | refine ⟨⟨_, rfl, BLe.rf⟩, ?_⟩)), (by repeat (first | exact trivial | refine ⟨⟨rfl, by first | (left; intro h; cases h) | (right; rfl), by first | exact (fun _ h => ⟨_, h⟩) | exact (fun _ _ => ⟨_, rfl⟩) | (intro _ h; cases h)⟩, ?_⟩)), rfl⟩ ?_
  refine AW_seq ?_
  refine AW_region ?_
  refine AL_p (x_box 100 rfl rfl rfl rfl rfl rfl rfl) ?_
  refine AL_p (x_box 101 rfl rfl rfl rfl rfl rfl rfl) ?_
  refine AL_p (x_alloc (z := .agg #[.slice none 0 0]) 102 rfl (by kernel_rfl) rfl rfl rfl rfl) ?_
  refine AL_p (x_assign rfl rfl) ?_
  refine AL_nil ?_
  refine AW_seq ?_
  refine AW_seq ?_
  refine AW_region ?_
  refine AL_p (x_loadN (n := 1) rfl rfl rfl (by kernel_rfl) rfl rfl) ?_
  refine AL_b (x_call0 rfl rfl rfl (deltaOkI_c _ (by first | exact ha | exact hb)) rfl rfl) (fun b17 h17 => ?_)
  refine AL_p (x_not rfl rfl) ?_
  refine AL_p (x_move rfl rfl) ?_
  cases b17
  · try simp only [tdy] at h17
    have hno := then_a (b := b) h17
    refine AL_o rfl rfl rfl rfl ?_
    refine AL_o rfl rfl rfl rfl ?_
    refine AL_o rfl rfl rfl rfl ?_
    refine AL_p (x_pickT rfl rfl rfl) ?_
    refine AL_nil ?_
    refine AW_condT rfl ?_
    refine AW_seq ?_
    refine AW_region ?_
    refine AL_p (x_build (zs := [.slice none 0 0]) (places := [(0, 1)]) rfl (by kernel_rfl) rfl rfl rfl rfl rfl) ?_
    refine AL_p (x_store (n := 1) rfl rfl rfl rfl (by kernel_rfl) rfl rfl rfl) ?_
    refine AL_p (x_assign rfl rfl) ?_
    refine AL_nil ?_
    refine AW_adopt (T := 65) (e := changeE) 110 102 0 rfl rfl rfl rfl rfl ?_
    refine AW_ret ?_
    exact ⟨rn [(9, 102), (0, 110)], ⟨⟨⟨_, rfl, VLe.rf⟩, ⟨_, rfl, by first | (refine vle_bool ?_; rw [hno]; done) | exact VLe.rf | (refine vle_bool ?_; rw [hno]; apply Eq.symm; assumption) | exact vle_bool (by rw [hno])⟩, trivial⟩, ⟨⟨_, rfl, by first | (refine ble_eq ?_; rw [hno]; done) | (refine ble_eq ?_; rw [hno]; rfl) | exact BLe.rf⟩, ⟨_, rfl, by first | (refine BLe.arr ?_; rw [hno]; done) | (refine BLe.arr ?_; rw [hno]; rfl) | exact BLe.rf⟩, trivial⟩, trivial, rfl⟩⟩
  try simp only [tdy] at h17
  have hA := h17
  have hla := delta_max hA
  refine AL_g rfl rfl (x_loadN (n := 1) rfl rfl rfl (by kernel_rfl) rfl rfl) ?_
  refine AL_gb rfl rfl (x_call0 rfl rfl rfl (deltaOkI_c _ (by first | exact ha | exact hb)) rfl rfl) (fun b21 h21 => ?_)
  refine AL_g rfl rfl (x_not rfl rfl) ?_
  refine AL_p (x_pickF rfl rfl rfl) ?_
  refine AL_nil ?_
  cases b21
  · try simp only [tdy] at h21
    have hno := then_b (a := a) h21
    refine AW_condT rfl ?_
    refine AW_seq ?_
    refine AW_region ?_
    refine AL_p (x_build (zs := [.slice none 0 0]) (places := [(0, 1)]) rfl (by kernel_rfl) rfl rfl rfl rfl rfl) ?_
    refine AL_p (x_store (n := 1) rfl rfl rfl rfl (by kernel_rfl) rfl rfl rfl) ?_
    refine AL_p (x_assign rfl rfl) ?_
    refine AL_nil ?_
    refine AW_adopt (T := 65) (e := changeE) 110 102 0 rfl rfl rfl rfl rfl ?_
    refine AW_ret ?_
    exact ⟨rn [(9, 102), (0, 110)], ⟨⟨⟨_, rfl, VLe.rf⟩, ⟨_, rfl, by first | (refine vle_bool ?_; rw [hno]; done) | exact VLe.rf | (refine vle_bool ?_; rw [hno]; apply Eq.symm; assumption) | exact vle_bool (by rw [hno])⟩, trivial⟩, ⟨⟨_, rfl, by first | (refine ble_eq ?_; rw [hno]; done) | (refine ble_eq ?_; rw [hno]; rfl) | exact BLe.rf⟩, ⟨_, rfl, by first | (refine BLe.arr ?_; rw [hno]; done) | (refine BLe.arr ?_; rw [hno]; rfl) | exact BLe.rf⟩, trivial⟩, trivial, rfl⟩⟩
  try simp only [tdy] at h21
  have hB := h21
  have hlb := delta_max hB
  have hlt := thenAll_len a b
  refine AW_condF rfl ?_
  refine AW_skip ?_
  refine AW_seq ?_
  refine AW_region ?_
  refine AL_p (x_field (off := 0) (o' := 0) rfl rfl rfl (by kernel_rfl) rfl) ?_
  refine AL_p (x_load1 rfl rfl rfl (by kernel_rfl) rfl) ?_
  refine AL_p (x_field (off := 0) (o' := 0) rfl rfl rfl (by kernel_rfl) rfl) ?_
  refine AL_p (x_load1 rfl rfl rfl (by kernel_rfl) rfl) ?_
  refine AL_p (y_bslice (E := 36) (e := (sliceE changeE)) [.tmp 26, .tmp 28] ([a.changes, b.changes]) 103 rfl rfl rfl rfl rfl rfl rfl rfl FitL.rf rfl rfl rfl rfl rfl rfl (by kernel_rfl)) ?_
  refine AL_p (x_call (ks := []) (L := [(103, some _)]) (L' := [(103, none), (0, some _)]) rfl rfl rfl (AT.lend1 (concatTwo_t a.changes b.changes (by omega)) 103 0 rfl (fun _ => rfl)) rfl AllV.rf (caught_of rfl) rfl rfl rfl ⟨rfl, trivial⟩ rfl) ?_
  refine AL_p (x_assign rfl rfl) ?_
  refine AL_nil ?_
  refine AW_seq ?_
  refine AW_region ?_
  refine AL_p (x_move rfl rfl) ?_
  refine AL_p (x_call (ks := []) (L := [(0, some _)]) (L' := [(0, some _)]) rfl rfl rfl (sortC_c (a.changes ++ b.changes) (by simp only [List.length_append]; omega)) rfl AllV.rf (caught_of rfl) rfl rfl rfl ⟨rfl, trivial⟩ rfl) ?_
  refine AL_nil ?_
  refine AW_seq ?_
  refine AW_region ?_
  refine AL_p (x_move rfl rfl) ?_
  refine AL_p (x_call (ks := []) (L := [(0, some _)]) (L' := [(0, none), (104, some _)]) rfl rfl rfl (AT.lend1 (compC_t (isort ltC (a.changes ++ b.changes)) (by rw [isort_len]; simp only [List.length_append]; omega)) 0 104 rfl (fun _ => rfl)) rfl AllV.rf (caught_of rfl) rfl rfl rfl ⟨rfl, trivial⟩ rfl) ?_
  refine AL_p (x_assign rfl rfl) ?_
  refine AL_nil ?_
  refine AW_seq ?_
  refine AW_region ?_
  refine AL_p (x_build (zs := [.slice none 0 0]) (places := [(0, 1)]) rfl (by kernel_rfl) rfl rfl rfl rfl rfl) ?_
  refine AL_p (x_alloc (z := .agg #[.slice none 0 0]) 105 rfl (by kernel_rfl) rfl rfl rfl rfl) ?_
  refine AL_p (x_store (n := 1) rfl rfl rfl rfl (by kernel_rfl) rfl rfl rfl) ?_
  refine AL_nil ?_
  refine AW_seq ?_
  refine AW_seq ?_
  refine AW_shut 104 6 rfl rfl ?_
  refine AW_slot (t := 6) (y := .one (.sl changeE (thenAll a b))) rfl rfl ?_
  refine AW_region ?_
  refine AL_p (x_move rfl rfl) ?_
  refine AL_p (x_len (E := 65) (n := 5) rfl rfl (by kernel_rfl)) ?_
  refine AL_p (x_move rfl rfl) ?_
  refine AL_nil ?_
  refine AW_block ?_
  refine AW_adopt (T := 65) (e := changeE) 106 105 0 rfl rfl rfl rfl rfl ?_
  refine AW_loop2 (ι := {q : Nat // q ≤ (thenAll a b).length ∧ ThenTo a b q}) (fun p => [(38, .one (.c (.int .i64 ((p.1) : Int))))]) (fun p => [(106, some (.arr 65 changeE (filtTo someRows (thenSums a b) (p.1)) true))]) [2, 3, 4, 7, 36, 37] [100, 101, 102, 105] (fun p => (thenAll a b).length - (p.1)) ⟨0, ⟨by omega, .zero⟩⟩ (rn []) ?_ ?_
  exact ⟨by (repeat refine ⟨⟨_, rfl, by first | exact VLe.rf | exact vle_int (by dsimp only; omega)⟩, ?_⟩); exact trivial, by (repeat refine ⟨⟨_, rfl, by first | exact BLe.rf | exact BLe.box AllC.rf | exact BLe.arr (by first | rfl | exact hso)⟩, ?_⟩); exact trivial, by repeat (first | exact trivial | refine ⟨⟨rfl, by first | (left; intro h; cases h) | (right; rfl), by first | exact (fun _ h => ⟨_, h⟩) | exact (fun _ _ => ⟨_, rfl⟩) | (intro _ h; cases h)⟩, ?_⟩), rfl⟩
  rintro ⟨k, hinv⟩
  dsimp only
  obtain ⟨hk, hT⟩ := hinv
  have hk : k ≤ (thenAll a b).length := hk
  have hT : ThenTo a b k := hT
  refine AW_seq ?_
  refine AW_region ?_
  refine AL_b (x_lss rfl rfl rfl) (fun b39 h39 => ?_)
  refine AL_nil ?_
  refine AW_seq ?_
  cases b39
  · try simp only [tdy] at h39
    rw [sums_all (a := a) (b := b) (k := k) (by omega)]
    refine AW_condF rfl ?_
    refine AW_exit (BQ_hit ?_)
    refine AW_seq ?_
    refine AW_seq ?_
    refine AW_region ?_
    refine AL_p (x_loadN (n := 1) rfl rfl rfl (by kernel_rfl) rfl rfl) ?_
    refine AL_bc (x_callR rfl rfl rfl (deltaOkI_c ⟨(thenSums a b).filter someRows⟩ (sums_small ha hb hA hB)) rfl AllV.rf rfl rfl rfl rfl rfl) (fun b153 h153 => ?_)
    refine AL_p (x_not rfl rfl) ?_
    refine AL_nil ?_
    cases b153
    rotate_left
    · try simp only [tdy] at h153
      have hno := then_ok hA hB (fun j hj => hT j hj (by omega)) h153
      refine AW_condF rfl ?_
      refine AW_skip ?_
      refine AW_seq ?_
      refine AW_region ?_
      refine AL_p (x_loadN (n := 1) rfl rfl rfl (by kernel_rfl) rfl rfl) ?_
      refine AL_p (x_store (n := 1) rfl rfl rfl rfl (by kernel_rfl) rfl rfl rfl) ?_
      refine AL_p (x_assign rfl rfl) ?_
      refine AL_nil ?_
      refine AW_ret ?_
      exact ⟨rn [(9, 102), (0, 106)], ⟨⟨⟨_, rfl, VLe.rf⟩, ⟨_, rfl, by first | (refine vle_bool ?_; rw [hno]; done) | exact VLe.rf | (refine vle_bool ?_; rw [hno]; apply Eq.symm; assumption) | exact vle_bool (by rw [hno])⟩, trivial⟩, ⟨⟨_, rfl, by first | (refine ble_eq ?_; rw [hno]; done) | (refine ble_eq ?_; rw [hno]; rfl) | exact BLe.rf⟩, ⟨_, rfl, by first | (refine BLe.arr ?_; rw [hno]; done) | (refine BLe.arr ?_; rw [hno]; rfl) | exact BLe.rf⟩, trivial⟩, trivial, rfl⟩⟩
    try simp only [tdy] at h153
    have hno := then_not h153
    refine AW_condT rfl ?_
    refine AW_seq ?_
    refine AW_region ?_
    refine AL_p (x_build (zs := [.slice none 0 0]) (places := [(0, 1)]) rfl (by kernel_rfl) rfl rfl rfl rfl rfl) ?_
    refine AL_p (x_store (n := 1) rfl rfl rfl rfl (by kernel_rfl) rfl rfl rfl) ?_
    refine AL_p (x_assign rfl rfl) ?_
    refine AL_nil ?_
    refine AW_adopt (T := 65) (e := changeE) 110 102 0 rfl rfl rfl rfl rfl ?_
    refine AW_ret ?_
    exact ⟨rn [(9, 102), (0, 110)], ⟨⟨⟨_, rfl, VLe.rf⟩, ⟨_, rfl, by first | (refine vle_bool ?_; rw [hno]; done) | exact VLe.rf | (refine vle_bool ?_; rw [hno]; apply Eq.symm; assumption) | exact vle_bool (by rw [hno])⟩, trivial⟩, ⟨⟨_, rfl, by first | (refine ble_eq ?_; rw [hno]; done) | (refine ble_eq ?_; rw [hno]; rfl) | exact BLe.rf⟩, ⟨_, rfl, by first | (refine BLe.arr ?_; rw [hno]; done) | (refine BLe.arr ?_; rw [hno]; rfl) | exact BLe.rf⟩, trivial⟩, trivial, rfl⟩⟩
  try simp only [tdy] at h39
  have hk2 : k < (thenAll a b).length := by omega
  have hnm := then_name ha hb hk2
  have sx := changeOf_small ha _ hnm ((thenAll a b)[k]'hk2).plus.arity
  have sy := changeOf_small hb _ hnm ((thenAll a b)[k]'hk2).plus.arity
  have cx := changeOf_in hA ((thenAll a b)[k]'hk2).name ((thenAll a b)[k]'hk2).plus.arity
  have cy := changeOf_in hB ((thenAll a b)[k]'hk2).name ((thenAll a b)[k]'hk2).plus.arity
  have hpl := plusOf_len cx cy
  have hpv := plusOf_vals cx cy
  have hps := plusOf_small sx sy
  have hcs := cnt_sum cx cy
  refine AW_condT rfl ?_
  refine AW_skip ?_
  refine AW_seq ?_
  refine AW_block ?_
  refine AW_seq ?_
  refine AW_region ?_
  refine AL_p (x_index (E := 65) (n := 5) rfl rfl rfl (by kernel_rfl) rfl (k := k) (by omega) (by omega)) ?_
  refine AL_p (x_eloadW (n := 5) rfl rfl (by kernel_rfl) rfl) ?_
  refine AL_p (x_alloc (z := .agg #[.string ⟨#[]⟩, .int .i64 0, .slice none 0 0, .int .i64 0, .slice none 0 0]) 107 rfl (by kernel_rfl) rfl rfl rfl rfl) ?_
  refine AL_p (x_store (n := 5) rfl rfl rfl rfl (by kernel_rfl) rfl rfl rfl) ?_
  refine AL_nil ?_
  refine AW_seq ?_
  refine AW_region ?_
  refine AL_p (x_loadN (n := 1) rfl rfl rfl (by kernel_rfl) rfl rfl) ?_
  refine AL_p (x_field (off := 0) (o' := 0) rfl rfl rfl (by kernel_rfl) rfl) ?_
  refine AL_p (x_load1 rfl rfl rfl (by kernel_rfl) rfl) ?_
  refine AL_p (x_field (off := 1) (o' := 1) rfl rfl rfl (by kernel_rfl) rfl) ?_
  refine AL_p (x_field (off := 0) (o' := 1) rfl rfl rfl (by kernel_rfl) rfl) ?_
  refine AL_p (x_load1 rfl rfl rfl (by kernel_rfl) rfl) ?_
  refine AL_p (x_call0 rfl rfl rfl (changeOfI_c a ((thenAll a b)[k]'hk2).name ((thenAll a b)[k]'hk2).plus.arity ha.1) rfl rfl) ?_
  refine AL_p (x_alloc (z := .agg #[.string ⟨#[]⟩, .int .i64 0, .slice none 0 0, .int .i64 0, .slice none 0 0]) 108 rfl (by kernel_rfl) rfl rfl rfl rfl) ?_
  refine AL_p (x_store (n := 5) rfl rfl rfl rfl (by kernel_rfl) rfl rfl rfl) ?_
  refine AL_nil ?_
  refine AW_seq ?_
  refine AW_region ?_
  refine AL_p (x_loadN (n := 1) rfl rfl rfl (by kernel_rfl) rfl rfl) ?_
  refine AL_p (x_field (off := 0) (o' := 0) rfl rfl rfl (by kernel_rfl) rfl) ?_
  refine AL_p (x_load1 rfl rfl rfl (by kernel_rfl) rfl) ?_
  refine AL_p (x_field (off := 1) (o' := 1) rfl rfl rfl (by kernel_rfl) rfl) ?_
  refine AL_p (x_field (off := 0) (o' := 1) rfl rfl rfl (by kernel_rfl) rfl) ?_
  refine AL_p (x_load1 rfl rfl rfl (by kernel_rfl) rfl) ?_
  refine AL_p (x_call0 rfl rfl rfl (changeOfI_c b ((thenAll a b)[k]'hk2).name ((thenAll a b)[k]'hk2).plus.arity hb.1) rfl rfl) ?_
  refine AL_p (x_alloc (z := .agg #[.string ⟨#[]⟩, .int .i64 0, .slice none 0 0, .int .i64 0, .slice none 0 0]) 109 rfl (by kernel_rfl) rfl rfl rfl rfl) ?_
  refine AL_p (x_store (n := 5) rfl rfl rfl rfl (by kernel_rfl) rfl rfl rfl) ?_
  refine AL_nil ?_
  refine AW_seq ?_
  refine AW_seq ?_
  refine AW_region ?_
  refine AL_p (x_field (off := 1) (o' := 1) rfl rfl rfl (by kernel_rfl) rfl) ?_
  refine AL_p (x_field (off := 0) (o' := 1) rfl rfl rfl (by kernel_rfl) rfl) ?_
  refine AL_p (x_load1 rfl rfl rfl (by kernel_rfl) rfl) ?_
  refine AL_p (x_field (off := 1) (o' := 1) rfl rfl rfl (by kernel_rfl) rfl) ?_
  refine AL_p (x_field (off := 0) (o' := 1) rfl rfl rfl (by kernel_rfl) rfl) ?_
  refine AL_p (x_load1 rfl rfl rfl (by kernel_rfl) rfl) ?_
  refine AL_b (x_neq rfl rfl rfl) (fun b62 h62 => ?_)
  refine AL_p (x_move rfl rfl) ?_
  cases b62
  rotate_left
  · try simp only [tdy] at h62
    have hno := then_bad hk2 (sumOk_ar (by omega))
    refine AL_o rfl rfl rfl rfl ?_
    refine AL_o rfl rfl rfl rfl ?_
    refine AL_o rfl rfl rfl rfl ?_
    refine AL_o rfl rfl rfl rfl ?_
    refine AL_o rfl rfl rfl rfl ?_
    refine AL_o rfl rfl rfl rfl ?_
    refine AL_o rfl rfl rfl rfl ?_
    refine AL_o rfl rfl rfl rfl ?_
    refine AL_p (x_pickT rfl rfl rfl) ?_
    refine AL_p (x_move rfl rfl) ?_
    refine AL_o rfl rfl rfl rfl ?_
    refine AL_o rfl rfl rfl rfl ?_
    refine AL_o rfl rfl rfl rfl ?_
    refine AL_o rfl rfl rfl rfl ?_
    refine AL_o rfl rfl rfl rfl ?_
    refine AL_o rfl rfl rfl rfl ?_
    refine AL_o rfl rfl rfl rfl ?_
    refine AL_o rfl rfl rfl rfl ?_
    refine AL_p (x_pickT rfl rfl rfl) ?_
    refine AL_nil ?_
    refine AW_condT rfl ?_
    refine AW_seq ?_
    refine AW_region ?_
    refine AL_p (x_build (zs := [.slice none 0 0]) (places := [(0, 1)]) rfl (by kernel_rfl) rfl rfl rfl rfl rfl) ?_
    refine AL_p (x_store (n := 1) rfl rfl rfl rfl (by kernel_rfl) rfl rfl rfl) ?_
    refine AL_p (x_assign rfl rfl) ?_
    refine AL_nil ?_
    refine AW_adopt (T := 65) (e := changeE) 110 102 0 rfl rfl rfl rfl rfl ?_
    refine AW_ret (BQ_ret (BQ_ret ?_))
    exact ⟨rn [(9, 102), (0, 110)], ⟨⟨⟨_, rfl, VLe.rf⟩, ⟨_, rfl, by first | (refine vle_bool ?_; rw [hno]; done) | exact VLe.rf | (refine vle_bool ?_; rw [hno]; apply Eq.symm; assumption) | exact vle_bool (by rw [hno])⟩, trivial⟩, ⟨⟨_, rfl, by first | (refine ble_eq ?_; rw [hno]; done) | (refine ble_eq ?_; rw [hno]; rfl) | exact BLe.rf⟩, ⟨_, rfl, by first | (refine BLe.arr ?_; rw [hno]; done) | (refine BLe.arr ?_; rw [hno]; rfl) | exact BLe.rf⟩, trivial⟩, trivial, rfl⟩⟩
  try simp only [tdy] at h62
  refine AL_g rfl rfl (x_field (off := 1) (o' := 1) rfl rfl rfl (by kernel_rfl) rfl) ?_
  refine AL_g rfl rfl (x_loadN (n := 2) rfl rfl rfl (by kernel_rfl) rfl rfl) ?_
  refine AL_g rfl rfl (x_field (off := 1) (o' := 1) rfl rfl rfl (by kernel_rfl) rfl) ?_
  refine AL_g rfl rfl (x_loadN (n := 2) rfl rfl rfl (by kernel_rfl) rfl rfl) ?_
  refine AL_g rfl rfl (x_call1 rfl rfl rfl (bothI_c (changeOf a ((thenAll a b)[k]'hk2).name ((thenAll a b)[k]'hk2).plus.arity).plus (changeOf b ((thenAll a b)[k]'hk2).name ((thenAll a b)[k]'hk2).plus.arity).plus sx.2.1 sy.2.1.1 cy.2.2.1 cx.2.2.1.vals 111) rfl rfl rfl rfl) ?_
  refine AL_g rfl rfl (x_fldv (off := 1) rfl rfl (by kernel_rfl) rfl) ?_
  refine AL_g rfl rfl (x_olen (E := 72) (n := 1) rfl rfl rfl (by kernel_rfl)) ?_
  refine AL_gb rfl rfl (x_gtr rfl rfl rfl) (fun b71 h71 => ?_)
  refine AL_p (x_pickF rfl rfl rfl) ?_
  refine AL_p (x_move rfl rfl) ?_
  cases b71
  rotate_left
  · try simp only [tdy] at h71
    have hno := then_bad hk2 (sumOk_p (apart_not (by omega)))
    refine AL_o rfl rfl rfl rfl ?_
    refine AL_o rfl rfl rfl rfl ?_
    refine AL_o rfl rfl rfl rfl ?_
    refine AL_o rfl rfl rfl rfl ?_
    refine AL_o rfl rfl rfl rfl ?_
    refine AL_o rfl rfl rfl rfl ?_
    refine AL_o rfl rfl rfl rfl ?_
    refine AL_o rfl rfl rfl rfl ?_
    refine AL_p (x_pickT rfl rfl rfl) ?_
    refine AL_nil ?_
    refine AW_condT rfl ?_
    refine AW_seq ?_
    refine AW_region ?_
    refine AL_p (x_build (zs := [.slice none 0 0]) (places := [(0, 1)]) rfl (by kernel_rfl) rfl rfl rfl rfl rfl) ?_
    refine AL_p (x_store (n := 1) rfl rfl rfl rfl (by kernel_rfl) rfl rfl rfl) ?_
    refine AL_p (x_assign rfl rfl) ?_
    refine AL_nil ?_
    refine AW_adopt (T := 65) (e := changeE) 110 102 0 rfl rfl rfl rfl rfl ?_
    refine AW_ret (BQ_ret (BQ_ret ?_))
    exact ⟨rn [(9, 102), (0, 110)], ⟨⟨⟨_, rfl, VLe.rf⟩, ⟨_, rfl, by first | (refine vle_bool ?_; rw [hno]; done) | exact VLe.rf | (refine vle_bool ?_; rw [hno]; apply Eq.symm; assumption) | exact vle_bool (by rw [hno])⟩, trivial⟩, ⟨⟨_, rfl, by first | (refine ble_eq ?_; rw [hno]; done) | (refine ble_eq ?_; rw [hno]; rfl) | exact BLe.rf⟩, ⟨_, rfl, by first | (refine BLe.arr ?_; rw [hno]; done) | (refine BLe.arr ?_; rw [hno]; rfl) | exact BLe.rf⟩, trivial⟩, trivial, rfl⟩⟩
  try simp only [tdy] at h71
  refine AL_g rfl rfl (x_field (off := 3) (o' := 3) rfl rfl rfl (by kernel_rfl) rfl) ?_
  refine AL_g rfl rfl (x_loadN (n := 2) rfl rfl rfl (by kernel_rfl) rfl rfl) ?_
  refine AL_g rfl rfl (x_field (off := 3) (o' := 3) rfl rfl rfl (by kernel_rfl) rfl) ?_
  refine AL_g rfl rfl (x_loadN (n := 2) rfl rfl rfl (by kernel_rfl) rfl rfl) ?_
  refine AL_g rfl rfl (x_call1 rfl rfl rfl (bothI_c (changeOf a ((thenAll a b)[k]'hk2).name ((thenAll a b)[k]'hk2).plus.arity).minus (changeOf b ((thenAll a b)[k]'hk2).name ((thenAll a b)[k]'hk2).plus.arity).minus sx.2.2 sy.2.2.1 cy.2.2.2 cx.2.2.2.vals 112) rfl rfl rfl rfl) ?_
  refine AL_g rfl rfl (x_fldv (off := 1) rfl rfl (by kernel_rfl) rfl) ?_
  refine AL_g rfl rfl (x_olen (E := 72) (n := 1) rfl rfl rfl (by kernel_rfl)) ?_
  refine AL_gb rfl rfl (x_gtr rfl rfl rfl) (fun b81 h81 => ?_)
  refine AL_p (x_pickF rfl rfl rfl) ?_
  refine AL_nil ?_
  cases b81
  rotate_left
  · try simp only [tdy] at h81
    have hno := then_bad hk2 (sumOk_m (apart_not (by omega)))
    refine AW_condT rfl ?_
    refine AW_seq ?_
    refine AW_region ?_
    refine AL_p (x_build (zs := [.slice none 0 0]) (places := [(0, 1)]) rfl (by kernel_rfl) rfl rfl rfl rfl rfl) ?_
    refine AL_p (x_store (n := 1) rfl rfl rfl rfl (by kernel_rfl) rfl rfl rfl) ?_
    refine AL_p (x_assign rfl rfl) ?_
    refine AL_nil ?_
    refine AW_adopt (T := 65) (e := changeE) 110 102 0 rfl rfl rfl rfl rfl ?_
    refine AW_ret (BQ_ret (BQ_ret ?_))
    exact ⟨rn [(9, 102), (0, 110)], ⟨⟨⟨_, rfl, VLe.rf⟩, ⟨_, rfl, by first | (refine vle_bool ?_; rw [hno]; done) | exact VLe.rf | (refine vle_bool ?_; rw [hno]; apply Eq.symm; assumption) | exact vle_bool (by rw [hno])⟩, trivial⟩, ⟨⟨_, rfl, by first | (refine ble_eq ?_; rw [hno]; done) | (refine ble_eq ?_; rw [hno]; rfl) | exact BLe.rf⟩, ⟨_, rfl, by first | (refine BLe.arr ?_; rw [hno]; done) | (refine BLe.arr ?_; rw [hno]; rfl) | exact BLe.rf⟩, trivial⟩, trivial, rfl⟩⟩
  try simp only [tdy] at h81
  have hok := sumOk_yes (x := (changeOf a ((thenAll a b)[k]'hk2).name ((thenAll a b)[k]'hk2).plus.arity)) (y := (changeOf b ((thenAll a b)[k]'hk2).name ((thenAll a b)[k]'hk2).plus.arity)) (by omega) (apart_iff.2 (by omega)) (apart_iff.2 (by omega))
  refine AW_condF rfl ?_
  refine AW_skip ?_
  refine AW_seq ?_
  refine AW_draw rfl ?_
  refine AL_p (x_field (off := 1) (o' := 1) rfl rfl rfl (by kernel_rfl) rfl) ?_
  refine AL_p (x_field (off := 0) (o' := 1) rfl rfl rfl (by kernel_rfl) rfl) ?_
  refine AL_p (x_load1 rfl rfl rfl (by kernel_rfl) rfl) ?_
  refine AL_p (x_field (off := 1) (o' := 1) rfl rfl rfl (by kernel_rfl) rfl) ?_
  refine AL_p (x_loadN (n := 2) rfl rfl rfl (by kernel_rfl) rfl rfl) ?_
  refine AL_p (x_field (off := 3) (o' := 3) rfl rfl rfl (by kernel_rfl) rfl) ?_
  refine AL_p (x_loadN (n := 2) rfl rfl rfl (by kernel_rfl) rfl rfl) ?_
  refine AL_p (x_call1 rfl rfl rfl (minusI_c (changeOf a ((thenAll a b)[k]'hk2).name ((thenAll a b)[k]'hk2).plus.arity).plus (changeOf b ((thenAll a b)[k]'hk2).name ((thenAll a b)[k]'hk2).plus.arity).minus sx.2.1 sy.2.2.1 cy.2.2.2 cx.2.2.1.vals 113) rfl rfl rfl rfl) ?_
  refine AL_p (x_fldv (off := 1) rfl rfl (by kernel_rfl) rfl) ?_
  refine AL_p (x_field (off := 1) (o' := 1) rfl rfl rfl (by kernel_rfl) rfl) ?_
  refine AL_p (x_loadN (n := 2) rfl rfl rfl (by kernel_rfl) rfl rfl) ?_
  refine AL_p (x_field (off := 3) (o' := 3) rfl rfl rfl (by kernel_rfl) rfl) ?_
  refine AL_p (x_loadN (n := 2) rfl rfl rfl (by kernel_rfl) rfl rfl) ?_
  refine AL_p (x_call1 rfl rfl rfl (minusI_c (changeOf b ((thenAll a b)[k]'hk2).name ((thenAll a b)[k]'hk2).plus.arity).plus (changeOf a ((thenAll a b)[k]'hk2).name ((thenAll a b)[k]'hk2).plus.arity).minus sy.2.1 sx.2.2.1 cx.2.2.2 cy.2.2.1.vals 114) rfl rfl rfl rfl) ?_
  refine AL_p (x_fldv (off := 1) rfl rfl (by kernel_rfl) rfl) ?_
  refine AL_p (y_bslice (E := 61) (e := (sliceE rowE)) [.tmp 93, .tmp 99] ([(keepOf (changeOf a ((thenAll a b)[k]'hk2).name ((thenAll a b)[k]'hk2).plus.arity).plus (changeOf b ((thenAll a b)[k]'hk2).name ((thenAll a b)[k]'hk2).plus.arity).minus), (keepOf (changeOf b ((thenAll a b)[k]'hk2).name ((thenAll a b)[k]'hk2).plus.arity).plus (changeOf a ((thenAll a b)[k]'hk2).name ((thenAll a b)[k]'hk2).plus.arity).minus)]) 115 rfl rfl rfl rfl rfl rfl rfl rfl FitL.rf rfl rfl rfl rfl rfl rfl (by kernel_rfl)) ?_
  refine AL_p (x_call (ks := []) (L := [(115, some _)]) (L' := [(115, none), (116, some _)]) rfl rfl rfl (AT.lend1 (concatRowD_t (xss := [(keepOf (changeOf a ((thenAll a b)[k]'hk2).name ((thenAll a b)[k]'hk2).plus.arity).plus (changeOf b ((thenAll a b)[k]'hk2).name ((thenAll a b)[k]'hk2).plus.arity).minus), (keepOf (changeOf b ((thenAll a b)[k]'hk2).name ((thenAll a b)[k]'hk2).plus.arity).plus (changeOf a ((thenAll a b)[k]'hk2).name ((thenAll a b)[k]'hk2).plus.arity).minus)]) (by have := hpl; simp only [plusOf, lessOf, List.length_append] at this; simp only [List.flatten_cons, List.flatten_nil, List.length_append, List.length_nil]; omega) (by simp)) 115 116 rfl (fun _ => rfl)) rfl AllV.rf (caught_of rfl) rfl rfl rfl ⟨rfl, trivial⟩ rfl) ?_
  refine AL_p (x_callR rfl rfl rfl (relOfP_c (changeOf a ((thenAll a b)[k]'hk2).name ((thenAll a b)[k]'hk2).plus.arity).plus.arity (keepOf (changeOf a ((thenAll a b)[k]'hk2).name ((thenAll a b)[k]'hk2).plus.arity).plus (changeOf b ((thenAll a b)[k]'hk2).name ((thenAll a b)[k]'hk2).plus.arity).minus) (keepOf (changeOf b ((thenAll a b)[k]'hk2).name ((thenAll a b)[k]'hk2).plus.arity).plus (changeOf a ((thenAll a b)[k]'hk2).name ((thenAll a b)[k]'hk2).plus.arity).minus) hpv.1 ⟨by have := hpl.1; exact Nat.le_trans this (by decide), hps.1⟩ 117) rfl AllV.rf rfl rfl rfl rfl rfl) ?_
  refine AL_p (x_move rfl rfl) ?_
  refine AL_p (x_extract rfl rfl rfl) ?_
  refine AL_b (x_extract rfl rfl rfl) (fun b104 h104 => ?_)
  refine AL_p (x_alloc (z := .agg #[.int .i64 0, .slice none 0 0]) 118 rfl (by kernel_rfl) rfl rfl rfl rfl) ?_
  refine AL_p (x_store (n := 2) rfl rfl rfl rfl (by kernel_rfl) rfl rfl rfl) ?_
  refine AL_p (x_assign rfl rfl) ?_
  refine AL_nild (by kernel_rfl) ?_
  refine AW_seq ?_
  refine AW_draw rfl ?_
  refine AL_p (x_field (off := 1) (o' := 1) rfl rfl rfl (by kernel_rfl) rfl) ?_
  refine AL_p (x_field (off := 0) (o' := 1) rfl rfl rfl (by kernel_rfl) rfl) ?_
  refine AL_p (x_load1 rfl rfl rfl (by kernel_rfl) rfl) ?_
  refine AL_p (x_field (off := 3) (o' := 3) rfl rfl rfl (by kernel_rfl) rfl) ?_
  refine AL_p (x_loadN (n := 2) rfl rfl rfl (by kernel_rfl) rfl rfl) ?_
  refine AL_p (x_field (off := 1) (o' := 1) rfl rfl rfl (by kernel_rfl) rfl) ?_
  refine AL_p (x_loadN (n := 2) rfl rfl rfl (by kernel_rfl) rfl rfl) ?_
  refine AL_p (x_call1 rfl rfl rfl (minusI_c (changeOf a ((thenAll a b)[k]'hk2).name ((thenAll a b)[k]'hk2).plus.arity).minus (changeOf b ((thenAll a b)[k]'hk2).name ((thenAll a b)[k]'hk2).plus.arity).plus sx.2.2 sy.2.1.1 cy.2.2.1 cx.2.2.2.vals 119) rfl rfl rfl rfl) ?_
  refine AL_p (x_fldv (off := 1) rfl rfl (by kernel_rfl) rfl) ?_
  refine AL_p (x_field (off := 3) (o' := 3) rfl rfl rfl (by kernel_rfl) rfl) ?_
  refine AL_p (x_loadN (n := 2) rfl rfl rfl (by kernel_rfl) rfl rfl) ?_
  refine AL_p (x_field (off := 1) (o' := 1) rfl rfl rfl (by kernel_rfl) rfl) ?_
  refine AL_p (x_loadN (n := 2) rfl rfl rfl (by kernel_rfl) rfl rfl) ?_
  refine AL_p (x_call1 rfl rfl rfl (minusI_c (changeOf b ((thenAll a b)[k]'hk2).name ((thenAll a b)[k]'hk2).plus.arity).minus (changeOf a ((thenAll a b)[k]'hk2).name ((thenAll a b)[k]'hk2).plus.arity).plus sy.2.2 sx.2.1.1 cx.2.2.1 cy.2.2.2.vals 120) rfl rfl rfl rfl) ?_
  refine AL_p (x_fldv (off := 1) rfl rfl (by kernel_rfl) rfl) ?_
  refine AL_p (y_bslice (E := 61) (e := (sliceE rowE)) [.tmp 114, .tmp 120] ([(keepOf (changeOf a ((thenAll a b)[k]'hk2).name ((thenAll a b)[k]'hk2).plus.arity).minus (changeOf b ((thenAll a b)[k]'hk2).name ((thenAll a b)[k]'hk2).plus.arity).plus), (keepOf (changeOf b ((thenAll a b)[k]'hk2).name ((thenAll a b)[k]'hk2).plus.arity).minus (changeOf a ((thenAll a b)[k]'hk2).name ((thenAll a b)[k]'hk2).plus.arity).plus)]) 121 rfl rfl rfl rfl rfl rfl rfl rfl FitL.rf rfl rfl rfl rfl rfl rfl (by kernel_rfl)) ?_
  refine AL_p (x_call (ks := []) (L := [(121, some _)]) (L' := [(121, none), (122, some _)]) rfl rfl rfl (AT.lend1 (concatRowD_t (xss := [(keepOf (changeOf a ((thenAll a b)[k]'hk2).name ((thenAll a b)[k]'hk2).plus.arity).minus (changeOf b ((thenAll a b)[k]'hk2).name ((thenAll a b)[k]'hk2).plus.arity).plus), (keepOf (changeOf b ((thenAll a b)[k]'hk2).name ((thenAll a b)[k]'hk2).plus.arity).minus (changeOf a ((thenAll a b)[k]'hk2).name ((thenAll a b)[k]'hk2).plus.arity).plus)]) (by have := hpl; simp only [plusOf, lessOf, List.length_append] at this; simp only [List.flatten_cons, List.flatten_nil, List.length_append, List.length_nil]; omega) (by simp)) 121 122 rfl (fun _ => rfl)) rfl AllV.rf (caught_of rfl) rfl rfl rfl ⟨rfl, trivial⟩ rfl) ?_
  refine AL_p (x_callR rfl rfl rfl (relOfP_c (changeOf a ((thenAll a b)[k]'hk2).name ((thenAll a b)[k]'hk2).plus.arity).plus.arity (keepOf (changeOf a ((thenAll a b)[k]'hk2).name ((thenAll a b)[k]'hk2).plus.arity).minus (changeOf b ((thenAll a b)[k]'hk2).name ((thenAll a b)[k]'hk2).plus.arity).plus) (keepOf (changeOf b ((thenAll a b)[k]'hk2).name ((thenAll a b)[k]'hk2).plus.arity).minus (changeOf a ((thenAll a b)[k]'hk2).name ((thenAll a b)[k]'hk2).plus.arity).plus) hpv.2 ⟨by have := hpl.2; exact Nat.le_trans this (by decide), hps.2⟩ 123) rfl AllV.rf rfl rfl rfl rfl rfl) ?_
  refine AL_p (x_move rfl rfl) ?_
  refine AL_p (x_extract rfl rfl rfl) ?_
  refine AL_b (x_extract rfl rfl rfl) (fun b125 h125 => ?_)
  refine AL_p (x_alloc (z := .agg #[.int .i64 0, .slice none 0 0]) 124 rfl (by kernel_rfl) rfl rfl rfl rfl) ?_
  refine AL_p (x_store (n := 2) rfl rfl rfl rfl (by kernel_rfl) rfl rfl rfl) ?_
  refine AL_p (x_assign rfl rfl) ?_
  refine AL_nild (by kernel_rfl) ?_
  refine AW_seq ?_
  refine AW_seq ?_
  refine AW_region ?_
  refine AL_p (x_move rfl rfl) ?_
  refine AL_p (x_not rfl rfl) ?_
  refine AL_p (x_move rfl rfl) ?_
  cases b104
  · try simp only [tdy] at h104
    have hno := then_big hk2 (.inl (by have q : 300 < ((sortRows (plusOf (changeOf a ((thenAll a b)[k]'hk2).name ((thenAll a b)[k]'hk2).plus.arity) (changeOf b ((thenAll a b)[k]'hk2).name ((thenAll a b)[k]'hk2).plus.arity))).length : Int) := relOf_false h104; omega))
    refine AL_o rfl rfl rfl rfl ?_
    refine AL_o rfl rfl rfl rfl ?_
    refine AL_p (x_pickT rfl rfl rfl) ?_
    refine AL_nil ?_
    refine AW_condT rfl ?_
    refine AW_seq ?_
    refine AW_region ?_
    refine AL_p (x_build (zs := [.slice none 0 0]) (places := [(0, 1)]) rfl (by kernel_rfl) rfl rfl rfl rfl rfl) ?_
    refine AL_p (x_store (n := 1) rfl rfl rfl rfl (by kernel_rfl) rfl rfl rfl) ?_
    refine AL_p (x_assign rfl rfl) ?_
    refine AL_nil ?_
    refine AW_adopt (T := 65) (e := changeE) 110 102 0 rfl rfl rfl rfl rfl ?_
    refine AW_ret (BQ_ret (BQ_ret ?_))
    exact ⟨rn [(9, 102), (0, 110)], ⟨⟨⟨_, rfl, VLe.rf⟩, ⟨_, rfl, by first | (refine vle_bool ?_; rw [hno]; done) | exact VLe.rf | (refine vle_bool ?_; rw [hno]; apply Eq.symm; assumption) | exact vle_bool (by rw [hno])⟩, trivial⟩, ⟨⟨_, rfl, by first | (refine ble_eq ?_; rw [hno]; done) | (refine ble_eq ?_; rw [hno]; rfl) | exact BLe.rf⟩, ⟨_, rfl, by first | (refine BLe.arr ?_; rw [hno]; done) | (refine BLe.arr ?_; rw [hno]; rfl) | exact BLe.rf⟩, trivial⟩, trivial, rfl⟩⟩
  try simp only [tdy] at h104
  refine AL_g rfl rfl (x_move rfl rfl) ?_
  refine AL_g rfl rfl (x_not rfl rfl) ?_
  refine AL_p (x_pickF rfl rfl rfl) ?_
  refine AL_nil ?_
  cases b125
  · try simp only [tdy] at h125
    have hno := then_big hk2 (.inr (by have q : 300 < ((sortRows (lessOf (changeOf a ((thenAll a b)[k]'hk2).name ((thenAll a b)[k]'hk2).plus.arity) (changeOf b ((thenAll a b)[k]'hk2).name ((thenAll a b)[k]'hk2).plus.arity))).length : Int) := relOf_false h125; omega))
    refine AW_condT rfl ?_
    refine AW_seq ?_
    refine AW_region ?_
    refine AL_p (x_build (zs := [.slice none 0 0]) (places := [(0, 1)]) rfl (by kernel_rfl) rfl rfl rfl rfl rfl) ?_
    refine AL_p (x_store (n := 1) rfl rfl rfl rfl (by kernel_rfl) rfl rfl rfl) ?_
    refine AL_p (x_assign rfl rfl) ?_
    refine AL_nil ?_
    refine AW_adopt (T := 65) (e := changeE) 110 102 0 rfl rfl rfl rfl rfl ?_
    refine AW_ret (BQ_ret (BQ_ret ?_))
    exact ⟨rn [(9, 102), (0, 110)], ⟨⟨⟨_, rfl, VLe.rf⟩, ⟨_, rfl, by first | (refine vle_bool ?_; rw [hno]; done) | exact VLe.rf | (refine vle_bool ?_; rw [hno]; apply Eq.symm; assumption) | exact vle_bool (by rw [hno])⟩, trivial⟩, ⟨⟨_, rfl, by first | (refine ble_eq ?_; rw [hno]; done) | (refine ble_eq ?_; rw [hno]; rfl) | exact BLe.rf⟩, ⟨_, rfl, by first | (refine BLe.arr ?_; rw [hno]; done) | (refine BLe.arr ?_; rw [hno]; rfl) | exact BLe.rf⟩, trivial⟩, trivial, rfl⟩⟩
  try simp only [tdy] at h125
  have hsi := sum_is (n := ((thenAll a b)[k]'hk2).name) h104 h125
  refine AW_condF rfl ?_
  refine AW_skip ?_
  refine AW_seq ?_
  refine AW_region ?_
  refine AL_p (x_field (off := 1) (o' := 1) rfl rfl rfl (by kernel_rfl) rfl) ?_
  refine AL_p (x_load1 rfl rfl rfl (by kernel_rfl) rfl) ?_
  refine AL_p (x_olen (E := 72) (n := 1) rfl rfl rfl (by kernel_rfl)) ?_
  refine AL_p (x_field (off := 1) (o' := 1) rfl rfl rfl (by kernel_rfl) rfl) ?_
  refine AL_p (x_load1 rfl rfl rfl (by kernel_rfl) rfl) ?_
  refine AL_p (x_olen (E := 72) (n := 1) rfl rfl rfl (by kernel_rfl)) ?_
  refine AL_p (x_add rfl rfl rfl (IntWalk.i64_in _ (by have h1 := rel_len (ar := (changeOf a ((thenAll a b)[k]'hk2).name ((thenAll a b)[k]'hk2).plus.arity).plus.arity) (rows := plusOf (changeOf a ((thenAll a b)[k]'hk2).name ((thenAll a b)[k]'hk2).plus.arity) (changeOf b ((thenAll a b)[k]'hk2).name ((thenAll a b)[k]'hk2).plus.arity)); have h2 := rel_len (ar := (changeOf a ((thenAll a b)[k]'hk2).name ((thenAll a b)[k]'hk2).plus.arity).plus.arity) (rows := lessOf (changeOf a ((thenAll a b)[k]'hk2).name ((thenAll a b)[k]'hk2).plus.arity) (changeOf b ((thenAll a b)[k]'hk2).name ((thenAll a b)[k]'hk2).plus.arity)); unfold plusOf at h1; unfold lessOf at h2; omega))) ?_
  refine AL_b (x_gtr rfl rfl rfl) (fun b140 h140 => ?_)
  refine AL_nil ?_
  cases b140
  · try simp only [tdy] at h140
    have hso := sums_no hk2 hsi (by dsimp only [plusOf, lessOf]; omega)
    refine AW_condF rfl ?_
    refine AW_skip ?_
    refine AW_region ?_
    refine AL_p (x_add rfl rfl rfl (IntWalk.i64_in _ (by omega))) ?_
    refine AL_p (x_move rfl rfl) ?_
    refine AL_nil ?_
    refine ⟨⟨k + 1, ⟨by omega, hT.succ hk2 hok⟩⟩, rn [], ?_, by dsimp only; omega⟩
    exact ⟨by (repeat refine ⟨⟨_, rfl, by first | exact VLe.rf | exact vle_int (by dsimp only; omega)⟩, ?_⟩); exact trivial, by (repeat refine ⟨⟨_, rfl, by first | exact BLe.rf | exact BLe.box AllC.rf | exact BLe.arr (by first | rfl | exact hso)⟩, ?_⟩); exact trivial, by repeat (first | exact trivial | refine ⟨⟨rfl, by first | (left; intro h; cases h) | (right; rfl), by first | exact (fun _ h => ⟨_, h⟩) | exact (fun _ _ => ⟨_, rfl⟩) | (intro _ h; cases h)⟩, ?_⟩), rfl⟩
  try simp only [tdy] at h140
  have hso := sums_yes hk2 hsi (by dsimp only [plusOf, lessOf]; omega)
  refine AW_condT rfl ?_
  refine AW_region ?_
  refine AL_p (x_field (off := 0) (o' := 0) rfl rfl rfl (by kernel_rfl) rfl) ?_
  refine AL_p (x_load1 rfl rfl rfl (by kernel_rfl) rfl) ?_
  refine AL_p (x_field (off := 0) (o' := 0) rfl rfl rfl (by kernel_rfl) rfl) ?_
  refine AL_p (x_load1 rfl rfl rfl (by kernel_rfl) rfl) ?_
  refine AL_p (x_loadN (n := 2) rfl rfl rfl (by kernel_rfl) rfl rfl) ?_
  refine AL_p (x_loadN (n := 2) rfl rfl rfl (by kernel_rfl) rfl rfl) ?_
  refine AL_p (x_build (zs := [.string ⟨#[]⟩, .int .i64 0, .slice none 0 0, .int .i64 0, .slice none 0 0]) (places := [(0, 1), (1, 2), (3, 2)]) rfl (by kernel_rfl) rfl rfl rfl rfl rfl) ?_
  refine AL_p (y_bslice (E := 65) (e := changeE) [.tmp 147] ([(⟨((thenAll a b)[k]'hk2).name, (relOf (changeOf a ((thenAll a b)[k]'hk2).name ((thenAll a b)[k]'hk2).plus.arity).plus.arity (plusOf (changeOf a ((thenAll a b)[k]'hk2).name ((thenAll a b)[k]'hk2).plus.arity) (changeOf b ((thenAll a b)[k]'hk2).name ((thenAll a b)[k]'hk2).plus.arity))).1, (relOf (changeOf a ((thenAll a b)[k]'hk2).name ((thenAll a b)[k]'hk2).plus.arity).plus.arity (lessOf (changeOf a ((thenAll a b)[k]'hk2).name ((thenAll a b)[k]'hk2).plus.arity) (changeOf b ((thenAll a b)[k]'hk2).name ((thenAll a b)[k]'hk2).plus.arity))).1⟩ : Changet)]) 125 rfl rfl rfl rfl rfl rfl rfl rfl FitL.rf rfl rfl rfl rfl rfl rfl (by kernel_rfl)) ?_
  refine AL_p (y_append 126 rfl rfl rfl rfl rfl rfl rfl rfl (by kernel_rfl) (by have h1 := filtTo_len (p := someRows) (rows := thenSums a b) (k := k); rw [thenSums_len] at h1; simp only [List.length_cons, List.length_nil]; omega)) ?_
  refine AL_p (x_field (off := 0) (o' := 0) rfl rfl rfl (by kernel_rfl) rfl) ?_
  refine AL_p (x_store (n := 1) rfl rfl rfl rfl (by kernel_rfl) rfl rfl rfl) ?_
  refine AL_nil ?_
  refine AW_region ?_
  refine AL_p (x_add rfl rfl rfl (IntWalk.i64_in _ (by omega))) ?_
  refine AL_p (x_move rfl rfl) ?_
  refine AL_nil ?_
  refine ⟨⟨k + 1, ⟨by omega, hT.succ hk2 hok⟩⟩, rn [(106, 126)], ?_, by dsimp only; omega⟩
  exact ⟨by (repeat refine ⟨⟨_, rfl, by first | exact VLe.rf | exact vle_int (by dsimp only; omega)⟩, ?_⟩); exact trivial, by (repeat refine ⟨⟨_, rfl, by first | exact BLe.rf | exact BLe.box AllC.rf | exact BLe.arr (by first | rfl | exact hso)⟩, ?_⟩); exact trivial, by repeat (first | exact trivial | refine ⟨⟨rfl, by first | (left; intro h; cases h) | (right; rfl), by first | exact (fun _ h => ⟨_, h⟩) | exact (fun _ _ => ⟨_, rfl⟩) | (intro _ h; cases h)⟩, ?_⟩), rfl⟩
theorem deltaThenI_c (a b : Deltat) (ha : smallDelta a) (hb : smallDelta b) (k : Nat) : AC Tryz.prog 19 [.agg (deltaC a), .agg (deltaC b)] [] (.tup [.agg [.own k], .one (.c (.bool (deltaThen a b).2))]) [(k, some (.arr 65 changeE (deltaThen a b).1.changes true))] := AC.at (deltaThenI_c0 a b ha hb) k
end Go.Proofs.YtibhoanjglfaoaaGreat

/- DeltaApply (printed by walk.py) -/
namespace Go.Proofs.YtibhoanjglfaoaaGreat
open Go.RowKit
set_option linter.unusedVariables false
set_option linter.unusedSimpArgs false
set_option maxRecDepth 100000

set_option maxHeartbeats 4000000 in
theorem cloneNF_c0 (r : List Namedt) (hl : r.length ≤ 1048576) : AC Tryz.prog 89 [.one (.sl namedE r)] [] (.one (.own 0)) [(0, some (.arr 84 namedE r false))] := by
  refine AC_body1 Tryz.func89 rfl rfl Tryz.ntmps89 rfl Tryz.results89 ?_
  refine AW_split 0 rfl (fun hx => ?_) ?_
  · subst hx
    refine AW_seq ?_
    refine AW_region ?_
    refine AL_p (x_assign rfl rfl) ?_
    refine AL_nil ?_
    refine AW_seq ?_
    refine AW_seq ?_
    refine AW_region ?_
    refine AL_p (x_move rfl rfl) ?_
    refine AL_p (x_nilnil rfl rfl rfl (E := 84) (n := 3) (by kernel_rfl)) ?_
    refine AL_nil ?_
    refine AW_condT rfl ?_
    refine AW_seq ?_
    refine AW_region ?_
    refine AL_p (x_assign rfl rfl) ?_
    refine AL_nil ?_
    refine AW_adoptT (T := 84) (e := namedE) 100 2 rfl rfl rfl ?_
    refine AW_shallow 100 rfl ?_
    refine AW_ret ?_
    exact ⟨rn [(0, 100)], ⟨⟨⟨_, rfl, VLe.rf⟩, trivial⟩, ⟨⟨_, rfl, BLe.rf⟩, trivial⟩, trivial, rfl⟩⟩
  · refine AW_seq ?_
    refine AW_region ?_
    refine AL_p (x_assign rfl rfl) ?_
    refine AL_nil ?_
    refine AW_seq ?_
    refine AW_seq ?_
    refine AW_region ?_
    refine AL_p (x_move rfl rfl) ?_
    refine AL_p (x_snnil rfl rfl rfl (E := 84) (n := 3) (by kernel_rfl)) ?_
    refine AL_nil ?_
    refine AW_condF rfl ?_
    refine AW_skip ?_
    refine AW_seq ?_
    refine AW_region ?_
    refine AL_p (y_bslice0 (E := 84) (e := namedE) 101 rfl rfl rfl (by kernel_rfl)) ?_
    refine AL_p (x_move_sn rfl rfl) ?_
    refine AL_p (y_append_sl 102 false (.inl rfl) rfl rfl rfl rfl rfl rfl (by kernel_rfl) (by simp; omega)) ?_
    refine AL_p (x_assign rfl rfl) ?_
    refine AL_nil ?_
    refine AW_shallow 102 rfl ?_
    refine AW_ret ?_
    exact ⟨rn [(0, 102)], ⟨⟨⟨_, rfl, VLe.rf⟩, trivial⟩, ⟨⟨_, rfl, BLe.rf⟩, trivial⟩, trivial, rfl⟩⟩
theorem cloneNF_c (r : List Namedt) (hl : r.length ≤ 1048576) (k : Nat) : AC Tryz.prog 89 [.one (.sl namedE r)] [] (.one (.own k)) [(k, some (.arr 84 namedE r false))] := AC.at (cloneNF_c0 r hl) k

set_option maxHeartbeats 4000000 in
theorem geN_c (x : Namedt) (nm : ByteArray) : AC Tryz.prog 91 [.agg (namedC x), .one (.ptr 200 0)] [(200, some (.box [.c (.string nm)]))] (.one (.c (.bool (nameGe nm x)))) [(200, some (.box [.c (.string nm)]))] := by
  refine AC_body1 Tryz.func91 rfl rfl Tryz.ntmps91 rfl Tryz.results91 ?_
  refine AW_seq ?_
  refine AW_region ?_
  refine AL_p (x_box 100 rfl rfl rfl rfl rfl rfl rfl) ?_
  refine AL_p (x_assign rfl rfl) ?_
  refine AL_nil ?_
  refine AW_seq ?_
  refine AW_region ?_
  refine AL_p (x_field (off := 0) (o' := 0) rfl rfl rfl (by kernel_rfl) rfl) ?_
  refine AL_p (x_load1 rfl rfl rfl (by kernel_rfl) rfl) ?_
  refine AL_p (x_load1 rfl rfl rfl (by kernel_rfl) rfl) ?_
  refine AL_b (x_sgeq rfl rfl rfl) (fun b7 h7 => ?_)
  refine AL_p (x_assign rfl rfl) ?_
  refine AL_nil ?_
  refine AW_ret ?_
  cases b7
  rotate_left
  · try simp only [tdy] at h7
    exact ⟨rn [], ⟨⟨⟨_, rfl, vle_bool (by unfold nameGe; rw [h7]; rfl)⟩, trivial⟩, ⟨⟨_, rfl, BLe.rf⟩, trivial⟩, by repeat (first | exact trivial | refine ⟨⟨rfl, by first | (left; intro h; cases h) | (right; rfl), by first | exact (fun _ h => ⟨_, h⟩) | exact (fun _ _ => ⟨_, rfl⟩) | (intro _ h; cases h)⟩, ?_⟩), rfl⟩⟩
  try simp only [tdy] at h7
  exact ⟨rn [], ⟨⟨⟨_, rfl, vle_bool (by unfold nameGe; rw [h7]; rfl)⟩, trivial⟩, ⟨⟨_, rfl, BLe.rf⟩, trivial⟩, by repeat (first | exact trivial | refine ⟨⟨rfl, by first | (left; intro h; cases h) | (right; rfl), by first | exact (fun _ h => ⟨_, h⟩) | exact (fun _ _ => ⟨_, rfl⟩) | (intro _ h; cases h)⟩, ?_⟩), rfl⟩⟩

set_option maxHeartbeats 4000000 in
theorem idxNF_c (rels : List Namedt) (nm : ByteArray) (hl : rels.length ≤ 1048576) : AC Tryz.prog 90 [.one (.own 300), .one (.clo 91 [200])] [(300, some (.arr 84 namedE rels false)), (200, some (.box [.c (.string nm)]))] (.one (.c (.int .i64 (placeN rels nm)))) [(300, some (.arr 84 namedE rels false)), (200, some (.box [.c (.string nm)]))] := by
  refine AC_body1 Tryz.func90 rfl rfl Tryz.ntmps90 rfl Tryz.results90 ?_
  refine AW_seq ?_
  refine AW_region ?_
  refine AL_p (x_assign rfl rfl) ?_
  refine AL_nil ?_
  refine AW_seq ?_
  refine AW_seq ?_
  refine AW_region ?_
  refine AL_p (x_move rfl rfl) ?_
  refine AL_p (x_olen (E := 84) (n := 3) rfl rfl rfl (by kernel_rfl)) ?_
  refine AL_p (x_move rfl rfl) ?_
  refine AL_nil ?_
  refine AW_block ?_
  refine AW_loop2 (ι := {q : Nat // q ≤ rels.length ∧ NoneTo (nameGe nm) rels q}) (fun p => [(8, .one (.c (.int .i64 ((p.1) : Int))))]) (fun p => []) [0, 1, 7] [200, 300] (fun p => rels.length - (p.1)) ⟨0, ⟨by omega, .zero⟩⟩ (rn []) ?_ ?_
  exact ⟨by (repeat refine ⟨⟨_, rfl, by first | exact VLe.rf | exact vle_int (by dsimp only; omega)⟩, ?_⟩); exact trivial, by (repeat refine ⟨⟨_, rfl, by first | exact BLe.rf | exact BLe.box AllC.rf | exact BLe.arr (by exact rfl)⟩, ?_⟩); exact trivial, by repeat (first | exact trivial | refine ⟨⟨rfl, by first | (left; intro h; cases h) | (right; rfl), by first | exact (fun _ h => ⟨_, h⟩) | exact (fun _ _ => ⟨_, rfl⟩) | (intro _ h; cases h)⟩, ?_⟩), rfl⟩
  rintro ⟨k, hinv⟩
  dsimp only
  obtain ⟨hk, hn⟩ := hinv
  have hk : k ≤ rels.length := hk
  refine AW_seq ?_
  refine AW_region ?_
  refine AL_b (x_lss rfl rfl rfl) (fun b9 h9 => ?_)
  refine AL_nil ?_
  refine AW_seq ?_
  cases b9
  · try simp only [tdy] at h9
    obtain rfl : k = rels.length := by omega
    have hno : placeN rels nm = -1 := hn.none
    refine AW_condF rfl ?_
    refine AW_exit (BQ_hit ?_)
    refine AW_seq ?_
    refine AW_region ?_
    refine AL_p (x_assign rfl rfl) ?_
    refine AL_nil ?_
    refine AW_ret ?_
    exact ⟨rn [], ⟨⟨⟨_, rfl, vle_int (by rw [hno])⟩, trivial⟩, ⟨⟨_, rfl, BLe.rf⟩, ⟨_, rfl, BLe.rf⟩, trivial⟩, by repeat (first | exact trivial | refine ⟨⟨rfl, by first | (left; intro h; cases h) | (right; rfl), by first | exact (fun _ h => ⟨_, h⟩) | exact (fun _ _ => ⟨_, rfl⟩) | (intro _ h; cases h)⟩, ?_⟩), rfl⟩⟩
  try simp only [tdy] at h9
  refine AW_condT rfl ?_
  refine AW_skip ?_
  refine AW_seq ?_
  refine AW_block ?_
  refine AW_seq ?_
  refine AW_region ?_
  refine AL_p (x_move rfl rfl) ?_
  refine AL_p (x_assign rfl rfl) ?_
  refine AL_nil ?_
  refine AW_seq ?_
  refine AW_region ?_
  refine AL_p (x_move rfl rfl) ?_
  refine AL_p (x_move rfl rfl) ?_
  refine AL_p (x_move rfl rfl) ?_
  refine AL_p (x_oindex (n := 3) rfl rfl rfl rfl (by kernel_rfl) rfl (k := k) rfl (by omega)) ?_
  refine AL_p (x_oloadN (n := 3) rfl rfl rfl (by kernel_rfl) (by omega) rfl rfl) ?_
  refine AL_bc (x_call (ks := [200]) (L := [(200, some (.box [.c (.string nm)]))]) (L' := [(200, some (.box [.c (.string nm)]))]) rfl rfl rfl (geN_c (rels[k]'(by omega)) nm) rfl AllV.rf (caught_of rfl) rfl rfl rfl (by repeat (first | exact trivial | refine ⟨rfl, ?_⟩)) rfl) (fun b16 h16 => ?_)
  refine AL_nil ?_
  cases b16
  · try simp only [tdy] at h16
    refine AW_condF rfl ?_
    refine AW_skip ?_
    refine AW_region ?_
    refine AL_p (x_add rfl rfl rfl (IntWalk.i64_in _ (by omega))) ?_
    refine AL_p (x_move rfl rfl) ?_
    refine AL_nil ?_
    refine ⟨⟨k + 1, ⟨by omega, hn.succ (by omega) h16⟩⟩, rn [], ?_, by dsimp only; omega⟩
    exact ⟨by (repeat refine ⟨⟨_, rfl, by first | exact VLe.rf | exact vle_int (by dsimp only; omega)⟩, ?_⟩); exact trivial, by (repeat refine ⟨⟨_, rfl, by first | exact BLe.rf | exact BLe.box AllC.rf | exact BLe.arr (by exact rfl)⟩, ?_⟩); exact trivial, by repeat (first | exact trivial | refine ⟨⟨rfl, by first | (left; intro h; cases h) | (right; rfl), by first | exact (fun _ h => ⟨_, h⟩) | exact (fun _ _ => ⟨_, rfl⟩) | (intro _ h; cases h)⟩, ?_⟩), rfl⟩
  try simp only [tdy] at h16
  have hno : placeN rels nm = (k : Int) := firstIdx_at (by omega) (fun j hj hjk => hn j hj hjk) h16
  refine AW_condT rfl ?_
  refine AW_seq ?_
  refine AW_region ?_
  refine AL_p (x_move rfl rfl) ?_
  refine AL_p (x_assign rfl rfl) ?_
  refine AL_nil ?_
  refine AW_ret (BQ_ret (BQ_ret ?_))
  exact ⟨rn [], ⟨⟨⟨_, rfl, vle_int (by rw [hno])⟩, trivial⟩, ⟨⟨_, rfl, BLe.rf⟩, ⟨_, rfl, BLe.rf⟩, trivial⟩, by repeat (first | exact trivial | refine ⟨⟨rfl, by first | (left; intro h; cases h) | (right; rfl), by first | exact (fun _ h => ⟨_, h⟩) | exact (fun _ _ => ⟨_, rfl⟩) | (intro _ h; cases h)⟩, ?_⟩), rfl⟩⟩

set_option maxHeartbeats 4000000 in
theorem withF_c (rels : List Namedt) (nm : ByteArray) (r : Relt) (hs : rels.length ≤ 100000) : AC Tryz.prog 44 [.agg [.sl namedE rels], .one (.c (.string nm)), .agg (relC r)] [] (.agg [.sl namedE (withRel rels (⟨nm, r⟩ : Namedt))]) [] := by
  obtain ⟨p1, p2, p3, p4, p5⟩ := placeN_is rels nm
  refine AC_bodyC (n := 1) (k := 9) (T := [(6, .one (.ptr 9 0))]) (Lf := ((9, some (.box [.sl namedE (withRel rels (⟨nm, r⟩ : Namedt))])) :: [])) Tryz.func44 rfl rfl Tryz.ntmps44 rfl Tryz.results44 rfl rfl (by kernel_rfl) rfl rfl ⟨trivial, (by repeat (first | exact trivial | refine ⟨⟨_, rfl, BLe.rf⟩, ?_⟩)), (by repeat (first | exact trivial | refine ⟨⟨rfl, by first | (left; intro h; cases h) | (right; rfl), by first | exact (fun _ h => ⟨_, h⟩) | exact (fun _ _ => ⟨_, rfl⟩) | (intro _ h; cases h)⟩, ?_⟩)), rfl⟩ ?_
  refine AW_seq ?_
  refine AW_region ?_
  refine AL_p (x_box 100 rfl rfl rfl rfl rfl rfl rfl) ?_
  refine AL_p (x_box 200 rfl rfl rfl rfl rfl rfl rfl) ?_
  refine AL_p (x_box 101 rfl rfl rfl rfl rfl rfl rfl) ?_
  refine AL_p (x_alloc (z := .agg #[.slice none 0 0]) 102 rfl (by kernel_rfl) rfl rfl rfl rfl) ?_
  refine AL_nil ?_
  refine AW_seq ?_
  refine AW_region ?_
  refine AL_p (x_field (off := 0) (o' := 0) rfl rfl rfl (by kernel_rfl) rfl) ?_
  refine AL_p (x_load1 rfl rfl rfl (by kernel_rfl) rfl) ?_
  refine AL_p (x_call1 rfl rfl rfl (cloneNF_c rels (by omega) 300) rfl rfl rfl rfl) ?_
  refine AL_p (x_build (zs := [.slice none 0 0]) (places := [(0, 1)]) rfl (by kernel_rfl) rfl rfl rfl rfl rfl) ?_
  refine AL_p (x_store (n := 1) rfl rfl rfl rfl (by kernel_rfl) rfl rfl rfl) ?_
  refine AL_nil ?_
  refine AW_seq ?_
  refine AW_region ?_
  refine AL_p (x_field (off := 0) (o' := 0) rfl rfl rfl (by kernel_rfl) rfl) ?_
  refine AL_p (x_load1 rfl rfl rfl (by kernel_rfl) rfl) ?_
  refine AL_p (x_makeFunc (ks := [200]) rfl rfl) ?_
  refine AL_p (x_call (ks := []) (L := [(300, some (.arr 84 namedE rels false)), (200, some (.box [.c (.string nm)]))]) (L' := [(300, some (.arr 84 namedE rels false)), (200, some (.box [.c (.string nm)]))]) rfl rfl rfl (idxNF_c rels nm (by omega)) rfl AllV.rf (caught_of rfl) rfl rfl rfl ⟨rfl, rfl, trivial⟩ rfl) ?_
  refine AL_p (x_assign rfl rfl) ?_
  refine AL_nil ?_
  refine AW_seq ?_
  refine AW_seq ?_
  refine AW_region ?_
  refine AL_p (x_move rfl rfl) ?_
  refine AL_b (x_lss rfl rfl rfl) (fun b17 h17 => ?_)
  refine AL_nil ?_
  cases b17
  · try simp only [tdy] at h17
    have hpe := (p3 (by omega)).1
    refine AW_condF rfl ?_
    refine AW_skip ?_
    refine AW_seq ?_
    refine AW_seq ?_
    refine AW_slot (t := 7) (y := .one (.c (.int .i64 ((posN rels nm) : Int)))) rfl (by rw [hpe]) ?_
    refine AW_draw rfl ?_
    refine AL_p (x_move rfl rfl) ?_
    refine AL_p (x_field (off := 0) (o' := 0) rfl rfl rfl (by kernel_rfl) rfl) ?_
    refine AL_p (x_load1 rfl rfl rfl (by kernel_rfl) rfl) ?_
    refine AL_p (x_olen (E := 84) (n := 3) rfl rfl rfl (by kernel_rfl)) ?_
    refine AL_b (x_lss rfl rfl rfl) (fun b25 h25 => ?_)
    refine AL_p (x_move rfl rfl) ?_
    cases b25
    · try simp only [tdy] at h25
      have hno : withRel rels (⟨nm, r⟩ : Namedt) = rels.take (posN rels nm) ++ [(⟨nm, r⟩ : Namedt)] ++ rels.drop (posN rels nm) := dif_neg (fun h => by have := h.1; dsimp only at this; omega)
      refine AL_o rfl rfl rfl rfl ?_
      refine AL_o rfl rfl rfl rfl ?_
      refine AL_o rfl rfl rfl rfl ?_
      refine AL_o rfl rfl rfl rfl ?_
      refine AL_o rfl rfl rfl rfl ?_
      refine AL_o rfl rfl rfl rfl ?_
      refine AL_o rfl rfl rfl rfl ?_
      refine AL_o rfl rfl rfl rfl ?_
      refine AL_p (x_pickF rfl rfl rfl) ?_
      refine AL_nild (by kernel_rfl) ?_
      refine AW_condF rfl ?_
      refine AW_region ?_
      refine AL_p (x_field (off := 0) (o' := 0) rfl rfl rfl (by kernel_rfl) rfl) ?_
      refine AL_p (x_load1 rfl rfl rfl (by kernel_rfl) rfl) ?_
      refine AL_p (x_move rfl rfl) ?_
      refine AL_p (x_load1 rfl rfl rfl (by kernel_rfl) rfl) ?_
      refine AL_p (x_loadN (n := 2) rfl rfl rfl (by kernel_rfl) rfl rfl) ?_
      refine AL_p (x_build (zs := [.string ⟨#[]⟩, .int .i64 0, .slice none 0 0]) (places := [(0, 1), (1, 2)]) rfl (by kernel_rfl) rfl rfl rfl rfl rfl) ?_
      refine AL_p (y_bslice (E := 84) (e := namedE) [.tmp 47] ([(⟨nm, r⟩ : Namedt)]) 103 rfl rfl rfl rfl rfl rfl rfl rfl FitL.rf rfl rfl rfl rfl rfl rfl (by kernel_rfl)) ?_
      refine AL_p (x_call (ks := []) (L := [(300, some _), (103, some _)]) (L' := [(300, none), (103, none), (104, some _)]) rfl rfl rfl (AT.lend2 (insNamed_t rfl (i := (posN rels nm)) (zs := [(⟨nm, r⟩ : Namedt)]) (by omega) (by simp) (by simp) (by omega)) 300 103 104 rfl rfl rfl (fun _ => rfl)) rfl AllV.rf (caught_of rfl) rfl rfl rfl ⟨rfl, rfl, trivial⟩ rfl) ?_
      refine AL_p (x_field (off := 0) (o' := 0) rfl rfl rfl (by kernel_rfl) rfl) ?_
      refine AL_p (x_store (n := 1) rfl rfl rfl rfl (by kernel_rfl) rfl rfl rfl) ?_
      refine AL_nil ?_
      refine AW_seq ?_
      refine AW_region ?_
      refine AL_p (x_loadN (n := 1) rfl rfl rfl (by kernel_rfl) rfl rfl) ?_
      refine AL_p (x_store (n := 1) rfl rfl rfl rfl (by kernel_rfl) rfl rfl rfl) ?_
      refine AL_nil ?_
      refine AW_shutB 104 102 0 rfl rfl rfl rfl ?_
      refine AW_ret ?_
      exact ⟨rn [(9, 102)], ⟨⟨⟨_, rfl, VLe.rf⟩, trivial⟩, ⟨⟨_, rfl, ble_eq (by rw [hno]; rfl)⟩, trivial⟩, by repeat (first | exact trivial | refine ⟨⟨rfl, by first | (left; intro h; cases h) | (right; rfl), by first | exact (fun _ h => ⟨_, h⟩) | exact (fun _ _ => ⟨_, rfl⟩) | (intro _ h; cases h)⟩, ?_⟩), rfl⟩⟩
    try simp only [tdy] at h25
    refine AL_g rfl rfl (x_field (off := 0) (o' := 0) rfl rfl rfl (by kernel_rfl) rfl) ?_
    refine AL_g rfl rfl (x_load1 rfl rfl rfl (by kernel_rfl) rfl) ?_
    refine AL_g rfl rfl (x_move rfl rfl) ?_
    refine AL_g rfl rfl (x_oindex (n := 3) rfl rfl rfl rfl (by kernel_rfl) rfl (k := (posN rels nm)) rfl (by omega)) ?_
    refine AL_g rfl rfl (x_ofield (off := 0) (o' := 0) rfl rfl rfl (by kernel_rfl) rfl) ?_
    refine AL_g rfl rfl (x_oload1 rfl rfl rfl (by kernel_rfl) (by omega) rfl) ?_
    refine AL_g rfl rfl (x_load1 rfl rfl rfl (by kernel_rfl) rfl) ?_
    refine AL_gb rfl rfl (x_seql rfl rfl rfl) (fun b34 h34 => ?_)
    refine AL_p (x_pickT rfl rfl rfl) ?_
    refine AL_nild (by kernel_rfl) ?_
    cases b34
    rotate_left
    · try simp only [tdy] at h34
      have hnm := name_eq.1 h34
      have hno : withRel rels (⟨nm, r⟩ : Namedt) = rels.set (posN rels nm) (⟨nm, r⟩ : Namedt) := dif_pos ⟨by dsimp only; omega, by simp only [List.getD]; rw [List.getElem?_eq_getElem (by omega)]; exact h34⟩
      refine AW_condT rfl ?_
      refine AW_region ?_
      refine AL_p (x_field (off := 0) (o' := 0) rfl rfl rfl (by kernel_rfl) rfl) ?_
      refine AL_p (x_load1 rfl rfl rfl (by kernel_rfl) rfl) ?_
      refine AL_p (x_move rfl rfl) ?_
      refine AL_p (x_loadN (n := 2) rfl rfl rfl (by kernel_rfl) rfl rfl) ?_
      refine AL_p (x_oindex (n := 3) rfl rfl rfl rfl (by kernel_rfl) rfl (k := (posN rels nm)) rfl (by omega)) ?_
      refine AL_p (x_ofield (off := 1) (o' := 1) rfl rfl rfl (by kernel_rfl) rfl) ?_
      refine AL_p (x_ofstore (⟨nm, r⟩ : Namedt) (A := [.c (.string (rels[(posN rels nm)]'(by omega)).name)]) (B := [.c (.int .i64 (rels[(posN rels nm)]'(by omega)).rel.arity), .sl rowE (rels[(posN rels nm)]'(by omega)).rel.rows]) (C := []) rfl rfl rfl rfl (by kernel_rfl) rfl rfl rfl FitL.rf rfl rfl (by omega) rfl rfl rfl (by rw [hnm]; rfl)) ?_
      refine AL_nil ?_
      refine AW_seq ?_
      refine AW_region ?_
      refine AL_p (x_loadN (n := 1) rfl rfl rfl (by kernel_rfl) rfl rfl) ?_
      refine AL_p (x_store (n := 1) rfl rfl rfl rfl (by kernel_rfl) rfl rfl rfl) ?_
      refine AL_nil ?_
      refine AW_shutB 300 102 0 rfl rfl rfl rfl ?_
      refine AW_ret ?_
      exact ⟨rn [(9, 102)], ⟨⟨⟨_, rfl, VLe.rf⟩, trivial⟩, ⟨⟨_, rfl, ble_eq (by rw [hno]; rfl)⟩, trivial⟩, by repeat (first | exact trivial | refine ⟨⟨rfl, by first | (left; intro h; cases h) | (right; rfl), by first | exact (fun _ h => ⟨_, h⟩) | exact (fun _ _ => ⟨_, rfl⟩) | (intro _ h; cases h)⟩, ?_⟩), rfl⟩⟩
    try simp only [tdy] at h34
    have hno : withRel rels (⟨nm, r⟩ : Namedt) = rels.take (posN rels nm) ++ [(⟨nm, r⟩ : Namedt)] ++ rels.drop (posN rels nm) := dif_neg (fun h => by have h2 := h.2; simp only [List.getD] at h2; rw [List.getElem?_eq_getElem (by omega)] at h2; exact absurd (h34.symm.trans h2) (by decide))
    refine AW_condF rfl ?_
    refine AW_region ?_
    refine AL_p (x_field (off := 0) (o' := 0) rfl rfl rfl (by kernel_rfl) rfl) ?_
    refine AL_p (x_load1 rfl rfl rfl (by kernel_rfl) rfl) ?_
    refine AL_p (x_move rfl rfl) ?_
    refine AL_p (x_load1 rfl rfl rfl (by kernel_rfl) rfl) ?_
    refine AL_p (x_loadN (n := 2) rfl rfl rfl (by kernel_rfl) rfl rfl) ?_
    refine AL_p (x_build (zs := [.string ⟨#[]⟩, .int .i64 0, .slice none 0 0]) (places := [(0, 1), (1, 2)]) rfl (by kernel_rfl) rfl rfl rfl rfl rfl) ?_
    refine AL_p (y_bslice (E := 84) (e := namedE) [.tmp 47] ([(⟨nm, r⟩ : Namedt)]) 103 rfl rfl rfl rfl rfl rfl rfl rfl FitL.rf rfl rfl rfl rfl rfl rfl (by kernel_rfl)) ?_
    refine AL_p (x_call (ks := []) (L := [(300, some _), (103, some _)]) (L' := [(300, none), (103, none), (104, some _)]) rfl rfl rfl (AT.lend2 (insNamed_t rfl (i := (posN rels nm)) (zs := [(⟨nm, r⟩ : Namedt)]) (by omega) (by simp) (by simp) (by omega)) 300 103 104 rfl rfl rfl (fun _ => rfl)) rfl AllV.rf (caught_of rfl) rfl rfl rfl ⟨rfl, rfl, trivial⟩ rfl) ?_
    refine AL_p (x_field (off := 0) (o' := 0) rfl rfl rfl (by kernel_rfl) rfl) ?_
    refine AL_p (x_store (n := 1) rfl rfl rfl rfl (by kernel_rfl) rfl rfl rfl) ?_
    refine AL_nil ?_
    refine AW_seq ?_
    refine AW_region ?_
    refine AL_p (x_loadN (n := 1) rfl rfl rfl (by kernel_rfl) rfl rfl) ?_
    refine AL_p (x_store (n := 1) rfl rfl rfl rfl (by kernel_rfl) rfl rfl rfl) ?_
    refine AL_nil ?_
    refine AW_shutB 104 102 0 rfl rfl rfl rfl ?_
    refine AW_ret ?_
    exact ⟨rn [(9, 102)], ⟨⟨⟨_, rfl, VLe.rf⟩, trivial⟩, ⟨⟨_, rfl, ble_eq (by rw [hno]; rfl)⟩, trivial⟩, by repeat (first | exact trivial | refine ⟨⟨rfl, by first | (left; intro h; cases h) | (right; rfl), by first | exact (fun _ h => ⟨_, h⟩) | exact (fun _ _ => ⟨_, rfl⟩) | (intro _ h; cases h)⟩, ?_⟩), rfl⟩⟩
  try simp only [tdy] at h17
  have hpe := p2 (by omega)
  refine AW_condT rfl ?_
  refine AW_region ?_
  refine AL_p (x_field (off := 0) (o' := 0) rfl rfl rfl (by kernel_rfl) rfl) ?_
  refine AL_p (x_load1 rfl rfl rfl (by kernel_rfl) rfl) ?_
  refine AL_p (x_olen (E := 84) (n := 3) rfl rfl rfl (by kernel_rfl)) ?_
  refine AL_p (x_assign rfl rfl) ?_
  refine AL_nil ?_
  refine AW_seq ?_
  refine AW_seq ?_
  refine AW_slot (t := 7) (y := .one (.c (.int .i64 ((posN rels nm) : Int)))) rfl (by rw [hpe]) ?_
  refine AW_draw rfl ?_
  refine AL_p (x_move rfl rfl) ?_
  refine AL_p (x_field (off := 0) (o' := 0) rfl rfl rfl (by kernel_rfl) rfl) ?_
  refine AL_p (x_load1 rfl rfl rfl (by kernel_rfl) rfl) ?_
  refine AL_p (x_olen (E := 84) (n := 3) rfl rfl rfl (by kernel_rfl)) ?_
  refine AL_b (x_lss rfl rfl rfl) (fun b25 h25 => ?_)
  refine AL_p (x_move rfl rfl) ?_
  cases b25
  · try simp only [tdy] at h25
    have hno : withRel rels (⟨nm, r⟩ : Namedt) = rels.take (posN rels nm) ++ [(⟨nm, r⟩ : Namedt)] ++ rels.drop (posN rels nm) := dif_neg (fun h => by have := h.1; dsimp only at this; omega)
    refine AL_o rfl rfl rfl rfl ?_
    refine AL_o rfl rfl rfl rfl ?_
    refine AL_o rfl rfl rfl rfl ?_
    refine AL_o rfl rfl rfl rfl ?_
    refine AL_o rfl rfl rfl rfl ?_
    refine AL_o rfl rfl rfl rfl ?_
    refine AL_o rfl rfl rfl rfl ?_
    refine AL_o rfl rfl rfl rfl ?_
    refine AL_p (x_pickF rfl rfl rfl) ?_
    refine AL_nild (by kernel_rfl) ?_
    refine AW_condF rfl ?_
    refine AW_region ?_
    refine AL_p (x_field (off := 0) (o' := 0) rfl rfl rfl (by kernel_rfl) rfl) ?_
    refine AL_p (x_load1 rfl rfl rfl (by kernel_rfl) rfl) ?_
    refine AL_p (x_move rfl rfl) ?_
    refine AL_p (x_load1 rfl rfl rfl (by kernel_rfl) rfl) ?_
    refine AL_p (x_loadN (n := 2) rfl rfl rfl (by kernel_rfl) rfl rfl) ?_
    refine AL_p (x_build (zs := [.string ⟨#[]⟩, .int .i64 0, .slice none 0 0]) (places := [(0, 1), (1, 2)]) rfl (by kernel_rfl) rfl rfl rfl rfl rfl) ?_
    refine AL_p (y_bslice (E := 84) (e := namedE) [.tmp 47] ([(⟨nm, r⟩ : Namedt)]) 103 rfl rfl rfl rfl rfl rfl rfl rfl FitL.rf rfl rfl rfl rfl rfl rfl (by kernel_rfl)) ?_
    refine AL_p (x_call (ks := []) (L := [(300, some _), (103, some _)]) (L' := [(300, none), (103, none), (104, some _)]) rfl rfl rfl (AT.lend2 (insNamed_t rfl (i := (posN rels nm)) (zs := [(⟨nm, r⟩ : Namedt)]) (by omega) (by simp) (by simp) (by omega)) 300 103 104 rfl rfl rfl (fun _ => rfl)) rfl AllV.rf (caught_of rfl) rfl rfl rfl ⟨rfl, rfl, trivial⟩ rfl) ?_
    refine AL_p (x_field (off := 0) (o' := 0) rfl rfl rfl (by kernel_rfl) rfl) ?_
    refine AL_p (x_store (n := 1) rfl rfl rfl rfl (by kernel_rfl) rfl rfl rfl) ?_
    refine AL_nil ?_
    refine AW_seq ?_
    refine AW_region ?_
    refine AL_p (x_loadN (n := 1) rfl rfl rfl (by kernel_rfl) rfl rfl) ?_
    refine AL_p (x_store (n := 1) rfl rfl rfl rfl (by kernel_rfl) rfl rfl rfl) ?_
    refine AL_nil ?_
    refine AW_shutB 104 102 0 rfl rfl rfl rfl ?_
    refine AW_ret ?_
    exact ⟨rn [(9, 102)], ⟨⟨⟨_, rfl, VLe.rf⟩, trivial⟩, ⟨⟨_, rfl, ble_eq (by rw [hno]; rfl)⟩, trivial⟩, by repeat (first | exact trivial | refine ⟨⟨rfl, by first | (left; intro h; cases h) | (right; rfl), by first | exact (fun _ h => ⟨_, h⟩) | exact (fun _ _ => ⟨_, rfl⟩) | (intro _ h; cases h)⟩, ?_⟩), rfl⟩⟩
  try simp only [tdy] at h25
  refine AL_g rfl rfl (x_field (off := 0) (o' := 0) rfl rfl rfl (by kernel_rfl) rfl) ?_
  refine AL_g rfl rfl (x_load1 rfl rfl rfl (by kernel_rfl) rfl) ?_
  refine AL_g rfl rfl (x_move rfl rfl) ?_
  refine AL_g rfl rfl (x_oindex (n := 3) rfl rfl rfl rfl (by kernel_rfl) rfl (k := (posN rels nm)) rfl (by omega)) ?_
  refine AL_g rfl rfl (x_ofield (off := 0) (o' := 0) rfl rfl rfl (by kernel_rfl) rfl) ?_
  refine AL_g rfl rfl (x_oload1 rfl rfl rfl (by kernel_rfl) (by omega) rfl) ?_
  refine AL_g rfl rfl (x_load1 rfl rfl rfl (by kernel_rfl) rfl) ?_
  refine AL_gb rfl rfl (x_seql rfl rfl rfl) (fun b34 h34 => ?_)
  refine AL_p (x_pickT rfl rfl rfl) ?_
  refine AL_nild (by kernel_rfl) ?_
  cases b34
  rotate_left
  · try simp only [tdy] at h34
    have hnm := name_eq.1 h34
    have hno : withRel rels (⟨nm, r⟩ : Namedt) = rels.set (posN rels nm) (⟨nm, r⟩ : Namedt) := dif_pos ⟨by dsimp only; omega, by simp only [List.getD]; rw [List.getElem?_eq_getElem (by omega)]; exact h34⟩
    refine AW_condT rfl ?_
    refine AW_region ?_
    refine AL_p (x_field (off := 0) (o' := 0) rfl rfl rfl (by kernel_rfl) rfl) ?_
    refine AL_p (x_load1 rfl rfl rfl (by kernel_rfl) rfl) ?_
    refine AL_p (x_move rfl rfl) ?_
    refine AL_p (x_loadN (n := 2) rfl rfl rfl (by kernel_rfl) rfl rfl) ?_
    refine AL_p (x_oindex (n := 3) rfl rfl rfl rfl (by kernel_rfl) rfl (k := (posN rels nm)) rfl (by omega)) ?_
    refine AL_p (x_ofield (off := 1) (o' := 1) rfl rfl rfl (by kernel_rfl) rfl) ?_
    refine AL_p (x_ofstore (⟨nm, r⟩ : Namedt) (A := [.c (.string (rels[(posN rels nm)]'(by omega)).name)]) (B := [.c (.int .i64 (rels[(posN rels nm)]'(by omega)).rel.arity), .sl rowE (rels[(posN rels nm)]'(by omega)).rel.rows]) (C := []) rfl rfl rfl rfl (by kernel_rfl) rfl rfl rfl FitL.rf rfl rfl (by omega) rfl rfl rfl (by rw [hnm]; rfl)) ?_
    refine AL_nil ?_
    refine AW_seq ?_
    refine AW_region ?_
    refine AL_p (x_loadN (n := 1) rfl rfl rfl (by kernel_rfl) rfl rfl) ?_
    refine AL_p (x_store (n := 1) rfl rfl rfl rfl (by kernel_rfl) rfl rfl rfl) ?_
    refine AL_nil ?_
    refine AW_shutB 300 102 0 rfl rfl rfl rfl ?_
    refine AW_ret ?_
    exact ⟨rn [(9, 102)], ⟨⟨⟨_, rfl, VLe.rf⟩, trivial⟩, ⟨⟨_, rfl, ble_eq (by rw [hno]; rfl)⟩, trivial⟩, by repeat (first | exact trivial | refine ⟨⟨rfl, by first | (left; intro h; cases h) | (right; rfl), by first | exact (fun _ h => ⟨_, h⟩) | exact (fun _ _ => ⟨_, rfl⟩) | (intro _ h; cases h)⟩, ?_⟩), rfl⟩⟩
  try simp only [tdy] at h34
  have hno : withRel rels (⟨nm, r⟩ : Namedt) = rels.take (posN rels nm) ++ [(⟨nm, r⟩ : Namedt)] ++ rels.drop (posN rels nm) := dif_neg (fun h => by have h2 := h.2; simp only [List.getD] at h2; rw [List.getElem?_eq_getElem (by omega)] at h2; exact absurd (h34.symm.trans h2) (by decide))
  refine AW_condF rfl ?_
  refine AW_region ?_
  refine AL_p (x_field (off := 0) (o' := 0) rfl rfl rfl (by kernel_rfl) rfl) ?_
  refine AL_p (x_load1 rfl rfl rfl (by kernel_rfl) rfl) ?_
  refine AL_p (x_move rfl rfl) ?_
  refine AL_p (x_load1 rfl rfl rfl (by kernel_rfl) rfl) ?_
  refine AL_p (x_loadN (n := 2) rfl rfl rfl (by kernel_rfl) rfl rfl) ?_
  refine AL_p (x_build (zs := [.string ⟨#[]⟩, .int .i64 0, .slice none 0 0]) (places := [(0, 1), (1, 2)]) rfl (by kernel_rfl) rfl rfl rfl rfl rfl) ?_
  refine AL_p (y_bslice (E := 84) (e := namedE) [.tmp 47] ([(⟨nm, r⟩ : Namedt)]) 103 rfl rfl rfl rfl rfl rfl rfl rfl FitL.rf rfl rfl rfl rfl rfl rfl (by kernel_rfl)) ?_
  refine AL_p (x_call (ks := []) (L := [(300, some _), (103, some _)]) (L' := [(300, none), (103, none), (104, some _)]) rfl rfl rfl (AT.lend2 (insNamed_t rfl (i := (posN rels nm)) (zs := [(⟨nm, r⟩ : Namedt)]) (by omega) (by simp) (by simp) (by omega)) 300 103 104 rfl rfl rfl (fun _ => rfl)) rfl AllV.rf (caught_of rfl) rfl rfl rfl ⟨rfl, rfl, trivial⟩ rfl) ?_
  refine AL_p (x_field (off := 0) (o' := 0) rfl rfl rfl (by kernel_rfl) rfl) ?_
  refine AL_p (x_store (n := 1) rfl rfl rfl rfl (by kernel_rfl) rfl rfl rfl) ?_
  refine AL_nil ?_
  refine AW_seq ?_
  refine AW_region ?_
  refine AL_p (x_loadN (n := 1) rfl rfl rfl (by kernel_rfl) rfl rfl) ?_
  refine AL_p (x_store (n := 1) rfl rfl rfl rfl (by kernel_rfl) rfl rfl rfl) ?_
  refine AL_nil ?_
  refine AW_shutB 104 102 0 rfl rfl rfl rfl ?_
  refine AW_ret ?_
  exact ⟨rn [(9, 102)], ⟨⟨⟨_, rfl, VLe.rf⟩, trivial⟩, ⟨⟨_, rfl, ble_eq (by rw [hno]; rfl)⟩, trivial⟩, by repeat (first | exact trivial | refine ⟨⟨rfl, by first | (left; intro h; cases h) | (right; rfl), by first | exact (fun _ h => ⟨_, h⟩) | exact (fun _ _ => ⟨_, rfl⟩) | (intro _ h; cases h)⟩, ?_⟩), rfl⟩⟩

set_option maxHeartbeats 4000000 in
theorem copyStI_c0 (rels : List Namedt) (hs : rels.length ≤ 1048576) (hm : ∀ y ∈ rels, smallNamed y) : AC Tryz.prog 39 [.agg [.sl namedE rels]] [] (.agg [.own 0]) [(0, some (.arr 84 namedE rels true))] := by
  refine AC_bodyC (n := 1) (k := 9) (T := [(2, .one (.ptr 9 0))]) (Lf := ((9, some (.box [.own 0])) :: [(0, some (.arr 84 namedE rels true))])) Tryz.func39 rfl rfl Tryz.ntmps39 rfl Tryz.results39 rfl rfl (by kernel_rfl) rfl rfl ⟨trivial, (by repeat (first | exact trivial | refine ⟨⟨_, rfl, BLe.rf⟩, ?_⟩)), (by repeat (first | exact trivial | refine ⟨⟨rfl, by first | (left; intro h; cases h) | (right; rfl), by first | exact (fun _ h => ⟨_, h⟩) | exact (fun _ _ => ⟨_, rfl⟩) | (intro _ h; cases h)⟩, ?_⟩)), rfl⟩ ?_
  refine AW_seq ?_
  refine AW_region ?_
  refine AL_p (x_box 100 rfl rfl rfl rfl rfl rfl rfl) ?_
  refine AL_p (x_alloc (z := .agg #[.slice none 0 0]) 101 rfl (by kernel_rfl) rfl rfl rfl rfl) ?_
  refine AL_nil ?_
  refine AW_seq ?_
  refine AW_region ?_
  refine AL_p (x_build (zs := [.slice none 0 0]) (places := [(0, 1)]) rfl (by kernel_rfl) rfl rfl rfl rfl rfl) ?_
  refine AL_p (x_alloc (z := .agg #[.slice none 0 0]) 102 rfl (by kernel_rfl) rfl rfl rfl rfl) ?_
  refine AL_p (x_store (n := 1) rfl rfl rfl rfl (by kernel_rfl) rfl rfl rfl) ?_
  refine AL_nil ?_
  refine AW_seq ?_
  refine AW_seq ?_
  refine AW_region ?_
  refine AL_p (x_field (off := 0) (o' := 0) rfl rfl rfl (by kernel_rfl) rfl) ?_
  refine AL_p (x_load1 rfl rfl rfl (by kernel_rfl) rfl) ?_
  refine AL_p (x_len (E := 84) (n := 3) rfl rfl (by kernel_rfl)) ?_
  refine AL_p (x_move rfl rfl) ?_
  refine AL_nil ?_
  refine AW_block ?_
  refine AW_adopt (T := 84) (e := namedE) 103 102 0 rfl rfl rfl rfl rfl ?_
  refine AW_loop2 (ι := {q : Nat // q ≤ rels.length}) (fun p => [(10, .one (.c (.int .i64 ((p.1) : Int))))]) (fun p => [(103, some (.arr 84 namedE (rels.take (p.1)) true))]) [2, 3, 8, 9] [100, 101, 102] (fun p => rels.length - (p.1)) ⟨0, by omega⟩ (rn []) ?_ ?_
  exact ⟨by (repeat refine ⟨⟨_, rfl, by first | exact VLe.rf | exact vle_int (by dsimp only; omega)⟩, ?_⟩); exact trivial, by (repeat refine ⟨⟨_, rfl, by first | exact BLe.rf | exact BLe.box AllC.rf | exact BLe.arr (by first | exact take_none | exact take_more (by omega))⟩, ?_⟩); exact trivial, by repeat (first | exact trivial | refine ⟨⟨rfl, by first | (left; intro h; cases h) | (right; rfl), by first | exact (fun _ h => ⟨_, h⟩) | exact (fun _ _ => ⟨_, rfl⟩) | (intro _ h; cases h)⟩, ?_⟩), rfl⟩
  rintro ⟨k, hinv⟩
  dsimp only
  have hk := hinv
  refine AW_seq ?_
  refine AW_region ?_
  refine AL_b (x_lss rfl rfl rfl) (fun b11 h11 => ?_)
  refine AL_nil ?_
  refine AW_seq ?_
  cases b11
  · try simp only [tdy] at h11
    refine AW_condF rfl ?_
    refine AW_exit (BQ_hit ?_)
    refine AW_seq ?_
    refine AW_region ?_
    refine AL_p (x_loadN (n := 1) rfl rfl rfl (by kernel_rfl) rfl rfl) ?_
    refine AL_p (x_store (n := 1) rfl rfl rfl rfl (by kernel_rfl) rfl rfl rfl) ?_
    refine AL_nil ?_
    refine AW_ret ?_
    exact ⟨rn [(9, 101), (0, 103)], ⟨⟨⟨_, rfl, VLe.rf⟩, trivial⟩, ⟨⟨_, rfl, by first | exact BLe.rf | (subst_vars; exact BLe.rf)⟩, ⟨_, rfl, BLe.arr (List.take_of_length_le (by omega))⟩, trivial⟩, trivial, rfl⟩⟩
  try simp only [tdy] at h11
  refine AW_condT rfl ?_
  refine AW_skip ?_
  refine AW_seq ?_
  refine AW_block ?_
  refine AW_seq ?_
  refine AW_region ?_
  refine AL_p (x_index (E := 84) (n := 3) rfl rfl rfl (by kernel_rfl) rfl (k := k) rfl (by omega)) ?_
  refine AL_p (x_eloadW (n := 3) rfl rfl (by kernel_rfl) rfl) ?_
  refine AL_p (x_alloc (z := .agg #[.string ⟨#[]⟩, .int .i64 0, .slice none 0 0]) 104 rfl (by kernel_rfl) rfl rfl rfl rfl) ?_
  refine AL_p (x_store (n := 3) rfl rfl rfl rfl (by kernel_rfl) rfl rfl rfl) ?_
  refine AL_nil ?_
  refine AW_draw rfl ?_
  refine AL_p (x_field (off := 0) (o' := 0) rfl rfl rfl (by kernel_rfl) rfl) ?_
  refine AL_p (x_load1 rfl rfl rfl (by kernel_rfl) rfl) ?_
  refine AL_p (x_field (off := 0) (o' := 0) rfl rfl rfl (by kernel_rfl) rfl) ?_
  refine AL_p (x_load1 rfl rfl rfl (by kernel_rfl) rfl) ?_
  refine AL_p (x_field (off := 1) (o' := 1) rfl rfl rfl (by kernel_rfl) rfl) ?_
  refine AL_p (x_loadN (n := 2) rfl rfl rfl (by kernel_rfl) rfl rfl) ?_
  refine AL_p (x_call1 rfl rfl rfl (copyI_c (rels[k]'(by omega)).rel (hm _ (List.getElem_mem _)).2 105) rfl rfl rfl rfl) ?_
  refine AL_p (x_build (zs := [.string ⟨#[]⟩, .int .i64 0, .slice none 0 0]) (places := [(0, 1), (1, 2)]) rfl (by kernel_rfl) rfl rfl rfl rfl rfl) ?_
  refine AL_p (y_bslice (E := 84) (e := namedE) [.tmp 21] ([(rels[k]'(by omega))]) 106 rfl rfl rfl rfl rfl rfl rfl rfl FitL.rf rfl rfl rfl rfl rfl rfl (by kernel_rfl)) ?_
  refine AL_p (y_append 107 rfl rfl rfl rfl rfl rfl rfl rfl (by kernel_rfl) (by simp only [List.length_take, List.length_cons, List.length_nil]; omega)) ?_
  refine AL_p (x_field (off := 0) (o' := 0) rfl rfl rfl (by kernel_rfl) rfl) ?_
  refine AL_p (x_store (n := 1) rfl rfl rfl rfl (by kernel_rfl) rfl rfl rfl) ?_
  refine AL_nild (by kernel_rfl) ?_
  refine AW_region ?_
  refine AL_p (x_add rfl rfl rfl (IntWalk.i64_in _ (by omega))) ?_
  refine AL_p (x_move rfl rfl) ?_
  refine AL_nil ?_
  refine ⟨⟨k + 1, by omega⟩, rn [(103, 107)], ?_, by dsimp only; omega⟩
  exact ⟨by (repeat refine ⟨⟨_, rfl, by first | exact VLe.rf | exact vle_int (by dsimp only; omega)⟩, ?_⟩); exact trivial, by (repeat refine ⟨⟨_, rfl, by first | exact BLe.rf | exact BLe.box AllC.rf | exact BLe.arr (by first | exact take_none | exact take_more (by omega))⟩, ?_⟩); exact trivial, by repeat (first | exact trivial | refine ⟨⟨rfl, by first | (left; intro h; cases h) | (right; rfl), by first | exact (fun _ h => ⟨_, h⟩) | exact (fun _ _ => ⟨_, rfl⟩) | (intro _ h; cases h)⟩, ?_⟩), rfl⟩
theorem copyStI_c (rels : List Namedt) (hs : rels.length ≤ 1048576) (hm : ∀ y ∈ rels, smallNamed y) (k : Nat) : AC Tryz.prog 39 [.agg [.sl namedE rels]] [] (.agg [.own k]) [(k, some (.arr 84 namedE rels true))] := AC.at (copyStI_c0 rels hs hm) k

theorem relOfN_c (out : List Namedt) (c : Changet) (hv : ValsOk (nextRows (namedIn out c.name).1 c)) (hs : smallRel ⟨(namedIn out c.name).1.arity, nextRows (namedIn out c.name).1 c⟩) (k : Nat) :
    AC Tryz.prog 41 [.one (.c (.int .i64 (namedIn out c.name).1.arity)), .one (.sl rowE [((namedIn out c.name).1.rows.filter fun row => !hasRow c.minus.rows row), c.plus.rows].flatten)] [] (.tup [.agg [.c (.int .i64 (nextRel out c).1.arity), .own k], .one (.c (.bool (nextRel out c).2))]) [(k, some (.arr 72 rowE (nextRel out c).1.rows true))] := by
  rw [flat_two]; exact relOfI_c _ _ hv hs k

set_option maxHeartbeats 4000000 in
theorem deltaApplyF_c (s : Storet) (d : Deltat) (hs : smallStore s) (hd : smallDelta d) : AC Tryz.prog 12 [.agg (storeC s), .agg (deltaC d)] [] (.tup [.agg [.sl namedE (deltaApply s d).1.rels], .one (.c (.bool (deltaApply s d).2))]) [] := by
  refine AC_bodyCT (n := 1) (k := 9) (T := [(4, .one (.ptr 9 0)), (5, .one (.c (.bool (deltaApply s d).2)))]) (Lf := ((9, some (.box [.sl namedE (deltaApply s d).1.rels])) :: [])) Tryz.func12 rfl rfl Tryz.ntmps12 rfl Tryz.results12 rfl rfl rfl rfl (by kernel_rfl) rfl rfl ⟨trivial, (by repeat (first | exact trivial | refine ⟨⟨_, rfl, BLe.rf⟩, ?_⟩)), (by repeat (first | exact trivial | refine ⟨⟨rfl, by first | (left; intro h; cases h) | (right; rfl), by first | exact (fun _ h => ⟨_, h⟩) | exact (fun _ _ => ⟨_, rfl⟩) | (intro _ h; cases h)⟩, ?_⟩)), rfl⟩ ?_
  refine AW_seq ?_
  refine AW_region ?_
  refine AL_p (x_box 100 rfl rfl rfl rfl rfl rfl rfl) ?_
  refine AL_p (x_box 101 rfl rfl rfl rfl rfl rfl rfl) ?_
  refine AL_p (x_alloc (z := .agg #[.slice none 0 0]) 102 rfl (by kernel_rfl) rfl rfl rfl rfl) ?_
  refine AL_p (x_assign rfl rfl) ?_
  refine AL_nil ?_
  refine AW_seq ?_
  refine AW_seq ?_
  refine AW_region ?_
  refine AL_p (x_loadN (n := 1) rfl rfl rfl (by kernel_rfl) rfl rfl) ?_
  refine AL_p (x_loadN (n := 1) rfl rfl rfl (by kernel_rfl) rfl rfl) ?_
  refine AL_b (x_call0 rfl rfl rfl (deltaFitsI_c s d hs hd) rfl rfl) (fun b15 h15 => ?_)
  refine AL_p (x_not rfl rfl) ?_
  refine AL_nil ?_
  cases b15
  · try simp only [tdy] at h15
    have hno := deltaApply_no h15
    refine AW_condT rfl ?_
    refine AW_seq ?_
    refine AW_region ?_
    refine AL_p (x_build (zs := [.slice none 0 0]) (places := [(0, 1)]) rfl (by kernel_rfl) rfl rfl rfl rfl rfl) ?_
    refine AL_p (x_store (n := 1) rfl rfl rfl rfl (by kernel_rfl) rfl rfl rfl) ?_
    refine AL_p (x_assign rfl rfl) ?_
    refine AL_nil ?_
    refine AW_ret ?_
    exact ⟨rn [(9, 102)], ⟨⟨⟨_, rfl, VLe.rf⟩, ⟨_, rfl, by first | (refine vle_bool ?_; rw [hno]; done) | exact VLe.rf⟩, trivial⟩, ⟨⟨_, rfl, by first | (refine ble_eq ?_; rw [hno]; done) | (refine ble_eq ?_; rw [hno]; rfl) | (refine BLe.box ?_; rw [hno]; exact ⟨CLe.nil, trivial⟩)⟩, trivial⟩, trivial, rfl⟩⟩
  try simp only [tdy] at h15
  have hf := h15
  have hno0 := deltaApply_ok h15
  have hcl := fits_max h15
  refine AW_condF rfl ?_
  refine AW_skip ?_
  refine AW_seq ?_
  refine AW_region ?_
  refine AL_p (x_loadN (n := 1) rfl rfl rfl (by kernel_rfl) rfl rfl) ?_
  refine AL_p (x_call1 rfl rfl rfl (copyStI_c s.rels hs.1 hs.2 103) rfl rfl rfl rfl) ?_
  refine AL_p (x_alloc (z := .agg #[.slice none 0 0]) 400 rfl (by kernel_rfl) rfl rfl rfl rfl) ?_
  refine AL_p (x_store (n := 1) rfl rfl rfl rfl (by kernel_rfl) rfl rfl rfl) ?_
  refine AL_nil ?_
  refine AW_seq ?_
  refine AW_seq ?_
  refine AW_shutB 103 400 0 rfl rfl rfl rfl ?_
  refine AW_region ?_
  refine AL_p (x_field (off := 0) (o' := 0) rfl rfl rfl (by kernel_rfl) rfl) ?_
  refine AL_p (x_load1 rfl rfl rfl (by kernel_rfl) rfl) ?_
  refine AL_p (x_len (E := 65) (n := 5) rfl rfl (by kernel_rfl)) ?_
  refine AL_p (x_move rfl rfl) ?_
  refine AL_nil ?_
  refine AW_block ?_
  refine AW_loop2 (ι := {q : Nat × List Namedt // ((q.1) ≤ d.changes.length ∧ (q.2).length ≤ 24 + (q.1)) ∧ (∀ y ∈ (q.2), apQ y) ∧ applyTo (q.2) (d.changes.drop (q.1)) = applyTo s.rels d.changes}) (fun p => [(23, .one (.c (.int .i64 ((p.1.1) : Int))))]) (fun p => [(400, some (.box [.sl namedE (p.1.2)]))]) [4, 6, 21, 22] [100, 101, 102] (fun p => d.changes.length - (p.1.1)) ⟨⟨0, s.rels⟩, ⟨⟨by omega, by have := storeOk_max (fits_store hf); dsimp only; omega⟩, apQ_start hs (fits_store hf), rfl⟩⟩ (rn []) ?_ ?_
  exact ⟨by (repeat refine ⟨⟨_, rfl, by first | exact VLe.rf | exact vle_int (by dsimp only; omega)⟩, ?_⟩); exact trivial, by (repeat refine ⟨⟨_, rfl, by first | exact BLe.rf | exact BLe.box AllC.rf | exact BLe.arr (by exact rfl)⟩, ?_⟩); exact trivial, by repeat (first | exact trivial | refine ⟨⟨rfl, by first | (left; intro h; cases h) | (right; rfl), by first | exact (fun _ h => ⟨_, h⟩) | exact (fun _ _ => ⟨_, rfl⟩) | (intro _ h; cases h)⟩, ?_⟩), rfl⟩
  rintro ⟨⟨k, out⟩, hinv⟩
  dsimp only
  obtain ⟨⟨hk, hlen⟩, hq, hrun⟩ := hinv
  have hk : k ≤ d.changes.length := hk
  have hlen : out.length ≤ 24 + k := hlen
  have hq : ∀ y ∈ out, apQ y := hq
  have hrun : applyTo out (d.changes.drop k) = applyTo s.rels d.changes := hrun
  refine AW_seq ?_
  refine AW_region ?_
  refine AL_b (x_lss rfl rfl rfl) (fun b24 h24 => ?_)
  refine AL_nil ?_
  refine AW_seq ?_
  cases b24
  · try simp only [tdy] at h24
    have hnil : d.changes.drop k = [] := List.drop_eq_nil_of_le (by omega)
    have hno : deltaApply s d = (⟨out⟩, true) := by rw [hno0, ← hrun, hnil]; rfl
    refine AW_condF rfl ?_
    refine AW_exit (BQ_hit ?_)
    refine AW_seq ?_
    refine AW_region ?_
    refine AL_p (x_loadN (n := 1) rfl rfl rfl (by kernel_rfl) rfl rfl) ?_
    refine AL_p (x_store (n := 1) rfl rfl rfl rfl (by kernel_rfl) rfl rfl rfl) ?_
    refine AL_p (x_assign rfl rfl) ?_
    refine AL_nil ?_
    refine AW_ret ?_
    exact ⟨rn [(9, 102)], ⟨⟨⟨_, rfl, VLe.rf⟩, ⟨_, rfl, by first | (refine vle_bool ?_; rw [hno]; done) | exact VLe.rf⟩, trivial⟩, ⟨⟨_, rfl, by first | (refine ble_eq ?_; rw [hno]; done) | (refine ble_eq ?_; rw [hno]; rfl) | (refine BLe.box ?_; rw [hno]; exact ⟨CLe.nil, trivial⟩)⟩, trivial⟩, trivial, rfl⟩⟩
  try simp only [tdy] at h24
  have hk2 : k < d.changes.length := by omega
  have hdr : d.changes.drop k = (d.changes[k]'(by omega)) :: d.changes.drop (k + 1) := List.drop_eq_getElem_cons hk2
  refine AW_condT rfl ?_
  refine AW_skip ?_
  refine AW_seq ?_
  refine AW_block ?_
  refine AW_seq ?_
  refine AW_region ?_
  refine AL_p (x_index (E := 65) (n := 5) rfl rfl rfl (by kernel_rfl) rfl (k := k) rfl (by omega)) ?_
  refine AL_p (x_eloadW (n := 5) rfl rfl (by kernel_rfl) rfl) ?_
  refine AL_p (x_alloc (z := .agg #[.string ⟨#[]⟩, .int .i64 0, .slice none 0 0, .int .i64 0, .slice none 0 0]) 104 rfl (by kernel_rfl) rfl rfl rfl rfl) ?_
  refine AL_p (x_store (n := 5) rfl rfl rfl rfl (by kernel_rfl) rfl rfl rfl) ?_
  refine AL_nil ?_
  refine AW_seq ?_
  refine AW_region ?_
  refine AL_p (x_loadN (n := 1) rfl rfl rfl (by kernel_rfl) rfl rfl) ?_
  refine AL_p (x_field (off := 0) (o' := 0) rfl rfl rfl (by kernel_rfl) rfl) ?_
  refine AL_p (x_load1 rfl rfl rfl (by kernel_rfl) rfl) ?_
  refine AL_p (x_call0 rfl rfl rfl (namedI_c ⟨out⟩ (d.changes[k]'(by omega)).name (apply_store hq (by omega))) rfl rfl) ?_
  refine AL_p (x_move rfl rfl) ?_
  refine AL_p (x_extract rfl rfl rfl) ?_
  refine AL_b (x_extract rfl rfl rfl) (fun b33 h33 => ?_)
  refine AL_p (x_alloc (z := .agg #[.int .i64 0, .slice none 0 0]) 105 rfl (by kernel_rfl) rfl rfl rfl rfl) ?_
  refine AL_p (x_store (n := 2) rfl rfl rfl rfl (by kernel_rfl) rfl rfl rfl) ?_
  refine AL_p (x_assign rfl rfl) ?_
  refine AL_nil ?_
  refine AW_seq ?_
  refine AW_draw rfl ?_
  refine AL_p (x_field (off := 0) (o' := 0) rfl rfl rfl (by kernel_rfl) rfl) ?_
  refine AL_p (x_load1 rfl rfl rfl (by kernel_rfl) rfl) ?_
  refine AL_p (x_loadN (n := 2) rfl rfl rfl (by kernel_rfl) rfl rfl) ?_
  refine AL_p (x_field (off := 3) (o' := 3) rfl rfl rfl (by kernel_rfl) rfl) ?_
  refine AL_p (x_loadN (n := 2) rfl rfl rfl (by kernel_rfl) rfl rfl) ?_
  refine AL_p (x_call1 rfl rfl rfl (minusI_c (namedIn out (d.changes[k]'(by omega)).name).1 (d.changes[k]'(by omega)).minus (apply_r hq) (apply_m hf hk2).1 (apply_m hf hk2).2 (apply_rv hq) 106) rfl rfl rfl rfl) ?_
  refine AL_p (x_fldv (off := 1) rfl rfl (by kernel_rfl) rfl) ?_
  refine AL_p (x_field (off := 1) (o' := 1) rfl rfl rfl (by kernel_rfl) rfl) ?_
  refine AL_p (x_field (off := 1) (o' := 2) rfl rfl rfl (by kernel_rfl) rfl) ?_
  refine AL_p (x_load1 rfl rfl rfl (by kernel_rfl) rfl) ?_
  refine AL_p (y_bslice (E := 61) (e := (sliceE rowE)) [.tmp 41, .tmp 44] ([((namedIn out (d.changes[k]'(by omega)).name).1.rows.filter fun row => !hasRow (d.changes[k]'(by omega)).minus.rows row), (d.changes[k]'(by omega)).plus.rows]) 107 rfl rfl rfl rfl rfl rfl rfl rfl FitL.rf rfl rfl rfl rfl rfl rfl (by kernel_rfl)) ?_
  refine AL_p (x_call (ks := []) (L := [(107, some _)]) (L' := [(107, none), (108, some _)]) rfl rfl rfl (AT.lend1 (concatRow_t (xss := [((namedIn out (d.changes[k]'(by omega)).name).1.rows.filter fun row => !hasRow (d.changes[k]'(by omega)).minus.rows row), (d.changes[k]'(by omega)).plus.rows]) (apply_len hq hf hk2) (by simp)) 107 108 rfl (fun _ => rfl)) rfl AllV.rf (caught_of rfl) rfl rfl rfl ⟨rfl, trivial⟩ rfl) ?_
  refine AL_p (x_callR rfl rfl rfl (relOfN_c out (d.changes[k]'(by omega)) (apply_vals hq hf hk2) (apply_small hq hf hd hk2) 109) rfl AllV.rf rfl rfl rfl rfl rfl) ?_
  refine AL_p (x_move rfl rfl) ?_
  refine AL_p (x_extract rfl rfl rfl) ?_
  refine AL_b (x_extract rfl rfl rfl) (fun b49 h49 => ?_)
  refine AL_p (x_alloc (z := .agg #[.int .i64 0, .slice none 0 0]) 110 rfl (by kernel_rfl) rfl rfl rfl rfl) ?_
  refine AL_p (x_store (n := 2) rfl rfl rfl rfl (by kernel_rfl) rfl rfl rfl) ?_
  refine AL_p (x_assign rfl rfl) ?_
  refine AL_nild (by kernel_rfl) ?_
  refine AW_seq ?_
  refine AW_seq ?_
  refine AW_shutB 109 110 1 rfl rfl rfl rfl ?_
  refine AW_region ?_
  refine AL_p (x_move rfl rfl) ?_
  refine AL_p (x_not rfl rfl) ?_
  refine AL_nil ?_
  cases b49
  · try simp only [tdy] at h49
    have hst : applyTo out (d.changes.drop k) = ([], false) := by rw [hdr]; exact if_neg (by rw [h49]; simp)
    have hno : deltaApply s d = (⟨[]⟩, false) := by rw [hno0, ← hrun, hst]
    refine AW_condT rfl ?_
    refine AW_seq ?_
    refine AW_region ?_
    refine AL_p (x_build (zs := [.slice none 0 0]) (places := [(0, 1)]) rfl (by kernel_rfl) rfl rfl rfl rfl rfl) ?_
    refine AL_p (x_store (n := 1) rfl rfl rfl rfl (by kernel_rfl) rfl rfl rfl) ?_
    refine AL_p (x_assign rfl rfl) ?_
    refine AL_nil ?_
    refine AW_ret (BQ_ret (BQ_ret ?_))
    exact ⟨rn [(9, 102)], ⟨⟨⟨_, rfl, VLe.rf⟩, ⟨_, rfl, by first | (refine vle_bool ?_; rw [hno]; done) | exact VLe.rf⟩, trivial⟩, ⟨⟨_, rfl, by first | (refine ble_eq ?_; rw [hno]; done) | (refine ble_eq ?_; rw [hno]; rfl) | (refine BLe.box ?_; rw [hno]; exact ⟨CLe.nil, trivial⟩)⟩, trivial⟩, trivial, rfl⟩⟩
  try simp only [tdy] at h49
  have hst : applyTo out (d.changes.drop k) = applyTo (withRel out ⟨(d.changes[k]'(by omega)).name, (nextRel out (d.changes[k]'(by omega))).1⟩) (d.changes.drop (k + 1)) := by rw [hdr]; exact if_pos h49
  refine AW_condF rfl ?_
  refine AW_skip ?_
  refine AW_region ?_
  refine AL_p (x_loadN (n := 1) rfl rfl rfl (by kernel_rfl) rfl rfl) ?_
  refine AL_p (x_field (off := 0) (o' := 0) rfl rfl rfl (by kernel_rfl) rfl) ?_
  refine AL_p (x_load1 rfl rfl rfl (by kernel_rfl) rfl) ?_
  refine AL_p (x_loadN (n := 2) rfl rfl rfl (by kernel_rfl) rfl rfl) ?_
  refine AL_p (x_call0 rfl rfl rfl (withF_c out (d.changes[k]'(by omega)).name (nextRel out (d.changes[k]'(by omega))).1 (by omega)) rfl rfl) ?_
  refine AL_p (x_store (n := 1) rfl rfl rfl rfl (by kernel_rfl) rfl rfl rfl) ?_
  refine AL_nil ?_
  refine AW_region ?_
  refine AL_p (x_add rfl rfl rfl (IntWalk.i64_in _ (by omega))) ?_
  refine AL_p (x_move rfl rfl) ?_
  refine AL_nil ?_
  refine ⟨⟨⟨k + 1, (withRel out ⟨(d.changes[k]'(by omega)).name, (nextRel out (d.changes[k]'(by omega))).1⟩)⟩, ⟨⟨by omega, by have := withRel_len (out := out) (nw := ⟨(d.changes[k]'(by omega)).name, (nextRel out (d.changes[k]'(by omega))).1⟩); dsimp only; omega⟩, withRel_all (apQ_next hq hf hd hk2 h49) hq, hst ▸ hrun⟩⟩, rn [], ?_, by dsimp only; omega⟩
  exact ⟨by (repeat refine ⟨⟨_, rfl, by first | exact VLe.rf | exact vle_int (by dsimp only; omega)⟩, ?_⟩); exact trivial, by (repeat refine ⟨⟨_, rfl, by first | exact BLe.rf | exact BLe.box AllC.rf | exact BLe.arr (by exact rfl)⟩, ?_⟩); exact trivial, by repeat (first | exact trivial | refine ⟨⟨rfl, by first | (left; intro h; cases h) | (right; rfl), by first | exact (fun _ h => ⟨_, h⟩) | exact (fun _ _ => ⟨_, rfl⟩) | (intro _ h; cases h)⟩, ?_⟩), rfl⟩
end Go.Proofs.YtibhoanjglfaoaaGreat

/- Stores: their bytes tell them apart and are read back; how many bytes there are. -/
namespace Go.Proofs.YtibhoanjglfaoaaGreat
open Go.RowKit
set_option linter.unusedVariables false

theorem likeRel_self (a : Relt) : likeRel a a = true := by simp [likeRel, sameRows]
theorem name_self (a : ByteArray) : (a == a) = true := by rw [beq_toListBytes]; simp
theorem likeNamed_self (x : Namedt) : likeNamed x x = true := by simp [likeNamed, likeRel_self, name_self]
theorem sameStore_self {s : Storet} (h : storeOk s = true) : sameStore s s = true := by
  rw [sameStore_ok h h]
  exact likeNames_eq (k := s.rels.length) rfl (fun j _ _ _ => likeNamed_self _) (Nat.le_refl _)
/-! ### Bytes -/
def Byt (l : List Int) : Prop := ∀ x ∈ l, 0 ≤ x ∧ x ≤ 255
theorem Byt.app {a b : List Int} (h1 : Byt a) (h2 : Byt b) : Byt (a ++ b) := fun x hx => (List.mem_append.1 hx).elim (h1 x) (h2 x)
theorem Byt.one {n : Int} (h0 : 0 ≤ n) (h1 : n ≤ 255) : Byt [n] := fun x hx => by rw [List.mem_singleton.1 hx]; exact ⟨h0, h1⟩
theorem Byt.flat {α : Type} {f : α → List Int} {xs : List α} (h : ∀ x ∈ xs, Byt (f x)) : Byt (xs.flatMap f) := fun y hy => by
  obtain ⟨x, hx, h1⟩ := List.mem_flatMap.1 hy
  exact h x hx y h1
end Go.Proofs.YtibhoanjglfaoaaGreat

/- Three stores that are drawn (printed by walk.py) -/
namespace Go.Proofs.YtibhoanjglfaoaaGreat
open Go.RowKit
set_option linter.unusedVariables false
set_option linter.unusedSimpArgs false
set_option maxRecDepth 100000

set_option maxHeartbeats 4000000 in
theorem lawFnThen.fn (b : List Int) : AC Tryz.prog 6 [.one (.sl (intE .u8) b)] [] (.one (.c (.bool true))) [] := by
  refine AC_body1 Tryz.func6 rfl rfl Tryz.ntmps6 rfl Tryz.results6 ?_
  refine AW_seq ?_
  refine AW_region ?_
  refine AL_p (x_assign rfl rfl) ?_
  refine AL_nil ?_
  refine AW_seq ?_
  refine AW_seq ?_
  refine AW_region ?_
  refine AL_p (x_move rfl rfl) ?_
  refine AL_p (x_len (E := 5) (n := 1) rfl rfl (by kernel_rfl)) ?_
  refine AL_b (x_gtr rfl rfl rfl) (fun b18 h18 => ?_)
  refine AL_nil ?_
  cases b18
  rotate_left
  · try simp only [tdy] at h18
    refine AW_condT rfl ?_
    refine AW_seq ?_
    refine AW_region ?_
    refine AL_p (x_assign rfl rfl) ?_
    refine AL_nil ?_
    refine AW_ret ?_
    exact ⟨rn [], ⟨⟨⟨_, rfl, vle_bool rfl⟩, trivial⟩, trivial, trivial, rfl⟩⟩
  try simp only [tdy] at h18
  have hb : b.length ≤ 1048576 := by omega
  obtain ⟨x, y, z, h3, hdr⟩ := makeS_x b hb
  have sx := h3.sx
  have sy := h3.sy
  have sz := h3.sz
  have d1 : smallDelta (deltaOf x y).1 := deltaOf_sm sx sy
  have d2 : smallDelta (deltaOf y z).1 := deltaOf_sm sy sz
  obtain ⟨hxz, hth⟩ := then_two h3.xy h3.yz
  have hD : (deltaThen (deltaOf x y).1 (deltaOf y z).1).1 = (deltaOf x z).1 := by rw [hth]
  have d3 : smallDelta (deltaThen (deltaOf x y).1 (deltaOf y z).1).1 := by rw [hD]; exact deltaOf_sm sx sz
  have e4 : deltaApply x (deltaThen (deltaOf x y).1 (deltaOf y z).1).1 = (z, true) := by rw [hD]; exact delta_there hxz
  have oz := (deltaOf_is h3.yz).2.1
  refine AW_condF rfl ?_
  refine AW_skip ?_
  refine AW_seq ?_
  refine AW_region ?_
  refine AL_p (x_move rfl rfl) ?_
  refine AL_p (x_call0 rfl rfl rfl (hdr) rfl rfl) ?_
  refine AL_p (x_move rfl rfl) ?_
  refine AL_p (x_extract rfl rfl rfl) ?_
  refine AL_p (x_extract rfl rfl rfl) ?_
  refine AL_p (x_extract rfl rfl rfl) ?_
  refine AL_p (x_alloc (z := .agg #[.slice none 0 0]) 100 rfl (by kernel_rfl) rfl rfl rfl rfl) ?_
  refine AL_p (x_alloc (z := .agg #[.slice none 0 0]) 101 rfl (by kernel_rfl) rfl rfl rfl rfl) ?_
  refine AL_p (x_alloc (z := .agg #[.slice none 0 0]) 102 rfl (by kernel_rfl) rfl rfl rfl rfl) ?_
  refine AL_p (x_store (n := 1) rfl rfl rfl rfl (by kernel_rfl) rfl rfl rfl) ?_
  refine AL_p (x_store (n := 1) rfl rfl rfl rfl (by kernel_rfl) rfl rfl rfl) ?_
  refine AL_p (x_store (n := 1) rfl rfl rfl rfl (by kernel_rfl) rfl rfl rfl) ?_
  refine AL_nil ?_
  refine AW_seq ?_
  refine AW_region ?_
  refine AL_p (x_loadN (n := 1) rfl rfl rfl (by kernel_rfl) rfl rfl) ?_
  refine AL_p (x_loadN (n := 1) rfl rfl rfl (by kernel_rfl) rfl rfl) ?_
  refine AL_p (x_call1 rfl rfl rfl (deltaOfI_c x y sx sy 103) rfl rfl rfl rfl) ?_
  refine AL_p (x_move rfl rfl) ?_
  refine AL_p (x_extract rfl rfl rfl) ?_
  refine AL_b (x_extract rfl rfl rfl) (fun b30 h30 => ?_)
  refine AL_p (x_alloc (z := .agg #[.slice none 0 0]) 104 rfl (by kernel_rfl) rfl rfl rfl rfl) ?_
  refine AL_p (x_store (n := 1) rfl rfl rfl rfl (by kernel_rfl) rfl rfl rfl) ?_
  refine AL_p (x_assign rfl rfl) ?_
  refine AL_nil ?_
  refine AW_seq ?_
  refine AW_shutB 103 104 0 rfl rfl rfl rfl ?_
  refine AW_region ?_
  refine AL_p (x_loadN (n := 1) rfl rfl rfl (by kernel_rfl) rfl rfl) ?_
  refine AL_p (x_loadN (n := 1) rfl rfl rfl (by kernel_rfl) rfl rfl) ?_
  refine AL_p (x_call1 rfl rfl rfl (deltaOfI_c y z sy sz 105) rfl rfl rfl rfl) ?_
  refine AL_p (x_move rfl rfl) ?_
  refine AL_p (x_extract rfl rfl rfl) ?_
  refine AL_b (x_extract rfl rfl rfl) (fun b36 h36 => ?_)
  refine AL_p (x_alloc (z := .agg #[.slice none 0 0]) 106 rfl (by kernel_rfl) rfl rfl rfl rfl) ?_
  refine AL_p (x_store (n := 1) rfl rfl rfl rfl (by kernel_rfl) rfl rfl rfl) ?_
  refine AL_p (x_assign rfl rfl) ?_
  refine AL_nil ?_
  refine AW_seq ?_
  refine AW_shutB 105 106 0 rfl rfl rfl rfl ?_
  refine AW_region ?_
  refine AL_p (x_loadN (n := 1) rfl rfl rfl (by kernel_rfl) rfl rfl) ?_
  refine AL_p (x_loadN (n := 1) rfl rfl rfl (by kernel_rfl) rfl rfl) ?_
  refine AL_p (x_call1 rfl rfl rfl (deltaThenI_c (deltaOf x y).1 (deltaOf y z).1 d1 d2 107) rfl rfl rfl rfl) ?_
  refine AL_p (x_move rfl rfl) ?_
  refine AL_p (x_extract rfl rfl rfl) ?_
  refine AL_b (x_extract rfl rfl rfl) (fun b42 h42 => ?_)
  refine AL_p (x_alloc (z := .agg #[.slice none 0 0]) 108 rfl (by kernel_rfl) rfl rfl rfl rfl) ?_
  refine AL_p (x_store (n := 1) rfl rfl rfl rfl (by kernel_rfl) rfl rfl rfl) ?_
  refine AL_p (x_assign rfl rfl) ?_
  refine AL_nil ?_
  refine AW_seq ?_
  refine AW_shutB 107 108 0 rfl rfl rfl rfl ?_
  refine AW_region ?_
  refine AL_p (x_loadN (n := 1) rfl rfl rfl (by kernel_rfl) rfl rfl) ?_
  refine AL_p (x_loadN (n := 1) rfl rfl rfl (by kernel_rfl) rfl rfl) ?_
  refine AL_p (x_call1 rfl rfl rfl (deltaOfI_c x z sx sz 109) rfl rfl rfl rfl) ?_
  refine AL_p (x_move rfl rfl) ?_
  refine AL_p (x_extract rfl rfl rfl) ?_
  refine AL_b (x_extract rfl rfl rfl) (fun b48 h48 => ?_)
  refine AL_p (x_alloc (z := .agg #[.slice none 0 0]) 110 rfl (by kernel_rfl) rfl rfl rfl rfl) ?_
  refine AL_p (x_store (n := 1) rfl rfl rfl rfl (by kernel_rfl) rfl rfl rfl) ?_
  refine AL_p (x_assign rfl rfl) ?_
  refine AL_nil ?_
  refine AW_seq ?_
  refine AW_shutB 109 110 0 rfl rfl rfl rfl ?_
  refine AW_region ?_
  refine AL_p (x_loadN (n := 1) rfl rfl rfl (by kernel_rfl) rfl rfl) ?_
  refine AL_p (x_loadN (n := 1) rfl rfl rfl (by kernel_rfl) rfl rfl) ?_
  refine AL_p (x_call0 rfl rfl rfl (deltaApplyF_c x (deltaThen (deltaOf x y).1 (deltaOf y z).1).1 sx d3) rfl rfl) ?_
  refine AL_p (x_move rfl rfl) ?_
  refine AL_p (x_extract rfl rfl rfl) ?_
  refine AL_b (x_extract rfl rfl rfl) (fun b54 h54 => ?_)
  refine AL_p (x_alloc (z := .agg #[.slice none 0 0]) 111 rfl (by kernel_rfl) rfl rfl rfl rfl) ?_
  refine AL_p (x_store (n := 1) rfl rfl rfl rfl (by kernel_rfl) rfl rfl rfl) ?_
  refine AL_p (x_assign rfl rfl) ?_
  refine AL_nil ?_
  refine AW_seq ?_
  refine AW_region ?_
  refine AL_p (x_move rfl rfl) ?_
  refine AL_p (x_move rfl rfl) ?_
  cases b30
  · exfalso; rw [h3.xy] at h30; cases h30
  try simp only [tdy] at h30
  refine AL_g rfl rfl (x_move rfl rfl) ?_
  refine AL_p (x_pickT rfl rfl rfl) ?_
  refine AL_p (x_move rfl rfl) ?_
  cases b36
  · exfalso; rw [h3.yz] at h36; cases h36
  try simp only [tdy] at h36
  refine AL_g rfl rfl (x_move rfl rfl) ?_
  refine AL_p (x_pickT rfl rfl rfl) ?_
  refine AL_p (x_move rfl rfl) ?_
  cases b42
  · exfalso; rw [hth] at h42; cases h42
  try simp only [tdy] at h42
  refine AL_g rfl rfl (x_move rfl rfl) ?_
  refine AL_p (x_pickT rfl rfl rfl) ?_
  refine AL_p (x_move rfl rfl) ?_
  cases b54
  · exfalso; rw [e4] at h54; cases h54
  try simp only [tdy] at h54
  refine AL_g rfl rfl (x_loadN (n := 1) rfl rfl rfl (by kernel_rfl) rfl rfl) ?_
  refine AL_g rfl rfl (x_loadN (n := 1) rfl rfl rfl (by kernel_rfl) rfl rfl) ?_
  refine AL_gb rfl rfl (x_call0 rfl rfl rfl (sameStoreS_c _ _ (by rw [e4]; exact sz) sz) rfl rfl) (fun b68 h68 => ?_)
  refine AL_p (x_pickT rfl rfl rfl) ?_
  refine AL_p (x_move rfl rfl) ?_
  cases b68
  · exfalso; rw [e4, sameStore_self oz] at h68; cases h68
  try simp only [tdy] at h68
  refine AL_g rfl rfl (x_field (off := 0) (o' := 0) rfl rfl rfl (by kernel_rfl) rfl) ?_
  refine AL_g rfl rfl (x_load1 rfl rfl rfl (by kernel_rfl) rfl) ?_
  refine AL_g rfl rfl (x_len (E := 65) (n := 5) rfl rfl (by kernel_rfl)) ?_
  refine AL_g rfl rfl (x_field (off := 0) (o' := 0) rfl rfl rfl (by kernel_rfl) rfl) ?_
  refine AL_g rfl rfl (x_load1 rfl rfl rfl (by kernel_rfl) rfl) ?_
  refine AL_g rfl rfl (x_len (E := 65) (n := 5) rfl rfl (by kernel_rfl)) ?_
  refine AL_gb rfl rfl (x_eql rfl rfl rfl) (fun b77 h77 => ?_)
  refine AL_p (x_pickT rfl rfl rfl) ?_
  refine AL_p (x_assign rfl rfl) ?_
  refine AL_nil ?_
  refine AW_ret ?_
  cases b77
  · exfalso; rw [hD] at h77; simp at h77
  try simp only [tdy] at h77
  exact ⟨rn [], ⟨⟨⟨_, rfl, vle_bool rfl⟩, trivial⟩, trivial, trivial, rfl⟩⟩
theorem lawFnThen.walk (w : World) (a0 : Option Addr) (n0 c0 : Nat) (x0 : List Int) (bs0 : List Nat) (g0 : SliceRep (intE .u8) w a0 n0 c0 x0 bs0) : Calls Tryz.prog 6 #[.slice a0 n0 c0] w fun e w' => e = .returned (.bool true) ∧ Below w.heap.size w w' :=
  (lawFnThen.fn x0).calls w _ ⟨arg_sl g0 (fun i hi => (sliceE (intE .u8)).lt (sliceE_iff.2 g0) i hi), trivial⟩
end Go.Proofs.YtibhoanjglfaoaaGreat

/- Lemmas of the walks, part 4. -/
import Derived.Test.YtopffmncbeakkaaAd3
/- The walk of FnExactRelAdd (printed by walk.py) -/
namespace Go.Proofs.Ytopffmncbeakkaa
open Go.RowKit
set_option linter.unusedVariables false
set_option linter.unusedSimpArgs false
set_option maxRecDepth 100000

theorem frz0 (x : Relt) (s : smallRel x) : AC Try.prog 12 [.agg (relC x)] [] (.agg (relC x)) [] := AC.frz (toRel_c x s 0) rfl (by intro k hk; simpa [AVal.ids, Cell.ids] using hk)
theorem frz1 (x : List Val) (s : smallRow x) : AC Try.prog 13 [.agg (rowC x)] [] (.agg (rowC x)) [] := AC.frz (toRow_c x s 0) rfl (by intro k hk; simpa [AVal.ids, Cell.ids] using hk)
set_option maxHeartbeats 4000000 in
theorem lawFnExactRelAdd.walk (w : World) (c0 : Array Value) (x0 : Relt) (b0 : List Nat) (h0 : relE.rep w c0.toList x0 b0) (c1 : Array Value) (x1 : List Val) (b1 : List Nat) (h1 : rowE.rep w c1.toList x1 b1) :
    Calls Try.prog 4 #[.agg c0, .agg c1] w fun e w' => e = .returned (.bool true) ∧ Below w.heap.size w w' := by
  refine AM_law (r := 4) Try.func4 rfl Try.ntmps4 rfl Try.results4 w _ (args := [.agg (relC x0), .agg (rowC x1)]) ⟨arg_agg h0, arg_agg h1, trivial⟩ (fun B => ?_)
  refine AM_seq ?_
  refine AM_region ?_
  refine AL_p (x_box 100 rfl rfl rfl rfl rfl rfl rfl) ?_
  refine AL_p (x_box 101 rfl rfl rfl rfl rfl rfl rfl) ?_
  refine AL_p (x_assign rfl rfl) ?_
  refine AL_nil ?_
  refine AM_seq ?_
  refine AM_region ?_
  refine AL_p (x_assign rfl rfl) ?_
  refine AL_nil ?_
  refine AM_seq ?_
  refine AM_region ?_
  refine AL_p (x_loadN (n := 2) rfl rfl rfl (by kernel_rfl) rfl rfl) ?_
  refine AL_p (x_move rfl rfl) ?_
  refine AL_p (x_call0 rfl rfl rfl (szRel_c _ _ (by omega) (by omega)) rfl rfl) ?_
  refine AL_p (x_assign rfl rfl) ?_
  refine AL_nil ?_
  refine AM_seq ?_
  refine AM_seq ?_
  refine AM_region ?_
  refine AL_p (x_move rfl rfl) ?_
  refine AL_b (x_lss rfl rfl rfl) (fun b21 h21 => ?_)
  refine AL_nil ?_
  cases b21
  rotate_left
  · try simp only [decide_eq_true_eq, decide_eq_false_iff_not, Bool.not_eq_true, Bool.not_eq_false, Bool.not_eq_true', Bool.not_eq_false', beq_iff_eq, bne_iff_ne, beq_eq_false_iff_ne, bne_eq_false_iff_eq, Int.not_lt, Int.not_le, ge_iff_le, gt_iff_lt] at h21
    refine AM_condT rfl ?_
    refine AM_seq ?_
    refine AM_region ?_
    refine AL_p (x_assign rfl rfl) ?_
    refine AL_nil ?_
    refine AM_ret ?_
    exact rfl
  · try simp only [decide_eq_true_eq, decide_eq_false_iff_not, Bool.not_eq_true, Bool.not_eq_false, Bool.not_eq_true', Bool.not_eq_false', beq_iff_eq, bne_iff_ne, beq_eq_false_iff_ne, bne_eq_false_iff_eq, Int.not_lt, Int.not_le, ge_iff_le, gt_iff_lt] at h21
    have f21 := (szR_nonneg h21).1
    have e21 := (szR_nonneg h21).2
    refine AM_condF rfl ?_
    refine AM_skip ?_
    refine AM_seq ?_
    refine AM_region ?_
    refine AL_p (x_loadN (n := 1) rfl rfl rfl (by kernel_rfl) rfl rfl) ?_
    refine AL_p (x_move rfl rfl) ?_
    refine AL_p (x_call0 rfl rfl rfl (szRow_c _ _ (by omega) (by omega)) rfl rfl) ?_
    refine AL_p (x_assign rfl rfl) ?_
    refine AL_nil ?_
    refine AM_seq ?_
    refine AM_seq ?_
    refine AM_region ?_
    refine AL_p (x_move rfl rfl) ?_
    refine AL_b (x_lss rfl rfl rfl) (fun b26 h26 => ?_)
    refine AL_nil ?_
    cases b26
    rotate_left
    · try simp only [decide_eq_true_eq, decide_eq_false_iff_not, Bool.not_eq_true, Bool.not_eq_false, Bool.not_eq_true', Bool.not_eq_false', beq_iff_eq, bne_iff_ne, beq_eq_false_iff_ne, bne_eq_false_iff_eq, Int.not_lt, Int.not_le, ge_iff_le, gt_iff_lt] at h26
      refine AM_condT rfl ?_
      refine AM_seq ?_
      refine AM_region ?_
      refine AL_p (x_assign rfl rfl) ?_
      refine AL_nil ?_
      refine AM_ret ?_
      exact rfl
    · try simp only [decide_eq_true_eq, decide_eq_false_iff_not, Bool.not_eq_true, Bool.not_eq_false, Bool.not_eq_true', Bool.not_eq_false', beq_iff_eq, bne_iff_ne, beq_eq_false_iff_ne, bne_eq_false_iff_eq, Int.not_lt, Int.not_le, ge_iff_le, gt_iff_lt] at h26
      have f26 := (szR_nonneg h26).1
      have e26 := (szR_nonneg h26).2
      have t0 : totRel x0 ≤ 1048576 := by omega
      have t1 : totRow x1 ≤ 1048576 := by omega
      have s0 := totRel_small t0
      have s1 := totRow_small t1
      refine AM_condF rfl ?_
      refine AM_skip ?_
      refine AM_seq ?_
      refine AM_draw rfl ?_
      refine AL_p (x_loadN (n := 2) rfl rfl rfl (by kernel_rfl) rfl rfl) ?_
      refine AL_p (x_call0 rfl rfl rfl (frz0 x0 s0) rfl rfl) ?_
      refine AL_p (x_loadN (n := 1) rfl rfl rfl (by kernel_rfl) rfl rfl) ?_
      refine AL_p (x_call0 rfl rfl rfl (frz1 x1 s1) rfl rfl) ?_
      refine AL_p (x_call0 rfl rfl rfl (relAddS_c x0 x1 s0 s1) rfl rfl) ?_
      refine AL_p (x_move rfl rfl) ?_
      refine AL_p (x_extract rfl rfl rfl) ?_
      refine AL_p (x_extract rfl rfl rfl) ?_
      refine AL_p (x_alloc (z := .agg #[.int .i64 0, .slice none 0 0]) 102 rfl (by kernel_rfl) rfl rfl rfl rfl) ?_
      refine AL_p (x_store (n := 2) rfl rfl rfl rfl (by kernel_rfl) rfl rfl rfl) ?_
      refine AL_p (x_assign rfl rfl) ?_
      refine AL_nild (by kernel_rfl) ?_
      refine AM_raise (fun B' => [(2, .one (.epo B' relE (x0) 0)), (3, .one (.epo B' rowE (x1) 0)), (6, .one (.epo B' relE ((relAdd x0 x1).1) 0)), (7, .one (.c _))]) (fun B' => ⟨⟨_, rfl, .box (f := relC) rfl rfl rfl FitL.rf⟩, ⟨_, rfl, .box (f := rowC) rfl rfl rfl FitL.rf⟩, ⟨_, rfl, .box (f := relC) rfl rfl rfl FitL.rf⟩, ⟨_, rfl, .c⟩, trivial⟩) (fun B' => ?_)
      refine AM_seq ?_
      refine AM_region ?_
      refine AL_p (x_pload (f := relC) (n := 2) rfl rfl (by kernel_rfl) rfl rfl) ?_
      refine AL_p (x_callR rfl rfl rfl (toRel_c x0 s0 103) rfl AllV.rf rfl rfl rfl rfl rfl) ?_
      refine AL_p (x_alloc (z := .agg #[.int .i64 0, .slice none 0 0]) 104 rfl (by kernel_rfl) rfl rfl rfl rfl) ?_
      refine AL_p (x_store (n := 2) rfl rfl rfl rfl (by kernel_rfl) rfl rfl rfl) ?_
      refine AL_nil ?_
      refine AM_seq ?_
      refine AM_region ?_
      refine AL_p (x_pload (f := rowC) (n := 1) rfl rfl (by kernel_rfl) rfl rfl) ?_
      refine AL_p (x_callR rfl rfl rfl (toRow_c x1 s1 105) rfl AllV.rf rfl rfl rfl rfl rfl) ?_
      refine AL_p (x_alloc (z := .agg #[.slice none 0 0]) 106 rfl (by kernel_rfl) rfl rfl rfl rfl) ?_
      refine AL_p (x_store (n := 1) rfl rfl rfl rfl (by kernel_rfl) rfl rfl rfl) ?_
      refine AL_nil ?_
      refine AM_seq ?_
      refine AM_region ?_
      refine AL_p (x_loadN (n := 2) rfl rfl rfl (by kernel_rfl) rfl rfl) ?_
      refine AL_p (x_loadN (n := 1) rfl rfl rfl (by kernel_rfl) rfl rfl) ?_
      refine AL_p (x_callR rfl rfl rfl (relAddI_c x0 x1 s0 s1 107) rfl AllV.rf rfl rfl rfl rfl rfl) ?_
      refine AL_p (x_move rfl rfl) ?_
      refine AL_p (x_extract rfl rfl rfl) ?_
      refine AL_p (x_extract rfl rfl rfl) ?_
      refine AL_p (x_alloc (z := .agg #[.int .i64 0, .slice none 0 0]) 108 rfl (by kernel_rfl) rfl rfl rfl rfl) ?_
      refine AL_p (x_store (n := 2) rfl rfl rfl rfl (by kernel_rfl) rfl rfl rfl) ?_
      refine AL_p (x_assign rfl rfl) ?_
      refine AL_nil ?_
      refine AM_seq ?_
      refine AM_seq ?_
      refine AM_region ?_
      refine AL_p (x_loadN (n := 2) rfl rfl rfl (by kernel_rfl) rfl rfl) ?_
      refine AL_p (x_pload (f := relC) (n := 2) rfl rfl (by kernel_rfl) rfl rfl) ?_
      refine AL_p (x_callR rfl rfl rfl (eqRel_c ((relAdd x0 x1).1)) rfl AllV.rf rfl rfl rfl rfl rfl) ?_
      refine AL_p (x_not rfl rfl) ?_
      refine AL_p (x_move rfl rfl) ?_
      refine AL_g rfl rfl (x_move rfl rfl) ?_
      refine AL_g rfl rfl (x_move rfl rfl) ?_
      refine AL_gb rfl rfl (x_neq rfl rfl rfl) (fun b52 h52 => ?_)
      refine AL_p (x_pickF rfl rfl rfl) ?_
      refine AL_nil ?_
      cases b52
      rotate_left
      · exfalso; first | (simp [ba_beq_self] at h52; done) | (simp at h52; omega)
      · try simp only [decide_eq_true_eq, decide_eq_false_iff_not, Bool.not_eq_true, Bool.not_eq_false, Bool.not_eq_true', Bool.not_eq_false', beq_iff_eq, bne_iff_ne, beq_eq_false_iff_ne, bne_eq_false_iff_eq, Int.not_lt, Int.not_le, ge_iff_le, gt_iff_lt] at h52
        refine AM_condF rfl ?_
        refine AM_skip ?_
        refine AM_seq ?_
        refine AM_seq ?_
        refine AM_draw rfl ?_
        refine AL_p (x_loadN (n := 2) rfl rfl rfl (by kernel_rfl) rfl rfl) ?_
        refine AL_p (x_pload (f := relC) (n := 2) rfl rfl (by kernel_rfl) rfl rfl) ?_
        refine AL_p (x_callR rfl rfl rfl (toRel_c x0 s0 109) rfl AllV.rf rfl rfl rfl rfl rfl) ?_
        refine AL_p (x_callR rfl rfl rfl (eqRel_c (x0)) rfl AllV.rf rfl rfl rfl rfl rfl) ?_
        refine AL_p (x_not rfl rfl) ?_
        refine AL_nild (by kernel_rfl) ?_
        refine AM_condF rfl ?_
        refine AM_skip ?_
        refine AM_seq ?_
        refine AM_seq ?_
        refine AM_draw rfl ?_
        refine AL_p (x_loadN (n := 1) rfl rfl rfl (by kernel_rfl) rfl rfl) ?_
        refine AL_p (x_pload (f := rowC) (n := 1) rfl rfl (by kernel_rfl) rfl rfl) ?_
        refine AL_p (x_callR rfl rfl rfl (toRow_c x1 s1 110) rfl AllV.rf rfl rfl rfl rfl rfl) ?_
        refine AL_p (x_callR rfl rfl rfl (eqRow_c (x1)) rfl AllV.rf rfl rfl rfl rfl rfl) ?_
        refine AL_p (x_not rfl rfl) ?_
        refine AL_nild (by kernel_rfl) ?_
        refine AM_condF rfl ?_
        refine AM_skip ?_
        refine AM_seq ?_
        refine AM_region ?_
        refine AL_p (x_assign rfl rfl) ?_
        refine AL_nil ?_
        refine AM_seq ?_
        refine AM_regionM ?_
        refine LM_p (x_loadN (n := 2) rfl rfl rfl (by kernel_rfl) rfl rfl) ?_
        refine LM_p (x_move rfl rfl) ?_
        have n0 : cntDRel (x0) ≤ 1152921504606846976 := cntRel_le s0
        have v0 := markDRel_cnt (x0) (1)
        refine LM_markA (F := relC) (z := x0) (z' := (markDRel x0 (1)).1) [(2, _), (3, _), (6, _), (7, _), (9, _), (10, _), (11, _), (12, _)] [(106, some _), (108, some _), (105, some _), (107, some _)] rfl rfl rfl rfl ⟨_, _, Try.func17, rfl, rfl⟩ (fun w cs bs h hF => markDRel_any cs _ bs _ 0 w h hF (by omega) (by omega)) rfl rfl FitL.rf (wf64 (by omega) (by omega)) ⟨⟨rfl, rfl⟩, ⟨rfl, rfl⟩, ⟨rfl, rfl⟩, ⟨rfl, trivial⟩, ⟨rfl, trivial⟩, ⟨rfl, trivial⟩, ⟨rfl, trivial⟩, ⟨rfl, trivial⟩, trivial⟩ ⟨⟨rfl, ⟨rfl, trivial⟩⟩, ⟨rfl, ⟨trivial, rfl, trivial⟩⟩, ⟨rfl, rfl, rfl⟩, ⟨rfl, rfl, rfl⟩, trivial⟩ ?_
        refine LM_p (x_assign rfl rfl) ?_
        refine LM_nil ?_
        refine AM_seq ?_
        refine AM_regionM ?_
        refine LM_p (x_loadN (n := 1) rfl rfl rfl (by kernel_rfl) rfl rfl) ?_
        refine LM_p (x_move rfl rfl) ?_
        have n1 : cntDRow (x1) ≤ 1152921504606846976 := (Nat.le_trans (cntRow_le s1) (by decide))
        have v1 := markDRow_cnt (x1) ((markDRel x0 (1)).2)
        refine LM_markA (F := rowC) (z := x1) (z' := (markDRow x1 ((markDRel x0 (1)).2)).1) [(2, _), (3, _), (6, _), (7, _), (10, _), (11, _), (12, _)] [(108, some _), (107, some _)] rfl rfl rfl rfl ⟨_, _, Try.func18, rfl, rfl⟩ (fun w cs bs h hF => markDRow_any cs _ bs _ 0 w h hF (by omega) (by omega)) rfl rfl FitL.rf (wf64 (by omega) (by omega)) ⟨⟨rfl, rfl⟩, ⟨rfl, rfl⟩, ⟨rfl, rfl⟩, ⟨rfl, trivial⟩, ⟨rfl, trivial⟩, ⟨rfl, trivial⟩, ⟨rfl, trivial⟩, trivial⟩ ⟨⟨rfl, ⟨trivial, rfl, trivial⟩⟩, ⟨rfl, rfl, rfl⟩, trivial⟩ ?_
        refine LM_p (x_assign rfl rfl) ?_
        refine LM_nil ?_
        refine AM_seq ?_
        refine AM_seq ?_
        refine AM_region ?_
        refine AL_p (x_move rfl rfl) ?_
        refine AL_b (x_lss rfl rfl rfl) (fun b71 h71 => ?_)
        refine AL_p (x_move rfl rfl) ?_
        cases b71
        rotate_left
        · exfalso; first | (simp [ba_beq_self] at h71; done) | (simp at h71; omega)
        · try simp only [decide_eq_true_eq, decide_eq_false_iff_not, Bool.not_eq_true, Bool.not_eq_false, Bool.not_eq_true', Bool.not_eq_false', beq_iff_eq, bne_iff_ne, beq_eq_false_iff_ne, bne_eq_false_iff_eq, Int.not_lt, Int.not_le, ge_iff_le, gt_iff_lt] at h71
          refine AL_g rfl rfl (x_loadN (n := 2) rfl rfl rfl (by kernel_rfl) rfl rfl) ?_
          refine AL_g rfl rfl (x_pload (f := relC) (n := 2) rfl rfl (by kernel_rfl) rfl rfl) ?_
          refine AL_g rfl rfl (x_callR rfl rfl rfl (eqRel_c ((relAdd x0 x1).1)) rfl AllV.rf rfl rfl rfl rfl rfl) ?_
          refine AL_g rfl rfl (x_not rfl rfl) ?_
          refine AL_p (x_pickF rfl rfl rfl) ?_
          refine AL_p (x_move rfl rfl) ?_
          refine AL_g rfl rfl (x_move rfl rfl) ?_
          refine AL_g rfl rfl (x_move rfl rfl) ?_
          refine AL_gb rfl rfl (x_neq rfl rfl rfl) (fun b81 h81 => ?_)
          refine AL_p (x_pickF rfl rfl rfl) ?_
          refine AL_nil ?_
          cases b81
          rotate_left
          · exfalso; first | (simp [ba_beq_self] at h81; done) | (simp at h81; omega)
          · try simp only [decide_eq_true_eq, decide_eq_false_iff_not, Bool.not_eq_true, Bool.not_eq_false, Bool.not_eq_true', Bool.not_eq_false', beq_iff_eq, bne_iff_ne, beq_eq_false_iff_ne, bne_eq_false_iff_eq, Int.not_lt, Int.not_le, ge_iff_le, gt_iff_lt] at h81
            refine AM_condF rfl ?_
            refine AM_skip ?_
            refine AM_seq ?_
            refine AM_region ?_
            refine AL_p (x_assign rfl rfl) ?_
            refine AL_nil ?_
            refine AM_seq ?_
            refine AM_regionM ?_
            refine LM_p (x_loadN (n := 2) rfl rfl rfl (by kernel_rfl) rfl rfl) ?_
            refine LM_p (x_move rfl rfl) ?_
            have n2 : cntDRel ((relAdd x0 x1).1) ≤ 1152921504606846976 := cntRel_le (relAdd_small s0 s1)
            have v2 := markDRel_cnt ((relAdd x0 x1).1) (1)
            refine LM_markAK (F := relC) (z := (relAdd x0 x1).1) (z' := (markDRel (relAdd x0 x1).1 (1)).1) 10 108 (fun B' => [(2, .one (.epo B' relE (x0) 0)), (3, .one (.epo B' rowE (x1) 0)), (6, .one (.epo B' relE ((relAdd x0 x1).1) 0)), (7, .one (.c _)), (13, .one (.c _))]) rfl rfl rfl rfl rfl rfl rfl rfl ⟨_, _, Try.func17, rfl, rfl⟩ (fun w cs bs h hF => markDRel_any cs _ bs _ 0 w h hF (by omega) (by omega)) rfl rfl FitL.rf (wf64 (by omega) (by omega)) (fun B' => ⟨⟨_, rfl, .epo⟩, ⟨_, rfl, .epo⟩, ⟨_, rfl, .epo⟩, ⟨_, rfl, .c⟩, ⟨_, rfl, .c⟩, trivial⟩) (fun B' => ?_)
            refine LM_p (x_assign rfl rfl) ?_
            refine LM_nil ?_
            refine AM_seq ?_
            refine AM_region ?_
            refine AL_p (x_assign rfl rfl) ?_
            refine AL_nil ?_
            refine AM_seq ?_
            refine AM_region ?_
            refine AL_p (x_pload (f := relC) (n := 2) rfl rfl (by kernel_rfl) rfl rfl) ?_
            refine AL_p (x_move rfl rfl) ?_
            refine AL_p (x_callR rfl rfl rfl (heldDRel_c ((relAdd x0 x1).1) (1) (by omega) (by omega)) rfl AllV.rf rfl rfl rfl rfl rfl) ?_
            refine AL_p (x_assign rfl rfl) ?_
            refine AL_nil ?_
            refine AM_seq ?_
            refine AM_seq ?_
            refine AM_region ?_
            refine AL_p (x_move rfl rfl) ?_
            refine AL_b (x_lss rfl rfl rfl) (fun b90 h90 => ?_)
            refine AL_nil ?_
            cases b90
            rotate_left
            · exfalso; first | (simp [ba_beq_self] at h90; done) | (simp at h90; omega)
            · try simp only [decide_eq_true_eq, decide_eq_false_iff_not, Bool.not_eq_true, Bool.not_eq_false, Bool.not_eq_true', Bool.not_eq_false', beq_iff_eq, bne_iff_ne, beq_eq_false_iff_ne, bne_eq_false_iff_eq, Int.not_lt, Int.not_le, ge_iff_le, gt_iff_lt] at h90
              refine AM_condF rfl ?_
              refine AM_skip ?_
              refine AM_seq ?_
              refine AM_seq ?_
              refine AM_region ?_
              refine AL_p (x_move rfl rfl) ?_
              refine AL_p (x_move rfl rfl) ?_
              refine AL_b (x_neq rfl rfl rfl) (fun b93 h93 => ?_)
              refine AL_nil ?_
              cases b93
              rotate_left
              · exfalso; first | (simp [ba_beq_self] at h93; done) | (simp at h93; omega)
              · try simp only [decide_eq_true_eq, decide_eq_false_iff_not, Bool.not_eq_true, Bool.not_eq_false, Bool.not_eq_true', Bool.not_eq_false', beq_iff_eq, bne_iff_ne, beq_eq_false_iff_ne, bne_eq_false_iff_eq, Int.not_lt, Int.not_le, ge_iff_le, gt_iff_lt] at h93
                refine AM_condF rfl ?_
                refine AM_skip ?_
                refine AM_seq ?_
                refine AM_draw rfl ?_
                refine AL_p (x_pload (f := relC) (n := 2) rfl rfl (by kernel_rfl) rfl rfl) ?_
                refine AL_p (x_callR rfl rfl rfl (toRel_c x0 s0 111) rfl AllV.rf rfl rfl rfl rfl rfl) ?_
                refine AL_p (x_pload (f := rowC) (n := 1) rfl rfl (by kernel_rfl) rfl rfl) ?_
                refine AL_p (x_callR rfl rfl rfl (toRow_c x1 s1 112) rfl AllV.rf rfl rfl rfl rfl rfl) ?_
                refine AL_p (x_callR rfl rfl rfl (relAddI_c x0 x1 s0 s1 113) rfl AllV.rf rfl rfl rfl rfl rfl) ?_
                refine AL_p (x_move rfl rfl) ?_
                refine AL_p (x_extract rfl rfl rfl) ?_
                refine AL_p (x_extract rfl rfl rfl) ?_
                refine AL_p (x_alloc (z := .agg #[.int .i64 0, .slice none 0 0]) 114 rfl (by kernel_rfl) rfl rfl rfl rfl) ?_
                refine AL_p (x_store (n := 2) rfl rfl rfl rfl (by kernel_rfl) rfl rfl rfl) ?_
                refine AL_p (x_assign rfl rfl) ?_
                refine AL_nild (by kernel_rfl) ?_
                refine AM_seq ?_
                refine AM_seq ?_
                refine AM_region ?_
                refine AL_p (x_loadN (n := 2) rfl rfl rfl (by kernel_rfl) rfl rfl) ?_
                refine AL_p (x_pload (f := relC) (n := 2) rfl rfl (by kernel_rfl) rfl rfl) ?_
                refine AL_p (x_callR rfl rfl rfl (eqRel_c ((relAdd x0 x1).1)) rfl AllV.rf rfl rfl rfl rfl rfl) ?_
                refine AL_p (x_not rfl rfl) ?_
                refine AL_p (x_move rfl rfl) ?_
                refine AL_g rfl rfl (x_move rfl rfl) ?_
                refine AL_g rfl rfl (x_move rfl rfl) ?_
                refine AL_gb rfl rfl (x_neq rfl rfl rfl) (fun b109 h109 => ?_)
                refine AL_p (x_pickF rfl rfl rfl) ?_
                refine AL_nil ?_
                cases b109
                rotate_left
                · exfalso; first | (simp [ba_beq_self] at h109; done) | (simp at h109; omega)
                · try simp only [decide_eq_true_eq, decide_eq_false_iff_not, Bool.not_eq_true, Bool.not_eq_false, Bool.not_eq_true', Bool.not_eq_false', beq_iff_eq, bne_iff_ne, beq_eq_false_iff_ne, bne_eq_false_iff_eq, Int.not_lt, Int.not_le, ge_iff_le, gt_iff_lt] at h109
                  refine AM_condF rfl ?_
                  refine AM_skip ?_
                  refine AM_seq ?_
                  refine AM_region ?_
                  refine AL_p (x_assign rfl rfl) ?_
                  refine AL_nil ?_
                  refine AM_seq ?_
                  refine AM_region ?_
                  refine AL_p (x_pload (f := relC) (n := 2) rfl rfl (by kernel_rfl) rfl rfl) ?_
                  refine AL_p (x_move rfl rfl) ?_
                  refine AL_p (x_callR rfl rfl rfl (heldDRel_c ((relAdd x0 x1).1) (1) (by omega) (by omega)) rfl AllV.rf rfl rfl rfl rfl rfl) ?_
                  refine AL_p (x_assign rfl rfl) ?_
                  refine AL_nil ?_
                  refine AM_seq ?_
                  refine AM_seq ?_
                  refine AM_region ?_
                  refine AL_p (x_move rfl rfl) ?_
                  refine AL_b (x_lss rfl rfl rfl) (fun b115 h115 => ?_)
                  refine AL_nil ?_
                  cases b115
                  rotate_left
                  · exfalso; first | (simp [ba_beq_self] at h115; done) | (simp at h115; omega)
                  · try simp only [decide_eq_true_eq, decide_eq_false_iff_not, Bool.not_eq_true, Bool.not_eq_false, Bool.not_eq_true', Bool.not_eq_false', beq_iff_eq, bne_iff_ne, beq_eq_false_iff_ne, bne_eq_false_iff_eq, Int.not_lt, Int.not_le, ge_iff_le, gt_iff_lt] at h115
                    refine AM_condF rfl ?_
                    refine AM_skip ?_
                    refine AM_seq ?_
                    refine AM_seq ?_
                    refine AM_region ?_
                    refine AL_p (x_move rfl rfl) ?_
                    refine AL_p (x_move rfl rfl) ?_
                    refine AL_b (x_neq rfl rfl rfl) (fun b118 h118 => ?_)
                    refine AL_nil ?_
                    cases b118
                    rotate_left
                    · exfalso; first | (simp [ba_beq_self] at h118; done) | (simp at h118; omega)
                    · try simp only [decide_eq_true_eq, decide_eq_false_iff_not, Bool.not_eq_true, Bool.not_eq_false, Bool.not_eq_true', Bool.not_eq_false', beq_iff_eq, bne_iff_ne, beq_eq_false_iff_ne, bne_eq_false_iff_eq, Int.not_lt, Int.not_le, ge_iff_le, gt_iff_lt] at h118
                      refine AM_condF rfl ?_
                      refine AM_skip ?_
                      refine AM_seq ?_
                      refine AM_region ?_
                      refine AL_p (x_assign rfl rfl) ?_
                      refine AL_nil ?_
                      refine AM_ret ?_
                      exact rfl
end Go.Proofs.Ytopffmncbeakkaa

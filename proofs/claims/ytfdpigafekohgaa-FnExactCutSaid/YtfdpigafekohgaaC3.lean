/- Lemmas of the walks, part 3. -/
import Derived.Test.YtfdpigafekohgaaC2
/- The walk of FnExactCut (printed by walk.py) -/
namespace Go.Proofs.Ytfdpigafekohgaa
open Go.RowKit
set_option linter.unusedVariables false
set_option linter.unusedSimpArgs false
set_option maxRecDepth 100000

set_option maxHeartbeats 4000000 in
theorem lawFnExactCut.walk (w : World) (a0 : Option Addr) (n0 p0 : Nat) (x0 : List Int) (b0 : List Nat) (h0 : SliceRep (intE .u8) w a0 n0 p0 x0 b0) (a1 : Option Addr) (n1 p1 : Nat) (x1 : List Int) (b1 : List Nat) (h1 : SliceRep (intE .u8) w a1 n1 p1 x1 b1) :
    Calls Try.prog 3 #[.slice a0 n0 p0, .slice a1 n1 p1] w fun e w' => e = .returned (.bool true) ∧ Below w.heap.size w w' := by
  refine AM_law (r := 4) Try.func3 rfl Try.ntmps3 rfl Try.results3 w _ (args := [.one (.sl (intE .u8) x0), .one (.sl (intE .u8) x1)]) ⟨arg_sl h0 h0.lt, arg_sl h1 h1.lt, trivial⟩ (fun B => ?_)
  refine AM_seq ?_
  refine AM_region ?_
  refine AL_p (x_assign rfl rfl) ?_
  refine AL_nil ?_
  refine AM_seq ?_
  refine AM_seq ?_
  refine AM_region ?_
  refine AL_p (x_move rfl rfl) ?_
  refine AL_p (x_len (E := 5) (n := 1) rfl rfl (by kernel_rfl)) ?_
  refine AL_b (x_gtr rfl rfl rfl) (fun b21 h21 => ?_)
  refine AL_nil ?_
  cases b21
  rotate_left
  · try simp only [tdy] at h21
    refine AM_condT rfl ?_
    refine AM_seq ?_
    refine AM_region ?_
    refine AL_p (x_assign rfl rfl) ?_
    refine AL_nil ?_
    refine AM_ret ?_
    exact rfl
  try simp only [tdy] at h21
  refine AM_condF rfl ?_
  refine AM_skip ?_
  refine AM_seq ?_
  refine AM_seq ?_
  refine AM_region ?_
  refine AL_p (x_move rfl rfl) ?_
  refine AL_p (x_len (E := 5) (n := 1) rfl rfl (by kernel_rfl)) ?_
  refine AL_b (x_gtr rfl rfl rfl) (fun b24 h24 => ?_)
  refine AL_nil ?_
  cases b24
  rotate_left
  · try simp only [tdy] at h24
    refine AM_condT rfl ?_
    refine AM_seq ?_
    refine AM_region ?_
    refine AL_p (x_assign rfl rfl) ?_
    refine AL_nil ?_
    refine AM_ret ?_
    exact rfl
  try simp only [tdy] at h24
  have s0 := (show x0.length ≤ 1048576 by omega)
  have s1 := (show x1.length ≤ 1048576 by omega)
  refine AM_condF rfl ?_
  refine AM_skip ?_
  refine AM_seq ?_
  refine AM_region ?_
  refine AL_p (x_move rfl rfl) ?_
  refine AL_p (x_callR rfl rfl rfl (toByteS_c x0 s0 100) rfl AllV.rf rfl rfl rfl rfl rfl) ?_
  refine AL_p (x_move rfl rfl) ?_
  refine AL_p (x_callR rfl rfl rfl (toByteS_c x1 s1 101) rfl AllV.rf rfl rfl rfl rfl rfl) ?_
  refine AL_p (x_callR rfl rfl rfl ((AC.renum (res := .tup [.one (.own 102), .one (.own 103), .one (.c (.bool (cut x0 x1).2))]) (L := [(102, some (.arr 34 partE (cut x0 x1).1.1 true)), (103, some (.arr 5 (intE .u8) (cut x0 x1).1.2 true))]) (r := rn [(102, 0), (103, 1)]) (cutS_c x0 x1) ⟨⟨_, rfl, BLe.rf⟩, ⟨_, rfl, BLe.rf⟩, trivial⟩ rfl)) rfl AllV.rf rfl rfl rfl rfl rfl) ?_
  refine AL_p (x_move rfl rfl) ?_
  refine AL_p (x_extract rfl rfl rfl) ?_
  refine AL_p (x_extract rfl rfl rfl) ?_
  refine AL_p (x_extract rfl rfl rfl) ?_
  refine AL_p (x_assign rfl rfl) ?_
  refine AL_p (x_assign rfl rfl) ?_
  refine AL_p (x_assign rfl rfl) ?_
  refine AL_nil ?_
  refine AM_raise (fun B' => [(0, .one (.slo B' (intE .u8) (x0))), (1, .one (.slo B' (intE .u8) (x1))), (5, .one (.slo B' partE ((cut x0 x1).1.1))), (6, .one (.slo B' (intE .u8) ((cut x0 x1).1.2))), (7, .one (.c _))]) (fun B' => ⟨⟨_, rfl, .sl⟩, ⟨_, rfl, .sl⟩, ⟨_, rfl, .own rfl⟩, ⟨_, rfl, .own rfl⟩, ⟨_, rfl, .c⟩, trivial⟩) (fun B' => ?_)
  refine AM_seq ?_
  refine AM_region ?_
  refine AL_p (x_move rfl rfl) ?_
  refine AL_p (x_callR rfl rfl rfl (toByteS_c x0 s0 104) rfl AllV.rf rfl rfl rfl rfl rfl) ?_
  refine AL_p (x_assign rfl rfl) ?_
  refine AL_nil ?_
  refine AM_seq ?_
  refine AM_region ?_
  refine AL_p (x_move rfl rfl) ?_
  refine AL_p (x_callR rfl rfl rfl (toByteS_c x1 s1 105) rfl AllV.rf rfl rfl rfl rfl rfl) ?_
  refine AL_p (x_assign rfl rfl) ?_
  refine AL_nil ?_
  refine AM_seq ?_
  refine AM_region ?_
  refine AL_p (x_move rfl rfl) ?_
  refine AL_p (x_move rfl rfl) ?_
  refine AL_p (x_callR rfl rfl rfl ((AC.renum (res := .tup [.one (.own 106), .one (.own 107), .one (.c (.bool (cut x0 x1).2))]) (L := [(106, some (.arr 34 partE (cut x0 x1).1.1 true)), (107, some (.arr 5 (intE .u8) (cut x0 x1).1.2 true))]) (r := rn [(106, 0), (107, 1)]) (cutI_c x0 x1) ⟨⟨_, rfl, BLe.rf⟩, ⟨_, rfl, BLe.rf⟩, trivial⟩ rfl)) rfl AllV.rf rfl rfl rfl rfl rfl) ?_
  refine AL_p (x_move rfl rfl) ?_
  refine AL_p (x_extract rfl rfl rfl) ?_
  refine AL_p (x_extract rfl rfl rfl) ?_
  refine AL_p (x_extract rfl rfl rfl) ?_
  refine AL_p (x_assign rfl rfl) ?_
  refine AL_p (x_assign rfl rfl) ?_
  refine AL_p (x_assign rfl rfl) ?_
  refine AL_nil ?_
  refine AM_seq ?_
  refine AM_seq ?_
  refine AM_region ?_
  refine AL_p (x_move rfl rfl) ?_
  refine AL_p (x_move rfl rfl) ?_
  refine AL_p (x_callR rfl rfl rfl (eqPartS_c ((cut x0 x1).1.1)) rfl AllV.rf rfl rfl rfl rfl rfl) ?_
  refine AL_p (x_not rfl rfl) ?_
  refine AL_p (x_move rfl rfl) ?_
  refine AL_g rfl rfl (x_move rfl rfl) ?_
  refine AL_g rfl rfl (x_move rfl rfl) ?_
  refine AL_g rfl rfl (x_callR rfl rfl rfl (eqByteS_c ((cut x0 x1).1.2)) rfl AllV.rf rfl rfl rfl rfl rfl) ?_
  refine AL_g rfl rfl (x_not rfl rfl) ?_
  refine AL_p (x_pickF rfl rfl rfl) ?_
  refine AL_p (x_move rfl rfl) ?_
  refine AL_g rfl rfl (x_move rfl rfl) ?_
  refine AL_g rfl rfl (x_move rfl rfl) ?_
  refine AL_gb rfl rfl (x_bneq rfl rfl rfl (by kernel_rfl)) (fun b58 h58 => ?_)
  refine AL_p (x_pickF rfl rfl rfl) ?_
  refine AL_nil ?_
  cases b58
  rotate_left
  · exfalso; first | (simp [ba_beq_self] at h58; done) | (simp at h58; omega)
  try simp only [tdy] at h58
  refine AM_condF rfl ?_
  refine AM_skip ?_
  refine AM_seq ?_
  refine AM_seq ?_
  refine AM_region ?_
  refine AL_p (x_move rfl rfl) ?_
  refine AL_p (x_move rfl rfl) ?_
  refine AL_p (x_callR rfl rfl rfl (toByteS_c x0 s0 108) rfl AllV.rf rfl rfl rfl rfl rfl) ?_
  refine AL_p (x_callR rfl rfl rfl (eqByteS_c (x0)) rfl AllV.rf rfl rfl rfl rfl rfl) ?_
  refine AL_p (x_not rfl rfl) ?_
  refine AL_nil ?_
  refine AM_condF rfl ?_
  refine AM_skip ?_
  refine AM_seq ?_
  refine AM_seq ?_
  refine AM_region ?_
  refine AL_p (x_move rfl rfl) ?_
  refine AL_p (x_move rfl rfl) ?_
  refine AL_p (x_callR rfl rfl rfl (toByteS_c x1 s1 109) rfl AllV.rf rfl rfl rfl rfl rfl) ?_
  refine AL_p (x_callR rfl rfl rfl (eqByteS_c (x1)) rfl AllV.rf rfl rfl rfl rfl rfl) ?_
  refine AL_p (x_not rfl rfl) ?_
  refine AL_nil ?_
  refine AM_condF rfl ?_
  refine AM_skip ?_
  refine AM_seq ?_
  refine AM_region ?_
  refine AL_p (x_assign rfl rfl) ?_
  refine AL_nil ?_
  refine AM_seq ?_
  refine AM_regionM ?_
  refine LM_p (x_move rfl rfl) ?_
  refine LM_p (x_move rfl rfl) ?_
  have n0 : cntL cntByte (x0) ≤ 1152921504606846976 := (by have h := cntL_le (c := cntByte) (M := 1) (xs := x0) (fun x _ => by simp [cntByte]); omega)
  have v0 := markL_cnt markByte markByte_cnt (x0) (1)
  refine LM_markO (z := x0) (z' := (markL markByte x0 (1)).1) [(0, _), (1, _), (5, _), (6, _), (7, _), (9, _), (10, _), (11, _), (12, _), (13, _)] [(105, some _), (106, some _), (107, some _)] rfl rfl rfl rfl ⟨_, _, Try.func17, rfl, rfl⟩ (fun w a n cap bs h hF => markByteS_any a n cap _ bs _ 0 w h hF (by omega) (by omega)) rfl (wf64 (by omega) (by omega)) ⟨⟨rfl, rfl⟩, ⟨rfl, rfl⟩, ⟨rfl, rfl⟩, ⟨rfl, rfl⟩, ⟨rfl, trivial⟩, ⟨rfl, rfl⟩, ⟨rfl, rfl⟩, ⟨rfl, rfl⟩, ⟨rfl, trivial⟩, ⟨rfl, trivial⟩, trivial⟩ ⟨⟨rfl, rfl, rfl⟩, ⟨rfl, rfl, rfl⟩, ⟨rfl, rfl, rfl⟩, trivial⟩ ?_
  refine LM_p (x_assign rfl rfl) ?_
  refine LM_nil ?_
  refine AM_seq ?_
  refine AM_regionM ?_
  refine LM_p (x_move rfl rfl) ?_
  refine LM_p (x_move rfl rfl) ?_
  have n1 : cntL cntByte (x1) ≤ 1152921504606846976 := (by have h := cntL_le (c := cntByte) (M := 1) (xs := x1) (fun x _ => by simp [cntByte]); omega)
  have v1 := markL_cnt markByte markByte_cnt (x1) ((markL markByte x0 (1)).2)
  refine LM_markO (z := x1) (z' := (markL markByte x1 ((markL markByte x0 (1)).2)).1) [(0, _), (1, _), (5, _), (6, _), (7, _), (10, _), (11, _), (12, _), (13, _)] [(106, some _), (107, some _)] rfl rfl rfl rfl ⟨_, _, Try.func17, rfl, rfl⟩ (fun w a n cap bs h hF => markByteS_any a n cap _ bs _ 0 w h hF (by omega) (by omega)) rfl (wf64 (by omega) (by omega)) ⟨⟨rfl, rfl⟩, ⟨rfl, rfl⟩, ⟨rfl, rfl⟩, ⟨rfl, rfl⟩, ⟨rfl, trivial⟩, ⟨rfl, rfl⟩, ⟨rfl, rfl⟩, ⟨rfl, trivial⟩, ⟨rfl, trivial⟩, trivial⟩ ⟨⟨rfl, rfl, rfl⟩, ⟨rfl, rfl, rfl⟩, trivial⟩ ?_
  refine LM_p (x_assign rfl rfl) ?_
  refine LM_nil ?_
  refine AM_seq ?_
  refine AM_seq ?_
  refine AM_region ?_
  refine AL_p (x_move rfl rfl) ?_
  refine AL_b (x_lss rfl rfl rfl) (fun b77 h77 => ?_)
  refine AL_p (x_move rfl rfl) ?_
  cases b77
  rotate_left
  · exfalso; first | (simp [ba_beq_self] at h77; done) | (simp at h77; omega)
  try simp only [tdy] at h77
  refine AL_g rfl rfl (x_move rfl rfl) ?_
  refine AL_g rfl rfl (x_move rfl rfl) ?_
  refine AL_g rfl rfl (x_callR rfl rfl rfl (eqPartS_c ((cut x0 x1).1.1)) rfl AllV.rf rfl rfl rfl rfl rfl) ?_
  refine AL_g rfl rfl (x_not rfl rfl) ?_
  refine AL_p (x_pickF rfl rfl rfl) ?_
  refine AL_p (x_move rfl rfl) ?_
  refine AL_g rfl rfl (x_move rfl rfl) ?_
  refine AL_g rfl rfl (x_move rfl rfl) ?_
  refine AL_g rfl rfl (x_callR rfl rfl rfl (eqByteS_c ((cut x0 x1).1.2)) rfl AllV.rf rfl rfl rfl rfl rfl) ?_
  refine AL_g rfl rfl (x_not rfl rfl) ?_
  refine AL_p (x_pickF rfl rfl rfl) ?_
  refine AL_p (x_move rfl rfl) ?_
  refine AL_g rfl rfl (x_move rfl rfl) ?_
  refine AL_g rfl rfl (x_move rfl rfl) ?_
  refine AL_gb rfl rfl (x_bneq rfl rfl rfl (by kernel_rfl)) (fun b93 h93 => ?_)
  refine AL_p (x_pickF rfl rfl rfl) ?_
  refine AL_nil ?_
  cases b93
  rotate_left
  · exfalso; first | (simp [ba_beq_self] at h93; done) | (simp at h93; omega)
  try simp only [tdy] at h93
  refine AM_condF rfl ?_
  refine AM_skip ?_
  refine AM_seq ?_
  refine AM_region ?_
  refine AL_p (x_assign rfl rfl) ?_
  refine AL_nil ?_
  refine AM_seq ?_
  refine AM_regionM ?_
  refine LM_p (x_move rfl rfl) ?_
  refine LM_p (x_move rfl rfl) ?_
  have n2 : cntL cntPart ((cut x0 x1).1.1) ≤ 1152921504606846976 := cut_cntP x0 x1
  have v2 := markL_cnt markPart markPart_cnt ((cut x0 x1).1.1) (1)
  refine LM_markOO (z := (cut x0 x1).1.1) (z' := (markL markPart (cut x0 x1).1.1 (1)).1) 10 [(0, _), (1, _), (5, _), (6, _), (7, _), (11, _), (14, _)] [(107, some _)] rfl rfl rfl rfl rfl ⟨_, _, Try.func18, rfl, rfl⟩ (fun w a n cap bs h hF => markPartS_any a n cap _ bs _ 0 w h hF (by omega) (by omega)) rfl (wf64 (by omega) (by omega)) ⟨⟨rfl, rfl⟩, ⟨rfl, rfl⟩, ⟨rfl, rfl⟩, ⟨rfl, rfl⟩, ⟨rfl, trivial⟩, ⟨rfl, rfl⟩, ⟨rfl, trivial⟩, trivial⟩ ⟨⟨rfl, rfl, rfl⟩, trivial⟩ rfl rfl rfl ?_
  refine LM_p (x_assign rfl rfl) ?_
  refine LM_nil ?_
  refine AM_seq ?_
  refine AM_regionM ?_
  refine LM_p (x_move rfl rfl) ?_
  refine LM_p (x_move rfl rfl) ?_
  have n3 : cntL cntByte ((cut x0 x1).1.2) ≤ 1152921504606846976 := cut_cntB x0 x1
  have v3 := markL_cnt markByte markByte_cnt ((cut x0 x1).1.2) ((markL markPart (cut x0 x1).1.1 (1)).2)
  refine LM_markOK2 (z := (cut x0 x1).1.2) (z' := (markL markByte (cut x0 x1).1.2 ((markL markPart (cut x0 x1).1.1 (1)).2)).1) 11 10 (fun B' => [(0, .one (.slo B' (intE .u8) (x0))), (1, .one (.slo B' (intE .u8) (x1))), (5, .one (.slo B' partE ((cut x0 x1).1.1))), (6, .one (.slo B' (intE .u8) ((cut x0 x1).1.2))), (7, .one (.c _)), (14, .one (.c _))]) rfl rfl rfl rfl rfl rfl rfl ⟨_, _, Try.func17, rfl, rfl⟩ (fun w a n cap bs h hF => markByteS_any a n cap _ bs _ 0 w h hF (by omega) (by omega)) rfl rfl (wf64 (by omega) (by omega)) (fun B' => ⟨⟨_, rfl, .slo⟩, ⟨_, rfl, .slo⟩, ⟨_, rfl, .slo⟩, ⟨_, rfl, .slo⟩, ⟨_, rfl, .c⟩, ⟨_, rfl, .c⟩, trivial⟩) (fun B' => ?_)
  refine LM_p (x_assign rfl rfl) ?_
  refine LM_nil ?_
  refine AM_seq ?_
  refine AM_region ?_
  refine AL_p (x_assign rfl rfl) ?_
  refine AL_nil ?_
  refine AM_seq ?_
  refine AM_region ?_
  refine AL_p (x_move rfl rfl) ?_
  refine AL_p (x_move rfl rfl) ?_
  refine AL_p (x_callR rfl rfl rfl (heldPartS_c ((cut x0 x1).1.1) _ (1) rfl (by omega) (by omega)) rfl AllV.rf rfl rfl rfl rfl rfl) ?_
  refine AL_p (x_assign rfl rfl) ?_
  refine AL_nil ?_
  refine AM_seq ?_
  refine AM_seq ?_
  refine AM_region ?_
  refine AL_p (x_move rfl rfl) ?_
  refine AL_b (x_lss rfl rfl rfl) (fun b105 h105 => ?_)
  refine AL_nil ?_
  cases b105
  rotate_left
  · exfalso; first | (simp [ba_beq_self] at h105; done) | (simp at h105; omega)
  try simp only [tdy] at h105
  refine AM_condF rfl ?_
  refine AM_skip ?_
  refine AM_seq ?_
  refine AM_region ?_
  refine AL_p (x_move rfl rfl) ?_
  refine AL_p (x_move rfl rfl) ?_
  refine AL_p (x_callR rfl rfl rfl (heldByteS_c ((cut x0 x1).1.2) _ ((markL markPart (cut x0 x1).1.1 (1)).2) rfl (by omega) (by omega)) rfl AllV.rf rfl rfl rfl rfl rfl) ?_
  refine AL_p (x_assign rfl rfl) ?_
  refine AL_nil ?_
  refine AM_seq ?_
  refine AM_seq ?_
  refine AM_region ?_
  refine AL_p (x_move rfl rfl) ?_
  refine AL_b (x_lss rfl rfl rfl) (fun b110 h110 => ?_)
  refine AL_nil ?_
  cases b110
  rotate_left
  · exfalso; first | (simp [ba_beq_self] at h110; done) | (simp at h110; omega)
  try simp only [tdy] at h110
  refine AM_condF rfl ?_
  refine AM_skip ?_
  refine AM_seq ?_
  refine AM_seq ?_
  refine AM_region ?_
  refine AL_p (x_move rfl rfl) ?_
  refine AL_p (x_move rfl rfl) ?_
  refine AL_b (x_neq rfl rfl rfl) (fun b113 h113 => ?_)
  refine AL_nil ?_
  cases b113
  rotate_left
  · exfalso; first | (simp [ba_beq_self] at h113; done) | (simp at h113; omega)
  try simp only [tdy] at h113
  refine AM_condF rfl ?_
  refine AM_skip ?_
  refine AM_seq ?_
  refine AM_region ?_
  refine AL_p (x_move rfl rfl) ?_
  refine AL_p (x_callR rfl rfl rfl (toByteS_c x0 s0 110) rfl AllV.rf rfl rfl rfl rfl rfl) ?_
  refine AL_p (x_move rfl rfl) ?_
  refine AL_p (x_callR rfl rfl rfl (toByteS_c x1 s1 111) rfl AllV.rf rfl rfl rfl rfl rfl) ?_
  refine AL_p (x_callR rfl rfl rfl ((AC.renum (res := .tup [.one (.own 112), .one (.own 113), .one (.c (.bool (cut x0 x1).2))]) (L := [(112, some (.arr 34 partE (cut x0 x1).1.1 true)), (113, some (.arr 5 (intE .u8) (cut x0 x1).1.2 true))]) (r := rn [(112, 0), (113, 1)]) (cutI_c x0 x1) ⟨⟨_, rfl, BLe.rf⟩, ⟨_, rfl, BLe.rf⟩, trivial⟩ rfl)) rfl AllV.rf rfl rfl rfl rfl rfl) ?_
  refine AL_p (x_move rfl rfl) ?_
  refine AL_p (x_extract rfl rfl rfl) ?_
  refine AL_p (x_extract rfl rfl rfl) ?_
  refine AL_p (x_extract rfl rfl rfl) ?_
  refine AL_p (x_assign rfl rfl) ?_
  refine AL_p (x_assign rfl rfl) ?_
  refine AL_p (x_assign rfl rfl) ?_
  refine AL_nil ?_
  refine AM_seq ?_
  refine AM_seq ?_
  refine AM_region ?_
  refine AL_p (x_move rfl rfl) ?_
  refine AL_p (x_move rfl rfl) ?_
  refine AL_p (x_callR rfl rfl rfl (eqPartS_c ((cut x0 x1).1.1)) rfl AllV.rf rfl rfl rfl rfl rfl) ?_
  refine AL_p (x_not rfl rfl) ?_
  refine AL_p (x_move rfl rfl) ?_
  refine AL_g rfl rfl (x_move rfl rfl) ?_
  refine AL_g rfl rfl (x_move rfl rfl) ?_
  refine AL_g rfl rfl (x_callR rfl rfl rfl (eqByteS_c ((cut x0 x1).1.2)) rfl AllV.rf rfl rfl rfl rfl rfl) ?_
  refine AL_g rfl rfl (x_not rfl rfl) ?_
  refine AL_p (x_pickF rfl rfl rfl) ?_
  refine AL_p (x_move rfl rfl) ?_
  refine AL_g rfl rfl (x_move rfl rfl) ?_
  refine AL_g rfl rfl (x_move rfl rfl) ?_
  refine AL_gb rfl rfl (x_bneq rfl rfl rfl (by kernel_rfl)) (fun b136 h136 => ?_)
  refine AL_p (x_pickF rfl rfl rfl) ?_
  refine AL_nil ?_
  cases b136
  rotate_left
  · exfalso; first | (simp [ba_beq_self] at h136; done) | (simp at h136; omega)
  try simp only [tdy] at h136
  refine AM_condF rfl ?_
  refine AM_skip ?_
  refine AM_seq ?_
  refine AM_region ?_
  refine AL_p (x_assign rfl rfl) ?_
  refine AL_nil ?_
  refine AM_seq ?_
  refine AM_region ?_
  refine AL_p (x_move rfl rfl) ?_
  refine AL_p (x_move rfl rfl) ?_
  refine AL_p (x_callR rfl rfl rfl (heldPartS_c ((cut x0 x1).1.1) _ (1) rfl (by omega) (by omega)) rfl AllV.rf rfl rfl rfl rfl rfl) ?_
  refine AL_p (x_assign rfl rfl) ?_
  refine AL_nil ?_
  refine AM_seq ?_
  refine AM_seq ?_
  refine AM_region ?_
  refine AL_p (x_move rfl rfl) ?_
  refine AL_b (x_lss rfl rfl rfl) (fun b142 h142 => ?_)
  refine AL_nil ?_
  cases b142
  rotate_left
  · exfalso; first | (simp [ba_beq_self] at h142; done) | (simp at h142; omega)
  try simp only [tdy] at h142
  refine AM_condF rfl ?_
  refine AM_skip ?_
  refine AM_seq ?_
  refine AM_region ?_
  refine AL_p (x_move rfl rfl) ?_
  refine AL_p (x_move rfl rfl) ?_
  refine AL_p (x_callR rfl rfl rfl (heldByteS_c ((cut x0 x1).1.2) _ ((markL markPart (cut x0 x1).1.1 (1)).2) rfl (by omega) (by omega)) rfl AllV.rf rfl rfl rfl rfl rfl) ?_
  refine AL_p (x_assign rfl rfl) ?_
  refine AL_nil ?_
  refine AM_seq ?_
  refine AM_seq ?_
  refine AM_region ?_
  refine AL_p (x_move rfl rfl) ?_
  refine AL_b (x_lss rfl rfl rfl) (fun b147 h147 => ?_)
  refine AL_nil ?_
  cases b147
  rotate_left
  · exfalso; first | (simp [ba_beq_self] at h147; done) | (simp at h147; omega)
  try simp only [tdy] at h147
  refine AM_condF rfl ?_
  refine AM_skip ?_
  refine AM_seq ?_
  refine AM_seq ?_
  refine AM_region ?_
  refine AL_p (x_move rfl rfl) ?_
  refine AL_p (x_move rfl rfl) ?_
  refine AL_b (x_neq rfl rfl rfl) (fun b150 h150 => ?_)
  refine AL_nil ?_
  cases b150
  rotate_left
  · exfalso; first | (simp [ba_beq_self] at h150; done) | (simp at h150; omega)
  try simp only [tdy] at h150
  refine AM_condF rfl ?_
  refine AM_skip ?_
  refine AM_seq ?_
  refine AM_region ?_
  refine AL_p (x_assign rfl rfl) ?_
  refine AL_nil ?_
  refine AM_ret ?_
  exact rfl
end Go.Proofs.Ytfdpigafekohgaa

/- Lemmas of the walks, part 6. -/
import Derived.Test.YtfdpigafekohgaaK5
/- Messages that are drawn (printed by walk.py) -/
namespace Go.Proofs.Ytfdpigafekohgaa
open Go.RowKit
set_option linter.unusedVariables false
set_option linter.unusedSimpArgs false
set_option maxRecDepth 100000

theorem strSelf (s : ByteArray) : (s == s) = true := by
  cases s
  have h : ∀ a : Array UInt8, (a == a) = true := fun a => by simp
  exact h _

set_option maxHeartbeats 4000000 in
theorem lawFnCut.fn (b : List Int) : AC Try.prog 4 [.one (.sl (intE .u8) b)] [] (.one (.c (.bool true))) [] := by
  refine AC_body1 Try.func4 rfl rfl Try.ntmps4 rfl Try.results4 ?_
  refine AW_seq ?_
  refine AW_regionN ?_
  refine AN_p (x_assign rfl rfl) ?_
  refine AN_nil ?_
  refine AW_seq ?_
  refine AW_seq ?_
  refine AW_regionN ?_
  refine AN_p (x_move rfl rfl) ?_
  refine AN_p (x_len (E := 5) (n := 1) rfl rfl (by kernel_rfl)) ?_
  refine AN_b (x_gtr rfl rfl rfl) (fun b21 h21 => ?_)
  refine AN_nil ?_
  cases b21
  rotate_left
  · try simp only [tdy] at h21
    refine AW_condT rfl ?_
    refine AW_seq ?_
    refine AW_regionN ?_
    refine AN_p (x_assign rfl rfl) ?_
    refine AN_nil ?_
    refine AW_ret ?_
    exact ⟨rn [], ⟨⟨⟨_, rfl, vle_bool rfl⟩, trivial⟩, trivial, trivial, rfl⟩⟩
  try simp only [tdy] at h21
  have hb : b.length ≤ 1048576 := by omega
  refine AW_condF rfl ?_
  refine AW_skip ?_
  refine AW_seq ?_
  refine AW_regionN ?_
  refine AN_p (x_move rfl rfl) ?_
  refine AN_x rfl rfl rfl (drawCut_x b hb) rfl rfl (fun _ => rfl) (fun _ => rfl) trivial (fun _ => rfl) ?_
  rintro ⟨hd24, pc24⟩ g24
  try dsimp only at g24
  try dsimp only
  have g1 := g24.1
  have g2 := g24.2
  refine AN_p (x_move rfl rfl) ?_
  refine AN_p (x_extract rfl rfl rfl) ?_
  refine AN_p (x_extract rfl rfl rfl) ?_
  refine AN_p (x_assign rfl rfl) ?_
  refine AN_p (x_assign rfl rfl) ?_
  refine AN_nil ?_
  refine AW_seq ?_
  refine AW_seq ?_
  refine AW_regionN ?_
  refine AN_p (x_move rfl rfl) ?_
  refine AN_p (x_len (E := 5) (n := 1) rfl rfl (by kernel_rfl)) ?_
  refine AN_b (x_gtr rfl rfl rfl) (fun b29 h29 => ?_)
  refine AN_nil ?_
  cases b29
  · try simp only [tdy] at h29
    refine AW_condF rfl ?_
    refine AW_skip ?_
    refine AW_seq ?_
    refine AW_regionN ?_
    refine AN_p (y_bslice0 (E := 5) (e := (intE .u8)) 100 rfl rfl rfl (by kernel_rfl)) ?_
    refine AN_p (x_move rfl rfl) ?_
    refine AN_p (y_append_sl 101 true (.inr intE_nofp) rfl rfl rfl rfl rfl rfl (by kernel_rfl) (by simp; omega)) ?_
    refine AN_p (x_move rfl rfl) ?_
    refine AN_p (y_append_sl 102 true (.inr intE_nofp) rfl rfl rfl rfl rfl rfl (by kernel_rfl) (by simp; omega)) ?_
    refine AN_p (x_callR rfl rfl rfl (AC.renum (res := .tup [.one (.own 103), .one (.own 104), .one (.c (.bool (cut ([]) ((([] ++ hd24) ++ pc24))).2))]) (L := [(103, some (.arr 34 partE (cut ([]) ((([] ++ hd24) ++ pc24))).1.1 true)), (104, some (.arr 5 (intE .u8) (cut ([]) ((([] ++ hd24) ++ pc24))).1.2 true))]) (r := rn [(103, 0), (104, 1)]) (cutI_c ([]) ((([] ++ hd24) ++ pc24))) ⟨⟨_, rfl, BLe.rf⟩, ⟨_, rfl, BLe.rf⟩, trivial⟩ rfl) rfl ⟨V1Le.one CLe.nil, V1Le.one CLe.rf, trivial⟩ rfl rfl rfl rfl rfl) ?_
    refine AN_p (x_move rfl rfl) ?_
    refine AN_p (x_extract rfl rfl rfl) ?_
    refine AN_p (x_extract rfl rfl rfl) ?_
    refine AN_b (x_extract rfl rfl rfl) (fun b41 h41 => ?_)
    refine AN_p (x_assign rfl rfl) ?_
    refine AN_p (x_assign rfl rfl) ?_
    refine AN_p (x_assign rfl rfl) ?_
    refine AN_nil ?_
    refine AW_seq ?_
    refine AW_regionN ?_
    refine AN_p (y_bslice0 (E := 5) (e := (intE .u8)) 105 rfl rfl rfl (by kernel_rfl)) ?_
    refine AN_p (x_move rfl rfl) ?_
    refine AN_p (y_append_sl 106 true (.inr intE_nofp) rfl rfl rfl rfl rfl rfl (by kernel_rfl) (by simp; omega)) ?_
    refine AN_p (x_move rfl rfl) ?_
    refine AN_p (y_append_sl 107 true (.inr intE_nofp) rfl rfl rfl rfl rfl rfl (by kernel_rfl) (by simp; omega)) ?_
    refine AN_p (x_callR rfl rfl rfl (AC.renum (res := .tup [.one (.own 108), .one (.own 109), .one (.c (.bool (cut ([]) ((([] ++ hd24) ++ pc24))).2))]) (L := [(108, some (.arr 34 partE (cut ([]) ((([] ++ hd24) ++ pc24))).1.1 true)), (109, some (.arr 5 (intE .u8) (cut ([]) ((([] ++ hd24) ++ pc24))).1.2 true))]) (r := rn [(108, 0), (109, 1)]) (cutS_c ([]) ((([] ++ hd24) ++ pc24))) ⟨⟨_, rfl, BLe.rf⟩, ⟨_, rfl, BLe.rf⟩, trivial⟩ rfl) rfl ⟨V1Le.one CLe.nil, V1Le.one CLe.rf, trivial⟩ rfl rfl rfl rfl rfl) ?_
    refine AN_p (x_move rfl rfl) ?_
    refine AN_p (x_extract rfl rfl rfl) ?_
    refine AN_p (x_extract rfl rfl rfl) ?_
    refine AN_b (x_extract rfl rfl rfl) (fun b51 h51 => ?_)
    refine AN_p (x_assign rfl rfl) ?_
    refine AN_p (x_assign rfl rfl) ?_
    refine AN_p (x_assign rfl rfl) ?_
    refine AN_nil ?_
    refine AW_seq ?_
    refine AW_seq ?_
    refine AW_shut 103 5 rfl rfl ?_
    refine AW_shut 104 6 rfl rfl ?_
    refine AW_regionN ?_
    refine AN_p (x_move rfl rfl) ?_
    refine AN_p (x_move rfl rfl) ?_
    refine AN_b (x_bneq rfl rfl rfl (by kernel_rfl)) (fun b54 h54 => ?_)
    refine AN_nil ?_
    cases b54
    rotate_left
    · exfalso; rw [← h41, ← h51] at h54; simp at h54
    try simp only [tdy] at h54
    refine AW_condF rfl ?_
    refine AW_skip ?_
    refine AW_seq ?_
    refine AW_regionN ?_
    refine AN_p (x_move rfl rfl) ?_
    refine AN_p (x_callR rfl rfl rfl (AC.renum (res := .tup [.one (.own 110), .one (.own 111), .one (.c (.bool (cut ([]) (hd24)).2))]) (L := [(110, some (.arr 34 partE (cut ([]) (hd24)).1.1 true)), (111, some (.arr 5 (intE .u8) (cut ([]) (hd24)).1.2 true))]) (r := rn [(110, 0), (111, 1)]) (cutI_c ([]) (hd24)) ⟨⟨_, rfl, BLe.rf⟩, ⟨_, rfl, BLe.rf⟩, trivial⟩ rfl) rfl ⟨V1Le.one CLe.nil, V1Le.one CLe.rf, trivial⟩ rfl rfl rfl rfl rfl) ?_
    refine AN_p (x_move rfl rfl) ?_
    refine AN_p (x_extract rfl rfl rfl) ?_
    refine AN_p (x_extract rfl rfl rfl) ?_
    refine AN_b (x_extract rfl rfl rfl) (fun b60 h60 => ?_)
    refine AN_p (x_assign rfl rfl) ?_
    refine AN_p (x_assign rfl rfl) ?_
    refine AN_p (x_assign rfl rfl) ?_
    refine AN_nil ?_
    refine AW_seq ?_
    refine AW_shut 110 11 rfl rfl ?_
    refine AW_shut 111 12 rfl rfl ?_
    refine AW_regionN ?_
    refine AN_p (x_move rfl rfl) ?_
    refine AN_p (x_move rfl rfl) ?_
    refine AN_p (x_callR rfl rfl rfl (AC.renum (res := .tup [.one (.own 112), .one (.own 113), .one (.c (.bool (cut ((cut [] hd24).1.2) (pc24)).2))]) (L := [(112, some (.arr 34 partE (cut ((cut [] hd24).1.2) (pc24)).1.1 true)), (113, some (.arr 5 (intE .u8) (cut ((cut [] hd24).1.2) (pc24)).1.2 true))]) (r := rn [(112, 0), (113, 1)]) (cutI_c ((cut [] hd24).1.2) (pc24)) ⟨⟨_, rfl, BLe.rf⟩, ⟨_, rfl, BLe.rf⟩, trivial⟩ rfl) rfl AllV.rf rfl rfl rfl rfl rfl) ?_
    refine AN_p (x_move rfl rfl) ?_
    refine AN_p (x_extract rfl rfl rfl) ?_
    refine AN_p (x_extract rfl rfl rfl) ?_
    refine AN_b (x_extract rfl rfl rfl) (fun b67 h67 => ?_)
    refine AN_p (x_assign rfl rfl) ?_
    refine AN_p (x_assign rfl rfl) ?_
    refine AN_p (x_assign rfl rfl) ?_
    refine AN_nil ?_
    refine AW_seq ?_
    refine AW_seq ?_
    refine AW_shut 112 14 rfl rfl ?_
    refine AW_shut 113 15 rfl rfl ?_
    refine AW_regionN ?_
    refine AN_p (x_move rfl rfl) ?_
    refine AN_p (x_not rfl rfl) ?_
    refine AN_nil ?_
    cases b41
    · try simp only [tdy] at h41
      have hl : hd24.length ≤ 300 := by first | omega | (simp; omega)
      have hp : pc24.length ≤ 50000 := by omega
      rw [List.nil_append] at h41
      refine AW_condT rfl ?_
      refine AW_seq ?_
      refine AW_regionN ?_
      refine AN_p (x_move rfl rfl) ?_
      refine AN_p (x_not rfl rfl) ?_
      refine AN_p (x_move rfl rfl) ?_
      cases b60
      · try simp only [tdy] at h60
        refine AN_o rfl rfl rfl rfl ?_
        refine AN_o rfl rfl rfl rfl ?_
        refine AN_p (x_pickT rfl rfl rfl) ?_
        refine AN_p (x_assign rfl rfl) ?_
        refine AN_nil ?_
        refine AW_ret ?_
        exact ⟨rn [], ⟨⟨⟨_, rfl, vle_bool rfl⟩, trivial⟩, trivial, trivial, rfl⟩⟩
      try simp only [tdy] at h60
      refine AN_g rfl rfl (x_move rfl rfl) ?_
      refine AN_g rfl rfl (x_not rfl rfl) ?_
      refine AN_p (x_pickF rfl rfl rfl) ?_
      refine AN_p (x_assign rfl rfl) ?_
      refine AN_nil ?_
      refine AW_ret ?_
      cases b67
      rotate_left
      · exfalso; have := cut_two_no hl hp h41 h60; rw [this] at h67; cases h67
      try simp only [tdy] at h67
      exact ⟨rn [], ⟨⟨⟨_, rfl, vle_bool rfl⟩, trivial⟩, trivial, trivial, rfl⟩⟩
    try simp only [tdy] at h41
    have hl : hd24.length ≤ 300 := by first | omega | (simp; omega)
    have hp : pc24.length ≤ 50000 := by omega
    rw [List.nil_append] at h41
    have c1 := (cut_two hl hp h41).1
    have c2 := (cut_two hl hp h41).2.1
    have c3 := (cut_two hl hp h41).2.2
    have n1 := cut_len [] hd24
    have n2 := cut_len (cut [] hd24).1.2 pc24
    refine AW_condF rfl ?_
    refine AW_skip ?_
    refine AW_seq ?_
    refine AW_seq ?_
    refine AW_regionN ?_
    refine AN_p (x_move rfl rfl) ?_
    refine AN_p (x_not rfl rfl) ?_
    refine AN_p (x_move rfl rfl) ?_
    cases b60
    · exfalso; rw [c1] at h60; cases h60
    try simp only [tdy] at h60
    refine AN_g rfl rfl (x_move rfl rfl) ?_
    refine AN_g rfl rfl (x_not rfl rfl) ?_
    refine AN_p (x_pickF rfl rfl rfl) ?_
    refine AN_p (x_move rfl rfl) ?_
    cases b67
    · exfalso; rw [c2] at h67; cases h67
    try simp only [tdy] at h67
    refine AN_g rfl rfl (x_move rfl rfl) ?_
    refine AN_g rfl rfl (x_len (E := 34) (n := 1) rfl rfl (by kernel_rfl)) ?_
    refine AN_g rfl rfl (x_move rfl rfl) ?_
    refine AN_g rfl rfl (x_len (E := 34) (n := 1) rfl rfl (by kernel_rfl)) ?_
    refine AN_g rfl rfl (x_move rfl rfl) ?_
    refine AN_g rfl rfl (x_len (E := 34) (n := 1) rfl rfl (by kernel_rfl)) ?_
    refine AN_g rfl rfl (x_add rfl rfl rfl (IntWalk.i64_in _ (by omega))) ?_
    refine AN_gb rfl rfl (x_neq rfl rfl rfl) (fun b90 h90 => ?_)
    refine AN_p (x_pickF rfl rfl rfl) ?_
    refine AN_p (x_move rfl rfl) ?_
    cases b90
    rotate_left
    · exfalso; simp only [List.nil_append] at h90; rw [c3] at h90; simp at h90
    try simp only [tdy] at h90
    refine AN_g rfl rfl (x_move rfl rfl) ?_
    refine AN_g rfl rfl (x_tostr (E := 5) rfl rfl (by kernel_rfl)) ?_
    refine AN_g rfl rfl (x_move rfl rfl) ?_
    refine AN_g rfl rfl (x_tostr (E := 5) rfl rfl (by kernel_rfl)) ?_
    refine AN_gb rfl rfl (x_sneq rfl rfl rfl) (fun b97 h97 => ?_)
    refine AN_p (x_pickF rfl rfl rfl) ?_
    refine AN_nil ?_
    cases b97
    rotate_left
    · exfalso; simp only [List.nil_append] at h97; simp [c3, strSelf] at h97
    try simp only [tdy] at h97
    refine AW_condF rfl ?_
    refine AW_skip ?_
    refine AW_seq ?_
    refine AW_seq ?_
    refine AW_regionN ?_
    refine AN_p (x_move rfl rfl) ?_
    refine AN_p (x_len (E := 34) (n := 1) rfl rfl (by kernel_rfl)) ?_
    refine AN_p (x_move rfl rfl) ?_
    refine AN_nil ?_
    refine AW_block ?_
    refine AW_loop2 (ι := {q : Nat // True}) (fun p => [(101, .one (.c (.int .i64 ((p.1) : Int))))]) (fun p => []) [5, 11, 14, 100] [102, 107, 108, 109] (fun p => (cut [] (([] ++ hd24) ++ pc24)).1.1.length - (p.1)) ⟨0, trivial⟩ (rn []) ?_ ?_
    exact ⟨by (repeat refine ⟨⟨_, rfl, by first | exact VLe.rf | exact vle_int (by dsimp only; omega)⟩, ?_⟩); exact trivial, by (repeat refine ⟨⟨_, rfl, by first | exact BLe.rf | exact BLe.box AllC.rf | exact BLe.arr (by exact rfl)⟩, ?_⟩); exact trivial, by repeat (first | exact trivial | refine ⟨⟨rfl, by first | (left; intro h; cases h) | (right; rfl), by first | exact (fun _ h => ⟨_, h⟩) | exact (fun _ _ => ⟨_, rfl⟩)⟩, ?_⟩), rfl⟩
    rintro ⟨k, hinv⟩
    dsimp only
    refine AW_seq ?_
    refine AW_regionN ?_
    refine AN_b (x_lss rfl rfl rfl) (fun b102 h102 => ?_)
    refine AN_nil ?_
    refine AW_seq ?_
    cases b102
    · try simp only [tdy] at h102
      refine AW_condF rfl ?_
      refine AW_exit (BQ_hit ?_)
      refine AW_seq ?_
      refine AW_regionN ?_
      refine AN_p (x_assign rfl rfl) ?_
      refine AN_nil ?_
      refine AW_ret ?_
      exact ⟨rn [], ⟨⟨⟨_, rfl, vle_bool rfl⟩, trivial⟩, trivial, trivial, rfl⟩⟩
    try simp only [tdy] at h102
    refine AW_condT rfl ?_
    refine AW_skip ?_
    refine AW_seq ?_
    refine AW_block ?_
    refine AW_seq ?_
    refine AW_regionN ?_
    refine AN_p (x_move rfl rfl) ?_
    refine AN_p (x_assign rfl rfl) ?_
    refine AN_nil ?_
    refine AW_seq ?_
    refine AW_regionN ?_
    refine AN_p (x_build (zs := [.slice none 0 0]) (places := [(0, 1)]) rfl (by kernel_rfl) rfl rfl rfl rfl rfl) ?_
    refine AN_p (x_alloc (z := .agg #[.slice none 0 0]) 114 rfl (by kernel_rfl) rfl rfl rfl rfl) ?_
    refine AN_p (x_store (n := 1) rfl rfl rfl rfl (by kernel_rfl) rfl rfl rfl) ?_
    refine AN_nil ?_
    refine AW_seq ?_
    refine AW_seq ?_
    refine AW_regionN ?_
    refine AN_p (x_move rfl rfl) ?_
    refine AN_p (x_move rfl rfl) ?_
    refine AN_p (x_len (E := 34) (n := 1) rfl rfl (by kernel_rfl)) ?_
    refine AN_b (x_lss rfl rfl rfl) (fun b108 h108 => ?_)
    refine AN_nil ?_
    cases b108
    rotate_left
    · try simp only [tdy] at h108
      refine AW_condT rfl ?_
      refine AW_regionN ?_
      refine AN_p (x_move rfl rfl) ?_
      refine AN_p (x_move rfl rfl) ?_
      refine AN_p (x_index (E := 34) (n := 1) rfl rfl rfl (by kernel_rfl) rfl (k := k) (by omega) (by omega)) ?_
      refine AN_p (x_eloadW (n := 1) rfl rfl (by kernel_rfl) rfl) ?_
      refine AN_p (x_store (n := 1) rfl rfl rfl rfl (by kernel_rfl) rfl rfl rfl) ?_
      refine AN_nil ?_
      refine AW_seq ?_
      refine AW_draw rfl ?_
      refine AL_p (x_field (off := 0) (o' := 0) rfl rfl rfl (by kernel_rfl) rfl) ?_
      refine AL_p (x_load1 rfl rfl rfl (by kernel_rfl) rfl) ?_
      refine AL_p (x_tostr (E := 5) rfl rfl (by kernel_rfl)) ?_
      refine AL_p (x_move rfl rfl) ?_
      refine AL_p (x_move rfl rfl) ?_
      refine AL_p (x_index (E := 34) (n := 1) rfl rfl rfl (by kernel_rfl) rfl (k := k) (by omega) (by omega)) ?_
      refine AL_p (x_efield (off := 0) (o' := 0) rfl rfl (by kernel_rfl) rfl) ?_
      refine AL_p (x_eload1 rfl rfl (by kernel_rfl) rfl) ?_
      refine AL_p (x_tostr (E := 5) rfl rfl (by kernel_rfl)) ?_
      refine AL_b (x_sneq rfl rfl rfl) (fun b129 h129 => ?_)
      refine AL_nild (by kernel_rfl) ?_
      cases b129
      rotate_left
      · exfalso; have hw : (cut [] (([] ++ hd24) ++ pc24)).1.1[k]'(by omega) = (cut [] hd24).1.1[k]'(by omega) := part_left (w := (cut [] (([] ++ hd24) ++ pc24)).1.1) (congrArg Prod.fst c3) (by omega) (by omega); rw [hw, strSelf] at h129; cases h129
      try simp only [tdy] at h129
      refine AW_condF rfl ?_
      refine AW_skip ?_
      refine AW_regionN ?_
      refine AN_p (x_add rfl rfl rfl (IntWalk.i64_in _ (by omega))) ?_
      refine AN_p (x_move rfl rfl) ?_
      refine AN_nil ?_
      refine ⟨⟨k + 1, trivial⟩, rn [], ?_, by dsimp only; omega⟩
      exact ⟨by (repeat refine ⟨⟨_, rfl, by first | exact VLe.rf | exact vle_int (by dsimp only; omega)⟩, ?_⟩); exact trivial, by (repeat refine ⟨⟨_, rfl, by first | exact BLe.rf | exact BLe.box AllC.rf | exact BLe.arr (by exact rfl)⟩, ?_⟩); exact trivial, by repeat (first | exact trivial | refine ⟨⟨rfl, by first | (left; intro h; cases h) | (right; rfl), by first | exact (fun _ h => ⟨_, h⟩) | exact (fun _ _ => ⟨_, rfl⟩)⟩, ?_⟩), rfl⟩
    try simp only [tdy] at h108
    refine AW_condF rfl ?_
    refine AW_regionN ?_
    refine AN_p (x_move rfl rfl) ?_
    refine AN_p (x_move rfl rfl) ?_
    refine AN_p (x_move rfl rfl) ?_
    refine AN_p (x_len (E := 34) (n := 1) rfl rfl (by kernel_rfl)) ?_
    refine AN_p (x_sub rfl rfl rfl (IntWalk.i64_in _ (by omega))) ?_
    refine AN_p (x_index (E := 34) (n := 1) rfl rfl rfl (by kernel_rfl) rfl (k := k - (cut [] hd24).1.1.length) (by omega) (by omega)) ?_
    refine AN_p (x_eloadW (n := 1) rfl rfl (by kernel_rfl) rfl) ?_
    refine AN_p (x_store (n := 1) rfl rfl rfl rfl (by kernel_rfl) rfl rfl rfl) ?_
    refine AN_nil ?_
    refine AW_seq ?_
    refine AW_draw rfl ?_
    refine AL_p (x_field (off := 0) (o' := 0) rfl rfl rfl (by kernel_rfl) rfl) ?_
    refine AL_p (x_load1 rfl rfl rfl (by kernel_rfl) rfl) ?_
    refine AL_p (x_tostr (E := 5) rfl rfl (by kernel_rfl)) ?_
    refine AL_p (x_move rfl rfl) ?_
    refine AL_p (x_move rfl rfl) ?_
    refine AL_p (x_index (E := 34) (n := 1) rfl rfl rfl (by kernel_rfl) rfl (k := k) (by omega) (by omega)) ?_
    refine AL_p (x_efield (off := 0) (o' := 0) rfl rfl (by kernel_rfl) rfl) ?_
    refine AL_p (x_eload1 rfl rfl (by kernel_rfl) rfl) ?_
    refine AL_p (x_tostr (E := 5) rfl rfl (by kernel_rfl)) ?_
    refine AL_b (x_sneq rfl rfl rfl) (fun b129 h129 => ?_)
    refine AL_nild (by kernel_rfl) ?_
    cases b129
    rotate_left
    · exfalso; have hw : (cut [] (([] ++ hd24) ++ pc24)).1.1[k]'(by omega) = (cut (cut [] hd24).1.2 pc24).1.1[k - (cut [] hd24).1.1.length]'(by omega) := part_right (w := (cut [] (([] ++ hd24) ++ pc24)).1.1) (congrArg Prod.fst c3) (by omega) (by omega) (by omega); rw [hw, strSelf] at h129; cases h129
    try simp only [tdy] at h129
    refine AW_condF rfl ?_
    refine AW_skip ?_
    refine AW_regionN ?_
    refine AN_p (x_add rfl rfl rfl (IntWalk.i64_in _ (by omega))) ?_
    refine AN_p (x_move rfl rfl) ?_
    refine AN_nil ?_
    refine ⟨⟨k + 1, trivial⟩, rn [], ?_, by dsimp only; omega⟩
    exact ⟨by (repeat refine ⟨⟨_, rfl, by first | exact VLe.rf | exact vle_int (by dsimp only; omega)⟩, ?_⟩); exact trivial, by (repeat refine ⟨⟨_, rfl, by first | exact BLe.rf | exact BLe.box AllC.rf | exact BLe.arr (by exact rfl)⟩, ?_⟩); exact trivial, by repeat (first | exact trivial | refine ⟨⟨rfl, by first | (left; intro h; cases h) | (right; rfl), by first | exact (fun _ h => ⟨_, h⟩) | exact (fun _ _ => ⟨_, rfl⟩)⟩, ?_⟩), rfl⟩
  try simp only [tdy] at h29
  refine AW_condT rfl ?_
  refine AW_regionN ?_
  refine AN_p (x_move rfl rfl) ?_
  refine AN_p (x_slice (E := 5) (n := 1) rfl rfl (by kernel_rfl) rfl .no (.yes (l := 100) rfl rfl) (by omega) (by first | exact Nat.le_refl _ | omega) rfl) ?_
  refine AN_p (x_assign rfl rfl) ?_
  refine AN_nil ?_
  refine AW_seq ?_
  refine AW_regionN ?_
  refine AN_p (y_bslice0 (E := 5) (e := (intE .u8)) 100 rfl rfl rfl (by kernel_rfl)) ?_
  refine AN_p (x_move rfl rfl) ?_
  refine AN_p (y_append_sl 101 true (.inr intE_nofp) rfl rfl rfl rfl rfl rfl (by kernel_rfl) (by simp; omega)) ?_
  refine AN_p (x_move rfl rfl) ?_
  refine AN_p (y_append_sl 102 true (.inr intE_nofp) rfl rfl rfl rfl rfl rfl (by kernel_rfl) (by simp; omega)) ?_
  refine AN_p (x_callR rfl rfl rfl (AC.renum (res := .tup [.one (.own 103), .one (.own 104), .one (.c (.bool (cut ([]) ((([] ++ (hd24.take 100)) ++ pc24))).2))]) (L := [(103, some (.arr 34 partE (cut ([]) ((([] ++ (hd24.take 100)) ++ pc24))).1.1 true)), (104, some (.arr 5 (intE .u8) (cut ([]) ((([] ++ (hd24.take 100)) ++ pc24))).1.2 true))]) (r := rn [(103, 0), (104, 1)]) (cutI_c ([]) ((([] ++ (hd24.take 100)) ++ pc24))) ⟨⟨_, rfl, BLe.rf⟩, ⟨_, rfl, BLe.rf⟩, trivial⟩ rfl) rfl ⟨V1Le.one CLe.nil, V1Le.one CLe.rf, trivial⟩ rfl rfl rfl rfl rfl) ?_
  refine AN_p (x_move rfl rfl) ?_
  refine AN_p (x_extract rfl rfl rfl) ?_
  refine AN_p (x_extract rfl rfl rfl) ?_
  refine AN_b (x_extract rfl rfl rfl) (fun b41 h41 => ?_)
  refine AN_p (x_assign rfl rfl) ?_
  refine AN_p (x_assign rfl rfl) ?_
  refine AN_p (x_assign rfl rfl) ?_
  refine AN_nil ?_
  refine AW_seq ?_
  refine AW_regionN ?_
  refine AN_p (y_bslice0 (E := 5) (e := (intE .u8)) 105 rfl rfl rfl (by kernel_rfl)) ?_
  refine AN_p (x_move rfl rfl) ?_
  refine AN_p (y_append_sl 106 true (.inr intE_nofp) rfl rfl rfl rfl rfl rfl (by kernel_rfl) (by simp; omega)) ?_
  refine AN_p (x_move rfl rfl) ?_
  refine AN_p (y_append_sl 107 true (.inr intE_nofp) rfl rfl rfl rfl rfl rfl (by kernel_rfl) (by simp; omega)) ?_
  refine AN_p (x_callR rfl rfl rfl (AC.renum (res := .tup [.one (.own 108), .one (.own 109), .one (.c (.bool (cut ([]) ((([] ++ (hd24.take 100)) ++ pc24))).2))]) (L := [(108, some (.arr 34 partE (cut ([]) ((([] ++ (hd24.take 100)) ++ pc24))).1.1 true)), (109, some (.arr 5 (intE .u8) (cut ([]) ((([] ++ (hd24.take 100)) ++ pc24))).1.2 true))]) (r := rn [(108, 0), (109, 1)]) (cutS_c ([]) ((([] ++ (hd24.take 100)) ++ pc24))) ⟨⟨_, rfl, BLe.rf⟩, ⟨_, rfl, BLe.rf⟩, trivial⟩ rfl) rfl ⟨V1Le.one CLe.nil, V1Le.one CLe.rf, trivial⟩ rfl rfl rfl rfl rfl) ?_
  refine AN_p (x_move rfl rfl) ?_
  refine AN_p (x_extract rfl rfl rfl) ?_
  refine AN_p (x_extract rfl rfl rfl) ?_
  refine AN_b (x_extract rfl rfl rfl) (fun b51 h51 => ?_)
  refine AN_p (x_assign rfl rfl) ?_
  refine AN_p (x_assign rfl rfl) ?_
  refine AN_p (x_assign rfl rfl) ?_
  refine AN_nil ?_
  refine AW_seq ?_
  refine AW_seq ?_
  refine AW_shut 103 5 rfl rfl ?_
  refine AW_shut 104 6 rfl rfl ?_
  refine AW_regionN ?_
  refine AN_p (x_move rfl rfl) ?_
  refine AN_p (x_move rfl rfl) ?_
  refine AN_b (x_bneq rfl rfl rfl (by kernel_rfl)) (fun b54 h54 => ?_)
  refine AN_nil ?_
  cases b54
  rotate_left
  · exfalso; rw [← h41, ← h51] at h54; simp at h54
  try simp only [tdy] at h54
  refine AW_condF rfl ?_
  refine AW_skip ?_
  refine AW_seq ?_
  refine AW_regionN ?_
  refine AN_p (x_move rfl rfl) ?_
  refine AN_p (x_callR rfl rfl rfl (AC.renum (res := .tup [.one (.own 110), .one (.own 111), .one (.c (.bool (cut ([]) ((hd24.take 100))).2))]) (L := [(110, some (.arr 34 partE (cut ([]) ((hd24.take 100))).1.1 true)), (111, some (.arr 5 (intE .u8) (cut ([]) ((hd24.take 100))).1.2 true))]) (r := rn [(110, 0), (111, 1)]) (cutI_c ([]) ((hd24.take 100))) ⟨⟨_, rfl, BLe.rf⟩, ⟨_, rfl, BLe.rf⟩, trivial⟩ rfl) rfl ⟨V1Le.one CLe.nil, V1Le.one CLe.rf, trivial⟩ rfl rfl rfl rfl rfl) ?_
  refine AN_p (x_move rfl rfl) ?_
  refine AN_p (x_extract rfl rfl rfl) ?_
  refine AN_p (x_extract rfl rfl rfl) ?_
  refine AN_b (x_extract rfl rfl rfl) (fun b60 h60 => ?_)
  refine AN_p (x_assign rfl rfl) ?_
  refine AN_p (x_assign rfl rfl) ?_
  refine AN_p (x_assign rfl rfl) ?_
  refine AN_nil ?_
  refine AW_seq ?_
  refine AW_shut 110 11 rfl rfl ?_
  refine AW_shut 111 12 rfl rfl ?_
  refine AW_regionN ?_
  refine AN_p (x_move rfl rfl) ?_
  refine AN_p (x_move rfl rfl) ?_
  refine AN_p (x_callR rfl rfl rfl (AC.renum (res := .tup [.one (.own 112), .one (.own 113), .one (.c (.bool (cut ((cut [] (hd24.take 100)).1.2) (pc24)).2))]) (L := [(112, some (.arr 34 partE (cut ((cut [] (hd24.take 100)).1.2) (pc24)).1.1 true)), (113, some (.arr 5 (intE .u8) (cut ((cut [] (hd24.take 100)).1.2) (pc24)).1.2 true))]) (r := rn [(112, 0), (113, 1)]) (cutI_c ((cut [] (hd24.take 100)).1.2) (pc24)) ⟨⟨_, rfl, BLe.rf⟩, ⟨_, rfl, BLe.rf⟩, trivial⟩ rfl) rfl AllV.rf rfl rfl rfl rfl rfl) ?_
  refine AN_p (x_move rfl rfl) ?_
  refine AN_p (x_extract rfl rfl rfl) ?_
  refine AN_p (x_extract rfl rfl rfl) ?_
  refine AN_b (x_extract rfl rfl rfl) (fun b67 h67 => ?_)
  refine AN_p (x_assign rfl rfl) ?_
  refine AN_p (x_assign rfl rfl) ?_
  refine AN_p (x_assign rfl rfl) ?_
  refine AN_nil ?_
  refine AW_seq ?_
  refine AW_seq ?_
  refine AW_shut 112 14 rfl rfl ?_
  refine AW_shut 113 15 rfl rfl ?_
  refine AW_regionN ?_
  refine AN_p (x_move rfl rfl) ?_
  refine AN_p (x_not rfl rfl) ?_
  refine AN_nil ?_
  cases b41
  · try simp only [tdy] at h41
    have hl : (hd24.take 100).length ≤ 300 := by first | omega | (simp; omega)
    have hp : pc24.length ≤ 50000 := by omega
    rw [List.nil_append] at h41
    refine AW_condT rfl ?_
    refine AW_seq ?_
    refine AW_regionN ?_
    refine AN_p (x_move rfl rfl) ?_
    refine AN_p (x_not rfl rfl) ?_
    refine AN_p (x_move rfl rfl) ?_
    cases b60
    · try simp only [tdy] at h60
      refine AN_o rfl rfl rfl rfl ?_
      refine AN_o rfl rfl rfl rfl ?_
      refine AN_p (x_pickT rfl rfl rfl) ?_
      refine AN_p (x_assign rfl rfl) ?_
      refine AN_nil ?_
      refine AW_ret ?_
      exact ⟨rn [], ⟨⟨⟨_, rfl, vle_bool rfl⟩, trivial⟩, trivial, trivial, rfl⟩⟩
    try simp only [tdy] at h60
    refine AN_g rfl rfl (x_move rfl rfl) ?_
    refine AN_g rfl rfl (x_not rfl rfl) ?_
    refine AN_p (x_pickF rfl rfl rfl) ?_
    refine AN_p (x_assign rfl rfl) ?_
    refine AN_nil ?_
    refine AW_ret ?_
    cases b67
    rotate_left
    · exfalso; have := cut_two_no hl hp h41 h60; rw [this] at h67; cases h67
    try simp only [tdy] at h67
    exact ⟨rn [], ⟨⟨⟨_, rfl, vle_bool rfl⟩, trivial⟩, trivial, trivial, rfl⟩⟩
  try simp only [tdy] at h41
  have hl : (hd24.take 100).length ≤ 300 := by first | omega | (simp; omega)
  have hp : pc24.length ≤ 50000 := by omega
  rw [List.nil_append] at h41
  have c1 := (cut_two hl hp h41).1
  have c2 := (cut_two hl hp h41).2.1
  have c3 := (cut_two hl hp h41).2.2
  have n1 := cut_len [] (hd24.take 100)
  have n2 := cut_len (cut [] (hd24.take 100)).1.2 pc24
  refine AW_condF rfl ?_
  refine AW_skip ?_
  refine AW_seq ?_
  refine AW_seq ?_
  refine AW_regionN ?_
  refine AN_p (x_move rfl rfl) ?_
  refine AN_p (x_not rfl rfl) ?_
  refine AN_p (x_move rfl rfl) ?_
  cases b60
  · exfalso; rw [c1] at h60; cases h60
  try simp only [tdy] at h60
  refine AN_g rfl rfl (x_move rfl rfl) ?_
  refine AN_g rfl rfl (x_not rfl rfl) ?_
  refine AN_p (x_pickF rfl rfl rfl) ?_
  refine AN_p (x_move rfl rfl) ?_
  cases b67
  · exfalso; rw [c2] at h67; cases h67
  try simp only [tdy] at h67
  refine AN_g rfl rfl (x_move rfl rfl) ?_
  refine AN_g rfl rfl (x_len (E := 34) (n := 1) rfl rfl (by kernel_rfl)) ?_
  refine AN_g rfl rfl (x_move rfl rfl) ?_
  refine AN_g rfl rfl (x_len (E := 34) (n := 1) rfl rfl (by kernel_rfl)) ?_
  refine AN_g rfl rfl (x_move rfl rfl) ?_
  refine AN_g rfl rfl (x_len (E := 34) (n := 1) rfl rfl (by kernel_rfl)) ?_
  refine AN_g rfl rfl (x_add rfl rfl rfl (IntWalk.i64_in _ (by omega))) ?_
  refine AN_gb rfl rfl (x_neq rfl rfl rfl) (fun b90 h90 => ?_)
  refine AN_p (x_pickF rfl rfl rfl) ?_
  refine AN_p (x_move rfl rfl) ?_
  cases b90
  rotate_left
  · exfalso; simp only [List.nil_append] at h90; rw [c3] at h90; simp at h90
  try simp only [tdy] at h90
  refine AN_g rfl rfl (x_move rfl rfl) ?_
  refine AN_g rfl rfl (x_tostr (E := 5) rfl rfl (by kernel_rfl)) ?_
  refine AN_g rfl rfl (x_move rfl rfl) ?_
  refine AN_g rfl rfl (x_tostr (E := 5) rfl rfl (by kernel_rfl)) ?_
  refine AN_gb rfl rfl (x_sneq rfl rfl rfl) (fun b97 h97 => ?_)
  refine AN_p (x_pickF rfl rfl rfl) ?_
  refine AN_nil ?_
  cases b97
  rotate_left
  · exfalso; simp only [List.nil_append] at h97; simp [c3, strSelf] at h97
  try simp only [tdy] at h97
  refine AW_condF rfl ?_
  refine AW_skip ?_
  refine AW_seq ?_
  refine AW_seq ?_
  refine AW_regionN ?_
  refine AN_p (x_move rfl rfl) ?_
  refine AN_p (x_len (E := 34) (n := 1) rfl rfl (by kernel_rfl)) ?_
  refine AN_p (x_move rfl rfl) ?_
  refine AN_nil ?_
  refine AW_block ?_
  refine AW_loop2 (ι := {q : Nat // True}) (fun p => [(101, .one (.c (.int .i64 ((p.1) : Int))))]) (fun p => []) [5, 11, 14, 100] [102, 107, 108, 109] (fun p => (cut [] (([] ++ (hd24.take 100)) ++ pc24)).1.1.length - (p.1)) ⟨0, trivial⟩ (rn []) ?_ ?_
  exact ⟨by (repeat refine ⟨⟨_, rfl, by first | exact VLe.rf | exact vle_int (by dsimp only; omega)⟩, ?_⟩); exact trivial, by (repeat refine ⟨⟨_, rfl, by first | exact BLe.rf | exact BLe.box AllC.rf | exact BLe.arr (by exact rfl)⟩, ?_⟩); exact trivial, by repeat (first | exact trivial | refine ⟨⟨rfl, by first | (left; intro h; cases h) | (right; rfl), by first | exact (fun _ h => ⟨_, h⟩) | exact (fun _ _ => ⟨_, rfl⟩)⟩, ?_⟩), rfl⟩
  rintro ⟨k, hinv⟩
  dsimp only
  refine AW_seq ?_
  refine AW_regionN ?_
  refine AN_b (x_lss rfl rfl rfl) (fun b102 h102 => ?_)
  refine AN_nil ?_
  refine AW_seq ?_
  cases b102
  · try simp only [tdy] at h102
    refine AW_condF rfl ?_
    refine AW_exit (BQ_hit ?_)
    refine AW_seq ?_
    refine AW_regionN ?_
    refine AN_p (x_assign rfl rfl) ?_
    refine AN_nil ?_
    refine AW_ret ?_
    exact ⟨rn [], ⟨⟨⟨_, rfl, vle_bool rfl⟩, trivial⟩, trivial, trivial, rfl⟩⟩
  try simp only [tdy] at h102
  refine AW_condT rfl ?_
  refine AW_skip ?_
  refine AW_seq ?_
  refine AW_block ?_
  refine AW_seq ?_
  refine AW_regionN ?_
  refine AN_p (x_move rfl rfl) ?_
  refine AN_p (x_assign rfl rfl) ?_
  refine AN_nil ?_
  refine AW_seq ?_
  refine AW_regionN ?_
  refine AN_p (x_build (zs := [.slice none 0 0]) (places := [(0, 1)]) rfl (by kernel_rfl) rfl rfl rfl rfl rfl) ?_
  refine AN_p (x_alloc (z := .agg #[.slice none 0 0]) 114 rfl (by kernel_rfl) rfl rfl rfl rfl) ?_
  refine AN_p (x_store (n := 1) rfl rfl rfl rfl (by kernel_rfl) rfl rfl rfl) ?_
  refine AN_nil ?_
  refine AW_seq ?_
  refine AW_seq ?_
  refine AW_regionN ?_
  refine AN_p (x_move rfl rfl) ?_
  refine AN_p (x_move rfl rfl) ?_
  refine AN_p (x_len (E := 34) (n := 1) rfl rfl (by kernel_rfl)) ?_
  refine AN_b (x_lss rfl rfl rfl) (fun b108 h108 => ?_)
  refine AN_nil ?_
  cases b108
  rotate_left
  · try simp only [tdy] at h108
    refine AW_condT rfl ?_
    refine AW_regionN ?_
    refine AN_p (x_move rfl rfl) ?_
    refine AN_p (x_move rfl rfl) ?_
    refine AN_p (x_index (E := 34) (n := 1) rfl rfl rfl (by kernel_rfl) rfl (k := k) (by omega) (by omega)) ?_
    refine AN_p (x_eloadW (n := 1) rfl rfl (by kernel_rfl) rfl) ?_
    refine AN_p (x_store (n := 1) rfl rfl rfl rfl (by kernel_rfl) rfl rfl rfl) ?_
    refine AN_nil ?_
    refine AW_seq ?_
    refine AW_draw rfl ?_
    refine AL_p (x_field (off := 0) (o' := 0) rfl rfl rfl (by kernel_rfl) rfl) ?_
    refine AL_p (x_load1 rfl rfl rfl (by kernel_rfl) rfl) ?_
    refine AL_p (x_tostr (E := 5) rfl rfl (by kernel_rfl)) ?_
    refine AL_p (x_move rfl rfl) ?_
    refine AL_p (x_move rfl rfl) ?_
    refine AL_p (x_index (E := 34) (n := 1) rfl rfl rfl (by kernel_rfl) rfl (k := k) (by omega) (by omega)) ?_
    refine AL_p (x_efield (off := 0) (o' := 0) rfl rfl (by kernel_rfl) rfl) ?_
    refine AL_p (x_eload1 rfl rfl (by kernel_rfl) rfl) ?_
    refine AL_p (x_tostr (E := 5) rfl rfl (by kernel_rfl)) ?_
    refine AL_b (x_sneq rfl rfl rfl) (fun b129 h129 => ?_)
    refine AL_nild (by kernel_rfl) ?_
    cases b129
    rotate_left
    · exfalso; have hw : (cut [] (([] ++ (hd24.take 100)) ++ pc24)).1.1[k]'(by omega) = (cut [] (hd24.take 100)).1.1[k]'(by omega) := part_left (w := (cut [] (([] ++ (hd24.take 100)) ++ pc24)).1.1) (congrArg Prod.fst c3) (by omega) (by omega); rw [hw, strSelf] at h129; cases h129
    try simp only [tdy] at h129
    refine AW_condF rfl ?_
    refine AW_skip ?_
    refine AW_regionN ?_
    refine AN_p (x_add rfl rfl rfl (IntWalk.i64_in _ (by omega))) ?_
    refine AN_p (x_move rfl rfl) ?_
    refine AN_nil ?_
    refine ⟨⟨k + 1, trivial⟩, rn [], ?_, by dsimp only; omega⟩
    exact ⟨by (repeat refine ⟨⟨_, rfl, by first | exact VLe.rf | exact vle_int (by dsimp only; omega)⟩, ?_⟩); exact trivial, by (repeat refine ⟨⟨_, rfl, by first | exact BLe.rf | exact BLe.box AllC.rf | exact BLe.arr (by exact rfl)⟩, ?_⟩); exact trivial, by repeat (first | exact trivial | refine ⟨⟨rfl, by first | (left; intro h; cases h) | (right; rfl), by first | exact (fun _ h => ⟨_, h⟩) | exact (fun _ _ => ⟨_, rfl⟩)⟩, ?_⟩), rfl⟩
  try simp only [tdy] at h108
  refine AW_condF rfl ?_
  refine AW_regionN ?_
  refine AN_p (x_move rfl rfl) ?_
  refine AN_p (x_move rfl rfl) ?_
  refine AN_p (x_move rfl rfl) ?_
  refine AN_p (x_len (E := 34) (n := 1) rfl rfl (by kernel_rfl)) ?_
  refine AN_p (x_sub rfl rfl rfl (IntWalk.i64_in _ (by omega))) ?_
  refine AN_p (x_index (E := 34) (n := 1) rfl rfl rfl (by kernel_rfl) rfl (k := k - (cut [] (hd24.take 100)).1.1.length) (by omega) (by omega)) ?_
  refine AN_p (x_eloadW (n := 1) rfl rfl (by kernel_rfl) rfl) ?_
  refine AN_p (x_store (n := 1) rfl rfl rfl rfl (by kernel_rfl) rfl rfl rfl) ?_
  refine AN_nil ?_
  refine AW_seq ?_
  refine AW_draw rfl ?_
  refine AL_p (x_field (off := 0) (o' := 0) rfl rfl rfl (by kernel_rfl) rfl) ?_
  refine AL_p (x_load1 rfl rfl rfl (by kernel_rfl) rfl) ?_
  refine AL_p (x_tostr (E := 5) rfl rfl (by kernel_rfl)) ?_
  refine AL_p (x_move rfl rfl) ?_
  refine AL_p (x_move rfl rfl) ?_
  refine AL_p (x_index (E := 34) (n := 1) rfl rfl rfl (by kernel_rfl) rfl (k := k) (by omega) (by omega)) ?_
  refine AL_p (x_efield (off := 0) (o' := 0) rfl rfl (by kernel_rfl) rfl) ?_
  refine AL_p (x_eload1 rfl rfl (by kernel_rfl) rfl) ?_
  refine AL_p (x_tostr (E := 5) rfl rfl (by kernel_rfl)) ?_
  refine AL_b (x_sneq rfl rfl rfl) (fun b129 h129 => ?_)
  refine AL_nild (by kernel_rfl) ?_
  cases b129
  rotate_left
  · exfalso; have hw : (cut [] (([] ++ (hd24.take 100)) ++ pc24)).1.1[k]'(by omega) = (cut (cut [] (hd24.take 100)).1.2 pc24).1.1[k - (cut [] (hd24.take 100)).1.1.length]'(by omega) := part_right (w := (cut [] (([] ++ (hd24.take 100)) ++ pc24)).1.1) (congrArg Prod.fst c3) (by omega) (by omega) (by omega); rw [hw, strSelf] at h129; cases h129
  try simp only [tdy] at h129
  refine AW_condF rfl ?_
  refine AW_skip ?_
  refine AW_regionN ?_
  refine AN_p (x_add rfl rfl rfl (IntWalk.i64_in _ (by omega))) ?_
  refine AN_p (x_move rfl rfl) ?_
  refine AN_nil ?_
  refine ⟨⟨k + 1, trivial⟩, rn [], ?_, by dsimp only; omega⟩
  exact ⟨by (repeat refine ⟨⟨_, rfl, by first | exact VLe.rf | exact vle_int (by dsimp only; omega)⟩, ?_⟩); exact trivial, by (repeat refine ⟨⟨_, rfl, by first | exact BLe.rf | exact BLe.box AllC.rf | exact BLe.arr (by exact rfl)⟩, ?_⟩); exact trivial, by repeat (first | exact trivial | refine ⟨⟨rfl, by first | (left; intro h; cases h) | (right; rfl), by first | exact (fun _ h => ⟨_, h⟩) | exact (fun _ _ => ⟨_, rfl⟩)⟩, ?_⟩), rfl⟩
theorem lawFnCut.walk (w : World) (a0 : Option Addr) (n0 c0 : Nat) (x0 : List Int) (bs0 : List Nat) (g0 : SliceRep (intE .u8) w a0 n0 c0 x0 bs0) : Calls Try.prog 4 #[.slice a0 n0 c0] w fun e w' => e = .returned (.bool true) ∧ Below w.heap.size w w' :=
  (lawFnCut.fn x0).calls w _ ⟨arg_sl g0 (fun i hi => (sliceE (intE .u8)).lt (sliceE_iff.2 g0) i hi), trivial⟩
end Go.Proofs.Ytfdpigafekohgaa

/- Lemmas of the walks, part 6. -/
import Derived.Test.YtkemjhlbokldhaaC5
/- Tokens are read by the reference (printed by walk.py) -/
namespace Go.Proofs.Ytkemjhlbokldhaa
open Go.RowKit
set_option linter.unusedVariables false
set_option linter.unusedSimpArgs false
set_option maxRecDepth 100000

set_option maxHeartbeats 4000000 in
theorem sFault_c (tk : List Tokent) (e : Int) (st : PS) (hm : tk.length ≤ 1048576) (hi : st.i ≤ tk.length) (c : Int) : AC Try.prog 55 [.one (.ptr 200 0), .one (.c (.int .i64 (c)))] [(200, some (psB tk e st))] (.tup []) [(200, some (psB tk e (faultP tk e c st)))] := by
  refine AC_body0 Try.func55 rfl rfl Try.ntmps55 rfl Try.results55 ?_
  refine AW_seq ?_
  refine AW_seq ?_
  refine AW_region ?_
  refine AL_p (x_move rfl rfl) ?_
  refine AL_p (x_nilc rfl rfl rfl) ?_
  refine AL_p (x_field (off := 3) (o' := 3) rfl rfl rfl (by kernel_rfl) rfl) ?_
  refine AL_p (x_load1 rfl rfl rfl (by kernel_rfl) rfl) ?_
  refine AL_b (x_neq rfl rfl rfl) (fun b8 h8 => ?_)
  refine AL_nil ?_
  cases b8
  rotate_left
  · try simp only [tdy] at h8
    have hno := fault_bad (tk := tk) (e := e) (c := c) (st := st) (by omega)
    refine AW_condT rfl ?_
    refine AW_ret ?_
    exact ⟨rn [], ⟨trivial, ⟨⟨_, rfl, by first | exact BLe.rf | exact ble_eq (by rw [hno]; first | done | rfl)⟩, trivial⟩, by repeat (first | exact trivial | refine ⟨⟨rfl, by first | (left; intro h; cases h) | (right; rfl), by first | exact (fun _ h => ⟨_, h⟩) | exact (fun _ _ => ⟨_, rfl⟩) | (intro _ h; cases h)⟩, ?_⟩), rfl⟩⟩
  try simp only [tdy] at h8
  have hn1 := fault_ok (tk := tk) (e := e) (c := c) (st := st) (by omega)
  refine AW_condF rfl ?_
  refine AW_skip ?_
  refine AW_seq ?_
  refine AW_region ?_
  refine AL_p (x_move rfl rfl) ?_
  refine AL_p (x_move rfl rfl) ?_
  refine AL_p (x_nilc rfl rfl rfl) ?_
  refine AL_p (x_field (off := 3) (o' := 3) rfl rfl rfl (by kernel_rfl) rfl) ?_
  refine AL_p (x_store (n := 1) rfl rfl rfl rfl (by kernel_rfl) rfl rfl rfl) ?_
  refine AL_nil ?_
  refine AW_seq ?_
  refine AW_region ?_
  refine AL_p (x_move rfl rfl) ?_
  refine AL_p (x_move rfl rfl) ?_
  refine AL_p (x_nilc rfl rfl rfl) ?_
  refine AL_p (x_field (off := 2) (o' := 2) rfl rfl rfl (by kernel_rfl) rfl) ?_
  refine AL_p (x_load1 rfl rfl rfl (by kernel_rfl) rfl) ?_
  refine AL_p (x_nilc rfl rfl rfl) ?_
  refine AL_p (x_field (off := 4) (o' := 4) rfl rfl rfl (by kernel_rfl) rfl) ?_
  refine AL_p (x_store (n := 1) rfl rfl rfl rfl (by kernel_rfl) rfl rfl rfl) ?_
  refine AL_nil ?_
  refine AW_seq ?_
  refine AW_draw rfl ?_
  refine AL_p (x_move rfl rfl) ?_
  refine AL_p (x_nilc rfl rfl rfl) ?_
  refine AL_p (x_field (off := 1) (o' := 1) rfl rfl rfl (by kernel_rfl) rfl) ?_
  refine AL_p (x_load1 rfl rfl rfl (by kernel_rfl) rfl) ?_
  refine AL_p (x_move rfl rfl) ?_
  refine AL_p (x_nilc rfl rfl rfl) ?_
  refine AL_p (x_field (off := 0) (o' := 0) rfl rfl rfl (by kernel_rfl) rfl) ?_
  refine AL_p (x_load1 rfl rfl rfl (by kernel_rfl) rfl) ?_
  refine AL_p (x_len (E := 83) (n := 4) rfl rfl (by kernel_rfl)) ?_
  refine AL_b (x_lss rfl rfl rfl) (fun b29 h29 => ?_)
  refine AL_nild (by kernel_rfl) ?_
  cases b29
  · try simp only [tdy] at h29
    have hno := hn1.trans (by rw [here_end (by omega)])
    refine AW_condF rfl ?_
    refine AW_skip ?_
    exact ⟨rn [], ⟨trivial, ⟨⟨_, rfl, by first | exact BLe.rf | exact ble_eq (by rw [hno]; first | done | rfl)⟩, trivial⟩, by repeat (first | exact trivial | refine ⟨⟨rfl, by first | (left; intro h; cases h) | (right; rfl), by first | exact (fun _ h => ⟨_, h⟩) | exact (fun _ _ => ⟨_, rfl⟩) | (intro _ h; cases h)⟩, ?_⟩), rfl⟩⟩
  try simp only [tdy] at h29
  have hh : hereT tk e st = (tk[st.i]'(by omega)) := here_ok (by omega) (by omega)
  have hno := hn1.trans (by rw [hh])
  refine AW_condT rfl ?_
  refine AW_draw rfl ?_
  refine AL_p (x_move rfl rfl) ?_
  refine AL_p (x_move rfl rfl) ?_
  refine AL_p (x_nilc rfl rfl rfl) ?_
  refine AL_p (x_field (off := 0) (o' := 0) rfl rfl rfl (by kernel_rfl) rfl) ?_
  refine AL_p (x_load1 rfl rfl rfl (by kernel_rfl) rfl) ?_
  refine AL_p (x_move rfl rfl) ?_
  refine AL_p (x_nilc rfl rfl rfl) ?_
  refine AL_p (x_field (off := 1) (o' := 1) rfl rfl rfl (by kernel_rfl) rfl) ?_
  refine AL_p (x_load1 rfl rfl rfl (by kernel_rfl) rfl) ?_
  refine AL_p (x_index (E := 83) (n := 4) rfl rfl rfl (by kernel_rfl) rfl (k := st.i) (by omega) (by omega)) ?_
  refine AL_p (x_efield (off := 3) (o' := 3) rfl rfl (by kernel_rfl) rfl) ?_
  refine AL_p (x_eload1 rfl rfl (by kernel_rfl) rfl) ?_
  refine AL_p (x_nilc rfl rfl rfl) ?_
  refine AL_p (x_field (off := 4) (o' := 4) rfl rfl rfl (by kernel_rfl) rfl) ?_
  refine AL_p (x_store (n := 1) rfl rfl rfl rfl (by kernel_rfl) rfl rfl rfl) ?_
  refine AL_nild (by kernel_rfl) ?_
  exact ⟨rn [], ⟨trivial, ⟨⟨_, rfl, by first | exact BLe.rf | exact ble_eq (by rw [hno]; first | done | rfl)⟩, trivial⟩, by repeat (first | exact trivial | refine ⟨⟨rfl, by first | (left; intro h; cases h) | (right; rfl), by first | exact (fun _ h => ⟨_, h⟩) | exact (fun _ _ => ⟨_, rfl⟩) | (intro _ h; cases h)⟩, ?_⟩), rfl⟩⟩

set_option maxHeartbeats 4000000 in
theorem sIs_c (tk : List Tokent) (e : Int) (st : PS) (hm : tk.length ≤ 1048576) (j : Nat) (s : ByteArray) : AC Try.prog 58 [.one (.ptr 200 0), .one (.c (.int .i64 ((j : Int)))), .one (.c (.string (s)))] [(200, some (psB tk e st))] (.one (.c (.bool (signT (hereT tk e (⟨j, st.code, st.place⟩ : PS)) s)))) [(200, some (psB tk e st))] := by
  refine AC_body1 Try.func58 rfl rfl Try.ntmps58 rfl Try.results58 ?_
  refine AW_seq ?_
  refine AW_region ?_
  refine AL_p (x_assign rfl rfl) ?_
  refine AL_nil ?_
  refine AW_seq ?_
  refine AW_region ?_
  refine AL_p (x_move rfl rfl) ?_
  refine AL_p (x_nilc rfl rfl rfl) ?_
  refine AL_p (x_field (off := 3) (o' := 3) rfl rfl rfl (by kernel_rfl) rfl) ?_
  refine AL_p (x_load1 rfl rfl rfl (by kernel_rfl) rfl) ?_
  refine AL_b (x_eql rfl rfl rfl) (fun b11 h11 => ?_)
  refine AL_p (x_move rfl rfl) ?_
  cases b11
  · try simp only [tdy] at h11
    have hh := here_bad (tk := tk) (e := e) (st := (⟨j, st.code, st.place⟩ : PS)) h11
    refine AL_o rfl rfl rfl rfl ?_
    refine AL_o rfl rfl rfl rfl ?_
    refine AL_o rfl rfl rfl rfl ?_
    refine AL_o rfl rfl rfl rfl ?_
    refine AL_o rfl rfl rfl rfl ?_
    refine AL_o rfl rfl rfl rfl ?_
    refine AL_o rfl rfl rfl rfl ?_
    refine AL_p (x_pickF rfl rfl rfl) ?_
    refine AL_p (x_move rfl rfl) ?_
    refine AL_o rfl rfl rfl rfl ?_
    refine AL_o rfl rfl rfl rfl ?_
    refine AL_o rfl rfl rfl rfl ?_
    refine AL_o rfl rfl rfl rfl ?_
    refine AL_o rfl rfl rfl rfl ?_
    refine AL_o rfl rfl rfl rfl ?_
    refine AL_o rfl rfl rfl rfl ?_
    refine AL_o rfl rfl rfl rfl ?_
    refine AL_o rfl rfl rfl rfl ?_
    refine AL_p (x_pickF rfl rfl rfl) ?_
    refine AL_p (x_move rfl rfl) ?_
    refine AL_o rfl rfl rfl rfl ?_
    refine AL_o rfl rfl rfl rfl ?_
    refine AL_o rfl rfl rfl rfl ?_
    refine AL_o rfl rfl rfl rfl ?_
    refine AL_o rfl rfl rfl rfl ?_
    refine AL_o rfl rfl rfl rfl ?_
    refine AL_o rfl rfl rfl rfl ?_
    refine AL_o rfl rfl rfl rfl ?_
    refine AL_o rfl rfl rfl rfl ?_
    refine AL_o rfl rfl rfl rfl ?_
    refine AL_p (x_pickF rfl rfl rfl) ?_
    refine AL_p (x_assign rfl rfl) ?_
    refine AL_nil ?_
    refine AW_ret ?_
    exact ⟨rn [], ⟨⟨⟨_, rfl, vle_bool (by rw [hh]; simp [signT, *])⟩, trivial⟩, ⟨⟨_, rfl, by first | exact BLe.rf | exact ble_eq (by rw [hno]; first | done | rfl)⟩, trivial⟩, by repeat (first | exact trivial | refine ⟨⟨rfl, by first | (left; intro h; cases h) | (right; rfl), by first | exact (fun _ h => ⟨_, h⟩) | exact (fun _ _ => ⟨_, rfl⟩) | (intro _ h; cases h)⟩, ?_⟩), rfl⟩⟩
  try simp only [tdy] at h11
  refine AL_g rfl rfl (x_move rfl rfl) ?_
  refine AL_g rfl rfl (x_move rfl rfl) ?_
  refine AL_g rfl rfl (x_nilc rfl rfl rfl) ?_
  refine AL_g rfl rfl (x_field (off := 0) (o' := 0) rfl rfl rfl (by kernel_rfl) rfl) ?_
  refine AL_g rfl rfl (x_load1 rfl rfl rfl (by kernel_rfl) rfl) ?_
  refine AL_g rfl rfl (x_len (E := 83) (n := 4) rfl rfl (by kernel_rfl)) ?_
  refine AL_gb rfl rfl (x_lss rfl rfl rfl) (fun b19 h19 => ?_)
  refine AL_p (x_pickT rfl rfl rfl) ?_
  refine AL_p (x_move rfl rfl) ?_
  cases b19
  · try simp only [tdy] at h19
    have hh := here_end (tk := tk) (e := e) (st := (⟨j, st.code, st.place⟩ : PS)) (by show ¬ j < _; omega)
    refine AL_o rfl rfl rfl rfl ?_
    refine AL_o rfl rfl rfl rfl ?_
    refine AL_o rfl rfl rfl rfl ?_
    refine AL_o rfl rfl rfl rfl ?_
    refine AL_o rfl rfl rfl rfl ?_
    refine AL_o rfl rfl rfl rfl ?_
    refine AL_o rfl rfl rfl rfl ?_
    refine AL_o rfl rfl rfl rfl ?_
    refine AL_o rfl rfl rfl rfl ?_
    refine AL_p (x_pickF rfl rfl rfl) ?_
    refine AL_p (x_move rfl rfl) ?_
    refine AL_o rfl rfl rfl rfl ?_
    refine AL_o rfl rfl rfl rfl ?_
    refine AL_o rfl rfl rfl rfl ?_
    refine AL_o rfl rfl rfl rfl ?_
    refine AL_o rfl rfl rfl rfl ?_
    refine AL_o rfl rfl rfl rfl ?_
    refine AL_o rfl rfl rfl rfl ?_
    refine AL_o rfl rfl rfl rfl ?_
    refine AL_o rfl rfl rfl rfl ?_
    refine AL_o rfl rfl rfl rfl ?_
    refine AL_p (x_pickF rfl rfl rfl) ?_
    refine AL_p (x_assign rfl rfl) ?_
    refine AL_nil ?_
    refine AW_ret ?_
    exact ⟨rn [], ⟨⟨⟨_, rfl, vle_bool (by rw [hh]; simp [signT, *])⟩, trivial⟩, ⟨⟨_, rfl, by first | exact BLe.rf | exact ble_eq (by rw [hno]; first | done | rfl)⟩, trivial⟩, by repeat (first | exact trivial | refine ⟨⟨rfl, by first | (left; intro h; cases h) | (right; rfl), by first | exact (fun _ h => ⟨_, h⟩) | exact (fun _ _ => ⟨_, rfl⟩) | (intro _ h; cases h)⟩, ?_⟩), rfl⟩⟩
  try simp only [tdy] at h19
  have hh := here_ok (tk := tk) (e := e) (st := (⟨j, st.code, st.place⟩ : PS)) h11 (by show j < _; omega)
  refine AL_g rfl rfl (x_move rfl rfl) ?_
  refine AL_g rfl rfl (x_nilc rfl rfl rfl) ?_
  refine AL_g rfl rfl (x_field (off := 0) (o' := 0) rfl rfl rfl (by kernel_rfl) rfl) ?_
  refine AL_g rfl rfl (x_load1 rfl rfl rfl (by kernel_rfl) rfl) ?_
  refine AL_g rfl rfl (x_move rfl rfl) ?_
  refine AL_g rfl rfl (x_index (E := 83) (n := 4) rfl rfl rfl (by kernel_rfl) rfl (k := j) (by omega) (by omega)) ?_
  refine AL_g rfl rfl (x_efield (off := 0) (o' := 0) rfl rfl (by kernel_rfl) rfl) ?_
  refine AL_g rfl rfl (x_eload1 rfl rfl (by kernel_rfl) rfl) ?_
  refine AL_gb rfl rfl (x_eql rfl rfl rfl) (fun b30 h30 => ?_)
  refine AL_p (x_pickT rfl rfl rfl) ?_
  refine AL_p (x_move rfl rfl) ?_
  cases b30
  · try simp only [tdy] at h30
    refine AL_o rfl rfl rfl rfl ?_
    refine AL_o rfl rfl rfl rfl ?_
    refine AL_o rfl rfl rfl rfl ?_
    refine AL_o rfl rfl rfl rfl ?_
    refine AL_o rfl rfl rfl rfl ?_
    refine AL_o rfl rfl rfl rfl ?_
    refine AL_o rfl rfl rfl rfl ?_
    refine AL_o rfl rfl rfl rfl ?_
    refine AL_o rfl rfl rfl rfl ?_
    refine AL_o rfl rfl rfl rfl ?_
    refine AL_p (x_pickF rfl rfl rfl) ?_
    refine AL_p (x_assign rfl rfl) ?_
    refine AL_nil ?_
    refine AW_ret ?_
    exact ⟨rn [], ⟨⟨⟨_, rfl, vle_bool (by rw [hh]; simp [signT, *])⟩, trivial⟩, ⟨⟨_, rfl, by first | exact BLe.rf | exact ble_eq (by rw [hno]; first | done | rfl)⟩, trivial⟩, by repeat (first | exact trivial | refine ⟨⟨rfl, by first | (left; intro h; cases h) | (right; rfl), by first | exact (fun _ h => ⟨_, h⟩) | exact (fun _ _ => ⟨_, rfl⟩) | (intro _ h; cases h)⟩, ?_⟩), rfl⟩⟩
  try simp only [tdy] at h30
  refine AL_g rfl rfl (x_move rfl rfl) ?_
  refine AL_g rfl rfl (x_nilc rfl rfl rfl) ?_
  refine AL_g rfl rfl (x_field (off := 0) (o' := 0) rfl rfl rfl (by kernel_rfl) rfl) ?_
  refine AL_g rfl rfl (x_load1 rfl rfl rfl (by kernel_rfl) rfl) ?_
  refine AL_g rfl rfl (x_move rfl rfl) ?_
  refine AL_g rfl rfl (x_index (E := 83) (n := 4) rfl rfl rfl (by kernel_rfl) rfl (k := j) (by omega) (by omega)) ?_
  refine AL_g rfl rfl (x_efield (off := 2) (o' := 2) rfl rfl (by kernel_rfl) rfl) ?_
  refine AL_g rfl rfl (x_eload1 rfl rfl (by kernel_rfl) rfl) ?_
  refine AL_g rfl rfl (x_move rfl rfl) ?_
  refine AL_gb rfl rfl (x_seql rfl rfl rfl) (fun b42 h42 => ?_)
  refine AL_p (x_pickT rfl rfl rfl) ?_
  refine AL_p (x_assign rfl rfl) ?_
  refine AL_nil ?_
  refine AW_ret ?_
  cases b42
  rotate_left
  · try simp only [tdy] at h42
    exact ⟨rn [], ⟨⟨⟨_, rfl, vle_bool (by rw [hh]; simp [signT, *])⟩, trivial⟩, ⟨⟨_, rfl, by first | exact BLe.rf | exact ble_eq (by rw [hno]; first | done | rfl)⟩, trivial⟩, by repeat (first | exact trivial | refine ⟨⟨rfl, by first | (left; intro h; cases h) | (right; rfl), by first | exact (fun _ h => ⟨_, h⟩) | exact (fun _ _ => ⟨_, rfl⟩) | (intro _ h; cases h)⟩, ?_⟩), rfl⟩⟩
  try simp only [tdy] at h42
  exact ⟨rn [], ⟨⟨⟨_, rfl, vle_bool (by rw [hh]; simp [signT, *])⟩, trivial⟩, ⟨⟨_, rfl, by first | exact BLe.rf | exact ble_eq (by rw [hno]; first | done | rfl)⟩, trivial⟩, by repeat (first | exact trivial | refine ⟨⟨rfl, by first | (left; intro h; cases h) | (right; rfl), by first | exact (fun _ h => ⟨_, h⟩) | exact (fun _ _ => ⟨_, rfl⟩) | (intro _ h; cases h)⟩, ?_⟩), rfl⟩⟩

theorem sIsH_c (tk : List Tokent) (e : Int) (st : PS) (hm : tk.length ≤ 1048576) (hi : st.i ≤ tk.length) (s : ByteArray) : AC Try.prog 58 [.one (.ptr 200 0), .one (.c (.int .i64 (((st.i : Nat) : Int)))), .one (.c (.string (s)))] [(200, some (psB tk e st))] (.one (.c (.bool (signT (hereT tk e st) s)))) [(200, some (psB tk e st))] := sIs_c tk e st hm st.i s

theorem sIsN_c (tk : List Tokent) (e : Int) (st : PS) (hm : tk.length ≤ 1048576) (hi : st.i ≤ tk.length) (s : ByteArray) : AC Try.prog 58 [.one (.ptr 200 0), .one (.c (.int .i64 (((st.i : Nat) : Int) + 1))), .one (.c (.string (s)))] [(200, some (psB tk e st))] (.one (.c (.bool (signT (hereT tk e st.next) s)))) [(200, some (psB tk e st))] := sIs_c tk e st hm (st.i + 1) s

set_option maxHeartbeats 4000000 in
theorem sTake_c (tk : List Tokent) (e : Int) (st : PS) (hm : tk.length ≤ 1048576) (hi : st.i ≤ tk.length) (s : ByteArray) : AC Try.prog 106 [.one (.ptr 200 0), .one (.c (.string (s)))] [(200, some (psB tk e st))] (.tup []) [(200, some (psB tk e (takeP tk e s st)))] := by
  refine AC_body0 Try.func106 rfl rfl Try.ntmps106 rfl Try.results106 ?_
  refine AW_seq ?_
  refine AW_seq ?_
  refine AW_region ?_
  refine AL_p (x_move rfl rfl) ?_
  refine AL_p (x_move rfl rfl) ?_
  refine AL_p (x_nilc rfl rfl rfl) ?_
  refine AL_p (x_field (off := 1) (o' := 1) rfl rfl rfl (by kernel_rfl) rfl) ?_
  refine AL_p (x_load1 rfl rfl rfl (by kernel_rfl) rfl) ?_
  refine AL_p (x_move rfl rfl) ?_
  refine AL_bc (x_call (ks := []) (L := [(200, some _)]) (L' := [(200, some _)]) rfl rfl rfl (sIsH_c tk e st hm hi s) rfl AllV.rf (caught_of rfl) rfl rfl rfl ⟨rfl, trivial⟩ rfl) (fun b10 h10 => ?_)
  refine AL_p (x_not rfl rfl) ?_
  refine AL_nil ?_
  cases b10
  · try simp only [tdy] at h10
    have hno := take_no h10
    refine AW_condT rfl ?_
    refine AW_seq ?_
    refine AW_region ?_
    refine AL_p (x_move rfl rfl) ?_
    refine AL_p (x_call (ks := []) (L := [(200, some _)]) (L' := [(200, some _)]) rfl rfl rfl (sFault_c tk e st hm hi 6) rfl AllV.rf (caught_of rfl) rfl rfl rfl ⟨rfl, trivial⟩ rfl) ?_
    refine AL_nil ?_
    refine AW_ret ?_
    exact ⟨rn [], ⟨trivial, ⟨⟨_, rfl, by first | exact BLe.rf | exact ble_eq (by rw [hno]; first | done | rfl)⟩, trivial⟩, by repeat (first | exact trivial | refine ⟨⟨rfl, by first | (left; intro h; cases h) | (right; rfl), by first | exact (fun _ h => ⟨_, h⟩) | exact (fun _ _ => ⟨_, rfl⟩) | (intro _ h; cases h)⟩, ?_⟩), rfl⟩⟩
  try simp only [tdy] at h10
  have hno := take_ok h10
  have hlt := sign_lt h10
  refine AW_condF rfl ?_
  refine AW_skip ?_
  refine AW_region ?_
  refine AL_p (x_move rfl rfl) ?_
  refine AL_p (x_nilc rfl rfl rfl) ?_
  refine AL_p (x_field (off := 1) (o' := 1) rfl rfl rfl (by kernel_rfl) rfl) ?_
  refine AL_p (x_load1 rfl rfl rfl (by kernel_rfl) rfl) ?_
  refine AL_p (x_add rfl rfl rfl (IntWalk.i64_in _ (by omega))) ?_
  refine AL_p (x_nilc rfl rfl rfl) ?_
  refine AL_p (x_field (off := 1) (o' := 1) rfl rfl rfl (by kernel_rfl) rfl) ?_
  refine AL_p (x_store (n := 1) rfl rfl rfl rfl (by kernel_rfl) rfl rfl rfl) ?_
  refine AL_nil ?_
  exact ⟨rn [], ⟨trivial, ⟨⟨_, rfl, by first | exact BLe.rf | exact ble_eq (by rw [hno]; first | done | rfl)⟩, trivial⟩, by repeat (first | exact trivial | refine ⟨⟨rfl, by first | (left; intro h; cases h) | (right; rfl), by first | exact (fun _ h => ⟨_, h⟩) | exact (fun _ _ => ⟨_, rfl⟩) | (intro _ h; cases h)⟩, ?_⟩), rfl⟩⟩

set_option maxHeartbeats 4000000 in
theorem sWord_c (tk : List Tokent) (e : Int) (st : PS) (hm : tk.length ≤ 1048576) (hi : st.i ≤ tk.length) : AC Try.prog 105 [.one (.ptr 200 0)] [(200, some (psB tk e st))] (.one (.c (.string ((wordP tk e st).1)))) [(200, some (psB tk e (wordP tk e st).2))] := by
  refine AC_body1 Try.func105 rfl rfl Try.ntmps105 rfl Try.results105 ?_
  refine AW_seq ?_
  refine AW_region ?_
  refine AL_p (x_assign rfl rfl) ?_
  refine AL_nil ?_
  refine AW_seq ?_
  refine AW_seq ?_
  refine AW_draw rfl ?_
  refine AL_p (x_move rfl rfl) ?_
  refine AL_p (x_nilc rfl rfl rfl) ?_
  refine AL_p (x_field (off := 3) (o' := 3) rfl rfl rfl (by kernel_rfl) rfl) ?_
  refine AL_p (x_load1 rfl rfl rfl (by kernel_rfl) rfl) ?_
  refine AL_b (x_neq rfl rfl rfl) (fun b7 h7 => ?_)
  refine AL_p (x_move rfl rfl) ?_
  cases b7
  rotate_left
  · try simp only [tdy] at h7
    have h0k : (hereT tk e st).kind = 0 := here_kind (fun q => by omega)
    have hnm : nameT (hereT tk e st) = false := name_zero h0k
    have hno := word_no hnm
    refine AL_o rfl rfl rfl rfl ?_
    refine AL_o rfl rfl rfl rfl ?_
    refine AL_o rfl rfl rfl rfl ?_
    refine AL_o rfl rfl rfl rfl ?_
    refine AL_o rfl rfl rfl rfl ?_
    refine AL_o rfl rfl rfl rfl ?_
    refine AL_o rfl rfl rfl rfl ?_
    refine AL_o rfl rfl rfl rfl ?_
    refine AL_o rfl rfl rfl rfl ?_
    refine AL_o rfl rfl rfl rfl ?_
    refine AL_p (x_pickT rfl rfl rfl) ?_
    refine AL_p (x_move rfl rfl) ?_
    refine AL_o rfl rfl rfl rfl ?_
    refine AL_o rfl rfl rfl rfl ?_
    refine AL_o rfl rfl rfl rfl ?_
    refine AL_o rfl rfl rfl rfl ?_
    refine AL_o rfl rfl rfl rfl ?_
    refine AL_o rfl rfl rfl rfl ?_
    refine AL_o rfl rfl rfl rfl ?_
    refine AL_o rfl rfl rfl rfl ?_
    refine AL_o rfl rfl rfl rfl ?_
    refine AL_o rfl rfl rfl rfl ?_
    refine AL_o rfl rfl rfl rfl ?_
    refine AL_o rfl rfl rfl rfl ?_
    refine AL_p (x_pickT rfl rfl rfl) ?_
    refine AL_p (x_move rfl rfl) ?_
    refine AL_o rfl rfl rfl rfl ?_
    refine AL_o rfl rfl rfl rfl ?_
    refine AL_o rfl rfl rfl rfl ?_
    refine AL_o rfl rfl rfl rfl ?_
    refine AL_o rfl rfl rfl rfl ?_
    refine AL_o rfl rfl rfl rfl ?_
    refine AL_o rfl rfl rfl rfl ?_
    refine AL_o rfl rfl rfl rfl ?_
    refine AL_o rfl rfl rfl rfl ?_
    refine AL_o rfl rfl rfl rfl ?_
    refine AL_o rfl rfl rfl rfl ?_
    refine AL_o rfl rfl rfl rfl ?_
    refine AL_p (x_pickT rfl rfl rfl) ?_
    refine AL_nild (by kernel_rfl) ?_
    refine AW_condT rfl ?_
    refine AW_seq ?_
    refine AW_region ?_
    refine AL_p (x_move rfl rfl) ?_
    refine AL_p (x_call (ks := []) (L := [(200, some _)]) (L' := [(200, some _)]) rfl rfl rfl (sFault_c tk e st hm hi 6) rfl AllV.rf (caught_of rfl) rfl rfl rfl ⟨rfl, trivial⟩ rfl) ?_
    refine AL_nil ?_
    refine AW_seq ?_
    refine AW_region ?_
    refine AL_p (x_assign rfl rfl) ?_
    refine AL_nil ?_
    refine AW_ret ?_
    exact ⟨rn [], ⟨⟨⟨_, rfl, vle_str (by rw [hno])⟩, trivial⟩, ⟨⟨_, rfl, by first | exact BLe.rf | exact ble_eq (by rw [hno]; first | done | rfl)⟩, trivial⟩, by repeat (first | exact trivial | refine ⟨⟨rfl, by first | (left; intro h; cases h) | (right; rfl), by first | exact (fun _ h => ⟨_, h⟩) | exact (fun _ _ => ⟨_, rfl⟩) | (intro _ h; cases h)⟩, ?_⟩), rfl⟩⟩
  try simp only [tdy] at h7
  refine AL_g rfl rfl (x_move rfl rfl) ?_
  refine AL_g rfl rfl (x_nilc rfl rfl rfl) ?_
  refine AL_g rfl rfl (x_field (off := 1) (o' := 1) rfl rfl rfl (by kernel_rfl) rfl) ?_
  refine AL_g rfl rfl (x_load1 rfl rfl rfl (by kernel_rfl) rfl) ?_
  refine AL_g rfl rfl (x_move rfl rfl) ?_
  refine AL_g rfl rfl (x_nilc rfl rfl rfl) ?_
  refine AL_g rfl rfl (x_field (off := 0) (o' := 0) rfl rfl rfl (by kernel_rfl) rfl) ?_
  refine AL_g rfl rfl (x_load1 rfl rfl rfl (by kernel_rfl) rfl) ?_
  refine AL_g rfl rfl (x_len (E := 83) (n := 4) rfl rfl (by kernel_rfl)) ?_
  refine AL_gb rfl rfl (x_geq rfl rfl rfl) (fun b18 h18 => ?_)
  refine AL_p (x_pickF rfl rfl rfl) ?_
  refine AL_p (x_move rfl rfl) ?_
  cases b18
  rotate_left
  · try simp only [tdy] at h18
    have h0k : (hereT tk e st).kind = 0 := here_kind (fun q => by omega)
    have hnm : nameT (hereT tk e st) = false := name_zero h0k
    have hno := word_no hnm
    refine AL_o rfl rfl rfl rfl ?_
    refine AL_o rfl rfl rfl rfl ?_
    refine AL_o rfl rfl rfl rfl ?_
    refine AL_o rfl rfl rfl rfl ?_
    refine AL_o rfl rfl rfl rfl ?_
    refine AL_o rfl rfl rfl rfl ?_
    refine AL_o rfl rfl rfl rfl ?_
    refine AL_o rfl rfl rfl rfl ?_
    refine AL_o rfl rfl rfl rfl ?_
    refine AL_o rfl rfl rfl rfl ?_
    refine AL_o rfl rfl rfl rfl ?_
    refine AL_o rfl rfl rfl rfl ?_
    refine AL_p (x_pickT rfl rfl rfl) ?_
    refine AL_p (x_move rfl rfl) ?_
    refine AL_o rfl rfl rfl rfl ?_
    refine AL_o rfl rfl rfl rfl ?_
    refine AL_o rfl rfl rfl rfl ?_
    refine AL_o rfl rfl rfl rfl ?_
    refine AL_o rfl rfl rfl rfl ?_
    refine AL_o rfl rfl rfl rfl ?_
    refine AL_o rfl rfl rfl rfl ?_
    refine AL_o rfl rfl rfl rfl ?_
    refine AL_o rfl rfl rfl rfl ?_
    refine AL_o rfl rfl rfl rfl ?_
    refine AL_o rfl rfl rfl rfl ?_
    refine AL_o rfl rfl rfl rfl ?_
    refine AL_p (x_pickT rfl rfl rfl) ?_
    refine AL_nild (by kernel_rfl) ?_
    refine AW_condT rfl ?_
    refine AW_seq ?_
    refine AW_region ?_
    refine AL_p (x_move rfl rfl) ?_
    refine AL_p (x_call (ks := []) (L := [(200, some _)]) (L' := [(200, some _)]) rfl rfl rfl (sFault_c tk e st hm hi 6) rfl AllV.rf (caught_of rfl) rfl rfl rfl ⟨rfl, trivial⟩ rfl) ?_
    refine AL_nil ?_
    refine AW_seq ?_
    refine AW_region ?_
    refine AL_p (x_assign rfl rfl) ?_
    refine AL_nil ?_
    refine AW_ret ?_
    exact ⟨rn [], ⟨⟨⟨_, rfl, vle_str (by rw [hno])⟩, trivial⟩, ⟨⟨_, rfl, by first | exact BLe.rf | exact ble_eq (by rw [hno]; first | done | rfl)⟩, trivial⟩, by repeat (first | exact trivial | refine ⟨⟨rfl, by first | (left; intro h; cases h) | (right; rfl), by first | exact (fun _ h => ⟨_, h⟩) | exact (fun _ _ => ⟨_, rfl⟩) | (intro _ h; cases h)⟩, ?_⟩), rfl⟩⟩
  try simp only [tdy] at h18
  have hh : hereT tk e st = (tk[st.i]'(by omega)) := here_ok (by omega) (by omega)
  refine AL_g rfl rfl (x_move rfl rfl) ?_
  refine AL_g rfl rfl (x_nilc rfl rfl rfl) ?_
  refine AL_g rfl rfl (x_field (off := 0) (o' := 0) rfl rfl rfl (by kernel_rfl) rfl) ?_
  refine AL_g rfl rfl (x_load1 rfl rfl rfl (by kernel_rfl) rfl) ?_
  refine AL_g rfl rfl (x_move rfl rfl) ?_
  refine AL_g rfl rfl (x_nilc rfl rfl rfl) ?_
  refine AL_g rfl rfl (x_field (off := 1) (o' := 1) rfl rfl rfl (by kernel_rfl) rfl) ?_
  refine AL_g rfl rfl (x_load1 rfl rfl rfl (by kernel_rfl) rfl) ?_
  refine AL_g rfl rfl (x_index (E := 83) (n := 4) rfl rfl rfl (by kernel_rfl) rfl (k := st.i) (by omega) (by omega)) ?_
  refine AL_g rfl rfl (x_efield (off := 0) (o' := 0) rfl rfl (by kernel_rfl) rfl) ?_
  refine AL_g rfl rfl (x_eload1 rfl rfl (by kernel_rfl) rfl) ?_
  refine AL_gb rfl rfl (x_neq rfl rfl rfl) (fun b32 h32 => ?_)
  refine AL_p (x_pickF rfl rfl rfl) ?_
  refine AL_p (x_move rfl rfl) ?_
  cases b32
  rotate_left
  · try simp only [tdy] at h32
    have hnm : nameT (hereT tk e st) = false := by rw [hh]; simp [nameT, h32]
    have hno := word_no hnm
    refine AL_o rfl rfl rfl rfl ?_
    refine AL_o rfl rfl rfl rfl ?_
    refine AL_o rfl rfl rfl rfl ?_
    refine AL_o rfl rfl rfl rfl ?_
    refine AL_o rfl rfl rfl rfl ?_
    refine AL_o rfl rfl rfl rfl ?_
    refine AL_o rfl rfl rfl rfl ?_
    refine AL_o rfl rfl rfl rfl ?_
    refine AL_o rfl rfl rfl rfl ?_
    refine AL_o rfl rfl rfl rfl ?_
    refine AL_o rfl rfl rfl rfl ?_
    refine AL_o rfl rfl rfl rfl ?_
    refine AL_p (x_pickT rfl rfl rfl) ?_
    refine AL_nild (by kernel_rfl) ?_
    refine AW_condT rfl ?_
    refine AW_seq ?_
    refine AW_region ?_
    refine AL_p (x_move rfl rfl) ?_
    refine AL_p (x_call (ks := []) (L := [(200, some _)]) (L' := [(200, some _)]) rfl rfl rfl (sFault_c tk e st hm hi 6) rfl AllV.rf (caught_of rfl) rfl rfl rfl ⟨rfl, trivial⟩ rfl) ?_
    refine AL_nil ?_
    refine AW_seq ?_
    refine AW_region ?_
    refine AL_p (x_assign rfl rfl) ?_
    refine AL_nil ?_
    refine AW_ret ?_
    exact ⟨rn [], ⟨⟨⟨_, rfl, vle_str (by rw [hno])⟩, trivial⟩, ⟨⟨_, rfl, by first | exact BLe.rf | exact ble_eq (by rw [hno]; first | done | rfl)⟩, trivial⟩, by repeat (first | exact trivial | refine ⟨⟨rfl, by first | (left; intro h; cases h) | (right; rfl), by first | exact (fun _ h => ⟨_, h⟩) | exact (fun _ _ => ⟨_, rfl⟩) | (intro _ h; cases h)⟩, ?_⟩), rfl⟩⟩
  try simp only [tdy] at h32
  refine AL_g rfl rfl (x_move rfl rfl) ?_
  refine AL_g rfl rfl (x_nilc rfl rfl rfl) ?_
  refine AL_g rfl rfl (x_field (off := 0) (o' := 0) rfl rfl rfl (by kernel_rfl) rfl) ?_
  refine AL_g rfl rfl (x_load1 rfl rfl rfl (by kernel_rfl) rfl) ?_
  refine AL_g rfl rfl (x_move rfl rfl) ?_
  refine AL_g rfl rfl (x_nilc rfl rfl rfl) ?_
  refine AL_g rfl rfl (x_field (off := 1) (o' := 1) rfl rfl rfl (by kernel_rfl) rfl) ?_
  refine AL_g rfl rfl (x_load1 rfl rfl rfl (by kernel_rfl) rfl) ?_
  refine AL_g rfl rfl (x_index (E := 83) (n := 4) rfl rfl rfl (by kernel_rfl) rfl (k := st.i) (by omega) (by omega)) ?_
  refine AL_g rfl rfl (x_efield (off := 2) (o' := 2) rfl rfl (by kernel_rfl) rfl) ?_
  refine AL_g rfl rfl (x_eload1 rfl rfl (by kernel_rfl) rfl) ?_
  refine AL_gb rfl rfl (x_call0 rfl rfl rfl (keptS_c _) rfl rfl) (fun b46 h46 => ?_)
  refine AL_p (x_pickF rfl rfl rfl) ?_
  refine AL_nild (by kernel_rfl) ?_
  cases b46
  rotate_left
  · try simp only [tdy] at h46
    have hnm : nameT (hereT tk e st) = false := by rw [hh]; simp [nameT, h46]
    have hno := word_no hnm
    refine AW_condT rfl ?_
    refine AW_seq ?_
    refine AW_region ?_
    refine AL_p (x_move rfl rfl) ?_
    refine AL_p (x_call (ks := []) (L := [(200, some _)]) (L' := [(200, some _)]) rfl rfl rfl (sFault_c tk e st hm hi 6) rfl AllV.rf (caught_of rfl) rfl rfl rfl ⟨rfl, trivial⟩ rfl) ?_
    refine AL_nil ?_
    refine AW_seq ?_
    refine AW_region ?_
    refine AL_p (x_assign rfl rfl) ?_
    refine AL_nil ?_
    refine AW_ret ?_
    exact ⟨rn [], ⟨⟨⟨_, rfl, vle_str (by rw [hno])⟩, trivial⟩, ⟨⟨_, rfl, by first | exact BLe.rf | exact ble_eq (by rw [hno]; first | done | rfl)⟩, trivial⟩, by repeat (first | exact trivial | refine ⟨⟨rfl, by first | (left; intro h; cases h) | (right; rfl), by first | exact (fun _ h => ⟨_, h⟩) | exact (fun _ _ => ⟨_, rfl⟩) | (intro _ h; cases h)⟩, ?_⟩), rfl⟩⟩
  try simp only [tdy] at h46
  have hnm : nameT (hereT tk e st) = true := by rw [hh]; simp [nameT, h46]; omega
  have hlt := name_lt hnm
  have hno := (word_ok hnm).trans (by rw [hh])
  refine AW_condF rfl ?_
  refine AW_skip ?_
  refine AW_seq ?_
  refine AW_region ?_
  refine AL_p (x_move rfl rfl) ?_
  refine AL_p (x_nilc rfl rfl rfl) ?_
  refine AL_p (x_field (off := 1) (o' := 1) rfl rfl rfl (by kernel_rfl) rfl) ?_
  refine AL_p (x_load1 rfl rfl rfl (by kernel_rfl) rfl) ?_
  refine AL_p (x_add rfl rfl rfl (IntWalk.i64_in _ (by omega))) ?_
  refine AL_p (x_nilc rfl rfl rfl) ?_
  refine AL_p (x_field (off := 1) (o' := 1) rfl rfl rfl (by kernel_rfl) rfl) ?_
  refine AL_p (x_store (n := 1) rfl rfl rfl rfl (by kernel_rfl) rfl rfl rfl) ?_
  refine AL_nil ?_
  refine AW_seq ?_
  refine AW_draw rfl ?_
  refine AL_p (x_move rfl rfl) ?_
  refine AL_p (x_nilc rfl rfl rfl) ?_
  refine AL_p (x_field (off := 0) (o' := 0) rfl rfl rfl (by kernel_rfl) rfl) ?_
  refine AL_p (x_load1 rfl rfl rfl (by kernel_rfl) rfl) ?_
  refine AL_p (x_move rfl rfl) ?_
  refine AL_p (x_nilc rfl rfl rfl) ?_
  refine AL_p (x_field (off := 1) (o' := 1) rfl rfl rfl (by kernel_rfl) rfl) ?_
  refine AL_p (x_load1 rfl rfl rfl (by kernel_rfl) rfl) ?_
  refine AL_p (x_sub rfl rfl rfl (IntWalk.i64_in _ (by omega))) ?_
  refine AL_p (x_index (E := 83) (n := 4) rfl rfl rfl (by kernel_rfl) rfl (k := st.i) (by omega) (by omega)) ?_
  refine AL_p (x_efield (off := 2) (o' := 2) rfl rfl (by kernel_rfl) rfl) ?_
  refine AL_p (x_eload1 rfl rfl (by kernel_rfl) rfl) ?_
  refine AL_p (x_assign rfl rfl) ?_
  refine AL_nild (by kernel_rfl) ?_
  refine AW_ret ?_
  exact ⟨rn [], ⟨⟨⟨_, rfl, vle_str (by rw [hno])⟩, trivial⟩, ⟨⟨_, rfl, by first | exact BLe.rf | exact ble_eq (by rw [hno]; first | done | rfl)⟩, trivial⟩, by repeat (first | exact trivial | refine ⟨⟨rfl, by first | (left; intro h; cases h) | (right; rfl), by first | exact (fun _ h => ⟨_, h⟩) | exact (fun _ _ => ⟨_, rfl⟩) | (intro _ h; cases h)⟩, ?_⟩), rfl⟩⟩

set_option maxHeartbeats 4000000 in
theorem sTerm_c (tk : List Tokent) (e : Int) (st : PS) (hm : tk.length ≤ 1048576) (hi : st.i ≤ tk.length) (hok : ∀ t ∈ tk, tokOk t) (b901 : Bool) : AC Try.prog 139 [.one (.ptr 200 0), .one (.c (.bool (b901)))] [(200, some (psB tk e st))] (.agg (termC (termP tk e b901 st).1)) [(200, some (psB tk e (termP tk e b901 st).2))] := by
  refine AC_bodyC (n := 3) (k := 9) (T := [(4, .one (.ptr 9 0))]) (Lf := ((9, some (.box (termC (termP tk e b901 st).1))) :: [(200, some (psB tk e (termP tk e b901 st).2))])) Try.func139 rfl rfl Try.ntmps139 rfl Try.results139 rfl rfl (by kernel_rfl) rfl rfl ⟨trivial, (by repeat (first | exact trivial | refine ⟨⟨_, rfl, BLe.rf⟩, ?_⟩)), (by repeat (first | exact trivial | refine ⟨⟨rfl, by first | (left; intro h; cases h) | (right; rfl), by first | exact (fun _ h => ⟨_, h⟩) | exact (fun _ _ => ⟨_, rfl⟩) | (intro _ h; cases h)⟩, ?_⟩)), rfl⟩ ?_
  refine AW_seq ?_
  refine AW_region ?_
  refine AL_p (x_alloc (z := .agg #[.string ⟨#[]⟩, .int .i64 0, .string ⟨#[]⟩]) 100 rfl (by kernel_rfl) rfl rfl rfl rfl) ?_
  refine AL_nil ?_
  refine AW_seq ?_
  refine AW_seq ?_
  refine AW_draw rfl ?_
  refine AL_p (x_move rfl rfl) ?_
  refine AL_p (x_nilc rfl rfl rfl) ?_
  refine AL_p (x_field (off := 3) (o' := 3) rfl rfl rfl (by kernel_rfl) rfl) ?_
  refine AL_p (x_load1 rfl rfl rfl (by kernel_rfl) rfl) ?_
  refine AL_b (x_neq rfl rfl rfl) (fun b10 h10 => ?_)
  refine AL_p (x_move rfl rfl) ?_
  cases b10
  rotate_left
  · try simp only [tdy] at h10
    have h0k : (hereT tk e st).kind = 0 := here_kind (fun q => by omega)
    have htm : termT (hereT tk e st) = false := term_zero h0k
    have hno := term_no (b := b901) htm
    refine AL_o rfl rfl rfl rfl ?_
    refine AL_o rfl rfl rfl rfl ?_
    refine AL_o rfl rfl rfl rfl ?_
    refine AL_o rfl rfl rfl rfl ?_
    refine AL_o rfl rfl rfl rfl ?_
    refine AL_o rfl rfl rfl rfl ?_
    refine AL_o rfl rfl rfl rfl ?_
    refine AL_o rfl rfl rfl rfl ?_
    refine AL_o rfl rfl rfl rfl ?_
    refine AL_o rfl rfl rfl rfl ?_
    refine AL_p (x_pickT rfl rfl rfl) ?_
    refine AL_nild (by kernel_rfl) ?_
    refine AW_condT rfl ?_
    refine AW_seq ?_
    refine AW_region ?_
    refine AL_p (x_move rfl rfl) ?_
    refine AL_p (x_call (ks := []) (L := [(200, some _)]) (L' := [(200, some _)]) rfl rfl rfl (sFault_c tk e st hm hi 6) rfl AllV.rf (caught_of rfl) rfl rfl rfl ⟨rfl, trivial⟩ rfl) ?_
    refine AL_nil ?_
    refine AW_seq ?_
    refine AW_region ?_
    refine AL_p (x_build (zs := [.string ⟨#[]⟩, .int .i64 0, .string ⟨#[]⟩]) (places := [(0, 1), (1, 2)]) rfl (by kernel_rfl) rfl rfl rfl rfl rfl) ?_
    refine AL_p (x_store (n := 3) rfl rfl rfl rfl (by kernel_rfl) rfl rfl rfl) ?_
    refine AL_nil ?_
    refine AW_ret ?_
    exact ⟨rn [(9, 100)], ⟨⟨⟨_, rfl, VLe.rf⟩, trivial⟩, ⟨⟨_, rfl, by first | exact BLe.rf | exact ble_eq (by rw [hno]; first | done | rfl)⟩, ⟨_, rfl, by first | exact BLe.rf | exact ble_eq (by rw [hno]; first | done | rfl)⟩, trivial⟩, by repeat (first | exact trivial | refine ⟨⟨rfl, by first | (left; intro h; cases h) | (right; rfl), by first | exact (fun _ h => ⟨_, h⟩) | exact (fun _ _ => ⟨_, rfl⟩) | (intro _ h; cases h)⟩, ?_⟩), rfl⟩⟩
  try simp only [tdy] at h10
  refine AL_g rfl rfl (x_move rfl rfl) ?_
  refine AL_g rfl rfl (x_nilc rfl rfl rfl) ?_
  refine AL_g rfl rfl (x_field (off := 1) (o' := 1) rfl rfl rfl (by kernel_rfl) rfl) ?_
  refine AL_g rfl rfl (x_load1 rfl rfl rfl (by kernel_rfl) rfl) ?_
  refine AL_g rfl rfl (x_move rfl rfl) ?_
  refine AL_g rfl rfl (x_nilc rfl rfl rfl) ?_
  refine AL_g rfl rfl (x_field (off := 0) (o' := 0) rfl rfl rfl (by kernel_rfl) rfl) ?_
  refine AL_g rfl rfl (x_load1 rfl rfl rfl (by kernel_rfl) rfl) ?_
  refine AL_g rfl rfl (x_len (E := 83) (n := 4) rfl rfl (by kernel_rfl)) ?_
  refine AL_gb rfl rfl (x_geq rfl rfl rfl) (fun b21 h21 => ?_)
  refine AL_p (x_pickF rfl rfl rfl) ?_
  refine AL_nild (by kernel_rfl) ?_
  cases b21
  rotate_left
  · try simp only [tdy] at h21
    have h0k : (hereT tk e st).kind = 0 := here_kind (fun q => by omega)
    have htm : termT (hereT tk e st) = false := term_zero h0k
    have hno := term_no (b := b901) htm
    refine AW_condT rfl ?_
    refine AW_seq ?_
    refine AW_region ?_
    refine AL_p (x_move rfl rfl) ?_
    refine AL_p (x_call (ks := []) (L := [(200, some _)]) (L' := [(200, some _)]) rfl rfl rfl (sFault_c tk e st hm hi 6) rfl AllV.rf (caught_of rfl) rfl rfl rfl ⟨rfl, trivial⟩ rfl) ?_
    refine AL_nil ?_
    refine AW_seq ?_
    refine AW_region ?_
    refine AL_p (x_build (zs := [.string ⟨#[]⟩, .int .i64 0, .string ⟨#[]⟩]) (places := [(0, 1), (1, 2)]) rfl (by kernel_rfl) rfl rfl rfl rfl rfl) ?_
    refine AL_p (x_store (n := 3) rfl rfl rfl rfl (by kernel_rfl) rfl rfl rfl) ?_
    refine AL_nil ?_
    refine AW_ret ?_
    exact ⟨rn [(9, 100)], ⟨⟨⟨_, rfl, VLe.rf⟩, trivial⟩, ⟨⟨_, rfl, by first | exact BLe.rf | exact ble_eq (by rw [hno]; first | done | rfl)⟩, ⟨_, rfl, by first | exact BLe.rf | exact ble_eq (by rw [hno]; first | done | rfl)⟩, trivial⟩, by repeat (first | exact trivial | refine ⟨⟨rfl, by first | (left; intro h; cases h) | (right; rfl), by first | exact (fun _ h => ⟨_, h⟩) | exact (fun _ _ => ⟨_, rfl⟩) | (intro _ h; cases h)⟩, ?_⟩), rfl⟩⟩
  try simp only [tdy] at h21
  have hh : hereT tk e st = (tk[st.i]'(by omega)) := here_ok (by omega) (by omega)
  have hto := hok _ (List.getElem_mem (l := tk) (n := st.i) (by omega))
  refine AW_condF rfl ?_
  refine AW_skip ?_
  refine AW_seq ?_
  refine AW_draw rfl ?_
  refine AL_p (x_move rfl rfl) ?_
  refine AL_p (x_nilc rfl rfl rfl) ?_
  refine AL_p (x_field (off := 0) (o' := 0) rfl rfl rfl (by kernel_rfl) rfl) ?_
  refine AL_p (x_load1 rfl rfl rfl (by kernel_rfl) rfl) ?_
  refine AL_p (x_move rfl rfl) ?_
  refine AL_p (x_nilc rfl rfl rfl) ?_
  refine AL_p (x_field (off := 1) (o' := 1) rfl rfl rfl (by kernel_rfl) rfl) ?_
  refine AL_p (x_load1 rfl rfl rfl (by kernel_rfl) rfl) ?_
  refine AL_p (x_index (E := 83) (n := 4) rfl rfl rfl (by kernel_rfl) rfl (k := st.i) (by omega) (by omega)) ?_
  refine AL_p (x_eloadW (n := 4) rfl rfl (by kernel_rfl) rfl) ?_
  refine AL_p (x_alloc (z := .agg #[.int .i64 0, .int .i64 0, .string ⟨#[]⟩, .int .i64 0]) 101 rfl (by kernel_rfl) rfl rfl rfl rfl) ?_
  refine AL_p (x_store (n := 4) rfl rfl rfl rfl (by kernel_rfl) rfl rfl rfl) ?_
  refine AL_nild (by kernel_rfl) ?_
  refine AW_seq ?_
  refine AW_seq ?_
  refine AW_region ?_
  refine AL_p (x_field (off := 0) (o' := 0) rfl rfl rfl (by kernel_rfl) rfl) ?_
  refine AL_p (x_load1 rfl rfl rfl (by kernel_rfl) rfl) ?_
  refine AL_b (x_eql rfl rfl rfl) (fun b38 h38 => ?_)
  refine AL_p (x_move rfl rfl) ?_
  cases b38
  rotate_left
  · try simp only [tdy] at h38
    have htm : termT (hereT tk e st) = false := by rw [hh]; simp [termT, nameT, h38]
    have hno := term_no (b := b901) htm
    refine AL_o rfl rfl rfl rfl ?_
    refine AL_o rfl rfl rfl rfl ?_
    refine AL_o rfl rfl rfl rfl ?_
    refine AL_o rfl rfl rfl rfl ?_
    refine AL_u rfl rfl rfl ?_
    refine AL_u rfl rfl rfl ?_
    refine AL_u rfl rfl rfl ?_
    refine AL_o rfl rfl rfl rfl ?_
    refine AL_p (x_pickT rfl rfl rfl) ?_
    refine AL_nil ?_
    refine AW_condT rfl ?_
    refine AW_seq ?_
    refine AW_region ?_
    refine AL_p (x_move rfl rfl) ?_
    refine AL_p (x_call (ks := []) (L := [(200, some _)]) (L' := [(200, some _)]) rfl rfl rfl (sFault_c tk e st hm hi 6) rfl AllV.rf (caught_of rfl) rfl rfl rfl ⟨rfl, trivial⟩ rfl) ?_
    refine AL_nil ?_
    refine AW_seq ?_
    refine AW_region ?_
    refine AL_p (x_build (zs := [.string ⟨#[]⟩, .int .i64 0, .string ⟨#[]⟩]) (places := [(0, 1), (1, 2)]) rfl (by kernel_rfl) rfl rfl rfl rfl rfl) ?_
    refine AL_p (x_store (n := 3) rfl rfl rfl rfl (by kernel_rfl) rfl rfl rfl) ?_
    refine AL_nil ?_
    refine AW_ret ?_
    exact ⟨rn [(9, 100)], ⟨⟨⟨_, rfl, VLe.rf⟩, trivial⟩, ⟨⟨_, rfl, by first | exact BLe.rf | exact ble_eq (by rw [hno]; first | done | rfl)⟩, ⟨_, rfl, by first | exact BLe.rf | exact ble_eq (by rw [hno]; first | done | rfl)⟩, trivial⟩, by repeat (first | exact trivial | refine ⟨⟨rfl, by first | (left; intro h; cases h) | (right; rfl), by first | exact (fun _ h => ⟨_, h⟩) | exact (fun _ _ => ⟨_, rfl⟩) | (intro _ h; cases h)⟩, ?_⟩), rfl⟩⟩
  try simp only [tdy] at h38
  refine AL_g rfl rfl (x_field (off := 0) (o' := 0) rfl rfl rfl (by kernel_rfl) rfl) ?_
  refine AL_g rfl rfl (x_load1 rfl rfl rfl (by kernel_rfl) rfl) ?_
  refine AL_gb rfl rfl (x_eql rfl rfl rfl) (fun b42 h42 => ?_)
  refine AL_g rfl rfl (x_move rfl rfl) ?_
  cases b42
  · try simp only [tdy] at h42
    have htm : termT (hereT tk e st) = true := by rw [hh]; exact tok_term hto h38 h42
    have hlt := term_lt htm
    refine AL_o rfl rfl rfl rfl ?_
    refine AL_o rfl rfl rfl rfl ?_
    refine AL_o rfl rfl rfl rfl ?_
    refine AL_g rfl rfl (x_pickF rfl rfl rfl) ?_
    refine AL_p (x_pickF rfl rfl rfl) ?_
    refine AL_nil ?_
    refine AW_condF rfl ?_
    refine AW_skip ?_
    refine AW_seq ?_
    refine AW_seq ?_
    refine AW_region ?_
    refine AL_p (x_move rfl rfl) ?_
    refine AL_nil ?_
    cases b901
    rotate_left
    · try simp only [tdy] at h901
      have hno := term_over htm
      refine AW_condT rfl ?_
      refine AW_seq ?_
      refine AW_region ?_
      refine AL_p (x_move rfl rfl) ?_
      refine AL_p (x_call (ks := []) (L := [(200, some _)]) (L' := [(200, some _)]) rfl rfl rfl (sFault_c tk e st hm hi 7) rfl AllV.rf (caught_of rfl) rfl rfl rfl ⟨rfl, trivial⟩ rfl) ?_
      refine AL_nil ?_
      refine AW_seq ?_
      refine AW_region ?_
      refine AL_p (x_build (zs := [.string ⟨#[]⟩, .int .i64 0, .string ⟨#[]⟩]) (places := [(0, 1), (1, 2)]) rfl (by kernel_rfl) rfl rfl rfl rfl rfl) ?_
      refine AL_p (x_store (n := 3) rfl rfl rfl rfl (by kernel_rfl) rfl rfl rfl) ?_
      refine AL_nil ?_
      refine AW_ret ?_
      exact ⟨rn [(9, 100)], ⟨⟨⟨_, rfl, VLe.rf⟩, trivial⟩, ⟨⟨_, rfl, by first | exact BLe.rf | exact ble_eq (by rw [hno]; first | done | rfl)⟩, ⟨_, rfl, by first | exact BLe.rf | exact ble_eq (by rw [hno]; first | done | rfl)⟩, trivial⟩, by repeat (first | exact trivial | refine ⟨⟨rfl, by first | (left; intro h; cases h) | (right; rfl), by first | exact (fun _ h => ⟨_, h⟩) | exact (fun _ _ => ⟨_, rfl⟩) | (intro _ h; cases h)⟩, ?_⟩), rfl⟩⟩
    try simp only [tdy] at h901
    have hn1 := term_ok htm
    refine AW_condF rfl ?_
    refine AW_skip ?_
    refine AW_seq ?_
    refine AW_region ?_
    refine AL_p (x_move rfl rfl) ?_
    refine AL_p (x_nilc rfl rfl rfl) ?_
    refine AL_p (x_field (off := 1) (o' := 1) rfl rfl rfl (by kernel_rfl) rfl) ?_
    refine AL_p (x_load1 rfl rfl rfl (by kernel_rfl) rfl) ?_
    refine AL_p (x_add rfl rfl rfl (IntWalk.i64_in _ (by omega))) ?_
    refine AL_p (x_nilc rfl rfl rfl) ?_
    refine AL_p (x_field (off := 1) (o' := 1) rfl rfl rfl (by kernel_rfl) rfl) ?_
    refine AL_p (x_store (n := 1) rfl rfl rfl rfl (by kernel_rfl) rfl rfl rfl) ?_
    refine AL_nil ?_
    refine AW_seq ?_
    refine AW_seq ?_
    refine AW_region ?_
    refine AL_p (x_field (off := 0) (o' := 0) rfl rfl rfl (by kernel_rfl) rfl) ?_
    refine AL_p (x_load1 rfl rfl rfl (by kernel_rfl) rfl) ?_
    refine AL_b (x_eql rfl rfl rfl) (fun b65 h65 => ?_)
    refine AL_nil ?_
    cases b65
    rotate_left
    · try simp only [tdy] at h65
      have hno := hn1.trans (by rw [hh, of_var h65])
      refine AW_condT rfl ?_
      refine AW_seq ?_
      refine AW_region ?_
      refine AL_p (x_field (off := 2) (o' := 2) rfl rfl rfl (by kernel_rfl) rfl) ?_
      refine AL_p (x_load1 rfl rfl rfl (by kernel_rfl) rfl) ?_
      refine AL_p (x_build (zs := [.string ⟨#[]⟩, .int .i64 0, .string ⟨#[]⟩]) (places := [(0, 1), (1, 2)]) rfl (by kernel_rfl) rfl rfl rfl rfl rfl) ?_
      refine AL_p (x_store (n := 3) rfl rfl rfl rfl (by kernel_rfl) rfl rfl rfl) ?_
      refine AL_nil ?_
      refine AW_ret ?_
      exact ⟨rn [(9, 100)], ⟨⟨⟨_, rfl, VLe.rf⟩, trivial⟩, ⟨⟨_, rfl, by first | exact BLe.rf | exact ble_eq (by rw [hno]; first | done | rfl)⟩, ⟨_, rfl, by first | exact BLe.rf | exact ble_eq (by rw [hno]; first | done | rfl)⟩, trivial⟩, by repeat (first | exact trivial | refine ⟨⟨rfl, by first | (left; intro h; cases h) | (right; rfl), by first | exact (fun _ h => ⟨_, h⟩) | exact (fun _ _ => ⟨_, rfl⟩) | (intro _ h; cases h)⟩, ?_⟩), rfl⟩⟩
    try simp only [tdy] at h65
    have hno := hn1.trans (by rw [hh, of_any hto h65 h38])
    refine AW_condF rfl ?_
    refine AW_skip ?_
    refine AW_seq ?_
    refine AW_region ?_
    refine AL_p (x_field (off := 1) (o' := 1) rfl rfl rfl (by kernel_rfl) rfl) ?_
    refine AL_p (x_load1 rfl rfl rfl (by kernel_rfl) rfl) ?_
    refine AL_p (x_field (off := 2) (o' := 2) rfl rfl rfl (by kernel_rfl) rfl) ?_
    refine AL_p (x_load1 rfl rfl rfl (by kernel_rfl) rfl) ?_
    refine AL_p (x_build (zs := [.int .i64 0, .string ⟨#[]⟩]) (places := [(0, 1), (1, 1)]) rfl (by kernel_rfl) rfl rfl rfl rfl rfl) ?_
    refine AL_p (x_build (zs := [.string ⟨#[]⟩, .int .i64 0, .string ⟨#[]⟩]) (places := [(0, 1), (1, 2)]) rfl (by kernel_rfl) rfl rfl rfl rfl rfl) ?_
    refine AL_p (x_store (n := 3) rfl rfl rfl rfl (by kernel_rfl) rfl rfl rfl) ?_
    refine AL_nil ?_
    refine AW_ret ?_
    exact ⟨rn [(9, 100)], ⟨⟨⟨_, rfl, VLe.rf⟩, trivial⟩, ⟨⟨_, rfl, by first | exact BLe.rf | exact ble_eq (by rw [hno]; first | done | rfl)⟩, ⟨_, rfl, by first | exact BLe.rf | exact ble_eq (by rw [hno]; first | done | rfl)⟩, trivial⟩, by repeat (first | exact trivial | refine ⟨⟨rfl, by first | (left; intro h; cases h) | (right; rfl), by first | exact (fun _ h => ⟨_, h⟩) | exact (fun _ _ => ⟨_, rfl⟩) | (intro _ h; cases h)⟩, ?_⟩), rfl⟩⟩
  try simp only [tdy] at h42
  refine AL_g rfl rfl (x_field (off := 2) (o' := 2) rfl rfl rfl (by kernel_rfl) rfl) ?_
  refine AL_g rfl rfl (x_load1 rfl rfl rfl (by kernel_rfl) rfl) ?_
  refine AL_gb rfl rfl (x_call0 rfl rfl rfl (keptS_c _) rfl rfl) (fun b46 h46 => ?_)
  refine AL_g rfl rfl (x_pickT rfl rfl rfl) ?_
  refine AL_p (x_pickF rfl rfl rfl) ?_
  refine AL_nil ?_
  cases b46
  rotate_left
  · try simp only [tdy] at h46
    have htm : termT (hereT tk e st) = false := by rw [hh]; simp [termT, nameT, h42, h46]
    have hno := term_no (b := b901) htm
    refine AW_condT rfl ?_
    refine AW_seq ?_
    refine AW_region ?_
    refine AL_p (x_move rfl rfl) ?_
    refine AL_p (x_call (ks := []) (L := [(200, some _)]) (L' := [(200, some _)]) rfl rfl rfl (sFault_c tk e st hm hi 6) rfl AllV.rf (caught_of rfl) rfl rfl rfl ⟨rfl, trivial⟩ rfl) ?_
    refine AL_nil ?_
    refine AW_seq ?_
    refine AW_region ?_
    refine AL_p (x_build (zs := [.string ⟨#[]⟩, .int .i64 0, .string ⟨#[]⟩]) (places := [(0, 1), (1, 2)]) rfl (by kernel_rfl) rfl rfl rfl rfl rfl) ?_
    refine AL_p (x_store (n := 3) rfl rfl rfl rfl (by kernel_rfl) rfl rfl rfl) ?_
    refine AL_nil ?_
    refine AW_ret ?_
    exact ⟨rn [(9, 100)], ⟨⟨⟨_, rfl, VLe.rf⟩, trivial⟩, ⟨⟨_, rfl, by first | exact BLe.rf | exact ble_eq (by rw [hno]; first | done | rfl)⟩, ⟨_, rfl, by first | exact BLe.rf | exact ble_eq (by rw [hno]; first | done | rfl)⟩, trivial⟩, by repeat (first | exact trivial | refine ⟨⟨rfl, by first | (left; intro h; cases h) | (right; rfl), by first | exact (fun _ h => ⟨_, h⟩) | exact (fun _ _ => ⟨_, rfl⟩) | (intro _ h; cases h)⟩, ?_⟩), rfl⟩⟩
  try simp only [tdy] at h46
  have htm : termT (hereT tk e st) = true := by rw [hh]; simp [termT, nameT, h42, h46]
  have hlt := term_lt htm
  refine AW_condF rfl ?_
  refine AW_skip ?_
  refine AW_seq ?_
  refine AW_seq ?_
  refine AW_region ?_
  refine AL_p (x_move rfl rfl) ?_
  refine AL_nil ?_
  cases b901
  rotate_left
  · try simp only [tdy] at h901
    have hno := term_over htm
    refine AW_condT rfl ?_
    refine AW_seq ?_
    refine AW_region ?_
    refine AL_p (x_move rfl rfl) ?_
    refine AL_p (x_call (ks := []) (L := [(200, some _)]) (L' := [(200, some _)]) rfl rfl rfl (sFault_c tk e st hm hi 7) rfl AllV.rf (caught_of rfl) rfl rfl rfl ⟨rfl, trivial⟩ rfl) ?_
    refine AL_nil ?_
    refine AW_seq ?_
    refine AW_region ?_
    refine AL_p (x_build (zs := [.string ⟨#[]⟩, .int .i64 0, .string ⟨#[]⟩]) (places := [(0, 1), (1, 2)]) rfl (by kernel_rfl) rfl rfl rfl rfl rfl) ?_
    refine AL_p (x_store (n := 3) rfl rfl rfl rfl (by kernel_rfl) rfl rfl rfl) ?_
    refine AL_nil ?_
    refine AW_ret ?_
    exact ⟨rn [(9, 100)], ⟨⟨⟨_, rfl, VLe.rf⟩, trivial⟩, ⟨⟨_, rfl, by first | exact BLe.rf | exact ble_eq (by rw [hno]; first | done | rfl)⟩, ⟨_, rfl, by first | exact BLe.rf | exact ble_eq (by rw [hno]; first | done | rfl)⟩, trivial⟩, by repeat (first | exact trivial | refine ⟨⟨rfl, by first | (left; intro h; cases h) | (right; rfl), by first | exact (fun _ h => ⟨_, h⟩) | exact (fun _ _ => ⟨_, rfl⟩) | (intro _ h; cases h)⟩, ?_⟩), rfl⟩⟩
  try simp only [tdy] at h901
  have hn1 := term_ok htm
  refine AW_condF rfl ?_
  refine AW_skip ?_
  refine AW_seq ?_
  refine AW_region ?_
  refine AL_p (x_move rfl rfl) ?_
  refine AL_p (x_nilc rfl rfl rfl) ?_
  refine AL_p (x_field (off := 1) (o' := 1) rfl rfl rfl (by kernel_rfl) rfl) ?_
  refine AL_p (x_load1 rfl rfl rfl (by kernel_rfl) rfl) ?_
  refine AL_p (x_add rfl rfl rfl (IntWalk.i64_in _ (by omega))) ?_
  refine AL_p (x_nilc rfl rfl rfl) ?_
  refine AL_p (x_field (off := 1) (o' := 1) rfl rfl rfl (by kernel_rfl) rfl) ?_
  refine AL_p (x_store (n := 1) rfl rfl rfl rfl (by kernel_rfl) rfl rfl rfl) ?_
  refine AL_nil ?_
  refine AW_seq ?_
  refine AW_seq ?_
  refine AW_region ?_
  refine AL_p (x_field (off := 0) (o' := 0) rfl rfl rfl (by kernel_rfl) rfl) ?_
  refine AL_p (x_load1 rfl rfl rfl (by kernel_rfl) rfl) ?_
  refine AL_b (x_eql rfl rfl rfl) (fun b65 h65 => ?_)
  refine AL_nil ?_
  cases b65
  rotate_left
  · try simp only [tdy] at h65
    have hno := hn1.trans (by rw [hh, of_var h65])
    refine AW_condT rfl ?_
    refine AW_seq ?_
    refine AW_region ?_
    refine AL_p (x_field (off := 2) (o' := 2) rfl rfl rfl (by kernel_rfl) rfl) ?_
    refine AL_p (x_load1 rfl rfl rfl (by kernel_rfl) rfl) ?_
    refine AL_p (x_build (zs := [.string ⟨#[]⟩, .int .i64 0, .string ⟨#[]⟩]) (places := [(0, 1), (1, 2)]) rfl (by kernel_rfl) rfl rfl rfl rfl rfl) ?_
    refine AL_p (x_store (n := 3) rfl rfl rfl rfl (by kernel_rfl) rfl rfl rfl) ?_
    refine AL_nil ?_
    refine AW_ret ?_
    exact ⟨rn [(9, 100)], ⟨⟨⟨_, rfl, VLe.rf⟩, trivial⟩, ⟨⟨_, rfl, by first | exact BLe.rf | exact ble_eq (by rw [hno]; first | done | rfl)⟩, ⟨_, rfl, by first | exact BLe.rf | exact ble_eq (by rw [hno]; first | done | rfl)⟩, trivial⟩, by repeat (first | exact trivial | refine ⟨⟨rfl, by first | (left; intro h; cases h) | (right; rfl), by first | exact (fun _ h => ⟨_, h⟩) | exact (fun _ _ => ⟨_, rfl⟩) | (intro _ h; cases h)⟩, ?_⟩), rfl⟩⟩
  try simp only [tdy] at h65
  have hno := hn1.trans (by rw [hh, of_any hto h65 h38])
  refine AW_condF rfl ?_
  refine AW_skip ?_
  refine AW_seq ?_
  refine AW_region ?_
  refine AL_p (x_field (off := 1) (o' := 1) rfl rfl rfl (by kernel_rfl) rfl) ?_
  refine AL_p (x_load1 rfl rfl rfl (by kernel_rfl) rfl) ?_
  refine AL_p (x_field (off := 2) (o' := 2) rfl rfl rfl (by kernel_rfl) rfl) ?_
  refine AL_p (x_load1 rfl rfl rfl (by kernel_rfl) rfl) ?_
  refine AL_p (x_build (zs := [.int .i64 0, .string ⟨#[]⟩]) (places := [(0, 1), (1, 1)]) rfl (by kernel_rfl) rfl rfl rfl rfl rfl) ?_
  refine AL_p (x_build (zs := [.string ⟨#[]⟩, .int .i64 0, .string ⟨#[]⟩]) (places := [(0, 1), (1, 2)]) rfl (by kernel_rfl) rfl rfl rfl rfl rfl) ?_
  refine AL_p (x_store (n := 3) rfl rfl rfl rfl (by kernel_rfl) rfl rfl rfl) ?_
  refine AL_nil ?_
  refine AW_ret ?_
  exact ⟨rn [(9, 100)], ⟨⟨⟨_, rfl, VLe.rf⟩, trivial⟩, ⟨⟨_, rfl, by first | exact BLe.rf | exact ble_eq (by rw [hno]; first | done | rfl)⟩, ⟨_, rfl, by first | exact BLe.rf | exact ble_eq (by rw [hno]; first | done | rfl)⟩, trivial⟩, by repeat (first | exact trivial | refine ⟨⟨rfl, by first | (left; intro h; cases h) | (right; rfl), by first | exact (fun _ h => ⟨_, h⟩) | exact (fun _ _ => ⟨_, rfl⟩) | (intro _ h; cases h)⟩, ?_⟩), rfl⟩⟩

set_option maxHeartbeats 4000000 in
theorem sAtom_c0 (tk : List Tokent) (e : Int) (st : PS) (hm : tk.length ≤ 1048576) (hi : st.i ≤ tk.length) (hok : ∀ t ∈ tk, tokOk t) : AC Try.prog 107 [.one (.ptr 200 0)] [(200, some (psB tk e st))] (.agg (atomO (atomS tk e st).1)) [(200, some (psB tk e (atomS tk e st).2)), (0, some (.arr 70 termE (atomS tk e st).1.args true))] := by
  refine AC_bodyC (n := 2) (k := 9) (T := [(2, .one (.ptr 9 0))]) (Lf := ((9, some (.box (atomO (atomS tk e st).1))) :: [(200, some (psB tk e (atomS tk e st).2)), (0, some (.arr 70 termE (atomS tk e st).1.args true))])) Try.func107 rfl rfl Try.ntmps107 rfl Try.results107 rfl rfl (by kernel_rfl) rfl rfl ⟨trivial, (by repeat (first | exact trivial | refine ⟨⟨_, rfl, BLe.rf⟩, ?_⟩)), (by repeat (first | exact trivial | refine ⟨⟨rfl, by first | (left; intro h; cases h) | (right; rfl), by first | exact (fun _ h => ⟨_, h⟩) | exact (fun _ _ => ⟨_, rfl⟩) | (intro _ h; cases h)⟩, ?_⟩)), rfl⟩ ?_
  refine AW_seq ?_
  refine AW_region ?_
  refine AL_p (x_alloc (z := .agg #[.string ⟨#[]⟩, .slice none 0 0]) 100 rfl (by kernel_rfl) rfl rfl rfl rfl) ?_
  refine AL_nil ?_
  refine AW_seq ?_
  refine AW_region ?_
  refine AL_p (x_move rfl rfl) ?_
  refine AL_p (x_call (ks := []) (L := [(200, some _)]) (L' := [(200, some _)]) rfl rfl rfl (sWord_c tk e st hm hi) rfl AllV.rf (caught_of rfl) rfl rfl rfl ⟨rfl, trivial⟩ rfl) ?_
  refine AL_p (x_build (zs := [.string ⟨#[]⟩, .slice none 0 0]) (places := [(0, 1), (1, 1)]) rfl (by kernel_rfl) rfl rfl rfl rfl rfl) ?_
  refine AL_p (x_alloc (z := .agg #[.string ⟨#[]⟩, .slice none 0 0]) 101 rfl (by kernel_rfl) rfl rfl rfl rfl) ?_
  refine AL_p (x_store (n := 2) rfl rfl rfl rfl (by kernel_rfl) rfl rfl rfl) ?_
  refine AL_nil ?_
  refine AW_seq ?_
  refine AW_region ?_
  refine AL_p (x_move rfl rfl) ?_
  refine AL_p (x_call (ks := []) (L := [(200, some _)]) (L' := [(200, some _)]) rfl rfl rfl (sTake_c tk e (wordP tk e st).2 hm (word_le hi) ⟨#[40]⟩) rfl AllV.rf (caught_of rfl) rfl rfl rfl ⟨rfl, trivial⟩ rfl) ?_
  refine AL_nil ?_
  refine AW_seq ?_
  refine AW_seq ?_
  refine AW_region ?_
  refine AL_p (x_move rfl rfl) ?_
  refine AL_p (x_move rfl rfl) ?_
  refine AL_p (x_nilc rfl rfl rfl) ?_
  refine AL_p (x_field (off := 1) (o' := 1) rfl rfl rfl (by kernel_rfl) rfl) ?_
  refine AL_p (x_load1 rfl rfl rfl (by kernel_rfl) rfl) ?_
  refine AL_bc (x_call (ks := []) (L := [(200, some _)]) (L' := [(200, some _)]) rfl rfl rfl (sIsH_c tk e (atomOpen tk e st) hm (open_le hi) ⟨#[41]⟩) rfl AllV.rf (caught_of rfl) rfl rfl rfl ⟨rfl, trivial⟩ rfl) (fun b14 h14 => ?_)
  refine AL_nil ?_
  cases b14
  rotate_left
  · try simp only [tdy] at h14
    have hno := atomS_none h14
    have hlt := sign_lt h14
    refine AW_condT rfl ?_
    refine AW_seq ?_
    refine AW_region ?_
    refine AL_p (x_move rfl rfl) ?_
    refine AL_p (x_nilc rfl rfl rfl) ?_
    refine AL_p (x_field (off := 1) (o' := 1) rfl rfl rfl (by kernel_rfl) rfl) ?_
    refine AL_p (x_load1 rfl rfl rfl (by kernel_rfl) rfl) ?_
    refine AL_p (x_add rfl rfl rfl (IntWalk.i64_in _ (by omega))) ?_
    refine AL_p (x_nilc rfl rfl rfl) ?_
    refine AL_p (x_field (off := 1) (o' := 1) rfl rfl rfl (by kernel_rfl) rfl) ?_
    refine AL_p (x_store (n := 1) rfl rfl rfl rfl (by kernel_rfl) rfl rfl rfl) ?_
    refine AL_nil ?_
    refine AW_seq ?_
    refine AW_region ?_
    refine AL_p (x_loadN (n := 2) rfl rfl rfl (by kernel_rfl) rfl rfl) ?_
    refine AL_p (x_store (n := 2) rfl rfl rfl rfl (by kernel_rfl) rfl rfl rfl) ?_
    refine AL_nil ?_
    refine AW_adopt (T := 70) (e := termE) 102 100 1 rfl rfl rfl rfl rfl ?_
    refine AW_ret ?_
    exact ⟨rn [(9, 100), (0, 102)], ⟨⟨⟨_, rfl, VLe.rf⟩, trivial⟩, ⟨⟨_, rfl, by first | exact BLe.rf | exact ble_eq (by rw [hno]; first | done | rfl)⟩, ⟨_, rfl, by first | exact BLe.rf | exact ble_eq (by rw [hno]; first | done | rfl)⟩, ⟨_, rfl, by first | exact BLe.rf | (refine BLe.arr ?_; rw [hno]; first | done | rfl)⟩, trivial⟩, by repeat (first | exact trivial | refine ⟨⟨rfl, by first | (left; intro h; cases h) | (right; rfl), by first | exact (fun _ h => ⟨_, h⟩) | exact (fun _ _ => ⟨_, rfl⟩) | (intro _ h; cases h)⟩, ?_⟩), rfl⟩⟩
  try simp only [tdy] at h14
  refine AW_condF rfl ?_
  refine AW_skip ?_
  refine AW_seq ?_
  refine AW_block ?_
  refine AW_adopt (T := 70) (e := termE) 103 101 1 rfl rfl rfl rfl rfl ?_
  refine AW_loop2 (ι := {q : PS × List Termt // ((q.1).i ≤ tk.length ∧ (q.2).length ≤ 6) ∧ argsS tk e (8 - (q.2).length) (q.1) (q.2) = argsS tk e 8 (atomOpen tk e st) []}) (fun p => []) (fun p => [(103, some (.arr 70 termE (p.1.2) true)), (200, some (psB tk e (p.1.1)))]) [0, 2, 3] [100, 101] (fun p => 7 - (p.1.2).length) ⟨⟨atomOpen tk e st, []⟩, ⟨⟨open_le hi, by simp⟩, rfl⟩⟩ (rn []) ?_ ?_
  exact ⟨by (repeat refine ⟨⟨_, rfl, by first | exact VLe.rf | exact vle_int (by dsimp only; omega)⟩, ?_⟩); exact trivial, by (repeat refine ⟨⟨_, rfl, by first | exact BLe.rf | exact BLe.box AllC.rf | exact BLe.arr (by exact rfl)⟩, ?_⟩); exact trivial, by repeat (first | exact trivial | refine ⟨⟨rfl, by first | (left; intro h; cases h) | (right; rfl), by first | exact (fun _ h => ⟨_, h⟩) | exact (fun _ _ => ⟨_, rfl⟩) | (intro _ h; cases h)⟩, ?_⟩), rfl⟩
  rintro ⟨⟨st1, a⟩, hinv⟩
  dsimp only
  have hi1 : st1.i ≤ tk.length := hinv.1.1
  have hl : a.length ≤ 6 := hinv.1.2
  refine AW_seq ?_
  refine AW_seq ?_
  refine AW_region ?_
  refine AL_p (x_move rfl rfl) ?_
  refine AL_p (x_nilc rfl rfl rfl) ?_
  refine AL_p (x_field (off := 3) (o' := 3) rfl rfl rfl (by kernel_rfl) rfl) ?_
  refine AL_p (x_load1 rfl rfl rfl (by kernel_rfl) rfl) ?_
  refine AL_b (x_eql rfl rfl rfl) (fun b27 h27 => ?_)
  refine AL_nil ?_
  cases b27
  · try simp only [tdy] at h27
    have hi2 := hi1
    have hno := atomS_some h14 (hinv.2.symm.trans (argsS_bad h27))
    refine AW_condF rfl ?_
    refine AW_exit (BQ_hit ?_)
    refine AW_seq ?_
    refine AW_region ?_
    refine AL_p (x_move rfl rfl) ?_
    refine AL_p (x_call (ks := []) (L := [(200, some _)]) (L' := [(200, some _)]) rfl rfl rfl (sTake_c tk e _ hm hi2 ⟨#[41]⟩) rfl AllV.rf (caught_of rfl) rfl rfl rfl ⟨rfl, trivial⟩ rfl) ?_
    refine AL_nil ?_
    refine AW_seq ?_
    refine AW_region ?_
    refine AL_p (x_loadN (n := 2) rfl rfl rfl (by kernel_rfl) rfl rfl) ?_
    refine AL_p (x_store (n := 2) rfl rfl rfl rfl (by kernel_rfl) rfl rfl rfl) ?_
    refine AL_nil ?_
    refine AW_ret ?_
    exact ⟨rn [(9, 100), (0, 103)], ⟨⟨⟨_, rfl, VLe.rf⟩, trivial⟩, ⟨⟨_, rfl, by first | exact BLe.rf | exact ble_eq (by rw [hno]; first | done | rfl)⟩, ⟨_, rfl, by first | exact BLe.rf | exact ble_eq (by rw [hno]; first | done | rfl)⟩, ⟨_, rfl, by first | exact BLe.rf | (refine BLe.arr ?_; rw [hno]; first | done | rfl)⟩, trivial⟩, by repeat (first | exact trivial | refine ⟨⟨rfl, by first | (left; intro h; cases h) | (right; rfl), by first | exact (fun _ h => ⟨_, h⟩) | exact (fun _ _ => ⟨_, rfl⟩) | (intro _ h; cases h)⟩, ?_⟩), rfl⟩⟩
  try simp only [tdy] at h27
  refine AW_condT rfl ?_
  refine AW_skip ?_
  refine AW_block ?_
  refine AW_seq ?_
  refine AW_draw rfl ?_
  refine AL_p (x_field (off := 1) (o' := 1) rfl rfl rfl (by kernel_rfl) rfl) ?_
  refine AL_p (x_load1 rfl rfl rfl (by kernel_rfl) rfl) ?_
  refine AL_p (x_move rfl rfl) ?_
  refine AL_p (x_field (off := 1) (o' := 1) rfl rfl rfl (by kernel_rfl) rfl) ?_
  refine AL_p (x_load1 rfl rfl rfl (by kernel_rfl) rfl) ?_
  refine AL_p (x_olen (E := 70) (n := 3) rfl rfl rfl (by kernel_rfl)) ?_
  refine AL_b (x_eql rfl rfl rfl) (fun b34 h34 => ?_)
  refine AL_p (x_call (ks := []) (L := [(200, some _)]) (L' := [(200, some _)]) rfl rfl rfl (sTerm_c tk e st1 hm hi1 hok b34) rfl AllV.rf (caught_of rfl) rfl rfl rfl ⟨rfl, trivial⟩ rfl) ?_
  refine AL_p (y_bslice (E := 70) (e := termE) [.tmp 35] ([(termP tk e b34 st1).1]) 104 rfl rfl rfl rfl rfl rfl rfl rfl FitL.rf rfl rfl rfl rfl rfl rfl (by kernel_rfl)) ?_
  refine AL_p (y_append 105 rfl rfl rfl rfl rfl rfl rfl rfl (by kernel_rfl) (by simp only [List.length_append, List.length_cons, List.length_nil]; omega)) ?_
  refine AL_p (x_field (off := 1) (o' := 1) rfl rfl rfl (by kernel_rfl) rfl) ?_
  refine AL_p (x_store (n := 1) rfl rfl rfl rfl (by kernel_rfl) rfl rfl rfl) ?_
  refine AL_nild (by kernel_rfl) ?_
  refine AW_seq ?_
  refine AW_seq ?_
  refine AW_region ?_
  refine AL_p (x_move rfl rfl) ?_
  refine AL_p (x_move rfl rfl) ?_
  refine AL_p (x_nilc rfl rfl rfl) ?_
  refine AL_p (x_field (off := 1) (o' := 1) rfl rfl rfl (by kernel_rfl) rfl) ?_
  refine AL_p (x_load1 rfl rfl rfl (by kernel_rfl) rfl) ?_
  refine AL_bc (x_call (ks := []) (L := [(200, some _)]) (L' := [(200, some _)]) rfl rfl rfl (sIsH_c tk e (termP tk e b34 st1).2 hm (term_le hi1) ⟨#[44]⟩) rfl AllV.rf (caught_of rfl) rfl rfl rfl ⟨rfl, trivial⟩ rfl) (fun b44 h44 => ?_)
  refine AL_p (x_not rfl rfl) ?_
  refine AL_nil ?_
  cases b44
  · try simp only [tdy] at h44
    have hi2 := term_le (e := e) (b := b34) hi1
    have hno := atomS_some h14 (hinv.2.symm.trans (argsS_last' h34 h27 hl h44))
    refine AW_condT rfl ?_
    refine AW_exit (BQ_miss rfl (BQ_hit ?_))
    refine AW_seq ?_
    refine AW_region ?_
    refine AL_p (x_move rfl rfl) ?_
    refine AL_p (x_call (ks := []) (L := [(200, some _)]) (L' := [(200, some _)]) rfl rfl rfl (sTake_c tk e _ hm hi2 ⟨#[41]⟩) rfl AllV.rf (caught_of rfl) rfl rfl rfl ⟨rfl, trivial⟩ rfl) ?_
    refine AL_nil ?_
    refine AW_seq ?_
    refine AW_region ?_
    refine AL_p (x_loadN (n := 2) rfl rfl rfl (by kernel_rfl) rfl rfl) ?_
    refine AL_p (x_store (n := 2) rfl rfl rfl rfl (by kernel_rfl) rfl rfl rfl) ?_
    refine AL_nil ?_
    refine AW_ret ?_
    exact ⟨rn [(9, 100), (0, 105)], ⟨⟨⟨_, rfl, VLe.rf⟩, trivial⟩, ⟨⟨_, rfl, by first | exact BLe.rf | exact ble_eq (by rw [hno]; first | done | rfl)⟩, ⟨_, rfl, by first | exact BLe.rf | exact ble_eq (by rw [hno]; first | done | rfl)⟩, ⟨_, rfl, by first | exact BLe.rf | (refine BLe.arr ?_; rw [hno]; first | done | rfl)⟩, trivial⟩, by repeat (first | exact trivial | refine ⟨⟨rfl, by first | (left; intro h; cases h) | (right; rfl), by first | exact (fun _ h => ⟨_, h⟩) | exact (fun _ _ => ⟨_, rfl⟩) | (intro _ h; cases h)⟩, ?_⟩), rfl⟩⟩
  try simp only [tdy] at h44
  have hmo := argsS_more' h34 h27 hl h44
  have hlt := hmo.2.1
  have hmo1 := hmo.1
  refine AW_condF rfl ?_
  refine AW_skip ?_
  refine AW_region ?_
  refine AL_p (x_move rfl rfl) ?_
  refine AL_p (x_nilc rfl rfl rfl) ?_
  refine AL_p (x_field (off := 1) (o' := 1) rfl rfl rfl (by kernel_rfl) rfl) ?_
  refine AL_p (x_load1 rfl rfl rfl (by kernel_rfl) rfl) ?_
  refine AL_p (x_add rfl rfl rfl (IntWalk.i64_in _ (by omega))) ?_
  refine AL_p (x_nilc rfl rfl rfl) ?_
  refine AL_p (x_field (off := 1) (o' := 1) rfl rfl rfl (by kernel_rfl) rfl) ?_
  refine AL_p (x_store (n := 1) rfl rfl rfl rfl (by kernel_rfl) rfl rfl rfl) ?_
  refine AL_nil ?_
  refine ⟨⟨⟨(termP tk e b34 st1).2.next, a ++ [(termP tk e b34 st1).1]⟩, ⟨⟨hlt, by simp only [List.length_append, List.length_cons, List.length_nil]; omega⟩, hmo.2.2.trans hinv.2⟩⟩, rn [(103, 105)], ?_, by dsimp only; simp only [List.length_append, List.length_cons, List.length_nil]; omega⟩
  exact ⟨by (repeat refine ⟨⟨_, rfl, by first | exact VLe.rf | exact vle_int (by dsimp only; omega)⟩, ?_⟩); exact trivial, by (repeat refine ⟨⟨_, rfl, by first | exact BLe.rf | exact BLe.box AllC.rf | exact BLe.arr (by exact rfl)⟩, ?_⟩); exact trivial, by repeat (first | exact trivial | refine ⟨⟨rfl, by first | (left; intro h; cases h) | (right; rfl), by first | exact (fun _ h => ⟨_, h⟩) | exact (fun _ _ => ⟨_, rfl⟩) | (intro _ h; cases h)⟩, ?_⟩), rfl⟩

theorem sAtom_c (tk : List Tokent) (e : Int) (st : PS) (hm : tk.length ≤ 1048576) (hi : st.i ≤ tk.length) (hok : ∀ t ∈ tk, tokOk t) (k : Nat) (hk : Nat.beq k 200 = false) : AC Try.prog 107 [.one (.ptr 200 0)] [(200, some (psB tk e st))] (.agg (atomK (atomS tk e st).1 k)) [(200, some (psB tk e (atomS tk e st).2)), (k, some (.arr 70 termE (atomS tk e st).1.args true))] := AC.ps (sAtom_c0 tk e st hm hi hok) k hk (fun r h => atomK_ren h) (fun _ => rfl)

set_option maxHeartbeats 4000000 in
theorem sOp_c (tk : List Tokent) (e : Int) (st : PS) (hm : tk.length ≤ 1048576) (hi : st.i ≤ tk.length) : AC Try.prog 140 [.one (.ptr 200 0)] [(200, some (psB tk e st))] (.one (.c (.int .i64 (opS (hereT tk e st))))) [(200, some (psB tk e st))] := by
  have h4 : opL4.length = 4 := rfl
  refine AC_body1 Try.func140 rfl rfl Try.ntmps140 rfl Try.results140 ?_
  refine AW_seq ?_
  refine AW_region ?_
  refine AL_p (x_assign rfl rfl) ?_
  refine AL_nil ?_
  refine AW_seq ?_
  refine AW_seq ?_
  refine AW_region ?_
  refine AL_p (y_bslice_sl (E := 9) (e := strE) [.const (.string ⟨#[61]⟩), .const (.string ⟨#[33, 61]⟩), .const (.string ⟨#[60]⟩), .const (.string ⟨#[60, 61]⟩)] (opL4) rfl rfl rfl rfl rfl rfl rfl rfl FitL.rf rfl rfl rfl (by kernel_rfl)) ?_
  refine AL_p (x_len (E := 9) (n := 1) rfl rfl (by kernel_rfl)) ?_
  refine AL_p (x_move rfl rfl) ?_
  refine AL_nil ?_
  refine AW_block ?_
  refine AW_loop2 (ι := {q : Nat // q ≤ 4 ∧ NoneTo (fun x => signT (hereT tk e st) x) opL4 q}) (fun p => [(7, .one (.c (.int .i64 ((p.1) : Int))))]) (fun p => []) [0, 5, 6] [200] (fun p => 4 - (p.1)) ⟨0, ⟨by omega, .zero⟩⟩ (rn []) ?_ ?_
  exact ⟨by (repeat refine ⟨⟨_, rfl, by first | exact VLe.rf | exact vle_int (by dsimp only; omega)⟩, ?_⟩); exact trivial, by (repeat refine ⟨⟨_, rfl, by first | exact BLe.rf | exact BLe.box AllC.rf | exact BLe.arr (by exact rfl)⟩, ?_⟩); exact trivial, by repeat (first | exact trivial | refine ⟨⟨rfl, by first | (left; intro h; cases h) | (right; rfl), by first | exact (fun _ h => ⟨_, h⟩) | exact (fun _ _ => ⟨_, rfl⟩) | (intro _ h; cases h)⟩, ?_⟩), rfl⟩
  rintro ⟨k, hinv⟩
  dsimp only
  have hk : k ≤ 4 := hinv.1
  have hn := hinv.2
  refine AW_seq ?_
  refine AW_region ?_
  refine AL_b (x_lss rfl rfl rfl) (fun b8 h8 => ?_)
  refine AL_nil ?_
  refine AW_seq ?_
  cases b8
  · try simp only [tdy] at h8
    have hno := opS_none (k := k) (by omega) hn
    refine AW_condF rfl ?_
    refine AW_exit (BQ_hit ?_)
    refine AW_seq ?_
    refine AW_region ?_
    refine AL_p (x_assign rfl rfl) ?_
    refine AL_nil ?_
    refine AW_ret ?_
    exact ⟨rn [], ⟨⟨⟨_, rfl, vle_int (by rw [hno])⟩, trivial⟩, ⟨⟨_, rfl, by first | exact BLe.rf | exact ble_eq (by rw [hno]; first | done | rfl)⟩, trivial⟩, by repeat (first | exact trivial | refine ⟨⟨rfl, by first | (left; intro h; cases h) | (right; rfl), by first | exact (fun _ h => ⟨_, h⟩) | exact (fun _ _ => ⟨_, rfl⟩) | (intro _ h; cases h)⟩, ?_⟩), rfl⟩⟩
  try simp only [tdy] at h8
  refine AW_condT rfl ?_
  refine AW_skip ?_
  refine AW_seq ?_
  refine AW_block ?_
  refine AW_seq ?_
  refine AW_region ?_
  refine AL_p (x_move rfl rfl) ?_
  refine AL_p (x_index (E := 9) (n := 1) rfl rfl rfl (by kernel_rfl) rfl (k := k) (by omega) (by omega)) ?_
  refine AL_p (x_eload1 rfl rfl (by kernel_rfl) rfl) ?_
  refine AL_p (x_assign rfl rfl) ?_
  refine AL_p (x_assign rfl rfl) ?_
  refine AL_nil ?_
  refine AW_seq ?_
  refine AW_region ?_
  refine AL_p (x_move rfl rfl) ?_
  refine AL_p (x_move rfl rfl) ?_
  refine AL_p (x_nilc rfl rfl rfl) ?_
  refine AL_p (x_field (off := 1) (o' := 1) rfl rfl rfl (by kernel_rfl) rfl) ?_
  refine AL_p (x_load1 rfl rfl rfl (by kernel_rfl) rfl) ?_
  refine AL_p (x_move rfl rfl) ?_
  refine AL_bc (x_call (ks := []) (L := [(200, some _)]) (L' := [(200, some _)]) rfl rfl rfl (sIsH_c tk e st hm hi _) rfl AllV.rf (caught_of rfl) rfl rfl rfl ⟨rfl, trivial⟩ rfl) (fun b18 h18 => ?_)
  refine AL_nil ?_
  cases b18
  · try simp only [tdy] at h18
    refine AW_condF rfl ?_
    refine AW_skip ?_
    refine AW_region ?_
    refine AL_p (x_add rfl rfl rfl (IntWalk.i64_in _ (by omega))) ?_
    refine AL_p (x_move rfl rfl) ?_
    refine AL_nil ?_
    refine ⟨⟨k + 1, ⟨by omega, hn.succ (by omega) h18⟩⟩, rn [], ?_, by dsimp only; omega⟩
    exact ⟨by (repeat refine ⟨⟨_, rfl, by first | exact VLe.rf | exact vle_int (by dsimp only; omega)⟩, ?_⟩); exact trivial, by (repeat refine ⟨⟨_, rfl, by first | exact BLe.rf | exact BLe.box AllC.rf | exact BLe.arr (by exact rfl)⟩, ?_⟩); exact trivial, by repeat (first | exact trivial | refine ⟨⟨rfl, by first | (left; intro h; cases h) | (right; rfl), by first | exact (fun _ h => ⟨_, h⟩) | exact (fun _ _ => ⟨_, rfl⟩) | (intro _ h; cases h)⟩, ?_⟩), rfl⟩
  try simp only [tdy] at h18
  have hno := opS_at (by omega) h18
  refine AW_condT rfl ?_
  refine AW_seq ?_
  refine AW_region ?_
  refine AL_p (x_move rfl rfl) ?_
  refine AL_p (x_add rfl rfl rfl (IntWalk.i64_in _ (by omega))) ?_
  refine AL_p (x_assign rfl rfl) ?_
  refine AL_nil ?_
  refine AW_ret (BQ_ret (BQ_ret ?_))
  exact ⟨rn [], ⟨⟨⟨_, rfl, vle_int (by rw [hno])⟩, trivial⟩, ⟨⟨_, rfl, by first | exact BLe.rf | exact ble_eq (by rw [hno]; first | done | rfl)⟩, trivial⟩, by repeat (first | exact trivial | refine ⟨⟨rfl, by first | (left; intro h; cases h) | (right; rfl), by first | exact (fun _ h => ⟨_, h⟩) | exact (fun _ _ => ⟨_, rfl⟩) | (intro _ h; cases h)⟩, ?_⟩), rfl⟩⟩

set_option maxHeartbeats 4000000 in
theorem sKind_c (t : Tokent) : AC Try.prog 54 [.agg (tokenC t)] [] (.one (.c (.int .i64 (kindS t)))) [] := by
  have h3 : kindL3.length = 3 := rfl
  refine AC_body1 Try.func54 rfl rfl Try.ntmps54 rfl Try.results54 ?_
  refine AW_seq ?_
  refine AW_region ?_
  refine AL_p (x_box 100 rfl rfl rfl rfl rfl rfl rfl) ?_
  refine AL_p (x_assign rfl rfl) ?_
  refine AL_nil ?_
  refine AW_seq ?_
  refine AW_seq ?_
  refine AW_region ?_
  refine AL_p (y_bslice_sl (E := 9) (e := strE) [.const (.string ⟨#[115, 116, 97, 116, 101]⟩), .const (.string ⟨#[101, 118, 101, 110, 116]⟩), .const (.string ⟨#[118, 105, 101, 119]⟩)] (kindL3) rfl rfl rfl rfl rfl rfl rfl rfl FitL.rf rfl rfl rfl (by kernel_rfl)) ?_
  refine AL_p (x_len (E := 9) (n := 1) rfl rfl (by kernel_rfl)) ?_
  refine AL_p (x_move rfl rfl) ?_
  refine AL_nil ?_
  refine AW_block ?_
  refine AW_loop2 (ι := {q : Nat // q ≤ 3 ∧ NoneTo (fun x => decide (t.kind = 1) && t.s == x) kindL3 q}) (fun p => [(7, .one (.c (.int .i64 ((p.1) : Int))))]) (fun p => []) [1, 5, 6] [100] (fun p => 3 - (p.1)) ⟨0, ⟨by omega, .zero⟩⟩ (rn []) ?_ ?_
  exact ⟨by (repeat refine ⟨⟨_, rfl, by first | exact VLe.rf | exact vle_int (by dsimp only; omega)⟩, ?_⟩); exact trivial, by (repeat refine ⟨⟨_, rfl, by first | exact BLe.rf | exact BLe.box AllC.rf | exact BLe.arr (by exact rfl)⟩, ?_⟩); exact trivial, by repeat (first | exact trivial | refine ⟨⟨rfl, by first | (left; intro h; cases h) | (right; rfl), by first | exact (fun _ h => ⟨_, h⟩) | exact (fun _ _ => ⟨_, rfl⟩) | (intro _ h; cases h)⟩, ?_⟩), rfl⟩
  rintro ⟨k, hinv⟩
  dsimp only
  have hk : k ≤ 3 := hinv.1
  have hn := hinv.2
  refine AW_seq ?_
  refine AW_region ?_
  refine AL_b (x_lss rfl rfl rfl) (fun b8 h8 => ?_)
  refine AL_nil ?_
  refine AW_seq ?_
  cases b8
  · try simp only [tdy] at h8
    have hno := kindS_none (t := t) (k := k) (by omega) hn
    refine AW_condF rfl ?_
    refine AW_exit (BQ_hit ?_)
    refine AW_seq ?_
    refine AW_region ?_
    refine AL_p (x_assign rfl rfl) ?_
    refine AL_nil ?_
    refine AW_ret ?_
    exact ⟨rn [], ⟨⟨⟨_, rfl, vle_int (hno.symm)⟩, trivial⟩, trivial, trivial, rfl⟩⟩
  try simp only [tdy] at h8
  refine AW_condT rfl ?_
  refine AW_skip ?_
  refine AW_seq ?_
  refine AW_block ?_
  refine AW_seq ?_
  refine AW_region ?_
  refine AL_p (x_move rfl rfl) ?_
  refine AL_p (x_index (E := 9) (n := 1) rfl rfl rfl (by kernel_rfl) rfl (k := k) (by omega) (by omega)) ?_
  refine AL_p (x_eload1 rfl rfl (by kernel_rfl) rfl) ?_
  refine AL_p (x_assign rfl rfl) ?_
  refine AL_p (x_assign rfl rfl) ?_
  refine AL_nil ?_
  refine AW_seq ?_
  refine AW_region ?_
  refine AL_p (x_field (off := 0) (o' := 0) rfl rfl rfl (by kernel_rfl) rfl) ?_
  refine AL_p (x_load1 rfl rfl rfl (by kernel_rfl) rfl) ?_
  refine AL_b (x_eql rfl rfl rfl) (fun b14 h14 => ?_)
  refine AL_p (x_move rfl rfl) ?_
  cases b14
  · try simp only [tdy] at h14
    have hk1 : (decide (t.kind = 1) && t.s == kindL3[k]'(by omega)) = false := by simp [h14]
    refine AL_o rfl rfl rfl rfl ?_
    refine AL_o rfl rfl rfl rfl ?_
    refine AL_o rfl rfl rfl rfl ?_
    refine AL_o rfl rfl rfl rfl ?_
    refine AL_p (x_pickF rfl rfl rfl) ?_
    refine AL_nil ?_
    refine AW_condF rfl ?_
    refine AW_skip ?_
    refine AW_region ?_
    refine AL_p (x_add rfl rfl rfl (IntWalk.i64_in _ (by omega))) ?_
    refine AL_p (x_move rfl rfl) ?_
    refine AL_nil ?_
    refine ⟨⟨k + 1, ⟨by omega, hn.succ (by omega) hk1⟩⟩, rn [], ?_, by dsimp only; omega⟩
    exact ⟨by (repeat refine ⟨⟨_, rfl, by first | exact VLe.rf | exact vle_int (by dsimp only; omega)⟩, ?_⟩); exact trivial, by (repeat refine ⟨⟨_, rfl, by first | exact BLe.rf | exact BLe.box AllC.rf | exact BLe.arr (by exact rfl)⟩, ?_⟩); exact trivial, by repeat (first | exact trivial | refine ⟨⟨rfl, by first | (left; intro h; cases h) | (right; rfl), by first | exact (fun _ h => ⟨_, h⟩) | exact (fun _ _ => ⟨_, rfl⟩) | (intro _ h; cases h)⟩, ?_⟩), rfl⟩
  try simp only [tdy] at h14
  refine AL_g rfl rfl (x_field (off := 2) (o' := 2) rfl rfl rfl (by kernel_rfl) rfl) ?_
  refine AL_g rfl rfl (x_load1 rfl rfl rfl (by kernel_rfl) rfl) ?_
  refine AL_g rfl rfl (x_move rfl rfl) ?_
  refine AL_gb rfl rfl (x_seql rfl rfl rfl) (fun b19 h19 => ?_)
  refine AL_p (x_pickT rfl rfl rfl) ?_
  refine AL_nil ?_
  cases b19
  · try simp only [tdy] at h19
    have hk1 : (decide (t.kind = 1) && t.s == kindL3[k]'(by omega)) = false := by simp [h19]
    refine AW_condF rfl ?_
    refine AW_skip ?_
    refine AW_region ?_
    refine AL_p (x_add rfl rfl rfl (IntWalk.i64_in _ (by omega))) ?_
    refine AL_p (x_move rfl rfl) ?_
    refine AL_nil ?_
    refine ⟨⟨k + 1, ⟨by omega, hn.succ (by omega) hk1⟩⟩, rn [], ?_, by dsimp only; omega⟩
    exact ⟨by (repeat refine ⟨⟨_, rfl, by first | exact VLe.rf | exact vle_int (by dsimp only; omega)⟩, ?_⟩); exact trivial, by (repeat refine ⟨⟨_, rfl, by first | exact BLe.rf | exact BLe.box AllC.rf | exact BLe.arr (by exact rfl)⟩, ?_⟩); exact trivial, by repeat (first | exact trivial | refine ⟨⟨rfl, by first | (left; intro h; cases h) | (right; rfl), by first | exact (fun _ h => ⟨_, h⟩) | exact (fun _ _ => ⟨_, rfl⟩) | (intro _ h; cases h)⟩, ?_⟩), rfl⟩
  try simp only [tdy] at h19
  have hno := kindS_at (t := t) (k := k) (by omega) h14 h19
  refine AW_condT rfl ?_
  refine AW_seq ?_
  refine AW_region ?_
  refine AL_p (x_move rfl rfl) ?_
  refine AL_p (x_add rfl rfl rfl (IntWalk.i64_in _ (by omega))) ?_
  refine AL_p (x_assign rfl rfl) ?_
  refine AL_nil ?_
  refine AW_ret (BQ_ret (BQ_ret ?_))
  exact ⟨rn [], ⟨⟨⟨_, rfl, vle_int (hno.symm)⟩, trivial⟩, trivial, trivial, rfl⟩⟩

set_option maxHeartbeats 4000000 in
theorem sLit_c0 (tk : List Tokent) (e : Int) (st : PS) (hm : tk.length ≤ 1048576) (hi : st.i ≤ tk.length) (hok : ∀ t ∈ tk, tokOk t) : AC Try.prog 109 [.one (.ptr 200 0)] [(200, some (psB tk e st))] (.agg (litO (litS tk e st).1)) [(200, some (psB tk e (litS tk e st).2)), (0, some (.arr 70 termE (litS tk e st).1.atom.args true))] := by
  refine AC_bodyC (n := 10) (k := 9) (T := [(2, .one (.ptr 9 0))]) (Lf := ((9, some (.box (litO (litS tk e st).1))) :: [(200, some (psB tk e (litS tk e st).2)), (0, some (.arr 70 termE (litS tk e st).1.atom.args true))])) Try.func109 rfl rfl Try.ntmps109 rfl Try.results109 rfl rfl (by kernel_rfl) rfl rfl ⟨trivial, (by repeat (first | exact trivial | refine ⟨⟨_, rfl, BLe.rf⟩, ?_⟩)), (by repeat (first | exact trivial | refine ⟨⟨rfl, by first | (left; intro h; cases h) | (right; rfl), by first | exact (fun _ h => ⟨_, h⟩) | exact (fun _ _ => ⟨_, rfl⟩) | (intro _ h; cases h)⟩, ?_⟩)), rfl⟩ ?_
  refine AW_seq ?_
  refine AW_region ?_
  refine AL_p (x_alloc (z := .agg #[.int .i64 0, .string ⟨#[]⟩, .slice none 0 0, .int .i64 0, .string ⟨#[]⟩, .int .i64 0, .string ⟨#[]⟩, .string ⟨#[]⟩, .int .i64 0, .string ⟨#[]⟩]) 100 rfl (by kernel_rfl) rfl rfl rfl rfl) ?_
  refine AL_nil ?_
  refine AW_seq ?_
  refine AW_seq ?_
  refine AW_draw rfl ?_
  refine AL_p (x_move rfl rfl) ?_
  refine AL_p (x_nilc rfl rfl rfl) ?_
  refine AL_p (x_field (off := 3) (o' := 3) rfl rfl rfl (by kernel_rfl) rfl) ?_
  refine AL_p (x_load1 rfl rfl rfl (by kernel_rfl) rfl) ?_
  refine AL_b (x_eql rfl rfl rfl) (fun b8 h8 => ?_)
  refine AL_p (x_move rfl rfl) ?_
  cases b8
  · try simp only [tdy] at h8
    have h0k : (hereT tk e st).kind = 0 := here_kind (fun q => by omega)
    have hnt := not_zero h0k
    have hop := open_no (name_zero h0k)
    refine AL_o rfl rfl rfl rfl ?_
    refine AL_o rfl rfl rfl rfl ?_
    refine AL_o rfl rfl rfl rfl ?_
    refine AL_o rfl rfl rfl rfl ?_
    refine AL_o rfl rfl rfl rfl ?_
    refine AL_o rfl rfl rfl rfl ?_
    refine AL_o rfl rfl rfl rfl ?_
    refine AL_o rfl rfl rfl rfl ?_
    refine AL_o rfl rfl rfl rfl ?_
    refine AL_o rfl rfl rfl rfl ?_
    refine AL_p (x_pickF rfl rfl rfl) ?_
    refine AL_p (x_move rfl rfl) ?_
    refine AL_o rfl rfl rfl rfl ?_
    refine AL_o rfl rfl rfl rfl ?_
    refine AL_o rfl rfl rfl rfl ?_
    refine AL_o rfl rfl rfl rfl ?_
    refine AL_o rfl rfl rfl rfl ?_
    refine AL_o rfl rfl rfl rfl ?_
    refine AL_o rfl rfl rfl rfl ?_
    refine AL_o rfl rfl rfl rfl ?_
    refine AL_o rfl rfl rfl rfl ?_
    refine AL_o rfl rfl rfl rfl ?_
    refine AL_o rfl rfl rfl rfl ?_
    refine AL_o rfl rfl rfl rfl ?_
    refine AL_p (x_pickF rfl rfl rfl) ?_
    refine AL_p (x_move rfl rfl) ?_
    refine AL_o rfl rfl rfl rfl ?_
    refine AL_o rfl rfl rfl rfl ?_
    refine AL_o rfl rfl rfl rfl ?_
    refine AL_o rfl rfl rfl rfl ?_
    refine AL_o rfl rfl rfl rfl ?_
    refine AL_o rfl rfl rfl rfl ?_
    refine AL_o rfl rfl rfl rfl ?_
    refine AL_o rfl rfl rfl rfl ?_
    refine AL_o rfl rfl rfl rfl ?_
    refine AL_o rfl rfl rfl rfl ?_
    refine AL_o rfl rfl rfl rfl ?_
    refine AL_o rfl rfl rfl rfl ?_
    refine AL_p (x_pickF rfl rfl rfl) ?_
    refine AL_nild (by kernel_rfl) ?_
    refine AW_condF rfl ?_
    refine AW_skip ?_
    refine AW_seq ?_
    refine AW_seq ?_
    refine AW_draw rfl ?_
    refine AL_p (x_move rfl rfl) ?_
    refine AL_p (x_nilc rfl rfl rfl) ?_
    refine AL_p (x_field (off := 3) (o' := 3) rfl rfl rfl (by kernel_rfl) rfl) ?_
    refine AL_p (x_load1 rfl rfl rfl (by kernel_rfl) rfl) ?_
    refine AL_b (x_eql rfl rfl rfl) (fun b63 h63 => ?_)
    refine AL_p (x_move rfl rfl) ?_
    cases b63
    rotate_left
    · exfalso; (try simp only [tdy] at h63); omega
    try simp only [tdy] at h63
    refine AL_o rfl rfl rfl rfl ?_
    refine AL_o rfl rfl rfl rfl ?_
    refine AL_o rfl rfl rfl rfl ?_
    refine AL_o rfl rfl rfl rfl ?_
    refine AL_o rfl rfl rfl rfl ?_
    refine AL_o rfl rfl rfl rfl ?_
    refine AL_o rfl rfl rfl rfl ?_
    refine AL_o rfl rfl rfl rfl ?_
    refine AL_o rfl rfl rfl rfl ?_
    refine AL_o rfl rfl rfl rfl ?_
    refine AL_p (x_pickF rfl rfl rfl) ?_
    refine AL_p (x_move rfl rfl) ?_
    refine AL_o rfl rfl rfl rfl ?_
    refine AL_o rfl rfl rfl rfl ?_
    refine AL_o rfl rfl rfl rfl ?_
    refine AL_o rfl rfl rfl rfl ?_
    refine AL_o rfl rfl rfl rfl ?_
    refine AL_o rfl rfl rfl rfl ?_
    refine AL_o rfl rfl rfl rfl ?_
    refine AL_o rfl rfl rfl rfl ?_
    refine AL_o rfl rfl rfl rfl ?_
    refine AL_o rfl rfl rfl rfl ?_
    refine AL_o rfl rfl rfl rfl ?_
    refine AL_o rfl rfl rfl rfl ?_
    refine AL_p (x_pickF rfl rfl rfl) ?_
    refine AL_p (x_move rfl rfl) ?_
    refine AL_o rfl rfl rfl rfl ?_
    refine AL_o rfl rfl rfl rfl ?_
    refine AL_o rfl rfl rfl rfl ?_
    refine AL_o rfl rfl rfl rfl ?_
    refine AL_o rfl rfl rfl rfl ?_
    refine AL_o rfl rfl rfl rfl ?_
    refine AL_o rfl rfl rfl rfl ?_
    refine AL_o rfl rfl rfl rfl ?_
    refine AL_o rfl rfl rfl rfl ?_
    refine AL_o rfl rfl rfl rfl ?_
    refine AL_o rfl rfl rfl rfl ?_
    refine AL_o rfl rfl rfl rfl ?_
    refine AL_o rfl rfl rfl rfl ?_
    refine AL_p (x_pickF rfl rfl rfl) ?_
    refine AL_p (x_move rfl rfl) ?_
    refine AL_o rfl rfl rfl rfl ?_
    refine AL_o rfl rfl rfl rfl ?_
    refine AL_o rfl rfl rfl rfl ?_
    refine AL_o rfl rfl rfl rfl ?_
    refine AL_o rfl rfl rfl rfl ?_
    refine AL_o rfl rfl rfl rfl ?_
    refine AL_o rfl rfl rfl rfl ?_
    refine AL_p (x_pickF rfl rfl rfl) ?_
    refine AL_nild (by kernel_rfl) ?_
    refine AW_condF rfl ?_
    refine AW_skip ?_
    refine AW_seq ?_
    refine AW_region ?_
    refine AL_p (x_build (zs := [.int .i64 0, .string ⟨#[]⟩, .slice none 0 0, .int .i64 0, .string ⟨#[]⟩, .int .i64 0, .string ⟨#[]⟩, .string ⟨#[]⟩, .int .i64 0, .string ⟨#[]⟩]) (places := [(0, 1), (1, 2), (3, 1), (4, 3), (7, 3)]) rfl (by kernel_rfl) rfl rfl rfl rfl rfl) ?_
    refine AL_p (x_alloc (z := .agg #[.int .i64 0, .string ⟨#[]⟩, .slice none 0 0, .int .i64 0, .string ⟨#[]⟩, .int .i64 0, .string ⟨#[]⟩, .string ⟨#[]⟩, .int .i64 0, .string ⟨#[]⟩]) 102 rfl (by kernel_rfl) rfl rfl rfl rfl) ?_
    refine AL_p (x_store (n := 10) rfl rfl rfl rfl (by kernel_rfl) rfl rfl rfl) ?_
    refine AL_nil ?_
    refine AW_seq ?_
    refine AW_region ?_
    refine AL_p (x_move rfl rfl) ?_
    refine AL_p (x_call (ks := []) (L := [(200, some _)]) (L' := [(200, some _)]) rfl rfl rfl (sTerm_c tk e st hm hi hok false) rfl AllV.rf (caught_of rfl) rfl rfl rfl ⟨rfl, trivial⟩ rfl) ?_
    refine AL_p (x_field (off := 4) (o' := 4) rfl rfl rfl (by kernel_rfl) rfl) ?_
    refine AL_p (x_store (n := 3) rfl rfl rfl rfl (by kernel_rfl) rfl rfl rfl) ?_
    refine AL_nil ?_
    refine AW_seq ?_
    refine AW_region ?_
    refine AL_p (x_move rfl rfl) ?_
    refine AL_p (x_call (ks := []) (L := [(200, some _)]) (L' := [(200, some _)]) rfl rfl rfl (sOp_c tk e (termP tk e false st).2 hm (term_le hi)) rfl AllV.rf (caught_of rfl) rfl rfl rfl ⟨rfl, trivial⟩ rfl) ?_
    refine AL_p (x_field (off := 3) (o' := 3) rfl rfl rfl (by kernel_rfl) rfl) ?_
    refine AL_p (x_store (n := 1) rfl rfl rfl rfl (by kernel_rfl) rfl rfl rfl) ?_
    refine AL_nil ?_
    refine AW_seq ?_
    refine AW_seq ?_
    refine AW_region ?_
    refine AL_p (x_field (off := 3) (o' := 3) rfl rfl rfl (by kernel_rfl) rfl) ?_
    refine AL_p (x_load1 rfl rfl rfl (by kernel_rfl) rfl) ?_
    refine AL_b (x_eql rfl rfl rfl) (fun b126 h126 => ?_)
    refine AL_nil ?_
    cases b126
    rotate_left
    · try simp only [tdy] at h126
      have hq := fault_le (e := e) (c := 6) (term_le (e := e) (b := false) hi)
      have hno := litS_cmp hnt hop (opP_no h126)
      refine AW_condT rfl ?_
      refine AW_region ?_
      refine AL_p (x_move rfl rfl) ?_
      refine AL_p (x_call (ks := []) (L := [(200, some _)]) (L' := [(200, some _)]) rfl rfl rfl (sFault_c tk e (termP tk e false st).2 hm (term_le hi) 6) rfl AllV.rf (caught_of rfl) rfl rfl rfl ⟨rfl, trivial⟩ rfl) ?_
      refine AL_nil ?_
      refine AW_seq ?_
      refine AW_region ?_
      refine AL_p (x_move rfl rfl) ?_
      refine AL_p (x_call (ks := []) (L := [(200, some _)]) (L' := [(200, some _)]) rfl rfl rfl (sTerm_c tk e _ hm hq hok false) rfl AllV.rf (caught_of rfl) rfl rfl rfl ⟨rfl, trivial⟩ rfl) ?_
      refine AL_p (x_field (off := 7) (o' := 7) rfl rfl rfl (by kernel_rfl) rfl) ?_
      refine AL_p (x_store (n := 3) rfl rfl rfl rfl (by kernel_rfl) rfl rfl rfl) ?_
      refine AL_nil ?_
      refine AW_seq ?_
      refine AW_region ?_
      refine AL_p (x_loadN (n := 10) rfl rfl rfl (by kernel_rfl) rfl rfl) ?_
      refine AL_p (x_store (n := 10) rfl rfl rfl rfl (by kernel_rfl) rfl rfl rfl) ?_
      refine AL_nil ?_
      refine AW_adopt (T := 70) (e := termE) 103 100 2 rfl rfl rfl rfl rfl ?_
      refine AW_ret ?_
      exact ⟨rn [(9, 100), (0, 103)], ⟨⟨⟨_, rfl, VLe.rf⟩, trivial⟩, ⟨⟨_, rfl, by first | exact BLe.rf | exact ble_eq (by rw [hno]; first | done | rfl)⟩, ⟨_, rfl, by first | exact BLe.rf | exact ble_eq (by rw [hno]; first | done | rfl)⟩, ⟨_, rfl, by first | exact BLe.rf | (refine BLe.arr ?_; rw [hno]; first | done | rfl)⟩, trivial⟩, by repeat (first | exact trivial | refine ⟨⟨rfl, by first | (left; intro h; cases h) | (right; rfl), by first | exact (fun _ h => ⟨_, h⟩) | exact (fun _ _ => ⟨_, rfl⟩) | (intro _ h; cases h)⟩, ?_⟩), rfl⟩⟩
    try simp only [tdy] at h126
    have hq := next_le (opP_ok (tk := tk) (e := e) (st := (termP tk e false st).2) h126).2
    have hlt2 : (termP tk e false st).2.i < tk.length := hq
    have hno := litS_cmp hnt hop (opP_ok h126).1
    refine AW_condF rfl ?_
    refine AW_region ?_
    refine AL_p (x_move rfl rfl) ?_
    refine AL_p (x_nilc rfl rfl rfl) ?_
    refine AL_p (x_field (off := 1) (o' := 1) rfl rfl rfl (by kernel_rfl) rfl) ?_
    refine AL_p (x_load1 rfl rfl rfl (by kernel_rfl) rfl) ?_
    refine AL_p (x_add rfl rfl rfl (IntWalk.i64_in _ (by omega))) ?_
    refine AL_p (x_nilc rfl rfl rfl) ?_
    refine AL_p (x_field (off := 1) (o' := 1) rfl rfl rfl (by kernel_rfl) rfl) ?_
    refine AL_p (x_store (n := 1) rfl rfl rfl rfl (by kernel_rfl) rfl rfl rfl) ?_
    refine AL_nil ?_
    refine AW_seq ?_
    refine AW_region ?_
    refine AL_p (x_move rfl rfl) ?_
    refine AL_p (x_call (ks := []) (L := [(200, some _)]) (L' := [(200, some _)]) rfl rfl rfl (sTerm_c tk e _ hm hq hok false) rfl AllV.rf (caught_of rfl) rfl rfl rfl ⟨rfl, trivial⟩ rfl) ?_
    refine AL_p (x_field (off := 7) (o' := 7) rfl rfl rfl (by kernel_rfl) rfl) ?_
    refine AL_p (x_store (n := 3) rfl rfl rfl rfl (by kernel_rfl) rfl rfl rfl) ?_
    refine AL_nil ?_
    refine AW_seq ?_
    refine AW_region ?_
    refine AL_p (x_loadN (n := 10) rfl rfl rfl (by kernel_rfl) rfl rfl) ?_
    refine AL_p (x_store (n := 10) rfl rfl rfl rfl (by kernel_rfl) rfl rfl rfl) ?_
    refine AL_nil ?_
    refine AW_adopt (T := 70) (e := termE) 103 100 2 rfl rfl rfl rfl rfl ?_
    refine AW_ret ?_
    exact ⟨rn [(9, 100), (0, 103)], ⟨⟨⟨_, rfl, VLe.rf⟩, trivial⟩, ⟨⟨_, rfl, by first | exact BLe.rf | exact ble_eq (by rw [hno]; first | done | rfl)⟩, ⟨_, rfl, by first | exact BLe.rf | exact ble_eq (by rw [hno]; first | done | rfl)⟩, ⟨_, rfl, by first | exact BLe.rf | (refine BLe.arr ?_; rw [hno]; first | done | rfl)⟩, trivial⟩, by repeat (first | exact trivial | refine ⟨⟨rfl, by first | (left; intro h; cases h) | (right; rfl), by first | exact (fun _ h => ⟨_, h⟩) | exact (fun _ _ => ⟨_, rfl⟩) | (intro _ h; cases h)⟩, ?_⟩), rfl⟩⟩
  try simp only [tdy] at h8
  refine AL_g rfl rfl (x_move rfl rfl) ?_
  refine AL_g rfl rfl (x_nilc rfl rfl rfl) ?_
  refine AL_g rfl rfl (x_field (off := 1) (o' := 1) rfl rfl rfl (by kernel_rfl) rfl) ?_
  refine AL_g rfl rfl (x_load1 rfl rfl rfl (by kernel_rfl) rfl) ?_
  refine AL_g rfl rfl (x_move rfl rfl) ?_
  refine AL_g rfl rfl (x_nilc rfl rfl rfl) ?_
  refine AL_g rfl rfl (x_field (off := 0) (o' := 0) rfl rfl rfl (by kernel_rfl) rfl) ?_
  refine AL_g rfl rfl (x_load1 rfl rfl rfl (by kernel_rfl) rfl) ?_
  refine AL_g rfl rfl (x_len (E := 83) (n := 4) rfl rfl (by kernel_rfl)) ?_
  refine AL_gb rfl rfl (x_lss rfl rfl rfl) (fun b19 h19 => ?_)
  refine AL_p (x_pickT rfl rfl rfl) ?_
  refine AL_p (x_move rfl rfl) ?_
  cases b19
  · try simp only [tdy] at h19
    have h0k : (hereT tk e st).kind = 0 := here_kind (fun q => by omega)
    have hnt := not_zero h0k
    have hop := open_no (name_zero h0k)
    refine AL_o rfl rfl rfl rfl ?_
    refine AL_o rfl rfl rfl rfl ?_
    refine AL_o rfl rfl rfl rfl ?_
    refine AL_o rfl rfl rfl rfl ?_
    refine AL_o rfl rfl rfl rfl ?_
    refine AL_o rfl rfl rfl rfl ?_
    refine AL_o rfl rfl rfl rfl ?_
    refine AL_o rfl rfl rfl rfl ?_
    refine AL_o rfl rfl rfl rfl ?_
    refine AL_o rfl rfl rfl rfl ?_
    refine AL_o rfl rfl rfl rfl ?_
    refine AL_o rfl rfl rfl rfl ?_
    refine AL_p (x_pickF rfl rfl rfl) ?_
    refine AL_p (x_move rfl rfl) ?_
    refine AL_o rfl rfl rfl rfl ?_
    refine AL_o rfl rfl rfl rfl ?_
    refine AL_o rfl rfl rfl rfl ?_
    refine AL_o rfl rfl rfl rfl ?_
    refine AL_o rfl rfl rfl rfl ?_
    refine AL_o rfl rfl rfl rfl ?_
    refine AL_o rfl rfl rfl rfl ?_
    refine AL_o rfl rfl rfl rfl ?_
    refine AL_o rfl rfl rfl rfl ?_
    refine AL_o rfl rfl rfl rfl ?_
    refine AL_o rfl rfl rfl rfl ?_
    refine AL_o rfl rfl rfl rfl ?_
    refine AL_p (x_pickF rfl rfl rfl) ?_
    refine AL_nild (by kernel_rfl) ?_
    refine AW_condF rfl ?_
    refine AW_skip ?_
    refine AW_seq ?_
    refine AW_seq ?_
    refine AW_draw rfl ?_
    refine AL_p (x_move rfl rfl) ?_
    refine AL_p (x_nilc rfl rfl rfl) ?_
    refine AL_p (x_field (off := 3) (o' := 3) rfl rfl rfl (by kernel_rfl) rfl) ?_
    refine AL_p (x_load1 rfl rfl rfl (by kernel_rfl) rfl) ?_
    refine AL_b (x_eql rfl rfl rfl) (fun b63 h63 => ?_)
    refine AL_p (x_move rfl rfl) ?_
    cases b63
    · exfalso; (try simp only [tdy] at h63); omega
    try simp only [tdy] at h63
    refine AL_g rfl rfl (x_move rfl rfl) ?_
    refine AL_g rfl rfl (x_nilc rfl rfl rfl) ?_
    refine AL_g rfl rfl (x_field (off := 1) (o' := 1) rfl rfl rfl (by kernel_rfl) rfl) ?_
    refine AL_g rfl rfl (x_load1 rfl rfl rfl (by kernel_rfl) rfl) ?_
    refine AL_g rfl rfl (x_move rfl rfl) ?_
    refine AL_g rfl rfl (x_nilc rfl rfl rfl) ?_
    refine AL_g rfl rfl (x_field (off := 0) (o' := 0) rfl rfl rfl (by kernel_rfl) rfl) ?_
    refine AL_g rfl rfl (x_load1 rfl rfl rfl (by kernel_rfl) rfl) ?_
    refine AL_g rfl rfl (x_len (E := 83) (n := 4) rfl rfl (by kernel_rfl)) ?_
    refine AL_gb rfl rfl (x_lss rfl rfl rfl) (fun b74 h74 => ?_)
    refine AL_p (x_pickT rfl rfl rfl) ?_
    refine AL_p (x_move rfl rfl) ?_
    cases b74
    rotate_left
    · exfalso; (try simp only [tdy] at h74); omega
    try simp only [tdy] at h74
    refine AL_o rfl rfl rfl rfl ?_
    refine AL_o rfl rfl rfl rfl ?_
    refine AL_o rfl rfl rfl rfl ?_
    refine AL_o rfl rfl rfl rfl ?_
    refine AL_o rfl rfl rfl rfl ?_
    refine AL_o rfl rfl rfl rfl ?_
    refine AL_o rfl rfl rfl rfl ?_
    refine AL_o rfl rfl rfl rfl ?_
    refine AL_o rfl rfl rfl rfl ?_
    refine AL_o rfl rfl rfl rfl ?_
    refine AL_o rfl rfl rfl rfl ?_
    refine AL_o rfl rfl rfl rfl ?_
    refine AL_p (x_pickF rfl rfl rfl) ?_
    refine AL_p (x_move rfl rfl) ?_
    refine AL_o rfl rfl rfl rfl ?_
    refine AL_o rfl rfl rfl rfl ?_
    refine AL_o rfl rfl rfl rfl ?_
    refine AL_o rfl rfl rfl rfl ?_
    refine AL_o rfl rfl rfl rfl ?_
    refine AL_o rfl rfl rfl rfl ?_
    refine AL_o rfl rfl rfl rfl ?_
    refine AL_o rfl rfl rfl rfl ?_
    refine AL_o rfl rfl rfl rfl ?_
    refine AL_o rfl rfl rfl rfl ?_
    refine AL_o rfl rfl rfl rfl ?_
    refine AL_o rfl rfl rfl rfl ?_
    refine AL_o rfl rfl rfl rfl ?_
    refine AL_p (x_pickF rfl rfl rfl) ?_
    refine AL_p (x_move rfl rfl) ?_
    refine AL_o rfl rfl rfl rfl ?_
    refine AL_o rfl rfl rfl rfl ?_
    refine AL_o rfl rfl rfl rfl ?_
    refine AL_o rfl rfl rfl rfl ?_
    refine AL_o rfl rfl rfl rfl ?_
    refine AL_o rfl rfl rfl rfl ?_
    refine AL_o rfl rfl rfl rfl ?_
    refine AL_p (x_pickF rfl rfl rfl) ?_
    refine AL_nild (by kernel_rfl) ?_
    refine AW_condF rfl ?_
    refine AW_skip ?_
    refine AW_seq ?_
    refine AW_region ?_
    refine AL_p (x_build (zs := [.int .i64 0, .string ⟨#[]⟩, .slice none 0 0, .int .i64 0, .string ⟨#[]⟩, .int .i64 0, .string ⟨#[]⟩, .string ⟨#[]⟩, .int .i64 0, .string ⟨#[]⟩]) (places := [(0, 1), (1, 2), (3, 1), (4, 3), (7, 3)]) rfl (by kernel_rfl) rfl rfl rfl rfl rfl) ?_
    refine AL_p (x_alloc (z := .agg #[.int .i64 0, .string ⟨#[]⟩, .slice none 0 0, .int .i64 0, .string ⟨#[]⟩, .int .i64 0, .string ⟨#[]⟩, .string ⟨#[]⟩, .int .i64 0, .string ⟨#[]⟩]) 102 rfl (by kernel_rfl) rfl rfl rfl rfl) ?_
    refine AL_p (x_store (n := 10) rfl rfl rfl rfl (by kernel_rfl) rfl rfl rfl) ?_
    refine AL_nil ?_
    refine AW_seq ?_
    refine AW_region ?_
    refine AL_p (x_move rfl rfl) ?_
    refine AL_p (x_call (ks := []) (L := [(200, some _)]) (L' := [(200, some _)]) rfl rfl rfl (sTerm_c tk e st hm hi hok false) rfl AllV.rf (caught_of rfl) rfl rfl rfl ⟨rfl, trivial⟩ rfl) ?_
    refine AL_p (x_field (off := 4) (o' := 4) rfl rfl rfl (by kernel_rfl) rfl) ?_
    refine AL_p (x_store (n := 3) rfl rfl rfl rfl (by kernel_rfl) rfl rfl rfl) ?_
    refine AL_nil ?_
    refine AW_seq ?_
    refine AW_region ?_
    refine AL_p (x_move rfl rfl) ?_
    refine AL_p (x_call (ks := []) (L := [(200, some _)]) (L' := [(200, some _)]) rfl rfl rfl (sOp_c tk e (termP tk e false st).2 hm (term_le hi)) rfl AllV.rf (caught_of rfl) rfl rfl rfl ⟨rfl, trivial⟩ rfl) ?_
    refine AL_p (x_field (off := 3) (o' := 3) rfl rfl rfl (by kernel_rfl) rfl) ?_
    refine AL_p (x_store (n := 1) rfl rfl rfl rfl (by kernel_rfl) rfl rfl rfl) ?_
    refine AL_nil ?_
    refine AW_seq ?_
    refine AW_seq ?_
    refine AW_region ?_
    refine AL_p (x_field (off := 3) (o' := 3) rfl rfl rfl (by kernel_rfl) rfl) ?_
    refine AL_p (x_load1 rfl rfl rfl (by kernel_rfl) rfl) ?_
    refine AL_b (x_eql rfl rfl rfl) (fun b126 h126 => ?_)
    refine AL_nil ?_
    cases b126
    rotate_left
    · try simp only [tdy] at h126
      have hq := fault_le (e := e) (c := 6) (term_le (e := e) (b := false) hi)
      have hno := litS_cmp hnt hop (opP_no h126)
      refine AW_condT rfl ?_
      refine AW_region ?_
      refine AL_p (x_move rfl rfl) ?_
      refine AL_p (x_call (ks := []) (L := [(200, some _)]) (L' := [(200, some _)]) rfl rfl rfl (sFault_c tk e (termP tk e false st).2 hm (term_le hi) 6) rfl AllV.rf (caught_of rfl) rfl rfl rfl ⟨rfl, trivial⟩ rfl) ?_
      refine AL_nil ?_
      refine AW_seq ?_
      refine AW_region ?_
      refine AL_p (x_move rfl rfl) ?_
      refine AL_p (x_call (ks := []) (L := [(200, some _)]) (L' := [(200, some _)]) rfl rfl rfl (sTerm_c tk e _ hm hq hok false) rfl AllV.rf (caught_of rfl) rfl rfl rfl ⟨rfl, trivial⟩ rfl) ?_
      refine AL_p (x_field (off := 7) (o' := 7) rfl rfl rfl (by kernel_rfl) rfl) ?_
      refine AL_p (x_store (n := 3) rfl rfl rfl rfl (by kernel_rfl) rfl rfl rfl) ?_
      refine AL_nil ?_
      refine AW_seq ?_
      refine AW_region ?_
      refine AL_p (x_loadN (n := 10) rfl rfl rfl (by kernel_rfl) rfl rfl) ?_
      refine AL_p (x_store (n := 10) rfl rfl rfl rfl (by kernel_rfl) rfl rfl rfl) ?_
      refine AL_nil ?_
      refine AW_adopt (T := 70) (e := termE) 103 100 2 rfl rfl rfl rfl rfl ?_
      refine AW_ret ?_
      exact ⟨rn [(9, 100), (0, 103)], ⟨⟨⟨_, rfl, VLe.rf⟩, trivial⟩, ⟨⟨_, rfl, by first | exact BLe.rf | exact ble_eq (by rw [hno]; first | done | rfl)⟩, ⟨_, rfl, by first | exact BLe.rf | exact ble_eq (by rw [hno]; first | done | rfl)⟩, ⟨_, rfl, by first | exact BLe.rf | (refine BLe.arr ?_; rw [hno]; first | done | rfl)⟩, trivial⟩, by repeat (first | exact trivial | refine ⟨⟨rfl, by first | (left; intro h; cases h) | (right; rfl), by first | exact (fun _ h => ⟨_, h⟩) | exact (fun _ _ => ⟨_, rfl⟩) | (intro _ h; cases h)⟩, ?_⟩), rfl⟩⟩
    try simp only [tdy] at h126
    have hq := next_le (opP_ok (tk := tk) (e := e) (st := (termP tk e false st).2) h126).2
    have hlt2 : (termP tk e false st).2.i < tk.length := hq
    have hno := litS_cmp hnt hop (opP_ok h126).1
    refine AW_condF rfl ?_
    refine AW_region ?_
    refine AL_p (x_move rfl rfl) ?_
    refine AL_p (x_nilc rfl rfl rfl) ?_
    refine AL_p (x_field (off := 1) (o' := 1) rfl rfl rfl (by kernel_rfl) rfl) ?_
    refine AL_p (x_load1 rfl rfl rfl (by kernel_rfl) rfl) ?_
    refine AL_p (x_add rfl rfl rfl (IntWalk.i64_in _ (by omega))) ?_
    refine AL_p (x_nilc rfl rfl rfl) ?_
    refine AL_p (x_field (off := 1) (o' := 1) rfl rfl rfl (by kernel_rfl) rfl) ?_
    refine AL_p (x_store (n := 1) rfl rfl rfl rfl (by kernel_rfl) rfl rfl rfl) ?_
    refine AL_nil ?_
    refine AW_seq ?_
    refine AW_region ?_
    refine AL_p (x_move rfl rfl) ?_
    refine AL_p (x_call (ks := []) (L := [(200, some _)]) (L' := [(200, some _)]) rfl rfl rfl (sTerm_c tk e _ hm hq hok false) rfl AllV.rf (caught_of rfl) rfl rfl rfl ⟨rfl, trivial⟩ rfl) ?_
    refine AL_p (x_field (off := 7) (o' := 7) rfl rfl rfl (by kernel_rfl) rfl) ?_
    refine AL_p (x_store (n := 3) rfl rfl rfl rfl (by kernel_rfl) rfl rfl rfl) ?_
    refine AL_nil ?_
    refine AW_seq ?_
    refine AW_region ?_
    refine AL_p (x_loadN (n := 10) rfl rfl rfl (by kernel_rfl) rfl rfl) ?_
    refine AL_p (x_store (n := 10) rfl rfl rfl rfl (by kernel_rfl) rfl rfl rfl) ?_
    refine AL_nil ?_
    refine AW_adopt (T := 70) (e := termE) 103 100 2 rfl rfl rfl rfl rfl ?_
    refine AW_ret ?_
    exact ⟨rn [(9, 100), (0, 103)], ⟨⟨⟨_, rfl, VLe.rf⟩, trivial⟩, ⟨⟨_, rfl, by first | exact BLe.rf | exact ble_eq (by rw [hno]; first | done | rfl)⟩, ⟨_, rfl, by first | exact BLe.rf | exact ble_eq (by rw [hno]; first | done | rfl)⟩, ⟨_, rfl, by first | exact BLe.rf | (refine BLe.arr ?_; rw [hno]; first | done | rfl)⟩, trivial⟩, by repeat (first | exact trivial | refine ⟨⟨rfl, by first | (left; intro h; cases h) | (right; rfl), by first | exact (fun _ h => ⟨_, h⟩) | exact (fun _ _ => ⟨_, rfl⟩) | (intro _ h; cases h)⟩, ?_⟩), rfl⟩⟩
  try simp only [tdy] at h19
  have hh : hereT tk e st = (tk[st.i]'(by omega)) := here_ok (by omega) (by omega)
  refine AL_g rfl rfl (x_move rfl rfl) ?_
  refine AL_g rfl rfl (x_nilc rfl rfl rfl) ?_
  refine AL_g rfl rfl (x_field (off := 0) (o' := 0) rfl rfl rfl (by kernel_rfl) rfl) ?_
  refine AL_g rfl rfl (x_load1 rfl rfl rfl (by kernel_rfl) rfl) ?_
  refine AL_g rfl rfl (x_move rfl rfl) ?_
  refine AL_g rfl rfl (x_nilc rfl rfl rfl) ?_
  refine AL_g rfl rfl (x_field (off := 1) (o' := 1) rfl rfl rfl (by kernel_rfl) rfl) ?_
  refine AL_g rfl rfl (x_load1 rfl rfl rfl (by kernel_rfl) rfl) ?_
  refine AL_g rfl rfl (x_index (E := 83) (n := 4) rfl rfl rfl (by kernel_rfl) rfl (k := st.i) (by omega) (by omega)) ?_
  refine AL_g rfl rfl (x_efield (off := 0) (o' := 0) rfl rfl (by kernel_rfl) rfl) ?_
  refine AL_g rfl rfl (x_eload1 rfl rfl (by kernel_rfl) rfl) ?_
  refine AL_gb rfl rfl (x_eql rfl rfl rfl) (fun b33 h33 => ?_)
  refine AL_p (x_pickT rfl rfl rfl) ?_
  refine AL_p (x_move rfl rfl) ?_
  cases b33
  · try simp only [tdy] at h33
    have hnt : notT (hereT tk e st) = false := by rw [hh]; simp [notT, h33]
    have hop := open_no (tk := tk) (e := e) (st := st) (by rw [hh]; simp [nameT, h33])
    refine AL_o rfl rfl rfl rfl ?_
    refine AL_o rfl rfl rfl rfl ?_
    refine AL_o rfl rfl rfl rfl ?_
    refine AL_o rfl rfl rfl rfl ?_
    refine AL_o rfl rfl rfl rfl ?_
    refine AL_o rfl rfl rfl rfl ?_
    refine AL_o rfl rfl rfl rfl ?_
    refine AL_o rfl rfl rfl rfl ?_
    refine AL_o rfl rfl rfl rfl ?_
    refine AL_o rfl rfl rfl rfl ?_
    refine AL_o rfl rfl rfl rfl ?_
    refine AL_o rfl rfl rfl rfl ?_
    refine AL_p (x_pickF rfl rfl rfl) ?_
    refine AL_nild (by kernel_rfl) ?_
    refine AW_condF rfl ?_
    refine AW_skip ?_
    refine AW_seq ?_
    refine AW_seq ?_
    refine AW_draw rfl ?_
    refine AL_p (x_move rfl rfl) ?_
    refine AL_p (x_nilc rfl rfl rfl) ?_
    refine AL_p (x_field (off := 3) (o' := 3) rfl rfl rfl (by kernel_rfl) rfl) ?_
    refine AL_p (x_load1 rfl rfl rfl (by kernel_rfl) rfl) ?_
    refine AL_b (x_eql rfl rfl rfl) (fun b63 h63 => ?_)
    refine AL_p (x_move rfl rfl) ?_
    cases b63
    · exfalso; (try simp only [tdy] at h63); omega
    try simp only [tdy] at h63
    refine AL_g rfl rfl (x_move rfl rfl) ?_
    refine AL_g rfl rfl (x_nilc rfl rfl rfl) ?_
    refine AL_g rfl rfl (x_field (off := 1) (o' := 1) rfl rfl rfl (by kernel_rfl) rfl) ?_
    refine AL_g rfl rfl (x_load1 rfl rfl rfl (by kernel_rfl) rfl) ?_
    refine AL_g rfl rfl (x_move rfl rfl) ?_
    refine AL_g rfl rfl (x_nilc rfl rfl rfl) ?_
    refine AL_g rfl rfl (x_field (off := 0) (o' := 0) rfl rfl rfl (by kernel_rfl) rfl) ?_
    refine AL_g rfl rfl (x_load1 rfl rfl rfl (by kernel_rfl) rfl) ?_
    refine AL_g rfl rfl (x_len (E := 83) (n := 4) rfl rfl (by kernel_rfl)) ?_
    refine AL_gb rfl rfl (x_lss rfl rfl rfl) (fun b74 h74 => ?_)
    refine AL_p (x_pickT rfl rfl rfl) ?_
    refine AL_p (x_move rfl rfl) ?_
    cases b74
    · exfalso; (try simp only [tdy] at h74); omega
    try simp only [tdy] at h74
    refine AL_g rfl rfl (x_move rfl rfl) ?_
    refine AL_g rfl rfl (x_nilc rfl rfl rfl) ?_
    refine AL_g rfl rfl (x_field (off := 0) (o' := 0) rfl rfl rfl (by kernel_rfl) rfl) ?_
    refine AL_g rfl rfl (x_load1 rfl rfl rfl (by kernel_rfl) rfl) ?_
    refine AL_g rfl rfl (x_move rfl rfl) ?_
    refine AL_g rfl rfl (x_nilc rfl rfl rfl) ?_
    refine AL_g rfl rfl (x_field (off := 1) (o' := 1) rfl rfl rfl (by kernel_rfl) rfl) ?_
    refine AL_g rfl rfl (x_load1 rfl rfl rfl (by kernel_rfl) rfl) ?_
    refine AL_g rfl rfl (x_index (E := 83) (n := 4) rfl rfl rfl (by kernel_rfl) rfl (k := st.i) (by omega) (by omega)) ?_
    refine AL_g rfl rfl (x_efield (off := 0) (o' := 0) rfl rfl (by kernel_rfl) rfl) ?_
    refine AL_g rfl rfl (x_eload1 rfl rfl (by kernel_rfl) rfl) ?_
    refine AL_gb rfl rfl (x_eql rfl rfl rfl) (fun b88 h88 => ?_)
    refine AL_p (x_pickT rfl rfl rfl) ?_
    refine AL_p (x_move rfl rfl) ?_
    cases b88
    rotate_left
    · exfalso; (try simp only [tdy] at h88); omega
    try simp only [tdy] at h88
    refine AL_o rfl rfl rfl rfl ?_
    refine AL_o rfl rfl rfl rfl ?_
    refine AL_o rfl rfl rfl rfl ?_
    refine AL_o rfl rfl rfl rfl ?_
    refine AL_o rfl rfl rfl rfl ?_
    refine AL_o rfl rfl rfl rfl ?_
    refine AL_o rfl rfl rfl rfl ?_
    refine AL_o rfl rfl rfl rfl ?_
    refine AL_o rfl rfl rfl rfl ?_
    refine AL_o rfl rfl rfl rfl ?_
    refine AL_o rfl rfl rfl rfl ?_
    refine AL_o rfl rfl rfl rfl ?_
    refine AL_o rfl rfl rfl rfl ?_
    refine AL_p (x_pickF rfl rfl rfl) ?_
    refine AL_p (x_move rfl rfl) ?_
    refine AL_o rfl rfl rfl rfl ?_
    refine AL_o rfl rfl rfl rfl ?_
    refine AL_o rfl rfl rfl rfl ?_
    refine AL_o rfl rfl rfl rfl ?_
    refine AL_o rfl rfl rfl rfl ?_
    refine AL_o rfl rfl rfl rfl ?_
    refine AL_o rfl rfl rfl rfl ?_
    refine AL_p (x_pickF rfl rfl rfl) ?_
    refine AL_nild (by kernel_rfl) ?_
    refine AW_condF rfl ?_
    refine AW_skip ?_
    refine AW_seq ?_
    refine AW_region ?_
    refine AL_p (x_build (zs := [.int .i64 0, .string ⟨#[]⟩, .slice none 0 0, .int .i64 0, .string ⟨#[]⟩, .int .i64 0, .string ⟨#[]⟩, .string ⟨#[]⟩, .int .i64 0, .string ⟨#[]⟩]) (places := [(0, 1), (1, 2), (3, 1), (4, 3), (7, 3)]) rfl (by kernel_rfl) rfl rfl rfl rfl rfl) ?_
    refine AL_p (x_alloc (z := .agg #[.int .i64 0, .string ⟨#[]⟩, .slice none 0 0, .int .i64 0, .string ⟨#[]⟩, .int .i64 0, .string ⟨#[]⟩, .string ⟨#[]⟩, .int .i64 0, .string ⟨#[]⟩]) 102 rfl (by kernel_rfl) rfl rfl rfl rfl) ?_
    refine AL_p (x_store (n := 10) rfl rfl rfl rfl (by kernel_rfl) rfl rfl rfl) ?_
    refine AL_nil ?_
    refine AW_seq ?_
    refine AW_region ?_
    refine AL_p (x_move rfl rfl) ?_
    refine AL_p (x_call (ks := []) (L := [(200, some _)]) (L' := [(200, some _)]) rfl rfl rfl (sTerm_c tk e st hm hi hok false) rfl AllV.rf (caught_of rfl) rfl rfl rfl ⟨rfl, trivial⟩ rfl) ?_
    refine AL_p (x_field (off := 4) (o' := 4) rfl rfl rfl (by kernel_rfl) rfl) ?_
    refine AL_p (x_store (n := 3) rfl rfl rfl rfl (by kernel_rfl) rfl rfl rfl) ?_
    refine AL_nil ?_
    refine AW_seq ?_
    refine AW_region ?_
    refine AL_p (x_move rfl rfl) ?_
    refine AL_p (x_call (ks := []) (L := [(200, some _)]) (L' := [(200, some _)]) rfl rfl rfl (sOp_c tk e (termP tk e false st).2 hm (term_le hi)) rfl AllV.rf (caught_of rfl) rfl rfl rfl ⟨rfl, trivial⟩ rfl) ?_
    refine AL_p (x_field (off := 3) (o' := 3) rfl rfl rfl (by kernel_rfl) rfl) ?_
    refine AL_p (x_store (n := 1) rfl rfl rfl rfl (by kernel_rfl) rfl rfl rfl) ?_
    refine AL_nil ?_
    refine AW_seq ?_
    refine AW_seq ?_
    refine AW_region ?_
    refine AL_p (x_field (off := 3) (o' := 3) rfl rfl rfl (by kernel_rfl) rfl) ?_
    refine AL_p (x_load1 rfl rfl rfl (by kernel_rfl) rfl) ?_
    refine AL_b (x_eql rfl rfl rfl) (fun b126 h126 => ?_)
    refine AL_nil ?_
    cases b126
    rotate_left
    · try simp only [tdy] at h126
      have hq := fault_le (e := e) (c := 6) (term_le (e := e) (b := false) hi)
      have hno := litS_cmp hnt hop (opP_no h126)
      refine AW_condT rfl ?_
      refine AW_region ?_
      refine AL_p (x_move rfl rfl) ?_
      refine AL_p (x_call (ks := []) (L := [(200, some _)]) (L' := [(200, some _)]) rfl rfl rfl (sFault_c tk e (termP tk e false st).2 hm (term_le hi) 6) rfl AllV.rf (caught_of rfl) rfl rfl rfl ⟨rfl, trivial⟩ rfl) ?_
      refine AL_nil ?_
      refine AW_seq ?_
      refine AW_region ?_
      refine AL_p (x_move rfl rfl) ?_
      refine AL_p (x_call (ks := []) (L := [(200, some _)]) (L' := [(200, some _)]) rfl rfl rfl (sTerm_c tk e _ hm hq hok false) rfl AllV.rf (caught_of rfl) rfl rfl rfl ⟨rfl, trivial⟩ rfl) ?_
      refine AL_p (x_field (off := 7) (o' := 7) rfl rfl rfl (by kernel_rfl) rfl) ?_
      refine AL_p (x_store (n := 3) rfl rfl rfl rfl (by kernel_rfl) rfl rfl rfl) ?_
      refine AL_nil ?_
      refine AW_seq ?_
      refine AW_region ?_
      refine AL_p (x_loadN (n := 10) rfl rfl rfl (by kernel_rfl) rfl rfl) ?_
      refine AL_p (x_store (n := 10) rfl rfl rfl rfl (by kernel_rfl) rfl rfl rfl) ?_
      refine AL_nil ?_
      refine AW_adopt (T := 70) (e := termE) 103 100 2 rfl rfl rfl rfl rfl ?_
      refine AW_ret ?_
      exact ⟨rn [(9, 100), (0, 103)], ⟨⟨⟨_, rfl, VLe.rf⟩, trivial⟩, ⟨⟨_, rfl, by first | exact BLe.rf | exact ble_eq (by rw [hno]; first | done | rfl)⟩, ⟨_, rfl, by first | exact BLe.rf | exact ble_eq (by rw [hno]; first | done | rfl)⟩, ⟨_, rfl, by first | exact BLe.rf | (refine BLe.arr ?_; rw [hno]; first | done | rfl)⟩, trivial⟩, by repeat (first | exact trivial | refine ⟨⟨rfl, by first | (left; intro h; cases h) | (right; rfl), by first | exact (fun _ h => ⟨_, h⟩) | exact (fun _ _ => ⟨_, rfl⟩) | (intro _ h; cases h)⟩, ?_⟩), rfl⟩⟩
    try simp only [tdy] at h126
    have hq := next_le (opP_ok (tk := tk) (e := e) (st := (termP tk e false st).2) h126).2
    have hlt2 : (termP tk e false st).2.i < tk.length := hq
    have hno := litS_cmp hnt hop (opP_ok h126).1
    refine AW_condF rfl ?_
    refine AW_region ?_
    refine AL_p (x_move rfl rfl) ?_
    refine AL_p (x_nilc rfl rfl rfl) ?_
    refine AL_p (x_field (off := 1) (o' := 1) rfl rfl rfl (by kernel_rfl) rfl) ?_
    refine AL_p (x_load1 rfl rfl rfl (by kernel_rfl) rfl) ?_
    refine AL_p (x_add rfl rfl rfl (IntWalk.i64_in _ (by omega))) ?_
    refine AL_p (x_nilc rfl rfl rfl) ?_
    refine AL_p (x_field (off := 1) (o' := 1) rfl rfl rfl (by kernel_rfl) rfl) ?_
    refine AL_p (x_store (n := 1) rfl rfl rfl rfl (by kernel_rfl) rfl rfl rfl) ?_
    refine AL_nil ?_
    refine AW_seq ?_
    refine AW_region ?_
    refine AL_p (x_move rfl rfl) ?_
    refine AL_p (x_call (ks := []) (L := [(200, some _)]) (L' := [(200, some _)]) rfl rfl rfl (sTerm_c tk e _ hm hq hok false) rfl AllV.rf (caught_of rfl) rfl rfl rfl ⟨rfl, trivial⟩ rfl) ?_
    refine AL_p (x_field (off := 7) (o' := 7) rfl rfl rfl (by kernel_rfl) rfl) ?_
    refine AL_p (x_store (n := 3) rfl rfl rfl rfl (by kernel_rfl) rfl rfl rfl) ?_
    refine AL_nil ?_
    refine AW_seq ?_
    refine AW_region ?_
    refine AL_p (x_loadN (n := 10) rfl rfl rfl (by kernel_rfl) rfl rfl) ?_
    refine AL_p (x_store (n := 10) rfl rfl rfl rfl (by kernel_rfl) rfl rfl rfl) ?_
    refine AL_nil ?_
    refine AW_adopt (T := 70) (e := termE) 103 100 2 rfl rfl rfl rfl rfl ?_
    refine AW_ret ?_
    exact ⟨rn [(9, 100), (0, 103)], ⟨⟨⟨_, rfl, VLe.rf⟩, trivial⟩, ⟨⟨_, rfl, by first | exact BLe.rf | exact ble_eq (by rw [hno]; first | done | rfl)⟩, ⟨_, rfl, by first | exact BLe.rf | exact ble_eq (by rw [hno]; first | done | rfl)⟩, ⟨_, rfl, by first | exact BLe.rf | (refine BLe.arr ?_; rw [hno]; first | done | rfl)⟩, trivial⟩, by repeat (first | exact trivial | refine ⟨⟨rfl, by first | (left; intro h; cases h) | (right; rfl), by first | exact (fun _ h => ⟨_, h⟩) | exact (fun _ _ => ⟨_, rfl⟩) | (intro _ h; cases h)⟩, ?_⟩), rfl⟩⟩
  try simp only [tdy] at h33
  refine AL_g rfl rfl (x_move rfl rfl) ?_
  refine AL_g rfl rfl (x_nilc rfl rfl rfl) ?_
  refine AL_g rfl rfl (x_field (off := 0) (o' := 0) rfl rfl rfl (by kernel_rfl) rfl) ?_
  refine AL_g rfl rfl (x_load1 rfl rfl rfl (by kernel_rfl) rfl) ?_
  refine AL_g rfl rfl (x_move rfl rfl) ?_
  refine AL_g rfl rfl (x_nilc rfl rfl rfl) ?_
  refine AL_g rfl rfl (x_field (off := 1) (o' := 1) rfl rfl rfl (by kernel_rfl) rfl) ?_
  refine AL_g rfl rfl (x_load1 rfl rfl rfl (by kernel_rfl) rfl) ?_
  refine AL_g rfl rfl (x_index (E := 83) (n := 4) rfl rfl rfl (by kernel_rfl) rfl (k := st.i) (by omega) (by omega)) ?_
  refine AL_g rfl rfl (x_efield (off := 2) (o' := 2) rfl rfl (by kernel_rfl) rfl) ?_
  refine AL_g rfl rfl (x_eload1 rfl rfl (by kernel_rfl) rfl) ?_
  refine AL_gb rfl rfl (x_seql rfl rfl rfl) (fun b47 h47 => ?_)
  refine AL_p (x_pickT rfl rfl rfl) ?_
  refine AL_nild (by kernel_rfl) ?_
  cases b47
  rotate_left
  · try simp only [tdy] at h47
    have hnt : notT (hereT tk e st) = true := by rw [hh]; simp [notT, notS, h33, h47]
    have hlt := next_le (not_lt hnt)
    have hlt2 := not_lt hnt
    have hno := litS_not hnt
    refine AW_condT rfl ?_
    refine AW_seq ?_
    refine AW_region ?_
    refine AL_p (x_move rfl rfl) ?_
    refine AL_p (x_nilc rfl rfl rfl) ?_
    refine AL_p (x_field (off := 1) (o' := 1) rfl rfl rfl (by kernel_rfl) rfl) ?_
    refine AL_p (x_load1 rfl rfl rfl (by kernel_rfl) rfl) ?_
    refine AL_p (x_add rfl rfl rfl (IntWalk.i64_in _ (by omega))) ?_
    refine AL_p (x_nilc rfl rfl rfl) ?_
    refine AL_p (x_field (off := 1) (o' := 1) rfl rfl rfl (by kernel_rfl) rfl) ?_
    refine AL_p (x_store (n := 1) rfl rfl rfl rfl (by kernel_rfl) rfl rfl rfl) ?_
    refine AL_nil ?_
    refine AW_seq ?_
    refine AW_region ?_
    refine AL_p (x_move rfl rfl) ?_
    refine AL_p (x_call (ks := []) (L := [(200, some _)]) (L' := [(200, some _), (101, some _)]) rfl rfl rfl (sAtom_c tk e st.next hm hlt hok 101 rfl) rfl AllV.rf (caught_of rfl) rfl rfl rfl ⟨rfl, trivial⟩ rfl) ?_
    refine AL_p (x_build (zs := [.int .i64 0, .string ⟨#[]⟩, .slice none 0 0, .int .i64 0, .string ⟨#[]⟩, .int .i64 0, .string ⟨#[]⟩, .string ⟨#[]⟩, .int .i64 0, .string ⟨#[]⟩]) (places := [(0, 1), (1, 2), (3, 1), (4, 3), (7, 3)]) rfl (by kernel_rfl) rfl rfl rfl rfl rfl) ?_
    refine AL_p (x_store (n := 10) rfl rfl rfl rfl (by kernel_rfl) rfl rfl rfl) ?_
    refine AL_nil ?_
    refine AW_ret ?_
    exact ⟨rn [(9, 100), (0, 101)], ⟨⟨⟨_, rfl, VLe.rf⟩, trivial⟩, ⟨⟨_, rfl, by first | exact BLe.rf | exact ble_eq (by rw [hno]; first | done | rfl)⟩, ⟨_, rfl, by first | exact BLe.rf | exact ble_eq (by rw [hno]; first | done | rfl)⟩, ⟨_, rfl, by first | exact BLe.rf | (refine BLe.arr ?_; rw [hno]; first | done | rfl)⟩, trivial⟩, by repeat (first | exact trivial | refine ⟨⟨rfl, by first | (left; intro h; cases h) | (right; rfl), by first | exact (fun _ h => ⟨_, h⟩) | exact (fun _ _ => ⟨_, rfl⟩) | (intro _ h; cases h)⟩, ?_⟩), rfl⟩⟩
  try simp only [tdy] at h47
  have hnt : notT (hereT tk e st) = false := by rw [hh]; simp [notT, notS, h33, h47]
  refine AW_condF rfl ?_
  refine AW_skip ?_
  refine AW_seq ?_
  refine AW_seq ?_
  refine AW_draw rfl ?_
  refine AL_p (x_move rfl rfl) ?_
  refine AL_p (x_nilc rfl rfl rfl) ?_
  refine AL_p (x_field (off := 3) (o' := 3) rfl rfl rfl (by kernel_rfl) rfl) ?_
  refine AL_p (x_load1 rfl rfl rfl (by kernel_rfl) rfl) ?_
  refine AL_b (x_eql rfl rfl rfl) (fun b63 h63 => ?_)
  refine AL_p (x_move rfl rfl) ?_
  cases b63
  · exfalso; (try simp only [tdy] at h63); omega
  try simp only [tdy] at h63
  refine AL_g rfl rfl (x_move rfl rfl) ?_
  refine AL_g rfl rfl (x_nilc rfl rfl rfl) ?_
  refine AL_g rfl rfl (x_field (off := 1) (o' := 1) rfl rfl rfl (by kernel_rfl) rfl) ?_
  refine AL_g rfl rfl (x_load1 rfl rfl rfl (by kernel_rfl) rfl) ?_
  refine AL_g rfl rfl (x_move rfl rfl) ?_
  refine AL_g rfl rfl (x_nilc rfl rfl rfl) ?_
  refine AL_g rfl rfl (x_field (off := 0) (o' := 0) rfl rfl rfl (by kernel_rfl) rfl) ?_
  refine AL_g rfl rfl (x_load1 rfl rfl rfl (by kernel_rfl) rfl) ?_
  refine AL_g rfl rfl (x_len (E := 83) (n := 4) rfl rfl (by kernel_rfl)) ?_
  refine AL_gb rfl rfl (x_lss rfl rfl rfl) (fun b74 h74 => ?_)
  refine AL_p (x_pickT rfl rfl rfl) ?_
  refine AL_p (x_move rfl rfl) ?_
  cases b74
  · exfalso; (try simp only [tdy] at h74); omega
  try simp only [tdy] at h74
  refine AL_g rfl rfl (x_move rfl rfl) ?_
  refine AL_g rfl rfl (x_nilc rfl rfl rfl) ?_
  refine AL_g rfl rfl (x_field (off := 0) (o' := 0) rfl rfl rfl (by kernel_rfl) rfl) ?_
  refine AL_g rfl rfl (x_load1 rfl rfl rfl (by kernel_rfl) rfl) ?_
  refine AL_g rfl rfl (x_move rfl rfl) ?_
  refine AL_g rfl rfl (x_nilc rfl rfl rfl) ?_
  refine AL_g rfl rfl (x_field (off := 1) (o' := 1) rfl rfl rfl (by kernel_rfl) rfl) ?_
  refine AL_g rfl rfl (x_load1 rfl rfl rfl (by kernel_rfl) rfl) ?_
  refine AL_g rfl rfl (x_index (E := 83) (n := 4) rfl rfl rfl (by kernel_rfl) rfl (k := st.i) (by omega) (by omega)) ?_
  refine AL_g rfl rfl (x_efield (off := 0) (o' := 0) rfl rfl (by kernel_rfl) rfl) ?_
  refine AL_g rfl rfl (x_eload1 rfl rfl (by kernel_rfl) rfl) ?_
  refine AL_gb rfl rfl (x_eql rfl rfl rfl) (fun b88 h88 => ?_)
  refine AL_p (x_pickT rfl rfl rfl) ?_
  refine AL_p (x_move rfl rfl) ?_
  cases b88
  · exfalso; (try simp only [tdy] at h88); omega
  try simp only [tdy] at h88
  refine AL_g rfl rfl (x_move rfl rfl) ?_
  refine AL_g rfl rfl (x_nilc rfl rfl rfl) ?_
  refine AL_g rfl rfl (x_field (off := 0) (o' := 0) rfl rfl rfl (by kernel_rfl) rfl) ?_
  refine AL_g rfl rfl (x_load1 rfl rfl rfl (by kernel_rfl) rfl) ?_
  refine AL_g rfl rfl (x_move rfl rfl) ?_
  refine AL_g rfl rfl (x_nilc rfl rfl rfl) ?_
  refine AL_g rfl rfl (x_field (off := 1) (o' := 1) rfl rfl rfl (by kernel_rfl) rfl) ?_
  refine AL_g rfl rfl (x_load1 rfl rfl rfl (by kernel_rfl) rfl) ?_
  refine AL_g rfl rfl (x_index (E := 83) (n := 4) rfl rfl rfl (by kernel_rfl) rfl (k := st.i) (by omega) (by omega)) ?_
  refine AL_g rfl rfl (x_efield (off := 2) (o' := 2) rfl rfl (by kernel_rfl) rfl) ?_
  refine AL_g rfl rfl (x_eload1 rfl rfl (by kernel_rfl) rfl) ?_
  refine AL_gb rfl rfl (x_call0 rfl rfl rfl (keptS_c _) rfl rfl) (fun b102 h102 => ?_)
  refine AL_g rfl rfl (x_not rfl rfl) ?_
  refine AL_p (x_pickT rfl rfl rfl) ?_
  refine AL_p (x_move rfl rfl) ?_
  cases b102
  rotate_left
  · try simp only [tdy] at h102
    have hop := open_no (tk := tk) (e := e) (st := st) (by rw [hh]; simp [nameT, h102])
    refine AL_o rfl rfl rfl rfl ?_
    refine AL_o rfl rfl rfl rfl ?_
    refine AL_o rfl rfl rfl rfl ?_
    refine AL_o rfl rfl rfl rfl ?_
    refine AL_o rfl rfl rfl rfl ?_
    refine AL_o rfl rfl rfl rfl ?_
    refine AL_o rfl rfl rfl rfl ?_
    refine AL_p (x_pickF rfl rfl rfl) ?_
    refine AL_nild (by kernel_rfl) ?_
    refine AW_condF rfl ?_
    refine AW_skip ?_
    refine AW_seq ?_
    refine AW_region ?_
    refine AL_p (x_build (zs := [.int .i64 0, .string ⟨#[]⟩, .slice none 0 0, .int .i64 0, .string ⟨#[]⟩, .int .i64 0, .string ⟨#[]⟩, .string ⟨#[]⟩, .int .i64 0, .string ⟨#[]⟩]) (places := [(0, 1), (1, 2), (3, 1), (4, 3), (7, 3)]) rfl (by kernel_rfl) rfl rfl rfl rfl rfl) ?_
    refine AL_p (x_alloc (z := .agg #[.int .i64 0, .string ⟨#[]⟩, .slice none 0 0, .int .i64 0, .string ⟨#[]⟩, .int .i64 0, .string ⟨#[]⟩, .string ⟨#[]⟩, .int .i64 0, .string ⟨#[]⟩]) 102 rfl (by kernel_rfl) rfl rfl rfl rfl) ?_
    refine AL_p (x_store (n := 10) rfl rfl rfl rfl (by kernel_rfl) rfl rfl rfl) ?_
    refine AL_nil ?_
    refine AW_seq ?_
    refine AW_region ?_
    refine AL_p (x_move rfl rfl) ?_
    refine AL_p (x_call (ks := []) (L := [(200, some _)]) (L' := [(200, some _)]) rfl rfl rfl (sTerm_c tk e st hm hi hok false) rfl AllV.rf (caught_of rfl) rfl rfl rfl ⟨rfl, trivial⟩ rfl) ?_
    refine AL_p (x_field (off := 4) (o' := 4) rfl rfl rfl (by kernel_rfl) rfl) ?_
    refine AL_p (x_store (n := 3) rfl rfl rfl rfl (by kernel_rfl) rfl rfl rfl) ?_
    refine AL_nil ?_
    refine AW_seq ?_
    refine AW_region ?_
    refine AL_p (x_move rfl rfl) ?_
    refine AL_p (x_call (ks := []) (L := [(200, some _)]) (L' := [(200, some _)]) rfl rfl rfl (sOp_c tk e (termP tk e false st).2 hm (term_le hi)) rfl AllV.rf (caught_of rfl) rfl rfl rfl ⟨rfl, trivial⟩ rfl) ?_
    refine AL_p (x_field (off := 3) (o' := 3) rfl rfl rfl (by kernel_rfl) rfl) ?_
    refine AL_p (x_store (n := 1) rfl rfl rfl rfl (by kernel_rfl) rfl rfl rfl) ?_
    refine AL_nil ?_
    refine AW_seq ?_
    refine AW_seq ?_
    refine AW_region ?_
    refine AL_p (x_field (off := 3) (o' := 3) rfl rfl rfl (by kernel_rfl) rfl) ?_
    refine AL_p (x_load1 rfl rfl rfl (by kernel_rfl) rfl) ?_
    refine AL_b (x_eql rfl rfl rfl) (fun b126 h126 => ?_)
    refine AL_nil ?_
    cases b126
    rotate_left
    · try simp only [tdy] at h126
      have hq := fault_le (e := e) (c := 6) (term_le (e := e) (b := false) hi)
      have hno := litS_cmp hnt hop (opP_no h126)
      refine AW_condT rfl ?_
      refine AW_region ?_
      refine AL_p (x_move rfl rfl) ?_
      refine AL_p (x_call (ks := []) (L := [(200, some _)]) (L' := [(200, some _)]) rfl rfl rfl (sFault_c tk e (termP tk e false st).2 hm (term_le hi) 6) rfl AllV.rf (caught_of rfl) rfl rfl rfl ⟨rfl, trivial⟩ rfl) ?_
      refine AL_nil ?_
      refine AW_seq ?_
      refine AW_region ?_
      refine AL_p (x_move rfl rfl) ?_
      refine AL_p (x_call (ks := []) (L := [(200, some _)]) (L' := [(200, some _)]) rfl rfl rfl (sTerm_c tk e _ hm hq hok false) rfl AllV.rf (caught_of rfl) rfl rfl rfl ⟨rfl, trivial⟩ rfl) ?_
      refine AL_p (x_field (off := 7) (o' := 7) rfl rfl rfl (by kernel_rfl) rfl) ?_
      refine AL_p (x_store (n := 3) rfl rfl rfl rfl (by kernel_rfl) rfl rfl rfl) ?_
      refine AL_nil ?_
      refine AW_seq ?_
      refine AW_region ?_
      refine AL_p (x_loadN (n := 10) rfl rfl rfl (by kernel_rfl) rfl rfl) ?_
      refine AL_p (x_store (n := 10) rfl rfl rfl rfl (by kernel_rfl) rfl rfl rfl) ?_
      refine AL_nil ?_
      refine AW_adopt (T := 70) (e := termE) 103 100 2 rfl rfl rfl rfl rfl ?_
      refine AW_ret ?_
      exact ⟨rn [(9, 100), (0, 103)], ⟨⟨⟨_, rfl, VLe.rf⟩, trivial⟩, ⟨⟨_, rfl, by first | exact BLe.rf | exact ble_eq (by rw [hno]; first | done | rfl)⟩, ⟨_, rfl, by first | exact BLe.rf | exact ble_eq (by rw [hno]; first | done | rfl)⟩, ⟨_, rfl, by first | exact BLe.rf | (refine BLe.arr ?_; rw [hno]; first | done | rfl)⟩, trivial⟩, by repeat (first | exact trivial | refine ⟨⟨rfl, by first | (left; intro h; cases h) | (right; rfl), by first | exact (fun _ h => ⟨_, h⟩) | exact (fun _ _ => ⟨_, rfl⟩) | (intro _ h; cases h)⟩, ?_⟩), rfl⟩⟩
    try simp only [tdy] at h126
    have hq := next_le (opP_ok (tk := tk) (e := e) (st := (termP tk e false st).2) h126).2
    have hlt2 : (termP tk e false st).2.i < tk.length := hq
    have hno := litS_cmp hnt hop (opP_ok h126).1
    refine AW_condF rfl ?_
    refine AW_region ?_
    refine AL_p (x_move rfl rfl) ?_
    refine AL_p (x_nilc rfl rfl rfl) ?_
    refine AL_p (x_field (off := 1) (o' := 1) rfl rfl rfl (by kernel_rfl) rfl) ?_
    refine AL_p (x_load1 rfl rfl rfl (by kernel_rfl) rfl) ?_
    refine AL_p (x_add rfl rfl rfl (IntWalk.i64_in _ (by omega))) ?_
    refine AL_p (x_nilc rfl rfl rfl) ?_
    refine AL_p (x_field (off := 1) (o' := 1) rfl rfl rfl (by kernel_rfl) rfl) ?_
    refine AL_p (x_store (n := 1) rfl rfl rfl rfl (by kernel_rfl) rfl rfl rfl) ?_
    refine AL_nil ?_
    refine AW_seq ?_
    refine AW_region ?_
    refine AL_p (x_move rfl rfl) ?_
    refine AL_p (x_call (ks := []) (L := [(200, some _)]) (L' := [(200, some _)]) rfl rfl rfl (sTerm_c tk e _ hm hq hok false) rfl AllV.rf (caught_of rfl) rfl rfl rfl ⟨rfl, trivial⟩ rfl) ?_
    refine AL_p (x_field (off := 7) (o' := 7) rfl rfl rfl (by kernel_rfl) rfl) ?_
    refine AL_p (x_store (n := 3) rfl rfl rfl rfl (by kernel_rfl) rfl rfl rfl) ?_
    refine AL_nil ?_
    refine AW_seq ?_
    refine AW_region ?_
    refine AL_p (x_loadN (n := 10) rfl rfl rfl (by kernel_rfl) rfl rfl) ?_
    refine AL_p (x_store (n := 10) rfl rfl rfl rfl (by kernel_rfl) rfl rfl rfl) ?_
    refine AL_nil ?_
    refine AW_adopt (T := 70) (e := termE) 103 100 2 rfl rfl rfl rfl rfl ?_
    refine AW_ret ?_
    exact ⟨rn [(9, 100), (0, 103)], ⟨⟨⟨_, rfl, VLe.rf⟩, trivial⟩, ⟨⟨_, rfl, by first | exact BLe.rf | exact ble_eq (by rw [hno]; first | done | rfl)⟩, ⟨_, rfl, by first | exact BLe.rf | exact ble_eq (by rw [hno]; first | done | rfl)⟩, ⟨_, rfl, by first | exact BLe.rf | (refine BLe.arr ?_; rw [hno]; first | done | rfl)⟩, trivial⟩, by repeat (first | exact trivial | refine ⟨⟨rfl, by first | (left; intro h; cases h) | (right; rfl), by first | exact (fun _ h => ⟨_, h⟩) | exact (fun _ _ => ⟨_, rfl⟩) | (intro _ h; cases h)⟩, ?_⟩), rfl⟩⟩
  try simp only [tdy] at h102
  have hnm : nameT (hereT tk e st) = true := by rw [hh]; simp [nameT, h33, h102]
  refine AL_g rfl rfl (x_move rfl rfl) ?_
  refine AL_g rfl rfl (x_move rfl rfl) ?_
  refine AL_g rfl rfl (x_nilc rfl rfl rfl) ?_
  refine AL_g rfl rfl (x_field (off := 1) (o' := 1) rfl rfl rfl (by kernel_rfl) rfl) ?_
  refine AL_g rfl rfl (x_load1 rfl rfl rfl (by kernel_rfl) rfl) ?_
  refine AL_g rfl rfl (x_add rfl rfl rfl (IntWalk.i64_in _ (by omega))) ?_
  refine AL_gbc rfl rfl (x_call (ks := []) (L := [(200, some _)]) (L' := [(200, some _)]) rfl rfl rfl (sIsN_c tk e st hm hi ⟨#[40]⟩) rfl AllV.rf (caught_of rfl) rfl rfl rfl ⟨rfl, trivial⟩ rfl) (fun b112 h112 => ?_)
  refine AL_p (x_pickT rfl rfl rfl) ?_
  refine AL_nild (by kernel_rfl) ?_
  cases b112
  rotate_left
  · try simp only [tdy] at h112
    have hop : openT tk e st = true := by simp [openT, hnm, h112]
    have hno := litS_is hnt hop
    refine AW_condT rfl ?_
    refine AW_seq ?_
    refine AW_region ?_
    refine AL_p (x_move rfl rfl) ?_
    refine AL_p (x_call (ks := []) (L := [(200, some _)]) (L' := [(200, some _), (104, some _)]) rfl rfl rfl (sAtom_c tk e st hm hi hok 104 rfl) rfl AllV.rf (caught_of rfl) rfl rfl rfl ⟨rfl, trivial⟩ rfl) ?_
    refine AL_p (x_build (zs := [.int .i64 0, .string ⟨#[]⟩, .slice none 0 0, .int .i64 0, .string ⟨#[]⟩, .int .i64 0, .string ⟨#[]⟩, .string ⟨#[]⟩, .int .i64 0, .string ⟨#[]⟩]) (places := [(0, 1), (1, 2), (3, 1), (4, 3), (7, 3)]) rfl (by kernel_rfl) rfl rfl rfl rfl rfl) ?_
    refine AL_p (x_store (n := 10) rfl rfl rfl rfl (by kernel_rfl) rfl rfl rfl) ?_
    refine AL_nil ?_
    refine AW_ret ?_
    exact ⟨rn [(9, 100), (0, 104)], ⟨⟨⟨_, rfl, VLe.rf⟩, trivial⟩, ⟨⟨_, rfl, by first | exact BLe.rf | exact ble_eq (by rw [hno]; first | done | rfl)⟩, ⟨_, rfl, by first | exact BLe.rf | exact ble_eq (by rw [hno]; first | done | rfl)⟩, ⟨_, rfl, by first | exact BLe.rf | (refine BLe.arr ?_; rw [hno]; first | done | rfl)⟩, trivial⟩, by repeat (first | exact trivial | refine ⟨⟨rfl, by first | (left; intro h; cases h) | (right; rfl), by first | exact (fun _ h => ⟨_, h⟩) | exact (fun _ _ => ⟨_, rfl⟩) | (intro _ h; cases h)⟩, ?_⟩), rfl⟩⟩
  try simp only [tdy] at h112
  have hop : openT tk e st = false := by simp [openT, hnm, h112]
  refine AW_condF rfl ?_
  refine AW_skip ?_
  refine AW_seq ?_
  refine AW_region ?_
  refine AL_p (x_build (zs := [.int .i64 0, .string ⟨#[]⟩, .slice none 0 0, .int .i64 0, .string ⟨#[]⟩, .int .i64 0, .string ⟨#[]⟩, .string ⟨#[]⟩, .int .i64 0, .string ⟨#[]⟩]) (places := [(0, 1), (1, 2), (3, 1), (4, 3), (7, 3)]) rfl (by kernel_rfl) rfl rfl rfl rfl rfl) ?_
  refine AL_p (x_alloc (z := .agg #[.int .i64 0, .string ⟨#[]⟩, .slice none 0 0, .int .i64 0, .string ⟨#[]⟩, .int .i64 0, .string ⟨#[]⟩, .string ⟨#[]⟩, .int .i64 0, .string ⟨#[]⟩]) 102 rfl (by kernel_rfl) rfl rfl rfl rfl) ?_
  refine AL_p (x_store (n := 10) rfl rfl rfl rfl (by kernel_rfl) rfl rfl rfl) ?_
  refine AL_nil ?_
  refine AW_seq ?_
  refine AW_region ?_
  refine AL_p (x_move rfl rfl) ?_
  refine AL_p (x_call (ks := []) (L := [(200, some _)]) (L' := [(200, some _)]) rfl rfl rfl (sTerm_c tk e st hm hi hok false) rfl AllV.rf (caught_of rfl) rfl rfl rfl ⟨rfl, trivial⟩ rfl) ?_
  refine AL_p (x_field (off := 4) (o' := 4) rfl rfl rfl (by kernel_rfl) rfl) ?_
  refine AL_p (x_store (n := 3) rfl rfl rfl rfl (by kernel_rfl) rfl rfl rfl) ?_
  refine AL_nil ?_
  refine AW_seq ?_
  refine AW_region ?_
  refine AL_p (x_move rfl rfl) ?_
  refine AL_p (x_call (ks := []) (L := [(200, some _)]) (L' := [(200, some _)]) rfl rfl rfl (sOp_c tk e (termP tk e false st).2 hm (term_le hi)) rfl AllV.rf (caught_of rfl) rfl rfl rfl ⟨rfl, trivial⟩ rfl) ?_
  refine AL_p (x_field (off := 3) (o' := 3) rfl rfl rfl (by kernel_rfl) rfl) ?_
  refine AL_p (x_store (n := 1) rfl rfl rfl rfl (by kernel_rfl) rfl rfl rfl) ?_
  refine AL_nil ?_
  refine AW_seq ?_
  refine AW_seq ?_
  refine AW_region ?_
  refine AL_p (x_field (off := 3) (o' := 3) rfl rfl rfl (by kernel_rfl) rfl) ?_
  refine AL_p (x_load1 rfl rfl rfl (by kernel_rfl) rfl) ?_
  refine AL_b (x_eql rfl rfl rfl) (fun b126 h126 => ?_)
  refine AL_nil ?_
  cases b126
  rotate_left
  · try simp only [tdy] at h126
    have hq := fault_le (e := e) (c := 6) (term_le (e := e) (b := false) hi)
    have hno := litS_cmp hnt hop (opP_no h126)
    refine AW_condT rfl ?_
    refine AW_region ?_
    refine AL_p (x_move rfl rfl) ?_
    refine AL_p (x_call (ks := []) (L := [(200, some _)]) (L' := [(200, some _)]) rfl rfl rfl (sFault_c tk e (termP tk e false st).2 hm (term_le hi) 6) rfl AllV.rf (caught_of rfl) rfl rfl rfl ⟨rfl, trivial⟩ rfl) ?_
    refine AL_nil ?_
    refine AW_seq ?_
    refine AW_region ?_
    refine AL_p (x_move rfl rfl) ?_
    refine AL_p (x_call (ks := []) (L := [(200, some _)]) (L' := [(200, some _)]) rfl rfl rfl (sTerm_c tk e _ hm hq hok false) rfl AllV.rf (caught_of rfl) rfl rfl rfl ⟨rfl, trivial⟩ rfl) ?_
    refine AL_p (x_field (off := 7) (o' := 7) rfl rfl rfl (by kernel_rfl) rfl) ?_
    refine AL_p (x_store (n := 3) rfl rfl rfl rfl (by kernel_rfl) rfl rfl rfl) ?_
    refine AL_nil ?_
    refine AW_seq ?_
    refine AW_region ?_
    refine AL_p (x_loadN (n := 10) rfl rfl rfl (by kernel_rfl) rfl rfl) ?_
    refine AL_p (x_store (n := 10) rfl rfl rfl rfl (by kernel_rfl) rfl rfl rfl) ?_
    refine AL_nil ?_
    refine AW_adopt (T := 70) (e := termE) 103 100 2 rfl rfl rfl rfl rfl ?_
    refine AW_ret ?_
    exact ⟨rn [(9, 100), (0, 103)], ⟨⟨⟨_, rfl, VLe.rf⟩, trivial⟩, ⟨⟨_, rfl, by first | exact BLe.rf | exact ble_eq (by rw [hno]; first | done | rfl)⟩, ⟨_, rfl, by first | exact BLe.rf | exact ble_eq (by rw [hno]; first | done | rfl)⟩, ⟨_, rfl, by first | exact BLe.rf | (refine BLe.arr ?_; rw [hno]; first | done | rfl)⟩, trivial⟩, by repeat (first | exact trivial | refine ⟨⟨rfl, by first | (left; intro h; cases h) | (right; rfl), by first | exact (fun _ h => ⟨_, h⟩) | exact (fun _ _ => ⟨_, rfl⟩) | (intro _ h; cases h)⟩, ?_⟩), rfl⟩⟩
  try simp only [tdy] at h126
  have hq := next_le (opP_ok (tk := tk) (e := e) (st := (termP tk e false st).2) h126).2
  have hlt2 : (termP tk e false st).2.i < tk.length := hq
  have hno := litS_cmp hnt hop (opP_ok h126).1
  refine AW_condF rfl ?_
  refine AW_region ?_
  refine AL_p (x_move rfl rfl) ?_
  refine AL_p (x_nilc rfl rfl rfl) ?_
  refine AL_p (x_field (off := 1) (o' := 1) rfl rfl rfl (by kernel_rfl) rfl) ?_
  refine AL_p (x_load1 rfl rfl rfl (by kernel_rfl) rfl) ?_
  refine AL_p (x_add rfl rfl rfl (IntWalk.i64_in _ (by omega))) ?_
  refine AL_p (x_nilc rfl rfl rfl) ?_
  refine AL_p (x_field (off := 1) (o' := 1) rfl rfl rfl (by kernel_rfl) rfl) ?_
  refine AL_p (x_store (n := 1) rfl rfl rfl rfl (by kernel_rfl) rfl rfl rfl) ?_
  refine AL_nil ?_
  refine AW_seq ?_
  refine AW_region ?_
  refine AL_p (x_move rfl rfl) ?_
  refine AL_p (x_call (ks := []) (L := [(200, some _)]) (L' := [(200, some _)]) rfl rfl rfl (sTerm_c tk e _ hm hq hok false) rfl AllV.rf (caught_of rfl) rfl rfl rfl ⟨rfl, trivial⟩ rfl) ?_
  refine AL_p (x_field (off := 7) (o' := 7) rfl rfl rfl (by kernel_rfl) rfl) ?_
  refine AL_p (x_store (n := 3) rfl rfl rfl rfl (by kernel_rfl) rfl rfl rfl) ?_
  refine AL_nil ?_
  refine AW_seq ?_
  refine AW_region ?_
  refine AL_p (x_loadN (n := 10) rfl rfl rfl (by kernel_rfl) rfl rfl) ?_
  refine AL_p (x_store (n := 10) rfl rfl rfl rfl (by kernel_rfl) rfl rfl rfl) ?_
  refine AL_nil ?_
  refine AW_adopt (T := 70) (e := termE) 103 100 2 rfl rfl rfl rfl rfl ?_
  refine AW_ret ?_
  exact ⟨rn [(9, 100), (0, 103)], ⟨⟨⟨_, rfl, VLe.rf⟩, trivial⟩, ⟨⟨_, rfl, by first | exact BLe.rf | exact ble_eq (by rw [hno]; first | done | rfl)⟩, ⟨_, rfl, by first | exact BLe.rf | exact ble_eq (by rw [hno]; first | done | rfl)⟩, ⟨_, rfl, by first | exact BLe.rf | (refine BLe.arr ?_; rw [hno]; first | done | rfl)⟩, trivial⟩, by repeat (first | exact trivial | refine ⟨⟨rfl, by first | (left; intro h; cases h) | (right; rfl), by first | exact (fun _ h => ⟨_, h⟩) | exact (fun _ _ => ⟨_, rfl⟩) | (intro _ h; cases h)⟩, ?_⟩), rfl⟩⟩

theorem sLit_c (tk : List Tokent) (e : Int) (st : PS) (hm : tk.length ≤ 1048576) (hi : st.i ≤ tk.length) (hok : ∀ t ∈ tk, tokOk t) (k : Nat) (hk : Nat.beq k 200 = false) : AC Try.prog 109 [.one (.ptr 200 0)] [(200, some (psB tk e st))] (.agg (litK (litS tk e st).1 k)) [(200, some (psB tk e (litS tk e st).2)), (k, some (.arr 70 termE (litS tk e st).1.atom.args true))] := AC.ps (sLit_c0 tk e st hm hi hok) k hk (fun r h => litK_ren h) (fun _ => rfl)

set_option maxHeartbeats 4000000 in
theorem sBegins_c (tk : List Tokent) (e : Int) (st : PS) (hm : tk.length ≤ 1048576) (hi : st.i ≤ tk.length) : AC Try.prog 108 [.one (.ptr 200 0)] [(200, some (psB tk e st))] (.one (.c (.bool (beginsT (hereT tk e st))))) [(200, some (psB tk e st))] := by
  refine AC_body1 Try.func108 rfl rfl Try.ntmps108 rfl Try.results108 ?_
  refine AW_seq ?_
  refine AW_region ?_
  refine AL_p (x_assign rfl rfl) ?_
  refine AL_nil ?_
  refine AW_seq ?_
  refine AW_seq ?_
  refine AW_draw rfl ?_
  refine AL_p (x_move rfl rfl) ?_
  refine AL_p (x_nilc rfl rfl rfl) ?_
  refine AL_p (x_field (off := 3) (o' := 3) rfl rfl rfl (by kernel_rfl) rfl) ?_
  refine AL_p (x_load1 rfl rfl rfl (by kernel_rfl) rfl) ?_
  refine AL_b (x_neq rfl rfl rfl) (fun b8 h8 => ?_)
  refine AL_p (x_move rfl rfl) ?_
  cases b8
  rotate_left
  · try simp only [tdy] at h8
    have h0k : (hereT tk e st).kind = 0 := here_kind (fun q => by omega)
    have hb := begins_zero h0k
    refine AL_o rfl rfl rfl rfl ?_
    refine AL_o rfl rfl rfl rfl ?_
    refine AL_o rfl rfl rfl rfl ?_
    refine AL_o rfl rfl rfl rfl ?_
    refine AL_o rfl rfl rfl rfl ?_
    refine AL_o rfl rfl rfl rfl ?_
    refine AL_o rfl rfl rfl rfl ?_
    refine AL_o rfl rfl rfl rfl ?_
    refine AL_o rfl rfl rfl rfl ?_
    refine AL_o rfl rfl rfl rfl ?_
    refine AL_p (x_pickT rfl rfl rfl) ?_
    refine AL_nild (by kernel_rfl) ?_
    refine AW_condT rfl ?_
    refine AW_seq ?_
    refine AW_region ?_
    refine AL_p (x_assign rfl rfl) ?_
    refine AL_nil ?_
    refine AW_ret ?_
    exact ⟨rn [], ⟨⟨⟨_, rfl, vle_bool (by first | exact hb.symm | (rw [hh]; simp [beginsT, termT, nameT, notT, notS, *]))⟩, trivial⟩, ⟨⟨_, rfl, by first | exact BLe.rf | exact ble_eq (by rw [hno]; first | done | rfl)⟩, trivial⟩, by repeat (first | exact trivial | refine ⟨⟨rfl, by first | (left; intro h; cases h) | (right; rfl), by first | exact (fun _ h => ⟨_, h⟩) | exact (fun _ _ => ⟨_, rfl⟩) | (intro _ h; cases h)⟩, ?_⟩), rfl⟩⟩
  try simp only [tdy] at h8
  refine AL_g rfl rfl (x_move rfl rfl) ?_
  refine AL_g rfl rfl (x_nilc rfl rfl rfl) ?_
  refine AL_g rfl rfl (x_field (off := 1) (o' := 1) rfl rfl rfl (by kernel_rfl) rfl) ?_
  refine AL_g rfl rfl (x_load1 rfl rfl rfl (by kernel_rfl) rfl) ?_
  refine AL_g rfl rfl (x_move rfl rfl) ?_
  refine AL_g rfl rfl (x_nilc rfl rfl rfl) ?_
  refine AL_g rfl rfl (x_field (off := 0) (o' := 0) rfl rfl rfl (by kernel_rfl) rfl) ?_
  refine AL_g rfl rfl (x_load1 rfl rfl rfl (by kernel_rfl) rfl) ?_
  refine AL_g rfl rfl (x_len (E := 83) (n := 4) rfl rfl (by kernel_rfl)) ?_
  refine AL_gb rfl rfl (x_geq rfl rfl rfl) (fun b19 h19 => ?_)
  refine AL_p (x_pickF rfl rfl rfl) ?_
  refine AL_nild (by kernel_rfl) ?_
  cases b19
  rotate_left
  · try simp only [tdy] at h19
    have h0k : (hereT tk e st).kind = 0 := here_kind (fun q => by omega)
    have hb := begins_zero h0k
    refine AW_condT rfl ?_
    refine AW_seq ?_
    refine AW_region ?_
    refine AL_p (x_assign rfl rfl) ?_
    refine AL_nil ?_
    refine AW_ret ?_
    exact ⟨rn [], ⟨⟨⟨_, rfl, vle_bool (by first | exact hb.symm | (rw [hh]; simp [beginsT, termT, nameT, notT, notS, *]))⟩, trivial⟩, ⟨⟨_, rfl, by first | exact BLe.rf | exact ble_eq (by rw [hno]; first | done | rfl)⟩, trivial⟩, by repeat (first | exact trivial | refine ⟨⟨rfl, by first | (left; intro h; cases h) | (right; rfl), by first | exact (fun _ h => ⟨_, h⟩) | exact (fun _ _ => ⟨_, rfl⟩) | (intro _ h; cases h)⟩, ?_⟩), rfl⟩⟩
  try simp only [tdy] at h19
  have hh : hereT tk e st = (tk[st.i]'(by omega)) := here_ok (by omega) (by omega)
  refine AW_condF rfl ?_
  refine AW_skip ?_
  refine AW_seq ?_
  refine AW_draw rfl ?_
  refine AL_p (x_move rfl rfl) ?_
  refine AL_p (x_nilc rfl rfl rfl) ?_
  refine AL_p (x_field (off := 0) (o' := 0) rfl rfl rfl (by kernel_rfl) rfl) ?_
  refine AL_p (x_load1 rfl rfl rfl (by kernel_rfl) rfl) ?_
  refine AL_p (x_move rfl rfl) ?_
  refine AL_p (x_nilc rfl rfl rfl) ?_
  refine AL_p (x_field (off := 1) (o' := 1) rfl rfl rfl (by kernel_rfl) rfl) ?_
  refine AL_p (x_load1 rfl rfl rfl (by kernel_rfl) rfl) ?_
  refine AL_p (x_index (E := 83) (n := 4) rfl rfl rfl (by kernel_rfl) rfl (k := st.i) (by omega) (by omega)) ?_
  refine AL_p (x_eloadW (n := 4) rfl rfl (by kernel_rfl) rfl) ?_
  refine AL_p (x_alloc (z := .agg #[.int .i64 0, .int .i64 0, .string ⟨#[]⟩, .int .i64 0]) 100 rfl (by kernel_rfl) rfl rfl rfl rfl) ?_
  refine AL_p (x_store (n := 4) rfl rfl rfl rfl (by kernel_rfl) rfl rfl rfl) ?_
  refine AL_nild (by kernel_rfl) ?_
  refine AW_seq ?_
  refine AW_region ?_
  refine AL_p (x_field (off := 0) (o' := 0) rfl rfl rfl (by kernel_rfl) rfl) ?_
  refine AL_p (x_load1 rfl rfl rfl (by kernel_rfl) rfl) ?_
  refine AL_b (x_eql rfl rfl rfl) (fun b33 h33 => ?_)
  refine AL_p (x_move rfl rfl) ?_
  cases b33
  rotate_left
  · try simp only [tdy] at h33
    refine AL_o rfl rfl rfl rfl ?_
    refine AL_o rfl rfl rfl rfl ?_
    refine AL_o rfl rfl rfl rfl ?_
    refine AL_p (x_pickT rfl rfl rfl) ?_
    refine AL_p (x_move rfl rfl) ?_
    refine AL_o rfl rfl rfl rfl ?_
    refine AL_o rfl rfl rfl rfl ?_
    refine AL_o rfl rfl rfl rfl ?_
    refine AL_o rfl rfl rfl rfl ?_
    refine AL_u rfl rfl rfl ?_
    refine AL_u rfl rfl rfl ?_
    refine AL_u rfl rfl rfl ?_
    refine AL_u rfl rfl rfl ?_
    refine AL_u rfl rfl rfl ?_
    refine AL_u rfl rfl rfl ?_
    refine AL_u rfl rfl rfl ?_
    refine AL_u rfl rfl rfl ?_
    refine AL_u rfl rfl rfl ?_
    refine AL_o rfl rfl rfl rfl ?_
    refine AL_p (x_pickT rfl rfl rfl) ?_
    refine AL_p (x_assign rfl rfl) ?_
    refine AL_nil ?_
    refine AW_ret ?_
    exact ⟨rn [], ⟨⟨⟨_, rfl, vle_bool (by first | exact hb.symm | (rw [hh]; simp [beginsT, termT, nameT, notT, notS, *]))⟩, trivial⟩, ⟨⟨_, rfl, by first | exact BLe.rf | exact ble_eq (by rw [hno]; first | done | rfl)⟩, trivial⟩, by repeat (first | exact trivial | refine ⟨⟨rfl, by first | (left; intro h; cases h) | (right; rfl), by first | exact (fun _ h => ⟨_, h⟩) | exact (fun _ _ => ⟨_, rfl⟩) | (intro _ h; cases h)⟩, ?_⟩), rfl⟩⟩
  try simp only [tdy] at h33
  refine AL_g rfl rfl (x_field (off := 0) (o' := 0) rfl rfl rfl (by kernel_rfl) rfl) ?_
  refine AL_g rfl rfl (x_load1 rfl rfl rfl (by kernel_rfl) rfl) ?_
  refine AL_gb rfl rfl (x_eql rfl rfl rfl) (fun b37 h37 => ?_)
  refine AL_p (x_pickF rfl rfl rfl) ?_
  refine AL_p (x_move rfl rfl) ?_
  cases b37
  rotate_left
  · try simp only [tdy] at h37
    refine AL_o rfl rfl rfl rfl ?_
    refine AL_o rfl rfl rfl rfl ?_
    refine AL_o rfl rfl rfl rfl ?_
    refine AL_o rfl rfl rfl rfl ?_
    refine AL_u rfl rfl rfl ?_
    refine AL_u rfl rfl rfl ?_
    refine AL_u rfl rfl rfl ?_
    refine AL_u rfl rfl rfl ?_
    refine AL_u rfl rfl rfl ?_
    refine AL_u rfl rfl rfl ?_
    refine AL_u rfl rfl rfl ?_
    refine AL_u rfl rfl rfl ?_
    refine AL_u rfl rfl rfl ?_
    refine AL_o rfl rfl rfl rfl ?_
    refine AL_p (x_pickT rfl rfl rfl) ?_
    refine AL_p (x_assign rfl rfl) ?_
    refine AL_nil ?_
    refine AW_ret ?_
    exact ⟨rn [], ⟨⟨⟨_, rfl, vle_bool (by first | exact hb.symm | (rw [hh]; simp [beginsT, termT, nameT, notT, notS, *]))⟩, trivial⟩, ⟨⟨_, rfl, by first | exact BLe.rf | exact ble_eq (by rw [hno]; first | done | rfl)⟩, trivial⟩, by repeat (first | exact trivial | refine ⟨⟨rfl, by first | (left; intro h; cases h) | (right; rfl), by first | exact (fun _ h => ⟨_, h⟩) | exact (fun _ _ => ⟨_, rfl⟩) | (intro _ h; cases h)⟩, ?_⟩), rfl⟩⟩
  try simp only [tdy] at h37
  refine AL_g rfl rfl (x_field (off := 0) (o' := 0) rfl rfl rfl (by kernel_rfl) rfl) ?_
  refine AL_g rfl rfl (x_load1 rfl rfl rfl (by kernel_rfl) rfl) ?_
  refine AL_gb rfl rfl (x_eql rfl rfl rfl) (fun b42 h42 => ?_)
  refine AL_g rfl rfl (x_move rfl rfl) ?_
  cases b42
  · try simp only [tdy] at h42
    refine AL_o rfl rfl rfl rfl ?_
    refine AL_o rfl rfl rfl rfl ?_
    refine AL_o rfl rfl rfl rfl ?_
    refine AL_o rfl rfl rfl rfl ?_
    refine AL_u rfl rfl rfl ?_
    refine AL_u rfl rfl rfl ?_
    refine AL_u rfl rfl rfl ?_
    refine AL_u rfl rfl rfl ?_
    refine AL_o rfl rfl rfl rfl ?_
    refine AL_g rfl rfl (x_pickF rfl rfl rfl) ?_
    refine AL_p (x_pickF rfl rfl rfl) ?_
    refine AL_p (x_assign rfl rfl) ?_
    refine AL_nil ?_
    refine AW_ret ?_
    exact ⟨rn [], ⟨⟨⟨_, rfl, vle_bool (by first | exact hb.symm | (rw [hh]; simp [beginsT, termT, nameT, notT, notS, *]))⟩, trivial⟩, ⟨⟨_, rfl, by first | exact BLe.rf | exact ble_eq (by rw [hno]; first | done | rfl)⟩, trivial⟩, by repeat (first | exact trivial | refine ⟨⟨rfl, by first | (left; intro h; cases h) | (right; rfl), by first | exact (fun _ h => ⟨_, h⟩) | exact (fun _ _ => ⟨_, rfl⟩) | (intro _ h; cases h)⟩, ?_⟩), rfl⟩⟩
  try simp only [tdy] at h42
  refine AL_g rfl rfl (x_field (off := 2) (o' := 2) rfl rfl rfl (by kernel_rfl) rfl) ?_
  refine AL_g rfl rfl (x_load1 rfl rfl rfl (by kernel_rfl) rfl) ?_
  refine AL_gb rfl rfl (x_seql rfl rfl rfl) (fun b46 h46 => ?_)
  refine AL_g rfl rfl (x_move rfl rfl) ?_
  cases b46
  rotate_left
  · try simp only [tdy] at h46
    refine AL_o rfl rfl rfl rfl ?_
    refine AL_o rfl rfl rfl rfl ?_
    refine AL_o rfl rfl rfl rfl ?_
    refine AL_o rfl rfl rfl rfl ?_
    refine AL_g rfl rfl (x_pickT rfl rfl rfl) ?_
    refine AL_g rfl rfl (x_pickT rfl rfl rfl) ?_
    refine AL_p (x_pickF rfl rfl rfl) ?_
    refine AL_p (x_assign rfl rfl) ?_
    refine AL_nil ?_
    refine AW_ret ?_
    exact ⟨rn [], ⟨⟨⟨_, rfl, vle_bool (by first | exact hb.symm | (rw [hh]; simp [beginsT, termT, nameT, notT, notS, *]))⟩, trivial⟩, ⟨⟨_, rfl, by first | exact BLe.rf | exact ble_eq (by rw [hno]; first | done | rfl)⟩, trivial⟩, by repeat (first | exact trivial | refine ⟨⟨rfl, by first | (left; intro h; cases h) | (right; rfl), by first | exact (fun _ h => ⟨_, h⟩) | exact (fun _ _ => ⟨_, rfl⟩) | (intro _ h; cases h)⟩, ?_⟩), rfl⟩⟩
  try simp only [tdy] at h46
  refine AL_g rfl rfl (x_field (off := 2) (o' := 2) rfl rfl rfl (by kernel_rfl) rfl) ?_
  refine AL_g rfl rfl (x_load1 rfl rfl rfl (by kernel_rfl) rfl) ?_
  refine AL_gb rfl rfl (x_call0 rfl rfl rfl (keptS_c _) rfl rfl) (fun b50 h50 => ?_)
  refine AL_g rfl rfl (x_not rfl rfl) ?_
  refine AL_g rfl rfl (x_pickF rfl rfl rfl) ?_
  refine AL_g rfl rfl (x_pickT rfl rfl rfl) ?_
  refine AL_p (x_pickF rfl rfl rfl) ?_
  refine AL_p (x_assign rfl rfl) ?_
  refine AL_nil ?_
  refine AW_ret ?_
  cases b50
  rotate_left
  · try simp only [tdy] at h50
    exact ⟨rn [], ⟨⟨⟨_, rfl, vle_bool (by first | exact hb.symm | (rw [hh]; simp [beginsT, termT, nameT, notT, notS, *]))⟩, trivial⟩, ⟨⟨_, rfl, by first | exact BLe.rf | exact ble_eq (by rw [hno]; first | done | rfl)⟩, trivial⟩, by repeat (first | exact trivial | refine ⟨⟨rfl, by first | (left; intro h; cases h) | (right; rfl), by first | exact (fun _ h => ⟨_, h⟩) | exact (fun _ _ => ⟨_, rfl⟩) | (intro _ h; cases h)⟩, ?_⟩), rfl⟩⟩
  try simp only [tdy] at h50
  exact ⟨rn [], ⟨⟨⟨_, rfl, vle_bool (by first | exact hb.symm | (rw [hh]; simp [beginsT, termT, nameT, notT, notS, *]))⟩, trivial⟩, ⟨⟨_, rfl, by first | exact BLe.rf | exact ble_eq (by rw [hno]; first | done | rfl)⟩, trivial⟩, by repeat (first | exact trivial | refine ⟨⟨rfl, by first | (left; intro h; cases h) | (right; rfl), by first | exact (fun _ h => ⟨_, h⟩) | exact (fun _ _ => ⟨_, rfl⟩) | (intro _ h; cases h)⟩, ?_⟩), rfl⟩⟩

set_option maxHeartbeats 4000000 in
theorem sRule_c0 (tk : List Tokent) (e : Int) (st : PS) (hm : tk.length ≤ 1048576) (hi : st.i ≤ tk.length) (hok : ∀ t ∈ tk, tokOk t) : AC Try.prog 59 [.one (.ptr 200 0)] [(200, some (psB tk e st))] (.agg (ruleO (ruleS tk e st).1)) [(200, some (psB tk e (ruleS tk e st).2)), (0, some (.arr 70 termE (ruleS tk e st).1.head.args true)), (1, some (.arr 72 litE (ruleS tk e st).1.body true))] := by
  refine AC_bodyC (n := 4) (k := 9) (T := [(2, .one (.ptr 9 0))]) (Lf := ((9, some (.box (ruleO (ruleS tk e st).1))) :: [(200, some (psB tk e (ruleS tk e st).2)), (0, some (.arr 70 termE (ruleS tk e st).1.head.args true)), (1, some (.arr 72 litE (ruleS tk e st).1.body true))])) Try.func59 rfl rfl Try.ntmps59 rfl Try.results59 rfl rfl (by kernel_rfl) rfl rfl ⟨trivial, (by repeat (first | exact trivial | refine ⟨⟨_, rfl, BLe.rf⟩, ?_⟩)), (by repeat (first | exact trivial | refine ⟨⟨rfl, by first | (left; intro h; cases h) | (right; rfl), by first | exact (fun _ h => ⟨_, h⟩) | exact (fun _ _ => ⟨_, rfl⟩) | (intro _ h; cases h)⟩, ?_⟩)), rfl⟩ ?_
  refine AW_seq ?_
  refine AW_region ?_
  refine AL_p (x_alloc (z := .agg #[.int .i64 0, .string ⟨#[]⟩, .slice none 0 0, .slice none 0 0]) 100 rfl (by kernel_rfl) rfl rfl rfl rfl) ?_
  refine AL_nil ?_
  refine AW_seq ?_
  refine AW_region ?_
  refine AL_p (x_build (zs := [.int .i64 0, .string ⟨#[]⟩, .slice none 0 0, .slice none 0 0]) (places := [(0, 1), (1, 2), (3, 1)]) rfl (by kernel_rfl) rfl rfl rfl rfl rfl) ?_
  refine AL_p (x_alloc (z := .agg #[.int .i64 0, .string ⟨#[]⟩, .slice none 0 0, .slice none 0 0]) 300 rfl (by kernel_rfl) rfl rfl rfl rfl) ?_
  refine AL_p (x_store (n := 4) rfl rfl rfl rfl (by kernel_rfl) rfl rfl rfl) ?_
  refine AL_nil ?_
  refine AW_mid (ι := {q : PS × Int // plusP tk e st = ((q.2), (q.1)) ∧ (q.1).i ≤ tk.length}) (fun p => []) (fun p => [(200, some (psB tk e (p.1.1))), (300, some (.box [.c (.int .i64 (p.1.2)), .c (.string ⟨#[]⟩), .c (.slice none 0 0), .c (.slice none 0 0)]))]) [0, 2, 3] [100] ?_ ?_
  · refine AW_seq ?_
    refine AW_region ?_
    refine AL_p (x_move rfl rfl) ?_
    refine AL_p (x_move rfl rfl) ?_
    refine AL_p (x_nilc rfl rfl rfl) ?_
    refine AL_p (x_field (off := 1) (o' := 1) rfl rfl rfl (by kernel_rfl) rfl) ?_
    refine AL_p (x_load1 rfl rfl rfl (by kernel_rfl) rfl) ?_
    refine AL_bc (x_call (ks := []) (L := [(200, some _)]) (L' := [(200, some _)]) rfl rfl rfl (sIsH_c tk e st hm hi ⟨#[43]⟩) rfl AllV.rf (caught_of rfl) rfl rfl rfl ⟨rfl, trivial⟩ rfl) (fun b10 h10 => ?_)
    refine AL_nil ?_
    cases b10
    rotate_left
    · try simp only [tdy] at h10
      have hlt := sign_lt h10
      refine AW_condT rfl ?_
      refine AW_seq ?_
      refine AW_region ?_
      refine AL_p (x_field (off := 0) (o' := 0) rfl rfl rfl (by kernel_rfl) rfl) ?_
      refine AL_p (x_store (n := 1) rfl rfl rfl rfl (by kernel_rfl) rfl rfl rfl) ?_
      refine AL_nil ?_
      refine AW_region ?_
      refine AL_p (x_move rfl rfl) ?_
      refine AL_p (x_nilc rfl rfl rfl) ?_
      refine AL_p (x_field (off := 1) (o' := 1) rfl rfl rfl (by kernel_rfl) rfl) ?_
      refine AL_p (x_load1 rfl rfl rfl (by kernel_rfl) rfl) ?_
      refine AL_p (x_add rfl rfl rfl (IntWalk.i64_in _ (by omega))) ?_
      refine AL_p (x_nilc rfl rfl rfl) ?_
      refine AL_p (x_field (off := 1) (o' := 1) rfl rfl rfl (by kernel_rfl) rfl) ?_
      refine AL_p (x_store (n := 1) rfl rfl rfl rfl (by kernel_rfl) rfl rfl rfl) ?_
      refine AL_nil ?_
      refine ⟨⟨⟨st.next, 2⟩, ⟨plus_plus h10, hlt⟩⟩, rn [], ?_⟩
      exact ⟨by (repeat refine ⟨⟨_, rfl, by first | exact VLe.rf | exact vle_int (by dsimp only; omega)⟩, ?_⟩); exact trivial, by (repeat refine ⟨⟨_, rfl, by first | exact BLe.rf | exact BLe.box AllC.rf | exact BLe.arr (by exact rfl)⟩, ?_⟩); exact trivial, by repeat (first | exact trivial | refine ⟨⟨rfl, by first | (left; intro h; cases h) | (right; rfl), by first | exact (fun _ h => ⟨_, h⟩) | exact (fun _ _ => ⟨_, rfl⟩) | (intro _ h; cases h)⟩, ?_⟩), rfl⟩
    try simp only [tdy] at h10
    refine AW_condF rfl ?_
    refine AW_seq ?_
    refine AW_region ?_
    refine AL_p (x_move rfl rfl) ?_
    refine AL_p (x_move rfl rfl) ?_
    refine AL_p (x_nilc rfl rfl rfl) ?_
    refine AL_p (x_field (off := 1) (o' := 1) rfl rfl rfl (by kernel_rfl) rfl) ?_
    refine AL_p (x_load1 rfl rfl rfl (by kernel_rfl) rfl) ?_
    refine AL_bc (x_call (ks := []) (L := [(200, some _)]) (L' := [(200, some _)]) rfl rfl rfl (sIsH_c tk e st hm hi ⟨#[45]⟩) rfl AllV.rf (caught_of rfl) rfl rfl rfl ⟨rfl, trivial⟩ rfl) (fun b24 h24 => ?_)
    refine AL_nil ?_
    cases b24
    · try simp only [tdy] at h24
      refine AW_condF rfl ?_
      refine AW_skip ?_
      refine ⟨⟨⟨st, 1⟩, ⟨plus_none h10 h24, hi⟩⟩, rn [], ?_⟩
      exact ⟨by (repeat refine ⟨⟨_, rfl, by first | exact VLe.rf | exact vle_int (by dsimp only; omega)⟩, ?_⟩); exact trivial, by (repeat refine ⟨⟨_, rfl, by first | exact BLe.rf | exact BLe.box AllC.rf | exact BLe.arr (by exact rfl)⟩, ?_⟩); exact trivial, by repeat (first | exact trivial | refine ⟨⟨rfl, by first | (left; intro h; cases h) | (right; rfl), by first | exact (fun _ h => ⟨_, h⟩) | exact (fun _ _ => ⟨_, rfl⟩) | (intro _ h; cases h)⟩, ?_⟩), rfl⟩
    try simp only [tdy] at h24
    have hlt := sign_lt h24
    refine AW_condT rfl ?_
    refine AW_seq ?_
    refine AW_region ?_
    refine AL_p (x_field (off := 0) (o' := 0) rfl rfl rfl (by kernel_rfl) rfl) ?_
    refine AL_p (x_store (n := 1) rfl rfl rfl rfl (by kernel_rfl) rfl rfl rfl) ?_
    refine AL_nil ?_
    refine AW_region ?_
    refine AL_p (x_move rfl rfl) ?_
    refine AL_p (x_nilc rfl rfl rfl) ?_
    refine AL_p (x_field (off := 1) (o' := 1) rfl rfl rfl (by kernel_rfl) rfl) ?_
    refine AL_p (x_load1 rfl rfl rfl (by kernel_rfl) rfl) ?_
    refine AL_p (x_add rfl rfl rfl (IntWalk.i64_in _ (by omega))) ?_
    refine AL_p (x_nilc rfl rfl rfl) ?_
    refine AL_p (x_field (off := 1) (o' := 1) rfl rfl rfl (by kernel_rfl) rfl) ?_
    refine AL_p (x_store (n := 1) rfl rfl rfl rfl (by kernel_rfl) rfl rfl rfl) ?_
    refine AL_nil ?_
    refine ⟨⟨⟨st.next, 3⟩, ⟨plus_minus h10 h24, hlt⟩⟩, rn [], ?_⟩
    exact ⟨by (repeat refine ⟨⟨_, rfl, by first | exact VLe.rf | exact vle_int (by dsimp only; omega)⟩, ?_⟩); exact trivial, by (repeat refine ⟨⟨_, rfl, by first | exact BLe.rf | exact BLe.box AllC.rf | exact BLe.arr (by exact rfl)⟩, ?_⟩); exact trivial, by repeat (first | exact trivial | refine ⟨⟨rfl, by first | (left; intro h; cases h) | (right; rfl), by first | exact (fun _ h => ⟨_, h⟩) | exact (fun _ _ => ⟨_, rfl⟩) | (intro _ h; cases h)⟩, ?_⟩), rfl⟩
  rintro ⟨⟨s0, k0⟩, hinv⟩
  dsimp only
  have hp := hinv.1
  have hs0 : s0.i ≤ tk.length := hinv.2
  refine AW_seq ?_
  refine AW_region ?_
  refine AL_p (x_move rfl rfl) ?_
  refine AL_p (x_call (ks := []) (L := [(200, some _)]) (L' := [(200, some _), (101, some _)]) rfl rfl rfl (sAtom_c tk e s0 hm hs0 hok 101 rfl) rfl AllV.rf (caught_of rfl) rfl rfl rfl ⟨rfl, trivial⟩ rfl) ?_
  refine AL_p (x_field (off := 1) (o' := 1) rfl rfl rfl (by kernel_rfl) rfl) ?_
  refine AL_p (x_store (n := 2) rfl rfl rfl rfl (by kernel_rfl) rfl rfl rfl) ?_
  refine AL_nil ?_
  refine AW_seq ?_
  refine AW_seq ?_
  refine AW_region ?_
  refine AL_p (x_move rfl rfl) ?_
  refine AL_p (x_move rfl rfl) ?_
  refine AL_p (x_nilc rfl rfl rfl) ?_
  refine AL_p (x_field (off := 1) (o' := 1) rfl rfl rfl (by kernel_rfl) rfl) ?_
  refine AL_p (x_load1 rfl rfl rfl (by kernel_rfl) rfl) ?_
  refine AL_bc (x_call (ks := []) (L := [(200, some _)]) (L' := [(200, some _)]) rfl rfl rfl (sIsH_c tk e (atomS tk e s0).2 hm (atomS_le hs0) ⟨#[58, 45]⟩) rfl AllV.rf (caught_of rfl) rfl rfl rfl ⟨rfl, trivial⟩ rfl) (fun b41 h41 => ?_)
  refine AL_nil ?_
  cases b41
  · try simp only [tdy] at h41
    have hno := ruleS_bare' hp h41
    have hi2 := atomS_le (e := e) hs0
    refine AW_condF rfl ?_
    refine AW_skip ?_
    refine AW_seq ?_
    refine AW_region ?_
    refine AL_p (x_move rfl rfl) ?_
    refine AL_p (x_call (ks := []) (L := [(200, some _)]) (L' := [(200, some _)]) rfl rfl rfl (sTake_c tk e _ hm hi2 ⟨#[46]⟩) rfl AllV.rf (caught_of rfl) rfl rfl rfl ⟨rfl, trivial⟩ rfl) ?_
    refine AL_nil ?_
    refine AW_seq ?_
    refine AW_region ?_
    refine AL_p (x_loadN (n := 4) rfl rfl rfl (by kernel_rfl) rfl rfl) ?_
    refine AL_p (x_store (n := 4) rfl rfl rfl rfl (by kernel_rfl) rfl rfl rfl) ?_
    refine AL_nil ?_
    refine AW_adopt (T := 72) (e := litE) 106 100 3 rfl rfl rfl rfl rfl ?_
    refine AW_ret ?_
    exact ⟨rn [(9, 100), (0, 101), (1, 106)], ⟨⟨⟨_, rfl, VLe.rf⟩, trivial⟩, ⟨⟨_, rfl, by first | exact BLe.rf | exact ble_eq (by rw [hno]; first | done | rfl)⟩, ⟨_, rfl, by first | exact BLe.rf | exact ble_eq (by rw [hno]; first | done | rfl)⟩, ⟨_, rfl, by first | exact BLe.rf | (refine BLe.arr ?_; rw [hno]; first | done | rfl)⟩, ⟨_, rfl, by first | exact BLe.rf | (refine BLe.arr ?_; rw [hno]; first | done | rfl)⟩, trivial⟩, by repeat (first | exact trivial | refine ⟨⟨rfl, by first | (left; intro h; cases h) | (right; rfl), by first | exact (fun _ h => ⟨_, h⟩) | exact (fun _ _ => ⟨_, rfl⟩) | (intro _ h; cases h)⟩, ?_⟩), rfl⟩⟩
  try simp only [tdy] at h41
  have hb0 := next_le (sign_lt h41)
  have hlt := sign_lt h41
  refine AW_condT rfl ?_
  refine AW_seq ?_
  refine AW_region ?_
  refine AL_p (x_move rfl rfl) ?_
  refine AL_p (x_nilc rfl rfl rfl) ?_
  refine AL_p (x_field (off := 1) (o' := 1) rfl rfl rfl (by kernel_rfl) rfl) ?_
  refine AL_p (x_load1 rfl rfl rfl (by kernel_rfl) rfl) ?_
  refine AL_p (x_add rfl rfl rfl (IntWalk.i64_in _ (by omega))) ?_
  refine AL_p (x_nilc rfl rfl rfl) ?_
  refine AL_p (x_field (off := 1) (o' := 1) rfl rfl rfl (by kernel_rfl) rfl) ?_
  refine AL_p (x_store (n := 1) rfl rfl rfl rfl (by kernel_rfl) rfl rfl rfl) ?_
  refine AL_nil ?_
  refine AW_block ?_
  refine AW_adopt (T := 72) (e := litE) 102 300 3 rfl rfl rfl rfl rfl ?_
  refine AW_loop2 (ι := {q : PS × List Litt // ((q.1).i ≤ tk.length ∧ (q.2).length ≤ 8) ∧ bodyS tk e (10 - (q.2).length) (q.1) (q.2) = bodyS tk e 10 (atomS tk e s0).2.next []}) (fun p => []) (fun p => [(102, some (.arr 72 litE (p.1.2) true)), (200, some (psB tk e (p.1.1)))]) [0, 2, 3] [100, 101, 300] (fun p => 9 - (p.1.2).length) ⟨⟨(atomS tk e s0).2.next, []⟩, ⟨⟨hb0, by simp⟩, rfl⟩⟩ (rn []) ?_ ?_
  exact ⟨by (repeat refine ⟨⟨_, rfl, by first | exact VLe.rf | exact vle_int (by dsimp only; omega)⟩, ?_⟩); exact trivial, by (repeat refine ⟨⟨_, rfl, by first | exact BLe.rf | exact BLe.box AllC.rf | exact BLe.arr (by exact rfl)⟩, ?_⟩); exact trivial, by repeat (first | exact trivial | refine ⟨⟨rfl, by first | (left; intro h; cases h) | (right; rfl), by first | exact (fun _ h => ⟨_, h⟩) | exact (fun _ _ => ⟨_, rfl⟩) | (intro _ h; cases h)⟩, ?_⟩), rfl⟩
  rintro ⟨⟨st1, a⟩, hinv⟩
  dsimp only
  have hi1 : st1.i ≤ tk.length := hinv.1.1
  have hl : a.length ≤ 8 := hinv.1.2
  have hinv1 := hinv.2
  refine AW_seq ?_
  refine AW_seq ?_
  refine AW_region ?_
  refine AL_p (x_move rfl rfl) ?_
  refine AL_p (x_nilc rfl rfl rfl) ?_
  refine AL_p (x_field (off := 3) (o' := 3) rfl rfl rfl (by kernel_rfl) rfl) ?_
  refine AL_p (x_load1 rfl rfl rfl (by kernel_rfl) rfl) ?_
  refine AL_b (x_eql rfl rfl rfl) (fun b53 h53 => ?_)
  refine AL_nil ?_
  cases b53
  · try simp only [tdy] at h53
    have hno := ruleS_body' hp h41 (hinv1.symm.trans (bodyS_bad h53))
    have hi2 := hi1
    refine AW_condF rfl ?_
    refine AW_exit (BQ_hit ?_)
    refine AW_seq ?_
    refine AW_region ?_
    refine AL_p (x_move rfl rfl) ?_
    refine AL_p (x_call (ks := []) (L := [(200, some _)]) (L' := [(200, some _)]) rfl rfl rfl (sTake_c tk e _ hm hi2 ⟨#[46]⟩) rfl AllV.rf (caught_of rfl) rfl rfl rfl ⟨rfl, trivial⟩ rfl) ?_
    refine AL_nil ?_
    refine AW_seq ?_
    refine AW_region ?_
    refine AL_p (x_loadN (n := 4) rfl rfl rfl (by kernel_rfl) rfl rfl) ?_
    refine AL_p (x_store (n := 4) rfl rfl rfl rfl (by kernel_rfl) rfl rfl rfl) ?_
    refine AL_nil ?_
    refine AW_ret ?_
    exact ⟨rn [(9, 100), (0, 101), (1, 102)], ⟨⟨⟨_, rfl, VLe.rf⟩, trivial⟩, ⟨⟨_, rfl, by first | exact BLe.rf | exact ble_eq (by rw [hno]; first | done | rfl)⟩, ⟨_, rfl, by first | exact BLe.rf | exact ble_eq (by rw [hno]; first | done | rfl)⟩, ⟨_, rfl, by first | exact BLe.rf | (refine BLe.arr ?_; rw [hno]; first | done | rfl)⟩, ⟨_, rfl, by first | exact BLe.rf | (refine BLe.arr ?_; rw [hno]; first | done | rfl)⟩, trivial⟩, by repeat (first | exact trivial | refine ⟨⟨rfl, by first | (left; intro h; cases h) | (right; rfl), by first | exact (fun _ h => ⟨_, h⟩) | exact (fun _ _ => ⟨_, rfl⟩) | (intro _ h; cases h)⟩, ?_⟩), rfl⟩⟩
  try simp only [tdy] at h53
  refine AW_condT rfl ?_
  refine AW_skip ?_
  refine AW_block ?_
  refine AW_mid (ι := {q : PS // fullP tk e a st1 = q ∧ q.i ≤ tk.length}) (fun p => []) (fun p => [(200, some (psB tk e (p.1)))]) [0, 2, 3] [100, 101, 102, 300] ?_ ?_
  · refine AW_seq ?_
    refine AW_region ?_
    refine AL_p (x_field (off := 3) (o' := 3) rfl rfl rfl (by kernel_rfl) rfl) ?_
    refine AL_p (x_load1 rfl rfl rfl (by kernel_rfl) rfl) ?_
    refine AL_p (x_olen (E := 72) (n := 10) rfl rfl rfl (by kernel_rfl)) ?_
    refine AL_b (x_eql rfl rfl rfl) (fun b57 h57 => ?_)
    refine AL_p (x_move rfl rfl) ?_
    cases b57
    · try simp only [tdy] at h57
      refine AL_o rfl rfl rfl rfl ?_
      refine AL_o rfl rfl rfl rfl ?_
      refine AL_p (x_pickF rfl rfl rfl) ?_
      refine AL_nil ?_
      refine AW_condF rfl ?_
      refine AW_skip ?_
      refine ⟨⟨st1, ⟨full_off (fun q => h57 q.1), hi1⟩⟩, rn [], ?_⟩
      exact ⟨by (repeat refine ⟨⟨_, rfl, by first | exact VLe.rf | exact vle_int (by dsimp only; omega)⟩, ?_⟩); exact trivial, by (repeat refine ⟨⟨_, rfl, by first | exact BLe.rf | exact BLe.box AllC.rf | exact BLe.arr (by exact rfl)⟩, ?_⟩); exact trivial, by repeat (first | exact trivial | refine ⟨⟨rfl, by first | (left; intro h; cases h) | (right; rfl), by first | exact (fun _ h => ⟨_, h⟩) | exact (fun _ _ => ⟨_, rfl⟩) | (intro _ h; cases h)⟩, ?_⟩), rfl⟩
    try simp only [tdy] at h57
    refine AL_g rfl rfl (x_move rfl rfl) ?_
    refine AL_gbc rfl rfl (x_call (ks := []) (L := [(200, some _)]) (L' := [(200, some _)]) rfl rfl rfl (sBegins_c tk e st1 hm hi1) rfl AllV.rf (caught_of rfl) rfl rfl rfl ⟨rfl, trivial⟩ rfl) (fun b60 h60 => ?_)
    refine AL_p (x_pickT rfl rfl rfl) ?_
    refine AL_nil ?_
    cases b60
    · try simp only [tdy] at h60
      refine AW_condF rfl ?_
      refine AW_skip ?_
      refine ⟨⟨st1, ⟨full_off (fun q => absurd q.2 (by rw [h60]; decide)), hi1⟩⟩, rn [], ?_⟩
      exact ⟨by (repeat refine ⟨⟨_, rfl, by first | exact VLe.rf | exact vle_int (by dsimp only; omega)⟩, ?_⟩); exact trivial, by (repeat refine ⟨⟨_, rfl, by first | exact BLe.rf | exact BLe.box AllC.rf | exact BLe.arr (by exact rfl)⟩, ?_⟩); exact trivial, by repeat (first | exact trivial | refine ⟨⟨rfl, by first | (left; intro h; cases h) | (right; rfl), by first | exact (fun _ h => ⟨_, h⟩) | exact (fun _ _ => ⟨_, rfl⟩) | (intro _ h; cases h)⟩, ?_⟩), rfl⟩
    try simp only [tdy] at h60
    refine AW_condT rfl ?_
    refine AW_region ?_
    refine AL_p (x_move rfl rfl) ?_
    refine AL_p (x_call (ks := []) (L := [(200, some _)]) (L' := [(200, some _)]) rfl rfl rfl (sFault_c tk e st1 hm hi1 7) rfl AllV.rf (caught_of rfl) rfl rfl rfl ⟨rfl, trivial⟩ rfl) ?_
    refine AL_nil ?_
    refine ⟨⟨faultP tk e 7 st1, ⟨full_on h57 h60, fault_le hi1⟩⟩, rn [], ?_⟩
    exact ⟨by (repeat refine ⟨⟨_, rfl, by first | exact VLe.rf | exact vle_int (by dsimp only; omega)⟩, ?_⟩); exact trivial, by (repeat refine ⟨⟨_, rfl, by first | exact BLe.rf | exact BLe.box AllC.rf | exact BLe.arr (by exact rfl)⟩, ?_⟩); exact trivial, by repeat (first | exact trivial | refine ⟨⟨rfl, by first | (left; intro h; cases h) | (right; rfl), by first | exact (fun _ h => ⟨_, h⟩) | exact (fun _ _ => ⟨_, rfl⟩) | (intro _ h; cases h)⟩, ?_⟩), rfl⟩
  rintro ⟨s2, hinv⟩
  dsimp only
  have hf := hinv.1
  have hs2 : s2.i ≤ tk.length := hinv.2
  refine AW_seq ?_
  refine AW_draw rfl ?_
  refine AL_p (x_field (off := 3) (o' := 3) rfl rfl rfl (by kernel_rfl) rfl) ?_
  refine AL_p (x_load1 rfl rfl rfl (by kernel_rfl) rfl) ?_
  refine AL_p (x_move rfl rfl) ?_
  refine AL_p (x_call (ks := []) (L := [(200, some _)]) (L' := [(200, some _), (103, some _)]) rfl rfl rfl (sLit_c tk e s2 hm hs2 hok 103 rfl) rfl AllV.rf (caught_of rfl) rfl rfl rfl ⟨rfl, trivial⟩ rfl) ?_
  refine AL_p (y_bslice (E := 72) (e := litE) [.tmp 67] ([(litS tk e s2).1]) 104 rfl rfl rfl rfl rfl rfl rfl rfl FitL.rf rfl rfl rfl rfl rfl rfl (by kernel_rfl)) ?_
  refine AL_p (y_append 105 rfl rfl rfl rfl rfl rfl rfl rfl (by kernel_rfl) (by simp only [List.length_append, List.length_cons, List.length_nil]; omega)) ?_
  refine AL_p (x_field (off := 3) (o' := 3) rfl rfl rfl (by kernel_rfl) rfl) ?_
  refine AL_p (x_store (n := 1) rfl rfl rfl rfl (by kernel_rfl) rfl rfl rfl) ?_
  refine AL_nild (by kernel_rfl) ?_
  refine AW_seq ?_
  refine AW_seq ?_
  refine AW_region ?_
  refine AL_p (x_move rfl rfl) ?_
  refine AL_p (x_move rfl rfl) ?_
  refine AL_p (x_nilc rfl rfl rfl) ?_
  refine AL_p (x_field (off := 1) (o' := 1) rfl rfl rfl (by kernel_rfl) rfl) ?_
  refine AL_p (x_load1 rfl rfl rfl (by kernel_rfl) rfl) ?_
  refine AL_bc (x_call (ks := []) (L := [(200, some _)]) (L' := [(200, some _)]) rfl rfl rfl (sIsH_c tk e (litS tk e s2).2 hm (litS_le hs2) ⟨#[44]⟩) rfl AllV.rf (caught_of rfl) rfl rfl rfl ⟨rfl, trivial⟩ rfl) (fun b76 h76 => ?_)
  refine AL_p (x_not rfl rfl) ?_
  refine AL_nil ?_
  cases b76
  · try simp only [tdy] at h76
    have hno := ruleS_body' hp h41 (hinv1.symm.trans (bodyS_last h53 hf hl h76))
    have hi2 := litS_le (e := e) hs2
    refine AW_condT rfl ?_
    refine AW_exit (BQ_miss rfl (BQ_hit ?_))
    refine AW_seq ?_
    refine AW_region ?_
    refine AL_p (x_move rfl rfl) ?_
    refine AL_p (x_call (ks := []) (L := [(200, some _)]) (L' := [(200, some _)]) rfl rfl rfl (sTake_c tk e _ hm hi2 ⟨#[46]⟩) rfl AllV.rf (caught_of rfl) rfl rfl rfl ⟨rfl, trivial⟩ rfl) ?_
    refine AL_nil ?_
    refine AW_seq ?_
    refine AW_region ?_
    refine AL_p (x_loadN (n := 4) rfl rfl rfl (by kernel_rfl) rfl rfl) ?_
    refine AL_p (x_store (n := 4) rfl rfl rfl rfl (by kernel_rfl) rfl rfl rfl) ?_
    refine AL_nil ?_
    refine AW_ret ?_
    exact ⟨rn [(9, 100), (0, 101), (1, 105)], ⟨⟨⟨_, rfl, VLe.rf⟩, trivial⟩, ⟨⟨_, rfl, by first | exact BLe.rf | exact ble_eq (by rw [hno]; first | done | rfl)⟩, ⟨_, rfl, by first | exact BLe.rf | exact ble_eq (by rw [hno]; first | done | rfl)⟩, ⟨_, rfl, by first | exact BLe.rf | (refine BLe.arr ?_; rw [hno]; first | done | rfl)⟩, ⟨_, rfl, by first | exact BLe.rf | (refine BLe.arr ?_; rw [hno]; first | done | rfl)⟩, trivial⟩, by repeat (first | exact trivial | refine ⟨⟨rfl, by first | (left; intro h; cases h) | (right; rfl), by first | exact (fun _ h => ⟨_, h⟩) | exact (fun _ _ => ⟨_, rfl⟩) | (intro _ h; cases h)⟩, ?_⟩), rfl⟩⟩
  try simp only [tdy] at h76
  have hmo := bodyS_more h53 hf hl h76
  have hlt := hmo.2.1
  have hmo1 := hmo.1
  refine AW_condF rfl ?_
  refine AW_skip ?_
  refine AW_region ?_
  refine AL_p (x_move rfl rfl) ?_
  refine AL_p (x_nilc rfl rfl rfl) ?_
  refine AL_p (x_field (off := 1) (o' := 1) rfl rfl rfl (by kernel_rfl) rfl) ?_
  refine AL_p (x_load1 rfl rfl rfl (by kernel_rfl) rfl) ?_
  refine AL_p (x_add rfl rfl rfl (IntWalk.i64_in _ (by omega))) ?_
  refine AL_p (x_nilc rfl rfl rfl) ?_
  refine AL_p (x_field (off := 1) (o' := 1) rfl rfl rfl (by kernel_rfl) rfl) ?_
  refine AL_p (x_store (n := 1) rfl rfl rfl rfl (by kernel_rfl) rfl rfl rfl) ?_
  refine AL_nil ?_
  refine ⟨⟨⟨(litS tk e s2).2.next, a ++ [(litS tk e s2).1]⟩, ⟨⟨hlt, by simp only [List.length_append, List.length_cons, List.length_nil]; omega⟩, hmo.2.2.trans hinv1⟩⟩, rn [(102, 105)], ?_, by dsimp only; simp only [List.length_append, List.length_cons, List.length_nil]; omega⟩
  exact ⟨by (repeat refine ⟨⟨_, rfl, by first | exact VLe.rf | exact vle_int (by dsimp only; omega)⟩, ?_⟩); exact trivial, by (repeat refine ⟨⟨_, rfl, by first | exact BLe.rf | exact BLe.box AllC.rf | exact BLe.arr (by exact rfl)⟩, ?_⟩); exact trivial, by repeat (first | exact trivial | refine ⟨⟨rfl, by first | (left; intro h; cases h) | (right; rfl), by first | exact (fun _ h => ⟨_, h⟩) | exact (fun _ _ => ⟨_, rfl⟩) | (intro _ h; cases h)⟩, ?_⟩), rfl⟩

theorem sRule_c (tk : List Tokent) (e : Int) (st : PS) (hm : tk.length ≤ 1048576) (hi : st.i ≤ tk.length) (hok : ∀ t ∈ tk, tokOk t) (k j : Nat) (hk : Nat.beq k 200 = false) (hj : Nat.beq j 200 = false) (hkj : Nat.beq k j = false) (hjk : Nat.beq j k = false) : AC Try.prog 59 [.one (.ptr 200 0)] [(200, some (psB tk e st))] (.agg (ruleK (ruleS tk e st).1 k j)) [(200, some (psB tk e (ruleS tk e st).2)), (k, some (.arr 70 termE (ruleS tk e st).1.head.args true)), (j, some (.arr 72 litE (ruleS tk e st).1.body true))] := AC.ps2 (sRule_c0 tk e st hm hi hok) k j hk hj hkj hjk (fun r h h2 => ruleK_ren h h2) (fun _ => rfl) (fun _ => rfl)

set_option maxHeartbeats 4000000 in
theorem sDecl_c (tk : List Tokent) (e : Int) (st : PS) (hm : tk.length ≤ 1048576) (hi : st.i ≤ tk.length) (c : Int) : AC Try.prog 56 [.one (.ptr 200 0), .one (.c (.int .i64 (c)))] [(200, some (psB tk e st))] (.agg (declC (declS tk e c st).1)) [(200, some (psB tk e (declS tk e c st).2))] := by
  have h2 : (takeP tk e ⟨#[47]⟩ (wordP tk e st).2).i ≤ tk.length := slash_le (e := e) hi
  refine AC_bodyC (n := 3) (k := 9) (T := [(4, .one (.ptr 9 0))]) (Lf := ((9, some (.box (declC (declS tk e c st).1))) :: [(200, some (psB tk e (declS tk e c st).2))])) Try.func56 rfl rfl Try.ntmps56 rfl Try.results56 rfl rfl (by kernel_rfl) rfl rfl ⟨trivial, (by repeat (first | exact trivial | refine ⟨⟨_, rfl, BLe.rf⟩, ?_⟩)), (by repeat (first | exact trivial | refine ⟨⟨rfl, by first | (left; intro h; cases h) | (right; rfl), by first | exact (fun _ h => ⟨_, h⟩) | exact (fun _ _ => ⟨_, rfl⟩) | (intro _ h; cases h)⟩, ?_⟩)), rfl⟩ ?_
  refine AW_seq ?_
  refine AW_region ?_
  refine AL_p (x_alloc (z := .agg #[.int .i64 0, .string ⟨#[]⟩, .int .i64 0]) 100 rfl (by kernel_rfl) rfl rfl rfl rfl) ?_
  refine AL_nil ?_
  refine AW_seq ?_
  refine AW_region ?_
  refine AL_p (x_move rfl rfl) ?_
  refine AL_p (x_move rfl rfl) ?_
  refine AL_p (x_call (ks := []) (L := [(200, some _)]) (L' := [(200, some _)]) rfl rfl rfl (sWord_c tk e st hm hi) rfl AllV.rf (caught_of rfl) rfl rfl rfl ⟨rfl, trivial⟩ rfl) ?_
  refine AL_p (x_build (zs := [.int .i64 0, .string ⟨#[]⟩, .int .i64 0]) (places := [(0, 1), (1, 1), (2, 1)]) rfl (by kernel_rfl) rfl rfl rfl rfl rfl) ?_
  refine AL_p (x_alloc (z := .agg #[.int .i64 0, .string ⟨#[]⟩, .int .i64 0]) 101 rfl (by kernel_rfl) rfl rfl rfl rfl) ?_
  refine AL_p (x_store (n := 3) rfl rfl rfl rfl (by kernel_rfl) rfl rfl rfl) ?_
  refine AL_nil ?_
  refine AW_seq ?_
  refine AW_region ?_
  refine AL_p (x_move rfl rfl) ?_
  refine AL_p (x_call (ks := []) (L := [(200, some _)]) (L' := [(200, some _)]) rfl rfl rfl (sTake_c tk e (wordP tk e st).2 hm (word_le hi) ⟨#[47]⟩) rfl AllV.rf (caught_of rfl) rfl rfl rfl ⟨rfl, trivial⟩ rfl) ?_
  refine AL_nil ?_
  refine AW_seq ?_
  refine AW_seq ?_
  refine AW_draw rfl ?_
  refine AL_p (x_move rfl rfl) ?_
  refine AL_p (x_nilc rfl rfl rfl) ?_
  refine AL_p (x_field (off := 3) (o' := 3) rfl rfl rfl (by kernel_rfl) rfl) ?_
  refine AL_p (x_load1 rfl rfl rfl (by kernel_rfl) rfl) ?_
  refine AL_b (x_neq rfl rfl rfl) (fun b16 h16 => ?_)
  refine AL_p (x_move rfl rfl) ?_
  cases b16
  rotate_left
  · try simp only [tdy] at h16
    have h0k : (hereT tk e (takeP tk e ⟨#[47]⟩ (wordP tk e st).2)).kind = 0 := here_kind (fun q => by omega)
    have hno := declS_no (k := c) (tk := tk) (e := e) (st := st) (by show ¬ (hereT tk e (takeP tk e ⟨#[47]⟩ (wordP tk e st).2)).kind = 3; rw [h0k]; decide)
    refine AL_o rfl rfl rfl rfl ?_
    refine AL_o rfl rfl rfl rfl ?_
    refine AL_o rfl rfl rfl rfl ?_
    refine AL_o rfl rfl rfl rfl ?_
    refine AL_o rfl rfl rfl rfl ?_
    refine AL_o rfl rfl rfl rfl ?_
    refine AL_o rfl rfl rfl rfl ?_
    refine AL_o rfl rfl rfl rfl ?_
    refine AL_o rfl rfl rfl rfl ?_
    refine AL_o rfl rfl rfl rfl ?_
    refine AL_p (x_pickT rfl rfl rfl) ?_
    refine AL_p (x_move rfl rfl) ?_
    refine AL_o rfl rfl rfl rfl ?_
    refine AL_o rfl rfl rfl rfl ?_
    refine AL_o rfl rfl rfl rfl ?_
    refine AL_o rfl rfl rfl rfl ?_
    refine AL_o rfl rfl rfl rfl ?_
    refine AL_o rfl rfl rfl rfl ?_
    refine AL_o rfl rfl rfl rfl ?_
    refine AL_o rfl rfl rfl rfl ?_
    refine AL_o rfl rfl rfl rfl ?_
    refine AL_o rfl rfl rfl rfl ?_
    refine AL_o rfl rfl rfl rfl ?_
    refine AL_o rfl rfl rfl rfl ?_
    refine AL_p (x_pickT rfl rfl rfl) ?_
    refine AL_nild (by kernel_rfl) ?_
    refine AW_condT rfl ?_
    refine AW_seq ?_
    refine AW_region ?_
    refine AL_p (x_move rfl rfl) ?_
    refine AL_p (x_call (ks := []) (L := [(200, some _)]) (L' := [(200, some _)]) rfl rfl rfl (sFault_c tk e (takeP tk e ⟨#[47]⟩ (wordP tk e st).2) hm h2 6) rfl AllV.rf (caught_of rfl) rfl rfl rfl ⟨rfl, trivial⟩ rfl) ?_
    refine AL_nil ?_
    refine AW_seq ?_
    refine AW_region ?_
    refine AL_p (x_loadN (n := 3) rfl rfl rfl (by kernel_rfl) rfl rfl) ?_
    refine AL_p (x_store (n := 3) rfl rfl rfl rfl (by kernel_rfl) rfl rfl rfl) ?_
    refine AL_nil ?_
    refine AW_ret ?_
    exact ⟨rn [(9, 100)], ⟨⟨⟨_, rfl, VLe.rf⟩, trivial⟩, ⟨⟨_, rfl, by first | exact BLe.rf | exact ble_eq (by rw [hno]; first | done | rfl)⟩, ⟨_, rfl, by first | exact BLe.rf | exact ble_eq (by rw [hno]; first | done | rfl)⟩, trivial⟩, by repeat (first | exact trivial | refine ⟨⟨rfl, by first | (left; intro h; cases h) | (right; rfl), by first | exact (fun _ h => ⟨_, h⟩) | exact (fun _ _ => ⟨_, rfl⟩) | (intro _ h; cases h)⟩, ?_⟩), rfl⟩⟩
  try simp only [tdy] at h16
  refine AL_g rfl rfl (x_move rfl rfl) ?_
  refine AL_g rfl rfl (x_nilc rfl rfl rfl) ?_
  refine AL_g rfl rfl (x_field (off := 1) (o' := 1) rfl rfl rfl (by kernel_rfl) rfl) ?_
  refine AL_g rfl rfl (x_load1 rfl rfl rfl (by kernel_rfl) rfl) ?_
  refine AL_g rfl rfl (x_move rfl rfl) ?_
  refine AL_g rfl rfl (x_nilc rfl rfl rfl) ?_
  refine AL_g rfl rfl (x_field (off := 0) (o' := 0) rfl rfl rfl (by kernel_rfl) rfl) ?_
  refine AL_g rfl rfl (x_load1 rfl rfl rfl (by kernel_rfl) rfl) ?_
  refine AL_g rfl rfl (x_len (E := 83) (n := 4) rfl rfl (by kernel_rfl)) ?_
  refine AL_gb rfl rfl (x_geq rfl rfl rfl) (fun b27 h27 => ?_)
  refine AL_p (x_pickF rfl rfl rfl) ?_
  refine AL_p (x_move rfl rfl) ?_
  cases b27
  rotate_left
  · try simp only [tdy] at h27
    have h0k : (hereT tk e (takeP tk e ⟨#[47]⟩ (wordP tk e st).2)).kind = 0 := here_kind (fun q => by omega)
    have hno := declS_no (k := c) (tk := tk) (e := e) (st := st) (by show ¬ (hereT tk e (takeP tk e ⟨#[47]⟩ (wordP tk e st).2)).kind = 3; rw [h0k]; decide)
    refine AL_o rfl rfl rfl rfl ?_
    refine AL_o rfl rfl rfl rfl ?_
    refine AL_o rfl rfl rfl rfl ?_
    refine AL_o rfl rfl rfl rfl ?_
    refine AL_o rfl rfl rfl rfl ?_
    refine AL_o rfl rfl rfl rfl ?_
    refine AL_o rfl rfl rfl rfl ?_
    refine AL_o rfl rfl rfl rfl ?_
    refine AL_o rfl rfl rfl rfl ?_
    refine AL_o rfl rfl rfl rfl ?_
    refine AL_o rfl rfl rfl rfl ?_
    refine AL_o rfl rfl rfl rfl ?_
    refine AL_p (x_pickT rfl rfl rfl) ?_
    refine AL_nild (by kernel_rfl) ?_
    refine AW_condT rfl ?_
    refine AW_seq ?_
    refine AW_region ?_
    refine AL_p (x_move rfl rfl) ?_
    refine AL_p (x_call (ks := []) (L := [(200, some _)]) (L' := [(200, some _)]) rfl rfl rfl (sFault_c tk e (takeP tk e ⟨#[47]⟩ (wordP tk e st).2) hm h2 6) rfl AllV.rf (caught_of rfl) rfl rfl rfl ⟨rfl, trivial⟩ rfl) ?_
    refine AL_nil ?_
    refine AW_seq ?_
    refine AW_region ?_
    refine AL_p (x_loadN (n := 3) rfl rfl rfl (by kernel_rfl) rfl rfl) ?_
    refine AL_p (x_store (n := 3) rfl rfl rfl rfl (by kernel_rfl) rfl rfl rfl) ?_
    refine AL_nil ?_
    refine AW_ret ?_
    exact ⟨rn [(9, 100)], ⟨⟨⟨_, rfl, VLe.rf⟩, trivial⟩, ⟨⟨_, rfl, by first | exact BLe.rf | exact ble_eq (by rw [hno]; first | done | rfl)⟩, ⟨_, rfl, by first | exact BLe.rf | exact ble_eq (by rw [hno]; first | done | rfl)⟩, trivial⟩, by repeat (first | exact trivial | refine ⟨⟨rfl, by first | (left; intro h; cases h) | (right; rfl), by first | exact (fun _ h => ⟨_, h⟩) | exact (fun _ _ => ⟨_, rfl⟩) | (intro _ h; cases h)⟩, ?_⟩), rfl⟩⟩
  try simp only [tdy] at h27
  have hh : hereT tk e (takeP tk e ⟨#[47]⟩ (wordP tk e st).2) = (tk[(takeP tk e ⟨#[47]⟩ (wordP tk e st).2).i]'(by omega)) := here_ok (by omega) (by omega)
  refine AL_g rfl rfl (x_move rfl rfl) ?_
  refine AL_g rfl rfl (x_nilc rfl rfl rfl) ?_
  refine AL_g rfl rfl (x_field (off := 0) (o' := 0) rfl rfl rfl (by kernel_rfl) rfl) ?_
  refine AL_g rfl rfl (x_load1 rfl rfl rfl (by kernel_rfl) rfl) ?_
  refine AL_g rfl rfl (x_move rfl rfl) ?_
  refine AL_g rfl rfl (x_nilc rfl rfl rfl) ?_
  refine AL_g rfl rfl (x_field (off := 1) (o' := 1) rfl rfl rfl (by kernel_rfl) rfl) ?_
  refine AL_g rfl rfl (x_load1 rfl rfl rfl (by kernel_rfl) rfl) ?_
  refine AL_g rfl rfl (x_index (E := 83) (n := 4) rfl rfl rfl (by kernel_rfl) rfl (k := (takeP tk e ⟨#[47]⟩ (wordP tk e st).2).i) (by omega) (by omega)) ?_
  refine AL_g rfl rfl (x_efield (off := 0) (o' := 0) rfl rfl (by kernel_rfl) rfl) ?_
  refine AL_g rfl rfl (x_eload1 rfl rfl (by kernel_rfl) rfl) ?_
  refine AL_gb rfl rfl (x_neq rfl rfl rfl) (fun b41 h41 => ?_)
  refine AL_p (x_pickF rfl rfl rfl) ?_
  refine AL_nild (by kernel_rfl) ?_
  cases b41
  rotate_left
  · try simp only [tdy] at h41
    have hno := declS_no (k := c) (tk := tk) (e := e) (st := st) (by show ¬ (hereT tk e (takeP tk e ⟨#[47]⟩ (wordP tk e st).2)).kind = 3; rw [hh]; exact h41)
    refine AW_condT rfl ?_
    refine AW_seq ?_
    refine AW_region ?_
    refine AL_p (x_move rfl rfl) ?_
    refine AL_p (x_call (ks := []) (L := [(200, some _)]) (L' := [(200, some _)]) rfl rfl rfl (sFault_c tk e (takeP tk e ⟨#[47]⟩ (wordP tk e st).2) hm h2 6) rfl AllV.rf (caught_of rfl) rfl rfl rfl ⟨rfl, trivial⟩ rfl) ?_
    refine AL_nil ?_
    refine AW_seq ?_
    refine AW_region ?_
    refine AL_p (x_loadN (n := 3) rfl rfl rfl (by kernel_rfl) rfl rfl) ?_
    refine AL_p (x_store (n := 3) rfl rfl rfl rfl (by kernel_rfl) rfl rfl rfl) ?_
    refine AL_nil ?_
    refine AW_ret ?_
    exact ⟨rn [(9, 100)], ⟨⟨⟨_, rfl, VLe.rf⟩, trivial⟩, ⟨⟨_, rfl, by first | exact BLe.rf | exact ble_eq (by rw [hno]; first | done | rfl)⟩, ⟨_, rfl, by first | exact BLe.rf | exact ble_eq (by rw [hno]; first | done | rfl)⟩, trivial⟩, by repeat (first | exact trivial | refine ⟨⟨rfl, by first | (left; intro h; cases h) | (right; rfl), by first | exact (fun _ h => ⟨_, h⟩) | exact (fun _ _ => ⟨_, rfl⟩) | (intro _ h; cases h)⟩, ?_⟩), rfl⟩⟩
  try simp only [tdy] at h41
  have hk3 : (hereT tk e (takeP tk e ⟨#[47]⟩ (wordP tk e st).2)).kind = 3 := by rw [hh]; omega
  refine AW_condF rfl ?_
  refine AW_skip ?_
  refine AW_seq ?_
  refine AW_draw rfl ?_
  refine AL_p (x_move rfl rfl) ?_
  refine AL_p (x_nilc rfl rfl rfl) ?_
  refine AL_p (x_field (off := 0) (o' := 0) rfl rfl rfl (by kernel_rfl) rfl) ?_
  refine AL_p (x_load1 rfl rfl rfl (by kernel_rfl) rfl) ?_
  refine AL_p (x_move rfl rfl) ?_
  refine AL_p (x_nilc rfl rfl rfl) ?_
  refine AL_p (x_field (off := 1) (o' := 1) rfl rfl rfl (by kernel_rfl) rfl) ?_
  refine AL_p (x_load1 rfl rfl rfl (by kernel_rfl) rfl) ?_
  refine AL_p (x_index (E := 83) (n := 4) rfl rfl rfl (by kernel_rfl) rfl (k := (takeP tk e ⟨#[47]⟩ (wordP tk e st).2).i) (by omega) (by omega)) ?_
  refine AL_p (x_efield (off := 1) (o' := 1) rfl rfl (by kernel_rfl) rfl) ?_
  refine AL_p (x_eload1 rfl rfl (by kernel_rfl) rfl) ?_
  refine AL_p (x_field (off := 2) (o' := 2) rfl rfl rfl (by kernel_rfl) rfl) ?_
  refine AL_p (x_store (n := 1) rfl rfl rfl rfl (by kernel_rfl) rfl rfl rfl) ?_
  refine AL_nild (by kernel_rfl) ?_
  refine AW_seq ?_
  refine AW_seq ?_
  refine AW_region ?_
  refine AL_p (x_field (off := 2) (o' := 2) rfl rfl rfl (by kernel_rfl) rfl) ?_
  refine AL_p (x_load1 rfl rfl rfl (by kernel_rfl) rfl) ?_
  refine AL_b (x_gtr rfl rfl rfl) (fun b60 h60 => ?_)
  refine AL_nil ?_
  cases b60
  rotate_left
  · try simp only [tdy] at h60
    have hno := (declS_big (k := c) hk3 (by show 6 < (hereT tk e (takeP tk e ⟨#[47]⟩ (wordP tk e st).2)).n; rw [hh]; omega)).trans (congrArg (fun q => ((⟨c, (wordP tk e st).1, q⟩ : Declt), _)) (congrArg Tokent.n hh))
    refine AW_condT rfl ?_
    refine AW_seq ?_
    refine AW_region ?_
    refine AL_p (x_move rfl rfl) ?_
    refine AL_p (x_call (ks := []) (L := [(200, some _)]) (L' := [(200, some _)]) rfl rfl rfl (sFault_c tk e (takeP tk e ⟨#[47]⟩ (wordP tk e st).2) hm h2 7) rfl AllV.rf (caught_of rfl) rfl rfl rfl ⟨rfl, trivial⟩ rfl) ?_
    refine AL_nil ?_
    refine AW_seq ?_
    refine AW_region ?_
    refine AL_p (x_loadN (n := 3) rfl rfl rfl (by kernel_rfl) rfl rfl) ?_
    refine AL_p (x_store (n := 3) rfl rfl rfl rfl (by kernel_rfl) rfl rfl rfl) ?_
    refine AL_nil ?_
    refine AW_ret ?_
    exact ⟨rn [(9, 100)], ⟨⟨⟨_, rfl, VLe.rf⟩, trivial⟩, ⟨⟨_, rfl, by first | exact BLe.rf | exact ble_eq (by rw [hno]; first | done | rfl)⟩, ⟨_, rfl, by first | exact BLe.rf | exact ble_eq (by rw [hno]; first | done | rfl)⟩, trivial⟩, by repeat (first | exact trivial | refine ⟨⟨rfl, by first | (left; intro h; cases h) | (right; rfl), by first | exact (fun _ h => ⟨_, h⟩) | exact (fun _ _ => ⟨_, rfl⟩) | (intro _ h; cases h)⟩, ?_⟩), rfl⟩⟩
  try simp only [tdy] at h60
  have hlt := next_le (num_lt hk3)
  have hlt2 := num_lt hk3
  have hno := (declS_ok (k := c) hk3 (by show ¬ 6 < (hereT tk e (takeP tk e ⟨#[47]⟩ (wordP tk e st).2)).n; rw [hh]; omega)).trans (congrArg (fun q => ((⟨c, (wordP tk e st).1, q⟩ : Declt), _)) (congrArg Tokent.n hh))
  refine AW_condF rfl ?_
  refine AW_skip ?_
  refine AW_seq ?_
  refine AW_region ?_
  refine AL_p (x_move rfl rfl) ?_
  refine AL_p (x_nilc rfl rfl rfl) ?_
  refine AL_p (x_field (off := 1) (o' := 1) rfl rfl rfl (by kernel_rfl) rfl) ?_
  refine AL_p (x_load1 rfl rfl rfl (by kernel_rfl) rfl) ?_
  refine AL_p (x_add rfl rfl rfl (IntWalk.i64_in _ (by omega))) ?_
  refine AL_p (x_nilc rfl rfl rfl) ?_
  refine AL_p (x_field (off := 1) (o' := 1) rfl rfl rfl (by kernel_rfl) rfl) ?_
  refine AL_p (x_store (n := 1) rfl rfl rfl rfl (by kernel_rfl) rfl rfl rfl) ?_
  refine AL_nil ?_
  refine AW_seq ?_
  refine AW_region ?_
  refine AL_p (x_move rfl rfl) ?_
  refine AL_p (x_call (ks := []) (L := [(200, some _)]) (L' := [(200, some _)]) rfl rfl rfl (sTake_c tk e (takeP tk e ⟨#[47]⟩ (wordP tk e st).2).next hm hlt ⟨#[46]⟩) rfl AllV.rf (caught_of rfl) rfl rfl rfl ⟨rfl, trivial⟩ rfl) ?_
  refine AL_nil ?_
  refine AW_seq ?_
  refine AW_region ?_
  refine AL_p (x_loadN (n := 3) rfl rfl rfl (by kernel_rfl) rfl rfl) ?_
  refine AL_p (x_store (n := 3) rfl rfl rfl rfl (by kernel_rfl) rfl rfl rfl) ?_
  refine AL_nil ?_
  refine AW_ret ?_
  exact ⟨rn [(9, 100)], ⟨⟨⟨_, rfl, VLe.rf⟩, trivial⟩, ⟨⟨_, rfl, by first | exact BLe.rf | exact ble_eq (by rw [hno]; first | done | rfl)⟩, ⟨_, rfl, by first | exact BLe.rf | exact ble_eq (by rw [hno]; first | done | rfl)⟩, trivial⟩, by repeat (first | exact trivial | refine ⟨⟨rfl, by first | (left; intro h; cases h) | (right; rfl), by first | exact (fun _ h => ⟨_, h⟩) | exact (fun _ _ => ⟨_, rfl⟩) | (intro _ h; cases h)⟩, ?_⟩), rfl⟩⟩
end Go.Proofs.Ytkemjhlbokldhaa

/- A text is read by the reference (printed by walk.py) -/
namespace Go.Proofs.Ytkemjhlbokldhaa
open Go.RowKit
set_option linter.unusedVariables false
set_option linter.unusedSimpArgs false
set_option maxRecDepth 100000

set_option maxHeartbeats 4000000 in
theorem parseS_c (s : ByteArray) (hs0 : s.size ≤ 1048576) : AC Try.prog 21 [.one (.c (.string (s)))] [] (.tup [.agg [.sl declE (parseS s).1.decls, .sl ruleE (parseS s).1.rules], .one (.c (.int .i64 ((parseS s).2.1))), .one (.c (.int .i64 ((parseS s).2.2)))]) [] := by
  have hm : (lexAll s).1.length ≤ 1048576 := by have := lexAll_len' s; omega
  have hok := lexAll_ok s
  refine AC_bodyCTT (n := 2) (k := 9) (T := [(2, .one (.ptr 9 0)), (3, .one (.c (.int .i64 ((parseS s).2.1)))), (4, .one (.c (.int .i64 ((parseS s).2.2))))]) (Lf := ((9, some (.box [.sl declE (parseS s).1.decls, .sl ruleE (parseS s).1.rules])) :: [])) Try.func21 rfl rfl Try.ntmps21 rfl Try.results21 rfl rfl rfl rfl rfl rfl (by kernel_rfl) rfl rfl ⟨trivial, (by repeat (first | exact trivial | refine ⟨⟨_, rfl, BLe.rf⟩, ?_⟩)), (by repeat (first | exact trivial | refine ⟨⟨rfl, by first | (left; intro h; cases h) | (right; rfl), by first | exact (fun _ h => ⟨_, h⟩) | exact (fun _ _ => ⟨_, rfl⟩) | (intro _ h; cases h)⟩, ?_⟩)), rfl⟩ ?_
  refine AW_seq ?_
  refine AW_region ?_
  refine AL_p (x_alloc (z := .agg #[.slice none 0 0, .slice none 0 0]) 100 rfl (by kernel_rfl) rfl rfl rfl rfl) ?_
  refine AL_p (x_assign rfl rfl) ?_
  refine AL_p (x_assign rfl rfl) ?_
  refine AL_nil ?_
  refine AW_seq ?_
  refine AW_region ?_
  refine AL_p (x_move rfl rfl) ?_
  refine AL_p (x_call0 rfl rfl rfl (lexS_c s hs0) rfl rfl) ?_
  refine AL_p (x_move rfl rfl) ?_
  refine AL_p (x_extract rfl rfl rfl) ?_
  refine AL_p (x_extract rfl rfl rfl) ?_
  refine AL_p (x_extract rfl rfl rfl) ?_
  refine AL_p (x_assign rfl rfl) ?_
  refine AL_p (x_assign rfl rfl) ?_
  refine AL_p (x_assign rfl rfl) ?_
  refine AL_nil ?_
  refine AW_seq ?_
  refine AW_seq ?_
  refine AW_region ?_
  refine AL_p (x_move rfl rfl) ?_
  refine AL_b (x_neq rfl rfl rfl) (fun b20 h20 => ?_)
  refine AL_nil ?_
  cases b20
  rotate_left
  · try simp only [tdy] at h20
    have hno := parseS_lex h20
    refine AW_condT rfl ?_
    refine AW_seq ?_
    refine AW_region ?_
    refine AL_p (x_build (zs := [.slice none 0 0, .slice none 0 0]) (places := [(0, 1), (1, 1)]) rfl (by kernel_rfl) rfl rfl rfl rfl rfl) ?_
    refine AL_p (x_move rfl rfl) ?_
    refine AL_p (x_move rfl rfl) ?_
    refine AL_p (x_store (n := 2) rfl rfl rfl rfl (by kernel_rfl) rfl rfl rfl) ?_
    refine AL_p (x_assign rfl rfl) ?_
    refine AL_p (x_assign rfl rfl) ?_
    refine AL_nil ?_
    refine AW_adopt (T := 97) (e := declE) 101 100 0 rfl rfl rfl rfl rfl ?_
    refine AW_adopt (T := 36) (e := ruleE) 102 100 1 rfl rfl rfl rfl rfl ?_
    refine AW_shutB 101 100 0 rfl rfl rfl rfl ?_
    refine AW_shutB 102 100 1 rfl rfl rfl rfl ?_
    refine AW_ret ?_
    exact ⟨rn [(9, 100)], ⟨⟨⟨_, rfl, VLe.rf⟩, ⟨_, rfl, vle_int (by rw [hno])⟩, ⟨_, rfl, vle_int (by rw [hno])⟩, trivial⟩, ⟨⟨_, rfl, by first | exact BLe.rf | exact ble_eq (by rw [hno]; first | done | rfl)⟩, trivial⟩, trivial, rfl⟩⟩
  try simp only [tdy] at h20
  have hl0 : (lexAll s).2.1 = 0 := by omega
  refine AW_condF rfl ?_
  refine AW_skip ?_
  refine AW_seq ?_
  refine AW_region ?_
  refine AL_p (x_move rfl rfl) ?_
  refine AL_p (x_move rfl rfl) ?_
  refine AL_p (x_lens rfl rfl (by kernel_rfl)) ?_
  refine AL_p (x_build (zs := [.slice none 0 0, .int .i64 0, .int .i64 0, .int .i64 0, .int .i64 0]) (places := [(0, 1), (1, 1), (2, 1), (3, 1), (4, 1)]) rfl (by kernel_rfl) rfl rfl rfl rfl rfl) ?_
  refine AL_p (x_box 200 rfl rfl rfl rfl rfl rfl rfl) ?_
  refine AL_p (x_assign rfl rfl) ?_
  refine AL_nil ?_
  refine AW_seq ?_
  refine AW_region ?_
  refine AL_p (x_build (zs := [.slice none 0 0, .slice none 0 0]) (places := [(0, 1), (1, 1)]) rfl (by kernel_rfl) rfl rfl rfl rfl rfl) ?_
  refine AL_p (x_alloc (z := .agg #[.slice none 0 0, .slice none 0 0]) 103 rfl (by kernel_rfl) rfl rfl rfl rfl) ?_
  refine AL_p (x_store (n := 2) rfl rfl rfl rfl (by kernel_rfl) rfl rfl rfl) ?_
  refine AL_nil ?_
  refine AW_seq ?_
  refine AW_block ?_
  refine AW_adopt (T := 97) (e := declE) 104 103 0 rfl rfl rfl rfl rfl ?_
  refine AW_adopt (T := 36) (e := ruleE) 105 103 1 rfl rfl rfl rfl rfl ?_
  refine AW_loop2 (ι := {q : PS × List Declt × List Rulet // okU (tk := (lexAll s).1) (q.1) (q.2.1) (q.2.2) ∧ progU (lexAll s).1 (s.size : Int) (q.1) (q.2.1) (q.2.2) = progU (lexAll s).1 (s.size : Int) ⟨0, 0, 0⟩ [] []}) (fun p => []) (fun p => [(104, some (.arr 97 declE (p.1.2.1) true)), (105, some (.arr 36 ruleE (p.1.2.2) true)), (200, some (psB (lexAll s).1 (s.size : Int) (p.1.1)))]) [2, 5, 8, 9] [100, 103] (fun p => muP (p.1.1) (p.1.2.1) (p.1.2.2)) ⟨⟨(⟨0, 0, 0⟩ : PS), [], []⟩, ⟨okU_zero, rfl⟩⟩ (rn []) ?_ ?_
  exact ⟨by (repeat refine ⟨⟨_, rfl, by first | exact VLe.rf | exact vle_int (by dsimp only; omega)⟩, ?_⟩); exact trivial, by (repeat refine ⟨⟨_, rfl, by first | exact BLe.rf | exact BLe.box AllC.rf | exact BLe.arr (by exact rfl)⟩, ?_⟩); exact trivial, by repeat (first | exact trivial | refine ⟨⟨rfl, by first | (left; intro h; cases h) | (right; rfl), by first | exact (fun _ h => ⟨_, h⟩) | exact (fun _ _ => ⟨_, rfl⟩) | (intro _ h; cases h)⟩, ?_⟩), rfl⟩
  rintro ⟨⟨st1, ds, rs⟩, hinv⟩
  dsimp only
  have hinv2 : progU (lexAll s).1 (s.size : Int) st1 ds rs = progU (lexAll s).1 (s.size : Int) ⟨0, 0, 0⟩ [] [] := hinv.2
  have hokU : okU (tk := (lexAll s).1) st1 ds rs := hinv.1
  refine AW_seq ?_
  refine AW_seq ?_
  refine AW_region ?_
  refine AL_p (x_move rfl rfl) ?_
  refine AL_p (x_nilc rfl rfl rfl) ?_
  refine AL_p (x_field (off := 3) (o' := 3) rfl rfl rfl (by kernel_rfl) rfl) ?_
  refine AL_p (x_load1 rfl rfl rfl (by kernel_rfl) rfl) ?_
  refine AL_b (x_eql rfl rfl rfl) (fun b34 h34 => ?_)
  refine AL_p (x_move rfl rfl) ?_
  cases b34
  · try simp only [tdy] at h34
    have hx := hinv2.symm.trans (progU_end (fun q => by omega))
    refine AL_o rfl rfl rfl rfl ?_
    refine AL_o rfl rfl rfl rfl ?_
    refine AL_o rfl rfl rfl rfl ?_
    refine AL_o rfl rfl rfl rfl ?_
    refine AL_o rfl rfl rfl rfl ?_
    refine AL_o rfl rfl rfl rfl ?_
    refine AL_o rfl rfl rfl rfl ?_
    refine AL_p (x_pickF rfl rfl rfl) ?_
    refine AL_nil ?_
    refine AW_condF rfl ?_
    refine AW_exit (BQ_hit ?_)
    refine AW_seq ?_
    refine AW_seq ?_
    refine AW_region ?_
    refine AL_p (x_move rfl rfl) ?_
    refine AL_p (x_nilc rfl rfl rfl) ?_
    refine AL_p (x_field (off := 3) (o' := 3) rfl rfl rfl (by kernel_rfl) rfl) ?_
    refine AL_p (x_load1 rfl rfl rfl (by kernel_rfl) rfl) ?_
    refine AL_b (x_neq rfl rfl rfl) (fun b127 h127 => ?_)
    refine AL_nil ?_
    cases b127
    · try simp only [tdy] at h127
      have hno := (parseS_of hl0 hx).trans (endR_ok (by omega))
      refine AW_condF rfl ?_
      refine AW_skip ?_
      refine AW_seq ?_
      refine AW_region ?_
      refine AL_p (x_loadN (n := 2) rfl rfl rfl (by kernel_rfl) rfl rfl) ?_
      refine AL_p (x_store (n := 2) rfl rfl rfl rfl (by kernel_rfl) rfl rfl rfl) ?_
      refine AL_p (x_assign rfl rfl) ?_
      refine AL_p (x_assign rfl rfl) ?_
      refine AL_nil ?_
      refine AW_shutB 104 100 0 rfl rfl rfl rfl ?_
      refine AW_shutB 105 100 1 rfl rfl rfl rfl ?_
      refine AW_ret ?_
      exact ⟨rn [(9, 100)], ⟨⟨⟨_, rfl, VLe.rf⟩, ⟨_, rfl, vle_int (by rw [hno])⟩, ⟨_, rfl, vle_int (by rw [hno])⟩, trivial⟩, ⟨⟨_, rfl, by first | exact BLe.rf | exact ble_eq (by rw [hno]; first | done | rfl)⟩, trivial⟩, trivial, rfl⟩⟩
    try simp only [tdy] at h127
    have hno := (parseS_of hl0 hx).trans (endR_no (by omega))
    refine AW_condT rfl ?_
    refine AW_seq ?_
    refine AW_draw rfl ?_
    refine AL_p (x_build (zs := [.slice none 0 0, .slice none 0 0]) (places := [(0, 1), (1, 1)]) rfl (by kernel_rfl) rfl rfl rfl rfl rfl) ?_
    refine AL_p (x_move rfl rfl) ?_
    refine AL_p (x_nilc rfl rfl rfl) ?_
    refine AL_p (x_field (off := 3) (o' := 3) rfl rfl rfl (by kernel_rfl) rfl) ?_
    refine AL_p (x_load1 rfl rfl rfl (by kernel_rfl) rfl) ?_
    refine AL_p (x_move rfl rfl) ?_
    refine AL_p (x_nilc rfl rfl rfl) ?_
    refine AL_p (x_field (off := 4) (o' := 4) rfl rfl rfl (by kernel_rfl) rfl) ?_
    refine AL_p (x_load1 rfl rfl rfl (by kernel_rfl) rfl) ?_
    refine AL_p (x_store (n := 2) rfl rfl rfl rfl (by kernel_rfl) rfl rfl rfl) ?_
    refine AL_p (x_assign rfl rfl) ?_
    refine AL_p (x_assign rfl rfl) ?_
    refine AL_nild (by kernel_rfl) ?_
    refine AW_adopt (T := 97) (e := declE) 101 100 0 rfl rfl rfl rfl rfl ?_
    refine AW_adopt (T := 36) (e := ruleE) 102 100 1 rfl rfl rfl rfl rfl ?_
    refine AW_shutB 101 100 0 rfl rfl rfl rfl ?_
    refine AW_shutB 102 100 1 rfl rfl rfl rfl ?_
    refine AW_ret ?_
    exact ⟨rn [(9, 100)], ⟨⟨⟨_, rfl, VLe.rf⟩, ⟨_, rfl, vle_int (by rw [hno])⟩, ⟨_, rfl, vle_int (by rw [hno])⟩, trivial⟩, ⟨⟨_, rfl, by first | exact BLe.rf | exact ble_eq (by rw [hno]; first | done | rfl)⟩, trivial⟩, trivial, rfl⟩⟩
  try simp only [tdy] at h34
  have hq := hokU.2 h34
  have hi1 : st1.i ≤ (lexAll s).1.length := hq.1
  have hl : ds.length ≤ 16 ∧ rs.length ≤ 24 := hq.2
  have h43 : ds.length + rs.length < 43 := by omega
  refine AL_g rfl rfl (x_move rfl rfl) ?_
  refine AL_g rfl rfl (x_nilc rfl rfl rfl) ?_
  refine AL_g rfl rfl (x_field (off := 1) (o' := 1) rfl rfl rfl (by kernel_rfl) rfl) ?_
  refine AL_g rfl rfl (x_load1 rfl rfl rfl (by kernel_rfl) rfl) ?_
  refine AL_g rfl rfl (x_move rfl rfl) ?_
  refine AL_g rfl rfl (x_len (E := 83) (n := 4) rfl rfl (by kernel_rfl)) ?_
  refine AL_gb rfl rfl (x_lss rfl rfl rfl) (fun b42 h42 => ?_)
  refine AL_p (x_pickT rfl rfl rfl) ?_
  refine AL_nil ?_
  cases b42
  · try simp only [tdy] at h42
    have hx := hinv2.symm.trans (progU_end (fun q => by omega))
    refine AW_condF rfl ?_
    refine AW_exit (BQ_hit ?_)
    refine AW_seq ?_
    refine AW_seq ?_
    refine AW_region ?_
    refine AL_p (x_move rfl rfl) ?_
    refine AL_p (x_nilc rfl rfl rfl) ?_
    refine AL_p (x_field (off := 3) (o' := 3) rfl rfl rfl (by kernel_rfl) rfl) ?_
    refine AL_p (x_load1 rfl rfl rfl (by kernel_rfl) rfl) ?_
    refine AL_b (x_neq rfl rfl rfl) (fun b127 h127 => ?_)
    refine AL_nil ?_
    cases b127
    · try simp only [tdy] at h127
      have hno := (parseS_of hl0 hx).trans (endR_ok (by omega))
      refine AW_condF rfl ?_
      refine AW_skip ?_
      refine AW_seq ?_
      refine AW_region ?_
      refine AL_p (x_loadN (n := 2) rfl rfl rfl (by kernel_rfl) rfl rfl) ?_
      refine AL_p (x_store (n := 2) rfl rfl rfl rfl (by kernel_rfl) rfl rfl rfl) ?_
      refine AL_p (x_assign rfl rfl) ?_
      refine AL_p (x_assign rfl rfl) ?_
      refine AL_nil ?_
      refine AW_shutB 104 100 0 rfl rfl rfl rfl ?_
      refine AW_shutB 105 100 1 rfl rfl rfl rfl ?_
      refine AW_ret ?_
      exact ⟨rn [(9, 100)], ⟨⟨⟨_, rfl, VLe.rf⟩, ⟨_, rfl, vle_int (by rw [hno])⟩, ⟨_, rfl, vle_int (by rw [hno])⟩, trivial⟩, ⟨⟨_, rfl, by first | exact BLe.rf | exact ble_eq (by rw [hno]; first | done | rfl)⟩, trivial⟩, trivial, rfl⟩⟩
    try simp only [tdy] at h127
    have hno := (parseS_of hl0 hx).trans (endR_no (by omega))
    refine AW_condT rfl ?_
    refine AW_seq ?_
    refine AW_draw rfl ?_
    refine AL_p (x_build (zs := [.slice none 0 0, .slice none 0 0]) (places := [(0, 1), (1, 1)]) rfl (by kernel_rfl) rfl rfl rfl rfl rfl) ?_
    refine AL_p (x_move rfl rfl) ?_
    refine AL_p (x_nilc rfl rfl rfl) ?_
    refine AL_p (x_field (off := 3) (o' := 3) rfl rfl rfl (by kernel_rfl) rfl) ?_
    refine AL_p (x_load1 rfl rfl rfl (by kernel_rfl) rfl) ?_
    refine AL_p (x_move rfl rfl) ?_
    refine AL_p (x_nilc rfl rfl rfl) ?_
    refine AL_p (x_field (off := 4) (o' := 4) rfl rfl rfl (by kernel_rfl) rfl) ?_
    refine AL_p (x_load1 rfl rfl rfl (by kernel_rfl) rfl) ?_
    refine AL_p (x_store (n := 2) rfl rfl rfl rfl (by kernel_rfl) rfl rfl rfl) ?_
    refine AL_p (x_assign rfl rfl) ?_
    refine AL_p (x_assign rfl rfl) ?_
    refine AL_nild (by kernel_rfl) ?_
    refine AW_adopt (T := 97) (e := declE) 101 100 0 rfl rfl rfl rfl rfl ?_
    refine AW_adopt (T := 36) (e := ruleE) 102 100 1 rfl rfl rfl rfl rfl ?_
    refine AW_shutB 101 100 0 rfl rfl rfl rfl ?_
    refine AW_shutB 102 100 1 rfl rfl rfl rfl ?_
    refine AW_ret ?_
    exact ⟨rn [(9, 100)], ⟨⟨⟨_, rfl, VLe.rf⟩, ⟨_, rfl, vle_int (by rw [hno])⟩, ⟨_, rfl, vle_int (by rw [hno])⟩, trivial⟩, ⟨⟨_, rfl, by first | exact BLe.rf | exact ble_eq (by rw [hno]; first | done | rfl)⟩, trivial⟩, trivial, rfl⟩⟩
  try simp only [tdy] at h42
  have hlt : st1.i < (lexAll s).1.length := by omega
  have hh : (hereT (lexAll s).1 (s.size : Int) st1) = ((lexAll s).1[st1.i]'(by omega)) := here_ok h34 hlt
  refine AW_condT rfl ?_
  refine AW_skip ?_
  refine AW_block ?_
  refine AW_seq ?_
  refine AW_region ?_
  refine AL_p (x_move rfl rfl) ?_
  refine AL_p (x_move rfl rfl) ?_
  refine AL_p (x_nilc rfl rfl rfl) ?_
  refine AL_p (x_field (off := 1) (o' := 1) rfl rfl rfl (by kernel_rfl) rfl) ?_
  refine AL_p (x_load1 rfl rfl rfl (by kernel_rfl) rfl) ?_
  refine AL_p (x_index (E := 83) (n := 4) rfl rfl rfl (by kernel_rfl) rfl (k := st1.i) (by omega) (by omega)) ?_
  refine AL_p (x_eloadW (n := 4) rfl rfl (by kernel_rfl) rfl) ?_
  refine AL_p (x_call0 rfl rfl rfl (sKind_c _) rfl rfl) ?_
  refine AL_p (x_assign rfl rfl) ?_
  refine AL_nil ?_
  refine AW_seq ?_
  refine AW_seq ?_
  refine AW_region ?_
  refine AL_p (x_move rfl rfl) ?_
  refine AL_b (x_gtr rfl rfl rfl) (fun b53 h53 => ?_)
  refine AL_nil ?_
  cases b53
  rotate_left
  · try simp only [tdy] at h53
    have hk : 0 < (kindS (hereT (lexAll s).1 (s.size : Int) st1)) := by rw [hh]; omega
    refine AW_condT rfl ?_
    refine AW_mid (ι := {q : PS // fullD (lexAll s).1 (s.size : Int) ds st1 = q ∧ q.i < (lexAll s).1.length}) (fun p => []) (fun p => [(200, some (psB (lexAll s).1 (s.size : Int) (p.1)))]) [2, 5, 8, 9, 10] [100, 103, 104, 105] ?_ ?_
    · refine AW_seq ?_
      refine AW_region ?_
      refine AL_p (x_field (off := 0) (o' := 0) rfl rfl rfl (by kernel_rfl) rfl) ?_
      refine AL_p (x_load1 rfl rfl rfl (by kernel_rfl) rfl) ?_
      refine AL_p (x_olen (E := 97) (n := 3) rfl rfl rfl (by kernel_rfl)) ?_
      refine AL_b (x_eql rfl rfl rfl) (fun b57 h57 => ?_)
      refine AL_nil ?_
      cases b57
      · try simp only [tdy] at h57
        refine AW_condF rfl ?_
        refine AW_skip ?_
        refine ⟨⟨st1, ⟨fullD_off h57, hlt⟩⟩, rn [], ?_⟩
        exact ⟨by (repeat refine ⟨⟨_, rfl, by first | exact VLe.rf | exact vle_int (by dsimp only; omega)⟩, ?_⟩); exact trivial, by (repeat refine ⟨⟨_, rfl, by first | exact BLe.rf | exact BLe.box AllC.rf | exact BLe.arr (by exact rfl)⟩, ?_⟩); exact trivial, by repeat (first | exact trivial | refine ⟨⟨rfl, by first | (left; intro h; cases h) | (right; rfl), by first | exact (fun _ h => ⟨_, h⟩) | exact (fun _ _ => ⟨_, rfl⟩) | (intro _ h; cases h)⟩, ?_⟩), rfl⟩
      try simp only [tdy] at h57
      refine AW_condT rfl ?_
      refine AW_region ?_
      refine AL_p (x_move rfl rfl) ?_
      refine AL_p (x_call (ks := []) (L := [(200, some _)]) (L' := [(200, some _)]) rfl rfl rfl (sFault_c (lexAll s).1 (s.size : Int) st1 hm hi1 7) rfl AllV.rf (caught_of rfl) rfl rfl rfl ⟨rfl, trivial⟩ rfl) ?_
      refine AL_nil ?_
      refine ⟨⟨faultP (lexAll s).1 (s.size : Int) 7 st1, ⟨fullD_on h57, by rw [fault_i]; exact hlt⟩⟩, rn [], ?_⟩
      exact ⟨by (repeat refine ⟨⟨_, rfl, by first | exact VLe.rf | exact vle_int (by dsimp only; omega)⟩, ?_⟩); exact trivial, by (repeat refine ⟨⟨_, rfl, by first | exact BLe.rf | exact BLe.box AllC.rf | exact BLe.arr (by exact rfl)⟩, ?_⟩); exact trivial, by repeat (first | exact trivial | refine ⟨⟨rfl, by first | (left; intro h; cases h) | (right; rfl), by first | exact (fun _ h => ⟨_, h⟩) | exact (fun _ _ => ⟨_, rfl⟩) | (intro _ h; cases h)⟩, ?_⟩), rfl⟩
    rintro ⟨s2, hinv1⟩
    dsimp only
    have hf := hinv1.1
    have hs2 : s2.i < (lexAll s).1.length := hinv1.2
    have hd := progU_decl h34 hlt hl hk hf
    rw [hh] at hd
    refine AW_seq ?_
    refine AW_region ?_
    refine AL_p (x_move rfl rfl) ?_
    refine AL_p (x_nilc rfl rfl rfl) ?_
    refine AL_p (x_field (off := 1) (o' := 1) rfl rfl rfl (by kernel_rfl) rfl) ?_
    refine AL_p (x_load1 rfl rfl rfl (by kernel_rfl) rfl) ?_
    refine AL_p (x_add rfl rfl rfl (IntWalk.i64_in _ (by omega))) ?_
    refine AL_p (x_nilc rfl rfl rfl) ?_
    refine AL_p (x_field (off := 1) (o' := 1) rfl rfl rfl (by kernel_rfl) rfl) ?_
    refine AL_p (x_store (n := 1) rfl rfl rfl rfl (by kernel_rfl) rfl rfl rfl) ?_
    refine AL_nil ?_
    refine AW_seq ?_
    refine AW_draw rfl ?_
    refine AL_p (x_field (off := 0) (o' := 0) rfl rfl rfl (by kernel_rfl) rfl) ?_
    refine AL_p (x_load1 rfl rfl rfl (by kernel_rfl) rfl) ?_
    refine AL_p (x_move rfl rfl) ?_
    refine AL_p (x_move rfl rfl) ?_
    refine AL_p (x_call (ks := []) (L := [(200, some _)]) (L' := [(200, some _)]) rfl rfl rfl (sDecl_c (lexAll s).1 (s.size : Int) s2.next hm (next_le hs2) (kindS ((lexAll s).1[st1.i]'(by omega)))) rfl AllV.rf (caught_of rfl) rfl rfl rfl ⟨rfl, trivial⟩ rfl) ?_
    refine AL_p (y_bslice (E := 97) (e := declE) [.tmp 71] ([(declS (lexAll s).1 (s.size : Int) (kindS ((lexAll s).1[st1.i]'(by omega))) s2.next).1]) 106 rfl rfl rfl rfl rfl rfl rfl rfl FitL.rf rfl rfl rfl rfl rfl rfl (by kernel_rfl)) ?_
    refine AL_p (y_append 107 rfl rfl rfl rfl rfl rfl rfl rfl (by kernel_rfl) (by simp only [List.length_append, List.length_cons, List.length_nil]; omega)) ?_
    refine AL_p (x_field (off := 0) (o' := 0) rfl rfl rfl (by kernel_rfl) rfl) ?_
    refine AL_p (x_store (n := 1) rfl rfl rfl rfl (by kernel_rfl) rfl rfl rfl) ?_
    refine AL_nild (by kernel_rfl) ?_
    refine AW_exit (BQ_hit ?_)
    refine ⟨⟨⟨(declS (lexAll s).1 (s.size : Int) (kindS ((lexAll s).1[st1.i]'(by omega))) s2.next).2, ds ++ [(declS (lexAll s).1 (s.size : Int) (kindS ((lexAll s).1[st1.i]'(by omega))) s2.next).1], rs⟩, ⟨okU_decl hl hd.2, hd.1.trans hinv2⟩⟩, rn [(104, 107)], ?_, muP_decl h34 h43⟩
    exact ⟨by (repeat refine ⟨⟨_, rfl, by first | exact VLe.rf | exact vle_int (by dsimp only; omega)⟩, ?_⟩); exact trivial, by (repeat refine ⟨⟨_, rfl, by first | exact BLe.rf | exact BLe.box AllC.rf | exact BLe.arr (by exact rfl)⟩, ?_⟩); exact trivial, by repeat (first | exact trivial | refine ⟨⟨rfl, by first | (left; intro h; cases h) | (right; rfl), by first | exact (fun _ h => ⟨_, h⟩) | exact (fun _ _ => ⟨_, rfl⟩) | (intro _ h; cases h)⟩, ?_⟩), rfl⟩
  try simp only [tdy] at h53
  have hk : ¬ 0 < (kindS (hereT (lexAll s).1 (s.size : Int) st1)) := by rw [hh]; omega
  refine AW_condF rfl ?_
  refine AW_skip ?_
  refine AW_seq ?_
  refine AW_region ?_
  refine AL_p (x_move rfl rfl) ?_
  refine AL_p (x_move rfl rfl) ?_
  refine AL_p (x_nilc rfl rfl rfl) ?_
  refine AL_p (x_field (off := 1) (o' := 1) rfl rfl rfl (by kernel_rfl) rfl) ?_
  refine AL_p (x_load1 rfl rfl rfl (by kernel_rfl) rfl) ?_
  refine AL_p (x_index (E := 83) (n := 4) rfl rfl rfl (by kernel_rfl) rfl (k := st1.i) (by omega) (by omega)) ?_
  refine AL_p (x_eloadW (n := 4) rfl rfl (by kernel_rfl) rfl) ?_
  refine AL_p (x_alloc (z := .agg #[.int .i64 0, .int .i64 0, .string ⟨#[]⟩, .int .i64 0]) 108 rfl (by kernel_rfl) rfl rfl rfl rfl) ?_
  refine AL_p (x_store (n := 4) rfl rfl rfl rfl (by kernel_rfl) rfl rfl rfl) ?_
  refine AL_nil ?_
  refine AW_seq ?_
  refine AW_region ?_
  refine AL_p (x_field (off := 0) (o' := 0) rfl rfl rfl (by kernel_rfl) rfl) ?_
  refine AL_p (x_load1 rfl rfl rfl (by kernel_rfl) rfl) ?_
  refine AL_b (x_eql rfl rfl rfl) (fun b84 h84 => ?_)
  refine AL_p (x_move rfl rfl) ?_
  cases b84
  · try simp only [tdy] at h84
    have hnm : nameT (hereT (lexAll s).1 (s.size : Int) st1) = false := by rw [hh]; simp [nameT, h84]
    refine AL_o rfl rfl rfl rfl ?_
    refine AL_o rfl rfl rfl rfl ?_
    refine AL_o rfl rfl rfl rfl ?_
    refine AL_o rfl rfl rfl rfl ?_
    refine AL_p (x_pickF rfl rfl rfl) ?_
    refine AL_p (x_move rfl rfl) ?_
    refine AL_g rfl rfl (x_move rfl rfl) ?_
    refine AL_g rfl rfl (x_move rfl rfl) ?_
    refine AL_g rfl rfl (x_nilc rfl rfl rfl) ?_
    refine AL_g rfl rfl (x_field (off := 1) (o' := 1) rfl rfl rfl (by kernel_rfl) rfl) ?_
    refine AL_g rfl rfl (x_load1 rfl rfl rfl (by kernel_rfl) rfl) ?_
    refine AL_gbc rfl rfl (x_call (ks := []) (L := [(200, some _)]) (L' := [(200, some _)]) rfl rfl rfl (sIsH_c (lexAll s).1 (s.size : Int) st1 hm hi1 ⟨#[43]⟩) rfl AllV.rf (caught_of rfl) rfl rfl rfl ⟨rfl, trivial⟩ rfl) (fun b97 h97 => ?_)
    refine AL_p (x_pickF rfl rfl rfl) ?_
    refine AL_p (x_move rfl rfl) ?_
    cases b97
    rotate_left
    · try simp only [tdy] at h97
      have hst : startsT (hereT (lexAll s).1 (s.size : Int) st1) = true := by simp [startsT, h97]
      refine AL_o rfl rfl rfl rfl ?_
      refine AL_o rfl rfl rfl rfl ?_
      refine AL_o rfl rfl rfl rfl ?_
      refine AL_o rfl rfl rfl rfl ?_
      refine AL_o rfl rfl rfl rfl ?_
      refine AL_o rfl rfl rfl rfl ?_
      refine AL_p (x_pickT rfl rfl rfl) ?_
      refine AL_p (x_assign rfl rfl) ?_
      refine AL_nil ?_
      refine AW_mid (ι := {q : PS // fullR (lexAll s).1 (s.size : Int) rs st1 = q ∧ q.i ≤ (lexAll s).1.length}) (fun p => []) (fun p => [(200, some (psB (lexAll s).1 (s.size : Int) (p.1)))]) [2, 5, 8, 9] [100, 103, 104, 105, 108] ?_ ?_
      · refine AW_seq ?_
        refine AW_region ?_
        refine AL_p (x_move rfl rfl) ?_
        refine AL_p (x_move rfl rfl) ?_
        refine AL_g rfl rfl (x_field (off := 1) (o' := 1) rfl rfl rfl (by kernel_rfl) rfl) ?_
        refine AL_g rfl rfl (x_load1 rfl rfl rfl (by kernel_rfl) rfl) ?_
        refine AL_g rfl rfl (x_olen (E := 36) (n := 4) rfl rfl rfl (by kernel_rfl)) ?_
        refine AL_gb rfl rfl (x_eql rfl rfl rfl) (fun b112 h112 => ?_)
        refine AL_p (x_pickT rfl rfl rfl) ?_
        refine AL_nil ?_
        cases b112
        · try simp only [tdy] at h112
          refine AW_condF rfl ?_
          refine AW_skip ?_
          refine ⟨⟨st1, ⟨fullR_off (fun q => h112 q.2), hi1⟩⟩, rn [], ?_⟩
          exact ⟨by (repeat refine ⟨⟨_, rfl, by first | exact VLe.rf | exact vle_int (by dsimp only; omega)⟩, ?_⟩); exact trivial, by (repeat refine ⟨⟨_, rfl, by first | exact BLe.rf | exact BLe.box AllC.rf | exact BLe.arr (by exact rfl)⟩, ?_⟩); exact trivial, by repeat (first | exact trivial | refine ⟨⟨rfl, by first | (left; intro h; cases h) | (right; rfl), by first | exact (fun _ h => ⟨_, h⟩) | exact (fun _ _ => ⟨_, rfl⟩) | (intro _ h; cases h)⟩, ?_⟩), rfl⟩
        try simp only [tdy] at h112
        refine AW_condT rfl ?_
        refine AW_region ?_
        refine AL_p (x_move rfl rfl) ?_
        refine AL_p (x_call (ks := []) (L := [(200, some _)]) (L' := [(200, some _)]) rfl rfl rfl (sFault_c (lexAll s).1 (s.size : Int) st1 hm hi1 7) rfl AllV.rf (caught_of rfl) rfl rfl rfl ⟨rfl, trivial⟩ rfl) ?_
        refine AL_nil ?_
        refine ⟨⟨faultP (lexAll s).1 (s.size : Int) 7 st1, ⟨fullR_on hst h112, fault_le hi1⟩⟩, rn [], ?_⟩
        exact ⟨by (repeat refine ⟨⟨_, rfl, by first | exact VLe.rf | exact vle_int (by dsimp only; omega)⟩, ?_⟩); exact trivial, by (repeat refine ⟨⟨_, rfl, by first | exact BLe.rf | exact BLe.box AllC.rf | exact BLe.arr (by exact rfl)⟩, ?_⟩); exact trivial, by repeat (first | exact trivial | refine ⟨⟨rfl, by first | (left; intro h; cases h) | (right; rfl), by first | exact (fun _ h => ⟨_, h⟩) | exact (fun _ _ => ⟨_, rfl⟩) | (intro _ h; cases h)⟩, ?_⟩), rfl⟩
      rintro ⟨s2, hinv1⟩
      dsimp only
      have hf := hinv1.1
      have hs2 : s2.i ≤ (lexAll s).1.length := hinv1.2
      have hd := progU_rule h34 hlt hl hk hf
      refine AW_draw rfl ?_
      refine AL_p (x_field (off := 1) (o' := 1) rfl rfl rfl (by kernel_rfl) rfl) ?_
      refine AL_p (x_load1 rfl rfl rfl (by kernel_rfl) rfl) ?_
      refine AL_p (x_move rfl rfl) ?_
      refine AL_p (x_call (ks := []) (L := [(200, some _)]) (L' := [(200, some _), (109, some _), (110, some _)]) rfl rfl rfl (sRule_c (lexAll s).1 (s.size : Int) s2 hm hs2 hok 109 110 rfl rfl rfl rfl) rfl AllV.rf (caught_of rfl) rfl rfl rfl ⟨rfl, trivial⟩ rfl) ?_
      refine AL_p (y_bslice (E := 36) (e := ruleE) [.tmp 119] ([(ruleS (lexAll s).1 (s.size : Int) s2).1]) 111 rfl rfl rfl rfl rfl rfl rfl rfl FitL.rf rfl rfl rfl rfl rfl rfl (by kernel_rfl)) ?_
      refine AL_p (y_append 112 rfl rfl rfl rfl rfl rfl rfl rfl (by kernel_rfl) (by simp only [List.length_append, List.length_cons, List.length_nil]; omega)) ?_
      refine AL_p (x_field (off := 1) (o' := 1) rfl rfl rfl (by kernel_rfl) rfl) ?_
      refine AL_p (x_store (n := 1) rfl rfl rfl rfl (by kernel_rfl) rfl rfl rfl) ?_
      refine AL_nild (by kernel_rfl) ?_
      refine ⟨⟨⟨(ruleS (lexAll s).1 (s.size : Int) s2).2, ds, rs ++ [(ruleS (lexAll s).1 (s.size : Int) s2).1]⟩, ⟨okU_rule hl hd.2, hd.1.trans hinv2⟩⟩, rn [(105, 112)], ?_, muP_rule h34 h43⟩
      exact ⟨by (repeat refine ⟨⟨_, rfl, by first | exact VLe.rf | exact vle_int (by dsimp only; omega)⟩, ?_⟩); exact trivial, by (repeat refine ⟨⟨_, rfl, by first | exact BLe.rf | exact BLe.box AllC.rf | exact BLe.arr (by exact rfl)⟩, ?_⟩); exact trivial, by repeat (first | exact trivial | refine ⟨⟨rfl, by first | (left; intro h; cases h) | (right; rfl), by first | exact (fun _ h => ⟨_, h⟩) | exact (fun _ _ => ⟨_, rfl⟩) | (intro _ h; cases h)⟩, ?_⟩), rfl⟩
    try simp only [tdy] at h97
    refine AL_g rfl rfl (x_move rfl rfl) ?_
    refine AL_g rfl rfl (x_move rfl rfl) ?_
    refine AL_g rfl rfl (x_nilc rfl rfl rfl) ?_
    refine AL_g rfl rfl (x_field (off := 1) (o' := 1) rfl rfl rfl (by kernel_rfl) rfl) ?_
    refine AL_g rfl rfl (x_load1 rfl rfl rfl (by kernel_rfl) rfl) ?_
    refine AL_gbc rfl rfl (x_call (ks := []) (L := [(200, some _)]) (L' := [(200, some _)]) rfl rfl rfl (sIsH_c (lexAll s).1 (s.size : Int) st1 hm hi1 ⟨#[45]⟩) rfl AllV.rf (caught_of rfl) rfl rfl rfl ⟨rfl, trivial⟩ rfl) (fun b105 h105 => ?_)
    refine AL_p (x_pickF rfl rfl rfl) ?_
    refine AL_p (x_assign rfl rfl) ?_
    refine AL_nil ?_
    refine AW_mid (ι := {q : PS // fullR (lexAll s).1 (s.size : Int) rs st1 = q ∧ q.i ≤ (lexAll s).1.length}) (fun p => []) (fun p => [(200, some (psB (lexAll s).1 (s.size : Int) (p.1)))]) [2, 5, 8, 9] [100, 103, 104, 105, 108] ?_ ?_
    · refine AW_seq ?_
      refine AW_region ?_
      refine AL_p (x_move rfl rfl) ?_
      refine AL_p (x_move rfl rfl) ?_
      cases b105
      · try simp only [tdy] at h105
        have hst : startsT (hereT (lexAll s).1 (s.size : Int) st1) = false := by simp [startsT, hnm, h97, h105]
        refine AL_o rfl rfl rfl rfl ?_
        refine AL_o rfl rfl rfl rfl ?_
        refine AL_o rfl rfl rfl rfl ?_
        refine AL_o rfl rfl rfl rfl ?_
        refine AL_p (x_pickF rfl rfl rfl) ?_
        refine AL_nil ?_
        refine AW_condF rfl ?_
        refine AW_skip ?_
        refine ⟨⟨st1, ⟨fullR_off (fun q => absurd q.1 (by rw [hst]; decide)), hi1⟩⟩, rn [], ?_⟩
        exact ⟨by (repeat refine ⟨⟨_, rfl, by first | exact VLe.rf | exact vle_int (by dsimp only; omega)⟩, ?_⟩); exact trivial, by (repeat refine ⟨⟨_, rfl, by first | exact BLe.rf | exact BLe.box AllC.rf | exact BLe.arr (by exact rfl)⟩, ?_⟩); exact trivial, by repeat (first | exact trivial | refine ⟨⟨rfl, by first | (left; intro h; cases h) | (right; rfl), by first | exact (fun _ h => ⟨_, h⟩) | exact (fun _ _ => ⟨_, rfl⟩) | (intro _ h; cases h)⟩, ?_⟩), rfl⟩
      try simp only [tdy] at h105
      have hst : startsT (hereT (lexAll s).1 (s.size : Int) st1) = true := by simp [startsT, h105]
      refine AL_g rfl rfl (x_field (off := 1) (o' := 1) rfl rfl rfl (by kernel_rfl) rfl) ?_
      refine AL_g rfl rfl (x_load1 rfl rfl rfl (by kernel_rfl) rfl) ?_
      refine AL_g rfl rfl (x_olen (E := 36) (n := 4) rfl rfl rfl (by kernel_rfl)) ?_
      refine AL_gb rfl rfl (x_eql rfl rfl rfl) (fun b112 h112 => ?_)
      refine AL_p (x_pickT rfl rfl rfl) ?_
      refine AL_nil ?_
      cases b112
      · try simp only [tdy] at h112
        refine AW_condF rfl ?_
        refine AW_skip ?_
        refine ⟨⟨st1, ⟨fullR_off (fun q => h112 q.2), hi1⟩⟩, rn [], ?_⟩
        exact ⟨by (repeat refine ⟨⟨_, rfl, by first | exact VLe.rf | exact vle_int (by dsimp only; omega)⟩, ?_⟩); exact trivial, by (repeat refine ⟨⟨_, rfl, by first | exact BLe.rf | exact BLe.box AllC.rf | exact BLe.arr (by exact rfl)⟩, ?_⟩); exact trivial, by repeat (first | exact trivial | refine ⟨⟨rfl, by first | (left; intro h; cases h) | (right; rfl), by first | exact (fun _ h => ⟨_, h⟩) | exact (fun _ _ => ⟨_, rfl⟩) | (intro _ h; cases h)⟩, ?_⟩), rfl⟩
      try simp only [tdy] at h112
      refine AW_condT rfl ?_
      refine AW_region ?_
      refine AL_p (x_move rfl rfl) ?_
      refine AL_p (x_call (ks := []) (L := [(200, some _)]) (L' := [(200, some _)]) rfl rfl rfl (sFault_c (lexAll s).1 (s.size : Int) st1 hm hi1 7) rfl AllV.rf (caught_of rfl) rfl rfl rfl ⟨rfl, trivial⟩ rfl) ?_
      refine AL_nil ?_
      refine ⟨⟨faultP (lexAll s).1 (s.size : Int) 7 st1, ⟨fullR_on hst h112, fault_le hi1⟩⟩, rn [], ?_⟩
      exact ⟨by (repeat refine ⟨⟨_, rfl, by first | exact VLe.rf | exact vle_int (by dsimp only; omega)⟩, ?_⟩); exact trivial, by (repeat refine ⟨⟨_, rfl, by first | exact BLe.rf | exact BLe.box AllC.rf | exact BLe.arr (by exact rfl)⟩, ?_⟩); exact trivial, by repeat (first | exact trivial | refine ⟨⟨rfl, by first | (left; intro h; cases h) | (right; rfl), by first | exact (fun _ h => ⟨_, h⟩) | exact (fun _ _ => ⟨_, rfl⟩) | (intro _ h; cases h)⟩, ?_⟩), rfl⟩
    rintro ⟨s2, hinv1⟩
    dsimp only
    have hf := hinv1.1
    have hs2 : s2.i ≤ (lexAll s).1.length := hinv1.2
    have hd := progU_rule h34 hlt hl hk hf
    refine AW_draw rfl ?_
    refine AL_p (x_field (off := 1) (o' := 1) rfl rfl rfl (by kernel_rfl) rfl) ?_
    refine AL_p (x_load1 rfl rfl rfl (by kernel_rfl) rfl) ?_
    refine AL_p (x_move rfl rfl) ?_
    refine AL_p (x_call (ks := []) (L := [(200, some _)]) (L' := [(200, some _), (109, some _), (110, some _)]) rfl rfl rfl (sRule_c (lexAll s).1 (s.size : Int) s2 hm hs2 hok 109 110 rfl rfl rfl rfl) rfl AllV.rf (caught_of rfl) rfl rfl rfl ⟨rfl, trivial⟩ rfl) ?_
    refine AL_p (y_bslice (E := 36) (e := ruleE) [.tmp 119] ([(ruleS (lexAll s).1 (s.size : Int) s2).1]) 111 rfl rfl rfl rfl rfl rfl rfl rfl FitL.rf rfl rfl rfl rfl rfl rfl (by kernel_rfl)) ?_
    refine AL_p (y_append 112 rfl rfl rfl rfl rfl rfl rfl rfl (by kernel_rfl) (by simp only [List.length_append, List.length_cons, List.length_nil]; omega)) ?_
    refine AL_p (x_field (off := 1) (o' := 1) rfl rfl rfl (by kernel_rfl) rfl) ?_
    refine AL_p (x_store (n := 1) rfl rfl rfl rfl (by kernel_rfl) rfl rfl rfl) ?_
    refine AL_nild (by kernel_rfl) ?_
    refine ⟨⟨⟨(ruleS (lexAll s).1 (s.size : Int) s2).2, ds, rs ++ [(ruleS (lexAll s).1 (s.size : Int) s2).1]⟩, ⟨okU_rule hl hd.2, hd.1.trans hinv2⟩⟩, rn [(105, 112)], ?_, muP_rule h34 h43⟩
    exact ⟨by (repeat refine ⟨⟨_, rfl, by first | exact VLe.rf | exact vle_int (by dsimp only; omega)⟩, ?_⟩); exact trivial, by (repeat refine ⟨⟨_, rfl, by first | exact BLe.rf | exact BLe.box AllC.rf | exact BLe.arr (by exact rfl)⟩, ?_⟩); exact trivial, by repeat (first | exact trivial | refine ⟨⟨rfl, by first | (left; intro h; cases h) | (right; rfl), by first | exact (fun _ h => ⟨_, h⟩) | exact (fun _ _ => ⟨_, rfl⟩) | (intro _ h; cases h)⟩, ?_⟩), rfl⟩
  try simp only [tdy] at h84
  refine AL_g rfl rfl (x_field (off := 2) (o' := 2) rfl rfl rfl (by kernel_rfl) rfl) ?_
  refine AL_g rfl rfl (x_load1 rfl rfl rfl (by kernel_rfl) rfl) ?_
  refine AL_gb rfl rfl (x_call0 rfl rfl rfl (keptS_c _) rfl rfl) (fun b88 h88 => ?_)
  refine AL_g rfl rfl (x_not rfl rfl) ?_
  refine AL_p (x_pickT rfl rfl rfl) ?_
  refine AL_p (x_move rfl rfl) ?_
  cases b88
  · try simp only [tdy] at h88
    have hnm : nameT (hereT (lexAll s).1 (s.size : Int) st1) = true := by rw [hh]; simp [nameT, h84, h88]
    have hst : startsT (hereT (lexAll s).1 (s.size : Int) st1) = true := by simp [startsT, hnm]
    refine AL_o rfl rfl rfl rfl ?_
    refine AL_o rfl rfl rfl rfl ?_
    refine AL_o rfl rfl rfl rfl ?_
    refine AL_o rfl rfl rfl rfl ?_
    refine AL_o rfl rfl rfl rfl ?_
    refine AL_o rfl rfl rfl rfl ?_
    refine AL_p (x_pickT rfl rfl rfl) ?_
    refine AL_p (x_move rfl rfl) ?_
    refine AL_o rfl rfl rfl rfl ?_
    refine AL_o rfl rfl rfl rfl ?_
    refine AL_o rfl rfl rfl rfl ?_
    refine AL_o rfl rfl rfl rfl ?_
    refine AL_o rfl rfl rfl rfl ?_
    refine AL_o rfl rfl rfl rfl ?_
    refine AL_p (x_pickT rfl rfl rfl) ?_
    refine AL_p (x_assign rfl rfl) ?_
    refine AL_nil ?_
    refine AW_mid (ι := {q : PS // fullR (lexAll s).1 (s.size : Int) rs st1 = q ∧ q.i ≤ (lexAll s).1.length}) (fun p => []) (fun p => [(200, some (psB (lexAll s).1 (s.size : Int) (p.1)))]) [2, 5, 8, 9] [100, 103, 104, 105, 108] ?_ ?_
    · refine AW_seq ?_
      refine AW_region ?_
      refine AL_p (x_move rfl rfl) ?_
      refine AL_p (x_move rfl rfl) ?_
      refine AL_g rfl rfl (x_field (off := 1) (o' := 1) rfl rfl rfl (by kernel_rfl) rfl) ?_
      refine AL_g rfl rfl (x_load1 rfl rfl rfl (by kernel_rfl) rfl) ?_
      refine AL_g rfl rfl (x_olen (E := 36) (n := 4) rfl rfl rfl (by kernel_rfl)) ?_
      refine AL_gb rfl rfl (x_eql rfl rfl rfl) (fun b112 h112 => ?_)
      refine AL_p (x_pickT rfl rfl rfl) ?_
      refine AL_nil ?_
      cases b112
      · try simp only [tdy] at h112
        refine AW_condF rfl ?_
        refine AW_skip ?_
        refine ⟨⟨st1, ⟨fullR_off (fun q => h112 q.2), hi1⟩⟩, rn [], ?_⟩
        exact ⟨by (repeat refine ⟨⟨_, rfl, by first | exact VLe.rf | exact vle_int (by dsimp only; omega)⟩, ?_⟩); exact trivial, by (repeat refine ⟨⟨_, rfl, by first | exact BLe.rf | exact BLe.box AllC.rf | exact BLe.arr (by exact rfl)⟩, ?_⟩); exact trivial, by repeat (first | exact trivial | refine ⟨⟨rfl, by first | (left; intro h; cases h) | (right; rfl), by first | exact (fun _ h => ⟨_, h⟩) | exact (fun _ _ => ⟨_, rfl⟩) | (intro _ h; cases h)⟩, ?_⟩), rfl⟩
      try simp only [tdy] at h112
      refine AW_condT rfl ?_
      refine AW_region ?_
      refine AL_p (x_move rfl rfl) ?_
      refine AL_p (x_call (ks := []) (L := [(200, some _)]) (L' := [(200, some _)]) rfl rfl rfl (sFault_c (lexAll s).1 (s.size : Int) st1 hm hi1 7) rfl AllV.rf (caught_of rfl) rfl rfl rfl ⟨rfl, trivial⟩ rfl) ?_
      refine AL_nil ?_
      refine ⟨⟨faultP (lexAll s).1 (s.size : Int) 7 st1, ⟨fullR_on hst h112, fault_le hi1⟩⟩, rn [], ?_⟩
      exact ⟨by (repeat refine ⟨⟨_, rfl, by first | exact VLe.rf | exact vle_int (by dsimp only; omega)⟩, ?_⟩); exact trivial, by (repeat refine ⟨⟨_, rfl, by first | exact BLe.rf | exact BLe.box AllC.rf | exact BLe.arr (by exact rfl)⟩, ?_⟩); exact trivial, by repeat (first | exact trivial | refine ⟨⟨rfl, by first | (left; intro h; cases h) | (right; rfl), by first | exact (fun _ h => ⟨_, h⟩) | exact (fun _ _ => ⟨_, rfl⟩) | (intro _ h; cases h)⟩, ?_⟩), rfl⟩
    rintro ⟨s2, hinv1⟩
    dsimp only
    have hf := hinv1.1
    have hs2 : s2.i ≤ (lexAll s).1.length := hinv1.2
    have hd := progU_rule h34 hlt hl hk hf
    refine AW_draw rfl ?_
    refine AL_p (x_field (off := 1) (o' := 1) rfl rfl rfl (by kernel_rfl) rfl) ?_
    refine AL_p (x_load1 rfl rfl rfl (by kernel_rfl) rfl) ?_
    refine AL_p (x_move rfl rfl) ?_
    refine AL_p (x_call (ks := []) (L := [(200, some _)]) (L' := [(200, some _), (109, some _), (110, some _)]) rfl rfl rfl (sRule_c (lexAll s).1 (s.size : Int) s2 hm hs2 hok 109 110 rfl rfl rfl rfl) rfl AllV.rf (caught_of rfl) rfl rfl rfl ⟨rfl, trivial⟩ rfl) ?_
    refine AL_p (y_bslice (E := 36) (e := ruleE) [.tmp 119] ([(ruleS (lexAll s).1 (s.size : Int) s2).1]) 111 rfl rfl rfl rfl rfl rfl rfl rfl FitL.rf rfl rfl rfl rfl rfl rfl (by kernel_rfl)) ?_
    refine AL_p (y_append 112 rfl rfl rfl rfl rfl rfl rfl rfl (by kernel_rfl) (by simp only [List.length_append, List.length_cons, List.length_nil]; omega)) ?_
    refine AL_p (x_field (off := 1) (o' := 1) rfl rfl rfl (by kernel_rfl) rfl) ?_
    refine AL_p (x_store (n := 1) rfl rfl rfl rfl (by kernel_rfl) rfl rfl rfl) ?_
    refine AL_nild (by kernel_rfl) ?_
    refine ⟨⟨⟨(ruleS (lexAll s).1 (s.size : Int) s2).2, ds, rs ++ [(ruleS (lexAll s).1 (s.size : Int) s2).1]⟩, ⟨okU_rule hl hd.2, hd.1.trans hinv2⟩⟩, rn [(105, 112)], ?_, muP_rule h34 h43⟩
    exact ⟨by (repeat refine ⟨⟨_, rfl, by first | exact VLe.rf | exact vle_int (by dsimp only; omega)⟩, ?_⟩); exact trivial, by (repeat refine ⟨⟨_, rfl, by first | exact BLe.rf | exact BLe.box AllC.rf | exact BLe.arr (by exact rfl)⟩, ?_⟩); exact trivial, by repeat (first | exact trivial | refine ⟨⟨rfl, by first | (left; intro h; cases h) | (right; rfl), by first | exact (fun _ h => ⟨_, h⟩) | exact (fun _ _ => ⟨_, rfl⟩) | (intro _ h; cases h)⟩, ?_⟩), rfl⟩
  try simp only [tdy] at h88
  have hnm : nameT (hereT (lexAll s).1 (s.size : Int) st1) = false := by rw [hh]; simp [nameT, h88]
  refine AL_g rfl rfl (x_move rfl rfl) ?_
  refine AL_g rfl rfl (x_move rfl rfl) ?_
  refine AL_g rfl rfl (x_nilc rfl rfl rfl) ?_
  refine AL_g rfl rfl (x_field (off := 1) (o' := 1) rfl rfl rfl (by kernel_rfl) rfl) ?_
  refine AL_g rfl rfl (x_load1 rfl rfl rfl (by kernel_rfl) rfl) ?_
  refine AL_gbc rfl rfl (x_call (ks := []) (L := [(200, some _)]) (L' := [(200, some _)]) rfl rfl rfl (sIsH_c (lexAll s).1 (s.size : Int) st1 hm hi1 ⟨#[43]⟩) rfl AllV.rf (caught_of rfl) rfl rfl rfl ⟨rfl, trivial⟩ rfl) (fun b97 h97 => ?_)
  refine AL_p (x_pickF rfl rfl rfl) ?_
  refine AL_p (x_move rfl rfl) ?_
  cases b97
  rotate_left
  · try simp only [tdy] at h97
    have hst : startsT (hereT (lexAll s).1 (s.size : Int) st1) = true := by simp [startsT, h97]
    refine AL_o rfl rfl rfl rfl ?_
    refine AL_o rfl rfl rfl rfl ?_
    refine AL_o rfl rfl rfl rfl ?_
    refine AL_o rfl rfl rfl rfl ?_
    refine AL_o rfl rfl rfl rfl ?_
    refine AL_o rfl rfl rfl rfl ?_
    refine AL_p (x_pickT rfl rfl rfl) ?_
    refine AL_p (x_assign rfl rfl) ?_
    refine AL_nil ?_
    refine AW_mid (ι := {q : PS // fullR (lexAll s).1 (s.size : Int) rs st1 = q ∧ q.i ≤ (lexAll s).1.length}) (fun p => []) (fun p => [(200, some (psB (lexAll s).1 (s.size : Int) (p.1)))]) [2, 5, 8, 9] [100, 103, 104, 105, 108] ?_ ?_
    · refine AW_seq ?_
      refine AW_region ?_
      refine AL_p (x_move rfl rfl) ?_
      refine AL_p (x_move rfl rfl) ?_
      refine AL_g rfl rfl (x_field (off := 1) (o' := 1) rfl rfl rfl (by kernel_rfl) rfl) ?_
      refine AL_g rfl rfl (x_load1 rfl rfl rfl (by kernel_rfl) rfl) ?_
      refine AL_g rfl rfl (x_olen (E := 36) (n := 4) rfl rfl rfl (by kernel_rfl)) ?_
      refine AL_gb rfl rfl (x_eql rfl rfl rfl) (fun b112 h112 => ?_)
      refine AL_p (x_pickT rfl rfl rfl) ?_
      refine AL_nil ?_
      cases b112
      · try simp only [tdy] at h112
        refine AW_condF rfl ?_
        refine AW_skip ?_
        refine ⟨⟨st1, ⟨fullR_off (fun q => h112 q.2), hi1⟩⟩, rn [], ?_⟩
        exact ⟨by (repeat refine ⟨⟨_, rfl, by first | exact VLe.rf | exact vle_int (by dsimp only; omega)⟩, ?_⟩); exact trivial, by (repeat refine ⟨⟨_, rfl, by first | exact BLe.rf | exact BLe.box AllC.rf | exact BLe.arr (by exact rfl)⟩, ?_⟩); exact trivial, by repeat (first | exact trivial | refine ⟨⟨rfl, by first | (left; intro h; cases h) | (right; rfl), by first | exact (fun _ h => ⟨_, h⟩) | exact (fun _ _ => ⟨_, rfl⟩) | (intro _ h; cases h)⟩, ?_⟩), rfl⟩
      try simp only [tdy] at h112
      refine AW_condT rfl ?_
      refine AW_region ?_
      refine AL_p (x_move rfl rfl) ?_
      refine AL_p (x_call (ks := []) (L := [(200, some _)]) (L' := [(200, some _)]) rfl rfl rfl (sFault_c (lexAll s).1 (s.size : Int) st1 hm hi1 7) rfl AllV.rf (caught_of rfl) rfl rfl rfl ⟨rfl, trivial⟩ rfl) ?_
      refine AL_nil ?_
      refine ⟨⟨faultP (lexAll s).1 (s.size : Int) 7 st1, ⟨fullR_on hst h112, fault_le hi1⟩⟩, rn [], ?_⟩
      exact ⟨by (repeat refine ⟨⟨_, rfl, by first | exact VLe.rf | exact vle_int (by dsimp only; omega)⟩, ?_⟩); exact trivial, by (repeat refine ⟨⟨_, rfl, by first | exact BLe.rf | exact BLe.box AllC.rf | exact BLe.arr (by exact rfl)⟩, ?_⟩); exact trivial, by repeat (first | exact trivial | refine ⟨⟨rfl, by first | (left; intro h; cases h) | (right; rfl), by first | exact (fun _ h => ⟨_, h⟩) | exact (fun _ _ => ⟨_, rfl⟩) | (intro _ h; cases h)⟩, ?_⟩), rfl⟩
    rintro ⟨s2, hinv1⟩
    dsimp only
    have hf := hinv1.1
    have hs2 : s2.i ≤ (lexAll s).1.length := hinv1.2
    have hd := progU_rule h34 hlt hl hk hf
    refine AW_draw rfl ?_
    refine AL_p (x_field (off := 1) (o' := 1) rfl rfl rfl (by kernel_rfl) rfl) ?_
    refine AL_p (x_load1 rfl rfl rfl (by kernel_rfl) rfl) ?_
    refine AL_p (x_move rfl rfl) ?_
    refine AL_p (x_call (ks := []) (L := [(200, some _)]) (L' := [(200, some _), (109, some _), (110, some _)]) rfl rfl rfl (sRule_c (lexAll s).1 (s.size : Int) s2 hm hs2 hok 109 110 rfl rfl rfl rfl) rfl AllV.rf (caught_of rfl) rfl rfl rfl ⟨rfl, trivial⟩ rfl) ?_
    refine AL_p (y_bslice (E := 36) (e := ruleE) [.tmp 119] ([(ruleS (lexAll s).1 (s.size : Int) s2).1]) 111 rfl rfl rfl rfl rfl rfl rfl rfl FitL.rf rfl rfl rfl rfl rfl rfl (by kernel_rfl)) ?_
    refine AL_p (y_append 112 rfl rfl rfl rfl rfl rfl rfl rfl (by kernel_rfl) (by simp only [List.length_append, List.length_cons, List.length_nil]; omega)) ?_
    refine AL_p (x_field (off := 1) (o' := 1) rfl rfl rfl (by kernel_rfl) rfl) ?_
    refine AL_p (x_store (n := 1) rfl rfl rfl rfl (by kernel_rfl) rfl rfl rfl) ?_
    refine AL_nild (by kernel_rfl) ?_
    refine ⟨⟨⟨(ruleS (lexAll s).1 (s.size : Int) s2).2, ds, rs ++ [(ruleS (lexAll s).1 (s.size : Int) s2).1]⟩, ⟨okU_rule hl hd.2, hd.1.trans hinv2⟩⟩, rn [(105, 112)], ?_, muP_rule h34 h43⟩
    exact ⟨by (repeat refine ⟨⟨_, rfl, by first | exact VLe.rf | exact vle_int (by dsimp only; omega)⟩, ?_⟩); exact trivial, by (repeat refine ⟨⟨_, rfl, by first | exact BLe.rf | exact BLe.box AllC.rf | exact BLe.arr (by exact rfl)⟩, ?_⟩); exact trivial, by repeat (first | exact trivial | refine ⟨⟨rfl, by first | (left; intro h; cases h) | (right; rfl), by first | exact (fun _ h => ⟨_, h⟩) | exact (fun _ _ => ⟨_, rfl⟩) | (intro _ h; cases h)⟩, ?_⟩), rfl⟩
  try simp only [tdy] at h97
  refine AL_g rfl rfl (x_move rfl rfl) ?_
  refine AL_g rfl rfl (x_move rfl rfl) ?_
  refine AL_g rfl rfl (x_nilc rfl rfl rfl) ?_
  refine AL_g rfl rfl (x_field (off := 1) (o' := 1) rfl rfl rfl (by kernel_rfl) rfl) ?_
  refine AL_g rfl rfl (x_load1 rfl rfl rfl (by kernel_rfl) rfl) ?_
  refine AL_gbc rfl rfl (x_call (ks := []) (L := [(200, some _)]) (L' := [(200, some _)]) rfl rfl rfl (sIsH_c (lexAll s).1 (s.size : Int) st1 hm hi1 ⟨#[45]⟩) rfl AllV.rf (caught_of rfl) rfl rfl rfl ⟨rfl, trivial⟩ rfl) (fun b105 h105 => ?_)
  refine AL_p (x_pickF rfl rfl rfl) ?_
  refine AL_p (x_assign rfl rfl) ?_
  refine AL_nil ?_
  refine AW_mid (ι := {q : PS // fullR (lexAll s).1 (s.size : Int) rs st1 = q ∧ q.i ≤ (lexAll s).1.length}) (fun p => []) (fun p => [(200, some (psB (lexAll s).1 (s.size : Int) (p.1)))]) [2, 5, 8, 9] [100, 103, 104, 105, 108] ?_ ?_
  · refine AW_seq ?_
    refine AW_region ?_
    refine AL_p (x_move rfl rfl) ?_
    refine AL_p (x_move rfl rfl) ?_
    cases b105
    · try simp only [tdy] at h105
      have hst : startsT (hereT (lexAll s).1 (s.size : Int) st1) = false := by simp [startsT, hnm, h97, h105]
      refine AL_o rfl rfl rfl rfl ?_
      refine AL_o rfl rfl rfl rfl ?_
      refine AL_o rfl rfl rfl rfl ?_
      refine AL_o rfl rfl rfl rfl ?_
      refine AL_p (x_pickF rfl rfl rfl) ?_
      refine AL_nil ?_
      refine AW_condF rfl ?_
      refine AW_skip ?_
      refine ⟨⟨st1, ⟨fullR_off (fun q => absurd q.1 (by rw [hst]; decide)), hi1⟩⟩, rn [], ?_⟩
      exact ⟨by (repeat refine ⟨⟨_, rfl, by first | exact VLe.rf | exact vle_int (by dsimp only; omega)⟩, ?_⟩); exact trivial, by (repeat refine ⟨⟨_, rfl, by first | exact BLe.rf | exact BLe.box AllC.rf | exact BLe.arr (by exact rfl)⟩, ?_⟩); exact trivial, by repeat (first | exact trivial | refine ⟨⟨rfl, by first | (left; intro h; cases h) | (right; rfl), by first | exact (fun _ h => ⟨_, h⟩) | exact (fun _ _ => ⟨_, rfl⟩) | (intro _ h; cases h)⟩, ?_⟩), rfl⟩
    try simp only [tdy] at h105
    have hst : startsT (hereT (lexAll s).1 (s.size : Int) st1) = true := by simp [startsT, h105]
    refine AL_g rfl rfl (x_field (off := 1) (o' := 1) rfl rfl rfl (by kernel_rfl) rfl) ?_
    refine AL_g rfl rfl (x_load1 rfl rfl rfl (by kernel_rfl) rfl) ?_
    refine AL_g rfl rfl (x_olen (E := 36) (n := 4) rfl rfl rfl (by kernel_rfl)) ?_
    refine AL_gb rfl rfl (x_eql rfl rfl rfl) (fun b112 h112 => ?_)
    refine AL_p (x_pickT rfl rfl rfl) ?_
    refine AL_nil ?_
    cases b112
    · try simp only [tdy] at h112
      refine AW_condF rfl ?_
      refine AW_skip ?_
      refine ⟨⟨st1, ⟨fullR_off (fun q => h112 q.2), hi1⟩⟩, rn [], ?_⟩
      exact ⟨by (repeat refine ⟨⟨_, rfl, by first | exact VLe.rf | exact vle_int (by dsimp only; omega)⟩, ?_⟩); exact trivial, by (repeat refine ⟨⟨_, rfl, by first | exact BLe.rf | exact BLe.box AllC.rf | exact BLe.arr (by exact rfl)⟩, ?_⟩); exact trivial, by repeat (first | exact trivial | refine ⟨⟨rfl, by first | (left; intro h; cases h) | (right; rfl), by first | exact (fun _ h => ⟨_, h⟩) | exact (fun _ _ => ⟨_, rfl⟩) | (intro _ h; cases h)⟩, ?_⟩), rfl⟩
    try simp only [tdy] at h112
    refine AW_condT rfl ?_
    refine AW_region ?_
    refine AL_p (x_move rfl rfl) ?_
    refine AL_p (x_call (ks := []) (L := [(200, some _)]) (L' := [(200, some _)]) rfl rfl rfl (sFault_c (lexAll s).1 (s.size : Int) st1 hm hi1 7) rfl AllV.rf (caught_of rfl) rfl rfl rfl ⟨rfl, trivial⟩ rfl) ?_
    refine AL_nil ?_
    refine ⟨⟨faultP (lexAll s).1 (s.size : Int) 7 st1, ⟨fullR_on hst h112, fault_le hi1⟩⟩, rn [], ?_⟩
    exact ⟨by (repeat refine ⟨⟨_, rfl, by first | exact VLe.rf | exact vle_int (by dsimp only; omega)⟩, ?_⟩); exact trivial, by (repeat refine ⟨⟨_, rfl, by first | exact BLe.rf | exact BLe.box AllC.rf | exact BLe.arr (by exact rfl)⟩, ?_⟩); exact trivial, by repeat (first | exact trivial | refine ⟨⟨rfl, by first | (left; intro h; cases h) | (right; rfl), by first | exact (fun _ h => ⟨_, h⟩) | exact (fun _ _ => ⟨_, rfl⟩) | (intro _ h; cases h)⟩, ?_⟩), rfl⟩
  rintro ⟨s2, hinv1⟩
  dsimp only
  have hf := hinv1.1
  have hs2 : s2.i ≤ (lexAll s).1.length := hinv1.2
  have hd := progU_rule h34 hlt hl hk hf
  refine AW_draw rfl ?_
  refine AL_p (x_field (off := 1) (o' := 1) rfl rfl rfl (by kernel_rfl) rfl) ?_
  refine AL_p (x_load1 rfl rfl rfl (by kernel_rfl) rfl) ?_
  refine AL_p (x_move rfl rfl) ?_
  refine AL_p (x_call (ks := []) (L := [(200, some _)]) (L' := [(200, some _), (109, some _), (110, some _)]) rfl rfl rfl (sRule_c (lexAll s).1 (s.size : Int) s2 hm hs2 hok 109 110 rfl rfl rfl rfl) rfl AllV.rf (caught_of rfl) rfl rfl rfl ⟨rfl, trivial⟩ rfl) ?_
  refine AL_p (y_bslice (E := 36) (e := ruleE) [.tmp 119] ([(ruleS (lexAll s).1 (s.size : Int) s2).1]) 111 rfl rfl rfl rfl rfl rfl rfl rfl FitL.rf rfl rfl rfl rfl rfl rfl (by kernel_rfl)) ?_
  refine AL_p (y_append 112 rfl rfl rfl rfl rfl rfl rfl rfl (by kernel_rfl) (by simp only [List.length_append, List.length_cons, List.length_nil]; omega)) ?_
  refine AL_p (x_field (off := 1) (o' := 1) rfl rfl rfl (by kernel_rfl) rfl) ?_
  refine AL_p (x_store (n := 1) rfl rfl rfl rfl (by kernel_rfl) rfl rfl rfl) ?_
  refine AL_nild (by kernel_rfl) ?_
  refine ⟨⟨⟨(ruleS (lexAll s).1 (s.size : Int) s2).2, ds, rs ++ [(ruleS (lexAll s).1 (s.size : Int) s2).1]⟩, ⟨okU_rule hl hd.2, hd.1.trans hinv2⟩⟩, rn [(105, 112)], ?_, muP_rule h34 h43⟩
  exact ⟨by (repeat refine ⟨⟨_, rfl, by first | exact VLe.rf | exact vle_int (by dsimp only; omega)⟩, ?_⟩); exact trivial, by (repeat refine ⟨⟨_, rfl, by first | exact BLe.rf | exact BLe.box AllC.rf | exact BLe.arr (by exact rfl)⟩, ?_⟩); exact trivial, by repeat (first | exact trivial | refine ⟨⟨rfl, by first | (left; intro h; cases h) | (right; rfl), by first | exact (fun _ h => ⟨_, h⟩) | exact (fun _ _ => ⟨_, rfl⟩) | (intro _ h; cases h)⟩, ?_⟩), rfl⟩

theorem parseR_c (s : ByteArray) (hs0 : s.size ≤ 1048576) : AC Try.prog 21 [.one (.c (.string (s)))] [] (.tup [.agg [.sl declE (parseI s).1.decls, .sl ruleE (parseI s).1.rules], .one (.c (.int .i64 ((parseI s).2.1))), .one (.c (.int .i64 ((parseI s).2.2)))]) [] := by
  have h := parseS_c s hs0
  rw [← parse_agr] at h
  exact h
end Go.Proofs.Ytkemjhlbokldhaa

/- What is read without a fault is well formed. -/
namespace Go.Proofs.Ytkemjhlbokldhaa
open Go.RowKit
set_option linter.unusedVariables false
set_option linter.unusedSimpArgs false

theorem beq_nil {s : ByteArray} (h : s.size = 0 → False) : (s == (⟨#[]⟩ : ByteArray)) = false := ba_no.2 fun e => h (by rw [e]; rfl)
theorem nil_beq : ((⟨#[]⟩ : ByteArray) == (⟨#[]⟩ : ByteArray)) = true := ba_iff.2 rfl
theorem kept_nil : keptB (⟨#[]⟩ : ByteArray) = false := by simp [keptB, ByteArray.toList_eq]
theorem nil_empty : (⟨#[]⟩ : ByteArray).toList.isEmpty = true := by rw [ByteArray.toList_eq]; rfl
theorem size_empty {s : ByteArray} (h : 1 ≤ s.size) : s.toList.isEmpty = false := by
  rw [ByteArray.toList_eq]
  cases hl : s.data.toList with
  | nil => have : s.data.toList.length = s.size := by simp
           rw [hl] at this; simp at this; omega
  | cons c l => rfl
theorem wordB_pos {s : ByteArray} (h : wordB s = true) : 1 ≤ s.size ∧ s.size ≤ 12 := by
  simp only [wordB, shortB, Bool.and_eq_true, decide_eq_true_eq] at h; omega
theorem varB_pos {s : ByteArray} (h : varB s = true) : 1 ≤ s.size ∧ s.size ≤ 12 := by
  simp only [varB, shortB, Bool.and_eq_true, decide_eq_true_eq] at h; omega
theorem same_noVal : sameVal noVal noVal = true := by unfold sameVal; simp [noVal, nil_beq]
theorem same_noTerm : sameTerm noTerm noTerm = true := by unfold sameTerm; simp [noTerm, same_noVal, nil_beq]
section
variable {tk : List Tokent} {e : Int}
theorem termOf_good {t : Tokent} (h : tokOk t) (h2 : termT t = true) : termB (termOfT t) = true := by
  by_cases k2 : t.kind = 2
  · have hv : varB t.s = true := by rcases h with h | h | h | h; all_goals first | exact h.2 | omega
    have := varB_pos hv
    rw [of_var k2]; unfold termB
    rw [if_neg (by show ¬ (t.s == (⟨#[]⟩ : ByteArray)) = true; rw [beq_nil (by omega)]; decide)]
    show (varB t.s && sameVal noVal noVal) = true
    rw [hv, same_noVal]; rfl
  · by_cases k3 : t.kind = 3
    · have hv : numB t.n = true := by rcases h with h | h | h | h; all_goals first | exact h.2.2 | omega
      rw [of_num k2 k3]; unfold termB
      rw [if_pos nil_beq]
      show (valOk ⟨t.n, ⟨#[]⟩⟩ && !keptB ⟨#[]⟩) = true
      unfold valOk
      rw [if_pos nil_empty, kept_nil]
      show (numB t.n && !false) = true
      rw [hv]; rfl
    · have hn : nameT t = true := by simpa [termT, k2, k3] using h2
      have k1 := name_kind hn
      have hw : wordB t.s = true := by rcases h with h | h | h | h; all_goals first | exact h.2.2 | omega
      have hp := wordB_pos hw
      have hkp : keptB t.s = false := by simpa [nameT, k1] using hn
      rw [of_name k2 k3]; unfold termB
      rw [if_pos nil_beq]
      show (valOk ⟨0, t.s⟩ && !keptB t.s) = true
      unfold valOk
      rw [if_neg (by show ¬ t.s.toList.isEmpty = true; rw [size_empty hp.1]; decide), hkp]
      show ((0 : Int) == 0 && wordB t.s && !false) = true
      rw [hw]; rfl
theorem plus_range (st : PS) : 1 ≤ (plusP tk e st).1 ∧ (plusP tk e st).1 ≤ 3 := by
  unfold plusP
  split
  · exact ⟨by dsimp only; omega, by dsimp only; omega⟩
  · split <;> exact ⟨by dsimp only; omega, by dsimp only; omega⟩
theorem rule_join {k : Int} {a : Atomt} {b : List Litt} (h1 : 1 ≤ k ∧ k ≤ 3) (h2 : atomB a = true) (h3 : ∀ t ∈ b, litB t = true) (h4 : b.length ≤ 8) : ruleB ⟨k, a, b⟩ = true := by
  show (decide (1 ≤ k ∧ k ≤ 3) && (atomB a && (decide (b.length ≤ 8) && b.all litB))) = true
  rw [h2, decide_eq_true h1, decide_eq_true h4, List.all_eq_true.2 h3]; rfl
variable (hk : ∀ t ∈ tk, tokOk t)
include hk
theorem termP_good {st : PS} (hc : (termP tk e false st).2.code = 0) : termB (termP tk e false st).1 = true ∧ termT (hereT tk e st) = true := by
  by_cases h : termT (hereT tk e st) = true
  · rw [term_ok h]
    refine ⟨termOf_good ?_ h, h⟩
    rcases here_tok (e := e) (st := st) hk with q | q
    · exact absurd q (term_kind h)
    · exact q
  · rw [term_no (by simpa using h)] at hc
    exact absurd hc (fault_code (by decide))
theorem argsI_good : ∀ (f : Nat) (st : PS) (a : List Termt), (∀ t ∈ a, termB t = true) → a.length ≤ 6 → (argsI tk e f st a).2.code = 0 → (∀ t ∈ (argsI tk e f st a).1, termB t = true) ∧ (argsI tk e f st a).1.length ≤ 6
  | 0, st, a, h, hl, _ => ⟨h, hl⟩
  | f + 1, st, a, h, hl, hc => by
    unfold argsI at hc ⊢
    by_cases h0 : st.code = 0
    · rw [if_pos h0] at hc ⊢
      by_cases h1 : termT (hereT tk e st) = true ∧ a.length = 6
      · rw [if_pos h1] at hc; exact absurd hc (fault_code (by decide))
      · rw [if_neg h1] at hc ⊢
        have step : (termP tk e false st).2.code = 0 → (∀ t ∈ a ++ [(termP tk e false st).1], termB t = true) ∧ (a ++ [(termP tk e false st).1]).length ≤ 6 := fun q => by
          have g := termP_good hk q
          refine ⟨fun t ht => ?_, ?_⟩
          · rcases List.mem_append.1 ht with ht | ht
            · exact h t ht
            · rw [List.mem_singleton.1 ht]; exact g.1
          · have : ¬ a.length = 6 := fun e6 => h1 ⟨g.2, e6⟩
            simp; omega
        by_cases h3 : signT (hereT tk e (termP tk e false st).2) ⟨#[44]⟩ = true
        · rw [if_pos h3] at hc ⊢
          have q := (here_good (tk := tk) (e := e) (st := (termP tk e false st).2) (by rw [sign_kind h3]; decide)).1
          exact argsI_good f _ _ (step q).1 (step q).2 hc
        · rw [if_neg h3] at hc ⊢; exact step hc
    · rw [if_neg h0] at hc; exact absurd hc h0
theorem wordP_good {st : PS} (hc : (wordP tk e st).2.code = 0) : nameB (wordP tk e st).1 = true := by
  by_cases h : nameT (hereT tk e st) = true
  · rw [word_ok h]
    have k1 := name_kind h
    rcases here_tok (e := e) (st := st) hk with q | q
    · omega
    · have hw : wordB (hereT tk e st).s = true := by rcases q with h | h | h | h; all_goals first | exact h.2.2 | omega
      have hkp : keptB (hereT tk e st).s = false := by simpa [nameT, k1] using h
      show nameB (hereT tk e st).s = true
      unfold nameB; rw [hw, hkp]; rfl
  · rw [word_no (by simpa using h)] at hc; exact absurd hc (fault_code (by decide))
theorem atomI_good {st : PS} (hc : (atomI tk e st).2.code = 0) : atomB (atomI tk e st).1 = true := by
  by_cases h : signT (hereT tk e (atomOpen tk e st)) ⟨#[41]⟩ = true
  · have q := (here_good (tk := tk) (e := e) (st := atomOpen tk e st) (by rw [sign_kind h]; decide)).1
    have w := wordP_good hk (take_code q)
    rw [atomI_none h]
    show (nameB (wordP tk e st).1 && _) = true
    rw [w]; rfl
  · have hs := atomI_some (tk := tk) (e := e) (st := st) (by simpa using h) (Prod.eta (argsI tk e 8 (atomOpen tk e st) [])).symm
    rw [hs] at hc ⊢
    have ha := take_code hc
    have hg := argsI_good hk 8 (atomOpen tk e st) [] (by simp) (by simp) ha
    have ho : (atomOpen tk e st).code = 0 := Classical.byContradiction fun q => by
      rw [argsI_bad q] at ha; exact q ha
    have w := wordP_good hk (take_code ho)
    show (nameB (wordP tk e st).1 && (decide ((argsI tk e 8 (atomOpen tk e st) []).1.length ≤ 6) && (argsI tk e 8 (atomOpen tk e st) []).1.all termB)) = true
    rw [w, decide_eq_true hg.2, List.all_eq_true.2 hg.1]; rfl
theorem litI_good {st : PS} (hc : (litI tk e st).2.code = 0) : litB (litI tk e st).1 = true := by
  by_cases hn : notT (hereT tk e st) = true
  · rw [litI_not hn] at hc ⊢
    have := atomI_good hk hc
    unfold litB
    rw [if_pos (.inr rfl)]
    show (atomB (atomI tk e st.next).1 && (decide ((0 : Int) = 0) && (sameTerm noTerm noTerm && sameTerm noTerm noTerm))) = true
    rw [this, same_noTerm]; rfl
  · have hn' : notT (hereT tk e st) = false := by simpa using hn
    by_cases ho : openT tk e st = true
    · rw [litI_is hn' ho] at hc ⊢
      have := atomI_good hk hc
      unfold litB
      rw [if_pos (.inl rfl)]
      show (atomB (atomI tk e st).1 && (decide ((0 : Int) = 0) && (sameTerm noTerm noTerm && sameTerm noTerm noTerm))) = true
      rw [this, same_noTerm]; rfl
    · have ho' : openT tk e st = false := by simpa using ho
      by_cases hp : opI (hereT tk e (termP tk e false st).2) < 1
      · rw [litI_bad hn' ho' hp] at hc; exact absurd hc (fault_code (by decide))
      · have hs := litI_cmp hn' ho' hp
        rw [hs] at hc ⊢
        have k4 := opI_kind (t := hereT tk e (termP tk e false st).2) (by omega)
        have c1 := (here_good (tk := tk) (e := e) (st := (termP tk e false st).2) (by rw [k4]; decide)).1
        have g1 := (termP_good hk c1).1
        have g2 := (termP_good hk hc).1
        have r := opN_range (hereT tk e (termP tk e false st).2).s
        have hq := (opI_pos (hereT tk e (termP tk e false st).2)).2 (by omega)
        have hle : opI (hereT tk e (termP tk e false st).2) ≤ 4 := by rw [hq]; unfold opS; split <;> omega
        unfold litB
        rw [if_neg (by rintro (h | h) <;> cases h), if_pos rfl]
        show (decide (1 ≤ opI (hereT tk e (termP tk e false st).2) ∧ opI (hereT tk e (termP tk e false st).2) ≤ 4) && (((⟨#[]⟩ : ByteArray) == (⟨#[]⟩ : ByteArray)) && (decide ((0 : Nat) = 0) && (termB (termP tk e false st).1 && termB (termP tk e false (termP tk e false st).2.next).1)))) = true
        rw [g1, g2, nil_beq, decide_eq_true (show 1 ≤ opI (hereT tk e (termP tk e false st).2) ∧ opI (hereT tk e (termP tk e false st).2) ≤ 4 by omega)]; rfl
theorem bodyI_good : ∀ (f : Nat) (st : PS) (a : List Litt), (∀ t ∈ a, litB t = true) → a.length ≤ 8 → (bodyI tk e f st a).2.code = 0 → (∀ t ∈ (bodyI tk e f st a).1, litB t = true) ∧ (bodyI tk e f st a).1.length ≤ 8
  | 0, st, a, h, hl, _ => ⟨h, hl⟩
  | f + 1, st, a, h, hl, hc => by
    unfold bodyI at hc ⊢
    by_cases h0 : st.code = 0
    · rw [if_pos h0] at hc ⊢
      by_cases h1 : beginsT (hereT tk e st) = true ∧ a.length = 8
      · rw [if_pos h1] at hc; exact absurd hc (fault_code (by decide))
      · rw [if_neg h1] at hc ⊢
        have step : (litI tk e st).2.code = 0 → (∀ t ∈ a ++ [(litI tk e st).1], litB t = true) ∧ (a ++ [(litI tk e st).1]).length ≤ 8 := fun q => by
          have g := litI_good hk q
          refine ⟨fun t ht => ?_, ?_⟩
          · rcases List.mem_append.1 ht with ht | ht
            · exact h t ht
            · rw [List.mem_singleton.1 ht]; exact g
          · have : ¬ a.length = 8 := fun e6 => by
              have hb : beginsT (hereT tk e st) = false := by
                cases hq : beginsT (hereT tk e st)
                · rfl
                · exact absurd ⟨hq, e6⟩ h1
              exact lit_none hb q
            simp; omega
        by_cases h3 : signT (hereT tk e (litI tk e st).2) ⟨#[44]⟩ = true
        · rw [if_pos h3] at hc ⊢
          have q := (here_good (tk := tk) (e := e) (st := (litI tk e st).2) (by rw [sign_kind h3]; decide)).1
          exact bodyI_good f _ _ (step q).1 (step q).2 hc
        · rw [if_neg h3] at hc ⊢; exact step hc
    · rw [if_neg h0] at hc; exact absurd hc h0
theorem ruleI_good {st : PS} (hc : (ruleI tk e st).2.code = 0) : ruleB (ruleI tk e st).1 = true := by
  by_cases h : signT (hereT tk e (atomI tk e (plusP tk e st).2).2) ⟨#[58, 45]⟩ = true
  · rw [ruleI_body h] at hc ⊢
    have hb := take_code hc
    have hg := bodyI_good hk 10 _ [] (by simp) (by simp) hb
    have ha := (here_good (tk := tk) (e := e) (st := (atomI tk e (plusP tk e st).2).2) (by rw [sign_kind h]; decide)).1
    exact rule_join (plus_range st) (atomI_good hk ha) hg.1 hg.2
  · rw [ruleI_bare (by simpa using h)] at hc ⊢
    exact rule_join (plus_range st) (atomI_good hk (take_code hc)) (by simp) (by simp)
theorem declI_good {k : Int} {st : PS} (h1 : 1 ≤ k ∧ k ≤ 3) (hc : (declI tk e k st).2.code = 0) : declB (declI tk e k st).1 = true := by
  by_cases h : (hereT tk e (slashP tk e st.next)).kind = 3
  · by_cases h2 : 6 < (hereT tk e (slashP tk e st.next)).n
    · rw [declI_big h h2] at hc
      have := take_code hc
      exact absurd this (fault_code (by decide))
    · rw [declI_ok h h2] at hc ⊢
      have hs := (here_good (tk := tk) (e := e) (st := slashP tk e st.next) (by rw [h]; decide)).1
      have hw := wordP_good hk (take_code hs)
      have hn : numB (hereT tk e (slashP tk e st.next)).n = true := by
        rcases here_tok (e := e) (st := slashP tk e st.next) hk with q | q
        · omega
        · rcases q with h | h | h | h; all_goals first | exact h.2.2 | omega
      have hn2 : 0 ≤ (hereT tk e (slashP tk e st.next)).n := by
        unfold numB at hn; rw [decide_eq_true_eq] at hn; exact hn.1
      show (decide (1 ≤ k ∧ k ≤ 3 ∧ 0 ≤ (hereT tk e (slashP tk e st.next)).n ∧ (hereT tk e (slashP tk e st.next)).n ≤ 6) && nameB (wordP tk e st.next).1) = true
      rw [hw, decide_eq_true (show 1 ≤ k ∧ k ≤ 3 ∧ 0 ≤ (hereT tk e (slashP tk e st.next)).n ∧ (hereT tk e (slashP tk e st.next)).n ≤ 6 by omega)]; rfl
  · rw [declI_no h] at hc
    have := take_code hc
    exact absurd this (fault_code (by decide))
theorem progI_good : ∀ (f : Nat) (st : PS) (ds : List Declt) (rs : List Rulet), (∀ d ∈ ds, declB d = true) → (∀ r ∈ rs, ruleB r = true) → ds.length ≤ 16 → rs.length ≤ 24 → (progI tk e f st ds rs).2.2.code = 0 →
    (∀ d ∈ (progI tk e f st ds rs).1, declB d = true) ∧ (∀ r ∈ (progI tk e f st ds rs).2.1, ruleB r = true) ∧ (progI tk e f st ds rs).1.length ≤ 16 ∧ (progI tk e f st ds rs).2.1.length ≤ 24
  | 0, st, ds, rs, h1, h2, h3, h4, _ => ⟨h1, h2, h3, h4⟩
  | f + 1, st, ds, rs, h1, h2, h3, h4, hc => by
    unfold progI at hc ⊢
    by_cases h0 : st.code = 0 ∧ st.i < tk.length
    · rw [if_pos h0] at hc ⊢
      by_cases hf : (0 < kindI (hereT tk e st) ∧ ds.length = 16) ∨ (startsT (hereT tk e st) = true ∧ rs.length = 24)
      · rw [if_pos hf, progI_bad (fault_code (by decide))] at hc
        exact absurd hc (fault_code (by decide))
      · rw [if_neg hf] at hc ⊢
        by_cases hd : 0 < kindI (hereT tk e st)
        · rw [if_pos hd] at hc ⊢
          have c1 : (declI tk e (kindI (hereT tk e st)) st).2.code = 0 := Classical.byContradiction fun q => by
            rw [progI_bad q] at hc; exact q hc
          have hr : kindI (hereT tk e st) ≤ 3 := by
            have := (kindI_pos (hereT tk e st)).2 hd
            have r := kindN_range (hereT tk e st).s
            rw [this]; unfold kindS; split <;> omega
          refine progI_good f _ _ _ (fun d hd2 => ?_) h2 ?_ h4 hc
          · rcases List.mem_append.1 hd2 with q | q
            · exact h1 d q
            · rw [List.mem_singleton.1 q]; exact declI_good hk ⟨by omega, hr⟩ c1
          · have : ¬ ds.length = 16 := fun q => hf (.inl ⟨hd, q⟩)
            simp; omega
        · rw [if_neg hd] at hc ⊢
          by_cases hs : startsT (hereT tk e st) = true
          · rw [if_pos hs] at hc ⊢
            have c1 : (ruleI tk e st).2.code = 0 := Classical.byContradiction fun q => by
              rw [progI_bad q] at hc; exact q hc
            refine progI_good f _ _ _ h1 (fun r hr => ?_) h3 ?_ hc
            · rcases List.mem_append.1 hr with q | q
              · exact h2 r q
              · rw [List.mem_singleton.1 q]; exact ruleI_good hk c1
            · have : ¬ rs.length = 24 := fun q => hf (.inr ⟨hs, q⟩)
              simp; omega
          · rw [if_neg hs, progI_bad (fault_code (by decide))] at hc
            exact absurd hc (fault_code (by decide))
    · rw [if_neg h0] at hc ⊢; exact ⟨h1, h2, h3, h4⟩
end
theorem program_join {ds : List Declt} {rs : List Rulet} (h1 : ∀ d ∈ ds, declB d = true) (h2 : ∀ r ∈ rs, ruleB r = true) (h3 : ds.length ≤ 16) (h4 : rs.length ≤ 24) : programB ⟨ds, rs⟩ = true := by
  show (decide (ds.length ≤ 16 ∧ rs.length ≤ 24) && (ds.all declB && rs.all ruleB)) = true
  rw [decide_eq_true (show ds.length ≤ 16 ∧ rs.length ≤ 24 from ⟨h3, h4⟩), List.all_eq_true.2 h1, List.all_eq_true.2 h2]; rfl
theorem parse_good (s : ByteArray) : programB (parseI s).1 = true := by
  unfold parseI
  have hn : programB ⟨[], []⟩ = true := rfl
  split
  · unfold endR
    split
    · rename_i h
      have g := progI_good (e := (s.size : Int)) (lexAll_ok s) 43 ⟨0, 0, 0⟩ [] [] (by simp) (by simp) (by simp) (by simp) h
      exact program_join g.1 g.2.1 g.2.2.1 g.2.2.2
    · exact hn
  · exact hn
end Go.Proofs.Ytkemjhlbokldhaa

/- How much of a program that is read lies in memory; what is read, in one word for both sides. -/
namespace Go.Proofs.Ytkemjhlbokldhaa
open Go.RowKit
set_option linter.unusedVariables false

theorem ruleB_cnt {r : Rulet} (h : ruleB r = true) : cntRule r ≤ 1000000 := by
  simp only [ruleB, atomB, Bool.and_eq_true, decide_eq_true_eq] at h
  have a1 := cntL_le (c := cntTerm) (M := 3) (xs := r.head.args) fun t _ => by simp [cntTerm]
  have a2 := cntL_le (c := cntLit) (M := 30000) (xs := r.body) fun l hl => by
    have hb := List.all_eq_true.1 h.2.2.2 l hl
    have b1 := cntL_le (c := cntTerm) (M := 3) (xs := l.atom.args) fun t _ => by simp [cntTerm]
    have b2 : l.atom.args.length ≤ 6 := by
      unfold litB at hb
      split at hb
      · simp only [atomB, Bool.and_eq_true, decide_eq_true_eq] at hb; exact hb.1.2.1
      · split at hb
        · simp only [Bool.and_eq_true, decide_eq_true_eq] at hb; have := hb.2.2.1; omega
        · cases hb
    simp only [cntLit]; omega
  have a3 := h.2.1.2.1
  have a4 := h.2.2.1
  simp only [cntRule]
  have a5 : 30000 * r.body.length ≤ 240000 := by omega
  omega
theorem parse_cnt (s : ByteArray) : cntDProgram (parseI s).1 ≤ 1152921504606846976 := by
  have h := parse_good s
  simp only [programB, Bool.and_eq_true, decide_eq_true_eq] at h
  have a1 := cntL_le (c := cntDecl) (M := 3) (xs := (parseI s).1.decls) fun t _ => by simp [cntDecl]
  have a2 := cntL_le (c := cntRule) (M := 1000000) (xs := (parseI s).1.rules) fun r hr => ruleB_cnt (List.all_eq_true.1 h.2.2 r hr)
  unfold cntDProgram
  omega
end Go.Proofs.Ytkemjhlbokldhaa

/- A result with several arrays, given up to be read alone. -/
namespace Go.Proofs.Ytkemjhlbokldhaa
open Go.RowKit
set_option linter.unusedVariables false

end Go.Proofs.Ytkemjhlbokldhaa

/- The walk of FnExactParse (printed by walk.py) -/
namespace Go.Proofs.Ytkemjhlbokldhaa
open Go.RowKit
set_option linter.unusedVariables false
set_option linter.unusedSimpArgs false
set_option maxRecDepth 100000

set_option maxHeartbeats 4000000 in
theorem lawFnExactParse.walk (w : World) (x0 : ByteArray) (h0 : x0.size ≤ maxLen) :
    Calls Try.prog 5 #[.string x0] w fun e w' => e = .returned (.bool true) ∧ Below w.heap.size w w' := by
  refine AM_law (r := 2) Try.func5 rfl Try.ntmps5 rfl Try.results5 w _ (args := [.one (.c (.string x0))]) ⟨⟨rfl, h0⟩, trivial⟩ (fun B => ?_)
  refine AM_seq ?_
  refine AM_region ?_
  refine AL_p (x_assign rfl rfl) ?_
  refine AL_nil ?_
  refine AM_seq ?_
  refine AM_seq ?_
  refine AM_region ?_
  refine AL_p (x_move rfl rfl) ?_
  refine AL_p (x_lens rfl rfl (by kernel_rfl)) ?_
  refine AL_b (x_gtr rfl rfl rfl) (fun b16 h16 => ?_)
  refine AL_nil ?_
  cases b16
  rotate_left
  · try simp only [tdy] at h16
    refine AM_condT rfl ?_
    refine AM_seq ?_
    refine AM_region ?_
    refine AL_p (x_assign rfl rfl) ?_
    refine AL_nil ?_
    refine AM_ret ?_
    exact rfl
  try simp only [tdy] at h16
  refine AM_condF rfl ?_
  refine AM_skip ?_
  refine AM_seq ?_
  refine AM_region ?_
  refine AL_p (x_move rfl rfl) ?_
  refine AL_p (x_call0 rfl rfl rfl (parseR_c x0 (by omega)) rfl rfl) ?_
  refine AL_p (x_move rfl rfl) ?_
  refine AL_p (x_extract rfl rfl rfl) ?_
  refine AL_p (x_extract rfl rfl rfl) ?_
  refine AL_p (x_extract rfl rfl rfl) ?_
  refine AL_p (x_alloc (z := .agg #[.slice none 0 0, .slice none 0 0]) 100 rfl (by kernel_rfl) rfl rfl rfl rfl) ?_
  refine AL_p (x_store (n := 2) rfl rfl rfl rfl (by kernel_rfl) rfl rfl rfl) ?_
  refine AL_p (x_assign rfl rfl) ?_
  refine AL_p (x_assign rfl rfl) ?_
  refine AL_nil ?_
  refine AM_raise (fun B' => [(0, .one (.c _)), (3, .one (.epo B' programE ((parseI x0).1) 0)), (4, .one (.c _)), (5, .one (.c _))]) (fun B' => ⟨⟨_, rfl, .c⟩, ⟨_, rfl, .box (f := programC) rfl rfl rfl FitL.rf⟩, ⟨_, rfl, .c⟩, ⟨_, rfl, .c⟩, trivial⟩) (fun B' => ?_)
  refine AM_seq ?_
  refine AM_region ?_
  refine AL_p (x_move rfl rfl) ?_
  refine AL_p (x_callR rfl rfl rfl ((AC.renum (res := .tup [.agg [.own 101, .own 102], .one (.c (.int .i64 ((parseI x0).2.1))), .one (.c (.int .i64 ((parseI x0).2.2)))]) (L := [(101, some (.arr 97 declE (parseI x0).1.decls true)), (102, some (.arr 36 ruleE (parseI x0).1.rules true))]) (r := rn [(101, 0), (102, 1)]) (parseI_c0 x0 (by omega)) ⟨⟨_, rfl, BLe.rf⟩, ⟨_, rfl, BLe.rf⟩, trivial⟩ rfl)) rfl AllV.rf rfl rfl rfl rfl rfl) ?_
  refine AL_p (x_move rfl rfl) ?_
  refine AL_p (x_extract rfl rfl rfl) ?_
  refine AL_p (x_extract rfl rfl rfl) ?_
  refine AL_p (x_extract rfl rfl rfl) ?_
  refine AL_p (x_alloc (z := .agg #[.slice none 0 0, .slice none 0 0]) 103 rfl (by kernel_rfl) rfl rfl rfl rfl) ?_
  refine AL_p (x_store (n := 2) rfl rfl rfl rfl (by kernel_rfl) rfl rfl rfl) ?_
  refine AL_p (x_assign rfl rfl) ?_
  refine AL_p (x_assign rfl rfl) ?_
  refine AL_nil ?_
  refine AM_seq ?_
  refine AM_seq ?_
  refine AM_region ?_
  refine AL_p (x_loadN (n := 2) rfl rfl rfl (by kernel_rfl) rfl rfl) ?_
  refine AL_p (x_pload (f := programC) (n := 2) rfl rfl (by kernel_rfl) rfl rfl) ?_
  refine AL_p (x_callR rfl rfl rfl (eqProgram_c ((parseI x0).1)) rfl AllV.rf rfl rfl rfl rfl rfl) ?_
  refine AL_p (x_not rfl rfl) ?_
  refine AL_p (x_move rfl rfl) ?_
  refine AL_g rfl rfl (x_move rfl rfl) ?_
  refine AL_g rfl rfl (x_move rfl rfl) ?_
  refine AL_gb rfl rfl (x_neq rfl rfl rfl) (fun b36 h36 => ?_)
  refine AL_p (x_pickF rfl rfl rfl) ?_
  refine AL_p (x_move rfl rfl) ?_
  cases b36
  rotate_left
  · exfalso; first | (simp [ba_beq_self] at h36; done) | (simp at h36; omega)
  try simp only [tdy] at h36
  refine AL_g rfl rfl (x_move rfl rfl) ?_
  refine AL_g rfl rfl (x_move rfl rfl) ?_
  refine AL_gb rfl rfl (x_neq rfl rfl rfl) (fun b41 h41 => ?_)
  refine AL_p (x_pickF rfl rfl rfl) ?_
  refine AL_nil ?_
  cases b41
  rotate_left
  · exfalso; first | (simp [ba_beq_self] at h41; done) | (simp at h41; omega)
  try simp only [tdy] at h41
  refine AM_condF rfl ?_
  refine AM_skip ?_
  refine AM_seq ?_
  refine AM_region ?_
  refine AL_p (x_assign rfl rfl) ?_
  refine AL_nil ?_
  refine AM_seq ?_
  refine AM_regionM ?_
  refine LM_p (x_loadN (n := 2) rfl rfl rfl (by kernel_rfl) rfl rfl) ?_
  refine LM_p (x_move rfl rfl) ?_
  have n0 : cntDProgram ((parseI x0).1) ≤ 1152921504606846976 := parse_cnt x0
  have v0 := markDProgram_cnt ((parseI x0).1) (1)
  refine LM_markAK (F := programC) (z := (parseI x0).1) (z' := (markDProgram (parseI x0).1 (1)).1) 6 103 (fun B' => [(0, .one (.c _)), (3, .one (.epo B' programE ((parseI x0).1) 0)), (4, .one (.c _)), (5, .one (.c _)), (9, .one (.c _))]) rfl rfl rfl rfl rfl rfl rfl rfl ⟨_, _, Try.func24, rfl, rfl⟩ (fun w cs bs h hF => markDProgram_any cs _ bs _ 0 w h hF (by omega) (by omega)) rfl rfl FitL.rf (wf64 (by omega) (by omega)) (fun B' => ⟨⟨_, rfl, .c⟩, ⟨_, rfl, .epo⟩, ⟨_, rfl, .c⟩, ⟨_, rfl, .c⟩, ⟨_, rfl, .c⟩, trivial⟩) (fun B' => ?_)
  refine LM_p (x_assign rfl rfl) ?_
  refine LM_nil ?_
  refine AM_seq ?_
  refine AM_region ?_
  refine AL_p (x_assign rfl rfl) ?_
  refine AL_nil ?_
  refine AM_seq ?_
  refine AM_region ?_
  refine AL_p (x_pload (f := programC) (n := 2) rfl rfl (by kernel_rfl) rfl rfl) ?_
  refine AL_p (x_move rfl rfl) ?_
  refine AL_p (x_callR rfl rfl rfl (heldDProgram_c ((parseI x0).1) (1) (by omega) (by omega)) rfl AllV.rf rfl rfl rfl rfl rfl) ?_
  refine AL_p (x_assign rfl rfl) ?_
  refine AL_nil ?_
  refine AM_seq ?_
  refine AM_seq ?_
  refine AM_region ?_
  refine AL_p (x_move rfl rfl) ?_
  refine AL_b (x_lss rfl rfl rfl) (fun b50 h50 => ?_)
  refine AL_nil ?_
  cases b50
  rotate_left
  · exfalso; first | (simp [ba_beq_self] at h50; done) | (simp at h50; omega)
  try simp only [tdy] at h50
  refine AM_condF rfl ?_
  refine AM_skip ?_
  refine AM_seq ?_
  refine AM_seq ?_
  refine AM_region ?_
  refine AL_p (x_move rfl rfl) ?_
  refine AL_p (x_move rfl rfl) ?_
  refine AL_b (x_neq rfl rfl rfl) (fun b53 h53 => ?_)
  refine AL_nil ?_
  cases b53
  rotate_left
  · exfalso; first | (simp [ba_beq_self] at h53; done) | (simp at h53; omega)
  try simp only [tdy] at h53
  refine AM_condF rfl ?_
  refine AM_skip ?_
  refine AM_seq ?_
  refine AM_region ?_
  refine AL_p (x_move rfl rfl) ?_
  refine AL_p (x_callR rfl rfl rfl ((AC.renum (res := .tup [.agg [.own 104, .own 105], .one (.c (.int .i64 ((parseI x0).2.1))), .one (.c (.int .i64 ((parseI x0).2.2)))]) (L := [(104, some (.arr 97 declE (parseI x0).1.decls true)), (105, some (.arr 36 ruleE (parseI x0).1.rules true))]) (r := rn [(104, 0), (105, 1)]) (parseI_c0 x0 (by omega)) ⟨⟨_, rfl, BLe.rf⟩, ⟨_, rfl, BLe.rf⟩, trivial⟩ rfl)) rfl AllV.rf rfl rfl rfl rfl rfl) ?_
  refine AL_p (x_move rfl rfl) ?_
  refine AL_p (x_extract rfl rfl rfl) ?_
  refine AL_p (x_extract rfl rfl rfl) ?_
  refine AL_p (x_extract rfl rfl rfl) ?_
  refine AL_p (x_alloc (z := .agg #[.slice none 0 0, .slice none 0 0]) 106 rfl (by kernel_rfl) rfl rfl rfl rfl) ?_
  refine AL_p (x_store (n := 2) rfl rfl rfl rfl (by kernel_rfl) rfl rfl rfl) ?_
  refine AL_p (x_assign rfl rfl) ?_
  refine AL_p (x_assign rfl rfl) ?_
  refine AL_nil ?_
  refine AM_seq ?_
  refine AM_seq ?_
  refine AM_region ?_
  refine AL_p (x_loadN (n := 2) rfl rfl rfl (by kernel_rfl) rfl rfl) ?_
  refine AL_p (x_pload (f := programC) (n := 2) rfl rfl (by kernel_rfl) rfl rfl) ?_
  refine AL_p (x_callR rfl rfl rfl (eqProgram_c ((parseI x0).1)) rfl AllV.rf rfl rfl rfl rfl rfl) ?_
  refine AL_p (x_not rfl rfl) ?_
  refine AL_p (x_move rfl rfl) ?_
  refine AL_g rfl rfl (x_move rfl rfl) ?_
  refine AL_g rfl rfl (x_move rfl rfl) ?_
  refine AL_gb rfl rfl (x_neq rfl rfl rfl) (fun b67 h67 => ?_)
  refine AL_p (x_pickF rfl rfl rfl) ?_
  refine AL_p (x_move rfl rfl) ?_
  cases b67
  rotate_left
  · exfalso; first | (simp [ba_beq_self] at h67; done) | (simp at h67; omega)
  try simp only [tdy] at h67
  refine AL_g rfl rfl (x_move rfl rfl) ?_
  refine AL_g rfl rfl (x_move rfl rfl) ?_
  refine AL_gb rfl rfl (x_neq rfl rfl rfl) (fun b72 h72 => ?_)
  refine AL_p (x_pickF rfl rfl rfl) ?_
  refine AL_nil ?_
  cases b72
  rotate_left
  · exfalso; first | (simp [ba_beq_self] at h72; done) | (simp at h72; omega)
  try simp only [tdy] at h72
  refine AM_condF rfl ?_
  refine AM_skip ?_
  refine AM_seq ?_
  refine AM_region ?_
  refine AL_p (x_assign rfl rfl) ?_
  refine AL_nil ?_
  refine AM_seq ?_
  refine AM_region ?_
  refine AL_p (x_pload (f := programC) (n := 2) rfl rfl (by kernel_rfl) rfl rfl) ?_
  refine AL_p (x_move rfl rfl) ?_
  refine AL_p (x_callR rfl rfl rfl (heldDProgram_c ((parseI x0).1) (1) (by omega) (by omega)) rfl AllV.rf rfl rfl rfl rfl rfl) ?_
  refine AL_p (x_assign rfl rfl) ?_
  refine AL_nil ?_
  refine AM_seq ?_
  refine AM_seq ?_
  refine AM_region ?_
  refine AL_p (x_move rfl rfl) ?_
  refine AL_b (x_lss rfl rfl rfl) (fun b78 h78 => ?_)
  refine AL_nil ?_
  cases b78
  rotate_left
  · exfalso; first | (simp [ba_beq_self] at h78; done) | (simp at h78; omega)
  try simp only [tdy] at h78
  refine AM_condF rfl ?_
  refine AM_skip ?_
  refine AM_seq ?_
  refine AM_seq ?_
  refine AM_region ?_
  refine AL_p (x_move rfl rfl) ?_
  refine AL_p (x_move rfl rfl) ?_
  refine AL_b (x_neq rfl rfl rfl) (fun b81 h81 => ?_)
  refine AL_nil ?_
  cases b81
  rotate_left
  · exfalso; first | (simp [ba_beq_self] at h81; done) | (simp at h81; omega)
  try simp only [tdy] at h81
  refine AM_condF rfl ?_
  refine AM_skip ?_
  refine AM_seq ?_
  refine AM_region ?_
  refine AL_p (x_assign rfl rfl) ?_
  refine AL_nil ?_
  refine AM_ret ?_
  exact rfl
end Go.Proofs.Ytkemjhlbokldhaa

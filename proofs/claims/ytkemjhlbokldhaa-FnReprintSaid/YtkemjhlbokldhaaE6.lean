/- Lemmas of the walks, part 6. -/
import Derived.Test.YtkemjhlbokldhaaE5
/- Tokens are read by the reference (printed by walk.py) -/
namespace Go.Proofs.Ytkemjhlbokldhaa
open Go.RowKit
set_option linter.unusedVariables false
set_option linter.unusedSimpArgs false
set_option maxRecDepth 100000

set_option maxHeartbeats 4000000 in
theorem sFault_c (tk : List Tokent) (e : Int) (st : PS) (hm : tk.length ≤ 1048576) (hi : st.i ≤ tk.length) (c : Int) : AC Try.prog 55 [.one (.ptr 200 0), .one (.c (.int .i64 (c)))] [(200, some (psB tk e st))] (.tup []) [(200, some (psB tk e (faultP tk e c st)))] := by
 refine AC_body0 Try.func55 rfl rfl Try.ntmps55 rfl Try.results55 ?_
 refine AW_seq ?_
 refine AW_seq ?_
 refine AW_region ?_
 refine AL_p (x_move rfl rfl) ?_
 refine AL_p (x_nilc rfl rfl rfl) ?_
 refine AL_p (x_field (off := 3) (o' := 3) rfl rfl rfl (by kernel_rfl) rfl) ?_
 refine AL_p (x_load1 rfl rfl rfl (by kernel_rfl) rfl) ?_
 refine AL_b (x_neq rfl rfl rfl) (fun b8 h8 => ?_)
 refine AL_nil ?_
 cases b8
 rotate_left
 · try simp only [tdy] at h8
   have hno := fault_bad (tk := tk) (e := e) (c := c) (st := st) (by omega)
   refine AW_condT rfl ?_
   refine AW_ret ?_
   exact ⟨rn [], ⟨trivial, ⟨⟨_, rfl, by first | exact BLe.rf | exact ble_eq (by rw [hno]; first | done | rfl)⟩, trivial⟩, ⟨⟨rfl, .inl nofun, fun _ _ => ⟨_, rfl⟩⟩, trivial⟩, rfl⟩⟩
 try simp only [tdy] at h8
 have hn1 := fault_ok (tk := tk) (e := e) (c := c) (st := st) (by omega)
 refine AW_condF rfl ?_
 refine AW_skip ?_
 refine AW_seq ?_
 refine AW_region ?_
 refine AL_p (x_move rfl rfl) ?_
 refine AL_p (x_move rfl rfl) ?_
 refine AL_p (x_nilc rfl rfl rfl) ?_
 refine AL_p (x_field (off := 3) (o' := 3) rfl rfl rfl (by kernel_rfl) rfl) ?_
 refine AL_p (x_store (n := 1) rfl rfl rfl rfl (by kernel_rfl) rfl rfl rfl) ?_
 refine AL_nil ?_
 refine AW_seq ?_
 refine AW_region ?_
 refine AL_p (x_move rfl rfl) ?_
 refine AL_p (x_move rfl rfl) ?_
 refine AL_p (x_nilc rfl rfl rfl) ?_
 refine AL_p (x_field (off := 2) (o' := 2) rfl rfl rfl (by kernel_rfl) rfl) ?_
 refine AL_p (x_load1 rfl rfl rfl (by kernel_rfl) rfl) ?_
 refine AL_p (x_nilc rfl rfl rfl) ?_
 refine AL_p (x_field (off := 4) (o' := 4) rfl rfl rfl (by kernel_rfl) rfl) ?_
 refine AL_p (x_store (n := 1) rfl rfl rfl rfl (by kernel_rfl) rfl rfl rfl) ?_
 refine AL_nil ?_
 refine AW_seq ?_
 refine AW_draw rfl ?_
 refine AL_p (x_move rfl rfl) ?_
 refine AL_p (x_nilc rfl rfl rfl) ?_
 refine AL_p (x_field (off := 1) (o' := 1) rfl rfl rfl (by kernel_rfl) rfl) ?_
 refine AL_p (x_load1 rfl rfl rfl (by kernel_rfl) rfl) ?_
 refine AL_p (x_move rfl rfl) ?_
 refine AL_p (x_nilc rfl rfl rfl) ?_
 refine AL_p (x_field (off := 0) (o' := 0) rfl rfl rfl (by kernel_rfl) rfl) ?_
 refine AL_p (x_load1 rfl rfl rfl (by kernel_rfl) rfl) ?_
 refine AL_p (x_len (E := 83) (n := 4) rfl rfl (by kernel_rfl)) ?_
 refine AL_b (x_lss rfl rfl rfl) (fun b29 h29 => ?_)
 refine AL_nild (by kernel_rfl) ?_
 cases b29
 · try simp only [tdy] at h29
   have hno := hn1.trans (by rw [here_end (by omega)])
   refine AW_condF rfl ?_
   refine AW_skip ?_
   exact ⟨rn [], ⟨trivial, ⟨⟨_, rfl, by first | exact BLe.rf | exact ble_eq (by rw [hno]; first | done | rfl)⟩, trivial⟩, ⟨⟨rfl, .inl nofun, fun _ _ => ⟨_, rfl⟩⟩, trivial⟩, rfl⟩⟩
 try simp only [tdy] at h29
 have hh : hereT tk e st = (tk[st.i]'(by omega)) := here_ok (by omega) (by omega)
 have hno := hn1.trans (by rw [hh])
 refine AW_condT rfl ?_
 refine AW_draw rfl ?_
 refine AL_p (x_move rfl rfl) ?_
 refine AL_p (x_move rfl rfl) ?_
 refine AL_p (x_nilc rfl rfl rfl) ?_
 refine AL_p (x_field (off := 0) (o' := 0) rfl rfl rfl (by kernel_rfl) rfl) ?_
 refine AL_p (x_load1 rfl rfl rfl (by kernel_rfl) rfl) ?_
 refine AL_p (x_move rfl rfl) ?_
 refine AL_p (x_nilc rfl rfl rfl) ?_
 refine AL_p (x_field (off := 1) (o' := 1) rfl rfl rfl (by kernel_rfl) rfl) ?_
 refine AL_p (x_load1 rfl rfl rfl (by kernel_rfl) rfl) ?_
 refine AL_p (x_index (E := 83) (n := 4) rfl rfl rfl (by kernel_rfl) rfl (k := st.i) (by omega) (by omega)) ?_
 refine AL_p (x_efield (off := 3) (o' := 3) rfl rfl (by kernel_rfl) rfl) ?_
 refine AL_p (x_eload1 rfl rfl (by kernel_rfl) rfl) ?_
 refine AL_p (x_nilc rfl rfl rfl) ?_
 refine AL_p (x_field (off := 4) (o' := 4) rfl rfl rfl (by kernel_rfl) rfl) ?_
 refine AL_p (x_store (n := 1) rfl rfl rfl rfl (by kernel_rfl) rfl rfl rfl) ?_
 refine AL_nild (by kernel_rfl) ?_
 exact ⟨rn [], ⟨trivial, ⟨⟨_, rfl, by first | exact BLe.rf | exact ble_eq (by rw [hno]; first | done | rfl)⟩, trivial⟩, ⟨⟨rfl, .inl nofun, fun _ _ => ⟨_, rfl⟩⟩, trivial⟩, rfl⟩⟩

set_option maxHeartbeats 4000000 in
theorem sIs_c (tk : List Tokent) (e : Int) (st : PS) (hm : tk.length ≤ 1048576) (j : Nat) (s : ByteArray) : AC Try.prog 58 [.one (.ptr 200 0), .one (.c (.int .i64 ((j : Int)))), .one (.c (.string (s)))] [(200, some (psB tk e st))] (.one (.c (.bool (signT (hereT tk e (⟨j, st.code, st.place⟩ : PS)) s)))) [(200, some (psB tk e st))] := by
 refine AC_body1 Try.func58 rfl rfl Try.ntmps58 rfl Try.results58 ?_
 refine AW_seq ?_
 refine AW_region ?_
 refine AL_p (x_assign rfl rfl) ?_
 refine AL_nil ?_
 refine AW_seq ?_
 refine AW_region ?_
 refine AL_p (x_move rfl rfl) ?_
 refine AL_p (x_nilc rfl rfl rfl) ?_
 refine AL_p (x_field (off := 3) (o' := 3) rfl rfl rfl (by kernel_rfl) rfl) ?_
 refine AL_p (x_load1 rfl rfl rfl (by kernel_rfl) rfl) ?_
 refine AL_b (x_eql rfl rfl rfl) (fun b11 h11 => ?_)
 refine AL_p (x_move rfl rfl) ?_
 cases b11
 · try simp only [tdy] at h11
   have hh := here_bad (tk := tk) (e := e) (st := (⟨j, st.code, st.place⟩ : PS)) h11
   refine AL_o rfl rfl rfl rfl ?_
   refine AL_o rfl rfl rfl rfl ?_
   refine AL_o rfl rfl rfl rfl ?_
   refine AL_o rfl rfl rfl rfl ?_
   refine AL_o rfl rfl rfl rfl ?_
   refine AL_o rfl rfl rfl rfl ?_
   refine AL_o rfl rfl rfl rfl ?_
   refine AL_p (x_pickF rfl rfl rfl) ?_
   refine AL_p (x_move rfl rfl) ?_
   refine AL_o rfl rfl rfl rfl ?_
   refine AL_o rfl rfl rfl rfl ?_
   refine AL_o rfl rfl rfl rfl ?_
   refine AL_o rfl rfl rfl rfl ?_
   refine AL_o rfl rfl rfl rfl ?_
   refine AL_o rfl rfl rfl rfl ?_
   refine AL_o rfl rfl rfl rfl ?_
   refine AL_o rfl rfl rfl rfl ?_
   refine AL_o rfl rfl rfl rfl ?_
   refine AL_p (x_pickF rfl rfl rfl) ?_
   refine AL_p (x_move rfl rfl) ?_
   refine AL_o rfl rfl rfl rfl ?_
   refine AL_o rfl rfl rfl rfl ?_
   refine AL_o rfl rfl rfl rfl ?_
   refine AL_o rfl rfl rfl rfl ?_
   refine AL_o rfl rfl rfl rfl ?_
   refine AL_o rfl rfl rfl rfl ?_
   refine AL_o rfl rfl rfl rfl ?_
   refine AL_o rfl rfl rfl rfl ?_
   refine AL_o rfl rfl rfl rfl ?_
   refine AL_o rfl rfl rfl rfl ?_
   refine AL_p (x_pickF rfl rfl rfl) ?_
   refine AL_p (x_assign rfl rfl) ?_
   refine AL_nil ?_
   refine AW_ret ?_
   exact ⟨rn [], ⟨⟨⟨_, rfl, vle_bool (by rw [hh]; simp [signT, *])⟩, trivial⟩, ⟨⟨_, rfl, by first | exact BLe.rf | exact ble_eq (by rw [hno]; first | done | rfl)⟩, trivial⟩, ⟨⟨rfl, .inl nofun, fun _ _ => ⟨_, rfl⟩⟩, trivial⟩, rfl⟩⟩
 try simp only [tdy] at h11
 refine AL_g rfl rfl (x_move rfl rfl) ?_
 refine AL_g rfl rfl (x_move rfl rfl) ?_
 refine AL_g rfl rfl (x_nilc rfl rfl rfl) ?_
 refine AL_g rfl rfl (x_field (off := 0) (o' := 0) rfl rfl rfl (by kernel_rfl) rfl) ?_
 refine AL_g rfl rfl (x_load1 rfl rfl rfl (by kernel_rfl) rfl) ?_
 refine AL_g rfl rfl (x_len (E := 83) (n := 4) rfl rfl (by kernel_rfl)) ?_
 refine AL_gb rfl rfl (x_lss rfl rfl rfl) (fun b19 h19 => ?_)
 refine AL_p (x_pickT rfl rfl rfl) ?_
 refine AL_p (x_move rfl rfl) ?_
 cases b19
 · try simp only [tdy] at h19
   have hh := here_end (tk := tk) (e := e) (st := (⟨j, st.code, st.place⟩ : PS)) (by show ¬ j < _; omega)
   refine AL_o rfl rfl rfl rfl ?_
   refine AL_o rfl rfl rfl rfl ?_
   refine AL_o rfl rfl rfl rfl ?_
   refine AL_o rfl rfl rfl rfl ?_
   refine AL_o rfl rfl rfl rfl ?_
   refine AL_o rfl rfl rfl rfl ?_
   refine AL_o rfl rfl rfl rfl ?_
   refine AL_o rfl rfl rfl rfl ?_
   refine AL_o rfl rfl rfl rfl ?_
   refine AL_p (x_pickF rfl rfl rfl) ?_
   refine AL_p (x_move rfl rfl) ?_
   refine AL_o rfl rfl rfl rfl ?_
   refine AL_o rfl rfl rfl rfl ?_
   refine AL_o rfl rfl rfl rfl ?_
   refine AL_o rfl rfl rfl rfl ?_
   refine AL_o rfl rfl rfl rfl ?_
   refine AL_o rfl rfl rfl rfl ?_
   refine AL_o rfl rfl rfl rfl ?_
   refine AL_o rfl rfl rfl rfl ?_
   refine AL_o rfl rfl rfl rfl ?_
   refine AL_o rfl rfl rfl rfl ?_
   refine AL_p (x_pickF rfl rfl rfl) ?_
   refine AL_p (x_assign rfl rfl) ?_
   refine AL_nil ?_
   refine AW_ret ?_
   exact ⟨rn [], ⟨⟨⟨_, rfl, vle_bool (by rw [hh]; simp [signT, *])⟩, trivial⟩, ⟨⟨_, rfl, by first | exact BLe.rf | exact ble_eq (by rw [hno]; first | done | rfl)⟩, trivial⟩, ⟨⟨rfl, .inl nofun, fun _ _ => ⟨_, rfl⟩⟩, trivial⟩, rfl⟩⟩
 try simp only [tdy] at h19
 have hh := here_ok (tk := tk) (e := e) (st := (⟨j, st.code, st.place⟩ : PS)) h11 (by show j < _; omega)
 refine AL_g rfl rfl (x_move rfl rfl) ?_
 refine AL_g rfl rfl (x_nilc rfl rfl rfl) ?_
 refine AL_g rfl rfl (x_field (off := 0) (o' := 0) rfl rfl rfl (by kernel_rfl) rfl) ?_
 refine AL_g rfl rfl (x_load1 rfl rfl rfl (by kernel_rfl) rfl) ?_
 refine AL_g rfl rfl (x_move rfl rfl) ?_
 refine AL_g rfl rfl (x_index (E := 83) (n := 4) rfl rfl rfl (by kernel_rfl) rfl (k := j) (by omega) (by omega)) ?_
 refine AL_g rfl rfl (x_efield (off := 0) (o' := 0) rfl rfl (by kernel_rfl) rfl) ?_
 refine AL_g rfl rfl (x_eload1 rfl rfl (by kernel_rfl) rfl) ?_
 refine AL_gb rfl rfl (x_eql rfl rfl rfl) (fun b30 h30 => ?_)
 refine AL_p (x_pickT rfl rfl rfl) ?_
 refine AL_p (x_move rfl rfl) ?_
 cases b30
 · try simp only [tdy] at h30
   refine AL_o rfl rfl rfl rfl ?_
   refine AL_o rfl rfl rfl rfl ?_
   refine AL_o rfl rfl rfl rfl ?_
   refine AL_o rfl rfl rfl rfl ?_
   refine AL_o rfl rfl rfl rfl ?_
   refine AL_o rfl rfl rfl rfl ?_
   refine AL_o rfl rfl rfl rfl ?_
   refine AL_o rfl rfl rfl rfl ?_
   refine AL_o rfl rfl rfl rfl ?_
   refine AL_o rfl rfl rfl rfl ?_
   refine AL_p (x_pickF rfl rfl rfl) ?_
   refine AL_p (x_assign rfl rfl) ?_
   refine AL_nil ?_
   refine AW_ret ?_
   exact ⟨rn [], ⟨⟨⟨_, rfl, vle_bool (by rw [hh]; simp [signT, *])⟩, trivial⟩, ⟨⟨_, rfl, by first | exact BLe.rf | exact ble_eq (by rw [hno]; first | done | rfl)⟩, trivial⟩, ⟨⟨rfl, .inl nofun, fun _ _ => ⟨_, rfl⟩⟩, trivial⟩, rfl⟩⟩
 try simp only [tdy] at h30
 refine AL_g rfl rfl (x_move rfl rfl) ?_
 refine AL_g rfl rfl (x_nilc rfl rfl rfl) ?_
 refine AL_g rfl rfl (x_field (off := 0) (o' := 0) rfl rfl rfl (by kernel_rfl) rfl) ?_
 refine AL_g rfl rfl (x_load1 rfl rfl rfl (by kernel_rfl) rfl) ?_
 refine AL_g rfl rfl (x_move rfl rfl) ?_
 refine AL_g rfl rfl (x_index (E := 83) (n := 4) rfl rfl rfl (by kernel_rfl) rfl (k := j) (by omega) (by omega)) ?_
 refine AL_g rfl rfl (x_efield (off := 2) (o' := 2) rfl rfl (by kernel_rfl) rfl) ?_
 refine AL_g rfl rfl (x_eload1 rfl rfl (by kernel_rfl) rfl) ?_
 refine AL_g rfl rfl (x_move rfl rfl) ?_
 refine AL_gb rfl rfl (x_seql rfl rfl rfl) (fun b42 h42 => ?_)
 refine AL_p (x_pickT rfl rfl rfl) ?_
 refine AL_p (x_assign rfl rfl) ?_
 refine AL_nil ?_
 refine AW_ret ?_
 cases b42
 rotate_left
 · try simp only [tdy] at h42
   exact ⟨rn [], ⟨⟨⟨_, rfl, vle_bool (by rw [hh]; simp [signT, *])⟩, trivial⟩, ⟨⟨_, rfl, by first | exact BLe.rf | exact ble_eq (by rw [hno]; first | done | rfl)⟩, trivial⟩, ⟨⟨rfl, .inl nofun, fun _ _ => ⟨_, rfl⟩⟩, trivial⟩, rfl⟩⟩
 try simp only [tdy] at h42
 exact ⟨rn [], ⟨⟨⟨_, rfl, vle_bool (by rw [hh]; simp [signT, *])⟩, trivial⟩, ⟨⟨_, rfl, by first | exact BLe.rf | exact ble_eq (by rw [hno]; first | done | rfl)⟩, trivial⟩, ⟨⟨rfl, .inl nofun, fun _ _ => ⟨_, rfl⟩⟩, trivial⟩, rfl⟩⟩

theorem sIsH_c (tk : List Tokent) (e : Int) (st : PS) (hm : tk.length ≤ 1048576) (hi : st.i ≤ tk.length) (s : ByteArray) : AC Try.prog 58 [.one (.ptr 200 0), .one (.c (.int .i64 (((st.i : Nat) : Int)))), .one (.c (.string (s)))] [(200, some (psB tk e st))] (.one (.c (.bool (signT (hereT tk e st) s)))) [(200, some (psB tk e st))] := sIs_c tk e st hm st.i s

theorem sIsN_c (tk : List Tokent) (e : Int) (st : PS) (hm : tk.length ≤ 1048576) (hi : st.i ≤ tk.length) (s : ByteArray) : AC Try.prog 58 [.one (.ptr 200 0), .one (.c (.int .i64 (((st.i : Nat) : Int) + 1))), .one (.c (.string (s)))] [(200, some (psB tk e st))] (.one (.c (.bool (signT (hereT tk e st.next) s)))) [(200, some (psB tk e st))] := sIs_c tk e st hm (st.i + 1) s

set_option maxHeartbeats 4000000 in
theorem sTake_c (tk : List Tokent) (e : Int) (st : PS) (hm : tk.length ≤ 1048576) (hi : st.i ≤ tk.length) (s : ByteArray) : AC Try.prog 106 [.one (.ptr 200 0), .one (.c (.string (s)))] [(200, some (psB tk e st))] (.tup []) [(200, some (psB tk e (takeP tk e s st)))] := by
 refine AC_body0 Try.func106 rfl rfl Try.ntmps106 rfl Try.results106 ?_
 refine AW_seq ?_
 refine AW_seq ?_
 refine AW_region ?_
 refine AL_p (x_move rfl rfl) ?_
 refine AL_p (x_move rfl rfl) ?_
 refine AL_p (x_nilc rfl rfl rfl) ?_
 refine AL_p (x_field (off := 1) (o' := 1) rfl rfl rfl (by kernel_rfl) rfl) ?_
 refine AL_p (x_load1 rfl rfl rfl (by kernel_rfl) rfl) ?_
 refine AL_p (x_move rfl rfl) ?_
 refine AL_bc (x_call (ks := []) (L := [(200, some _)]) (L' := [(200, some _)]) rfl rfl rfl (sIsH_c tk e st hm hi s) rfl AllV.rf (caught_of rfl) rfl rfl rfl ⟨rfl, trivial⟩ rfl) (fun b10 h10 => ?_)
 refine AL_p (x_not rfl rfl) ?_
 refine AL_nil ?_
 cases b10
 · try simp only [tdy] at h10
   have hno := take_no h10
   refine AW_condT rfl ?_
   refine AW_seq ?_
   refine AW_region ?_
   refine AL_p (x_move rfl rfl) ?_
   refine AL_p (x_call (ks := []) (L := [(200, some _)]) (L' := [(200, some _)]) rfl rfl rfl (sFault_c tk e st hm hi 6) rfl AllV.rf (caught_of rfl) rfl rfl rfl ⟨rfl, trivial⟩ rfl) ?_
   refine AL_nil ?_
   refine AW_ret ?_
   exact ⟨rn [], ⟨trivial, ⟨⟨_, rfl, by first | exact BLe.rf | exact ble_eq (by rw [hno]; first | done | rfl)⟩, trivial⟩, ⟨⟨rfl, .inl nofun, fun _ _ => ⟨_, rfl⟩⟩, trivial⟩, rfl⟩⟩
 try simp only [tdy] at h10
 have hno := take_ok h10
 have hlt := sign_lt h10
 refine AW_condF rfl ?_
 refine AW_skip ?_
 refine AW_region ?_
 refine AL_p (x_move rfl rfl) ?_
 refine AL_p (x_nilc rfl rfl rfl) ?_
 refine AL_p (x_field (off := 1) (o' := 1) rfl rfl rfl (by kernel_rfl) rfl) ?_
 refine AL_p (x_load1 rfl rfl rfl (by kernel_rfl) rfl) ?_
 refine AL_p (x_add rfl rfl rfl (IntWalk.i64_in _ (by omega))) ?_
 refine AL_p (x_nilc rfl rfl rfl) ?_
 refine AL_p (x_field (off := 1) (o' := 1) rfl rfl rfl (by kernel_rfl) rfl) ?_
 refine AL_p (x_store (n := 1) rfl rfl rfl rfl (by kernel_rfl) rfl rfl rfl) ?_
 refine AL_nil ?_
 exact ⟨rn [], ⟨trivial, ⟨⟨_, rfl, by first | exact BLe.rf | exact ble_eq (by rw [hno]; first | done | rfl)⟩, trivial⟩, ⟨⟨rfl, .inl nofun, fun _ _ => ⟨_, rfl⟩⟩, trivial⟩, rfl⟩⟩

set_option maxHeartbeats 4000000 in
theorem sWord_c (tk : List Tokent) (e : Int) (st : PS) (hm : tk.length ≤ 1048576) (hi : st.i ≤ tk.length) : AC Try.prog 105 [.one (.ptr 200 0)] [(200, some (psB tk e st))] (.one (.c (.string ((wordP tk e st).1)))) [(200, some (psB tk e (wordP tk e st).2))] := by
 refine AC_body1 Try.func105 rfl rfl Try.ntmps105 rfl Try.results105 ?_
 refine AW_seq ?_
 refine AW_region ?_
 refine AL_p (x_assign rfl rfl) ?_
 refine AL_nil ?_
 refine AW_seq ?_
 refine AW_seq ?_
 refine AW_draw rfl ?_
 refine AL_p (x_move rfl rfl) ?_
 refine AL_p (x_nilc rfl rfl rfl) ?_
 refine AL_p (x_field (off := 3) (o' := 3) rfl rfl rfl (by kernel_rfl) rfl) ?_
 refine AL_p (x_load1 rfl rfl rfl (by kernel_rfl) rfl) ?_
 refine AL_b (x_neq rfl rfl rfl) (fun b7 h7 => ?_)
 refine AL_p (x_move rfl rfl) ?_
 cases b7
 rotate_left
 · try simp only [tdy] at h7
   have h0k : (hereT tk e st).kind = 0 := here_kind (fun q => by omega)
   have hnm : nameT (hereT tk e st) = false := name_zero h0k
   have hno := word_no hnm
   refine AL_o rfl rfl rfl rfl ?_
   refine AL_o rfl rfl rfl rfl ?_
   refine AL_o rfl rfl rfl rfl ?_
   refine AL_o rfl rfl rfl rfl ?_
   refine AL_o rfl rfl rfl rfl ?_
   refine AL_o rfl rfl rfl rfl ?_
   refine AL_o rfl rfl rfl rfl ?_
   refine AL_o rfl rfl rfl rfl ?_
   refine AL_o rfl rfl rfl rfl ?_
   refine AL_o rfl rfl rfl rfl ?_
   refine AL_p (x_pickT rfl rfl rfl) ?_
   refine AL_p (x_move rfl rfl) ?_
   refine AL_o rfl rfl rfl rfl ?_
   refine AL_o rfl rfl rfl rfl ?_
   refine AL_o rfl rfl rfl rfl ?_
   refine AL_o rfl rfl rfl rfl ?_
   refine AL_o rfl rfl rfl rfl ?_
   refine AL_o rfl rfl rfl rfl ?_
   refine AL_o rfl rfl rfl rfl ?_
   refine AL_o rfl rfl rfl rfl ?_
   refine AL_o rfl rfl rfl rfl ?_
   refine AL_o rfl rfl rfl rfl ?_
   refine AL_o rfl rfl rfl rfl ?_
   refine AL_o rfl rfl rfl rfl ?_
   refine AL_p (x_pickT rfl rfl rfl) ?_
   refine AL_p (x_move rfl rfl) ?_
   refine AL_o rfl rfl rfl rfl ?_
   refine AL_o rfl rfl rfl rfl ?_
   refine AL_o rfl rfl rfl rfl ?_
   refine AL_o rfl rfl rfl rfl ?_
   refine AL_o rfl rfl rfl rfl ?_
   refine AL_o rfl rfl rfl rfl ?_
   refine AL_o rfl rfl rfl rfl ?_
   refine AL_o rfl rfl rfl rfl ?_
   refine AL_o rfl rfl rfl rfl ?_
   refine AL_o rfl rfl rfl rfl ?_
   refine AL_o rfl rfl rfl rfl ?_
   refine AL_o rfl rfl rfl rfl ?_
   refine AL_p (x_pickT rfl rfl rfl) ?_
   refine AL_nild (by kernel_rfl) ?_
   refine AW_condT rfl ?_
   refine AW_seq ?_
   refine AW_region ?_
   refine AL_p (x_move rfl rfl) ?_
   refine AL_p (x_call (ks := []) (L := [(200, some _)]) (L' := [(200, some _)]) rfl rfl rfl (sFault_c tk e st hm hi 6) rfl AllV.rf (caught_of rfl) rfl rfl rfl ⟨rfl, trivial⟩ rfl) ?_
   refine AL_nil ?_
   refine AW_seq ?_
   refine AW_region ?_
   refine AL_p (x_assign rfl rfl) ?_
   refine AL_nil ?_
   refine AW_ret ?_
   exact ⟨rn [], ⟨⟨⟨_, rfl, vle_str (by rw [hno])⟩, trivial⟩, ⟨⟨_, rfl, by first | exact BLe.rf | exact ble_eq (by rw [hno]; first | done | rfl)⟩, trivial⟩, ⟨⟨rfl, .inl nofun, fun _ _ => ⟨_, rfl⟩⟩, trivial⟩, rfl⟩⟩
 try simp only [tdy] at h7
 refine AL_g rfl rfl (x_move rfl rfl) ?_
 refine AL_g rfl rfl (x_nilc rfl rfl rfl) ?_
 refine AL_g rfl rfl (x_field (off := 1) (o' := 1) rfl rfl rfl (by kernel_rfl) rfl) ?_
 refine AL_g rfl rfl (x_load1 rfl rfl rfl (by kernel_rfl) rfl) ?_
 refine AL_g rfl rfl (x_move rfl rfl) ?_
 refine AL_g rfl rfl (x_nilc rfl rfl rfl) ?_
 refine AL_g rfl rfl (x_field (off := 0) (o' := 0) rfl rfl rfl (by kernel_rfl) rfl) ?_
 refine AL_g rfl rfl (x_load1 rfl rfl rfl (by kernel_rfl) rfl) ?_
 refine AL_g rfl rfl (x_len (E := 83) (n := 4) rfl rfl (by kernel_rfl)) ?_
 refine AL_gb rfl rfl (x_geq rfl rfl rfl) (fun b18 h18 => ?_)
 refine AL_p (x_pickF rfl rfl rfl) ?_
 refine AL_p (x_move rfl rfl) ?_
 cases b18
 rotate_left
 · try simp only [tdy] at h18
   have h0k : (hereT tk e st).kind = 0 := here_kind (fun q => by omega)
   have hnm : nameT (hereT tk e st) = false := name_zero h0k
   have hno := word_no hnm
   refine AL_o rfl rfl rfl rfl ?_
   refine AL_o rfl rfl rfl rfl ?_
   refine AL_o rfl rfl rfl rfl ?_
   refine AL_o rfl rfl rfl rfl ?_
   refine AL_o rfl rfl rfl rfl ?_
   refine AL_o rfl rfl rfl rfl ?_
   refine AL_o rfl rfl rfl rfl ?_
   refine AL_o rfl rfl rfl rfl ?_
   refine AL_o rfl rfl rfl rfl ?_
   refine AL_o rfl rfl rfl rfl ?_
   refine AL_o rfl rfl rfl rfl ?_
   refine AL_o rfl rfl rfl rfl ?_
   refine AL_p (x_pickT rfl rfl rfl) ?_
   refine AL_p (x_move rfl rfl) ?_
   refine AL_o rfl rfl rfl rfl ?_
   refine AL_o rfl rfl rfl rfl ?_
   refine AL_o rfl rfl rfl rfl ?_
   refine AL_o rfl rfl rfl rfl ?_
   refine AL_o rfl rfl rfl rfl ?_
   refine AL_o rfl rfl rfl rfl ?_
   refine AL_o rfl rfl rfl rfl ?_
   refine AL_o rfl rfl rfl rfl ?_
   refine AL_o rfl rfl rfl rfl ?_
   refine AL_o rfl rfl rfl rfl ?_
   refine AL_o rfl rfl rfl rfl ?_
   refine AL_o rfl rfl rfl rfl ?_
   refine AL_p (x_pickT rfl rfl rfl) ?_
   refine AL_nild (by kernel_rfl) ?_
   refine AW_condT rfl ?_
   refine AW_seq ?_
   refine AW_region ?_
   refine AL_p (x_move rfl rfl) ?_
   refine AL_p (x_call (ks := []) (L := [(200, some _)]) (L' := [(200, some _)]) rfl rfl rfl (sFault_c tk e st hm hi 6) rfl AllV.rf (caught_of rfl) rfl rfl rfl ⟨rfl, trivial⟩ rfl) ?_
   refine AL_nil ?_
   refine AW_seq ?_
   refine AW_region ?_
   refine AL_p (x_assign rfl rfl) ?_
   refine AL_nil ?_
   refine AW_ret ?_
   exact ⟨rn [], ⟨⟨⟨_, rfl, vle_str (by rw [hno])⟩, trivial⟩, ⟨⟨_, rfl, by first | exact BLe.rf | exact ble_eq (by rw [hno]; first | done | rfl)⟩, trivial⟩, ⟨⟨rfl, .inl nofun, fun _ _ => ⟨_, rfl⟩⟩, trivial⟩, rfl⟩⟩
 try simp only [tdy] at h18
 have hh : hereT tk e st = (tk[st.i]'(by omega)) := here_ok (by omega) (by omega)
 refine AL_g rfl rfl (x_move rfl rfl) ?_
 refine AL_g rfl rfl (x_nilc rfl rfl rfl) ?_
 refine AL_g rfl rfl (x_field (off := 0) (o' := 0) rfl rfl rfl (by kernel_rfl) rfl) ?_
 refine AL_g rfl rfl (x_load1 rfl rfl rfl (by kernel_rfl) rfl) ?_
 refine AL_g rfl rfl (x_move rfl rfl) ?_
 refine AL_g rfl rfl (x_nilc rfl rfl rfl) ?_
 refine AL_g rfl rfl (x_field (off := 1) (o' := 1) rfl rfl rfl (by kernel_rfl) rfl) ?_
 refine AL_g rfl rfl (x_load1 rfl rfl rfl (by kernel_rfl) rfl) ?_
 refine AL_g rfl rfl (x_index (E := 83) (n := 4) rfl rfl rfl (by kernel_rfl) rfl (k := st.i) (by omega) (by omega)) ?_
 refine AL_g rfl rfl (x_efield (off := 0) (o' := 0) rfl rfl (by kernel_rfl) rfl) ?_
 refine AL_g rfl rfl (x_eload1 rfl rfl (by kernel_rfl) rfl) ?_
 refine AL_gb rfl rfl (x_neq rfl rfl rfl) (fun b32 h32 => ?_)
 refine AL_p (x_pickF rfl rfl rfl) ?_
 refine AL_p (x_move rfl rfl) ?_
 cases b32
 rotate_left
 · try simp only [tdy] at h32
   have hnm : nameT (hereT tk e st) = false := by rw [hh]; simp [nameT, h32]
   have hno := word_no hnm
   refine AL_o rfl rfl rfl rfl ?_
   refine AL_o rfl rfl rfl rfl ?_
   refine AL_o rfl rfl rfl rfl ?_
   refine AL_o rfl rfl rfl rfl ?_
   refine AL_o rfl rfl rfl rfl ?_
   refine AL_o rfl rfl rfl rfl ?_
   refine AL_o rfl rfl rfl rfl ?_
   refine AL_o rfl rfl rfl rfl ?_
   refine AL_o rfl rfl rfl rfl ?_
   refine AL_o rfl rfl rfl rfl ?_
   refine AL_o rfl rfl rfl rfl ?_
   refine AL_o rfl rfl rfl rfl ?_
   refine AL_p (x_pickT rfl rfl rfl) ?_
   refine AL_nild (by kernel_rfl) ?_
   refine AW_condT rfl ?_
   refine AW_seq ?_
   refine AW_region ?_
   refine AL_p (x_move rfl rfl) ?_
   refine AL_p (x_call (ks := []) (L := [(200, some _)]) (L' := [(200, some _)]) rfl rfl rfl (sFault_c tk e st hm hi 6) rfl AllV.rf (caught_of rfl) rfl rfl rfl ⟨rfl, trivial⟩ rfl) ?_
   refine AL_nil ?_
   refine AW_seq ?_
   refine AW_region ?_
   refine AL_p (x_assign rfl rfl) ?_
   refine AL_nil ?_
   refine AW_ret ?_
   exact ⟨rn [], ⟨⟨⟨_, rfl, vle_str (by rw [hno])⟩, trivial⟩, ⟨⟨_, rfl, by first | exact BLe.rf | exact ble_eq (by rw [hno]; first | done | rfl)⟩, trivial⟩, ⟨⟨rfl, .inl nofun, fun _ _ => ⟨_, rfl⟩⟩, trivial⟩, rfl⟩⟩
 try simp only [tdy] at h32
 refine AL_g rfl rfl (x_move rfl rfl) ?_
 refine AL_g rfl rfl (x_nilc rfl rfl rfl) ?_
 refine AL_g rfl rfl (x_field (off := 0) (o' := 0) rfl rfl rfl (by kernel_rfl) rfl) ?_
 refine AL_g rfl rfl (x_load1 rfl rfl rfl (by kernel_rfl) rfl) ?_
 refine AL_g rfl rfl (x_move rfl rfl) ?_
 refine AL_g rfl rfl (x_nilc rfl rfl rfl) ?_
 refine AL_g rfl rfl (x_field (off := 1) (o' := 1) rfl rfl rfl (by kernel_rfl) rfl) ?_
 refine AL_g rfl rfl (x_load1 rfl rfl rfl (by kernel_rfl) rfl) ?_
 refine AL_g rfl rfl (x_index (E := 83) (n := 4) rfl rfl rfl (by kernel_rfl) rfl (k := st.i) (by omega) (by omega)) ?_
 refine AL_g rfl rfl (x_efield (off := 2) (o' := 2) rfl rfl (by kernel_rfl) rfl) ?_
 refine AL_g rfl rfl (x_eload1 rfl rfl (by kernel_rfl) rfl) ?_
 refine AL_gb rfl rfl (x_call0 rfl rfl rfl (keptS_c _) rfl rfl) (fun b46 h46 => ?_)
 refine AL_p (x_pickF rfl rfl rfl) ?_
 refine AL_nild (by kernel_rfl) ?_
 cases b46
 rotate_left
 · try simp only [tdy] at h46
   have hnm : nameT (hereT tk e st) = false := by rw [hh]; simp [nameT, h46]
   have hno := word_no hnm
   refine AW_condT rfl ?_
   refine AW_seq ?_
   refine AW_region ?_
   refine AL_p (x_move rfl rfl) ?_
   refine AL_p (x_call (ks := []) (L := [(200, some _)]) (L' := [(200, some _)]) rfl rfl rfl (sFault_c tk e st hm hi 6) rfl AllV.rf (caught_of rfl) rfl rfl rfl ⟨rfl, trivial⟩ rfl) ?_
   refine AL_nil ?_
   refine AW_seq ?_
   refine AW_region ?_
   refine AL_p (x_assign rfl rfl) ?_
   refine AL_nil ?_
   refine AW_ret ?_
   exact ⟨rn [], ⟨⟨⟨_, rfl, vle_str (by rw [hno])⟩, trivial⟩, ⟨⟨_, rfl, by first | exact BLe.rf | exact ble_eq (by rw [hno]; first | done | rfl)⟩, trivial⟩, ⟨⟨rfl, .inl nofun, fun _ _ => ⟨_, rfl⟩⟩, trivial⟩, rfl⟩⟩
 try simp only [tdy] at h46
 have hnm : nameT (hereT tk e st) = true := by rw [hh]; simp [nameT, h46]; omega
 have hlt := name_lt hnm
 have hno := (word_ok hnm).trans (by rw [hh])
 refine AW_condF rfl ?_
 refine AW_skip ?_
 refine AW_seq ?_
 refine AW_region ?_
 refine AL_p (x_move rfl rfl) ?_
 refine AL_p (x_nilc rfl rfl rfl) ?_
 refine AL_p (x_field (off := 1) (o' := 1) rfl rfl rfl (by kernel_rfl) rfl) ?_
 refine AL_p (x_load1 rfl rfl rfl (by kernel_rfl) rfl) ?_
 refine AL_p (x_add rfl rfl rfl (IntWalk.i64_in _ (by omega))) ?_
 refine AL_p (x_nilc rfl rfl rfl) ?_
 refine AL_p (x_field (off := 1) (o' := 1) rfl rfl rfl (by kernel_rfl) rfl) ?_
 refine AL_p (x_store (n := 1) rfl rfl rfl rfl (by kernel_rfl) rfl rfl rfl) ?_
 refine AL_nil ?_
 refine AW_seq ?_
 refine AW_draw rfl ?_
 refine AL_p (x_move rfl rfl) ?_
 refine AL_p (x_nilc rfl rfl rfl) ?_
 refine AL_p (x_field (off := 0) (o' := 0) rfl rfl rfl (by kernel_rfl) rfl) ?_
 refine AL_p (x_load1 rfl rfl rfl (by kernel_rfl) rfl) ?_
 refine AL_p (x_move rfl rfl) ?_
 refine AL_p (x_nilc rfl rfl rfl) ?_
 refine AL_p (x_field (off := 1) (o' := 1) rfl rfl rfl (by kernel_rfl) rfl) ?_
 refine AL_p (x_load1 rfl rfl rfl (by kernel_rfl) rfl) ?_
 refine AL_p (x_sub rfl rfl rfl (IntWalk.i64_in _ (by omega))) ?_
 refine AL_p (x_index (E := 83) (n := 4) rfl rfl rfl (by kernel_rfl) rfl (k := st.i) (by omega) (by omega)) ?_
 refine AL_p (x_efield (off := 2) (o' := 2) rfl rfl (by kernel_rfl) rfl) ?_
 refine AL_p (x_eload1 rfl rfl (by kernel_rfl) rfl) ?_
 refine AL_p (x_assign rfl rfl) ?_
 refine AL_nild (by kernel_rfl) ?_
 refine AW_ret ?_
 exact ⟨rn [], ⟨⟨⟨_, rfl, vle_str (by rw [hno])⟩, trivial⟩, ⟨⟨_, rfl, by first | exact BLe.rf | exact ble_eq (by rw [hno]; first | done | rfl)⟩, trivial⟩, ⟨⟨rfl, .inl nofun, fun _ _ => ⟨_, rfl⟩⟩, trivial⟩, rfl⟩⟩

set_option maxHeartbeats 4000000 in
theorem sTerm_c (tk : List Tokent) (e : Int) (st : PS) (hm : tk.length ≤ 1048576) (hi : st.i ≤ tk.length) (hok : ∀ t ∈ tk, tokOk t) (b901 : Bool) : AC Try.prog 139 [.one (.ptr 200 0), .one (.c (.bool (b901)))] [(200, some (psB tk e st))] (.agg (termC (termP tk e b901 st).1)) [(200, some (psB tk e (termP tk e b901 st).2))] := by
 refine AC_bodyC (n := 3) (k := 9) (T := [(4, .one (.ptr 9 0))]) (Lf := ((9, some (.box (termC (termP tk e b901 st).1))) :: [(200, some (psB tk e (termP tk e b901 st).2))])) Try.func139 rfl rfl Try.ntmps139 rfl Try.results139 rfl rfl (by kernel_rfl) rfl rfl ⟨trivial, (by repeat (first | exact trivial | refine ⟨⟨_, rfl, BLe.rf⟩, ?_⟩)), (by repeat (first | exact trivial | refine ⟨⟨rfl, by first | (left; intro h; cases h) | (right; rfl), by first | exact (fun _ h => ⟨_, h⟩) | exact (fun _ _ => ⟨_, rfl⟩) | (intro _ h; cases h)⟩, ?_⟩)), rfl⟩ ?_
 refine AW_seq ?_
 refine AW_region ?_
 refine AL_p (x_alloc (z := .agg #[.string ⟨#[]⟩, .int .i64 0, .string ⟨#[]⟩]) 100 rfl (by kernel_rfl) rfl rfl rfl rfl) ?_
 refine AL_nil ?_
 refine AW_seq ?_
 refine AW_seq ?_
 refine AW_draw rfl ?_
 refine AL_p (x_move rfl rfl) ?_
 refine AL_p (x_nilc rfl rfl rfl) ?_
 refine AL_p (x_field (off := 3) (o' := 3) rfl rfl rfl (by kernel_rfl) rfl) ?_
 refine AL_p (x_load1 rfl rfl rfl (by kernel_rfl) rfl) ?_
 refine AL_b (x_neq rfl rfl rfl) (fun b10 h10 => ?_)
 refine AL_p (x_move rfl rfl) ?_
 cases b10
 rotate_left
 · try simp only [tdy] at h10
   have h0k : (hereT tk e st).kind = 0 := here_kind (fun q => by omega)
   have htm : termT (hereT tk e st) = false := term_zero h0k
   have hno := term_no (b := b901) htm
   refine AL_o rfl rfl rfl rfl ?_
   refine AL_o rfl rfl rfl rfl ?_
   refine AL_o rfl rfl rfl rfl ?_
   refine AL_o rfl rfl rfl rfl ?_
   refine AL_o rfl rfl rfl rfl ?_
   refine AL_o rfl rfl rfl rfl ?_
   refine AL_o rfl rfl rfl rfl ?_
   refine AL_o rfl rfl rfl rfl ?_
   refine AL_o rfl rfl rfl rfl ?_
   refine AL_o rfl rfl rfl rfl ?_
   refine AL_p (x_pickT rfl rfl rfl) ?_
   refine AL_nild (by kernel_rfl) ?_
   refine AW_condT rfl ?_
   refine AW_seq ?_
   refine AW_region ?_
   refine AL_p (x_move rfl rfl) ?_
   refine AL_p (x_call (ks := []) (L := [(200, some _)]) (L' := [(200, some _)]) rfl rfl rfl (sFault_c tk e st hm hi 6) rfl AllV.rf (caught_of rfl) rfl rfl rfl ⟨rfl, trivial⟩ rfl) ?_
   refine AL_nil ?_
   refine AW_seq ?_
   refine AW_region ?_
   refine AL_p (x_build (zs := [.string ⟨#[]⟩, .int .i64 0, .string ⟨#[]⟩]) (places := [(0, 1), (1, 2)]) rfl (by kernel_rfl) rfl rfl rfl rfl rfl) ?_
   refine AL_p (x_store (n := 3) rfl rfl rfl rfl (by kernel_rfl) rfl rfl rfl) ?_
   refine AL_nil ?_
   refine AW_ret ?_
   exact ⟨rn [(9, 100)], ⟨⟨⟨_, rfl, VLe.rf⟩, trivial⟩, ⟨⟨_, rfl, by first | exact BLe.rf | exact ble_eq (by rw [hno]; first | done | rfl)⟩, ⟨_, rfl, by first | exact BLe.rf | exact ble_eq (by rw [hno]; first | done | rfl)⟩, trivial⟩, ⟨⟨rfl, .inl nofun, fun _ _ => ⟨_, rfl⟩⟩, trivial⟩, rfl⟩⟩
 try simp only [tdy] at h10
 refine AL_g rfl rfl (x_move rfl rfl) ?_
 refine AL_g rfl rfl (x_nilc rfl rfl rfl) ?_
 refine AL_g rfl rfl (x_field (off := 1) (o' := 1) rfl rfl rfl (by kernel_rfl) rfl) ?_
 refine AL_g rfl rfl (x_load1 rfl rfl rfl (by kernel_rfl) rfl) ?_
 refine AL_g rfl rfl (x_move rfl rfl) ?_
 refine AL_g rfl rfl (x_nilc rfl rfl rfl) ?_
 refine AL_g rfl rfl (x_field (off := 0) (o' := 0) rfl rfl rfl (by kernel_rfl) rfl) ?_
 refine AL_g rfl rfl (x_load1 rfl rfl rfl (by kernel_rfl) rfl) ?_
 refine AL_g rfl rfl (x_len (E := 83) (n := 4) rfl rfl (by kernel_rfl)) ?_
 refine AL_gb rfl rfl (x_geq rfl rfl rfl) (fun b21 h21 => ?_)
 refine AL_p (x_pickF rfl rfl rfl) ?_
 refine AL_nild (by kernel_rfl) ?_
 cases b21
 rotate_left
 · try simp only [tdy] at h21
   have h0k : (hereT tk e st).kind = 0 := here_kind (fun q => by omega)
   have htm : termT (hereT tk e st) = false := term_zero h0k
   have hno := term_no (b := b901) htm
   refine AW_condT rfl ?_
   refine AW_seq ?_
   refine AW_region ?_
   refine AL_p (x_move rfl rfl) ?_
   refine AL_p (x_call (ks := []) (L := [(200, some _)]) (L' := [(200, some _)]) rfl rfl rfl (sFault_c tk e st hm hi 6) rfl AllV.rf (caught_of rfl) rfl rfl rfl ⟨rfl, trivial⟩ rfl) ?_
   refine AL_nil ?_
   refine AW_seq ?_
   refine AW_region ?_
   refine AL_p (x_build (zs := [.string ⟨#[]⟩, .int .i64 0, .string ⟨#[]⟩]) (places := [(0, 1), (1, 2)]) rfl (by kernel_rfl) rfl rfl rfl rfl rfl) ?_
   refine AL_p (x_store (n := 3) rfl rfl rfl rfl (by kernel_rfl) rfl rfl rfl) ?_
   refine AL_nil ?_
   refine AW_ret ?_
   exact ⟨rn [(9, 100)], ⟨⟨⟨_, rfl, VLe.rf⟩, trivial⟩, ⟨⟨_, rfl, by first | exact BLe.rf | exact ble_eq (by rw [hno]; first | done | rfl)⟩, ⟨_, rfl, by first | exact BLe.rf | exact ble_eq (by rw [hno]; first | done | rfl)⟩, trivial⟩, ⟨⟨rfl, .inl nofun, fun _ _ => ⟨_, rfl⟩⟩, trivial⟩, rfl⟩⟩
 try simp only [tdy] at h21
 have hh : hereT tk e st = (tk[st.i]'(by omega)) := here_ok (by omega) (by omega)
 have hto := hok _ (List.getElem_mem (l := tk) (n := st.i) (by omega))
 refine AW_condF rfl ?_
 refine AW_skip ?_
 refine AW_seq ?_
 refine AW_draw rfl ?_
 refine AL_p (x_move rfl rfl) ?_
 refine AL_p (x_nilc rfl rfl rfl) ?_
 refine AL_p (x_field (off := 0) (o' := 0) rfl rfl rfl (by kernel_rfl) rfl) ?_
 refine AL_p (x_load1 rfl rfl rfl (by kernel_rfl) rfl) ?_
 refine AL_p (x_move rfl rfl) ?_
 refine AL_p (x_nilc rfl rfl rfl) ?_
 refine AL_p (x_field (off := 1) (o' := 1) rfl rfl rfl (by kernel_rfl) rfl) ?_
 refine AL_p (x_load1 rfl rfl rfl (by kernel_rfl) rfl) ?_
 refine AL_p (x_index (E := 83) (n := 4) rfl rfl rfl (by kernel_rfl) rfl (k := st.i) (by omega) (by omega)) ?_
 refine AL_p (x_eloadW (n := 4) rfl rfl (by kernel_rfl) rfl) ?_
 refine AL_p (x_alloc (z := .agg #[.int .i64 0, .int .i64 0, .string ⟨#[]⟩, .int .i64 0]) 101 rfl (by kernel_rfl) rfl rfl rfl rfl) ?_
 refine AL_p (x_store (n := 4) rfl rfl rfl rfl (by kernel_rfl) rfl rfl rfl) ?_
 refine AL_nild (by kernel_rfl) ?_
 refine AW_seq ?_
 refine AW_seq ?_
 refine AW_region ?_
 refine AL_p (x_field (off := 0) (o' := 0) rfl rfl rfl (by kernel_rfl) rfl) ?_
 refine AL_p (x_load1 rfl rfl rfl (by kernel_rfl) rfl) ?_
 refine AL_b (x_eql rfl rfl rfl) (fun b38 h38 => ?_)
 refine AL_p (x_move rfl rfl) ?_
 cases b38
 rotate_left
 · try simp only [tdy] at h38
   have htm : termT (hereT tk e st) = false := by rw [hh]; simp [termT, nameT, h38]
   have hno := term_no (b := b901) htm
   refine AL_o rfl rfl rfl rfl ?_
   refine AL_o rfl rfl rfl rfl ?_
   refine AL_o rfl rfl rfl rfl ?_
   refine AL_o rfl rfl rfl rfl ?_
   refine AL_u rfl rfl rfl ?_
   refine AL_u rfl rfl rfl ?_
   refine AL_u rfl rfl rfl ?_
   refine AL_o rfl rfl rfl rfl ?_
   refine AL_p (x_pickT rfl rfl rfl) ?_
   refine AL_nil ?_
   refine AW_condT rfl ?_
   refine AW_seq ?_
   refine AW_region ?_
   refine AL_p (x_move rfl rfl) ?_
   refine AL_p (x_call (ks := []) (L := [(200, some _)]) (L' := [(200, some _)]) rfl rfl rfl (sFault_c tk e st hm hi 6) rfl AllV.rf (caught_of rfl) rfl rfl rfl ⟨rfl, trivial⟩ rfl) ?_
   refine AL_nil ?_
   refine AW_seq ?_
   refine AW_region ?_
   refine AL_p (x_build (zs := [.string ⟨#[]⟩, .int .i64 0, .string ⟨#[]⟩]) (places := [(0, 1), (1, 2)]) rfl (by kernel_rfl) rfl rfl rfl rfl rfl) ?_
   refine AL_p (x_store (n := 3) rfl rfl rfl rfl (by kernel_rfl) rfl rfl rfl) ?_
   refine AL_nil ?_
   refine AW_ret ?_
   exact ⟨rn [(9, 100)], ⟨⟨⟨_, rfl, VLe.rf⟩, trivial⟩, ⟨⟨_, rfl, by first | exact BLe.rf | exact ble_eq (by rw [hno]; first | done | rfl)⟩, ⟨_, rfl, by first | exact BLe.rf | exact ble_eq (by rw [hno]; first | done | rfl)⟩, trivial⟩, ⟨⟨rfl, .inl nofun, fun _ _ => ⟨_, rfl⟩⟩, trivial⟩, rfl⟩⟩
 try simp only [tdy] at h38
 refine AL_g rfl rfl (x_field (off := 0) (o' := 0) rfl rfl rfl (by kernel_rfl) rfl) ?_
 refine AL_g rfl rfl (x_load1 rfl rfl rfl (by kernel_rfl) rfl) ?_
 refine AL_gb rfl rfl (x_eql rfl rfl rfl) (fun b42 h42 => ?_)
 refine AL_g rfl rfl (x_move rfl rfl) ?_
 cases b42
 · try simp only [tdy] at h42
   have htm : termT (hereT tk e st) = true := by rw [hh]; exact tok_term hto h38 h42
   have hlt := term_lt htm
   refine AL_o rfl rfl rfl rfl ?_
   refine AL_o rfl rfl rfl rfl ?_
   refine AL_o rfl rfl rfl rfl ?_
   refine AL_g rfl rfl (x_pickF rfl rfl rfl) ?_
   refine AL_p (x_pickF rfl rfl rfl) ?_
   refine AL_nil ?_
   refine AW_condF rfl ?_
   refine AW_skip ?_
   refine AW_seq ?_
   refine AW_seq ?_
   refine AW_region ?_
   refine AL_p (x_move rfl rfl) ?_
   refine AL_nil ?_
   cases b901
   rotate_left
   · try simp only [tdy] at h901
     have hno := term_over htm
     refine AW_condT rfl ?_
     refine AW_seq ?_
     refine AW_region ?_
     refine AL_p (x_move rfl rfl) ?_
     refine AL_p (x_call (ks := []) (L := [(200, some _)]) (L' := [(200, some _)]) rfl rfl rfl (sFault_c tk e st hm hi 7) rfl AllV.rf (caught_of rfl) rfl rfl rfl ⟨rfl, trivial⟩ rfl) ?_
     refine AL_nil ?_
     refine AW_seq ?_
     refine AW_region ?_
     refine AL_p (x_build (zs := [.string ⟨#[]⟩, .int .i64 0, .string ⟨#[]⟩]) (places := [(0, 1), (1, 2)]) rfl (by kernel_rfl) rfl rfl rfl rfl rfl) ?_
     refine AL_p (x_store (n := 3) rfl rfl rfl rfl (by kernel_rfl) rfl rfl rfl) ?_
     refine AL_nil ?_
     refine AW_ret ?_
     exact ⟨rn [(9, 100)], ⟨⟨⟨_, rfl, VLe.rf⟩, trivial⟩, ⟨⟨_, rfl, by first | exact BLe.rf | exact ble_eq (by rw [hno]; first | done | rfl)⟩, ⟨_, rfl, by first | exact BLe.rf | exact ble_eq (by rw [hno]; first | done | rfl)⟩, trivial⟩, ⟨⟨rfl, .inl nofun, fun _ _ => ⟨_, rfl⟩⟩, trivial⟩, rfl⟩⟩
   try simp only [tdy] at h901
   have hn1 := term_ok htm
   refine AW_condF rfl ?_
   refine AW_skip ?_
   refine AW_seq ?_
   refine AW_region ?_
   refine AL_p (x_move rfl rfl) ?_
   refine AL_p (x_nilc rfl rfl rfl) ?_
   refine AL_p (x_field (off := 1) (o' := 1) rfl rfl rfl (by kernel_rfl) rfl) ?_
   refine AL_p (x_load1 rfl rfl rfl (by kernel_rfl) rfl) ?_
   refine AL_p (x_add rfl rfl rfl (IntWalk.i64_in _ (by omega))) ?_
   refine AL_p (x_nilc rfl rfl rfl) ?_
   refine AL_p (x_field (off := 1) (o' := 1) rfl rfl rfl (by kernel_rfl) rfl) ?_
   refine AL_p (x_store (n := 1) rfl rfl rfl rfl (by kernel_rfl) rfl rfl rfl) ?_
   refine AL_nil ?_
   refine AW_seq ?_
   refine AW_seq ?_
   refine AW_region ?_
   refine AL_p (x_field (off := 0) (o' := 0) rfl rfl rfl (by kernel_rfl) rfl) ?_
   refine AL_p (x_load1 rfl rfl rfl (by kernel_rfl) rfl) ?_
   refine AL_b (x_eql rfl rfl rfl) (fun b65 h65 => ?_)
   refine AL_nil ?_
   cases b65
   rotate_left
   · try simp only [tdy] at h65
     have hno := hn1.trans (by rw [hh, of_var h65])
     refine AW_condT rfl ?_
     refine AW_seq ?_
     refine AW_region ?_
     refine AL_p (x_field (off := 2) (o' := 2) rfl rfl rfl (by kernel_rfl) rfl) ?_
     refine AL_p (x_load1 rfl rfl rfl (by kernel_rfl) rfl) ?_
     refine AL_p (x_build (zs := [.string ⟨#[]⟩, .int .i64 0, .string ⟨#[]⟩]) (places := [(0, 1), (1, 2)]) rfl (by kernel_rfl) rfl rfl rfl rfl rfl) ?_
     refine AL_p (x_store (n := 3) rfl rfl rfl rfl (by kernel_rfl) rfl rfl rfl) ?_
     refine AL_nil ?_
     refine AW_ret ?_
     exact ⟨rn [(9, 100)], ⟨⟨⟨_, rfl, VLe.rf⟩, trivial⟩, ⟨⟨_, rfl, by first | exact BLe.rf | exact ble_eq (by rw [hno]; first | done | rfl)⟩, ⟨_, rfl, by first | exact BLe.rf | exact ble_eq (by rw [hno]; first | done | rfl)⟩, trivial⟩, ⟨⟨rfl, .inl nofun, fun _ _ => ⟨_, rfl⟩⟩, trivial⟩, rfl⟩⟩
   try simp only [tdy] at h65
   have hno := hn1.trans (by rw [hh, of_any hto h65 h38])
   refine AW_condF rfl ?_
   refine AW_skip ?_
   refine AW_seq ?_
   refine AW_region ?_
   refine AL_p (x_field (off := 1) (o' := 1) rfl rfl rfl (by kernel_rfl) rfl) ?_
   refine AL_p (x_load1 rfl rfl rfl (by kernel_rfl) rfl) ?_
   refine AL_p (x_field (off := 2) (o' := 2) rfl rfl rfl (by kernel_rfl) rfl) ?_
   refine AL_p (x_load1 rfl rfl rfl (by kernel_rfl) rfl) ?_
   refine AL_p (x_build (zs := [.int .i64 0, .string ⟨#[]⟩]) (places := [(0, 1), (1, 1)]) rfl (by kernel_rfl) rfl rfl rfl rfl rfl) ?_
   refine AL_p (x_build (zs := [.string ⟨#[]⟩, .int .i64 0, .string ⟨#[]⟩]) (places := [(0, 1), (1, 2)]) rfl (by kernel_rfl) rfl rfl rfl rfl rfl) ?_
   refine AL_p (x_store (n := 3) rfl rfl rfl rfl (by kernel_rfl) rfl rfl rfl) ?_
   refine AL_nil ?_
   refine AW_ret ?_
   exact ⟨rn [(9, 100)], ⟨⟨⟨_, rfl, VLe.rf⟩, trivial⟩, ⟨⟨_, rfl, by first | exact BLe.rf | exact ble_eq (by rw [hno]; first | done | rfl)⟩, ⟨_, rfl, by first | exact BLe.rf | exact ble_eq (by rw [hno]; first | done | rfl)⟩, trivial⟩, ⟨⟨rfl, .inl nofun, fun _ _ => ⟨_, rfl⟩⟩, trivial⟩, rfl⟩⟩
 try simp only [tdy] at h42
 refine AL_g rfl rfl (x_field (off := 2) (o' := 2) rfl rfl rfl (by kernel_rfl) rfl) ?_
 refine AL_g rfl rfl (x_load1 rfl rfl rfl (by kernel_rfl) rfl) ?_
 refine AL_gb rfl rfl (x_call0 rfl rfl rfl (keptS_c _) rfl rfl) (fun b46 h46 => ?_)
 refine AL_g rfl rfl (x_pickT rfl rfl rfl) ?_
 refine AL_p (x_pickF rfl rfl rfl) ?_
 refine AL_nil ?_
 cases b46
 rotate_left
 · try simp only [tdy] at h46
   have htm : termT (hereT tk e st) = false := by rw [hh]; simp [termT, nameT, h42, h46]
   have hno := term_no (b := b901) htm
   refine AW_condT rfl ?_
   refine AW_seq ?_
   refine AW_region ?_
   refine AL_p (x_move rfl rfl) ?_
   refine AL_p (x_call (ks := []) (L := [(200, some _)]) (L' := [(200, some _)]) rfl rfl rfl (sFault_c tk e st hm hi 6) rfl AllV.rf (caught_of rfl) rfl rfl rfl ⟨rfl, trivial⟩ rfl) ?_
   refine AL_nil ?_
   refine AW_seq ?_
   refine AW_region ?_
   refine AL_p (x_build (zs := [.string ⟨#[]⟩, .int .i64 0, .string ⟨#[]⟩]) (places := [(0, 1), (1, 2)]) rfl (by kernel_rfl) rfl rfl rfl rfl rfl) ?_
   refine AL_p (x_store (n := 3) rfl rfl rfl rfl (by kernel_rfl) rfl rfl rfl) ?_
   refine AL_nil ?_
   refine AW_ret ?_
   exact ⟨rn [(9, 100)], ⟨⟨⟨_, rfl, VLe.rf⟩, trivial⟩, ⟨⟨_, rfl, by first | exact BLe.rf | exact ble_eq (by rw [hno]; first | done | rfl)⟩, ⟨_, rfl, by first | exact BLe.rf | exact ble_eq (by rw [hno]; first | done | rfl)⟩, trivial⟩, ⟨⟨rfl, .inl nofun, fun _ _ => ⟨_, rfl⟩⟩, trivial⟩, rfl⟩⟩
 try simp only [tdy] at h46
 have htm : termT (hereT tk e st) = true := by rw [hh]; simp [termT, nameT, h42, h46]
 have hlt := term_lt htm
 refine AW_condF rfl ?_
 refine AW_skip ?_
 refine AW_seq ?_
 refine AW_seq ?_
 refine AW_region ?_
 refine AL_p (x_move rfl rfl) ?_
 refine AL_nil ?_
 cases b901
 rotate_left
 · try simp only [tdy] at h901
   have hno := term_over htm
   refine AW_condT rfl ?_
   refine AW_seq ?_
   refine AW_region ?_
   refine AL_p (x_move rfl rfl) ?_
   refine AL_p (x_call (ks := []) (L := [(200, some _)]) (L' := [(200, some _)]) rfl rfl rfl (sFault_c tk e st hm hi 7) rfl AllV.rf (caught_of rfl) rfl rfl rfl ⟨rfl, trivial⟩ rfl) ?_
   refine AL_nil ?_
   refine AW_seq ?_
   refine AW_region ?_
   refine AL_p (x_build (zs := [.string ⟨#[]⟩, .int .i64 0, .string ⟨#[]⟩]) (places := [(0, 1), (1, 2)]) rfl (by kernel_rfl) rfl rfl rfl rfl rfl) ?_
   refine AL_p (x_store (n := 3) rfl rfl rfl rfl (by kernel_rfl) rfl rfl rfl) ?_
   refine AL_nil ?_
   refine AW_ret ?_
   exact ⟨rn [(9, 100)], ⟨⟨⟨_, rfl, VLe.rf⟩, trivial⟩, ⟨⟨_, rfl, by first | exact BLe.rf | exact ble_eq (by rw [hno]; first | done | rfl)⟩, ⟨_, rfl, by first | exact BLe.rf | exact ble_eq (by rw [hno]; first | done | rfl)⟩, trivial⟩, ⟨⟨rfl, .inl nofun, fun _ _ => ⟨_, rfl⟩⟩, trivial⟩, rfl⟩⟩
 try simp only [tdy] at h901
 have hn1 := term_ok htm
 refine AW_condF rfl ?_
 refine AW_skip ?_
 refine AW_seq ?_
 refine AW_region ?_
 refine AL_p (x_move rfl rfl) ?_
 refine AL_p (x_nilc rfl rfl rfl) ?_
 refine AL_p (x_field (off := 1) (o' := 1) rfl rfl rfl (by kernel_rfl) rfl) ?_
 refine AL_p (x_load1 rfl rfl rfl (by kernel_rfl) rfl) ?_
 refine AL_p (x_add rfl rfl rfl (IntWalk.i64_in _ (by omega))) ?_
 refine AL_p (x_nilc rfl rfl rfl) ?_
 refine AL_p (x_field (off := 1) (o' := 1) rfl rfl rfl (by kernel_rfl) rfl) ?_
 refine AL_p (x_store (n := 1) rfl rfl rfl rfl (by kernel_rfl) rfl rfl rfl) ?_
 refine AL_nil ?_
 refine AW_seq ?_
 refine AW_seq ?_
 refine AW_region ?_
 refine AL_p (x_field (off := 0) (o' := 0) rfl rfl rfl (by kernel_rfl) rfl) ?_
 refine AL_p (x_load1 rfl rfl rfl (by kernel_rfl) rfl) ?_
 refine AL_b (x_eql rfl rfl rfl) (fun b65 h65 => ?_)
 refine AL_nil ?_
 cases b65
 rotate_left
 · try simp only [tdy] at h65
   have hno := hn1.trans (by rw [hh, of_var h65])
   refine AW_condT rfl ?_
   refine AW_seq ?_
   refine AW_region ?_
   refine AL_p (x_field (off := 2) (o' := 2) rfl rfl rfl (by kernel_rfl) rfl) ?_
   refine AL_p (x_load1 rfl rfl rfl (by kernel_rfl) rfl) ?_
   refine AL_p (x_build (zs := [.string ⟨#[]⟩, .int .i64 0, .string ⟨#[]⟩]) (places := [(0, 1), (1, 2)]) rfl (by kernel_rfl) rfl rfl rfl rfl rfl) ?_
   refine AL_p (x_store (n := 3) rfl rfl rfl rfl (by kernel_rfl) rfl rfl rfl) ?_
   refine AL_nil ?_
   refine AW_ret ?_
   exact ⟨rn [(9, 100)], ⟨⟨⟨_, rfl, VLe.rf⟩, trivial⟩, ⟨⟨_, rfl, by first | exact BLe.rf | exact ble_eq (by rw [hno]; first | done | rfl)⟩, ⟨_, rfl, by first | exact BLe.rf | exact ble_eq (by rw [hno]; first | done | rfl)⟩, trivial⟩, ⟨⟨rfl, .inl nofun, fun _ _ => ⟨_, rfl⟩⟩, trivial⟩, rfl⟩⟩
 try simp only [tdy] at h65
 have hno := hn1.trans (by rw [hh, of_any hto h65 h38])
 refine AW_condF rfl ?_
 refine AW_skip ?_
 refine AW_seq ?_
 refine AW_region ?_
 refine AL_p (x_field (off := 1) (o' := 1) rfl rfl rfl (by kernel_rfl) rfl) ?_
 refine AL_p (x_load1 rfl rfl rfl (by kernel_rfl) rfl) ?_
 refine AL_p (x_field (off := 2) (o' := 2) rfl rfl rfl (by kernel_rfl) rfl) ?_
 refine AL_p (x_load1 rfl rfl rfl (by kernel_rfl) rfl) ?_
 refine AL_p (x_build (zs := [.int .i64 0, .string ⟨#[]⟩]) (places := [(0, 1), (1, 1)]) rfl (by kernel_rfl) rfl rfl rfl rfl rfl) ?_
 refine AL_p (x_build (zs := [.string ⟨#[]⟩, .int .i64 0, .string ⟨#[]⟩]) (places := [(0, 1), (1, 2)]) rfl (by kernel_rfl) rfl rfl rfl rfl rfl) ?_
 refine AL_p (x_store (n := 3) rfl rfl rfl rfl (by kernel_rfl) rfl rfl rfl) ?_
 refine AL_nil ?_
 refine AW_ret ?_
 exact ⟨rn [(9, 100)], ⟨⟨⟨_, rfl, VLe.rf⟩, trivial⟩, ⟨⟨_, rfl, by first | exact BLe.rf | exact ble_eq (by rw [hno]; first | done | rfl)⟩, ⟨_, rfl, by first | exact BLe.rf | exact ble_eq (by rw [hno]; first | done | rfl)⟩, trivial⟩, ⟨⟨rfl, .inl nofun, fun _ _ => ⟨_, rfl⟩⟩, trivial⟩, rfl⟩⟩

set_option maxHeartbeats 4000000 in
theorem sAtom_c0 (tk : List Tokent) (e : Int) (st : PS) (hm : tk.length ≤ 1048576) (hi : st.i ≤ tk.length) (hok : ∀ t ∈ tk, tokOk t) : AC Try.prog 107 [.one (.ptr 200 0)] [(200, some (psB tk e st))] (.agg (atomO (atomS tk e st).1)) [(200, some (psB tk e (atomS tk e st).2)), (0, some (.arr 70 termE (atomS tk e st).1.args true))] := by
 refine AC_bodyC (n := 2) (k := 9) (T := [(2, .one (.ptr 9 0))]) (Lf := ((9, some (.box (atomO (atomS tk e st).1))) :: [(200, some (psB tk e (atomS tk e st).2)), (0, some (.arr 70 termE (atomS tk e st).1.args true))])) Try.func107 rfl rfl Try.ntmps107 rfl Try.results107 rfl rfl (by kernel_rfl) rfl rfl ⟨trivial, (by repeat (first | exact trivial | refine ⟨⟨_, rfl, BLe.rf⟩, ?_⟩)), (by repeat (first | exact trivial | refine ⟨⟨rfl, by first | (left; intro h; cases h) | (right; rfl), by first | exact (fun _ h => ⟨_, h⟩) | exact (fun _ _ => ⟨_, rfl⟩) | (intro _ h; cases h)⟩, ?_⟩)), rfl⟩ ?_
 refine AW_seq ?_
 refine AW_region ?_
 refine AL_p (x_alloc (z := .agg #[.string ⟨#[]⟩, .slice none 0 0]) 100 rfl (by kernel_rfl) rfl rfl rfl rfl) ?_
 refine AL_nil ?_
 refine AW_seq ?_
 refine AW_region ?_
 refine AL_p (x_move rfl rfl) ?_
 refine AL_p (x_call (ks := []) (L := [(200, some _)]) (L' := [(200, some _)]) rfl rfl rfl (sWord_c tk e st hm hi) rfl AllV.rf (caught_of rfl) rfl rfl rfl ⟨rfl, trivial⟩ rfl) ?_
 refine AL_p (x_build (zs := [.string ⟨#[]⟩, .slice none 0 0]) (places := [(0, 1), (1, 1)]) rfl (by kernel_rfl) rfl rfl rfl rfl rfl) ?_
 refine AL_p (x_alloc (z := .agg #[.string ⟨#[]⟩, .slice none 0 0]) 101 rfl (by kernel_rfl) rfl rfl rfl rfl) ?_
 refine AL_p (x_store (n := 2) rfl rfl rfl rfl (by kernel_rfl) rfl rfl rfl) ?_
 refine AL_nil ?_
 refine AW_seq ?_
 refine AW_region ?_
 refine AL_p (x_move rfl rfl) ?_
 refine AL_p (x_call (ks := []) (L := [(200, some _)]) (L' := [(200, some _)]) rfl rfl rfl (sTake_c tk e (wordP tk e st).2 hm (word_le hi) ⟨#[40]⟩) rfl AllV.rf (caught_of rfl) rfl rfl rfl ⟨rfl, trivial⟩ rfl) ?_
 refine AL_nil ?_
 refine AW_seq ?_
 refine AW_seq ?_
 refine AW_region ?_
 refine AL_p (x_move rfl rfl) ?_
 refine AL_p (x_move rfl rfl) ?_
 refine AL_p (x_nilc rfl rfl rfl) ?_
 refine AL_p (x_field (off := 1) (o' := 1) rfl rfl rfl (by kernel_rfl) rfl) ?_
 refine AL_p (x_load1 rfl rfl rfl (by kernel_rfl) rfl) ?_
 refine AL_bc (x_call (ks := []) (L := [(200, some _)]) (L' := [(200, some _)]) rfl rfl rfl (sIsH_c tk e (atomOpen tk e st) hm (open_le hi) ⟨#[41]⟩) rfl AllV.rf (caught_of rfl) rfl rfl rfl ⟨rfl, trivial⟩ rfl) (fun b14 h14 => ?_)
 refine AL_nil ?_
 cases b14
 rotate_left
 · try simp only [tdy] at h14
   have hno := atomS_none h14
   have hlt := sign_lt h14
   refine AW_condT rfl ?_
   refine AW_seq ?_
   refine AW_region ?_
   refine AL_p (x_move rfl rfl) ?_
   refine AL_p (x_nilc rfl rfl rfl) ?_
   refine AL_p (x_field (off := 1) (o' := 1) rfl rfl rfl (by kernel_rfl) rfl) ?_
   refine AL_p (x_load1 rfl rfl rfl (by kernel_rfl) rfl) ?_
   refine AL_p (x_add rfl rfl rfl (IntWalk.i64_in _ (by omega))) ?_
   refine AL_p (x_nilc rfl rfl rfl) ?_
   refine AL_p (x_field (off := 1) (o' := 1) rfl rfl rfl (by kernel_rfl) rfl) ?_
   refine AL_p (x_store (n := 1) rfl rfl rfl rfl (by kernel_rfl) rfl rfl rfl) ?_
   refine AL_nil ?_
   refine AW_seq ?_
   refine AW_region ?_
   refine AL_p (x_loadN (n := 2) rfl rfl rfl (by kernel_rfl) rfl rfl) ?_
   refine AL_p (x_store (n := 2) rfl rfl rfl rfl (by kernel_rfl) rfl rfl rfl) ?_
   refine AL_nil ?_
   refine AW_adopt (T := 70) (e := termE) 102 100 1 rfl rfl rfl rfl rfl ?_
   refine AW_ret ?_
   exact ⟨rn [(9, 100), (0, 102)], ⟨⟨⟨_, rfl, VLe.rf⟩, trivial⟩, ⟨⟨_, rfl, by first | exact BLe.rf | exact ble_eq (by rw [hno]; first | done | rfl)⟩, ⟨_, rfl, by first | exact BLe.rf | exact ble_eq (by rw [hno]; first | done | rfl)⟩, ⟨_, rfl, by first | exact BLe.rf | (refine BLe.arr ?_; rw [hno]; first | done | rfl)⟩, trivial⟩, ⟨⟨rfl, .inl nofun, fun _ _ => ⟨_, rfl⟩⟩, trivial⟩, rfl⟩⟩
 try simp only [tdy] at h14
 refine AW_condF rfl ?_
 refine AW_skip ?_
 refine AW_seq ?_
 refine AW_block ?_
 refine AW_adopt (T := 70) (e := termE) 103 101 1 rfl rfl rfl rfl rfl ?_
 refine AW_loop2 (ι := {q : PS × List Termt // ((q.1).i ≤ tk.length ∧ (q.2).length ≤ 6) ∧ argsS tk e (8 - (q.2).length) (q.1) (q.2) = argsS tk e 8 (atomOpen tk e st) []}) (fun p => []) (fun p => [(103, some (.arr 70 termE (p.1.2) true)), (200, some (psB tk e (p.1.1)))]) [0, 2, 3] [100, 101] (fun p => 7 - (p.1.2).length) ⟨⟨atomOpen tk e st, []⟩, ⟨⟨open_le hi, by simp⟩, rfl⟩⟩ (rn []) ?_ ?_
 exact ⟨by (repeat refine ⟨⟨_, rfl, by first | exact VLe.rf | exact vle_int (by dsimp only; omega)⟩, ?_⟩); exact trivial, by (repeat refine ⟨⟨_, rfl, by first | exact BLe.rf | exact BLe.box AllC.rf | exact BLe.arr (by exact rfl)⟩, ?_⟩); exact trivial, by repeat (first | exact trivial | refine ⟨⟨rfl, by first | (left; intro h; cases h) | (right; rfl), by first | exact (fun _ h => ⟨_, h⟩) | exact (fun _ _ => ⟨_, rfl⟩) | (intro _ h; cases h)⟩, ?_⟩), rfl⟩
 rintro ⟨⟨st1, a⟩, hinv⟩
 dsimp only
 have hi1 : st1.i ≤ tk.length := hinv.1.1
 have hl : a.length ≤ 6 := hinv.1.2
 refine AW_seq ?_
 refine AW_seq ?_
 refine AW_region ?_
 refine AL_p (x_move rfl rfl) ?_
 refine AL_p (x_nilc rfl rfl rfl) ?_
 refine AL_p (x_field (off := 3) (o' := 3) rfl rfl rfl (by kernel_rfl) rfl) ?_
 refine AL_p (x_load1 rfl rfl rfl (by kernel_rfl) rfl) ?_
 refine AL_b (x_eql rfl rfl rfl) (fun b27 h27 => ?_)
 refine AL_nil ?_
 cases b27
 · try simp only [tdy] at h27
   have hi2 := hi1
   have hno := atomS_some h14 (hinv.2.symm.trans (argsS_bad h27))
   refine AW_condF rfl ?_
   refine AW_exit (BQ_hit ?_)
   refine AW_seq ?_
   refine AW_region ?_
   refine AL_p (x_move rfl rfl) ?_
   refine AL_p (x_call (ks := []) (L := [(200, some _)]) (L' := [(200, some _)]) rfl rfl rfl (sTake_c tk e _ hm hi2 ⟨#[41]⟩) rfl AllV.rf (caught_of rfl) rfl rfl rfl ⟨rfl, trivial⟩ rfl) ?_
   refine AL_nil ?_
   refine AW_seq ?_
   refine AW_region ?_
   refine AL_p (x_loadN (n := 2) rfl rfl rfl (by kernel_rfl) rfl rfl) ?_
   refine AL_p (x_store (n := 2) rfl rfl rfl rfl (by kernel_rfl) rfl rfl rfl) ?_
   refine AL_nil ?_
   refine AW_ret ?_
   exact ⟨rn [(9, 100), (0, 103)], ⟨⟨⟨_, rfl, VLe.rf⟩, trivial⟩, ⟨⟨_, rfl, by first | exact BLe.rf | exact ble_eq (by rw [hno]; first | done | rfl)⟩, ⟨_, rfl, by first | exact BLe.rf | exact ble_eq (by rw [hno]; first | done | rfl)⟩, ⟨_, rfl, by first | exact BLe.rf | (refine BLe.arr ?_; rw [hno]; first | done | rfl)⟩, trivial⟩, ⟨⟨rfl, .inl nofun, fun _ _ => ⟨_, rfl⟩⟩, trivial⟩, rfl⟩⟩
 try simp only [tdy] at h27
 refine AW_condT rfl ?_
 refine AW_skip ?_
 refine AW_block ?_
 refine AW_seq ?_
 refine AW_draw rfl ?_
 refine AL_p (x_field (off := 1) (o' := 1) rfl rfl rfl (by kernel_rfl) rfl) ?_
 refine AL_p (x_load1 rfl rfl rfl (by kernel_rfl) rfl) ?_
 refine AL_p (x_move rfl rfl) ?_
 refine AL_p (x_field (off := 1) (o' := 1) rfl rfl rfl (by kernel_rfl) rfl) ?_
 refine AL_p (x_load1 rfl rfl rfl (by kernel_rfl) rfl) ?_
 refine AL_p (x_olen (E := 70) (n := 3) rfl rfl rfl (by kernel_rfl)) ?_
 refine AL_b (x_eql rfl rfl rfl) (fun b34 h34 => ?_)
 refine AL_p (x_call (ks := []) (L := [(200, some _)]) (L' := [(200, some _)]) rfl rfl rfl (sTerm_c tk e st1 hm hi1 hok b34) rfl AllV.rf (caught_of rfl) rfl rfl rfl ⟨rfl, trivial⟩ rfl) ?_
 refine AL_p (y_bslice (E := 70) (e := termE) [.tmp 35] ([(termP tk e b34 st1).1]) 104 rfl rfl rfl rfl rfl rfl rfl rfl FitL.rf rfl rfl rfl rfl rfl rfl (by kernel_rfl)) ?_
 refine AL_p (y_append 105 rfl rfl rfl rfl rfl rfl rfl rfl (by kernel_rfl) (by simp only [List.length_append, List.length_cons, List.length_nil]; omega)) ?_
 refine AL_p (x_field (off := 1) (o' := 1) rfl rfl rfl (by kernel_rfl) rfl) ?_
 refine AL_p (x_store (n := 1) rfl rfl rfl rfl (by kernel_rfl) rfl rfl rfl) ?_
 refine AL_nild (by kernel_rfl) ?_
 refine AW_seq ?_
 refine AW_seq ?_
 refine AW_region ?_
 refine AL_p (x_move rfl rfl) ?_
 refine AL_p (x_move rfl rfl) ?_
 refine AL_p (x_nilc rfl rfl rfl) ?_
 refine AL_p (x_field (off := 1) (o' := 1) rfl rfl rfl (by kernel_rfl) rfl) ?_
 refine AL_p (x_load1 rfl rfl rfl (by kernel_rfl) rfl) ?_
 refine AL_bc (x_call (ks := []) (L := [(200, some _)]) (L' := [(200, some _)]) rfl rfl rfl (sIsH_c tk e (termP tk e b34 st1).2 hm (term_le hi1) ⟨#[44]⟩) rfl AllV.rf (caught_of rfl) rfl rfl rfl ⟨rfl, trivial⟩ rfl) (fun b44 h44 => ?_)
 refine AL_p (x_not rfl rfl) ?_
 refine AL_nil ?_
 cases b44
 · try simp only [tdy] at h44
   have hi2 := term_le (e := e) (b := b34) hi1
   have hno := atomS_some h14 (hinv.2.symm.trans (argsS_last' h34 h27 hl h44))
   refine AW_condT rfl ?_
   refine AW_exit (BQ_miss rfl (BQ_hit ?_))
   refine AW_seq ?_
   refine AW_region ?_
   refine AL_p (x_move rfl rfl) ?_
   refine AL_p (x_call (ks := []) (L := [(200, some _)]) (L' := [(200, some _)]) rfl rfl rfl (sTake_c tk e _ hm hi2 ⟨#[41]⟩) rfl AllV.rf (caught_of rfl) rfl rfl rfl ⟨rfl, trivial⟩ rfl) ?_
   refine AL_nil ?_
   refine AW_seq ?_
   refine AW_region ?_
   refine AL_p (x_loadN (n := 2) rfl rfl rfl (by kernel_rfl) rfl rfl) ?_
   refine AL_p (x_store (n := 2) rfl rfl rfl rfl (by kernel_rfl) rfl rfl rfl) ?_
   refine AL_nil ?_
   refine AW_ret ?_
   exact ⟨rn [(9, 100), (0, 105)], ⟨⟨⟨_, rfl, VLe.rf⟩, trivial⟩, ⟨⟨_, rfl, by first | exact BLe.rf | exact ble_eq (by rw [hno]; first | done | rfl)⟩, ⟨_, rfl, by first | exact BLe.rf | exact ble_eq (by rw [hno]; first | done | rfl)⟩, ⟨_, rfl, by first | exact BLe.rf | (refine BLe.arr ?_; rw [hno]; first | done | rfl)⟩, trivial⟩, ⟨⟨rfl, .inl nofun, fun _ _ => ⟨_, rfl⟩⟩, trivial⟩, rfl⟩⟩
 try simp only [tdy] at h44
 have hmo := argsS_more' h34 h27 hl h44
 have hlt := hmo.2.1
 have hmo1 := hmo.1
 refine AW_condF rfl ?_
 refine AW_skip ?_
 refine AW_region ?_
 refine AL_p (x_move rfl rfl) ?_
 refine AL_p (x_nilc rfl rfl rfl) ?_
 refine AL_p (x_field (off := 1) (o' := 1) rfl rfl rfl (by kernel_rfl) rfl) ?_
 refine AL_p (x_load1 rfl rfl rfl (by kernel_rfl) rfl) ?_
 refine AL_p (x_add rfl rfl rfl (IntWalk.i64_in _ (by omega))) ?_
 refine AL_p (x_nilc rfl rfl rfl) ?_
 refine AL_p (x_field (off := 1) (o' := 1) rfl rfl rfl (by kernel_rfl) rfl) ?_
 refine AL_p (x_store (n := 1) rfl rfl rfl rfl (by kernel_rfl) rfl rfl rfl) ?_
 refine AL_nil ?_
 refine ⟨⟨⟨(termP tk e b34 st1).2.next, a ++ [(termP tk e b34 st1).1]⟩, ⟨⟨hlt, by simp only [List.length_append, List.length_cons, List.length_nil]; omega⟩, hmo.2.2.trans hinv.2⟩⟩, rn [(103, 105)], ?_, by dsimp only; simp only [List.length_append, List.length_cons, List.length_nil]; omega⟩
 exact ⟨by (repeat refine ⟨⟨_, rfl, by first | exact VLe.rf | exact vle_int (by dsimp only; omega)⟩, ?_⟩); exact trivial, by (repeat refine ⟨⟨_, rfl, by first | exact BLe.rf | exact BLe.box AllC.rf | exact BLe.arr (by exact rfl)⟩, ?_⟩); exact trivial, by repeat (first | exact trivial | refine ⟨⟨rfl, by first | (left; intro h; cases h) | (right; rfl), by first | exact (fun _ h => ⟨_, h⟩) | exact (fun _ _ => ⟨_, rfl⟩) | (intro _ h; cases h)⟩, ?_⟩), rfl⟩

theorem sAtom_c (tk : List Tokent) (e : Int) (st : PS) (hm : tk.length ≤ 1048576) (hi : st.i ≤ tk.length) (hok : ∀ t ∈ tk, tokOk t) (k : Nat) (hk : Nat.beq k 200 = false) : AC Try.prog 107 [.one (.ptr 200 0)] [(200, some (psB tk e st))] (.agg (atomK (atomS tk e st).1 k)) [(200, some (psB tk e (atomS tk e st).2)), (k, some (.arr 70 termE (atomS tk e st).1.args true))] := AC.ps (sAtom_c0 tk e st hm hi hok) k hk (fun r h => atomK_ren h) (fun _ => rfl)

set_option maxHeartbeats 4000000 in
theorem sOp_c (tk : List Tokent) (e : Int) (st : PS) (hm : tk.length ≤ 1048576) (hi : st.i ≤ tk.length) : AC Try.prog 140 [.one (.ptr 200 0)] [(200, some (psB tk e st))] (.one (.c (.int .i64 (opS (hereT tk e st))))) [(200, some (psB tk e st))] := by
 have h4 : opL4.length = 4 := rfl
 refine AC_body1 Try.func140 rfl rfl Try.ntmps140 rfl Try.results140 ?_
 refine AW_seq ?_
 refine AW_region ?_
 refine AL_p (x_assign rfl rfl) ?_
 refine AL_nil ?_
 refine AW_seq ?_
 refine AW_seq ?_
 refine AW_region ?_
 refine AL_p (y_bslice_sl (E := 9) (e := strE) [.const (.string ⟨#[61]⟩), .const (.string ⟨#[33, 61]⟩), .const (.string ⟨#[60]⟩), .const (.string ⟨#[60, 61]⟩)] (opL4) rfl rfl rfl rfl rfl rfl rfl rfl FitL.rf rfl rfl rfl (by kernel_rfl)) ?_
 refine AL_p (x_len (E := 9) (n := 1) rfl rfl (by kernel_rfl)) ?_
 refine AL_p (x_move rfl rfl) ?_
 refine AL_nil ?_
 refine AW_block ?_
 refine AW_loop2 (ι := {q : Nat // q ≤ 4 ∧ NoneTo (fun x => signT (hereT tk e st) x) opL4 q}) (fun p => [(7, .one (.c (.int .i64 ((p.1) : Int))))]) (fun p => []) [0, 5, 6] [200] (fun p => 4 - (p.1)) ⟨0, ⟨by omega, .zero⟩⟩ (rn []) ?_ ?_
 exact ⟨by (repeat refine ⟨⟨_, rfl, by first | exact VLe.rf | exact vle_int (by dsimp only; omega)⟩, ?_⟩); exact trivial, by (repeat refine ⟨⟨_, rfl, by first | exact BLe.rf | exact BLe.box AllC.rf | exact BLe.arr (by exact rfl)⟩, ?_⟩); exact trivial, by repeat (first | exact trivial | refine ⟨⟨rfl, by first | (left; intro h; cases h) | (right; rfl), by first | exact (fun _ h => ⟨_, h⟩) | exact (fun _ _ => ⟨_, rfl⟩) | (intro _ h; cases h)⟩, ?_⟩), rfl⟩
 rintro ⟨k, hinv⟩
 dsimp only
 have hk : k ≤ 4 := hinv.1
 have hn := hinv.2
 refine AW_seq ?_
 refine AW_region ?_
 refine AL_b (x_lss rfl rfl rfl) (fun b8 h8 => ?_)
 refine AL_nil ?_
 refine AW_seq ?_
 cases b8
 · try simp only [tdy] at h8
   have hno := opS_none (k := k) (by omega) hn
   refine AW_condF rfl ?_
   refine AW_exit (BQ_hit ?_)
   refine AW_seq ?_
   refine AW_region ?_
   refine AL_p (x_assign rfl rfl) ?_
   refine AL_nil ?_
   refine AW_ret ?_
   exact ⟨rn [], ⟨⟨⟨_, rfl, vle_int (by rw [hno])⟩, trivial⟩, ⟨⟨_, rfl, by first | exact BLe.rf | exact ble_eq (by rw [hno]; first | done | rfl)⟩, trivial⟩, ⟨⟨rfl, .inl nofun, fun _ _ => ⟨_, rfl⟩⟩, trivial⟩, rfl⟩⟩
 try simp only [tdy] at h8
 refine AW_condT rfl ?_
 refine AW_skip ?_
 refine AW_seq ?_
 refine AW_block ?_
 refine AW_seq ?_
 refine AW_region ?_
 refine AL_p (x_move rfl rfl) ?_
 refine AL_p (x_index (E := 9) (n := 1) rfl rfl rfl (by kernel_rfl) rfl (k := k) (by omega) (by omega)) ?_
 refine AL_p (x_eload1 rfl rfl (by kernel_rfl) rfl) ?_
 refine AL_p (x_assign rfl rfl) ?_
 refine AL_p (x_assign rfl rfl) ?_
 refine AL_nil ?_
 refine AW_seq ?_
 refine AW_region ?_
 refine AL_p (x_move rfl rfl) ?_
 refine AL_p (x_move rfl rfl) ?_
 refine AL_p (x_nilc rfl rfl rfl) ?_
 refine AL_p (x_field (off := 1) (o' := 1) rfl rfl rfl (by kernel_rfl) rfl) ?_
 refine AL_p (x_load1 rfl rfl rfl (by kernel_rfl) rfl) ?_
 refine AL_p (x_move rfl rfl) ?_
 refine AL_bc (x_call (ks := []) (L := [(200, some _)]) (L' := [(200, some _)]) rfl rfl rfl (sIsH_c tk e st hm hi _) rfl AllV.rf (caught_of rfl) rfl rfl rfl ⟨rfl, trivial⟩ rfl) (fun b18 h18 => ?_)
 refine AL_nil ?_
 cases b18
 · try simp only [tdy] at h18
   refine AW_condF rfl ?_
   refine AW_skip ?_
   refine AW_region ?_
   refine AL_p (x_add rfl rfl rfl (IntWalk.i64_in _ (by omega))) ?_
   refine AL_p (x_move rfl rfl) ?_
   refine AL_nil ?_
   refine ⟨⟨k + 1, ⟨by omega, hn.succ (by omega) h18⟩⟩, rn [], ?_, by dsimp only; omega⟩
   exact ⟨by (repeat refine ⟨⟨_, rfl, by first | exact VLe.rf | exact vle_int (by dsimp only; omega)⟩, ?_⟩); exact trivial, by (repeat refine ⟨⟨_, rfl, by first | exact BLe.rf | exact BLe.box AllC.rf | exact BLe.arr (by exact rfl)⟩, ?_⟩); exact trivial, by repeat (first | exact trivial | refine ⟨⟨rfl, by first | (left; intro h; cases h) | (right; rfl), by first | exact (fun _ h => ⟨_, h⟩) | exact (fun _ _ => ⟨_, rfl⟩) | (intro _ h; cases h)⟩, ?_⟩), rfl⟩
 try simp only [tdy] at h18
 have hno := opS_at (by omega) h18
 refine AW_condT rfl ?_
 refine AW_seq ?_
 refine AW_region ?_
 refine AL_p (x_move rfl rfl) ?_
 refine AL_p (x_add rfl rfl rfl (IntWalk.i64_in _ (by omega))) ?_
 refine AL_p (x_assign rfl rfl) ?_
 refine AL_nil ?_
 refine AW_ret (BQ_ret (BQ_ret ?_))
 exact ⟨rn [], ⟨⟨⟨_, rfl, vle_int (by rw [hno])⟩, trivial⟩, ⟨⟨_, rfl, by first | exact BLe.rf | exact ble_eq (by rw [hno]; first | done | rfl)⟩, trivial⟩, ⟨⟨rfl, .inl nofun, fun _ _ => ⟨_, rfl⟩⟩, trivial⟩, rfl⟩⟩

set_option maxHeartbeats 4000000 in
theorem sKind_c (t : Tokent) : AC Try.prog 54 [.agg (tokenC t)] [] (.one (.c (.int .i64 (kindS t)))) [] := by
 have h3 : kindL3.length = 3 := rfl
 refine AC_body1 Try.func54 rfl rfl Try.ntmps54 rfl Try.results54 ?_
 refine AW_seq ?_
 refine AW_region ?_
 refine AL_p (x_box 100 rfl rfl rfl rfl rfl rfl rfl) ?_
 refine AL_p (x_assign rfl rfl) ?_
 refine AL_nil ?_
 refine AW_seq ?_
 refine AW_seq ?_
 refine AW_region ?_
 refine AL_p (y_bslice_sl (E := 9) (e := strE) [.const (.string ⟨#[115, 116, 97, 116, 101]⟩), .const (.string ⟨#[101, 118, 101, 110, 116]⟩), .const (.string ⟨#[118, 105, 101, 119]⟩)] (kindL3) rfl rfl rfl rfl rfl rfl rfl rfl FitL.rf rfl rfl rfl (by kernel_rfl)) ?_
 refine AL_p (x_len (E := 9) (n := 1) rfl rfl (by kernel_rfl)) ?_
 refine AL_p (x_move rfl rfl) ?_
 refine AL_nil ?_
 refine AW_block ?_
 refine AW_loop2 (ι := {q : Nat // q ≤ 3 ∧ NoneTo (fun x => decide (t.kind = 1) && t.s == x) kindL3 q}) (fun p => [(7, .one (.c (.int .i64 ((p.1) : Int))))]) (fun p => []) [1, 5, 6] [100] (fun p => 3 - (p.1)) ⟨0, ⟨by omega, .zero⟩⟩ (rn []) ?_ ?_
 exact ⟨by (repeat refine ⟨⟨_, rfl, by first | exact VLe.rf | exact vle_int (by dsimp only; omega)⟩, ?_⟩); exact trivial, by (repeat refine ⟨⟨_, rfl, by first | exact BLe.rf | exact BLe.box AllC.rf | exact BLe.arr (by exact rfl)⟩, ?_⟩); exact trivial, by repeat (first | exact trivial | refine ⟨⟨rfl, by first | (left; intro h; cases h) | (right; rfl), by first | exact (fun _ h => ⟨_, h⟩) | exact (fun _ _ => ⟨_, rfl⟩) | (intro _ h; cases h)⟩, ?_⟩), rfl⟩
 rintro ⟨k, hinv⟩
 dsimp only
 have hk : k ≤ 3 := hinv.1
 have hn := hinv.2
 refine AW_seq ?_
 refine AW_region ?_
 refine AL_b (x_lss rfl rfl rfl) (fun b8 h8 => ?_)
 refine AL_nil ?_
 refine AW_seq ?_
 cases b8
 · try simp only [tdy] at h8
   have hno := kindS_none (t := t) (k := k) (by omega) hn
   refine AW_condF rfl ?_
   refine AW_exit (BQ_hit ?_)
   refine AW_seq ?_
   refine AW_region ?_
   refine AL_p (x_assign rfl rfl) ?_
   refine AL_nil ?_
   refine AW_ret ?_
   exact ⟨rn [], ⟨⟨⟨_, rfl, vle_int (hno.symm)⟩, trivial⟩, trivial, trivial, rfl⟩⟩
 try simp only [tdy] at h8
 refine AW_condT rfl ?_
 refine AW_skip ?_
 refine AW_seq ?_
 refine AW_block ?_
 refine AW_seq ?_
 refine AW_region ?_
 refine AL_p (x_move rfl rfl) ?_
 refine AL_p (x_index (E := 9) (n := 1) rfl rfl rfl (by kernel_rfl) rfl (k := k) (by omega) (by omega)) ?_
 refine AL_p (x_eload1 rfl rfl (by kernel_rfl) rfl) ?_
 refine AL_p (x_assign rfl rfl) ?_
 refine AL_p (x_assign rfl rfl) ?_
 refine AL_nil ?_
 refine AW_seq ?_
 refine AW_region ?_
 refine AL_p (x_field (off := 0) (o' := 0) rfl rfl rfl (by kernel_rfl) rfl) ?_
 refine AL_p (x_load1 rfl rfl rfl (by kernel_rfl) rfl) ?_
 refine AL_b (x_eql rfl rfl rfl) (fun b14 h14 => ?_)
 refine AL_p (x_move rfl rfl) ?_
 cases b14
 · try simp only [tdy] at h14
   have hk1 : (decide (t.kind = 1) && t.s == kindL3[k]'(by omega)) = false := by simp [h14]
   refine AL_o rfl rfl rfl rfl ?_
   refine AL_o rfl rfl rfl rfl ?_
   refine AL_o rfl rfl rfl rfl ?_
   refine AL_o rfl rfl rfl rfl ?_
   refine AL_p (x_pickF rfl rfl rfl) ?_
   refine AL_nil ?_
   refine AW_condF rfl ?_
   refine AW_skip ?_
   refine AW_region ?_
   refine AL_p (x_add rfl rfl rfl (IntWalk.i64_in _ (by omega))) ?_
   refine AL_p (x_move rfl rfl) ?_
   refine AL_nil ?_
   refine ⟨⟨k + 1, ⟨by omega, hn.succ (by omega) hk1⟩⟩, rn [], ?_, by dsimp only; omega⟩
   exact ⟨by (repeat refine ⟨⟨_, rfl, by first | exact VLe.rf | exact vle_int (by dsimp only; omega)⟩, ?_⟩); exact trivial, by (repeat refine ⟨⟨_, rfl, by first | exact BLe.rf | exact BLe.box AllC.rf | exact BLe.arr (by exact rfl)⟩, ?_⟩); exact trivial, by repeat (first | exact trivial | refine ⟨⟨rfl, by first | (left; intro h; cases h) | (right; rfl), by first | exact (fun _ h => ⟨_, h⟩) | exact (fun _ _ => ⟨_, rfl⟩) | (intro _ h; cases h)⟩, ?_⟩), rfl⟩
 try simp only [tdy] at h14
 refine AL_g rfl rfl (x_field (off := 2) (o' := 2) rfl rfl rfl (by kernel_rfl) rfl) ?_
 refine AL_g rfl rfl (x_load1 rfl rfl rfl (by kernel_rfl) rfl) ?_
 refine AL_g rfl rfl (x_move rfl rfl) ?_
 refine AL_gb rfl rfl (x_seql rfl rfl rfl) (fun b19 h19 => ?_)
 refine AL_p (x_pickT rfl rfl rfl) ?_
 refine AL_nil ?_
 cases b19
 · try simp only [tdy] at h19
   have hk1 : (decide (t.kind = 1) && t.s == kindL3[k]'(by omega)) = false := by simp [h19]
   refine AW_condF rfl ?_
   refine AW_skip ?_
   refine AW_region ?_
   refine AL_p (x_add rfl rfl rfl (IntWalk.i64_in _ (by omega))) ?_
   refine AL_p (x_move rfl rfl) ?_
   refine AL_nil ?_
   refine ⟨⟨k + 1, ⟨by omega, hn.succ (by omega) hk1⟩⟩, rn [], ?_, by dsimp only; omega⟩
   exact ⟨by (repeat refine ⟨⟨_, rfl, by first | exact VLe.rf | exact vle_int (by dsimp only; omega)⟩, ?_⟩); exact trivial, by (repeat refine ⟨⟨_, rfl, by first | exact BLe.rf | exact BLe.box AllC.rf | exact BLe.arr (by exact rfl)⟩, ?_⟩); exact trivial, by repeat (first | exact trivial | refine ⟨⟨rfl, by first | (left; intro h; cases h) | (right; rfl), by first | exact (fun _ h => ⟨_, h⟩) | exact (fun _ _ => ⟨_, rfl⟩) | (intro _ h; cases h)⟩, ?_⟩), rfl⟩
 try simp only [tdy] at h19
 have hno := kindS_at (t := t) (k := k) (by omega) h14 h19
 refine AW_condT rfl ?_
 refine AW_seq ?_
 refine AW_region ?_
 refine AL_p (x_move rfl rfl) ?_
 refine AL_p (x_add rfl rfl rfl (IntWalk.i64_in _ (by omega))) ?_
 refine AL_p (x_assign rfl rfl) ?_
 refine AL_nil ?_
 refine AW_ret (BQ_ret (BQ_ret ?_))
 exact ⟨rn [], ⟨⟨⟨_, rfl, vle_int (hno.symm)⟩, trivial⟩, trivial, trivial, rfl⟩⟩

set_option maxHeartbeats 4000000 in
theorem sLit_c0 (tk : List Tokent) (e : Int) (st : PS) (hm : tk.length ≤ 1048576) (hi : st.i ≤ tk.length) (hok : ∀ t ∈ tk, tokOk t) : AC Try.prog 109 [.one (.ptr 200 0)] [(200, some (psB tk e st))] (.agg (litO (litS tk e st).1)) [(200, some (psB tk e (litS tk e st).2)), (0, some (.arr 70 termE (litS tk e st).1.atom.args true))] := by
 refine AC_bodyC (n := 10) (k := 9) (T := [(2, .one (.ptr 9 0))]) (Lf := ((9, some (.box (litO (litS tk e st).1))) :: [(200, some (psB tk e (litS tk e st).2)), (0, some (.arr 70 termE (litS tk e st).1.atom.args true))])) Try.func109 rfl rfl Try.ntmps109 rfl Try.results109 rfl rfl (by kernel_rfl) rfl rfl ⟨trivial, (by repeat (first | exact trivial | refine ⟨⟨_, rfl, BLe.rf⟩, ?_⟩)), (by repeat (first | exact trivial | refine ⟨⟨rfl, by first | (left; intro h; cases h) | (right; rfl), by first | exact (fun _ h => ⟨_, h⟩) | exact (fun _ _ => ⟨_, rfl⟩) | (intro _ h; cases h)⟩, ?_⟩)), rfl⟩ ?_
 refine AW_seq ?_
 refine AW_region ?_
 refine AL_p (x_alloc (z := .agg #[.int .i64 0, .string ⟨#[]⟩, .slice none 0 0, .int .i64 0, .string ⟨#[]⟩, .int .i64 0, .string ⟨#[]⟩, .string ⟨#[]⟩, .int .i64 0, .string ⟨#[]⟩]) 100 rfl (by kernel_rfl) rfl rfl rfl rfl) ?_
 refine AL_nil ?_
 refine AW_seq ?_
 refine AW_seq ?_
 refine AW_draw rfl ?_
 refine AL_p (x_move rfl rfl) ?_
 refine AL_p (x_nilc rfl rfl rfl) ?_
 refine AL_p (x_field (off := 3) (o' := 3) rfl rfl rfl (by kernel_rfl) rfl) ?_
 refine AL_p (x_load1 rfl rfl rfl (by kernel_rfl) rfl) ?_
 refine AL_b (x_eql rfl rfl rfl) (fun b8 h8 => ?_)
 refine AL_p (x_move rfl rfl) ?_
 cases b8
 · try simp only [tdy] at h8
   have h0k : (hereT tk e st).kind = 0 := here_kind (fun q => by omega)
   have hnt := not_zero h0k
   have hop := open_no (name_zero h0k)
   refine AL_o rfl rfl rfl rfl ?_
   refine AL_o rfl rfl rfl rfl ?_
   refine AL_o rfl rfl rfl rfl ?_
   refine AL_o rfl rfl rfl rfl ?_
   refine AL_o rfl rfl rfl rfl ?_
   refine AL_o rfl rfl rfl rfl ?_
   refine AL_o rfl rfl rfl rfl ?_
   refine AL_o rfl rfl rfl rfl ?_
   refine AL_o rfl rfl rfl rfl ?_
   refine AL_o rfl rfl rfl rfl ?_
   refine AL_p (x_pickF rfl rfl rfl) ?_
   refine AL_p (x_move rfl rfl) ?_
   refine AL_o rfl rfl rfl rfl ?_
   refine AL_o rfl rfl rfl rfl ?_
   refine AL_o rfl rfl rfl rfl ?_
   refine AL_o rfl rfl rfl rfl ?_
   refine AL_o rfl rfl rfl rfl ?_
   refine AL_o rfl rfl rfl rfl ?_
   refine AL_o rfl rfl rfl rfl ?_
   refine AL_o rfl rfl rfl rfl ?_
   refine AL_o rfl rfl rfl rfl ?_
   refine AL_o rfl rfl rfl rfl ?_
   refine AL_o rfl rfl rfl rfl ?_
   refine AL_o rfl rfl rfl rfl ?_
   refine AL_p (x_pickF rfl rfl rfl) ?_
   refine AL_p (x_move rfl rfl) ?_
   refine AL_o rfl rfl rfl rfl ?_
   refine AL_o rfl rfl rfl rfl ?_
   refine AL_o rfl rfl rfl rfl ?_
   refine AL_o rfl rfl rfl rfl ?_
   refine AL_o rfl rfl rfl rfl ?_
   refine AL_o rfl rfl rfl rfl ?_
   refine AL_o rfl rfl rfl rfl ?_
   refine AL_o rfl rfl rfl rfl ?_
   refine AL_o rfl rfl rfl rfl ?_
   refine AL_o rfl rfl rfl rfl ?_
   refine AL_o rfl rfl rfl rfl ?_
   refine AL_o rfl rfl rfl rfl ?_
   refine AL_p (x_pickF rfl rfl rfl) ?_
   refine AL_nild (by kernel_rfl) ?_
   refine AW_condF rfl ?_
   refine AW_skip ?_
   refine AW_seq ?_
   refine AW_seq ?_
   refine AW_draw rfl ?_
   refine AL_p (x_move rfl rfl) ?_
   refine AL_p (x_nilc rfl rfl rfl) ?_
   refine AL_p (x_field (off := 3) (o' := 3) rfl rfl rfl (by kernel_rfl) rfl) ?_
   refine AL_p (x_load1 rfl rfl rfl (by kernel_rfl) rfl) ?_
   refine AL_b (x_eql rfl rfl rfl) (fun b63 h63 => ?_)
   refine AL_p (x_move rfl rfl) ?_
   cases b63
   rotate_left
   · exfalso; (try simp only [tdy] at h63); omega
   try simp only [tdy] at h63
   refine AL_o rfl rfl rfl rfl ?_
   refine AL_o rfl rfl rfl rfl ?_
   refine AL_o rfl rfl rfl rfl ?_
   refine AL_o rfl rfl rfl rfl ?_
   refine AL_o rfl rfl rfl rfl ?_
   refine AL_o rfl rfl rfl rfl ?_
   refine AL_o rfl rfl rfl rfl ?_
   refine AL_o rfl rfl rfl rfl ?_
   refine AL_o rfl rfl rfl rfl ?_
   refine AL_o rfl rfl rfl rfl ?_
   refine AL_p (x_pickF rfl rfl rfl) ?_
   refine AL_p (x_move rfl rfl) ?_
   refine AL_o rfl rfl rfl rfl ?_
   refine AL_o rfl rfl rfl rfl ?_
   refine AL_o rfl rfl rfl rfl ?_
   refine AL_o rfl rfl rfl rfl ?_
   refine AL_o rfl rfl rfl rfl ?_
   refine AL_o rfl rfl rfl rfl ?_
   refine AL_o rfl rfl rfl rfl ?_
   refine AL_o rfl rfl rfl rfl ?_
   refine AL_o rfl rfl rfl rfl ?_
   refine AL_o rfl rfl rfl rfl ?_
   refine AL_o rfl rfl rfl rfl ?_
   refine AL_o rfl rfl rfl rfl ?_
   refine AL_p (x_pickF rfl rfl rfl) ?_
   refine AL_p (x_move rfl rfl) ?_
   refine AL_o rfl rfl rfl rfl ?_
   refine AL_o rfl rfl rfl rfl ?_
   refine AL_o rfl rfl rfl rfl ?_
   refine AL_o rfl rfl rfl rfl ?_
   refine AL_o rfl rfl rfl rfl ?_
   refine AL_o rfl rfl rfl rfl ?_
   refine AL_o rfl rfl rfl rfl ?_
   refine AL_o rfl rfl rfl rfl ?_
   refine AL_o rfl rfl rfl rfl ?_
   refine AL_o rfl rfl rfl rfl ?_
   refine AL_o rfl rfl rfl rfl ?_
   refine AL_o rfl rfl rfl rfl ?_
   refine AL_o rfl rfl rfl rfl ?_
   refine AL_p (x_pickF rfl rfl rfl) ?_
   refine AL_p (x_move rfl rfl) ?_
   refine AL_o rfl rfl rfl rfl ?_
   refine AL_o rfl rfl rfl rfl ?_
   refine AL_o rfl rfl rfl rfl ?_
   refine AL_o rfl rfl rfl rfl ?_
   refine AL_o rfl rfl rfl rfl ?_
   refine AL_o rfl rfl rfl rfl ?_
   refine AL_o rfl rfl rfl rfl ?_
   refine AL_p (x_pickF rfl rfl rfl) ?_
   refine AL_nild (by kernel_rfl) ?_
   refine AW_condF rfl ?_
   refine AW_skip ?_
   refine AW_seq ?_
   refine AW_region ?_
   refine AL_p (x_build (zs := [.int .i64 0, .string ⟨#[]⟩, .slice none 0 0, .int .i64 0, .string ⟨#[]⟩, .int .i64 0, .string ⟨#[]⟩, .string ⟨#[]⟩, .int .i64 0, .string ⟨#[]⟩]) (places := [(0, 1), (1, 2), (3, 1), (4, 3), (7, 3)]) rfl (by kernel_rfl) rfl rfl rfl rfl rfl) ?_
   refine AL_p (x_alloc (z := .agg #[.int .i64 0, .string ⟨#[]⟩, .slice none 0 0, .int .i64 0, .string ⟨#[]⟩, .int .i64 0, .string ⟨#[]⟩, .string ⟨#[]⟩, .int .i64 0, .string ⟨#[]⟩]) 102 rfl (by kernel_rfl) rfl rfl rfl rfl) ?_
   refine AL_p (x_store (n := 10) rfl rfl rfl rfl (by kernel_rfl) rfl rfl rfl) ?_
   refine AL_nil ?_
   refine AW_seq ?_
   refine AW_region ?_
   refine AL_p (x_move rfl rfl) ?_
   refine AL_p (x_call (ks := []) (L := [(200, some _)]) (L' := [(200, some _)]) rfl rfl rfl (sTerm_c tk e st hm hi hok false) rfl AllV.rf (caught_of rfl) rfl rfl rfl ⟨rfl, trivial⟩ rfl) ?_
   refine AL_p (x_field (off := 4) (o' := 4) rfl rfl rfl (by kernel_rfl) rfl) ?_
   refine AL_p (x_store (n := 3) rfl rfl rfl rfl (by kernel_rfl) rfl rfl rfl) ?_
   refine AL_nil ?_
   refine AW_seq ?_
   refine AW_region ?_
   refine AL_p (x_move rfl rfl) ?_
   refine AL_p (x_call (ks := []) (L := [(200, some _)]) (L' := [(200, some _)]) rfl rfl rfl (sOp_c tk e (termP tk e false st).2 hm (term_le hi)) rfl AllV.rf (caught_of rfl) rfl rfl rfl ⟨rfl, trivial⟩ rfl) ?_
   refine AL_p (x_field (off := 3) (o' := 3) rfl rfl rfl (by kernel_rfl) rfl) ?_
   refine AL_p (x_store (n := 1) rfl rfl rfl rfl (by kernel_rfl) rfl rfl rfl) ?_
   refine AL_nil ?_
   refine AW_seq ?_
   refine AW_seq ?_
   refine AW_region ?_
   refine AL_p (x_field (off := 3) (o' := 3) rfl rfl rfl (by kernel_rfl) rfl) ?_
   refine AL_p (x_load1 rfl rfl rfl (by kernel_rfl) rfl) ?_
   refine AL_b (x_eql rfl rfl rfl) (fun b126 h126 => ?_)
   refine AL_nil ?_
   cases b126
   rotate_left
   · try simp only [tdy] at h126
     have hq := fault_le (e := e) (c := 6) (term_le (e := e) (b := false) hi)
     have hno := litS_cmp hnt hop (opP_no h126)
     refine AW_condT rfl ?_
     refine AW_region ?_
     refine AL_p (x_move rfl rfl) ?_
     refine AL_p (x_call (ks := []) (L := [(200, some _)]) (L' := [(200, some _)]) rfl rfl rfl (sFault_c tk e (termP tk e false st).2 hm (term_le hi) 6) rfl AllV.rf (caught_of rfl) rfl rfl rfl ⟨rfl, trivial⟩ rfl) ?_
     refine AL_nil ?_
     refine AW_seq ?_
     refine AW_region ?_
     refine AL_p (x_move rfl rfl) ?_
     refine AL_p (x_call (ks := []) (L := [(200, some _)]) (L' := [(200, some _)]) rfl rfl rfl (sTerm_c tk e _ hm hq hok false) rfl AllV.rf (caught_of rfl) rfl rfl rfl ⟨rfl, trivial⟩ rfl) ?_
     refine AL_p (x_field (off := 7) (o' := 7) rfl rfl rfl (by kernel_rfl) rfl) ?_
     refine AL_p (x_store (n := 3) rfl rfl rfl rfl (by kernel_rfl) rfl rfl rfl) ?_
     refine AL_nil ?_
     refine AW_seq ?_
     refine AW_region ?_
     refine AL_p (x_loadN (n := 10) rfl rfl rfl (by kernel_rfl) rfl rfl) ?_
     refine AL_p (x_store (n := 10) rfl rfl rfl rfl (by kernel_rfl) rfl rfl rfl) ?_
     refine AL_nil ?_
     refine AW_adopt (T := 70) (e := termE) 103 100 2 rfl rfl rfl rfl rfl ?_
     refine AW_ret ?_
     exact ⟨rn [(9, 100), (0, 103)], ⟨⟨⟨_, rfl, VLe.rf⟩, trivial⟩, ⟨⟨_, rfl, by first | exact BLe.rf | exact ble_eq (by rw [hno]; first | done | rfl)⟩, ⟨_, rfl, by first | exact BLe.rf | exact ble_eq (by rw [hno]; first | done | rfl)⟩, ⟨_, rfl, by first | exact BLe.rf | (refine BLe.arr ?_; rw [hno]; first | done | rfl)⟩, trivial⟩, ⟨⟨rfl, .inl nofun, fun _ _ => ⟨_, rfl⟩⟩, trivial⟩, rfl⟩⟩
   try simp only [tdy] at h126
   have hq := next_le (opP_ok (tk := tk) (e := e) (st := (termP tk e false st).2) h126).2
   have hlt2 : (termP tk e false st).2.i < tk.length := hq
   have hno := litS_cmp hnt hop (opP_ok h126).1
   refine AW_condF rfl ?_
   refine AW_region ?_
   refine AL_p (x_move rfl rfl) ?_
   refine AL_p (x_nilc rfl rfl rfl) ?_
   refine AL_p (x_field (off := 1) (o' := 1) rfl rfl rfl (by kernel_rfl) rfl) ?_
   refine AL_p (x_load1 rfl rfl rfl (by kernel_rfl) rfl) ?_
   refine AL_p (x_add rfl rfl rfl (IntWalk.i64_in _ (by omega))) ?_
   refine AL_p (x_nilc rfl rfl rfl) ?_
   refine AL_p (x_field (off := 1) (o' := 1) rfl rfl rfl (by kernel_rfl) rfl) ?_
   refine AL_p (x_store (n := 1) rfl rfl rfl rfl (by kernel_rfl) rfl rfl rfl) ?_
   refine AL_nil ?_
   refine AW_seq ?_
   refine AW_region ?_
   refine AL_p (x_move rfl rfl) ?_
   refine AL_p (x_call (ks := []) (L := [(200, some _)]) (L' := [(200, some _)]) rfl rfl rfl (sTerm_c tk e _ hm hq hok false) rfl AllV.rf (caught_of rfl) rfl rfl rfl ⟨rfl, trivial⟩ rfl) ?_
   refine AL_p (x_field (off := 7) (o' := 7) rfl rfl rfl (by kernel_rfl) rfl) ?_
   refine AL_p (x_store (n := 3) rfl rfl rfl rfl (by kernel_rfl) rfl rfl rfl) ?_
   refine AL_nil ?_
   refine AW_seq ?_
   refine AW_region ?_
   refine AL_p (x_loadN (n := 10) rfl rfl rfl (by kernel_rfl) rfl rfl) ?_
   refine AL_p (x_store (n := 10) rfl rfl rfl rfl (by kernel_rfl) rfl rfl rfl) ?_
   refine AL_nil ?_
   refine AW_adopt (T := 70) (e := termE) 103 100 2 rfl rfl rfl rfl rfl ?_
   refine AW_ret ?_
   exact ⟨rn [(9, 100), (0, 103)], ⟨⟨⟨_, rfl, VLe.rf⟩, trivial⟩, ⟨⟨_, rfl, by first | exact BLe.rf | exact ble_eq (by rw [hno]; first | done | rfl)⟩, ⟨_, rfl, by first | exact BLe.rf | exact ble_eq (by rw [hno]; first | done | rfl)⟩, ⟨_, rfl, by first | exact BLe.rf | (refine BLe.arr ?_; rw [hno]; first | done | rfl)⟩, trivial⟩, ⟨⟨rfl, .inl nofun, fun _ _ => ⟨_, rfl⟩⟩, trivial⟩, rfl⟩⟩
 try simp only [tdy] at h8
 refine AL_g rfl rfl (x_move rfl rfl) ?_
 refine AL_g rfl rfl (x_nilc rfl rfl rfl) ?_
 refine AL_g rfl rfl (x_field (off := 1) (o' := 1) rfl rfl rfl (by kernel_rfl) rfl) ?_
 refine AL_g rfl rfl (x_load1 rfl rfl rfl (by kernel_rfl) rfl) ?_
 refine AL_g rfl rfl (x_move rfl rfl) ?_
 refine AL_g rfl rfl (x_nilc rfl rfl rfl) ?_
 refine AL_g rfl rfl (x_field (off := 0) (o' := 0) rfl rfl rfl (by kernel_rfl) rfl) ?_
 refine AL_g rfl rfl (x_load1 rfl rfl rfl (by kernel_rfl) rfl) ?_
 refine AL_g rfl rfl (x_len (E := 83) (n := 4) rfl rfl (by kernel_rfl)) ?_
 refine AL_gb rfl rfl (x_lss rfl rfl rfl) (fun b19 h19 => ?_)
 refine AL_p (x_pickT rfl rfl rfl) ?_
 refine AL_p (x_move rfl rfl) ?_
 cases b19
 · try simp only [tdy] at h19
   have h0k : (hereT tk e st).kind = 0 := here_kind (fun q => by omega)
   have hnt := not_zero h0k
   have hop := open_no (name_zero h0k)
   refine AL_o rfl rfl rfl rfl ?_
   refine AL_o rfl rfl rfl rfl ?_
   refine AL_o rfl rfl rfl rfl ?_
   refine AL_o rfl rfl rfl rfl ?_
   refine AL_o rfl rfl rfl rfl ?_
   refine AL_o rfl rfl rfl rfl ?_
   refine AL_o rfl rfl rfl rfl ?_
   refine AL_o rfl rfl rfl rfl ?_
   refine AL_o rfl rfl rfl rfl ?_
   refine AL_o rfl rfl rfl rfl ?_
   refine AL_o rfl rfl rfl rfl ?_
   refine AL_o rfl rfl rfl rfl ?_
   refine AL_p (x_pickF rfl rfl rfl) ?_
   refine AL_p (x_move rfl rfl) ?_
   refine AL_o rfl rfl rfl rfl ?_
   refine AL_o rfl rfl rfl rfl ?_
   refine AL_o rfl rfl rfl rfl ?_
   refine AL_o rfl rfl rfl rfl ?_
   refine AL_o rfl rfl rfl rfl ?_
   refine AL_o rfl rfl rfl rfl ?_
   refine AL_o rfl rfl rfl rfl ?_
   refine AL_o rfl rfl rfl rfl ?_
   refine AL_o rfl rfl rfl rfl ?_
   refine AL_o rfl rfl rfl rfl ?_
   refine AL_o rfl rfl rfl rfl ?_
   refine AL_o rfl rfl rfl rfl ?_
   refine AL_p (x_pickF rfl rfl rfl) ?_
   refine AL_nild (by kernel_rfl) ?_
   refine AW_condF rfl ?_
   refine AW_skip ?_
   refine AW_seq ?_
   refine AW_seq ?_
   refine AW_draw rfl ?_
   refine AL_p (x_move rfl rfl) ?_
   refine AL_p (x_nilc rfl rfl rfl) ?_
   refine AL_p (x_field (off := 3) (o' := 3) rfl rfl rfl (by kernel_rfl) rfl) ?_
   refine AL_p (x_load1 rfl rfl rfl (by kernel_rfl) rfl) ?_
   refine AL_b (x_eql rfl rfl rfl) (fun b63 h63 => ?_)
   refine AL_p (x_move rfl rfl) ?_
   cases b63
   · exfalso; (try simp only [tdy] at h63); omega
   try simp only [tdy] at h63
   refine AL_g rfl rfl (x_move rfl rfl) ?_
   refine AL_g rfl rfl (x_nilc rfl rfl rfl) ?_
   refine AL_g rfl rfl (x_field (off := 1) (o' := 1) rfl rfl rfl (by kernel_rfl) rfl) ?_
   refine AL_g rfl rfl (x_load1 rfl rfl rfl (by kernel_rfl) rfl) ?_
   refine AL_g rfl rfl (x_move rfl rfl) ?_
   refine AL_g rfl rfl (x_nilc rfl rfl rfl) ?_
   refine AL_g rfl rfl (x_field (off := 0) (o' := 0) rfl rfl rfl (by kernel_rfl) rfl) ?_
   refine AL_g rfl rfl (x_load1 rfl rfl rfl (by kernel_rfl) rfl) ?_
   refine AL_g rfl rfl (x_len (E := 83) (n := 4) rfl rfl (by kernel_rfl)) ?_
   refine AL_gb rfl rfl (x_lss rfl rfl rfl) (fun b74 h74 => ?_)
   refine AL_p (x_pickT rfl rfl rfl) ?_
   refine AL_p (x_move rfl rfl) ?_
   cases b74
   rotate_left
   · exfalso; (try simp only [tdy] at h74); omega
   try simp only [tdy] at h74
   refine AL_o rfl rfl rfl rfl ?_
   refine AL_o rfl rfl rfl rfl ?_
   refine AL_o rfl rfl rfl rfl ?_
   refine AL_o rfl rfl rfl rfl ?_
   refine AL_o rfl rfl rfl rfl ?_
   refine AL_o rfl rfl rfl rfl ?_
   refine AL_o rfl rfl rfl rfl ?_
   refine AL_o rfl rfl rfl rfl ?_
   refine AL_o rfl rfl rfl rfl ?_
   refine AL_o rfl rfl rfl rfl ?_
   refine AL_o rfl rfl rfl rfl ?_
   refine AL_o rfl rfl rfl rfl ?_
   refine AL_p (x_pickF rfl rfl rfl) ?_
   refine AL_p (x_move rfl rfl) ?_
   refine AL_o rfl rfl rfl rfl ?_
   refine AL_o rfl rfl rfl rfl ?_
   refine AL_o rfl rfl rfl rfl ?_
   refine AL_o rfl rfl rfl rfl ?_
   refine AL_o rfl rfl rfl rfl ?_
   refine AL_o rfl rfl rfl rfl ?_
   refine AL_o rfl rfl rfl rfl ?_
   refine AL_o rfl rfl rfl rfl ?_
   refine AL_o rfl rfl rfl rfl ?_
   refine AL_o rfl rfl rfl rfl ?_
   refine AL_o rfl rfl rfl rfl ?_
   refine AL_o rfl rfl rfl rfl ?_
   refine AL_o rfl rfl rfl rfl ?_
   refine AL_p (x_pickF rfl rfl rfl) ?_
   refine AL_p (x_move rfl rfl) ?_
   refine AL_o rfl rfl rfl rfl ?_
   refine AL_o rfl rfl rfl rfl ?_
   refine AL_o rfl rfl rfl rfl ?_
   refine AL_o rfl rfl rfl rfl ?_
   refine AL_o rfl rfl rfl rfl ?_
   refine AL_o rfl rfl rfl rfl ?_
   refine AL_o rfl rfl rfl rfl ?_
   refine AL_p (x_pickF rfl rfl rfl) ?_
   refine AL_nild (by kernel_rfl) ?_
   refine AW_condF rfl ?_
   refine AW_skip ?_
   refine AW_seq ?_
   refine AW_region ?_
   refine AL_p (x_build (zs := [.int .i64 0, .string ⟨#[]⟩, .slice none 0 0, .int .i64 0, .string ⟨#[]⟩, .int .i64 0, .string ⟨#[]⟩, .string ⟨#[]⟩, .int .i64 0, .string ⟨#[]⟩]) (places := [(0, 1), (1, 2), (3, 1), (4, 3), (7, 3)]) rfl (by kernel_rfl) rfl rfl rfl rfl rfl) ?_
   refine AL_p (x_alloc (z := .agg #[.int .i64 0, .string ⟨#[]⟩, .slice none 0 0, .int .i64 0, .string ⟨#[]⟩, .int .i64 0, .string ⟨#[]⟩, .string ⟨#[]⟩, .int .i64 0, .string ⟨#[]⟩]) 102 rfl (by kernel_rfl) rfl rfl rfl rfl) ?_
   refine AL_p (x_store (n := 10) rfl rfl rfl rfl (by kernel_rfl) rfl rfl rfl) ?_
   refine AL_nil ?_
   refine AW_seq ?_
   refine AW_region ?_
   refine AL_p (x_move rfl rfl) ?_
   refine AL_p (x_call (ks := []) (L := [(200, some _)]) (L' := [(200, some _)]) rfl rfl rfl (sTerm_c tk e st hm hi hok false) rfl AllV.rf (caught_of rfl) rfl rfl rfl ⟨rfl, trivial⟩ rfl) ?_
   refine AL_p (x_field (off := 4) (o' := 4) rfl rfl rfl (by kernel_rfl) rfl) ?_
   refine AL_p (x_store (n := 3) rfl rfl rfl rfl (by kernel_rfl) rfl rfl rfl) ?_
   refine AL_nil ?_
   refine AW_seq ?_
   refine AW_region ?_
   refine AL_p (x_move rfl rfl) ?_
   refine AL_p (x_call (ks := []) (L := [(200, some _)]) (L' := [(200, some _)]) rfl rfl rfl (sOp_c tk e (termP tk e false st).2 hm (term_le hi)) rfl AllV.rf (caught_of rfl) rfl rfl rfl ⟨rfl, trivial⟩ rfl) ?_
   refine AL_p (x_field (off := 3) (o' := 3) rfl rfl rfl (by kernel_rfl) rfl) ?_
   refine AL_p (x_store (n := 1) rfl rfl rfl rfl (by kernel_rfl) rfl rfl rfl) ?_
   refine AL_nil ?_
   refine AW_seq ?_
   refine AW_seq ?_
   refine AW_region ?_
   refine AL_p (x_field (off := 3) (o' := 3) rfl rfl rfl (by kernel_rfl) rfl) ?_
   refine AL_p (x_load1 rfl rfl rfl (by kernel_rfl) rfl) ?_
   refine AL_b (x_eql rfl rfl rfl) (fun b126 h126 => ?_)
   refine AL_nil ?_
   cases b126
   rotate_left
   · try simp only [tdy] at h126
     have hq := fault_le (e := e) (c := 6) (term_le (e := e) (b := false) hi)
     have hno := litS_cmp hnt hop (opP_no h126)
     refine AW_condT rfl ?_
     refine AW_region ?_
     refine AL_p (x_move rfl rfl) ?_
     refine AL_p (x_call (ks := []) (L := [(200, some _)]) (L' := [(200, some _)]) rfl rfl rfl (sFault_c tk e (termP tk e false st).2 hm (term_le hi) 6) rfl AllV.rf (caught_of rfl) rfl rfl rfl ⟨rfl, trivial⟩ rfl) ?_
     refine AL_nil ?_
     refine AW_seq ?_
     refine AW_region ?_
     refine AL_p (x_move rfl rfl) ?_
     refine AL_p (x_call (ks := []) (L := [(200, some _)]) (L' := [(200, some _)]) rfl rfl rfl (sTerm_c tk e _ hm hq hok false) rfl AllV.rf (caught_of rfl) rfl rfl rfl ⟨rfl, trivial⟩ rfl) ?_
     refine AL_p (x_field (off := 7) (o' := 7) rfl rfl rfl (by kernel_rfl) rfl) ?_
     refine AL_p (x_store (n := 3) rfl rfl rfl rfl (by kernel_rfl) rfl rfl rfl) ?_
     refine AL_nil ?_
     refine AW_seq ?_
     refine AW_region ?_
     refine AL_p (x_loadN (n := 10) rfl rfl rfl (by kernel_rfl) rfl rfl) ?_
     refine AL_p (x_store (n := 10) rfl rfl rfl rfl (by kernel_rfl) rfl rfl rfl) ?_
     refine AL_nil ?_
     refine AW_adopt (T := 70) (e := termE) 103 100 2 rfl rfl rfl rfl rfl ?_
     refine AW_ret ?_
     exact ⟨rn [(9, 100), (0, 103)], ⟨⟨⟨_, rfl, VLe.rf⟩, trivial⟩, ⟨⟨_, rfl, by first | exact BLe.rf | exact ble_eq (by rw [hno]; first | done | rfl)⟩, ⟨_, rfl, by first | exact BLe.rf | exact ble_eq (by rw [hno]; first | done | rfl)⟩, ⟨_, rfl, by first | exact BLe.rf | (refine BLe.arr ?_; rw [hno]; first | done | rfl)⟩, trivial⟩, ⟨⟨rfl, .inl nofun, fun _ _ => ⟨_, rfl⟩⟩, trivial⟩, rfl⟩⟩
   try simp only [tdy] at h126
   have hq := next_le (opP_ok (tk := tk) (e := e) (st := (termP tk e false st).2) h126).2
   have hlt2 : (termP tk e false st).2.i < tk.length := hq
   have hno := litS_cmp hnt hop (opP_ok h126).1
   refine AW_condF rfl ?_
   refine AW_region ?_
   refine AL_p (x_move rfl rfl) ?_
   refine AL_p (x_nilc rfl rfl rfl) ?_
   refine AL_p (x_field (off := 1) (o' := 1) rfl rfl rfl (by kernel_rfl) rfl) ?_
   refine AL_p (x_load1 rfl rfl rfl (by kernel_rfl) rfl) ?_
   refine AL_p (x_add rfl rfl rfl (IntWalk.i64_in _ (by omega))) ?_
   refine AL_p (x_nilc rfl rfl rfl) ?_
   refine AL_p (x_field (off := 1) (o' := 1) rfl rfl rfl (by kernel_rfl) rfl) ?_
   refine AL_p (x_store (n := 1) rfl rfl rfl rfl (by kernel_rfl) rfl rfl rfl) ?_
   refine AL_nil ?_
   refine AW_seq ?_
   refine AW_region ?_
   refine AL_p (x_move rfl rfl) ?_
   refine AL_p (x_call (ks := []) (L := [(200, some _)]) (L' := [(200, some _)]) rfl rfl rfl (sTerm_c tk e _ hm hq hok false) rfl AllV.rf (caught_of rfl) rfl rfl rfl ⟨rfl, trivial⟩ rfl) ?_
   refine AL_p (x_field (off := 7) (o' := 7) rfl rfl rfl (by kernel_rfl) rfl) ?_
   refine AL_p (x_store (n := 3) rfl rfl rfl rfl (by kernel_rfl) rfl rfl rfl) ?_
   refine AL_nil ?_
   refine AW_seq ?_
   refine AW_region ?_
   refine AL_p (x_loadN (n := 10) rfl rfl rfl (by kernel_rfl) rfl rfl) ?_
   refine AL_p (x_store (n := 10) rfl rfl rfl rfl (by kernel_rfl) rfl rfl rfl) ?_
   refine AL_nil ?_
   refine AW_adopt (T := 70) (e := termE) 103 100 2 rfl rfl rfl rfl rfl ?_
   refine AW_ret ?_
   exact ⟨rn [(9, 100), (0, 103)], ⟨⟨⟨_, rfl, VLe.rf⟩, trivial⟩, ⟨⟨_, rfl, by first | exact BLe.rf | exact ble_eq (by rw [hno]; first | done | rfl)⟩, ⟨_, rfl, by first | exact BLe.rf | exact ble_eq (by rw [hno]; first | done | rfl)⟩, ⟨_, rfl, by first | exact BLe.rf | (refine BLe.arr ?_; rw [hno]; first | done | rfl)⟩, trivial⟩, ⟨⟨rfl, .inl nofun, fun _ _ => ⟨_, rfl⟩⟩, trivial⟩, rfl⟩⟩
 try simp only [tdy] at h19
 have hh : hereT tk e st = (tk[st.i]'(by omega)) := here_ok (by omega) (by omega)
 refine AL_g rfl rfl (x_move rfl rfl) ?_
 refine AL_g rfl rfl (x_nilc rfl rfl rfl) ?_
 refine AL_g rfl rfl (x_field (off := 0) (o' := 0) rfl rfl rfl (by kernel_rfl) rfl) ?_
 refine AL_g rfl rfl (x_load1 rfl rfl rfl (by kernel_rfl) rfl) ?_
 refine AL_g rfl rfl (x_move rfl rfl) ?_
 refine AL_g rfl rfl (x_nilc rfl rfl rfl) ?_
 refine AL_g rfl rfl (x_field (off := 1) (o' := 1) rfl rfl rfl (by kernel_rfl) rfl) ?_
 refine AL_g rfl rfl (x_load1 rfl rfl rfl (by kernel_rfl) rfl) ?_
 refine AL_g rfl rfl (x_index (E := 83) (n := 4) rfl rfl rfl (by kernel_rfl) rfl (k := st.i) (by omega) (by omega)) ?_
 refine AL_g rfl rfl (x_efield (off := 0) (o' := 0) rfl rfl (by kernel_rfl) rfl) ?_
 refine AL_g rfl rfl (x_eload1 rfl rfl (by kernel_rfl) rfl) ?_
 refine AL_gb rfl rfl (x_eql rfl rfl rfl) (fun b33 h33 => ?_)
 refine AL_p (x_pickT rfl rfl rfl) ?_
 refine AL_p (x_move rfl rfl) ?_
 cases b33
 · try simp only [tdy] at h33
   have hnt : notT (hereT tk e st) = false := by rw [hh]; simp [notT, h33]
   have hop := open_no (tk := tk) (e := e) (st := st) (by rw [hh]; simp [nameT, h33])
   refine AL_o rfl rfl rfl rfl ?_
   refine AL_o rfl rfl rfl rfl ?_
   refine AL_o rfl rfl rfl rfl ?_
   refine AL_o rfl rfl rfl rfl ?_
   refine AL_o rfl rfl rfl rfl ?_
   refine AL_o rfl rfl rfl rfl ?_
   refine AL_o rfl rfl rfl rfl ?_
   refine AL_o rfl rfl rfl rfl ?_
   refine AL_o rfl rfl rfl rfl ?_
   refine AL_o rfl rfl rfl rfl ?_
   refine AL_o rfl rfl rfl rfl ?_
   refine AL_o rfl rfl rfl rfl ?_
   refine AL_p (x_pickF rfl rfl rfl) ?_
   refine AL_nild (by kernel_rfl) ?_
   refine AW_condF rfl ?_
   refine AW_skip ?_
   refine AW_seq ?_
   refine AW_seq ?_
   refine AW_draw rfl ?_
   refine AL_p (x_move rfl rfl) ?_
   refine AL_p (x_nilc rfl rfl rfl) ?_
   refine AL_p (x_field (off := 3) (o' := 3) rfl rfl rfl (by kernel_rfl) rfl) ?_
   refine AL_p (x_load1 rfl rfl rfl (by kernel_rfl) rfl) ?_
   refine AL_b (x_eql rfl rfl rfl) (fun b63 h63 => ?_)
   refine AL_p (x_move rfl rfl) ?_
   cases b63
   · exfalso; (try simp only [tdy] at h63); omega
   try simp only [tdy] at h63
   refine AL_g rfl rfl (x_move rfl rfl) ?_
   refine AL_g rfl rfl (x_nilc rfl rfl rfl) ?_
   refine AL_g rfl rfl (x_field (off := 1) (o' := 1) rfl rfl rfl (by kernel_rfl) rfl) ?_
   refine AL_g rfl rfl (x_load1 rfl rfl rfl (by kernel_rfl) rfl) ?_
   refine AL_g rfl rfl (x_move rfl rfl) ?_
   refine AL_g rfl rfl (x_nilc rfl rfl rfl) ?_
   refine AL_g rfl rfl (x_field (off := 0) (o' := 0) rfl rfl rfl (by kernel_rfl) rfl) ?_
   refine AL_g rfl rfl (x_load1 rfl rfl rfl (by kernel_rfl) rfl) ?_
   refine AL_g rfl rfl (x_len (E := 83) (n := 4) rfl rfl (by kernel_rfl)) ?_
   refine AL_gb rfl rfl (x_lss rfl rfl rfl) (fun b74 h74 => ?_)
   refine AL_p (x_pickT rfl rfl rfl) ?_
   refine AL_p (x_move rfl rfl) ?_
   cases b74
   · exfalso; (try simp only [tdy] at h74); omega
   try simp only [tdy] at h74
   refine AL_g rfl rfl (x_move rfl rfl) ?_
   refine AL_g rfl rfl (x_nilc rfl rfl rfl) ?_
   refine AL_g rfl rfl (x_field (off := 0) (o' := 0) rfl rfl rfl (by kernel_rfl) rfl) ?_
   refine AL_g rfl rfl (x_load1 rfl rfl rfl (by kernel_rfl) rfl) ?_
   refine AL_g rfl rfl (x_move rfl rfl) ?_
   refine AL_g rfl rfl (x_nilc rfl rfl rfl) ?_
   refine AL_g rfl rfl (x_field (off := 1) (o' := 1) rfl rfl rfl (by kernel_rfl) rfl) ?_
   refine AL_g rfl rfl (x_load1 rfl rfl rfl (by kernel_rfl) rfl) ?_
   refine AL_g rfl rfl (x_index (E := 83) (n := 4) rfl rfl rfl (by kernel_rfl) rfl (k := st.i) (by omega) (by omega)) ?_
   refine AL_g rfl rfl (x_efield (off := 0) (o' := 0) rfl rfl (by kernel_rfl) rfl) ?_
   refine AL_g rfl rfl (x_eload1 rfl rfl (by kernel_rfl) rfl) ?_
   refine AL_gb rfl rfl (x_eql rfl rfl rfl) (fun b88 h88 => ?_)
   refine AL_p (x_pickT rfl rfl rfl) ?_
   refine AL_p (x_move rfl rfl) ?_
   cases b88
   rotate_left
   · exfalso; (try simp only [tdy] at h88); omega
   try simp only [tdy] at h88
   refine AL_o rfl rfl rfl rfl ?_
   refine AL_o rfl rfl rfl rfl ?_
   refine AL_o rfl rfl rfl rfl ?_
   refine AL_o rfl rfl rfl rfl ?_
   refine AL_o rfl rfl rfl rfl ?_
   refine AL_o rfl rfl rfl rfl ?_
   refine AL_o rfl rfl rfl rfl ?_
   refine AL_o rfl rfl rfl rfl ?_
   refine AL_o rfl rfl rfl rfl ?_
   refine AL_o rfl rfl rfl rfl ?_
   refine AL_o rfl rfl rfl rfl ?_
   refine AL_o rfl rfl rfl rfl ?_
   refine AL_o rfl rfl rfl rfl ?_
   refine AL_p (x_pickF rfl rfl rfl) ?_
   refine AL_p (x_move rfl rfl) ?_
   refine AL_o rfl rfl rfl rfl ?_
   refine AL_o rfl rfl rfl rfl ?_
   refine AL_o rfl rfl rfl rfl ?_
   refine AL_o rfl rfl rfl rfl ?_
   refine AL_o rfl rfl rfl rfl ?_
   refine AL_o rfl rfl rfl rfl ?_
   refine AL_o rfl rfl rfl rfl ?_
   refine AL_p (x_pickF rfl rfl rfl) ?_
   refine AL_nild (by kernel_rfl) ?_
   refine AW_condF rfl ?_
   refine AW_skip ?_
   refine AW_seq ?_
   refine AW_region ?_
   refine AL_p (x_build (zs := [.int .i64 0, .string ⟨#[]⟩, .slice none 0 0, .int .i64 0, .string ⟨#[]⟩, .int .i64 0, .string ⟨#[]⟩, .string ⟨#[]⟩, .int .i64 0, .string ⟨#[]⟩]) (places := [(0, 1), (1, 2), (3, 1), (4, 3), (7, 3)]) rfl (by kernel_rfl) rfl rfl rfl rfl rfl) ?_
   refine AL_p (x_alloc (z := .agg #[.int .i64 0, .string ⟨#[]⟩, .slice none 0 0, .int .i64 0, .string ⟨#[]⟩, .int .i64 0, .string ⟨#[]⟩, .string ⟨#[]⟩, .int .i64 0, .string ⟨#[]⟩]) 102 rfl (by kernel_rfl) rfl rfl rfl rfl) ?_
   refine AL_p (x_store (n := 10) rfl rfl rfl rfl (by kernel_rfl) rfl rfl rfl) ?_
   refine AL_nil ?_
   refine AW_seq ?_
   refine AW_region ?_
   refine AL_p (x_move rfl rfl) ?_
   refine AL_p (x_call (ks := []) (L := [(200, some _)]) (L' := [(200, some _)]) rfl rfl rfl (sTerm_c tk e st hm hi hok false) rfl AllV.rf (caught_of rfl) rfl rfl rfl ⟨rfl, trivial⟩ rfl) ?_
   refine AL_p (x_field (off := 4) (o' := 4) rfl rfl rfl (by kernel_rfl) rfl) ?_
   refine AL_p (x_store (n := 3) rfl rfl rfl rfl (by kernel_rfl) rfl rfl rfl) ?_
   refine AL_nil ?_
   refine AW_seq ?_
   refine AW_region ?_
   refine AL_p (x_move rfl rfl) ?_
   refine AL_p (x_call (ks := []) (L := [(200, some _)]) (L' := [(200, some _)]) rfl rfl rfl (sOp_c tk e (termP tk e false st).2 hm (term_le hi)) rfl AllV.rf (caught_of rfl) rfl rfl rfl ⟨rfl, trivial⟩ rfl) ?_
   refine AL_p (x_field (off := 3) (o' := 3) rfl rfl rfl (by kernel_rfl) rfl) ?_
   refine AL_p (x_store (n := 1) rfl rfl rfl rfl (by kernel_rfl) rfl rfl rfl) ?_
   refine AL_nil ?_
   refine AW_seq ?_
   refine AW_seq ?_
   refine AW_region ?_
   refine AL_p (x_field (off := 3) (o' := 3) rfl rfl rfl (by kernel_rfl) rfl) ?_
   refine AL_p (x_load1 rfl rfl rfl (by kernel_rfl) rfl) ?_
   refine AL_b (x_eql rfl rfl rfl) (fun b126 h126 => ?_)
   refine AL_nil ?_
   cases b126
   rotate_left
   · try simp only [tdy] at h126
     have hq := fault_le (e := e) (c := 6) (term_le (e := e) (b := false) hi)
     have hno := litS_cmp hnt hop (opP_no h126)
     refine AW_condT rfl ?_
     refine AW_region ?_
     refine AL_p (x_move rfl rfl) ?_
     refine AL_p (x_call (ks := []) (L := [(200, some _)]) (L' := [(200, some _)]) rfl rfl rfl (sFault_c tk e (termP tk e false st).2 hm (term_le hi) 6) rfl AllV.rf (caught_of rfl) rfl rfl rfl ⟨rfl, trivial⟩ rfl) ?_
     refine AL_nil ?_
     refine AW_seq ?_
     refine AW_region ?_
     refine AL_p (x_move rfl rfl) ?_
     refine AL_p (x_call (ks := []) (L := [(200, some _)]) (L' := [(200, some _)]) rfl rfl rfl (sTerm_c tk e _ hm hq hok false) rfl AllV.rf (caught_of rfl) rfl rfl rfl ⟨rfl, trivial⟩ rfl) ?_
     refine AL_p (x_field (off := 7) (o' := 7) rfl rfl rfl (by kernel_rfl) rfl) ?_
     refine AL_p (x_store (n := 3) rfl rfl rfl rfl (by kernel_rfl) rfl rfl rfl) ?_
     refine AL_nil ?_
     refine AW_seq ?_
     refine AW_region ?_
     refine AL_p (x_loadN (n := 10) rfl rfl rfl (by kernel_rfl) rfl rfl) ?_
     refine AL_p (x_store (n := 10) rfl rfl rfl rfl (by kernel_rfl) rfl rfl rfl) ?_
     refine AL_nil ?_
     refine AW_adopt (T := 70) (e := termE) 103 100 2 rfl rfl rfl rfl rfl ?_
     refine AW_ret ?_
     exact ⟨rn [(9, 100), (0, 103)], ⟨⟨⟨_, rfl, VLe.rf⟩, trivial⟩, ⟨⟨_, rfl, by first | exact BLe.rf | exact ble_eq (by rw [hno]; first | done | rfl)⟩, ⟨_, rfl, by first | exact BLe.rf | exact ble_eq (by rw [hno]; first | done | rfl)⟩, ⟨_, rfl, by first | exact BLe.rf | (refine BLe.arr ?_; rw [hno]; first | done | rfl)⟩, trivial⟩, ⟨⟨rfl, .inl nofun, fun _ _ => ⟨_, rfl⟩⟩, trivial⟩, rfl⟩⟩
   try simp only [tdy] at h126
   have hq := next_le (opP_ok (tk := tk) (e := e) (st := (termP tk e false st).2) h126).2
   have hlt2 : (termP tk e false st).2.i < tk.length := hq
   have hno := litS_cmp hnt hop (opP_ok h126).1
   refine AW_condF rfl ?_
   refine AW_region ?_
   refine AL_p (x_move rfl rfl) ?_
   refine AL_p (x_nilc rfl rfl rfl) ?_
   refine AL_p (x_field (off := 1) (o' := 1) rfl rfl rfl (by kernel_rfl) rfl) ?_
   refine AL_p (x_load1 rfl rfl rfl (by kernel_rfl) rfl) ?_
   refine AL_p (x_add rfl rfl rfl (IntWalk.i64_in _ (by omega))) ?_
   refine AL_p (x_nilc rfl rfl rfl) ?_
   refine AL_p (x_field (off := 1) (o' := 1) rfl rfl rfl (by kernel_rfl) rfl) ?_
   refine AL_p (x_store (n := 1) rfl rfl rfl rfl (by kernel_rfl) rfl rfl rfl) ?_
   refine AL_nil ?_
   refine AW_seq ?_
   refine AW_region ?_
   refine AL_p (x_move rfl rfl) ?_
   refine AL_p (x_call (ks := []) (L := [(200, some _)]) (L' := [(200, some _)]) rfl rfl rfl (sTerm_c tk e _ hm hq hok false) rfl AllV.rf (caught_of rfl) rfl rfl rfl ⟨rfl, trivial⟩ rfl) ?_
   refine AL_p (x_field (off := 7) (o' := 7) rfl rfl rfl (by kernel_rfl) rfl) ?_
   refine AL_p (x_store (n := 3) rfl rfl rfl rfl (by kernel_rfl) rfl rfl rfl) ?_
   refine AL_nil ?_
   refine AW_seq ?_
   refine AW_region ?_
   refine AL_p (x_loadN (n := 10) rfl rfl rfl (by kernel_rfl) rfl rfl) ?_
   refine AL_p (x_store (n := 10) rfl rfl rfl rfl (by kernel_rfl) rfl rfl rfl) ?_
   refine AL_nil ?_
   refine AW_adopt (T := 70) (e := termE) 103 100 2 rfl rfl rfl rfl rfl ?_
   refine AW_ret ?_
   exact ⟨rn [(9, 100), (0, 103)], ⟨⟨⟨_, rfl, VLe.rf⟩, trivial⟩, ⟨⟨_, rfl, by first | exact BLe.rf | exact ble_eq (by rw [hno]; first | done | rfl)⟩, ⟨_, rfl, by first | exact BLe.rf | exact ble_eq (by rw [hno]; first | done | rfl)⟩, ⟨_, rfl, by first | exact BLe.rf | (refine BLe.arr ?_; rw [hno]; first | done | rfl)⟩, trivial⟩, ⟨⟨rfl, .inl nofun, fun _ _ => ⟨_, rfl⟩⟩, trivial⟩, rfl⟩⟩
 try simp only [tdy] at h33
 refine AL_g rfl rfl (x_move rfl rfl) ?_
 refine AL_g rfl rfl (x_nilc rfl rfl rfl) ?_
 refine AL_g rfl rfl (x_field (off := 0) (o' := 0) rfl rfl rfl (by kernel_rfl) rfl) ?_
 refine AL_g rfl rfl (x_load1 rfl rfl rfl (by kernel_rfl) rfl) ?_
 refine AL_g rfl rfl (x_move rfl rfl) ?_
 refine AL_g rfl rfl (x_nilc rfl rfl rfl) ?_
 refine AL_g rfl rfl (x_field (off := 1) (o' := 1) rfl rfl rfl (by kernel_rfl) rfl) ?_
 refine AL_g rfl rfl (x_load1 rfl rfl rfl (by kernel_rfl) rfl) ?_
 refine AL_g rfl rfl (x_index (E := 83) (n := 4) rfl rfl rfl (by kernel_rfl) rfl (k := st.i) (by omega) (by omega)) ?_
 refine AL_g rfl rfl (x_efield (off := 2) (o' := 2) rfl rfl (by kernel_rfl) rfl) ?_
 refine AL_g rfl rfl (x_eload1 rfl rfl (by kernel_rfl) rfl) ?_
 refine AL_gb rfl rfl (x_seql rfl rfl rfl) (fun b47 h47 => ?_)
 refine AL_p (x_pickT rfl rfl rfl) ?_
 refine AL_nild (by kernel_rfl) ?_
 cases b47
 rotate_left
 · try simp only [tdy] at h47
   have hnt : notT (hereT tk e st) = true := by rw [hh]; simp [notT, notS, h33, h47]
   have hlt := next_le (not_lt hnt)
   have hlt2 := not_lt hnt
   have hno := litS_not hnt
   refine AW_condT rfl ?_
   refine AW_seq ?_
   refine AW_region ?_
   refine AL_p (x_move rfl rfl) ?_
   refine AL_p (x_nilc rfl rfl rfl) ?_
   refine AL_p (x_field (off := 1) (o' := 1) rfl rfl rfl (by kernel_rfl) rfl) ?_
   refine AL_p (x_load1 rfl rfl rfl (by kernel_rfl) rfl) ?_
   refine AL_p (x_add rfl rfl rfl (IntWalk.i64_in _ (by omega))) ?_
   refine AL_p (x_nilc rfl rfl rfl) ?_
   refine AL_p (x_field (off := 1) (o' := 1) rfl rfl rfl (by kernel_rfl) rfl) ?_
   refine AL_p (x_store (n := 1) rfl rfl rfl rfl (by kernel_rfl) rfl rfl rfl) ?_
   refine AL_nil ?_
   refine AW_seq ?_
   refine AW_region ?_
   refine AL_p (x_move rfl rfl) ?_
   refine AL_p (x_call (ks := []) (L := [(200, some _)]) (L' := [(200, some _), (101, some _)]) rfl rfl rfl (sAtom_c tk e st.next hm hlt hok 101 rfl) rfl AllV.rf (caught_of rfl) rfl rfl rfl ⟨rfl, trivial⟩ rfl) ?_
   refine AL_p (x_build (zs := [.int .i64 0, .string ⟨#[]⟩, .slice none 0 0, .int .i64 0, .string ⟨#[]⟩, .int .i64 0, .string ⟨#[]⟩, .string ⟨#[]⟩, .int .i64 0, .string ⟨#[]⟩]) (places := [(0, 1), (1, 2), (3, 1), (4, 3), (7, 3)]) rfl (by kernel_rfl) rfl rfl rfl rfl rfl) ?_
   refine AL_p (x_store (n := 10) rfl rfl rfl rfl (by kernel_rfl) rfl rfl rfl) ?_
   refine AL_nil ?_
   refine AW_ret ?_
   exact ⟨rn [(9, 100), (0, 101)], ⟨⟨⟨_, rfl, VLe.rf⟩, trivial⟩, ⟨⟨_, rfl, by first | exact BLe.rf | exact ble_eq (by rw [hno]; first | done | rfl)⟩, ⟨_, rfl, by first | exact BLe.rf | exact ble_eq (by rw [hno]; first | done | rfl)⟩, ⟨_, rfl, by first | exact BLe.rf | (refine BLe.arr ?_; rw [hno]; first | done | rfl)⟩, trivial⟩, ⟨⟨rfl, .inl nofun, fun _ _ => ⟨_, rfl⟩⟩, trivial⟩, rfl⟩⟩
 try simp only [tdy] at h47
 have hnt : notT (hereT tk e st) = false := by rw [hh]; simp [notT, notS, h33, h47]
 refine AW_condF rfl ?_
 refine AW_skip ?_
 refine AW_seq ?_
 refine AW_seq ?_
 refine AW_draw rfl ?_
 refine AL_p (x_move rfl rfl) ?_
 refine AL_p (x_nilc rfl rfl rfl) ?_
 refine AL_p (x_field (off := 3) (o' := 3) rfl rfl rfl (by kernel_rfl) rfl) ?_
 refine AL_p (x_load1 rfl rfl rfl (by kernel_rfl) rfl) ?_
 refine AL_b (x_eql rfl rfl rfl) (fun b63 h63 => ?_)
 refine AL_p (x_move rfl rfl) ?_
 cases b63
 · exfalso; (try simp only [tdy] at h63); omega
 try simp only [tdy] at h63
 refine AL_g rfl rfl (x_move rfl rfl) ?_
 refine AL_g rfl rfl (x_nilc rfl rfl rfl) ?_
 refine AL_g rfl rfl (x_field (off := 1) (o' := 1) rfl rfl rfl (by kernel_rfl) rfl) ?_
 refine AL_g rfl rfl (x_load1 rfl rfl rfl (by kernel_rfl) rfl) ?_
 refine AL_g rfl rfl (x_move rfl rfl) ?_
 refine AL_g rfl rfl (x_nilc rfl rfl rfl) ?_
 refine AL_g rfl rfl (x_field (off := 0) (o' := 0) rfl rfl rfl (by kernel_rfl) rfl) ?_
 refine AL_g rfl rfl (x_load1 rfl rfl rfl (by kernel_rfl) rfl) ?_
 refine AL_g rfl rfl (x_len (E := 83) (n := 4) rfl rfl (by kernel_rfl)) ?_
 refine AL_gb rfl rfl (x_lss rfl rfl rfl) (fun b74 h74 => ?_)
 refine AL_p (x_pickT rfl rfl rfl) ?_
 refine AL_p (x_move rfl rfl) ?_
 cases b74
 · exfalso; (try simp only [tdy] at h74); omega
 try simp only [tdy] at h74
 refine AL_g rfl rfl (x_move rfl rfl) ?_
 refine AL_g rfl rfl (x_nilc rfl rfl rfl) ?_
 refine AL_g rfl rfl (x_field (off := 0) (o' := 0) rfl rfl rfl (by kernel_rfl) rfl) ?_
 refine AL_g rfl rfl (x_load1 rfl rfl rfl (by kernel_rfl) rfl) ?_
 refine AL_g rfl rfl (x_move rfl rfl) ?_
 refine AL_g rfl rfl (x_nilc rfl rfl rfl) ?_
 refine AL_g rfl rfl (x_field (off := 1) (o' := 1) rfl rfl rfl (by kernel_rfl) rfl) ?_
 refine AL_g rfl rfl (x_load1 rfl rfl rfl (by kernel_rfl) rfl) ?_
 refine AL_g rfl rfl (x_index (E := 83) (n := 4) rfl rfl rfl (by kernel_rfl) rfl (k := st.i) (by omega) (by omega)) ?_
 refine AL_g rfl rfl (x_efield (off := 0) (o' := 0) rfl rfl (by kernel_rfl) rfl) ?_
 refine AL_g rfl rfl (x_eload1 rfl rfl (by kernel_rfl) rfl) ?_
 refine AL_gb rfl rfl (x_eql rfl rfl rfl) (fun b88 h88 => ?_)
 refine AL_p (x_pickT rfl rfl rfl) ?_
 refine AL_p (x_move rfl rfl) ?_
 cases b88
 · exfalso; (try simp only [tdy] at h88); omega
 try simp only [tdy] at h88
 refine AL_g rfl rfl (x_move rfl rfl) ?_
 refine AL_g rfl rfl (x_nilc rfl rfl rfl) ?_
 refine AL_g rfl rfl (x_field (off := 0) (o' := 0) rfl rfl rfl (by kernel_rfl) rfl) ?_
 refine AL_g rfl rfl (x_load1 rfl rfl rfl (by kernel_rfl) rfl) ?_
 refine AL_g rfl rfl (x_move rfl rfl) ?_
 refine AL_g rfl rfl (x_nilc rfl rfl rfl) ?_
 refine AL_g rfl rfl (x_field (off := 1) (o' := 1) rfl rfl rfl (by kernel_rfl) rfl) ?_
 refine AL_g rfl rfl (x_load1 rfl rfl rfl (by kernel_rfl) rfl) ?_
 refine AL_g rfl rfl (x_index (E := 83) (n := 4) rfl rfl rfl (by kernel_rfl) rfl (k := st.i) (by omega) (by omega)) ?_
 refine AL_g rfl rfl (x_efield (off := 2) (o' := 2) rfl rfl (by kernel_rfl) rfl) ?_
 refine AL_g rfl rfl (x_eload1 rfl rfl (by kernel_rfl) rfl) ?_
 refine AL_gb rfl rfl (x_call0 rfl rfl rfl (keptS_c _) rfl rfl) (fun b102 h102 => ?_)
 refine AL_g rfl rfl (x_not rfl rfl) ?_
 refine AL_p (x_pickT rfl rfl rfl) ?_
 refine AL_p (x_move rfl rfl) ?_
 cases b102
 rotate_left
 · try simp only [tdy] at h102
   have hop := open_no (tk := tk) (e := e) (st := st) (by rw [hh]; simp [nameT, h102])
   refine AL_o rfl rfl rfl rfl ?_
   refine AL_o rfl rfl rfl rfl ?_
   refine AL_o rfl rfl rfl rfl ?_
   refine AL_o rfl rfl rfl rfl ?_
   refine AL_o rfl rfl rfl rfl ?_
   refine AL_o rfl rfl rfl rfl ?_
   refine AL_o rfl rfl rfl rfl ?_
   refine AL_p (x_pickF rfl rfl rfl) ?_
   refine AL_nild (by kernel_rfl) ?_
   refine AW_condF rfl ?_
   refine AW_skip ?_
   refine AW_seq ?_
   refine AW_region ?_
   refine AL_p (x_build (zs := [.int .i64 0, .string ⟨#[]⟩, .slice none 0 0, .int .i64 0, .string ⟨#[]⟩, .int .i64 0, .string ⟨#[]⟩, .string ⟨#[]⟩, .int .i64 0, .string ⟨#[]⟩]) (places := [(0, 1), (1, 2), (3, 1), (4, 3), (7, 3)]) rfl (by kernel_rfl) rfl rfl rfl rfl rfl) ?_
   refine AL_p (x_alloc (z := .agg #[.int .i64 0, .string ⟨#[]⟩, .slice none 0 0, .int .i64 0, .string ⟨#[]⟩, .int .i64 0, .string ⟨#[]⟩, .string ⟨#[]⟩, .int .i64 0, .string ⟨#[]⟩]) 102 rfl (by kernel_rfl) rfl rfl rfl rfl) ?_
   refine AL_p (x_store (n := 10) rfl rfl rfl rfl (by kernel_rfl) rfl rfl rfl) ?_
   refine AL_nil ?_
   refine AW_seq ?_
   refine AW_region ?_
   refine AL_p (x_move rfl rfl) ?_
   refine AL_p (x_call (ks := []) (L := [(200, some _)]) (L' := [(200, some _)]) rfl rfl rfl (sTerm_c tk e st hm hi hok false) rfl AllV.rf (caught_of rfl) rfl rfl rfl ⟨rfl, trivial⟩ rfl) ?_
   refine AL_p (x_field (off := 4) (o' := 4) rfl rfl rfl (by kernel_rfl) rfl) ?_
   refine AL_p (x_store (n := 3) rfl rfl rfl rfl (by kernel_rfl) rfl rfl rfl) ?_
   refine AL_nil ?_
   refine AW_seq ?_
   refine AW_region ?_
   refine AL_p (x_move rfl rfl) ?_
   refine AL_p (x_call (ks := []) (L := [(200, some _)]) (L' := [(200, some _)]) rfl rfl rfl (sOp_c tk e (termP tk e false st).2 hm (term_le hi)) rfl AllV.rf (caught_of rfl) rfl rfl rfl ⟨rfl, trivial⟩ rfl) ?_
   refine AL_p (x_field (off := 3) (o' := 3) rfl rfl rfl (by kernel_rfl) rfl) ?_
   refine AL_p (x_store (n := 1) rfl rfl rfl rfl (by kernel_rfl) rfl rfl rfl) ?_
   refine AL_nil ?_
   refine AW_seq ?_
   refine AW_seq ?_
   refine AW_region ?_
   refine AL_p (x_field (off := 3) (o' := 3) rfl rfl rfl (by kernel_rfl) rfl) ?_
   refine AL_p (x_load1 rfl rfl rfl (by kernel_rfl) rfl) ?_
   refine AL_b (x_eql rfl rfl rfl) (fun b126 h126 => ?_)
   refine AL_nil ?_
   cases b126
   rotate_left
   · try simp only [tdy] at h126
     have hq := fault_le (e := e) (c := 6) (term_le (e := e) (b := false) hi)
     have hno := litS_cmp hnt hop (opP_no h126)
     refine AW_condT rfl ?_
     refine AW_region ?_
     refine AL_p (x_move rfl rfl) ?_
     refine AL_p (x_call (ks := []) (L := [(200, some _)]) (L' := [(200, some _)]) rfl rfl rfl (sFault_c tk e (termP tk e false st).2 hm (term_le hi) 6) rfl AllV.rf (caught_of rfl) rfl rfl rfl ⟨rfl, trivial⟩ rfl) ?_
     refine AL_nil ?_
     refine AW_seq ?_
     refine AW_region ?_
     refine AL_p (x_move rfl rfl) ?_
     refine AL_p (x_call (ks := []) (L := [(200, some _)]) (L' := [(200, some _)]) rfl rfl rfl (sTerm_c tk e _ hm hq hok false) rfl AllV.rf (caught_of rfl) rfl rfl rfl ⟨rfl, trivial⟩ rfl) ?_
     refine AL_p (x_field (off := 7) (o' := 7) rfl rfl rfl (by kernel_rfl) rfl) ?_
     refine AL_p (x_store (n := 3) rfl rfl rfl rfl (by kernel_rfl) rfl rfl rfl) ?_
     refine AL_nil ?_
     refine AW_seq ?_
     refine AW_region ?_
     refine AL_p (x_loadN (n := 10) rfl rfl rfl (by kernel_rfl) rfl rfl) ?_
     refine AL_p (x_store (n := 10) rfl rfl rfl rfl (by kernel_rfl) rfl rfl rfl) ?_
     refine AL_nil ?_
     refine AW_adopt (T := 70) (e := termE) 103 100 2 rfl rfl rfl rfl rfl ?_
     refine AW_ret ?_
     exact ⟨rn [(9, 100), (0, 103)], ⟨⟨⟨_, rfl, VLe.rf⟩, trivial⟩, ⟨⟨_, rfl, by first | exact BLe.rf | exact ble_eq (by rw [hno]; first | done | rfl)⟩, ⟨_, rfl, by first | exact BLe.rf | exact ble_eq (by rw [hno]; first | done | rfl)⟩, ⟨_, rfl, by first | exact BLe.rf | (refine BLe.arr ?_; rw [hno]; first | done | rfl)⟩, trivial⟩, ⟨⟨rfl, .inl nofun, fun _ _ => ⟨_, rfl⟩⟩, trivial⟩, rfl⟩⟩
   try simp only [tdy] at h126
   have hq := next_le (opP_ok (tk := tk) (e := e) (st := (termP tk e false st).2) h126).2
   have hlt2 : (termP tk e false st).2.i < tk.length := hq
   have hno := litS_cmp hnt hop (opP_ok h126).1
   refine AW_condF rfl ?_
   refine AW_region ?_
   refine AL_p (x_move rfl rfl) ?_
   refine AL_p (x_nilc rfl rfl rfl) ?_
   refine AL_p (x_field (off := 1) (o' := 1) rfl rfl rfl (by kernel_rfl) rfl) ?_
   refine AL_p (x_load1 rfl rfl rfl (by kernel_rfl) rfl) ?_
   refine AL_p (x_add rfl rfl rfl (IntWalk.i64_in _ (by omega))) ?_
   refine AL_p (x_nilc rfl rfl rfl) ?_
   refine AL_p (x_field (off := 1) (o' := 1) rfl rfl rfl (by kernel_rfl) rfl) ?_
   refine AL_p (x_store (n := 1) rfl rfl rfl rfl (by kernel_rfl) rfl rfl rfl) ?_
   refine AL_nil ?_
   refine AW_seq ?_
   refine AW_region ?_
   refine AL_p (x_move rfl rfl) ?_
   refine AL_p (x_call (ks := []) (L := [(200, some _)]) (L' := [(200, some _)]) rfl rfl rfl (sTerm_c tk e _ hm hq hok false) rfl AllV.rf (caught_of rfl) rfl rfl rfl ⟨rfl, trivial⟩ rfl) ?_
   refine AL_p (x_field (off := 7) (o' := 7) rfl rfl rfl (by kernel_rfl) rfl) ?_
   refine AL_p (x_store (n := 3) rfl rfl rfl rfl (by kernel_rfl) rfl rfl rfl) ?_
   refine AL_nil ?_
   refine AW_seq ?_
   refine AW_region ?_
   refine AL_p (x_loadN (n := 10) rfl rfl rfl (by kernel_rfl) rfl rfl) ?_
   refine AL_p (x_store (n := 10) rfl rfl rfl rfl (by kernel_rfl) rfl rfl rfl) ?_
   refine AL_nil ?_
   refine AW_adopt (T := 70) (e := termE) 103 100 2 rfl rfl rfl rfl rfl ?_
   refine AW_ret ?_
   exact ⟨rn [(9, 100), (0, 103)], ⟨⟨⟨_, rfl, VLe.rf⟩, trivial⟩, ⟨⟨_, rfl, by first | exact BLe.rf | exact ble_eq (by rw [hno]; first | done | rfl)⟩, ⟨_, rfl, by first | exact BLe.rf | exact ble_eq (by rw [hno]; first | done | rfl)⟩, ⟨_, rfl, by first | exact BLe.rf | (refine BLe.arr ?_; rw [hno]; first | done | rfl)⟩, trivial⟩, ⟨⟨rfl, .inl nofun, fun _ _ => ⟨_, rfl⟩⟩, trivial⟩, rfl⟩⟩
 try simp only [tdy] at h102
 have hnm : nameT (hereT tk e st) = true := by rw [hh]; simp [nameT, h33, h102]
 refine AL_g rfl rfl (x_move rfl rfl) ?_
 refine AL_g rfl rfl (x_move rfl rfl) ?_
 refine AL_g rfl rfl (x_nilc rfl rfl rfl) ?_
 refine AL_g rfl rfl (x_field (off := 1) (o' := 1) rfl rfl rfl (by kernel_rfl) rfl) ?_
 refine AL_g rfl rfl (x_load1 rfl rfl rfl (by kernel_rfl) rfl) ?_
 refine AL_g rfl rfl (x_add rfl rfl rfl (IntWalk.i64_in _ (by omega))) ?_
 refine AL_gbc rfl rfl (x_call (ks := []) (L := [(200, some _)]) (L' := [(200, some _)]) rfl rfl rfl (sIsN_c tk e st hm hi ⟨#[40]⟩) rfl AllV.rf (caught_of rfl) rfl rfl rfl ⟨rfl, trivial⟩ rfl) (fun b112 h112 => ?_)
 refine AL_p (x_pickT rfl rfl rfl) ?_
 refine AL_nild (by kernel_rfl) ?_
 cases b112
 rotate_left
 · try simp only [tdy] at h112
   have hop : openT tk e st = true := by simp [openT, hnm, h112]
   have hno := litS_is hnt hop
   refine AW_condT rfl ?_
   refine AW_seq ?_
   refine AW_region ?_
   refine AL_p (x_move rfl rfl) ?_
   refine AL_p (x_call (ks := []) (L := [(200, some _)]) (L' := [(200, some _), (104, some _)]) rfl rfl rfl (sAtom_c tk e st hm hi hok 104 rfl) rfl AllV.rf (caught_of rfl) rfl rfl rfl ⟨rfl, trivial⟩ rfl) ?_
   refine AL_p (x_build (zs := [.int .i64 0, .string ⟨#[]⟩, .slice none 0 0, .int .i64 0, .string ⟨#[]⟩, .int .i64 0, .string ⟨#[]⟩, .string ⟨#[]⟩, .int .i64 0, .string ⟨#[]⟩]) (places := [(0, 1), (1, 2), (3, 1), (4, 3), (7, 3)]) rfl (by kernel_rfl) rfl rfl rfl rfl rfl) ?_
   refine AL_p (x_store (n := 10) rfl rfl rfl rfl (by kernel_rfl) rfl rfl rfl) ?_
   refine AL_nil ?_
   refine AW_ret ?_
   exact ⟨rn [(9, 100), (0, 104)], ⟨⟨⟨_, rfl, VLe.rf⟩, trivial⟩, ⟨⟨_, rfl, by first | exact BLe.rf | exact ble_eq (by rw [hno]; first | done | rfl)⟩, ⟨_, rfl, by first | exact BLe.rf | exact ble_eq (by rw [hno]; first | done | rfl)⟩, ⟨_, rfl, by first | exact BLe.rf | (refine BLe.arr ?_; rw [hno]; first | done | rfl)⟩, trivial⟩, ⟨⟨rfl, .inl nofun, fun _ _ => ⟨_, rfl⟩⟩, trivial⟩, rfl⟩⟩
 try simp only [tdy] at h112
 have hop : openT tk e st = false := by simp [openT, hnm, h112]
 refine AW_condF rfl ?_
 refine AW_skip ?_
 refine AW_seq ?_
 refine AW_region ?_
 refine AL_p (x_build (zs := [.int .i64 0, .string ⟨#[]⟩, .slice none 0 0, .int .i64 0, .string ⟨#[]⟩, .int .i64 0, .string ⟨#[]⟩, .string ⟨#[]⟩, .int .i64 0, .string ⟨#[]⟩]) (places := [(0, 1), (1, 2), (3, 1), (4, 3), (7, 3)]) rfl (by kernel_rfl) rfl rfl rfl rfl rfl) ?_
 refine AL_p (x_alloc (z := .agg #[.int .i64 0, .string ⟨#[]⟩, .slice none 0 0, .int .i64 0, .string ⟨#[]⟩, .int .i64 0, .string ⟨#[]⟩, .string ⟨#[]⟩, .int .i64 0, .string ⟨#[]⟩]) 102 rfl (by kernel_rfl) rfl rfl rfl rfl) ?_
 refine AL_p (x_store (n := 10) rfl rfl rfl rfl (by kernel_rfl) rfl rfl rfl) ?_
 refine AL_nil ?_
 refine AW_seq ?_
 refine AW_region ?_
 refine AL_p (x_move rfl rfl) ?_
 refine AL_p (x_call (ks := []) (L := [(200, some _)]) (L' := [(200, some _)]) rfl rfl rfl (sTerm_c tk e st hm hi hok false) rfl AllV.rf (caught_of rfl) rfl rfl rfl ⟨rfl, trivial⟩ rfl) ?_
 refine AL_p (x_field (off := 4) (o' := 4) rfl rfl rfl (by kernel_rfl) rfl) ?_
 refine AL_p (x_store (n := 3) rfl rfl rfl rfl (by kernel_rfl) rfl rfl rfl) ?_
 refine AL_nil ?_
 refine AW_seq ?_
 refine AW_region ?_
 refine AL_p (x_move rfl rfl) ?_
 refine AL_p (x_call (ks := []) (L := [(200, some _)]) (L' := [(200, some _)]) rfl rfl rfl (sOp_c tk e (termP tk e false st).2 hm (term_le hi)) rfl AllV.rf (caught_of rfl) rfl rfl rfl ⟨rfl, trivial⟩ rfl) ?_
 refine AL_p (x_field (off := 3) (o' := 3) rfl rfl rfl (by kernel_rfl) rfl) ?_
 refine AL_p (x_store (n := 1) rfl rfl rfl rfl (by kernel_rfl) rfl rfl rfl) ?_
 refine AL_nil ?_
 refine AW_seq ?_
 refine AW_seq ?_
 refine AW_region ?_
 refine AL_p (x_field (off := 3) (o' := 3) rfl rfl rfl (by kernel_rfl) rfl) ?_
 refine AL_p (x_load1 rfl rfl rfl (by kernel_rfl) rfl) ?_
 refine AL_b (x_eql rfl rfl rfl) (fun b126 h126 => ?_)
 refine AL_nil ?_
 cases b126
 rotate_left
 · try simp only [tdy] at h126
   have hq := fault_le (e := e) (c := 6) (term_le (e := e) (b := false) hi)
   have hno := litS_cmp hnt hop (opP_no h126)
   refine AW_condT rfl ?_
   refine AW_region ?_
   refine AL_p (x_move rfl rfl) ?_
   refine AL_p (x_call (ks := []) (L := [(200, some _)]) (L' := [(200, some _)]) rfl rfl rfl (sFault_c tk e (termP tk e false st).2 hm (term_le hi) 6) rfl AllV.rf (caught_of rfl) rfl rfl rfl ⟨rfl, trivial⟩ rfl) ?_
   refine AL_nil ?_
   refine AW_seq ?_
   refine AW_region ?_
   refine AL_p (x_move rfl rfl) ?_
   refine AL_p (x_call (ks := []) (L := [(200, some _)]) (L' := [(200, some _)]) rfl rfl rfl (sTerm_c tk e _ hm hq hok false) rfl AllV.rf (caught_of rfl) rfl rfl rfl ⟨rfl, trivial⟩ rfl) ?_
   refine AL_p (x_field (off := 7) (o' := 7) rfl rfl rfl (by kernel_rfl) rfl) ?_
   refine AL_p (x_store (n := 3) rfl rfl rfl rfl (by kernel_rfl) rfl rfl rfl) ?_
   refine AL_nil ?_
   refine AW_seq ?_
   refine AW_region ?_
   refine AL_p (x_loadN (n := 10) rfl rfl rfl (by kernel_rfl) rfl rfl) ?_
   refine AL_p (x_store (n := 10) rfl rfl rfl rfl (by kernel_rfl) rfl rfl rfl) ?_
   refine AL_nil ?_
   refine AW_adopt (T := 70) (e := termE) 103 100 2 rfl rfl rfl rfl rfl ?_
   refine AW_ret ?_
   exact ⟨rn [(9, 100), (0, 103)], ⟨⟨⟨_, rfl, VLe.rf⟩, trivial⟩, ⟨⟨_, rfl, by first | exact BLe.rf | exact ble_eq (by rw [hno]; first | done | rfl)⟩, ⟨_, rfl, by first | exact BLe.rf | exact ble_eq (by rw [hno]; first | done | rfl)⟩, ⟨_, rfl, by first | exact BLe.rf | (refine BLe.arr ?_; rw [hno]; first | done | rfl)⟩, trivial⟩, ⟨⟨rfl, .inl nofun, fun _ _ => ⟨_, rfl⟩⟩, trivial⟩, rfl⟩⟩
 try simp only [tdy] at h126
 have hq := next_le (opP_ok (tk := tk) (e := e) (st := (termP tk e false st).2) h126).2
 have hlt2 : (termP tk e false st).2.i < tk.length := hq
 have hno := litS_cmp hnt hop (opP_ok h126).1
 refine AW_condF rfl ?_
 refine AW_region ?_
 refine AL_p (x_move rfl rfl) ?_
 refine AL_p (x_nilc rfl rfl rfl) ?_
 refine AL_p (x_field (off := 1) (o' := 1) rfl rfl rfl (by kernel_rfl) rfl) ?_
 refine AL_p (x_load1 rfl rfl rfl (by kernel_rfl) rfl) ?_
 refine AL_p (x_add rfl rfl rfl (IntWalk.i64_in _ (by omega))) ?_
 refine AL_p (x_nilc rfl rfl rfl) ?_
 refine AL_p (x_field (off := 1) (o' := 1) rfl rfl rfl (by kernel_rfl) rfl) ?_
 refine AL_p (x_store (n := 1) rfl rfl rfl rfl (by kernel_rfl) rfl rfl rfl) ?_
 refine AL_nil ?_
 refine AW_seq ?_
 refine AW_region ?_
 refine AL_p (x_move rfl rfl) ?_
 refine AL_p (x_call (ks := []) (L := [(200, some _)]) (L' := [(200, some _)]) rfl rfl rfl (sTerm_c tk e _ hm hq hok false) rfl AllV.rf (caught_of rfl) rfl rfl rfl ⟨rfl, trivial⟩ rfl) ?_
 refine AL_p (x_field (off := 7) (o' := 7) rfl rfl rfl (by kernel_rfl) rfl) ?_
 refine AL_p (x_store (n := 3) rfl rfl rfl rfl (by kernel_rfl) rfl rfl rfl) ?_
 refine AL_nil ?_
 refine AW_seq ?_
 refine AW_region ?_
 refine AL_p (x_loadN (n := 10) rfl rfl rfl (by kernel_rfl) rfl rfl) ?_
 refine AL_p (x_store (n := 10) rfl rfl rfl rfl (by kernel_rfl) rfl rfl rfl) ?_
 refine AL_nil ?_
 refine AW_adopt (T := 70) (e := termE) 103 100 2 rfl rfl rfl rfl rfl ?_
 refine AW_ret ?_
 exact ⟨rn [(9, 100), (0, 103)], ⟨⟨⟨_, rfl, VLe.rf⟩, trivial⟩, ⟨⟨_, rfl, by first | exact BLe.rf | exact ble_eq (by rw [hno]; first | done | rfl)⟩, ⟨_, rfl, by first | exact BLe.rf | exact ble_eq (by rw [hno]; first | done | rfl)⟩, ⟨_, rfl, by first | exact BLe.rf | (refine BLe.arr ?_; rw [hno]; first | done | rfl)⟩, trivial⟩, ⟨⟨rfl, .inl nofun, fun _ _ => ⟨_, rfl⟩⟩, trivial⟩, rfl⟩⟩

theorem sLit_c (tk : List Tokent) (e : Int) (st : PS) (hm : tk.length ≤ 1048576) (hi : st.i ≤ tk.length) (hok : ∀ t ∈ tk, tokOk t) (k : Nat) (hk : Nat.beq k 200 = false) : AC Try.prog 109 [.one (.ptr 200 0)] [(200, some (psB tk e st))] (.agg (litK (litS tk e st).1 k)) [(200, some (psB tk e (litS tk e st).2)), (k, some (.arr 70 termE (litS tk e st).1.atom.args true))] := AC.ps (sLit_c0 tk e st hm hi hok) k hk (fun r h => litK_ren h) (fun _ => rfl)

set_option maxHeartbeats 4000000 in
theorem sBegins_c (tk : List Tokent) (e : Int) (st : PS) (hm : tk.length ≤ 1048576) (hi : st.i ≤ tk.length) : AC Try.prog 108 [.one (.ptr 200 0)] [(200, some (psB tk e st))] (.one (.c (.bool (beginsT (hereT tk e st))))) [(200, some (psB tk e st))] := by
 refine AC_body1 Try.func108 rfl rfl Try.ntmps108 rfl Try.results108 ?_
 refine AW_seq ?_
 refine AW_region ?_
 refine AL_p (x_assign rfl rfl) ?_
 refine AL_nil ?_
 refine AW_seq ?_
 refine AW_seq ?_
 refine AW_draw rfl ?_
 refine AL_p (x_move rfl rfl) ?_
 refine AL_p (x_nilc rfl rfl rfl) ?_
 refine AL_p (x_field (off := 3) (o' := 3) rfl rfl rfl (by kernel_rfl) rfl) ?_
 refine AL_p (x_load1 rfl rfl rfl (by kernel_rfl) rfl) ?_
 refine AL_b (x_neq rfl rfl rfl) (fun b8 h8 => ?_)
 refine AL_p (x_move rfl rfl) ?_
 cases b8
 rotate_left
 · try simp only [tdy] at h8
   have h0k : (hereT tk e st).kind = 0 := here_kind (fun q => by omega)
   have hb := begins_zero h0k
   refine AL_o rfl rfl rfl rfl ?_
   refine AL_o rfl rfl rfl rfl ?_
   refine AL_o rfl rfl rfl rfl ?_
   refine AL_o rfl rfl rfl rfl ?_
   refine AL_o rfl rfl rfl rfl ?_
   refine AL_o rfl rfl rfl rfl ?_
   refine AL_o rfl rfl rfl rfl ?_
   refine AL_o rfl rfl rfl rfl ?_
   refine AL_o rfl rfl rfl rfl ?_
   refine AL_o rfl rfl rfl rfl ?_
   refine AL_p (x_pickT rfl rfl rfl) ?_
   refine AL_nild (by kernel_rfl) ?_
   refine AW_condT rfl ?_
   refine AW_seq ?_
   refine AW_region ?_
   refine AL_p (x_assign rfl rfl) ?_
   refine AL_nil ?_
   refine AW_ret ?_
   exact ⟨rn [], ⟨⟨⟨_, rfl, vle_bool (by first | exact hb.symm | (rw [hh]; simp [beginsT, termT, nameT, notT, notS, *]))⟩, trivial⟩, ⟨⟨_, rfl, by first | exact BLe.rf | exact ble_eq (by rw [hno]; first | done | rfl)⟩, trivial⟩, ⟨⟨rfl, .inl nofun, fun _ _ => ⟨_, rfl⟩⟩, trivial⟩, rfl⟩⟩
 try simp only [tdy] at h8
 refine AL_g rfl rfl (x_move rfl rfl) ?_
 refine AL_g rfl rfl (x_nilc rfl rfl rfl) ?_
 refine AL_g rfl rfl (x_field (off := 1) (o' := 1) rfl rfl rfl (by kernel_rfl) rfl) ?_
 refine AL_g rfl rfl (x_load1 rfl rfl rfl (by kernel_rfl) rfl) ?_
 refine AL_g rfl rfl (x_move rfl rfl) ?_
 refine AL_g rfl rfl (x_nilc rfl rfl rfl) ?_
 refine AL_g rfl rfl (x_field (off := 0) (o' := 0) rfl rfl rfl (by kernel_rfl) rfl) ?_
 refine AL_g rfl rfl (x_load1 rfl rfl rfl (by kernel_rfl) rfl) ?_
 refine AL_g rfl rfl (x_len (E := 83) (n := 4) rfl rfl (by kernel_rfl)) ?_
 refine AL_gb rfl rfl (x_geq rfl rfl rfl) (fun b19 h19 => ?_)
 refine AL_p (x_pickF rfl rfl rfl) ?_
 refine AL_nild (by kernel_rfl) ?_
 cases b19
 rotate_left
 · try simp only [tdy] at h19
   have h0k : (hereT tk e st).kind = 0 := here_kind (fun q => by omega)
   have hb := begins_zero h0k
   refine AW_condT rfl ?_
   refine AW_seq ?_
   refine AW_region ?_
   refine AL_p (x_assign rfl rfl) ?_
   refine AL_nil ?_
   refine AW_ret ?_
   exact ⟨rn [], ⟨⟨⟨_, rfl, vle_bool (by first | exact hb.symm | (rw [hh]; simp [beginsT, termT, nameT, notT, notS, *]))⟩, trivial⟩, ⟨⟨_, rfl, by first | exact BLe.rf | exact ble_eq (by rw [hno]; first | done | rfl)⟩, trivial⟩, ⟨⟨rfl, .inl nofun, fun _ _ => ⟨_, rfl⟩⟩, trivial⟩, rfl⟩⟩
 try simp only [tdy] at h19
 have hh : hereT tk e st = (tk[st.i]'(by omega)) := here_ok (by omega) (by omega)
 refine AW_condF rfl ?_
 refine AW_skip ?_
 refine AW_seq ?_
 refine AW_draw rfl ?_
 refine AL_p (x_move rfl rfl) ?_
 refine AL_p (x_nilc rfl rfl rfl) ?_
 refine AL_p (x_field (off := 0) (o' := 0) rfl rfl rfl (by kernel_rfl) rfl) ?_
 refine AL_p (x_load1 rfl rfl rfl (by kernel_rfl) rfl) ?_
 refine AL_p (x_move rfl rfl) ?_
 refine AL_p (x_nilc rfl rfl rfl) ?_
 refine AL_p (x_field (off := 1) (o' := 1) rfl rfl rfl (by kernel_rfl) rfl) ?_
 refine AL_p (x_load1 rfl rfl rfl (by kernel_rfl) rfl) ?_
 refine AL_p (x_index (E := 83) (n := 4) rfl rfl rfl (by kernel_rfl) rfl (k := st.i) (by omega) (by omega)) ?_
 refine AL_p (x_eloadW (n := 4) rfl rfl (by kernel_rfl) rfl) ?_
 refine AL_p (x_alloc (z := .agg #[.int .i64 0, .int .i64 0, .string ⟨#[]⟩, .int .i64 0]) 100 rfl (by kernel_rfl) rfl rfl rfl rfl) ?_
 refine AL_p (x_store (n := 4) rfl rfl rfl rfl (by kernel_rfl) rfl rfl rfl) ?_
 refine AL_nild (by kernel_rfl) ?_
 refine AW_seq ?_
 refine AW_region ?_
 refine AL_p (x_field (off := 0) (o' := 0) rfl rfl rfl (by kernel_rfl) rfl) ?_
 refine AL_p (x_load1 rfl rfl rfl (by kernel_rfl) rfl) ?_
 refine AL_b (x_eql rfl rfl rfl) (fun b33 h33 => ?_)
 refine AL_p (x_move rfl rfl) ?_
 cases b33
 rotate_left
 · try simp only [tdy] at h33
   refine AL_o rfl rfl rfl rfl ?_
   refine AL_o rfl rfl rfl rfl ?_
   refine AL_o rfl rfl rfl rfl ?_
   refine AL_p (x_pickT rfl rfl rfl) ?_
   refine AL_p (x_move rfl rfl) ?_
   refine AL_o rfl rfl rfl rfl ?_
   refine AL_o rfl rfl rfl rfl ?_
   refine AL_o rfl rfl rfl rfl ?_
   refine AL_o rfl rfl rfl rfl ?_
   refine AL_u rfl rfl rfl ?_
   refine AL_u rfl rfl rfl ?_
   refine AL_u rfl rfl rfl ?_
   refine AL_u rfl rfl rfl ?_
   refine AL_u rfl rfl rfl ?_
   refine AL_u rfl rfl rfl ?_
   refine AL_u rfl rfl rfl ?_
   refine AL_u rfl rfl rfl ?_
   refine AL_u rfl rfl rfl ?_
   refine AL_o rfl rfl rfl rfl ?_
   refine AL_p (x_pickT rfl rfl rfl) ?_
   refine AL_p (x_assign rfl rfl) ?_
   refine AL_nil ?_
   refine AW_ret ?_
   exact ⟨rn [], ⟨⟨⟨_, rfl, vle_bool (by first | exact hb.symm | (rw [hh]; simp [beginsT, termT, nameT, notT, notS, *]))⟩, trivial⟩, ⟨⟨_, rfl, by first | exact BLe.rf | exact ble_eq (by rw [hno]; first | done | rfl)⟩, trivial⟩, ⟨⟨rfl, .inl nofun, fun _ _ => ⟨_, rfl⟩⟩, trivial⟩, rfl⟩⟩
 try simp only [tdy] at h33
 refine AL_g rfl rfl (x_field (off := 0) (o' := 0) rfl rfl rfl (by kernel_rfl) rfl) ?_
 refine AL_g rfl rfl (x_load1 rfl rfl rfl (by kernel_rfl) rfl) ?_
 refine AL_gb rfl rfl (x_eql rfl rfl rfl) (fun b37 h37 => ?_)
 refine AL_p (x_pickF rfl rfl rfl) ?_
 refine AL_p (x_move rfl rfl) ?_
 cases b37
 rotate_left
 · try simp only [tdy] at h37
   refine AL_o rfl rfl rfl rfl ?_
   refine AL_o rfl rfl rfl rfl ?_
   refine AL_o rfl rfl rfl rfl ?_
   refine AL_o rfl rfl rfl rfl ?_
   refine AL_u rfl rfl rfl ?_
   refine AL_u rfl rfl rfl ?_
   refine AL_u rfl rfl rfl ?_
   refine AL_u rfl rfl rfl ?_
   refine AL_u rfl rfl rfl ?_
   refine AL_u rfl rfl rfl ?_
   refine AL_u rfl rfl rfl ?_
   refine AL_u rfl rfl rfl ?_
   refine AL_u rfl rfl rfl ?_
   refine AL_o rfl rfl rfl rfl ?_
   refine AL_p (x_pickT rfl rfl rfl) ?_
   refine AL_p (x_assign rfl rfl) ?_
   refine AL_nil ?_
   refine AW_ret ?_
   exact ⟨rn [], ⟨⟨⟨_, rfl, vle_bool (by first | exact hb.symm | (rw [hh]; simp [beginsT, termT, nameT, notT, notS, *]))⟩, trivial⟩, ⟨⟨_, rfl, by first | exact BLe.rf | exact ble_eq (by rw [hno]; first | done | rfl)⟩, trivial⟩, ⟨⟨rfl, .inl nofun, fun _ _ => ⟨_, rfl⟩⟩, trivial⟩, rfl⟩⟩
 try simp only [tdy] at h37
 refine AL_g rfl rfl (x_field (off := 0) (o' := 0) rfl rfl rfl (by kernel_rfl) rfl) ?_
 refine AL_g rfl rfl (x_load1 rfl rfl rfl (by kernel_rfl) rfl) ?_
 refine AL_gb rfl rfl (x_eql rfl rfl rfl) (fun b42 h42 => ?_)
 refine AL_g rfl rfl (x_move rfl rfl) ?_
 cases b42
 · try simp only [tdy] at h42
   refine AL_o rfl rfl rfl rfl ?_
   refine AL_o rfl rfl rfl rfl ?_
   refine AL_o rfl rfl rfl rfl ?_
   refine AL_o rfl rfl rfl rfl ?_
   refine AL_u rfl rfl rfl ?_
   refine AL_u rfl rfl rfl ?_
   refine AL_u rfl rfl rfl ?_
   refine AL_u rfl rfl rfl ?_
   refine AL_o rfl rfl rfl rfl ?_
   refine AL_g rfl rfl (x_pickF rfl rfl rfl) ?_
   refine AL_p (x_pickF rfl rfl rfl) ?_
   refine AL_p (x_assign rfl rfl) ?_
   refine AL_nil ?_
   refine AW_ret ?_
   exact ⟨rn [], ⟨⟨⟨_, rfl, vle_bool (by first | exact hb.symm | (rw [hh]; simp [beginsT, termT, nameT, notT, notS, *]))⟩, trivial⟩, ⟨⟨_, rfl, by first | exact BLe.rf | exact ble_eq (by rw [hno]; first | done | rfl)⟩, trivial⟩, ⟨⟨rfl, .inl nofun, fun _ _ => ⟨_, rfl⟩⟩, trivial⟩, rfl⟩⟩
 try simp only [tdy] at h42
 refine AL_g rfl rfl (x_field (off := 2) (o' := 2) rfl rfl rfl (by kernel_rfl) rfl) ?_
 refine AL_g rfl rfl (x_load1 rfl rfl rfl (by kernel_rfl) rfl) ?_
 refine AL_gb rfl rfl (x_seql rfl rfl rfl) (fun b46 h46 => ?_)
 refine AL_g rfl rfl (x_move rfl rfl) ?_
 cases b46
 rotate_left
 · try simp only [tdy] at h46
   refine AL_o rfl rfl rfl rfl ?_
   refine AL_o rfl rfl rfl rfl ?_
   refine AL_o rfl rfl rfl rfl ?_
   refine AL_o rfl rfl rfl rfl ?_
   refine AL_g rfl rfl (x_pickT rfl rfl rfl) ?_
   refine AL_g rfl rfl (x_pickT rfl rfl rfl) ?_
   refine AL_p (x_pickF rfl rfl rfl) ?_
   refine AL_p (x_assign rfl rfl) ?_
   refine AL_nil ?_
   refine AW_ret ?_
   exact ⟨rn [], ⟨⟨⟨_, rfl, vle_bool (by first | exact hb.symm | (rw [hh]; simp [beginsT, termT, nameT, notT, notS, *]))⟩, trivial⟩, ⟨⟨_, rfl, by first | exact BLe.rf | exact ble_eq (by rw [hno]; first | done | rfl)⟩, trivial⟩, ⟨⟨rfl, .inl nofun, fun _ _ => ⟨_, rfl⟩⟩, trivial⟩, rfl⟩⟩
 try simp only [tdy] at h46
 refine AL_g rfl rfl (x_field (off := 2) (o' := 2) rfl rfl rfl (by kernel_rfl) rfl) ?_
 refine AL_g rfl rfl (x_load1 rfl rfl rfl (by kernel_rfl) rfl) ?_
 refine AL_gb rfl rfl (x_call0 rfl rfl rfl (keptS_c _) rfl rfl) (fun b50 h50 => ?_)
 refine AL_g rfl rfl (x_not rfl rfl) ?_
 refine AL_g rfl rfl (x_pickF rfl rfl rfl) ?_
 refine AL_g rfl rfl (x_pickT rfl rfl rfl) ?_
 refine AL_p (x_pickF rfl rfl rfl) ?_
 refine AL_p (x_assign rfl rfl) ?_
 refine AL_nil ?_
 refine AW_ret ?_
 cases b50
 rotate_left
 · try simp only [tdy] at h50
   exact ⟨rn [], ⟨⟨⟨_, rfl, vle_bool (by first | exact hb.symm | (rw [hh]; simp [beginsT, termT, nameT, notT, notS, *]))⟩, trivial⟩, ⟨⟨_, rfl, by first | exact BLe.rf | exact ble_eq (by rw [hno]; first | done | rfl)⟩, trivial⟩, ⟨⟨rfl, .inl nofun, fun _ _ => ⟨_, rfl⟩⟩, trivial⟩, rfl⟩⟩
 try simp only [tdy] at h50
 exact ⟨rn [], ⟨⟨⟨_, rfl, vle_bool (by first | exact hb.symm | (rw [hh]; simp [beginsT, termT, nameT, notT, notS, *]))⟩, trivial⟩, ⟨⟨_, rfl, by first | exact BLe.rf | exact ble_eq (by rw [hno]; first | done | rfl)⟩, trivial⟩, ⟨⟨rfl, .inl nofun, fun _ _ => ⟨_, rfl⟩⟩, trivial⟩, rfl⟩⟩

set_option maxHeartbeats 4000000 in
theorem sRule_c0 (tk : List Tokent) (e : Int) (st : PS) (hm : tk.length ≤ 1048576) (hi : st.i ≤ tk.length) (hok : ∀ t ∈ tk, tokOk t) : AC Try.prog 59 [.one (.ptr 200 0)] [(200, some (psB tk e st))] (.agg (ruleO (ruleS tk e st).1)) [(200, some (psB tk e (ruleS tk e st).2)), (0, some (.arr 70 termE (ruleS tk e st).1.head.args true)), (1, some (.arr 72 litE (ruleS tk e st).1.body true))] := by
 refine AC_bodyC (n := 4) (k := 9) (T := [(2, .one (.ptr 9 0))]) (Lf := ((9, some (.box (ruleO (ruleS tk e st).1))) :: [(200, some (psB tk e (ruleS tk e st).2)), (0, some (.arr 70 termE (ruleS tk e st).1.head.args true)), (1, some (.arr 72 litE (ruleS tk e st).1.body true))])) Try.func59 rfl rfl Try.ntmps59 rfl Try.results59 rfl rfl (by kernel_rfl) rfl rfl ⟨trivial, (by repeat (first | exact trivial | refine ⟨⟨_, rfl, BLe.rf⟩, ?_⟩)), (by repeat (first | exact trivial | refine ⟨⟨rfl, by first | (left; intro h; cases h) | (right; rfl), by first | exact (fun _ h => ⟨_, h⟩) | exact (fun _ _ => ⟨_, rfl⟩) | (intro _ h; cases h)⟩, ?_⟩)), rfl⟩ ?_
 refine AW_seq ?_
 refine AW_region ?_
 refine AL_p (x_alloc (z := .agg #[.int .i64 0, .string ⟨#[]⟩, .slice none 0 0, .slice none 0 0]) 100 rfl (by kernel_rfl) rfl rfl rfl rfl) ?_
 refine AL_nil ?_
 refine AW_seq ?_
 refine AW_region ?_
 refine AL_p (x_build (zs := [.int .i64 0, .string ⟨#[]⟩, .slice none 0 0, .slice none 0 0]) (places := [(0, 1), (1, 2), (3, 1)]) rfl (by kernel_rfl) rfl rfl rfl rfl rfl) ?_
 refine AL_p (x_alloc (z := .agg #[.int .i64 0, .string ⟨#[]⟩, .slice none 0 0, .slice none 0 0]) 300 rfl (by kernel_rfl) rfl rfl rfl rfl) ?_
 refine AL_p (x_store (n := 4) rfl rfl rfl rfl (by kernel_rfl) rfl rfl rfl) ?_
 refine AL_nil ?_
 refine AW_mid (ι := {q : PS × Int // plusP tk e st = ((q.2), (q.1)) ∧ (q.1).i ≤ tk.length}) (fun p => []) (fun p => [(200, some (psB tk e (p.1.1))), (300, some (.box [.c (.int .i64 (p.1.2)), .c (.string ⟨#[]⟩), .c (.slice none 0 0), .c (.slice none 0 0)]))]) [0, 2, 3] [100] ?_ ?_
 · refine AW_seq ?_
   refine AW_region ?_
   refine AL_p (x_move rfl rfl) ?_
   refine AL_p (x_move rfl rfl) ?_
   refine AL_p (x_nilc rfl rfl rfl) ?_
   refine AL_p (x_field (off := 1) (o' := 1) rfl rfl rfl (by kernel_rfl) rfl) ?_
   refine AL_p (x_load1 rfl rfl rfl (by kernel_rfl) rfl) ?_
   refine AL_bc (x_call (ks := []) (L := [(200, some _)]) (L' := [(200, some _)]) rfl rfl rfl (sIsH_c tk e st hm hi ⟨#[43]⟩) rfl AllV.rf (caught_of rfl) rfl rfl rfl ⟨rfl, trivial⟩ rfl) (fun b10 h10 => ?_)
   refine AL_nil ?_
   cases b10
   rotate_left
   · try simp only [tdy] at h10
     have hlt := sign_lt h10
     refine AW_condT rfl ?_
     refine AW_seq ?_
     refine AW_region ?_
     refine AL_p (x_field (off := 0) (o' := 0) rfl rfl rfl (by kernel_rfl) rfl) ?_
     refine AL_p (x_store (n := 1) rfl rfl rfl rfl (by kernel_rfl) rfl rfl rfl) ?_
     refine AL_nil ?_
     refine AW_region ?_
     refine AL_p (x_move rfl rfl) ?_
     refine AL_p (x_nilc rfl rfl rfl) ?_
     refine AL_p (x_field (off := 1) (o' := 1) rfl rfl rfl (by kernel_rfl) rfl) ?_
     refine AL_p (x_load1 rfl rfl rfl (by kernel_rfl) rfl) ?_
     refine AL_p (x_add rfl rfl rfl (IntWalk.i64_in _ (by omega))) ?_
     refine AL_p (x_nilc rfl rfl rfl) ?_
     refine AL_p (x_field (off := 1) (o' := 1) rfl rfl rfl (by kernel_rfl) rfl) ?_
     refine AL_p (x_store (n := 1) rfl rfl rfl rfl (by kernel_rfl) rfl rfl rfl) ?_
     refine AL_nil ?_
     refine ⟨⟨⟨st.next, 2⟩, ⟨plus_plus h10, hlt⟩⟩, rn [], ?_⟩
     exact ⟨by (repeat refine ⟨⟨_, rfl, by first | exact VLe.rf | exact vle_int (by dsimp only; omega)⟩, ?_⟩); exact trivial, by (repeat refine ⟨⟨_, rfl, by first | exact BLe.rf | exact BLe.box AllC.rf | exact BLe.arr (by exact rfl)⟩, ?_⟩); exact trivial, by repeat (first | exact trivial | refine ⟨⟨rfl, by first | (left; intro h; cases h) | (right; rfl), by first | exact (fun _ h => ⟨_, h⟩) | exact (fun _ _ => ⟨_, rfl⟩) | (intro _ h; cases h)⟩, ?_⟩), rfl⟩
   try simp only [tdy] at h10
   refine AW_condF rfl ?_
   refine AW_seq ?_
   refine AW_region ?_
   refine AL_p (x_move rfl rfl) ?_
   refine AL_p (x_move rfl rfl) ?_
   refine AL_p (x_nilc rfl rfl rfl) ?_
   refine AL_p (x_field (off := 1) (o' := 1) rfl rfl rfl (by kernel_rfl) rfl) ?_
   refine AL_p (x_load1 rfl rfl rfl (by kernel_rfl) rfl) ?_
   refine AL_bc (x_call (ks := []) (L := [(200, some _)]) (L' := [(200, some _)]) rfl rfl rfl (sIsH_c tk e st hm hi ⟨#[45]⟩) rfl AllV.rf (caught_of rfl) rfl rfl rfl ⟨rfl, trivial⟩ rfl) (fun b24 h24 => ?_)
   refine AL_nil ?_
   cases b24
   · try simp only [tdy] at h24
     refine AW_condF rfl ?_
     refine AW_skip ?_
     refine ⟨⟨⟨st, 1⟩, ⟨plus_none h10 h24, hi⟩⟩, rn [], ?_⟩
     exact ⟨by (repeat refine ⟨⟨_, rfl, by first | exact VLe.rf | exact vle_int (by dsimp only; omega)⟩, ?_⟩); exact trivial, by (repeat refine ⟨⟨_, rfl, by first | exact BLe.rf | exact BLe.box AllC.rf | exact BLe.arr (by exact rfl)⟩, ?_⟩); exact trivial, by repeat (first | exact trivial | refine ⟨⟨rfl, by first | (left; intro h; cases h) | (right; rfl), by first | exact (fun _ h => ⟨_, h⟩) | exact (fun _ _ => ⟨_, rfl⟩) | (intro _ h; cases h)⟩, ?_⟩), rfl⟩
   try simp only [tdy] at h24
   have hlt := sign_lt h24
   refine AW_condT rfl ?_
   refine AW_seq ?_
   refine AW_region ?_
   refine AL_p (x_field (off := 0) (o' := 0) rfl rfl rfl (by kernel_rfl) rfl) ?_
   refine AL_p (x_store (n := 1) rfl rfl rfl rfl (by kernel_rfl) rfl rfl rfl) ?_
   refine AL_nil ?_
   refine AW_region ?_
   refine AL_p (x_move rfl rfl) ?_
   refine AL_p (x_nilc rfl rfl rfl) ?_
   refine AL_p (x_field (off := 1) (o' := 1) rfl rfl rfl (by kernel_rfl) rfl) ?_
   refine AL_p (x_load1 rfl rfl rfl (by kernel_rfl) rfl) ?_
   refine AL_p (x_add rfl rfl rfl (IntWalk.i64_in _ (by omega))) ?_
   refine AL_p (x_nilc rfl rfl rfl) ?_
   refine AL_p (x_field (off := 1) (o' := 1) rfl rfl rfl (by kernel_rfl) rfl) ?_
   refine AL_p (x_store (n := 1) rfl rfl rfl rfl (by kernel_rfl) rfl rfl rfl) ?_
   refine AL_nil ?_
   refine ⟨⟨⟨st.next, 3⟩, ⟨plus_minus h10 h24, hlt⟩⟩, rn [], ?_⟩
   exact ⟨by (repeat refine ⟨⟨_, rfl, by first | exact VLe.rf | exact vle_int (by dsimp only; omega)⟩, ?_⟩); exact trivial, by (repeat refine ⟨⟨_, rfl, by first | exact BLe.rf | exact BLe.box AllC.rf | exact BLe.arr (by exact rfl)⟩, ?_⟩); exact trivial, by repeat (first | exact trivial | refine ⟨⟨rfl, by first | (left; intro h; cases h) | (right; rfl), by first | exact (fun _ h => ⟨_, h⟩) | exact (fun _ _ => ⟨_, rfl⟩) | (intro _ h; cases h)⟩, ?_⟩), rfl⟩
 rintro ⟨⟨s0, k0⟩, hinv⟩
 dsimp only
 have hp := hinv.1
 have hs0 : s0.i ≤ tk.length := hinv.2
 refine AW_seq ?_
 refine AW_region ?_
 refine AL_p (x_move rfl rfl) ?_
 refine AL_p (x_call (ks := []) (L := [(200, some _)]) (L' := [(200, some _), (101, some _)]) rfl rfl rfl (sAtom_c tk e s0 hm hs0 hok 101 rfl) rfl AllV.rf (caught_of rfl) rfl rfl rfl ⟨rfl, trivial⟩ rfl) ?_
 refine AL_p (x_field (off := 1) (o' := 1) rfl rfl rfl (by kernel_rfl) rfl) ?_
 refine AL_p (x_store (n := 2) rfl rfl rfl rfl (by kernel_rfl) rfl rfl rfl) ?_
 refine AL_nil ?_
 refine AW_seq ?_
 refine AW_seq ?_
 refine AW_region ?_
 refine AL_p (x_move rfl rfl) ?_
 refine AL_p (x_move rfl rfl) ?_
 refine AL_p (x_nilc rfl rfl rfl) ?_
 refine AL_p (x_field (off := 1) (o' := 1) rfl rfl rfl (by kernel_rfl) rfl) ?_
 refine AL_p (x_load1 rfl rfl rfl (by kernel_rfl) rfl) ?_
 refine AL_bc (x_call (ks := []) (L := [(200, some _)]) (L' := [(200, some _)]) rfl rfl rfl (sIsH_c tk e (atomS tk e s0).2 hm (atomS_le hs0) ⟨#[58, 45]⟩) rfl AllV.rf (caught_of rfl) rfl rfl rfl ⟨rfl, trivial⟩ rfl) (fun b41 h41 => ?_)
 refine AL_nil ?_
 cases b41
 · try simp only [tdy] at h41
   have hno := ruleS_bare' hp h41
   have hi2 := atomS_le (e := e) hs0
   refine AW_condF rfl ?_
   refine AW_skip ?_
   refine AW_seq ?_
   refine AW_region ?_
   refine AL_p (x_move rfl rfl) ?_
   refine AL_p (x_call (ks := []) (L := [(200, some _)]) (L' := [(200, some _)]) rfl rfl rfl (sTake_c tk e _ hm hi2 ⟨#[46]⟩) rfl AllV.rf (caught_of rfl) rfl rfl rfl ⟨rfl, trivial⟩ rfl) ?_
   refine AL_nil ?_
   refine AW_seq ?_
   refine AW_region ?_
   refine AL_p (x_loadN (n := 4) rfl rfl rfl (by kernel_rfl) rfl rfl) ?_
   refine AL_p (x_store (n := 4) rfl rfl rfl rfl (by kernel_rfl) rfl rfl rfl) ?_
   refine AL_nil ?_
   refine AW_adopt (T := 72) (e := litE) 106 100 3 rfl rfl rfl rfl rfl ?_
   refine AW_ret ?_
   exact ⟨rn [(9, 100), (0, 101), (1, 106)], ⟨⟨⟨_, rfl, VLe.rf⟩, trivial⟩, ⟨⟨_, rfl, by first | exact BLe.rf | exact ble_eq (by rw [hno]; first | done | rfl)⟩, ⟨_, rfl, by first | exact BLe.rf | exact ble_eq (by rw [hno]; first | done | rfl)⟩, ⟨_, rfl, by first | exact BLe.rf | (refine BLe.arr ?_; rw [hno]; first | done | rfl)⟩, ⟨_, rfl, by first | exact BLe.rf | (refine BLe.arr ?_; rw [hno]; first | done | rfl)⟩, trivial⟩, ⟨⟨rfl, .inl nofun, fun _ _ => ⟨_, rfl⟩⟩, trivial⟩, rfl⟩⟩
 try simp only [tdy] at h41
 have hb0 := next_le (sign_lt h41)
 have hlt := sign_lt h41
 refine AW_condT rfl ?_
 refine AW_seq ?_
 refine AW_region ?_
 refine AL_p (x_move rfl rfl) ?_
 refine AL_p (x_nilc rfl rfl rfl) ?_
 refine AL_p (x_field (off := 1) (o' := 1) rfl rfl rfl (by kernel_rfl) rfl) ?_
 refine AL_p (x_load1 rfl rfl rfl (by kernel_rfl) rfl) ?_
 refine AL_p (x_add rfl rfl rfl (IntWalk.i64_in _ (by omega))) ?_
 refine AL_p (x_nilc rfl rfl rfl) ?_
 refine AL_p (x_field (off := 1) (o' := 1) rfl rfl rfl (by kernel_rfl) rfl) ?_
 refine AL_p (x_store (n := 1) rfl rfl rfl rfl (by kernel_rfl) rfl rfl rfl) ?_
 refine AL_nil ?_
 refine AW_block ?_
 refine AW_adopt (T := 72) (e := litE) 102 300 3 rfl rfl rfl rfl rfl ?_
 refine AW_loop2 (ι := {q : PS × List Litt // ((q.1).i ≤ tk.length ∧ (q.2).length ≤ 8) ∧ bodyS tk e (10 - (q.2).length) (q.1) (q.2) = bodyS tk e 10 (atomS tk e s0).2.next []}) (fun p => []) (fun p => [(102, some (.arr 72 litE (p.1.2) true)), (200, some (psB tk e (p.1.1)))]) [0, 2, 3] [100, 101, 300] (fun p => 9 - (p.1.2).length) ⟨⟨(atomS tk e s0).2.next, []⟩, ⟨⟨hb0, by simp⟩, rfl⟩⟩ (rn []) ?_ ?_
 exact ⟨by (repeat refine ⟨⟨_, rfl, by first | exact VLe.rf | exact vle_int (by dsimp only; omega)⟩, ?_⟩); exact trivial, by (repeat refine ⟨⟨_, rfl, by first | exact BLe.rf | exact BLe.box AllC.rf | exact BLe.arr (by exact rfl)⟩, ?_⟩); exact trivial, by repeat (first | exact trivial | refine ⟨⟨rfl, by first | (left; intro h; cases h) | (right; rfl), by first | exact (fun _ h => ⟨_, h⟩) | exact (fun _ _ => ⟨_, rfl⟩) | (intro _ h; cases h)⟩, ?_⟩), rfl⟩
 rintro ⟨⟨st1, a⟩, hinv⟩
 dsimp only
 have hi1 : st1.i ≤ tk.length := hinv.1.1
 have hl : a.length ≤ 8 := hinv.1.2
 have hinv1 := hinv.2
 refine AW_seq ?_
 refine AW_seq ?_
 refine AW_region ?_
 refine AL_p (x_move rfl rfl) ?_
 refine AL_p (x_nilc rfl rfl rfl) ?_
 refine AL_p (x_field (off := 3) (o' := 3) rfl rfl rfl (by kernel_rfl) rfl) ?_
 refine AL_p (x_load1 rfl rfl rfl (by kernel_rfl) rfl) ?_
 refine AL_b (x_eql rfl rfl rfl) (fun b53 h53 => ?_)
 refine AL_nil ?_
 cases b53
 · try simp only [tdy] at h53
   have hno := ruleS_body' hp h41 (hinv1.symm.trans (bodyS_bad h53))
   have hi2 := hi1
   refine AW_condF rfl ?_
   refine AW_exit (BQ_hit ?_)
   refine AW_seq ?_
   refine AW_region ?_
   refine AL_p (x_move rfl rfl) ?_
   refine AL_p (x_call (ks := []) (L := [(200, some _)]) (L' := [(200, some _)]) rfl rfl rfl (sTake_c tk e _ hm hi2 ⟨#[46]⟩) rfl AllV.rf (caught_of rfl) rfl rfl rfl ⟨rfl, trivial⟩ rfl) ?_
   refine AL_nil ?_
   refine AW_seq ?_
   refine AW_region ?_
   refine AL_p (x_loadN (n := 4) rfl rfl rfl (by kernel_rfl) rfl rfl) ?_
   refine AL_p (x_store (n := 4) rfl rfl rfl rfl (by kernel_rfl) rfl rfl rfl) ?_
   refine AL_nil ?_
   refine AW_ret ?_
   exact ⟨rn [(9, 100), (0, 101), (1, 102)], ⟨⟨⟨_, rfl, VLe.rf⟩, trivial⟩, ⟨⟨_, rfl, by first | exact BLe.rf | exact ble_eq (by rw [hno]; first | done | rfl)⟩, ⟨_, rfl, by first | exact BLe.rf | exact ble_eq (by rw [hno]; first | done | rfl)⟩, ⟨_, rfl, by first | exact BLe.rf | (refine BLe.arr ?_; rw [hno]; first | done | rfl)⟩, ⟨_, rfl, by first | exact BLe.rf | (refine BLe.arr ?_; rw [hno]; first | done | rfl)⟩, trivial⟩, ⟨⟨rfl, .inl nofun, fun _ _ => ⟨_, rfl⟩⟩, trivial⟩, rfl⟩⟩
 try simp only [tdy] at h53
 refine AW_condT rfl ?_
 refine AW_skip ?_
 refine AW_block ?_
 refine AW_mid (ι := {q : PS // fullP tk e a st1 = q ∧ q.i ≤ tk.length}) (fun p => []) (fun p => [(200, some (psB tk e (p.1)))]) [0, 2, 3] [100, 101, 102, 300] ?_ ?_
 · refine AW_seq ?_
   refine AW_region ?_
   refine AL_p (x_field (off := 3) (o' := 3) rfl rfl rfl (by kernel_rfl) rfl) ?_
   refine AL_p (x_load1 rfl rfl rfl (by kernel_rfl) rfl) ?_
   refine AL_p (x_olen (E := 72) (n := 10) rfl rfl rfl (by kernel_rfl)) ?_
   refine AL_b (x_eql rfl rfl rfl) (fun b57 h57 => ?_)
   refine AL_p (x_move rfl rfl) ?_
   cases b57
   · try simp only [tdy] at h57
     refine AL_o rfl rfl rfl rfl ?_
     refine AL_o rfl rfl rfl rfl ?_
     refine AL_p (x_pickF rfl rfl rfl) ?_
     refine AL_nil ?_
     refine AW_condF rfl ?_
     refine AW_skip ?_
     refine ⟨⟨st1, ⟨full_off (fun q => h57 q.1), hi1⟩⟩, rn [], ?_⟩
     exact ⟨by (repeat refine ⟨⟨_, rfl, by first | exact VLe.rf | exact vle_int (by dsimp only; omega)⟩, ?_⟩); exact trivial, by (repeat refine ⟨⟨_, rfl, by first | exact BLe.rf | exact BLe.box AllC.rf | exact BLe.arr (by exact rfl)⟩, ?_⟩); exact trivial, by repeat (first | exact trivial | refine ⟨⟨rfl, by first | (left; intro h; cases h) | (right; rfl), by first | exact (fun _ h => ⟨_, h⟩) | exact (fun _ _ => ⟨_, rfl⟩) | (intro _ h; cases h)⟩, ?_⟩), rfl⟩
   try simp only [tdy] at h57
   refine AL_g rfl rfl (x_move rfl rfl) ?_
   refine AL_gbc rfl rfl (x_call (ks := []) (L := [(200, some _)]) (L' := [(200, some _)]) rfl rfl rfl (sBegins_c tk e st1 hm hi1) rfl AllV.rf (caught_of rfl) rfl rfl rfl ⟨rfl, trivial⟩ rfl) (fun b60 h60 => ?_)
   refine AL_p (x_pickT rfl rfl rfl) ?_
   refine AL_nil ?_
   cases b60
   · try simp only [tdy] at h60
     refine AW_condF rfl ?_
     refine AW_skip ?_
     refine ⟨⟨st1, ⟨full_off (fun q => absurd q.2 (by rw [h60]; decide)), hi1⟩⟩, rn [], ?_⟩
     exact ⟨by (repeat refine ⟨⟨_, rfl, by first | exact VLe.rf | exact vle_int (by dsimp only; omega)⟩, ?_⟩); exact trivial, by (repeat refine ⟨⟨_, rfl, by first | exact BLe.rf | exact BLe.box AllC.rf | exact BLe.arr (by exact rfl)⟩, ?_⟩); exact trivial, by repeat (first | exact trivial | refine ⟨⟨rfl, by first | (left; intro h; cases h) | (right; rfl), by first | exact (fun _ h => ⟨_, h⟩) | exact (fun _ _ => ⟨_, rfl⟩) | (intro _ h; cases h)⟩, ?_⟩), rfl⟩
   try simp only [tdy] at h60
   refine AW_condT rfl ?_
   refine AW_region ?_
   refine AL_p (x_move rfl rfl) ?_
   refine AL_p (x_call (ks := []) (L := [(200, some _)]) (L' := [(200, some _)]) rfl rfl rfl (sFault_c tk e st1 hm hi1 7) rfl AllV.rf (caught_of rfl) rfl rfl rfl ⟨rfl, trivial⟩ rfl) ?_
   refine AL_nil ?_
   refine ⟨⟨faultP tk e 7 st1, ⟨full_on h57 h60, fault_le hi1⟩⟩, rn [], ?_⟩
   exact ⟨by (repeat refine ⟨⟨_, rfl, by first | exact VLe.rf | exact vle_int (by dsimp only; omega)⟩, ?_⟩); exact trivial, by (repeat refine ⟨⟨_, rfl, by first | exact BLe.rf | exact BLe.box AllC.rf | exact BLe.arr (by exact rfl)⟩, ?_⟩); exact trivial, by repeat (first | exact trivial | refine ⟨⟨rfl, by first | (left; intro h; cases h) | (right; rfl), by first | exact (fun _ h => ⟨_, h⟩) | exact (fun _ _ => ⟨_, rfl⟩) | (intro _ h; cases h)⟩, ?_⟩), rfl⟩
 rintro ⟨s2, hinv⟩
 dsimp only
 have hf := hinv.1
 have hs2 : s2.i ≤ tk.length := hinv.2
 refine AW_seq ?_
 refine AW_draw rfl ?_
 refine AL_p (x_field (off := 3) (o' := 3) rfl rfl rfl (by kernel_rfl) rfl) ?_
 refine AL_p (x_load1 rfl rfl rfl (by kernel_rfl) rfl) ?_
 refine AL_p (x_move rfl rfl) ?_
 refine AL_p (x_call (ks := []) (L := [(200, some _)]) (L' := [(200, some _), (103, some _)]) rfl rfl rfl (sLit_c tk e s2 hm hs2 hok 103 rfl) rfl AllV.rf (caught_of rfl) rfl rfl rfl ⟨rfl, trivial⟩ rfl) ?_
 refine AL_p (y_bslice (E := 72) (e := litE) [.tmp 67] ([(litS tk e s2).1]) 104 rfl rfl rfl rfl rfl rfl rfl rfl FitL.rf rfl rfl rfl rfl rfl rfl (by kernel_rfl)) ?_
 refine AL_p (y_append 105 rfl rfl rfl rfl rfl rfl rfl rfl (by kernel_rfl) (by simp only [List.length_append, List.length_cons, List.length_nil]; omega)) ?_
 refine AL_p (x_field (off := 3) (o' := 3) rfl rfl rfl (by kernel_rfl) rfl) ?_
 refine AL_p (x_store (n := 1) rfl rfl rfl rfl (by kernel_rfl) rfl rfl rfl) ?_
 refine AL_nild (by kernel_rfl) ?_
 refine AW_seq ?_
 refine AW_seq ?_
 refine AW_region ?_
 refine AL_p (x_move rfl rfl) ?_
 refine AL_p (x_move rfl rfl) ?_
 refine AL_p (x_nilc rfl rfl rfl) ?_
 refine AL_p (x_field (off := 1) (o' := 1) rfl rfl rfl (by kernel_rfl) rfl) ?_
 refine AL_p (x_load1 rfl rfl rfl (by kernel_rfl) rfl) ?_
 refine AL_bc (x_call (ks := []) (L := [(200, some _)]) (L' := [(200, some _)]) rfl rfl rfl (sIsH_c tk e (litS tk e s2).2 hm (litS_le hs2) ⟨#[44]⟩) rfl AllV.rf (caught_of rfl) rfl rfl rfl ⟨rfl, trivial⟩ rfl) (fun b76 h76 => ?_)
 refine AL_p (x_not rfl rfl) ?_
 refine AL_nil ?_
 cases b76
 · try simp only [tdy] at h76
   have hno := ruleS_body' hp h41 (hinv1.symm.trans (bodyS_last h53 hf hl h76))
   have hi2 := litS_le (e := e) hs2
   refine AW_condT rfl ?_
   refine AW_exit (BQ_miss rfl (BQ_hit ?_))
   refine AW_seq ?_
   refine AW_region ?_
   refine AL_p (x_move rfl rfl) ?_
   refine AL_p (x_call (ks := []) (L := [(200, some _)]) (L' := [(200, some _)]) rfl rfl rfl (sTake_c tk e _ hm hi2 ⟨#[46]⟩) rfl AllV.rf (caught_of rfl) rfl rfl rfl ⟨rfl, trivial⟩ rfl) ?_
   refine AL_nil ?_
   refine AW_seq ?_
   refine AW_region ?_
   refine AL_p (x_loadN (n := 4) rfl rfl rfl (by kernel_rfl) rfl rfl) ?_
   refine AL_p (x_store (n := 4) rfl rfl rfl rfl (by kernel_rfl) rfl rfl rfl) ?_
   refine AL_nil ?_
   refine AW_ret ?_
   exact ⟨rn [(9, 100), (0, 101), (1, 105)], ⟨⟨⟨_, rfl, VLe.rf⟩, trivial⟩, ⟨⟨_, rfl, by first | exact BLe.rf | exact ble_eq (by rw [hno]; first | done | rfl)⟩, ⟨_, rfl, by first | exact BLe.rf | exact ble_eq (by rw [hno]; first | done | rfl)⟩, ⟨_, rfl, by first | exact BLe.rf | (refine BLe.arr ?_; rw [hno]; first | done | rfl)⟩, ⟨_, rfl, by first | exact BLe.rf | (refine BLe.arr ?_; rw [hno]; first | done | rfl)⟩, trivial⟩, ⟨⟨rfl, .inl nofun, fun _ _ => ⟨_, rfl⟩⟩, trivial⟩, rfl⟩⟩
 try simp only [tdy] at h76
 have hmo := bodyS_more h53 hf hl h76
 have hlt := hmo.2.1
 have hmo1 := hmo.1
 refine AW_condF rfl ?_
 refine AW_skip ?_
 refine AW_region ?_
 refine AL_p (x_move rfl rfl) ?_
 refine AL_p (x_nilc rfl rfl rfl) ?_
 refine AL_p (x_field (off := 1) (o' := 1) rfl rfl rfl (by kernel_rfl) rfl) ?_
 refine AL_p (x_load1 rfl rfl rfl (by kernel_rfl) rfl) ?_
 refine AL_p (x_add rfl rfl rfl (IntWalk.i64_in _ (by omega))) ?_
 refine AL_p (x_nilc rfl rfl rfl) ?_
 refine AL_p (x_field (off := 1) (o' := 1) rfl rfl rfl (by kernel_rfl) rfl) ?_
 refine AL_p (x_store (n := 1) rfl rfl rfl rfl (by kernel_rfl) rfl rfl rfl) ?_
 refine AL_nil ?_
 refine ⟨⟨⟨(litS tk e s2).2.next, a ++ [(litS tk e s2).1]⟩, ⟨⟨hlt, by simp only [List.length_append, List.length_cons, List.length_nil]; omega⟩, hmo.2.2.trans hinv1⟩⟩, rn [(102, 105)], ?_, by dsimp only; simp only [List.length_append, List.length_cons, List.length_nil]; omega⟩
 exact ⟨by (repeat refine ⟨⟨_, rfl, by first | exact VLe.rf | exact vle_int (by dsimp only; omega)⟩, ?_⟩); exact trivial, by (repeat refine ⟨⟨_, rfl, by first | exact BLe.rf | exact BLe.box AllC.rf | exact BLe.arr (by exact rfl)⟩, ?_⟩); exact trivial, by repeat (first | exact trivial | refine ⟨⟨rfl, by first | (left; intro h; cases h) | (right; rfl), by first | exact (fun _ h => ⟨_, h⟩) | exact (fun _ _ => ⟨_, rfl⟩) | (intro _ h; cases h)⟩, ?_⟩), rfl⟩

theorem sRule_c (tk : List Tokent) (e : Int) (st : PS) (hm : tk.length ≤ 1048576) (hi : st.i ≤ tk.length) (hok : ∀ t ∈ tk, tokOk t) (k j : Nat) (hk : Nat.beq k 200 = false) (hj : Nat.beq j 200 = false) (hkj : Nat.beq k j = false) (hjk : Nat.beq j k = false) : AC Try.prog 59 [.one (.ptr 200 0)] [(200, some (psB tk e st))] (.agg (ruleK (ruleS tk e st).1 k j)) [(200, some (psB tk e (ruleS tk e st).2)), (k, some (.arr 70 termE (ruleS tk e st).1.head.args true)), (j, some (.arr 72 litE (ruleS tk e st).1.body true))] := AC.ps2 (sRule_c0 tk e st hm hi hok) k j hk hj hkj hjk (fun r h h2 => ruleK_ren h h2) (fun _ => rfl) (fun _ => rfl)

set_option maxHeartbeats 4000000 in
theorem sDecl_c (tk : List Tokent) (e : Int) (st : PS) (hm : tk.length ≤ 1048576) (hi : st.i ≤ tk.length) (c : Int) : AC Try.prog 56 [.one (.ptr 200 0), .one (.c (.int .i64 (c)))] [(200, some (psB tk e st))] (.agg (declC (declS tk e c st).1)) [(200, some (psB tk e (declS tk e c st).2))] := by
 have h2 : (takeP tk e ⟨#[47]⟩ (wordP tk e st).2).i ≤ tk.length := slash_le (e := e) hi
 refine AC_bodyC (n := 3) (k := 9) (T := [(4, .one (.ptr 9 0))]) (Lf := ((9, some (.box (declC (declS tk e c st).1))) :: [(200, some (psB tk e (declS tk e c st).2))])) Try.func56 rfl rfl Try.ntmps56 rfl Try.results56 rfl rfl (by kernel_rfl) rfl rfl ⟨trivial, (by repeat (first | exact trivial | refine ⟨⟨_, rfl, BLe.rf⟩, ?_⟩)), (by repeat (first | exact trivial | refine ⟨⟨rfl, by first | (left; intro h; cases h) | (right; rfl), by first | exact (fun _ h => ⟨_, h⟩) | exact (fun _ _ => ⟨_, rfl⟩) | (intro _ h; cases h)⟩, ?_⟩)), rfl⟩ ?_
 refine AW_seq ?_
 refine AW_region ?_
 refine AL_p (x_alloc (z := .agg #[.int .i64 0, .string ⟨#[]⟩, .int .i64 0]) 100 rfl (by kernel_rfl) rfl rfl rfl rfl) ?_
 refine AL_nil ?_
 refine AW_seq ?_
 refine AW_region ?_
 refine AL_p (x_move rfl rfl) ?_
 refine AL_p (x_move rfl rfl) ?_
 refine AL_p (x_call (ks := []) (L := [(200, some _)]) (L' := [(200, some _)]) rfl rfl rfl (sWord_c tk e st hm hi) rfl AllV.rf (caught_of rfl) rfl rfl rfl ⟨rfl, trivial⟩ rfl) ?_
 refine AL_p (x_build (zs := [.int .i64 0, .string ⟨#[]⟩, .int .i64 0]) (places := [(0, 1), (1, 1), (2, 1)]) rfl (by kernel_rfl) rfl rfl rfl rfl rfl) ?_
 refine AL_p (x_alloc (z := .agg #[.int .i64 0, .string ⟨#[]⟩, .int .i64 0]) 101 rfl (by kernel_rfl) rfl rfl rfl rfl) ?_
 refine AL_p (x_store (n := 3) rfl rfl rfl rfl (by kernel_rfl) rfl rfl rfl) ?_
 refine AL_nil ?_
 refine AW_seq ?_
 refine AW_region ?_
 refine AL_p (x_move rfl rfl) ?_
 refine AL_p (x_call (ks := []) (L := [(200, some _)]) (L' := [(200, some _)]) rfl rfl rfl (sTake_c tk e (wordP tk e st).2 hm (word_le hi) ⟨#[47]⟩) rfl AllV.rf (caught_of rfl) rfl rfl rfl ⟨rfl, trivial⟩ rfl) ?_
 refine AL_nil ?_
 refine AW_seq ?_
 refine AW_seq ?_
 refine AW_draw rfl ?_
 refine AL_p (x_move rfl rfl) ?_
 refine AL_p (x_nilc rfl rfl rfl) ?_
 refine AL_p (x_field (off := 3) (o' := 3) rfl rfl rfl (by kernel_rfl) rfl) ?_
 refine AL_p (x_load1 rfl rfl rfl (by kernel_rfl) rfl) ?_
 refine AL_b (x_neq rfl rfl rfl) (fun b16 h16 => ?_)
 refine AL_p (x_move rfl rfl) ?_
 cases b16
 rotate_left
 · try simp only [tdy] at h16
   have h0k : (hereT tk e (takeP tk e ⟨#[47]⟩ (wordP tk e st).2)).kind = 0 := here_kind (fun q => by omega)
   have hno := declS_no (k := c) (tk := tk) (e := e) (st := st) (by show ¬ (hereT tk e (takeP tk e ⟨#[47]⟩ (wordP tk e st).2)).kind = 3; rw [h0k]; decide)
   refine AL_o rfl rfl rfl rfl ?_
   refine AL_o rfl rfl rfl rfl ?_
   refine AL_o rfl rfl rfl rfl ?_
   refine AL_o rfl rfl rfl rfl ?_
   refine AL_o rfl rfl rfl rfl ?_
   refine AL_o rfl rfl rfl rfl ?_
   refine AL_o rfl rfl rfl rfl ?_
   refine AL_o rfl rfl rfl rfl ?_
   refine AL_o rfl rfl rfl rfl ?_
   refine AL_o rfl rfl rfl rfl ?_
   refine AL_p (x_pickT rfl rfl rfl) ?_
   refine AL_p (x_move rfl rfl) ?_
   refine AL_o rfl rfl rfl rfl ?_
   refine AL_o rfl rfl rfl rfl ?_
   refine AL_o rfl rfl rfl rfl ?_
   refine AL_o rfl rfl rfl rfl ?_
   refine AL_o rfl rfl rfl rfl ?_
   refine AL_o rfl rfl rfl rfl ?_
   refine AL_o rfl rfl rfl rfl ?_
   refine AL_o rfl rfl rfl rfl ?_
   refine AL_o rfl rfl rfl rfl ?_
   refine AL_o rfl rfl rfl rfl ?_
   refine AL_o rfl rfl rfl rfl ?_
   refine AL_o rfl rfl rfl rfl ?_
   refine AL_p (x_pickT rfl rfl rfl) ?_
   refine AL_nild (by kernel_rfl) ?_
   refine AW_condT rfl ?_
   refine AW_seq ?_
   refine AW_region ?_
   refine AL_p (x_move rfl rfl) ?_
   refine AL_p (x_call (ks := []) (L := [(200, some _)]) (L' := [(200, some _)]) rfl rfl rfl (sFault_c tk e (takeP tk e ⟨#[47]⟩ (wordP tk e st).2) hm h2 6) rfl AllV.rf (caught_of rfl) rfl rfl rfl ⟨rfl, trivial⟩ rfl) ?_
   refine AL_nil ?_
   refine AW_seq ?_
   refine AW_region ?_
   refine AL_p (x_loadN (n := 3) rfl rfl rfl (by kernel_rfl) rfl rfl) ?_
   refine AL_p (x_store (n := 3) rfl rfl rfl rfl (by kernel_rfl) rfl rfl rfl) ?_
   refine AL_nil ?_
   refine AW_ret ?_
   exact ⟨rn [(9, 100)], ⟨⟨⟨_, rfl, VLe.rf⟩, trivial⟩, ⟨⟨_, rfl, by first | exact BLe.rf | exact ble_eq (by rw [hno]; first | done | rfl)⟩, ⟨_, rfl, by first | exact BLe.rf | exact ble_eq (by rw [hno]; first | done | rfl)⟩, trivial⟩, ⟨⟨rfl, .inl nofun, fun _ _ => ⟨_, rfl⟩⟩, trivial⟩, rfl⟩⟩
 try simp only [tdy] at h16
 refine AL_g rfl rfl (x_move rfl rfl) ?_
 refine AL_g rfl rfl (x_nilc rfl rfl rfl) ?_
 refine AL_g rfl rfl (x_field (off := 1) (o' := 1) rfl rfl rfl (by kernel_rfl) rfl) ?_
 refine AL_g rfl rfl (x_load1 rfl rfl rfl (by kernel_rfl) rfl) ?_
 refine AL_g rfl rfl (x_move rfl rfl) ?_
 refine AL_g rfl rfl (x_nilc rfl rfl rfl) ?_
 refine AL_g rfl rfl (x_field (off := 0) (o' := 0) rfl rfl rfl (by kernel_rfl) rfl) ?_
 refine AL_g rfl rfl (x_load1 rfl rfl rfl (by kernel_rfl) rfl) ?_
 refine AL_g rfl rfl (x_len (E := 83) (n := 4) rfl rfl (by kernel_rfl)) ?_
 refine AL_gb rfl rfl (x_geq rfl rfl rfl) (fun b27 h27 => ?_)
 refine AL_p (x_pickF rfl rfl rfl) ?_
 refine AL_p (x_move rfl rfl) ?_
 cases b27
 rotate_left
 · try simp only [tdy] at h27
   have h0k : (hereT tk e (takeP tk e ⟨#[47]⟩ (wordP tk e st).2)).kind = 0 := here_kind (fun q => by omega)
   have hno := declS_no (k := c) (tk := tk) (e := e) (st := st) (by show ¬ (hereT tk e (takeP tk e ⟨#[47]⟩ (wordP tk e st).2)).kind = 3; rw [h0k]; decide)
   refine AL_o rfl rfl rfl rfl ?_
   refine AL_o rfl rfl rfl rfl ?_
   refine AL_o rfl rfl rfl rfl ?_
   refine AL_o rfl rfl rfl rfl ?_
   refine AL_o rfl rfl rfl rfl ?_
   refine AL_o rfl rfl rfl rfl ?_
   refine AL_o rfl rfl rfl rfl ?_
   refine AL_o rfl rfl rfl rfl ?_
   refine AL_o rfl rfl rfl rfl ?_
   refine AL_o rfl rfl rfl rfl ?_
   refine AL_o rfl rfl rfl rfl ?_
   refine AL_o rfl rfl rfl rfl ?_
   refine AL_p (x_pickT rfl rfl rfl) ?_
   refine AL_nild (by kernel_rfl) ?_
   refine AW_condT rfl ?_
   refine AW_seq ?_
   refine AW_region ?_
   refine AL_p (x_move rfl rfl) ?_
   refine AL_p (x_call (ks := []) (L := [(200, some _)]) (L' := [(200, some _)]) rfl rfl rfl (sFault_c tk e (takeP tk e ⟨#[47]⟩ (wordP tk e st).2) hm h2 6) rfl AllV.rf (caught_of rfl) rfl rfl rfl ⟨rfl, trivial⟩ rfl) ?_
   refine AL_nil ?_
   refine AW_seq ?_
   refine AW_region ?_
   refine AL_p (x_loadN (n := 3) rfl rfl rfl (by kernel_rfl) rfl rfl) ?_
   refine AL_p (x_store (n := 3) rfl rfl rfl rfl (by kernel_rfl) rfl rfl rfl) ?_
   refine AL_nil ?_
   refine AW_ret ?_
   exact ⟨rn [(9, 100)], ⟨⟨⟨_, rfl, VLe.rf⟩, trivial⟩, ⟨⟨_, rfl, by first | exact BLe.rf | exact ble_eq (by rw [hno]; first | done | rfl)⟩, ⟨_, rfl, by first | exact BLe.rf | exact ble_eq (by rw [hno]; first | done | rfl)⟩, trivial⟩, ⟨⟨rfl, .inl nofun, fun _ _ => ⟨_, rfl⟩⟩, trivial⟩, rfl⟩⟩
 try simp only [tdy] at h27
 have hh : hereT tk e (takeP tk e ⟨#[47]⟩ (wordP tk e st).2) = (tk[(takeP tk e ⟨#[47]⟩ (wordP tk e st).2).i]'(by omega)) := here_ok (by omega) (by omega)
 refine AL_g rfl rfl (x_move rfl rfl) ?_
 refine AL_g rfl rfl (x_nilc rfl rfl rfl) ?_
 refine AL_g rfl rfl (x_field (off := 0) (o' := 0) rfl rfl rfl (by kernel_rfl) rfl) ?_
 refine AL_g rfl rfl (x_load1 rfl rfl rfl (by kernel_rfl) rfl) ?_
 refine AL_g rfl rfl (x_move rfl rfl) ?_
 refine AL_g rfl rfl (x_nilc rfl rfl rfl) ?_
 refine AL_g rfl rfl (x_field (off := 1) (o' := 1) rfl rfl rfl (by kernel_rfl) rfl) ?_
 refine AL_g rfl rfl (x_load1 rfl rfl rfl (by kernel_rfl) rfl) ?_
 refine AL_g rfl rfl (x_index (E := 83) (n := 4) rfl rfl rfl (by kernel_rfl) rfl (k := (takeP tk e ⟨#[47]⟩ (wordP tk e st).2).i) (by omega) (by omega)) ?_
 refine AL_g rfl rfl (x_efield (off := 0) (o' := 0) rfl rfl (by kernel_rfl) rfl) ?_
 refine AL_g rfl rfl (x_eload1 rfl rfl (by kernel_rfl) rfl) ?_
 refine AL_gb rfl rfl (x_neq rfl rfl rfl) (fun b41 h41 => ?_)
 refine AL_p (x_pickF rfl rfl rfl) ?_
 refine AL_nild (by kernel_rfl) ?_
 cases b41
 rotate_left
 · try simp only [tdy] at h41
   have hno := declS_no (k := c) (tk := tk) (e := e) (st := st) (by show ¬ (hereT tk e (takeP tk e ⟨#[47]⟩ (wordP tk e st).2)).kind = 3; rw [hh]; exact h41)
   refine AW_condT rfl ?_
   refine AW_seq ?_
   refine AW_region ?_
   refine AL_p (x_move rfl rfl) ?_
   refine AL_p (x_call (ks := []) (L := [(200, some _)]) (L' := [(200, some _)]) rfl rfl rfl (sFault_c tk e (takeP tk e ⟨#[47]⟩ (wordP tk e st).2) hm h2 6) rfl AllV.rf (caught_of rfl) rfl rfl rfl ⟨rfl, trivial⟩ rfl) ?_
   refine AL_nil ?_
   refine AW_seq ?_
   refine AW_region ?_
   refine AL_p (x_loadN (n := 3) rfl rfl rfl (by kernel_rfl) rfl rfl) ?_
   refine AL_p (x_store (n := 3) rfl rfl rfl rfl (by kernel_rfl) rfl rfl rfl) ?_
   refine AL_nil ?_
   refine AW_ret ?_
   exact ⟨rn [(9, 100)], ⟨⟨⟨_, rfl, VLe.rf⟩, trivial⟩, ⟨⟨_, rfl, by first | exact BLe.rf | exact ble_eq (by rw [hno]; first | done | rfl)⟩, ⟨_, rfl, by first | exact BLe.rf | exact ble_eq (by rw [hno]; first | done | rfl)⟩, trivial⟩, ⟨⟨rfl, .inl nofun, fun _ _ => ⟨_, rfl⟩⟩, trivial⟩, rfl⟩⟩
 try simp only [tdy] at h41
 have hk3 : (hereT tk e (takeP tk e ⟨#[47]⟩ (wordP tk e st).2)).kind = 3 := by rw [hh]; omega
 refine AW_condF rfl ?_
 refine AW_skip ?_
 refine AW_seq ?_
 refine AW_draw rfl ?_
 refine AL_p (x_move rfl rfl) ?_
 refine AL_p (x_nilc rfl rfl rfl) ?_
 refine AL_p (x_field (off := 0) (o' := 0) rfl rfl rfl (by kernel_rfl) rfl) ?_
 refine AL_p (x_load1 rfl rfl rfl (by kernel_rfl) rfl) ?_
 refine AL_p (x_move rfl rfl) ?_
 refine AL_p (x_nilc rfl rfl rfl) ?_
 refine AL_p (x_field (off := 1) (o' := 1) rfl rfl rfl (by kernel_rfl) rfl) ?_
 refine AL_p (x_load1 rfl rfl rfl (by kernel_rfl) rfl) ?_
 refine AL_p (x_index (E := 83) (n := 4) rfl rfl rfl (by kernel_rfl) rfl (k := (takeP tk e ⟨#[47]⟩ (wordP tk e st).2).i) (by omega) (by omega)) ?_
 refine AL_p (x_efield (off := 1) (o' := 1) rfl rfl (by kernel_rfl) rfl) ?_
 refine AL_p (x_eload1 rfl rfl (by kernel_rfl) rfl) ?_
 refine AL_p (x_field (off := 2) (o' := 2) rfl rfl rfl (by kernel_rfl) rfl) ?_
 refine AL_p (x_store (n := 1) rfl rfl rfl rfl (by kernel_rfl) rfl rfl rfl) ?_
 refine AL_nild (by kernel_rfl) ?_
 refine AW_seq ?_
 refine AW_seq ?_
 refine AW_region ?_
 refine AL_p (x_field (off := 2) (o' := 2) rfl rfl rfl (by kernel_rfl) rfl) ?_
 refine AL_p (x_load1 rfl rfl rfl (by kernel_rfl) rfl) ?_
 refine AL_b (x_gtr rfl rfl rfl) (fun b60 h60 => ?_)
 refine AL_nil ?_
 cases b60
 rotate_left
 · try simp only [tdy] at h60
   have hno := (declS_big (k := c) hk3 (by show 6 < (hereT tk e (takeP tk e ⟨#[47]⟩ (wordP tk e st).2)).n; rw [hh]; omega)).trans (congrArg (fun q => ((⟨c, (wordP tk e st).1, q⟩ : Declt), _)) (congrArg Tokent.n hh))
   refine AW_condT rfl ?_
   refine AW_seq ?_
   refine AW_region ?_
   refine AL_p (x_move rfl rfl) ?_
   refine AL_p (x_call (ks := []) (L := [(200, some _)]) (L' := [(200, some _)]) rfl rfl rfl (sFault_c tk e (takeP tk e ⟨#[47]⟩ (wordP tk e st).2) hm h2 7) rfl AllV.rf (caught_of rfl) rfl rfl rfl ⟨rfl, trivial⟩ rfl) ?_
   refine AL_nil ?_
   refine AW_seq ?_
   refine AW_region ?_
   refine AL_p (x_loadN (n := 3) rfl rfl rfl (by kernel_rfl) rfl rfl) ?_
   refine AL_p (x_store (n := 3) rfl rfl rfl rfl (by kernel_rfl) rfl rfl rfl) ?_
   refine AL_nil ?_
   refine AW_ret ?_
   exact ⟨rn [(9, 100)], ⟨⟨⟨_, rfl, VLe.rf⟩, trivial⟩, ⟨⟨_, rfl, by first | exact BLe.rf | exact ble_eq (by rw [hno]; first | done | rfl)⟩, ⟨_, rfl, by first | exact BLe.rf | exact ble_eq (by rw [hno]; first | done | rfl)⟩, trivial⟩, ⟨⟨rfl, .inl nofun, fun _ _ => ⟨_, rfl⟩⟩, trivial⟩, rfl⟩⟩
 try simp only [tdy] at h60
 have hlt := next_le (num_lt hk3)
 have hlt2 := num_lt hk3
 have hno := (declS_ok (k := c) hk3 (by show ¬ 6 < (hereT tk e (takeP tk e ⟨#[47]⟩ (wordP tk e st).2)).n; rw [hh]; omega)).trans (congrArg (fun q => ((⟨c, (wordP tk e st).1, q⟩ : Declt), _)) (congrArg Tokent.n hh))
 refine AW_condF rfl ?_
 refine AW_skip ?_
 refine AW_seq ?_
 refine AW_region ?_
 refine AL_p (x_move rfl rfl) ?_
 refine AL_p (x_nilc rfl rfl rfl) ?_
 refine AL_p (x_field (off := 1) (o' := 1) rfl rfl rfl (by kernel_rfl) rfl) ?_
 refine AL_p (x_load1 rfl rfl rfl (by kernel_rfl) rfl) ?_
 refine AL_p (x_add rfl rfl rfl (IntWalk.i64_in _ (by omega))) ?_
 refine AL_p (x_nilc rfl rfl rfl) ?_
 refine AL_p (x_field (off := 1) (o' := 1) rfl rfl rfl (by kernel_rfl) rfl) ?_
 refine AL_p (x_store (n := 1) rfl rfl rfl rfl (by kernel_rfl) rfl rfl rfl) ?_
 refine AL_nil ?_
 refine AW_seq ?_
 refine AW_region ?_
 refine AL_p (x_move rfl rfl) ?_
 refine AL_p (x_call (ks := []) (L := [(200, some _)]) (L' := [(200, some _)]) rfl rfl rfl (sTake_c tk e (takeP tk e ⟨#[47]⟩ (wordP tk e st).2).next hm hlt ⟨#[46]⟩) rfl AllV.rf (caught_of rfl) rfl rfl rfl ⟨rfl, trivial⟩ rfl) ?_
 refine AL_nil ?_
 refine AW_seq ?_
 refine AW_region ?_
 refine AL_p (x_loadN (n := 3) rfl rfl rfl (by kernel_rfl) rfl rfl) ?_
 refine AL_p (x_store (n := 3) rfl rfl rfl rfl (by kernel_rfl) rfl rfl rfl) ?_
 refine AL_nil ?_
 refine AW_ret ?_
 exact ⟨rn [(9, 100)], ⟨⟨⟨_, rfl, VLe.rf⟩, trivial⟩, ⟨⟨_, rfl, by first | exact BLe.rf | exact ble_eq (by rw [hno]; first | done | rfl)⟩, ⟨_, rfl, by first | exact BLe.rf | exact ble_eq (by rw [hno]; first | done | rfl)⟩, trivial⟩, ⟨⟨rfl, .inl nofun, fun _ _ => ⟨_, rfl⟩⟩, trivial⟩, rfl⟩⟩
end Go.Proofs.Ytkemjhlbokldhaa

/- A text is read by the reference (printed by walk.py) -/
namespace Go.Proofs.Ytkemjhlbokldhaa
open Go.RowKit
set_option linter.unusedVariables false
set_option linter.unusedSimpArgs false
set_option maxRecDepth 100000

set_option maxHeartbeats 4000000 in
theorem parseS_c (s : ByteArray) (hs0 : s.size ≤ 1048576) : AC Try.prog 21 [.one (.c (.string (s)))] [] (.tup [.agg [.sl declE (parseS s).1.decls, .sl ruleE (parseS s).1.rules], .one (.c (.int .i64 ((parseS s).2.1))), .one (.c (.int .i64 ((parseS s).2.2)))]) [] := by
 have hm : (lexAll s).1.length ≤ 1048576 := by have := lexAll_len' s; omega
 have hok := lexAll_ok s
 refine AC_bodyCTT (n := 2) (k := 9) (T := [(2, .one (.ptr 9 0)), (3, .one (.c (.int .i64 ((parseS s).2.1)))), (4, .one (.c (.int .i64 ((parseS s).2.2))))]) (Lf := ((9, some (.box [.sl declE (parseS s).1.decls, .sl ruleE (parseS s).1.rules])) :: [])) Try.func21 rfl rfl Try.ntmps21 rfl Try.results21 rfl rfl rfl rfl rfl rfl (by kernel_rfl) rfl rfl ⟨trivial, (by repeat (first | exact trivial | refine ⟨⟨_, rfl, BLe.rf⟩, ?_⟩)), (by repeat (first | exact trivial | refine ⟨⟨rfl, by first | (left; intro h; cases h) | (right; rfl), by first | exact (fun _ h => ⟨_, h⟩) | exact (fun _ _ => ⟨_, rfl⟩) | (intro _ h; cases h)⟩, ?_⟩)), rfl⟩ ?_
 refine AW_seq ?_
 refine AW_region ?_
 refine AL_p (x_alloc (z := .agg #[.slice none 0 0, .slice none 0 0]) 100 rfl (by kernel_rfl) rfl rfl rfl rfl) ?_
 refine AL_p (x_assign rfl rfl) ?_
 refine AL_p (x_assign rfl rfl) ?_
 refine AL_nil ?_
 refine AW_seq ?_
 refine AW_region ?_
 refine AL_p (x_move rfl rfl) ?_
 refine AL_p (x_call0 rfl rfl rfl (lexS_c s hs0) rfl rfl) ?_
 refine AL_p (x_move rfl rfl) ?_
 refine AL_p (x_extract rfl rfl rfl) ?_
 refine AL_p (x_extract rfl rfl rfl) ?_
 refine AL_p (x_extract rfl rfl rfl) ?_
 refine AL_p (x_assign rfl rfl) ?_
 refine AL_p (x_assign rfl rfl) ?_
 refine AL_p (x_assign rfl rfl) ?_
 refine AL_nil ?_
 refine AW_seq ?_
 refine AW_seq ?_
 refine AW_region ?_
 refine AL_p (x_move rfl rfl) ?_
 refine AL_b (x_neq rfl rfl rfl) (fun b20 h20 => ?_)
 refine AL_nil ?_
 cases b20
 rotate_left
 · try simp only [tdy] at h20
   have hno := parseS_lex h20
   refine AW_condT rfl ?_
   refine AW_seq ?_
   refine AW_region ?_
   refine AL_p (x_build (zs := [.slice none 0 0, .slice none 0 0]) (places := [(0, 1), (1, 1)]) rfl (by kernel_rfl) rfl rfl rfl rfl rfl) ?_
   refine AL_p (x_move rfl rfl) ?_
   refine AL_p (x_move rfl rfl) ?_
   refine AL_p (x_store (n := 2) rfl rfl rfl rfl (by kernel_rfl) rfl rfl rfl) ?_
   refine AL_p (x_assign rfl rfl) ?_
   refine AL_p (x_assign rfl rfl) ?_
   refine AL_nil ?_
   refine AW_adopt (T := 97) (e := declE) 101 100 0 rfl rfl rfl rfl rfl ?_
   refine AW_adopt (T := 36) (e := ruleE) 102 100 1 rfl rfl rfl rfl rfl ?_
   refine AW_shutB 101 100 0 rfl rfl rfl rfl ?_
   refine AW_shutB 102 100 1 rfl rfl rfl rfl ?_
   refine AW_ret ?_
   exact ⟨rn [(9, 100)], ⟨⟨⟨_, rfl, VLe.rf⟩, ⟨_, rfl, vle_int (by rw [hno])⟩, ⟨_, rfl, vle_int (by rw [hno])⟩, trivial⟩, ⟨⟨_, rfl, by first | exact BLe.rf | exact ble_eq (by rw [hno]; first | done | rfl)⟩, trivial⟩, trivial, rfl⟩⟩
 try simp only [tdy] at h20
 have hl0 : (lexAll s).2.1 = 0 := by omega
 refine AW_condF rfl ?_
 refine AW_skip ?_
 refine AW_seq ?_
 refine AW_region ?_
 refine AL_p (x_move rfl rfl) ?_
 refine AL_p (x_move rfl rfl) ?_
 refine AL_p (x_lens rfl rfl (by kernel_rfl)) ?_
 refine AL_p (x_build (zs := [.slice none 0 0, .int .i64 0, .int .i64 0, .int .i64 0, .int .i64 0]) (places := [(0, 1), (1, 1), (2, 1), (3, 1), (4, 1)]) rfl (by kernel_rfl) rfl rfl rfl rfl rfl) ?_
 refine AL_p (x_box 200 rfl rfl rfl rfl rfl rfl rfl) ?_
 refine AL_p (x_assign rfl rfl) ?_
 refine AL_nil ?_
 refine AW_seq ?_
 refine AW_region ?_
 refine AL_p (x_build (zs := [.slice none 0 0, .slice none 0 0]) (places := [(0, 1), (1, 1)]) rfl (by kernel_rfl) rfl rfl rfl rfl rfl) ?_
 refine AL_p (x_alloc (z := .agg #[.slice none 0 0, .slice none 0 0]) 103 rfl (by kernel_rfl) rfl rfl rfl rfl) ?_
 refine AL_p (x_store (n := 2) rfl rfl rfl rfl (by kernel_rfl) rfl rfl rfl) ?_
 refine AL_nil ?_
 refine AW_seq ?_
 refine AW_block ?_
 refine AW_adopt (T := 97) (e := declE) 104 103 0 rfl rfl rfl rfl rfl ?_
 refine AW_adopt (T := 36) (e := ruleE) 105 103 1 rfl rfl rfl rfl rfl ?_
 refine AW_loop2 (ι := {q : PS × List Declt × List Rulet // okU (tk := (lexAll s).1) (q.1) (q.2.1) (q.2.2) ∧ progU (lexAll s).1 (s.size : Int) (q.1) (q.2.1) (q.2.2) = progU (lexAll s).1 (s.size : Int) ⟨0, 0, 0⟩ [] []}) (fun p => []) (fun p => [(104, some (.arr 97 declE (p.1.2.1) true)), (105, some (.arr 36 ruleE (p.1.2.2) true)), (200, some (psB (lexAll s).1 (s.size : Int) (p.1.1)))]) [2, 5, 8, 9] [100, 103] (fun p => muP (p.1.1) (p.1.2.1) (p.1.2.2)) ⟨⟨(⟨0, 0, 0⟩ : PS), [], []⟩, ⟨okU_zero, rfl⟩⟩ (rn []) ?_ ?_
 exact ⟨by (repeat refine ⟨⟨_, rfl, by first | exact VLe.rf | exact vle_int (by dsimp only; omega)⟩, ?_⟩); exact trivial, by (repeat refine ⟨⟨_, rfl, by first | exact BLe.rf | exact BLe.box AllC.rf | exact BLe.arr (by exact rfl)⟩, ?_⟩); exact trivial, by repeat (first | exact trivial | refine ⟨⟨rfl, by first | (left; intro h; cases h) | (right; rfl), by first | exact (fun _ h => ⟨_, h⟩) | exact (fun _ _ => ⟨_, rfl⟩) | (intro _ h; cases h)⟩, ?_⟩), rfl⟩
 rintro ⟨⟨st1, ds, rs⟩, hinv⟩
 dsimp only
 have hinv2 : progU (lexAll s).1 (s.size : Int) st1 ds rs = progU (lexAll s).1 (s.size : Int) ⟨0, 0, 0⟩ [] [] := hinv.2
 have hokU : okU (tk := (lexAll s).1) st1 ds rs := hinv.1
 refine AW_seq ?_
 refine AW_seq ?_
 refine AW_region ?_
 refine AL_p (x_move rfl rfl) ?_
 refine AL_p (x_nilc rfl rfl rfl) ?_
 refine AL_p (x_field (off := 3) (o' := 3) rfl rfl rfl (by kernel_rfl) rfl) ?_
 refine AL_p (x_load1 rfl rfl rfl (by kernel_rfl) rfl) ?_
 refine AL_b (x_eql rfl rfl rfl) (fun b34 h34 => ?_)
 refine AL_p (x_move rfl rfl) ?_
 cases b34
 · try simp only [tdy] at h34
   have hx := hinv2.symm.trans (progU_end (fun q => by omega))
   refine AL_o rfl rfl rfl rfl ?_
   refine AL_o rfl rfl rfl rfl ?_
   refine AL_o rfl rfl rfl rfl ?_
   refine AL_o rfl rfl rfl rfl ?_
   refine AL_o rfl rfl rfl rfl ?_
   refine AL_o rfl rfl rfl rfl ?_
   refine AL_o rfl rfl rfl rfl ?_
   refine AL_p (x_pickF rfl rfl rfl) ?_
   refine AL_nil ?_
   refine AW_condF rfl ?_
   refine AW_exit (BQ_hit ?_)
   refine AW_seq ?_
   refine AW_seq ?_
   refine AW_region ?_
   refine AL_p (x_move rfl rfl) ?_
   refine AL_p (x_nilc rfl rfl rfl) ?_
   refine AL_p (x_field (off := 3) (o' := 3) rfl rfl rfl (by kernel_rfl) rfl) ?_
   refine AL_p (x_load1 rfl rfl rfl (by kernel_rfl) rfl) ?_
   refine AL_b (x_neq rfl rfl rfl) (fun b127 h127 => ?_)
   refine AL_nil ?_
   cases b127
   · try simp only [tdy] at h127
     have hno := (parseS_of hl0 hx).trans (endR_ok (by omega))
     refine AW_condF rfl ?_
     refine AW_skip ?_
     refine AW_seq ?_
     refine AW_region ?_
     refine AL_p (x_loadN (n := 2) rfl rfl rfl (by kernel_rfl) rfl rfl) ?_
     refine AL_p (x_store (n := 2) rfl rfl rfl rfl (by kernel_rfl) rfl rfl rfl) ?_
     refine AL_p (x_assign rfl rfl) ?_
     refine AL_p (x_assign rfl rfl) ?_
     refine AL_nil ?_
     refine AW_shutB 104 100 0 rfl rfl rfl rfl ?_
     refine AW_shutB 105 100 1 rfl rfl rfl rfl ?_
     refine AW_ret ?_
     exact ⟨rn [(9, 100)], ⟨⟨⟨_, rfl, VLe.rf⟩, ⟨_, rfl, vle_int (by rw [hno])⟩, ⟨_, rfl, vle_int (by rw [hno])⟩, trivial⟩, ⟨⟨_, rfl, by first | exact BLe.rf | exact ble_eq (by rw [hno]; first | done | rfl)⟩, trivial⟩, trivial, rfl⟩⟩
   try simp only [tdy] at h127
   have hno := (parseS_of hl0 hx).trans (endR_no (by omega))
   refine AW_condT rfl ?_
   refine AW_seq ?_
   refine AW_draw rfl ?_
   refine AL_p (x_build (zs := [.slice none 0 0, .slice none 0 0]) (places := [(0, 1), (1, 1)]) rfl (by kernel_rfl) rfl rfl rfl rfl rfl) ?_
   refine AL_p (x_move rfl rfl) ?_
   refine AL_p (x_nilc rfl rfl rfl) ?_
   refine AL_p (x_field (off := 3) (o' := 3) rfl rfl rfl (by kernel_rfl) rfl) ?_
   refine AL_p (x_load1 rfl rfl rfl (by kernel_rfl) rfl) ?_
   refine AL_p (x_move rfl rfl) ?_
   refine AL_p (x_nilc rfl rfl rfl) ?_
   refine AL_p (x_field (off := 4) (o' := 4) rfl rfl rfl (by kernel_rfl) rfl) ?_
   refine AL_p (x_load1 rfl rfl rfl (by kernel_rfl) rfl) ?_
   refine AL_p (x_store (n := 2) rfl rfl rfl rfl (by kernel_rfl) rfl rfl rfl) ?_
   refine AL_p (x_assign rfl rfl) ?_
   refine AL_p (x_assign rfl rfl) ?_
   refine AL_nild (by kernel_rfl) ?_
   refine AW_adopt (T := 97) (e := declE) 101 100 0 rfl rfl rfl rfl rfl ?_
   refine AW_adopt (T := 36) (e := ruleE) 102 100 1 rfl rfl rfl rfl rfl ?_
   refine AW_shutB 101 100 0 rfl rfl rfl rfl ?_
   refine AW_shutB 102 100 1 rfl rfl rfl rfl ?_
   refine AW_ret ?_
   exact ⟨rn [(9, 100)], ⟨⟨⟨_, rfl, VLe.rf⟩, ⟨_, rfl, vle_int (by rw [hno])⟩, ⟨_, rfl, vle_int (by rw [hno])⟩, trivial⟩, ⟨⟨_, rfl, by first | exact BLe.rf | exact ble_eq (by rw [hno]; first | done | rfl)⟩, trivial⟩, trivial, rfl⟩⟩
 try simp only [tdy] at h34
 have hq := hokU.2 h34
 have hi1 : st1.i ≤ (lexAll s).1.length := hq.1
 have hl : ds.length ≤ 16 ∧ rs.length ≤ 24 := hq.2
 have h43 : ds.length + rs.length < 43 := by omega
 refine AL_g rfl rfl (x_move rfl rfl) ?_
 refine AL_g rfl rfl (x_nilc rfl rfl rfl) ?_
 refine AL_g rfl rfl (x_field (off := 1) (o' := 1) rfl rfl rfl (by kernel_rfl) rfl) ?_
 refine AL_g rfl rfl (x_load1 rfl rfl rfl (by kernel_rfl) rfl) ?_
 refine AL_g rfl rfl (x_move rfl rfl) ?_
 refine AL_g rfl rfl (x_len (E := 83) (n := 4) rfl rfl (by kernel_rfl)) ?_
 refine AL_gb rfl rfl (x_lss rfl rfl rfl) (fun b42 h42 => ?_)
 refine AL_p (x_pickT rfl rfl rfl) ?_
 refine AL_nil ?_
 cases b42
 · try simp only [tdy] at h42
   have hx := hinv2.symm.trans (progU_end (fun q => by omega))
   refine AW_condF rfl ?_
   refine AW_exit (BQ_hit ?_)
   refine AW_seq ?_
   refine AW_seq ?_
   refine AW_region ?_
   refine AL_p (x_move rfl rfl) ?_
   refine AL_p (x_nilc rfl rfl rfl) ?_
   refine AL_p (x_field (off := 3) (o' := 3) rfl rfl rfl (by kernel_rfl) rfl) ?_
   refine AL_p (x_load1 rfl rfl rfl (by kernel_rfl) rfl) ?_
   refine AL_b (x_neq rfl rfl rfl) (fun b127 h127 => ?_)
   refine AL_nil ?_
   cases b127
   · try simp only [tdy] at h127
     have hno := (parseS_of hl0 hx).trans (endR_ok (by omega))
     refine AW_condF rfl ?_
     refine AW_skip ?_
     refine AW_seq ?_
     refine AW_region ?_
     refine AL_p (x_loadN (n := 2) rfl rfl rfl (by kernel_rfl) rfl rfl) ?_
     refine AL_p (x_store (n := 2) rfl rfl rfl rfl (by kernel_rfl) rfl rfl rfl) ?_
     refine AL_p (x_assign rfl rfl) ?_
     refine AL_p (x_assign rfl rfl) ?_
     refine AL_nil ?_
     refine AW_shutB 104 100 0 rfl rfl rfl rfl ?_
     refine AW_shutB 105 100 1 rfl rfl rfl rfl ?_
     refine AW_ret ?_
     exact ⟨rn [(9, 100)], ⟨⟨⟨_, rfl, VLe.rf⟩, ⟨_, rfl, vle_int (by rw [hno])⟩, ⟨_, rfl, vle_int (by rw [hno])⟩, trivial⟩, ⟨⟨_, rfl, by first | exact BLe.rf | exact ble_eq (by rw [hno]; first | done | rfl)⟩, trivial⟩, trivial, rfl⟩⟩
   try simp only [tdy] at h127
   have hno := (parseS_of hl0 hx).trans (endR_no (by omega))
   refine AW_condT rfl ?_
   refine AW_seq ?_
   refine AW_draw rfl ?_
   refine AL_p (x_build (zs := [.slice none 0 0, .slice none 0 0]) (places := [(0, 1), (1, 1)]) rfl (by kernel_rfl) rfl rfl rfl rfl rfl) ?_
   refine AL_p (x_move rfl rfl) ?_
   refine AL_p (x_nilc rfl rfl rfl) ?_
   refine AL_p (x_field (off := 3) (o' := 3) rfl rfl rfl (by kernel_rfl) rfl) ?_
   refine AL_p (x_load1 rfl rfl rfl (by kernel_rfl) rfl) ?_
   refine AL_p (x_move rfl rfl) ?_
   refine AL_p (x_nilc rfl rfl rfl) ?_
   refine AL_p (x_field (off := 4) (o' := 4) rfl rfl rfl (by kernel_rfl) rfl) ?_
   refine AL_p (x_load1 rfl rfl rfl (by kernel_rfl) rfl) ?_
   refine AL_p (x_store (n := 2) rfl rfl rfl rfl (by kernel_rfl) rfl rfl rfl) ?_
   refine AL_p (x_assign rfl rfl) ?_
   refine AL_p (x_assign rfl rfl) ?_
   refine AL_nild (by kernel_rfl) ?_
   refine AW_adopt (T := 97) (e := declE) 101 100 0 rfl rfl rfl rfl rfl ?_
   refine AW_adopt (T := 36) (e := ruleE) 102 100 1 rfl rfl rfl rfl rfl ?_
   refine AW_shutB 101 100 0 rfl rfl rfl rfl ?_
   refine AW_shutB 102 100 1 rfl rfl rfl rfl ?_
   refine AW_ret ?_
   exact ⟨rn [(9, 100)], ⟨⟨⟨_, rfl, VLe.rf⟩, ⟨_, rfl, vle_int (by rw [hno])⟩, ⟨_, rfl, vle_int (by rw [hno])⟩, trivial⟩, ⟨⟨_, rfl, by first | exact BLe.rf | exact ble_eq (by rw [hno]; first | done | rfl)⟩, trivial⟩, trivial, rfl⟩⟩
 try simp only [tdy] at h42
 have hlt : st1.i < (lexAll s).1.length := by omega
 have hh : (hereT (lexAll s).1 (s.size : Int) st1) = ((lexAll s).1[st1.i]'(by omega)) := here_ok h34 hlt
 refine AW_condT rfl ?_
 refine AW_skip ?_
 refine AW_block ?_
 refine AW_seq ?_
 refine AW_region ?_
 refine AL_p (x_move rfl rfl) ?_
 refine AL_p (x_move rfl rfl) ?_
 refine AL_p (x_nilc rfl rfl rfl) ?_
 refine AL_p (x_field (off := 1) (o' := 1) rfl rfl rfl (by kernel_rfl) rfl) ?_
 refine AL_p (x_load1 rfl rfl rfl (by kernel_rfl) rfl) ?_
 refine AL_p (x_index (E := 83) (n := 4) rfl rfl rfl (by kernel_rfl) rfl (k := st1.i) (by omega) (by omega)) ?_
 refine AL_p (x_eloadW (n := 4) rfl rfl (by kernel_rfl) rfl) ?_
 refine AL_p (x_call0 rfl rfl rfl (sKind_c _) rfl rfl) ?_
 refine AL_p (x_assign rfl rfl) ?_
 refine AL_nil ?_
 refine AW_seq ?_
 refine AW_seq ?_
 refine AW_region ?_
 refine AL_p (x_move rfl rfl) ?_
 refine AL_b (x_gtr rfl rfl rfl) (fun b53 h53 => ?_)
 refine AL_nil ?_
 cases b53
 rotate_left
 · try simp only [tdy] at h53
   have hk : 0 < (kindS (hereT (lexAll s).1 (s.size : Int) st1)) := by rw [hh]; omega
   refine AW_condT rfl ?_
   refine AW_mid (ι := {q : PS // fullD (lexAll s).1 (s.size : Int) ds st1 = q ∧ q.i < (lexAll s).1.length}) (fun p => []) (fun p => [(200, some (psB (lexAll s).1 (s.size : Int) (p.1)))]) [2, 5, 8, 9, 10] [100, 103, 104, 105] ?_ ?_
   · refine AW_seq ?_
     refine AW_region ?_
     refine AL_p (x_field (off := 0) (o' := 0) rfl rfl rfl (by kernel_rfl) rfl) ?_
     refine AL_p (x_load1 rfl rfl rfl (by kernel_rfl) rfl) ?_
     refine AL_p (x_olen (E := 97) (n := 3) rfl rfl rfl (by kernel_rfl)) ?_
     refine AL_b (x_eql rfl rfl rfl) (fun b57 h57 => ?_)
     refine AL_nil ?_
     cases b57
     · try simp only [tdy] at h57
       refine AW_condF rfl ?_
       refine AW_skip ?_
       refine ⟨⟨st1, ⟨fullD_off h57, hlt⟩⟩, rn [], ?_⟩
       exact ⟨by (repeat refine ⟨⟨_, rfl, by first | exact VLe.rf | exact vle_int (by dsimp only; omega)⟩, ?_⟩); exact trivial, by (repeat refine ⟨⟨_, rfl, by first | exact BLe.rf | exact BLe.box AllC.rf | exact BLe.arr (by exact rfl)⟩, ?_⟩); exact trivial, by repeat (first | exact trivial | refine ⟨⟨rfl, by first | (left; intro h; cases h) | (right; rfl), by first | exact (fun _ h => ⟨_, h⟩) | exact (fun _ _ => ⟨_, rfl⟩) | (intro _ h; cases h)⟩, ?_⟩), rfl⟩
     try simp only [tdy] at h57
     refine AW_condT rfl ?_
     refine AW_region ?_
     refine AL_p (x_move rfl rfl) ?_
     refine AL_p (x_call (ks := []) (L := [(200, some _)]) (L' := [(200, some _)]) rfl rfl rfl (sFault_c (lexAll s).1 (s.size : Int) st1 hm hi1 7) rfl AllV.rf (caught_of rfl) rfl rfl rfl ⟨rfl, trivial⟩ rfl) ?_
     refine AL_nil ?_
     refine ⟨⟨faultP (lexAll s).1 (s.size : Int) 7 st1, ⟨fullD_on h57, by rw [fault_i]; exact hlt⟩⟩, rn [], ?_⟩
     exact ⟨by (repeat refine ⟨⟨_, rfl, by first | exact VLe.rf | exact vle_int (by dsimp only; omega)⟩, ?_⟩); exact trivial, by (repeat refine ⟨⟨_, rfl, by first | exact BLe.rf | exact BLe.box AllC.rf | exact BLe.arr (by exact rfl)⟩, ?_⟩); exact trivial, by repeat (first | exact trivial | refine ⟨⟨rfl, by first | (left; intro h; cases h) | (right; rfl), by first | exact (fun _ h => ⟨_, h⟩) | exact (fun _ _ => ⟨_, rfl⟩) | (intro _ h; cases h)⟩, ?_⟩), rfl⟩
   rintro ⟨s2, hinv1⟩
   dsimp only
   have hf := hinv1.1
   have hs2 : s2.i < (lexAll s).1.length := hinv1.2
   have hd := progU_decl h34 hlt hl hk hf
   rw [hh] at hd
   refine AW_seq ?_
   refine AW_region ?_
   refine AL_p (x_move rfl rfl) ?_
   refine AL_p (x_nilc rfl rfl rfl) ?_
   refine AL_p (x_field (off := 1) (o' := 1) rfl rfl rfl (by kernel_rfl) rfl) ?_
   refine AL_p (x_load1 rfl rfl rfl (by kernel_rfl) rfl) ?_
   refine AL_p (x_add rfl rfl rfl (IntWalk.i64_in _ (by omega))) ?_
   refine AL_p (x_nilc rfl rfl rfl) ?_
   refine AL_p (x_field (off := 1) (o' := 1) rfl rfl rfl (by kernel_rfl) rfl) ?_
   refine AL_p (x_store (n := 1) rfl rfl rfl rfl (by kernel_rfl) rfl rfl rfl) ?_
   refine AL_nil ?_
   refine AW_seq ?_
   refine AW_draw rfl ?_
   refine AL_p (x_field (off := 0) (o' := 0) rfl rfl rfl (by kernel_rfl) rfl) ?_
   refine AL_p (x_load1 rfl rfl rfl (by kernel_rfl) rfl) ?_
   refine AL_p (x_move rfl rfl) ?_
   refine AL_p (x_move rfl rfl) ?_
   refine AL_p (x_call (ks := []) (L := [(200, some _)]) (L' := [(200, some _)]) rfl rfl rfl (sDecl_c (lexAll s).1 (s.size : Int) s2.next hm (next_le hs2) (kindS ((lexAll s).1[st1.i]'(by omega)))) rfl AllV.rf (caught_of rfl) rfl rfl rfl ⟨rfl, trivial⟩ rfl) ?_
   refine AL_p (y_bslice (E := 97) (e := declE) [.tmp 71] ([(declS (lexAll s).1 (s.size : Int) (kindS ((lexAll s).1[st1.i]'(by omega))) s2.next).1]) 106 rfl rfl rfl rfl rfl rfl rfl rfl FitL.rf rfl rfl rfl rfl rfl rfl (by kernel_rfl)) ?_
   refine AL_p (y_append 107 rfl rfl rfl rfl rfl rfl rfl rfl (by kernel_rfl) (by simp only [List.length_append, List.length_cons, List.length_nil]; omega)) ?_
   refine AL_p (x_field (off := 0) (o' := 0) rfl rfl rfl (by kernel_rfl) rfl) ?_
   refine AL_p (x_store (n := 1) rfl rfl rfl rfl (by kernel_rfl) rfl rfl rfl) ?_
   refine AL_nild (by kernel_rfl) ?_
   refine AW_exit (BQ_hit ?_)
   refine ⟨⟨⟨(declS (lexAll s).1 (s.size : Int) (kindS ((lexAll s).1[st1.i]'(by omega))) s2.next).2, ds ++ [(declS (lexAll s).1 (s.size : Int) (kindS ((lexAll s).1[st1.i]'(by omega))) s2.next).1], rs⟩, ⟨okU_decl hl hd.2, hd.1.trans hinv2⟩⟩, rn [(104, 107)], ?_, muP_decl h34 h43⟩
   exact ⟨by (repeat refine ⟨⟨_, rfl, by first | exact VLe.rf | exact vle_int (by dsimp only; omega)⟩, ?_⟩); exact trivial, by (repeat refine ⟨⟨_, rfl, by first | exact BLe.rf | exact BLe.box AllC.rf | exact BLe.arr (by exact rfl)⟩, ?_⟩); exact trivial, by repeat (first | exact trivial | refine ⟨⟨rfl, by first | (left; intro h; cases h) | (right; rfl), by first | exact (fun _ h => ⟨_, h⟩) | exact (fun _ _ => ⟨_, rfl⟩) | (intro _ h; cases h)⟩, ?_⟩), rfl⟩
 try simp only [tdy] at h53
 have hk : ¬ 0 < (kindS (hereT (lexAll s).1 (s.size : Int) st1)) := by rw [hh]; omega
 refine AW_condF rfl ?_
 refine AW_skip ?_
 refine AW_seq ?_
 refine AW_region ?_
 refine AL_p (x_move rfl rfl) ?_
 refine AL_p (x_move rfl rfl) ?_
 refine AL_p (x_nilc rfl rfl rfl) ?_
 refine AL_p (x_field (off := 1) (o' := 1) rfl rfl rfl (by kernel_rfl) rfl) ?_
 refine AL_p (x_load1 rfl rfl rfl (by kernel_rfl) rfl) ?_
 refine AL_p (x_index (E := 83) (n := 4) rfl rfl rfl (by kernel_rfl) rfl (k := st1.i) (by omega) (by omega)) ?_
 refine AL_p (x_eloadW (n := 4) rfl rfl (by kernel_rfl) rfl) ?_
 refine AL_p (x_alloc (z := .agg #[.int .i64 0, .int .i64 0, .string ⟨#[]⟩, .int .i64 0]) 108 rfl (by kernel_rfl) rfl rfl rfl rfl) ?_
 refine AL_p (x_store (n := 4) rfl rfl rfl rfl (by kernel_rfl) rfl rfl rfl) ?_
 refine AL_nil ?_
 refine AW_seq ?_
 refine AW_region ?_
 refine AL_p (x_field (off := 0) (o' := 0) rfl rfl rfl (by kernel_rfl) rfl) ?_
 refine AL_p (x_load1 rfl rfl rfl (by kernel_rfl) rfl) ?_
 refine AL_b (x_eql rfl rfl rfl) (fun b84 h84 => ?_)
 refine AL_p (x_move rfl rfl) ?_
 cases b84
 · try simp only [tdy] at h84
   have hnm : nameT (hereT (lexAll s).1 (s.size : Int) st1) = false := by rw [hh]; simp [nameT, h84]
   refine AL_o rfl rfl rfl rfl ?_
   refine AL_o rfl rfl rfl rfl ?_
   refine AL_o rfl rfl rfl rfl ?_
   refine AL_o rfl rfl rfl rfl ?_
   refine AL_p (x_pickF rfl rfl rfl) ?_
   refine AL_p (x_move rfl rfl) ?_
   refine AL_g rfl rfl (x_move rfl rfl) ?_
   refine AL_g rfl rfl (x_move rfl rfl) ?_
   refine AL_g rfl rfl (x_nilc rfl rfl rfl) ?_
   refine AL_g rfl rfl (x_field (off := 1) (o' := 1) rfl rfl rfl (by kernel_rfl) rfl) ?_
   refine AL_g rfl rfl (x_load1 rfl rfl rfl (by kernel_rfl) rfl) ?_
   refine AL_gbc rfl rfl (x_call (ks := []) (L := [(200, some _)]) (L' := [(200, some _)]) rfl rfl rfl (sIsH_c (lexAll s).1 (s.size : Int) st1 hm hi1 ⟨#[43]⟩) rfl AllV.rf (caught_of rfl) rfl rfl rfl ⟨rfl, trivial⟩ rfl) (fun b97 h97 => ?_)
   refine AL_p (x_pickF rfl rfl rfl) ?_
   refine AL_p (x_move rfl rfl) ?_
   cases b97
   rotate_left
   · try simp only [tdy] at h97
     have hst : startsT (hereT (lexAll s).1 (s.size : Int) st1) = true := by simp [startsT, h97]
     refine AL_o rfl rfl rfl rfl ?_
     refine AL_o rfl rfl rfl rfl ?_
     refine AL_o rfl rfl rfl rfl ?_
     refine AL_o rfl rfl rfl rfl ?_
     refine AL_o rfl rfl rfl rfl ?_
     refine AL_o rfl rfl rfl rfl ?_
     refine AL_p (x_pickT rfl rfl rfl) ?_
     refine AL_p (x_assign rfl rfl) ?_
     refine AL_nil ?_
     refine AW_mid (ι := {q : PS // fullR (lexAll s).1 (s.size : Int) rs st1 = q ∧ q.i ≤ (lexAll s).1.length}) (fun p => []) (fun p => [(200, some (psB (lexAll s).1 (s.size : Int) (p.1)))]) [2, 5, 8, 9] [100, 103, 104, 105, 108] ?_ ?_
     · refine AW_seq ?_
       refine AW_region ?_
       refine AL_p (x_move rfl rfl) ?_
       refine AL_p (x_move rfl rfl) ?_
       refine AL_g rfl rfl (x_field (off := 1) (o' := 1) rfl rfl rfl (by kernel_rfl) rfl) ?_
       refine AL_g rfl rfl (x_load1 rfl rfl rfl (by kernel_rfl) rfl) ?_
       refine AL_g rfl rfl (x_olen (E := 36) (n := 4) rfl rfl rfl (by kernel_rfl)) ?_
       refine AL_gb rfl rfl (x_eql rfl rfl rfl) (fun b112 h112 => ?_)
       refine AL_p (x_pickT rfl rfl rfl) ?_
       refine AL_nil ?_
       cases b112
       · try simp only [tdy] at h112
         refine AW_condF rfl ?_
         refine AW_skip ?_
         refine ⟨⟨st1, ⟨fullR_off (fun q => h112 q.2), hi1⟩⟩, rn [], ?_⟩
         exact ⟨by (repeat refine ⟨⟨_, rfl, by first | exact VLe.rf | exact vle_int (by dsimp only; omega)⟩, ?_⟩); exact trivial, by (repeat refine ⟨⟨_, rfl, by first | exact BLe.rf | exact BLe.box AllC.rf | exact BLe.arr (by exact rfl)⟩, ?_⟩); exact trivial, by repeat (first | exact trivial | refine ⟨⟨rfl, by first | (left; intro h; cases h) | (right; rfl), by first | exact (fun _ h => ⟨_, h⟩) | exact (fun _ _ => ⟨_, rfl⟩) | (intro _ h; cases h)⟩, ?_⟩), rfl⟩
       try simp only [tdy] at h112
       refine AW_condT rfl ?_
       refine AW_region ?_
       refine AL_p (x_move rfl rfl) ?_
       refine AL_p (x_call (ks := []) (L := [(200, some _)]) (L' := [(200, some _)]) rfl rfl rfl (sFault_c (lexAll s).1 (s.size : Int) st1 hm hi1 7) rfl AllV.rf (caught_of rfl) rfl rfl rfl ⟨rfl, trivial⟩ rfl) ?_
       refine AL_nil ?_
       refine ⟨⟨faultP (lexAll s).1 (s.size : Int) 7 st1, ⟨fullR_on hst h112, fault_le hi1⟩⟩, rn [], ?_⟩
       exact ⟨by (repeat refine ⟨⟨_, rfl, by first | exact VLe.rf | exact vle_int (by dsimp only; omega)⟩, ?_⟩); exact trivial, by (repeat refine ⟨⟨_, rfl, by first | exact BLe.rf | exact BLe.box AllC.rf | exact BLe.arr (by exact rfl)⟩, ?_⟩); exact trivial, by repeat (first | exact trivial | refine ⟨⟨rfl, by first | (left; intro h; cases h) | (right; rfl), by first | exact (fun _ h => ⟨_, h⟩) | exact (fun _ _ => ⟨_, rfl⟩) | (intro _ h; cases h)⟩, ?_⟩), rfl⟩
     rintro ⟨s2, hinv1⟩
     dsimp only
     have hf := hinv1.1
     have hs2 : s2.i ≤ (lexAll s).1.length := hinv1.2
     have hd := progU_rule h34 hlt hl hk hf
     refine AW_draw rfl ?_
     refine AL_p (x_field (off := 1) (o' := 1) rfl rfl rfl (by kernel_rfl) rfl) ?_
     refine AL_p (x_load1 rfl rfl rfl (by kernel_rfl) rfl) ?_
     refine AL_p (x_move rfl rfl) ?_
     refine AL_p (x_call (ks := []) (L := [(200, some _)]) (L' := [(200, some _), (109, some _), (110, some _)]) rfl rfl rfl (sRule_c (lexAll s).1 (s.size : Int) s2 hm hs2 hok 109 110 rfl rfl rfl rfl) rfl AllV.rf (caught_of rfl) rfl rfl rfl ⟨rfl, trivial⟩ rfl) ?_
     refine AL_p (y_bslice (E := 36) (e := ruleE) [.tmp 119] ([(ruleS (lexAll s).1 (s.size : Int) s2).1]) 111 rfl rfl rfl rfl rfl rfl rfl rfl FitL.rf rfl rfl rfl rfl rfl rfl (by kernel_rfl)) ?_
     refine AL_p (y_append 112 rfl rfl rfl rfl rfl rfl rfl rfl (by kernel_rfl) (by simp only [List.length_append, List.length_cons, List.length_nil]; omega)) ?_
     refine AL_p (x_field (off := 1) (o' := 1) rfl rfl rfl (by kernel_rfl) rfl) ?_
     refine AL_p (x_store (n := 1) rfl rfl rfl rfl (by kernel_rfl) rfl rfl rfl) ?_
     refine AL_nild (by kernel_rfl) ?_
     refine ⟨⟨⟨(ruleS (lexAll s).1 (s.size : Int) s2).2, ds, rs ++ [(ruleS (lexAll s).1 (s.size : Int) s2).1]⟩, ⟨okU_rule hl hd.2, hd.1.trans hinv2⟩⟩, rn [(105, 112)], ?_, muP_rule h34 h43⟩
     exact ⟨by (repeat refine ⟨⟨_, rfl, by first | exact VLe.rf | exact vle_int (by dsimp only; omega)⟩, ?_⟩); exact trivial, by (repeat refine ⟨⟨_, rfl, by first | exact BLe.rf | exact BLe.box AllC.rf | exact BLe.arr (by exact rfl)⟩, ?_⟩); exact trivial, by repeat (first | exact trivial | refine ⟨⟨rfl, by first | (left; intro h; cases h) | (right; rfl), by first | exact (fun _ h => ⟨_, h⟩) | exact (fun _ _ => ⟨_, rfl⟩) | (intro _ h; cases h)⟩, ?_⟩), rfl⟩
   try simp only [tdy] at h97
   refine AL_g rfl rfl (x_move rfl rfl) ?_
   refine AL_g rfl rfl (x_move rfl rfl) ?_
   refine AL_g rfl rfl (x_nilc rfl rfl rfl) ?_
   refine AL_g rfl rfl (x_field (off := 1) (o' := 1) rfl rfl rfl (by kernel_rfl) rfl) ?_
   refine AL_g rfl rfl (x_load1 rfl rfl rfl (by kernel_rfl) rfl) ?_
   refine AL_gbc rfl rfl (x_call (ks := []) (L := [(200, some _)]) (L' := [(200, some _)]) rfl rfl rfl (sIsH_c (lexAll s).1 (s.size : Int) st1 hm hi1 ⟨#[45]⟩) rfl AllV.rf (caught_of rfl) rfl rfl rfl ⟨rfl, trivial⟩ rfl) (fun b105 h105 => ?_)
   refine AL_p (x_pickF rfl rfl rfl) ?_
   refine AL_p (x_assign rfl rfl) ?_
   refine AL_nil ?_
   refine AW_mid (ι := {q : PS // fullR (lexAll s).1 (s.size : Int) rs st1 = q ∧ q.i ≤ (lexAll s).1.length}) (fun p => []) (fun p => [(200, some (psB (lexAll s).1 (s.size : Int) (p.1)))]) [2, 5, 8, 9] [100, 103, 104, 105, 108] ?_ ?_
   · refine AW_seq ?_
     refine AW_region ?_
     refine AL_p (x_move rfl rfl) ?_
     refine AL_p (x_move rfl rfl) ?_
     cases b105
     · try simp only [tdy] at h105
       have hst : startsT (hereT (lexAll s).1 (s.size : Int) st1) = false := by simp [startsT, hnm, h97, h105]
       refine AL_o rfl rfl rfl rfl ?_
       refine AL_o rfl rfl rfl rfl ?_
       refine AL_o rfl rfl rfl rfl ?_
       refine AL_o rfl rfl rfl rfl ?_
       refine AL_p (x_pickF rfl rfl rfl) ?_
       refine AL_nil ?_
       refine AW_condF rfl ?_
       refine AW_skip ?_
       refine ⟨⟨st1, ⟨fullR_off (fun q => absurd q.1 (by rw [hst]; decide)), hi1⟩⟩, rn [], ?_⟩
       exact ⟨by (repeat refine ⟨⟨_, rfl, by first | exact VLe.rf | exact vle_int (by dsimp only; omega)⟩, ?_⟩); exact trivial, by (repeat refine ⟨⟨_, rfl, by first | exact BLe.rf | exact BLe.box AllC.rf | exact BLe.arr (by exact rfl)⟩, ?_⟩); exact trivial, by repeat (first | exact trivial | refine ⟨⟨rfl, by first | (left; intro h; cases h) | (right; rfl), by first | exact (fun _ h => ⟨_, h⟩) | exact (fun _ _ => ⟨_, rfl⟩) | (intro _ h; cases h)⟩, ?_⟩), rfl⟩
     try simp only [tdy] at h105
     have hst : startsT (hereT (lexAll s).1 (s.size : Int) st1) = true := by simp [startsT, h105]
     refine AL_g rfl rfl (x_field (off := 1) (o' := 1) rfl rfl rfl (by kernel_rfl) rfl) ?_
     refine AL_g rfl rfl (x_load1 rfl rfl rfl (by kernel_rfl) rfl) ?_
     refine AL_g rfl rfl (x_olen (E := 36) (n := 4) rfl rfl rfl (by kernel_rfl)) ?_
     refine AL_gb rfl rfl (x_eql rfl rfl rfl) (fun b112 h112 => ?_)
     refine AL_p (x_pickT rfl rfl rfl) ?_
     refine AL_nil ?_
     cases b112
     · try simp only [tdy] at h112
       refine AW_condF rfl ?_
       refine AW_skip ?_
       refine ⟨⟨st1, ⟨fullR_off (fun q => h112 q.2), hi1⟩⟩, rn [], ?_⟩
       exact ⟨by (repeat refine ⟨⟨_, rfl, by first | exact VLe.rf | exact vle_int (by dsimp only; omega)⟩, ?_⟩); exact trivial, by (repeat refine ⟨⟨_, rfl, by first | exact BLe.rf | exact BLe.box AllC.rf | exact BLe.arr (by exact rfl)⟩, ?_⟩); exact trivial, by repeat (first | exact trivial | refine ⟨⟨rfl, by first | (left; intro h; cases h) | (right; rfl), by first | exact (fun _ h => ⟨_, h⟩) | exact (fun _ _ => ⟨_, rfl⟩) | (intro _ h; cases h)⟩, ?_⟩), rfl⟩
     try simp only [tdy] at h112
     refine AW_condT rfl ?_
     refine AW_region ?_
     refine AL_p (x_move rfl rfl) ?_
     refine AL_p (x_call (ks := []) (L := [(200, some _)]) (L' := [(200, some _)]) rfl rfl rfl (sFault_c (lexAll s).1 (s.size : Int) st1 hm hi1 7) rfl AllV.rf (caught_of rfl) rfl rfl rfl ⟨rfl, trivial⟩ rfl) ?_
     refine AL_nil ?_
     refine ⟨⟨faultP (lexAll s).1 (s.size : Int) 7 st1, ⟨fullR_on hst h112, fault_le hi1⟩⟩, rn [], ?_⟩
     exact ⟨by (repeat refine ⟨⟨_, rfl, by first | exact VLe.rf | exact vle_int (by dsimp only; omega)⟩, ?_⟩); exact trivial, by (repeat refine ⟨⟨_, rfl, by first | exact BLe.rf | exact BLe.box AllC.rf | exact BLe.arr (by exact rfl)⟩, ?_⟩); exact trivial, by repeat (first | exact trivial | refine ⟨⟨rfl, by first | (left; intro h; cases h) | (right; rfl), by first | exact (fun _ h => ⟨_, h⟩) | exact (fun _ _ => ⟨_, rfl⟩) | (intro _ h; cases h)⟩, ?_⟩), rfl⟩
   rintro ⟨s2, hinv1⟩
   dsimp only
   have hf := hinv1.1
   have hs2 : s2.i ≤ (lexAll s).1.length := hinv1.2
   have hd := progU_rule h34 hlt hl hk hf
   refine AW_draw rfl ?_
   refine AL_p (x_field (off := 1) (o' := 1) rfl rfl rfl (by kernel_rfl) rfl) ?_
   refine AL_p (x_load1 rfl rfl rfl (by kernel_rfl) rfl) ?_
   refine AL_p (x_move rfl rfl) ?_
   refine AL_p (x_call (ks := []) (L := [(200, some _)]) (L' := [(200, some _), (109, some _), (110, some _)]) rfl rfl rfl (sRule_c (lexAll s).1 (s.size : Int) s2 hm hs2 hok 109 110 rfl rfl rfl rfl) rfl AllV.rf (caught_of rfl) rfl rfl rfl ⟨rfl, trivial⟩ rfl) ?_
   refine AL_p (y_bslice (E := 36) (e := ruleE) [.tmp 119] ([(ruleS (lexAll s).1 (s.size : Int) s2).1]) 111 rfl rfl rfl rfl rfl rfl rfl rfl FitL.rf rfl rfl rfl rfl rfl rfl (by kernel_rfl)) ?_
   refine AL_p (y_append 112 rfl rfl rfl rfl rfl rfl rfl rfl (by kernel_rfl) (by simp only [List.length_append, List.length_cons, List.length_nil]; omega)) ?_
   refine AL_p (x_field (off := 1) (o' := 1) rfl rfl rfl (by kernel_rfl) rfl) ?_
   refine AL_p (x_store (n := 1) rfl rfl rfl rfl (by kernel_rfl) rfl rfl rfl) ?_
   refine AL_nild (by kernel_rfl) ?_
   refine ⟨⟨⟨(ruleS (lexAll s).1 (s.size : Int) s2).2, ds, rs ++ [(ruleS (lexAll s).1 (s.size : Int) s2).1]⟩, ⟨okU_rule hl hd.2, hd.1.trans hinv2⟩⟩, rn [(105, 112)], ?_, muP_rule h34 h43⟩
   exact ⟨by (repeat refine ⟨⟨_, rfl, by first | exact VLe.rf | exact vle_int (by dsimp only; omega)⟩, ?_⟩); exact trivial, by (repeat refine ⟨⟨_, rfl, by first | exact BLe.rf | exact BLe.box AllC.rf | exact BLe.arr (by exact rfl)⟩, ?_⟩); exact trivial, by repeat (first | exact trivial | refine ⟨⟨rfl, by first | (left; intro h; cases h) | (right; rfl), by first | exact (fun _ h => ⟨_, h⟩) | exact (fun _ _ => ⟨_, rfl⟩) | (intro _ h; cases h)⟩, ?_⟩), rfl⟩
 try simp only [tdy] at h84
 refine AL_g rfl rfl (x_field (off := 2) (o' := 2) rfl rfl rfl (by kernel_rfl) rfl) ?_
 refine AL_g rfl rfl (x_load1 rfl rfl rfl (by kernel_rfl) rfl) ?_
 refine AL_gb rfl rfl (x_call0 rfl rfl rfl (keptS_c _) rfl rfl) (fun b88 h88 => ?_)
 refine AL_g rfl rfl (x_not rfl rfl) ?_
 refine AL_p (x_pickT rfl rfl rfl) ?_
 refine AL_p (x_move rfl rfl) ?_
 cases b88
 · try simp only [tdy] at h88
   have hnm : nameT (hereT (lexAll s).1 (s.size : Int) st1) = true := by rw [hh]; simp [nameT, h84, h88]
   have hst : startsT (hereT (lexAll s).1 (s.size : Int) st1) = true := by simp [startsT, hnm]
   refine AL_o rfl rfl rfl rfl ?_
   refine AL_o rfl rfl rfl rfl ?_
   refine AL_o rfl rfl rfl rfl ?_
   refine AL_o rfl rfl rfl rfl ?_
   refine AL_o rfl rfl rfl rfl ?_
   refine AL_o rfl rfl rfl rfl ?_
   refine AL_p (x_pickT rfl rfl rfl) ?_
   refine AL_p (x_move rfl rfl) ?_
   refine AL_o rfl rfl rfl rfl ?_
   refine AL_o rfl rfl rfl rfl ?_
   refine AL_o rfl rfl rfl rfl ?_
   refine AL_o rfl rfl rfl rfl ?_
   refine AL_o rfl rfl rfl rfl ?_
   refine AL_o rfl rfl rfl rfl ?_
   refine AL_p (x_pickT rfl rfl rfl) ?_
   refine AL_p (x_assign rfl rfl) ?_
   refine AL_nil ?_
   refine AW_mid (ι := {q : PS // fullR (lexAll s).1 (s.size : Int) rs st1 = q ∧ q.i ≤ (lexAll s).1.length}) (fun p => []) (fun p => [(200, some (psB (lexAll s).1 (s.size : Int) (p.1)))]) [2, 5, 8, 9] [100, 103, 104, 105, 108] ?_ ?_
   · refine AW_seq ?_
     refine AW_region ?_
     refine AL_p (x_move rfl rfl) ?_
     refine AL_p (x_move rfl rfl) ?_
     refine AL_g rfl rfl (x_field (off := 1) (o' := 1) rfl rfl rfl (by kernel_rfl) rfl) ?_
     refine AL_g rfl rfl (x_load1 rfl rfl rfl (by kernel_rfl) rfl) ?_
     refine AL_g rfl rfl (x_olen (E := 36) (n := 4) rfl rfl rfl (by kernel_rfl)) ?_
     refine AL_gb rfl rfl (x_eql rfl rfl rfl) (fun b112 h112 => ?_)
     refine AL_p (x_pickT rfl rfl rfl) ?_
     refine AL_nil ?_
     cases b112
     · try simp only [tdy] at h112
       refine AW_condF rfl ?_
       refine AW_skip ?_
       refine ⟨⟨st1, ⟨fullR_off (fun q => h112 q.2), hi1⟩⟩, rn [], ?_⟩
       exact ⟨by (repeat refine ⟨⟨_, rfl, by first | exact VLe.rf | exact vle_int (by dsimp only; omega)⟩, ?_⟩); exact trivial, by (repeat refine ⟨⟨_, rfl, by first | exact BLe.rf | exact BLe.box AllC.rf | exact BLe.arr (by exact rfl)⟩, ?_⟩); exact trivial, by repeat (first | exact trivial | refine ⟨⟨rfl, by first | (left; intro h; cases h) | (right; rfl), by first | exact (fun _ h => ⟨_, h⟩) | exact (fun _ _ => ⟨_, rfl⟩) | (intro _ h; cases h)⟩, ?_⟩), rfl⟩
     try simp only [tdy] at h112
     refine AW_condT rfl ?_
     refine AW_region ?_
     refine AL_p (x_move rfl rfl) ?_
     refine AL_p (x_call (ks := []) (L := [(200, some _)]) (L' := [(200, some _)]) rfl rfl rfl (sFault_c (lexAll s).1 (s.size : Int) st1 hm hi1 7) rfl AllV.rf (caught_of rfl) rfl rfl rfl ⟨rfl, trivial⟩ rfl) ?_
     refine AL_nil ?_
     refine ⟨⟨faultP (lexAll s).1 (s.size : Int) 7 st1, ⟨fullR_on hst h112, fault_le hi1⟩⟩, rn [], ?_⟩
     exact ⟨by (repeat refine ⟨⟨_, rfl, by first | exact VLe.rf | exact vle_int (by dsimp only; omega)⟩, ?_⟩); exact trivial, by (repeat refine ⟨⟨_, rfl, by first | exact BLe.rf | exact BLe.box AllC.rf | exact BLe.arr (by exact rfl)⟩, ?_⟩); exact trivial, by repeat (first | exact trivial | refine ⟨⟨rfl, by first | (left; intro h; cases h) | (right; rfl), by first | exact (fun _ h => ⟨_, h⟩) | exact (fun _ _ => ⟨_, rfl⟩) | (intro _ h; cases h)⟩, ?_⟩), rfl⟩
   rintro ⟨s2, hinv1⟩
   dsimp only
   have hf := hinv1.1
   have hs2 : s2.i ≤ (lexAll s).1.length := hinv1.2
   have hd := progU_rule h34 hlt hl hk hf
   refine AW_draw rfl ?_
   refine AL_p (x_field (off := 1) (o' := 1) rfl rfl rfl (by kernel_rfl) rfl) ?_
   refine AL_p (x_load1 rfl rfl rfl (by kernel_rfl) rfl) ?_
   refine AL_p (x_move rfl rfl) ?_
   refine AL_p (x_call (ks := []) (L := [(200, some _)]) (L' := [(200, some _), (109, some _), (110, some _)]) rfl rfl rfl (sRule_c (lexAll s).1 (s.size : Int) s2 hm hs2 hok 109 110 rfl rfl rfl rfl) rfl AllV.rf (caught_of rfl) rfl rfl rfl ⟨rfl, trivial⟩ rfl) ?_
   refine AL_p (y_bslice (E := 36) (e := ruleE) [.tmp 119] ([(ruleS (lexAll s).1 (s.size : Int) s2).1]) 111 rfl rfl rfl rfl rfl rfl rfl rfl FitL.rf rfl rfl rfl rfl rfl rfl (by kernel_rfl)) ?_
   refine AL_p (y_append 112 rfl rfl rfl rfl rfl rfl rfl rfl (by kernel_rfl) (by simp only [List.length_append, List.length_cons, List.length_nil]; omega)) ?_
   refine AL_p (x_field (off := 1) (o' := 1) rfl rfl rfl (by kernel_rfl) rfl) ?_
   refine AL_p (x_store (n := 1) rfl rfl rfl rfl (by kernel_rfl) rfl rfl rfl) ?_
   refine AL_nild (by kernel_rfl) ?_
   refine ⟨⟨⟨(ruleS (lexAll s).1 (s.size : Int) s2).2, ds, rs ++ [(ruleS (lexAll s).1 (s.size : Int) s2).1]⟩, ⟨okU_rule hl hd.2, hd.1.trans hinv2⟩⟩, rn [(105, 112)], ?_, muP_rule h34 h43⟩
   exact ⟨by (repeat refine ⟨⟨_, rfl, by first | exact VLe.rf | exact vle_int (by dsimp only; omega)⟩, ?_⟩); exact trivial, by (repeat refine ⟨⟨_, rfl, by first | exact BLe.rf | exact BLe.box AllC.rf | exact BLe.arr (by exact rfl)⟩, ?_⟩); exact trivial, by repeat (first | exact trivial | refine ⟨⟨rfl, by first | (left; intro h; cases h) | (right; rfl), by first | exact (fun _ h => ⟨_, h⟩) | exact (fun _ _ => ⟨_, rfl⟩) | (intro _ h; cases h)⟩, ?_⟩), rfl⟩
 try simp only [tdy] at h88
 have hnm : nameT (hereT (lexAll s).1 (s.size : Int) st1) = false := by rw [hh]; simp [nameT, h88]
 refine AL_g rfl rfl (x_move rfl rfl) ?_
 refine AL_g rfl rfl (x_move rfl rfl) ?_
 refine AL_g rfl rfl (x_nilc rfl rfl rfl) ?_
 refine AL_g rfl rfl (x_field (off := 1) (o' := 1) rfl rfl rfl (by kernel_rfl) rfl) ?_
 refine AL_g rfl rfl (x_load1 rfl rfl rfl (by kernel_rfl) rfl) ?_
 refine AL_gbc rfl rfl (x_call (ks := []) (L := [(200, some _)]) (L' := [(200, some _)]) rfl rfl rfl (sIsH_c (lexAll s).1 (s.size : Int) st1 hm hi1 ⟨#[43]⟩) rfl AllV.rf (caught_of rfl) rfl rfl rfl ⟨rfl, trivial⟩ rfl) (fun b97 h97 => ?_)
 refine AL_p (x_pickF rfl rfl rfl) ?_
 refine AL_p (x_move rfl rfl) ?_
 cases b97
 rotate_left
 · try simp only [tdy] at h97
   have hst : startsT (hereT (lexAll s).1 (s.size : Int) st1) = true := by simp [startsT, h97]
   refine AL_o rfl rfl rfl rfl ?_
   refine AL_o rfl rfl rfl rfl ?_
   refine AL_o rfl rfl rfl rfl ?_
   refine AL_o rfl rfl rfl rfl ?_
   refine AL_o rfl rfl rfl rfl ?_
   refine AL_o rfl rfl rfl rfl ?_
   refine AL_p (x_pickT rfl rfl rfl) ?_
   refine AL_p (x_assign rfl rfl) ?_
   refine AL_nil ?_
   refine AW_mid (ι := {q : PS // fullR (lexAll s).1 (s.size : Int) rs st1 = q ∧ q.i ≤ (lexAll s).1.length}) (fun p => []) (fun p => [(200, some (psB (lexAll s).1 (s.size : Int) (p.1)))]) [2, 5, 8, 9] [100, 103, 104, 105, 108] ?_ ?_
   · refine AW_seq ?_
     refine AW_region ?_
     refine AL_p (x_move rfl rfl) ?_
     refine AL_p (x_move rfl rfl) ?_
     refine AL_g rfl rfl (x_field (off := 1) (o' := 1) rfl rfl rfl (by kernel_rfl) rfl) ?_
     refine AL_g rfl rfl (x_load1 rfl rfl rfl (by kernel_rfl) rfl) ?_
     refine AL_g rfl rfl (x_olen (E := 36) (n := 4) rfl rfl rfl (by kernel_rfl)) ?_
     refine AL_gb rfl rfl (x_eql rfl rfl rfl) (fun b112 h112 => ?_)
     refine AL_p (x_pickT rfl rfl rfl) ?_
     refine AL_nil ?_
     cases b112
     · try simp only [tdy] at h112
       refine AW_condF rfl ?_
       refine AW_skip ?_
       refine ⟨⟨st1, ⟨fullR_off (fun q => h112 q.2), hi1⟩⟩, rn [], ?_⟩
       exact ⟨by (repeat refine ⟨⟨_, rfl, by first | exact VLe.rf | exact vle_int (by dsimp only; omega)⟩, ?_⟩); exact trivial, by (repeat refine ⟨⟨_, rfl, by first | exact BLe.rf | exact BLe.box AllC.rf | exact BLe.arr (by exact rfl)⟩, ?_⟩); exact trivial, by repeat (first | exact trivial | refine ⟨⟨rfl, by first | (left; intro h; cases h) | (right; rfl), by first | exact (fun _ h => ⟨_, h⟩) | exact (fun _ _ => ⟨_, rfl⟩) | (intro _ h; cases h)⟩, ?_⟩), rfl⟩
     try simp only [tdy] at h112
     refine AW_condT rfl ?_
     refine AW_region ?_
     refine AL_p (x_move rfl rfl) ?_
     refine AL_p (x_call (ks := []) (L := [(200, some _)]) (L' := [(200, some _)]) rfl rfl rfl (sFault_c (lexAll s).1 (s.size : Int) st1 hm hi1 7) rfl AllV.rf (caught_of rfl) rfl rfl rfl ⟨rfl, trivial⟩ rfl) ?_
     refine AL_nil ?_
     refine ⟨⟨faultP (lexAll s).1 (s.size : Int) 7 st1, ⟨fullR_on hst h112, fault_le hi1⟩⟩, rn [], ?_⟩
     exact ⟨by (repeat refine ⟨⟨_, rfl, by first | exact VLe.rf | exact vle_int (by dsimp only; omega)⟩, ?_⟩); exact trivial, by (repeat refine ⟨⟨_, rfl, by first | exact BLe.rf | exact BLe.box AllC.rf | exact BLe.arr (by exact rfl)⟩, ?_⟩); exact trivial, by repeat (first | exact trivial | refine ⟨⟨rfl, by first | (left; intro h; cases h) | (right; rfl), by first | exact (fun _ h => ⟨_, h⟩) | exact (fun _ _ => ⟨_, rfl⟩) | (intro _ h; cases h)⟩, ?_⟩), rfl⟩
   rintro ⟨s2, hinv1⟩
   dsimp only
   have hf := hinv1.1
   have hs2 : s2.i ≤ (lexAll s).1.length := hinv1.2
   have hd := progU_rule h34 hlt hl hk hf
   refine AW_draw rfl ?_
   refine AL_p (x_field (off := 1) (o' := 1) rfl rfl rfl (by kernel_rfl) rfl) ?_
   refine AL_p (x_load1 rfl rfl rfl (by kernel_rfl) rfl) ?_
   refine AL_p (x_move rfl rfl) ?_
   refine AL_p (x_call (ks := []) (L := [(200, some _)]) (L' := [(200, some _), (109, some _), (110, some _)]) rfl rfl rfl (sRule_c (lexAll s).1 (s.size : Int) s2 hm hs2 hok 109 110 rfl rfl rfl rfl) rfl AllV.rf (caught_of rfl) rfl rfl rfl ⟨rfl, trivial⟩ rfl) ?_
   refine AL_p (y_bslice (E := 36) (e := ruleE) [.tmp 119] ([(ruleS (lexAll s).1 (s.size : Int) s2).1]) 111 rfl rfl rfl rfl rfl rfl rfl rfl FitL.rf rfl rfl rfl rfl rfl rfl (by kernel_rfl)) ?_
   refine AL_p (y_append 112 rfl rfl rfl rfl rfl rfl rfl rfl (by kernel_rfl) (by simp only [List.length_append, List.length_cons, List.length_nil]; omega)) ?_
   refine AL_p (x_field (off := 1) (o' := 1) rfl rfl rfl (by kernel_rfl) rfl) ?_
   refine AL_p (x_store (n := 1) rfl rfl rfl rfl (by kernel_rfl) rfl rfl rfl) ?_
   refine AL_nild (by kernel_rfl) ?_
   refine ⟨⟨⟨(ruleS (lexAll s).1 (s.size : Int) s2).2, ds, rs ++ [(ruleS (lexAll s).1 (s.size : Int) s2).1]⟩, ⟨okU_rule hl hd.2, hd.1.trans hinv2⟩⟩, rn [(105, 112)], ?_, muP_rule h34 h43⟩
   exact ⟨by (repeat refine ⟨⟨_, rfl, by first | exact VLe.rf | exact vle_int (by dsimp only; omega)⟩, ?_⟩); exact trivial, by (repeat refine ⟨⟨_, rfl, by first | exact BLe.rf | exact BLe.box AllC.rf | exact BLe.arr (by exact rfl)⟩, ?_⟩); exact trivial, by repeat (first | exact trivial | refine ⟨⟨rfl, by first | (left; intro h; cases h) | (right; rfl), by first | exact (fun _ h => ⟨_, h⟩) | exact (fun _ _ => ⟨_, rfl⟩) | (intro _ h; cases h)⟩, ?_⟩), rfl⟩
 try simp only [tdy] at h97
 refine AL_g rfl rfl (x_move rfl rfl) ?_
 refine AL_g rfl rfl (x_move rfl rfl) ?_
 refine AL_g rfl rfl (x_nilc rfl rfl rfl) ?_
 refine AL_g rfl rfl (x_field (off := 1) (o' := 1) rfl rfl rfl (by kernel_rfl) rfl) ?_
 refine AL_g rfl rfl (x_load1 rfl rfl rfl (by kernel_rfl) rfl) ?_
 refine AL_gbc rfl rfl (x_call (ks := []) (L := [(200, some _)]) (L' := [(200, some _)]) rfl rfl rfl (sIsH_c (lexAll s).1 (s.size : Int) st1 hm hi1 ⟨#[45]⟩) rfl AllV.rf (caught_of rfl) rfl rfl rfl ⟨rfl, trivial⟩ rfl) (fun b105 h105 => ?_)
 refine AL_p (x_pickF rfl rfl rfl) ?_
 refine AL_p (x_assign rfl rfl) ?_
 refine AL_nil ?_
 refine AW_mid (ι := {q : PS // fullR (lexAll s).1 (s.size : Int) rs st1 = q ∧ q.i ≤ (lexAll s).1.length}) (fun p => []) (fun p => [(200, some (psB (lexAll s).1 (s.size : Int) (p.1)))]) [2, 5, 8, 9] [100, 103, 104, 105, 108] ?_ ?_
 · refine AW_seq ?_
   refine AW_region ?_
   refine AL_p (x_move rfl rfl) ?_
   refine AL_p (x_move rfl rfl) ?_
   cases b105
   · try simp only [tdy] at h105
     have hst : startsT (hereT (lexAll s).1 (s.size : Int) st1) = false := by simp [startsT, hnm, h97, h105]
     refine AL_o rfl rfl rfl rfl ?_
     refine AL_o rfl rfl rfl rfl ?_
     refine AL_o rfl rfl rfl rfl ?_
     refine AL_o rfl rfl rfl rfl ?_
     refine AL_p (x_pickF rfl rfl rfl) ?_
     refine AL_nil ?_
     refine AW_condF rfl ?_
     refine AW_skip ?_
     refine ⟨⟨st1, ⟨fullR_off (fun q => absurd q.1 (by rw [hst]; decide)), hi1⟩⟩, rn [], ?_⟩
     exact ⟨by (repeat refine ⟨⟨_, rfl, by first | exact VLe.rf | exact vle_int (by dsimp only; omega)⟩, ?_⟩); exact trivial, by (repeat refine ⟨⟨_, rfl, by first | exact BLe.rf | exact BLe.box AllC.rf | exact BLe.arr (by exact rfl)⟩, ?_⟩); exact trivial, by repeat (first | exact trivial | refine ⟨⟨rfl, by first | (left; intro h; cases h) | (right; rfl), by first | exact (fun _ h => ⟨_, h⟩) | exact (fun _ _ => ⟨_, rfl⟩) | (intro _ h; cases h)⟩, ?_⟩), rfl⟩
   try simp only [tdy] at h105
   have hst : startsT (hereT (lexAll s).1 (s.size : Int) st1) = true := by simp [startsT, h105]
   refine AL_g rfl rfl (x_field (off := 1) (o' := 1) rfl rfl rfl (by kernel_rfl) rfl) ?_
   refine AL_g rfl rfl (x_load1 rfl rfl rfl (by kernel_rfl) rfl) ?_
   refine AL_g rfl rfl (x_olen (E := 36) (n := 4) rfl rfl rfl (by kernel_rfl)) ?_
   refine AL_gb rfl rfl (x_eql rfl rfl rfl) (fun b112 h112 => ?_)
   refine AL_p (x_pickT rfl rfl rfl) ?_
   refine AL_nil ?_
   cases b112
   · try simp only [tdy] at h112
     refine AW_condF rfl ?_
     refine AW_skip ?_
     refine ⟨⟨st1, ⟨fullR_off (fun q => h112 q.2), hi1⟩⟩, rn [], ?_⟩
     exact ⟨by (repeat refine ⟨⟨_, rfl, by first | exact VLe.rf | exact vle_int (by dsimp only; omega)⟩, ?_⟩); exact trivial, by (repeat refine ⟨⟨_, rfl, by first | exact BLe.rf | exact BLe.box AllC.rf | exact BLe.arr (by exact rfl)⟩, ?_⟩); exact trivial, by repeat (first | exact trivial | refine ⟨⟨rfl, by first | (left; intro h; cases h) | (right; rfl), by first | exact (fun _ h => ⟨_, h⟩) | exact (fun _ _ => ⟨_, rfl⟩) | (intro _ h; cases h)⟩, ?_⟩), rfl⟩
   try simp only [tdy] at h112
   refine AW_condT rfl ?_
   refine AW_region ?_
   refine AL_p (x_move rfl rfl) ?_
   refine AL_p (x_call (ks := []) (L := [(200, some _)]) (L' := [(200, some _)]) rfl rfl rfl (sFault_c (lexAll s).1 (s.size : Int) st1 hm hi1 7) rfl AllV.rf (caught_of rfl) rfl rfl rfl ⟨rfl, trivial⟩ rfl) ?_
   refine AL_nil ?_
   refine ⟨⟨faultP (lexAll s).1 (s.size : Int) 7 st1, ⟨fullR_on hst h112, fault_le hi1⟩⟩, rn [], ?_⟩
   exact ⟨by (repeat refine ⟨⟨_, rfl, by first | exact VLe.rf | exact vle_int (by dsimp only; omega)⟩, ?_⟩); exact trivial, by (repeat refine ⟨⟨_, rfl, by first | exact BLe.rf | exact BLe.box AllC.rf | exact BLe.arr (by exact rfl)⟩, ?_⟩); exact trivial, by repeat (first | exact trivial | refine ⟨⟨rfl, by first | (left; intro h; cases h) | (right; rfl), by first | exact (fun _ h => ⟨_, h⟩) | exact (fun _ _ => ⟨_, rfl⟩) | (intro _ h; cases h)⟩, ?_⟩), rfl⟩
 rintro ⟨s2, hinv1⟩
 dsimp only
 have hf := hinv1.1
 have hs2 : s2.i ≤ (lexAll s).1.length := hinv1.2
 have hd := progU_rule h34 hlt hl hk hf
 refine AW_draw rfl ?_
 refine AL_p (x_field (off := 1) (o' := 1) rfl rfl rfl (by kernel_rfl) rfl) ?_
 refine AL_p (x_load1 rfl rfl rfl (by kernel_rfl) rfl) ?_
 refine AL_p (x_move rfl rfl) ?_
 refine AL_p (x_call (ks := []) (L := [(200, some _)]) (L' := [(200, some _), (109, some _), (110, some _)]) rfl rfl rfl (sRule_c (lexAll s).1 (s.size : Int) s2 hm hs2 hok 109 110 rfl rfl rfl rfl) rfl AllV.rf (caught_of rfl) rfl rfl rfl ⟨rfl, trivial⟩ rfl) ?_
 refine AL_p (y_bslice (E := 36) (e := ruleE) [.tmp 119] ([(ruleS (lexAll s).1 (s.size : Int) s2).1]) 111 rfl rfl rfl rfl rfl rfl rfl rfl FitL.rf rfl rfl rfl rfl rfl rfl (by kernel_rfl)) ?_
 refine AL_p (y_append 112 rfl rfl rfl rfl rfl rfl rfl rfl (by kernel_rfl) (by simp only [List.length_append, List.length_cons, List.length_nil]; omega)) ?_
 refine AL_p (x_field (off := 1) (o' := 1) rfl rfl rfl (by kernel_rfl) rfl) ?_
 refine AL_p (x_store (n := 1) rfl rfl rfl rfl (by kernel_rfl) rfl rfl rfl) ?_
 refine AL_nild (by kernel_rfl) ?_
 refine ⟨⟨⟨(ruleS (lexAll s).1 (s.size : Int) s2).2, ds, rs ++ [(ruleS (lexAll s).1 (s.size : Int) s2).1]⟩, ⟨okU_rule hl hd.2, hd.1.trans hinv2⟩⟩, rn [(105, 112)], ?_, muP_rule h34 h43⟩
 exact ⟨by (repeat refine ⟨⟨_, rfl, by first | exact VLe.rf | exact vle_int (by dsimp only; omega)⟩, ?_⟩); exact trivial, by (repeat refine ⟨⟨_, rfl, by first | exact BLe.rf | exact BLe.box AllC.rf | exact BLe.arr (by exact rfl)⟩, ?_⟩); exact trivial, by repeat (first | exact trivial | refine ⟨⟨rfl, by first | (left; intro h; cases h) | (right; rfl), by first | exact (fun _ h => ⟨_, h⟩) | exact (fun _ _ => ⟨_, rfl⟩) | (intro _ h; cases h)⟩, ?_⟩), rfl⟩

theorem parseR_c (s : ByteArray) (hs0 : s.size ≤ 1048576) : AC Try.prog 21 [.one (.c (.string (s)))] [] (.tup [.agg [.sl declE (parseI s).1.decls, .sl ruleE (parseI s).1.rules], .one (.c (.int .i64 ((parseI s).2.1))), .one (.c (.int .i64 ((parseI s).2.2)))]) [] := by
 have h := parseS_c s hs0
 rw [← parse_agr] at h
 exact h
end Go.Proofs.Ytkemjhlbokldhaa

/- Texts of rules (printed by walk.py) -/
namespace Go.Proofs.Ytkemjhlbokldhaa
open Go.RowKit
set_option linter.unusedVariables false
set_option linter.unusedSimpArgs false
set_option maxRecDepth 100000

set_option maxHeartbeats 4000000 in
theorem termTextI_c (t : Termt) : AC Try.prog 145 [.agg (termC t)] [] (.one (.c (.string (termText t)))) [] := by
 refine AC_body1 Try.func145 rfl rfl Try.ntmps145 rfl Try.results145 ?_
 refine AW_seq ?_
 refine AW_region ?_
 refine AL_p (x_box 100 rfl rfl rfl rfl rfl rfl rfl) ?_
 refine AL_p (x_assign rfl rfl) ?_
 refine AL_nil ?_
 refine AW_seq ?_
 refine AW_seq ?_
 refine AW_region ?_
 refine AL_p (x_field (off := 0) (o' := 0) rfl rfl rfl (by kernel_rfl) rfl) ?_
 refine AL_p (x_load1 rfl rfl rfl (by kernel_rfl) rfl) ?_
 refine AL_b (x_sneq rfl rfl rfl) (fun b5 h5 => ?_)
 refine AL_nil ?_
 cases b5
 rotate_left
 · try simp only [tdy] at h5
   refine AW_condT rfl ?_
   refine AW_seq ?_
   refine AW_region ?_
   refine AL_p (x_field (off := 0) (o' := 0) rfl rfl rfl (by kernel_rfl) rfl) ?_
   refine AL_p (x_load1 rfl rfl rfl (by kernel_rfl) rfl) ?_
   refine AL_p (x_assign rfl rfl) ?_
   refine AL_nil ?_
   refine AW_ret ?_
   exact ⟨rn [], ⟨⟨⟨_, rfl, vle_str (by simp [termText, *])⟩, trivial⟩, trivial, trivial, rfl⟩⟩
 try simp only [tdy] at h5
 refine AW_condF rfl ?_
 refine AW_skip ?_
 refine AW_seq ?_
 refine AW_region ?_
 refine AL_p (x_field (off := 1) (o' := 1) rfl rfl rfl (by kernel_rfl) rfl) ?_
 refine AL_p (x_loadN (n := 2) rfl rfl rfl (by kernel_rfl) rfl rfl) ?_
 refine AL_p (x_call0 rfl rfl rfl (valueTextI_c _) rfl rfl) ?_
 refine AL_p (x_assign rfl rfl) ?_
 refine AL_nil ?_
 refine AW_ret ?_
 exact ⟨rn [], ⟨⟨⟨_, rfl, vle_str (by simp [termText, *])⟩, trivial⟩, trivial, trivial, rfl⟩⟩

set_option maxHeartbeats 4000000 in
theorem printAtomI_c (a : Atomt) : AC Try.prog 122 [.agg (atomC a)] [] (.one (.c (.string (atomText a)))) [] := by
 refine AC_body1 Try.func122 rfl rfl Try.ntmps122 rfl Try.results122 ?_
 refine AW_aggmax 0 1 rfl rfl (fun hm0_1 => ?_)
 refine AW_seq ?_
 refine AW_region ?_
 refine AL_p (x_box 100 rfl rfl rfl rfl rfl rfl rfl) ?_
 refine AL_p (x_assign rfl rfl) ?_
 refine AL_nil ?_
 refine AW_seq ?_
 refine AW_seq ?_
 refine AW_region ?_
 refine AL_p (x_loadN (n := 2) rfl rfl rfl (by kernel_rfl) rfl rfl) ?_
 refine AL_b (x_call0 rfl rfl rfl (atomI_c a) rfl rfl) (fun b7 h7 => ?_)
 refine AL_p (x_not rfl rfl) ?_
 refine AL_nil ?_
 cases b7
 · try simp only [tdy] at h7
   refine AW_condT rfl ?_
   refine AW_seq ?_
   refine AW_region ?_
   refine AL_p (x_assign rfl rfl) ?_
   refine AL_nil ?_
   refine AW_ret ?_
   exact ⟨rn [], ⟨⟨⟨_, rfl, vle_str (by first | exact (atomText_no h7).symm | (rw [atomText_ok hat, mapTo_all (by omega)]; try rfl))⟩, trivial⟩, trivial, trivial, rfl⟩⟩
 try simp only [tdy] at h7
 have hat := h7
 refine AW_condF rfl ?_
 refine AW_skip ?_
 refine AW_seq ?_
 refine AW_region ?_
 refine AL_p (y_bslice0 (E := 9) (e := strE) 101 rfl rfl rfl (by kernel_rfl)) ?_
 refine AL_p (x_assign rfl rfl) ?_
 refine AL_nil ?_
 refine AW_seq ?_
 refine AW_seq ?_
 refine AW_region ?_
 refine AL_p (x_field (off := 1) (o' := 1) rfl rfl rfl (by kernel_rfl) rfl) ?_
 refine AL_p (x_load1 rfl rfl rfl (by kernel_rfl) rfl) ?_
 refine AL_p (x_len (E := 70) (n := 3) rfl rfl (by kernel_rfl)) ?_
 refine AL_p (x_move rfl rfl) ?_
 refine AL_nil ?_
 refine AW_block ?_
 refine AW_loop2 (ι := {q : Nat // q ≤ a.args.length}) (fun p => [(3, .one (.own 101)), (13, .one (.c (.int .i64 ((p.1) : Int))))]) (fun p => [(101, some (.arr 9 strE (mapTo termText a.args (p.1)) true))]) [1, 11, 12] [100] (fun p => a.args.length - (p.1)) ⟨0, by omega⟩ (rn []) ?_ ?_
 exact ⟨by (repeat refine ⟨⟨_, rfl, by first | exact VLe.rf | exact vle_int (by dsimp only; omega)⟩, ?_⟩); exact trivial, by (repeat refine ⟨⟨_, rfl, by first | exact BLe.rf | exact BLe.box AllC.rf | exact BLe.arr (by first | exact mapTo_zero | exact mapTo_more (by omega))⟩, ?_⟩); exact trivial, by repeat (first | exact trivial | refine ⟨⟨rfl, by first | (left; intro h; cases h) | (right; rfl), by first | exact (fun _ h => ⟨_, h⟩) | exact (fun _ _ => ⟨_, rfl⟩) | (intro _ h; cases h)⟩, ?_⟩), rfl⟩
 rintro ⟨k, hinv⟩
 dsimp only
 have hk := hinv
 refine AW_seq ?_
 refine AW_region ?_
 refine AL_b (x_lss rfl rfl rfl) (fun b14 h14 => ?_)
 refine AL_nil ?_
 refine AW_seq ?_
 cases b14
 · try simp only [tdy] at h14
   refine AW_condF rfl ?_
   refine AW_exit (BQ_hit ?_)
   refine AW_seq ?_
   refine AW_draw rfl ?_
   refine AL_p (x_field (off := 0) (o' := 0) rfl rfl rfl (by kernel_rfl) rfl) ?_
   refine AL_p (x_load1 rfl rfl rfl (by kernel_rfl) rfl) ?_
   refine AL_p (x_sadd rfl rfl rfl (by have := atomB_args hat; have : (⟨#[40]⟩ : ByteArray).size = 1 := rfl; have : (⟨#[41]⟩ : ByteArray).size = 1 := rfl; have : (⟨#[44, 32]⟩ : ByteArray).size = 2 := rfl; have : (⟨#[32]⟩ : ByteArray).size = 1 := rfl; have : (⟨#[46]⟩ : ByteArray).size = 1 := rfl; have : (⟨#[110, 111, 116, 32]⟩ : ByteArray).size = 4 := rfl; have : (⟨#[32, 58, 45, 32]⟩ : ByteArray).size = 4 := rfl; omega)) ?_
   refine AL_p (x_move rfl rfl) ?_
   refine AL_p (x_callR rfl rfl rfl (join_c (mapTo termText a.args k) comma (by have := mapTo_len (f := termText) (xs := a.args) (k := k); have := atomB_args hat; omega) (by have := args_le hat k; unfold joinTo at this; unfold mapTo; omega)) rfl AllV.rf rfl rfl rfl rfl rfl) ?_
   refine AL_p (x_sadd rfl rfl rfl (by have := atomB_args hat; have : (joinB (mapTo termText a.args k) comma).size ≤ 102 := args_le hat k; (try simp only [size_app]); have : (⟨#[40]⟩ : ByteArray).size = 1 := rfl; have : (⟨#[41]⟩ : ByteArray).size = 1 := rfl; have : (⟨#[44, 32]⟩ : ByteArray).size = 2 := rfl; have : (⟨#[32]⟩ : ByteArray).size = 1 := rfl; have : (⟨#[46]⟩ : ByteArray).size = 1 := rfl; have : (⟨#[110, 111, 116, 32]⟩ : ByteArray).size = 4 := rfl; have : (⟨#[32, 58, 45, 32]⟩ : ByteArray).size = 4 := rfl; omega)) ?_
   refine AL_p (x_sadd rfl rfl rfl (by have := atomB_args hat; have : (joinB (mapTo termText a.args k) comma).size ≤ 102 := args_le hat k; (try simp only [size_app]); have : (⟨#[40]⟩ : ByteArray).size = 1 := rfl; have : (⟨#[41]⟩ : ByteArray).size = 1 := rfl; have : (⟨#[44, 32]⟩ : ByteArray).size = 2 := rfl; have : (⟨#[32]⟩ : ByteArray).size = 1 := rfl; have : (⟨#[46]⟩ : ByteArray).size = 1 := rfl; have : (⟨#[110, 111, 116, 32]⟩ : ByteArray).size = 4 := rfl; have : (⟨#[32, 58, 45, 32]⟩ : ByteArray).size = 4 := rfl; omega)) ?_
   refine AL_p (x_assign rfl rfl) ?_
   refine AL_nild (by kernel_rfl) ?_
   refine AW_ret ?_
   exact ⟨rn [], ⟨⟨⟨_, rfl, vle_str (by first | exact (atomText_no h7).symm | (rw [atomText_ok hat, mapTo_all (by omega)]; try rfl))⟩, trivial⟩, trivial, trivial, rfl⟩⟩
 try simp only [tdy] at h14
 refine AW_condT rfl ?_
 refine AW_skip ?_
 refine AW_seq ?_
 refine AW_block ?_
 refine AW_seq ?_
 refine AW_region ?_
 refine AL_p (x_index (E := 70) (n := 3) rfl rfl rfl (by kernel_rfl) rfl (k := k) (by omega) (by omega)) ?_
 refine AL_p (x_eloadW (n := 3) rfl rfl (by kernel_rfl) rfl) ?_
 refine AL_p (x_alloc (z := .agg #[.string ⟨#[]⟩, .int .i64 0, .string ⟨#[]⟩]) 102 rfl (by kernel_rfl) rfl rfl rfl rfl) ?_
 refine AL_p (x_store (n := 3) rfl rfl rfl rfl (by kernel_rfl) rfl rfl rfl) ?_
 refine AL_nil ?_
 refine AW_region ?_
 refine AL_p (x_move rfl rfl) ?_
 refine AL_p (x_loadN (n := 3) rfl rfl rfl (by kernel_rfl) rfl rfl) ?_
 refine AL_p (x_call0 rfl rfl rfl (termTextI_c (a.args[k]'(by omega))) rfl rfl) ?_
 refine AL_p (y_bslice (E := 9) (e := strE) [.tmp 19] ([termText (a.args[k]'(by omega))]) 103 rfl rfl rfl rfl rfl rfl rfl rfl FitL.rf rfl rfl rfl rfl rfl rfl (by kernel_rfl)) ?_
 refine AL_p (y_append 104 rfl rfl rfl rfl rfl rfl rfl rfl (by kernel_rfl) (by have := mapTo_len (f := termText) (xs := a.args) (k := k); have := atomB_args hat; simp only [List.length_cons, List.length_nil]; omega)) ?_
 refine AL_p (x_assign rfl rfl) ?_
 refine AL_nil ?_
 refine AW_region ?_
 refine AL_p (x_add rfl rfl rfl (IntWalk.i64_in _ (by omega))) ?_
 refine AL_p (x_move rfl rfl) ?_
 refine AL_nil ?_
 refine ⟨⟨k + 1, by omega⟩, rn [(101, 104)], ?_, by dsimp only; omega⟩
 exact ⟨by (repeat refine ⟨⟨_, rfl, by first | exact VLe.rf | exact vle_int (by dsimp only; omega)⟩, ?_⟩); exact trivial, by (repeat refine ⟨⟨_, rfl, by first | exact BLe.rf | exact BLe.box AllC.rf | exact BLe.arr (by first | exact mapTo_zero | exact mapTo_more (by omega))⟩, ?_⟩); exact trivial, by repeat (first | exact trivial | refine ⟨⟨rfl, by first | (left; intro h; cases h) | (right; rfl), by first | exact (fun _ h => ⟨_, h⟩) | exact (fun _ _ => ⟨_, rfl⟩) | (intro _ h; cases h)⟩, ?_⟩), rfl⟩

set_option maxHeartbeats 4000000 in
theorem litTextI_c (l : Litt) (hl : litB l = true) : AC Try.prog 123 [.agg (litC l)] [] (.one (.c (.string (litText l)))) [] := by
 refine AC_body1 Try.func123 rfl rfl Try.ntmps123 rfl Try.results123 ?_
 refine AW_seq ?_
 refine AW_region ?_
 refine AL_p (x_box 100 rfl rfl rfl rfl rfl rfl rfl) ?_
 refine AL_p (x_assign rfl rfl) ?_
 refine AL_nil ?_
 refine AW_seq ?_
 refine AW_seq ?_
 refine AW_region ?_
 refine AL_p (x_field (off := 0) (o' := 0) rfl rfl rfl (by kernel_rfl) rfl) ?_
 refine AL_p (x_load1 rfl rfl rfl (by kernel_rfl) rfl) ?_
 refine AL_nil ?_
 refine AW_block ?_
 refine AW_seq ?_
 refine AW_region ?_
 refine AL_b (x_eql rfl rfl rfl) (fun b6 h6 => ?_)
 refine AL_p (x_assign rfl rfl) ?_
 refine AL_nil ?_
 cases b6
 rotate_left
 · try simp only [tdy] at h6
   refine AW_condT rfl ?_
   refine AW_seq ?_
   refine AW_region ?_
   refine AL_p (x_field (off := 1) (o' := 1) rfl rfl rfl (by kernel_rfl) rfl) ?_
   refine AL_p (x_loadN (n := 2) rfl rfl rfl (by kernel_rfl) rfl rfl) ?_
   refine AL_p (x_call0 rfl rfl rfl (printAtomI_c l.atom) rfl rfl) ?_
   refine AL_p (x_assign rfl rfl) ?_
   refine AL_nil ?_
   refine AW_ret (BQ_ret ?_)
   exact ⟨rn [], ⟨⟨⟨_, rfl, vle_str (by first | exact (litText_is h6).symm | exact (litText_not h11).symm | (rw [litText_cmp h6 h11, ← opText_at (op := l.op) (k := l.op.toNat) (opList_lt (by omega)) rfl]))⟩, trivial⟩, trivial, trivial, rfl⟩⟩
 try simp only [tdy] at h6
 refine AW_condF rfl ?_
 refine AW_seq ?_
 refine AW_region ?_
 refine AL_b (x_eql rfl rfl rfl) (fun b11 h11 => ?_)
 refine AL_p (x_assign rfl rfl) ?_
 refine AL_nil ?_
 cases b11
 rotate_left
 · try simp only [tdy] at h11
   refine AW_condT rfl ?_
   refine AW_seq ?_
   refine AW_region ?_
   refine AL_p (x_field (off := 1) (o' := 1) rfl rfl rfl (by kernel_rfl) rfl) ?_
   refine AL_p (x_loadN (n := 2) rfl rfl rfl (by kernel_rfl) rfl rfl) ?_
   refine AL_p (x_call0 rfl rfl rfl (printAtomI_c l.atom) rfl rfl) ?_
   refine AL_p (x_sadd rfl rfl rfl (by have := atomText_le l.atom; have : (⟨#[40]⟩ : ByteArray).size = 1 := rfl; have : (⟨#[41]⟩ : ByteArray).size = 1 := rfl; have : (⟨#[44, 32]⟩ : ByteArray).size = 2 := rfl; have : (⟨#[32]⟩ : ByteArray).size = 1 := rfl; have : (⟨#[46]⟩ : ByteArray).size = 1 := rfl; have : (⟨#[110, 111, 116, 32]⟩ : ByteArray).size = 4 := rfl; have : (⟨#[32, 58, 45, 32]⟩ : ByteArray).size = 4 := rfl; omega)) ?_
   refine AL_p (x_assign rfl rfl) ?_
   refine AL_nil ?_
   refine AW_ret (BQ_ret ?_)
   exact ⟨rn [], ⟨⟨⟨_, rfl, vle_str (by first | exact (litText_is h6).symm | exact (litText_not h11).symm | (rw [litText_cmp h6 h11, ← opText_at (op := l.op) (k := l.op.toNat) (opList_lt (by omega)) rfl]))⟩, trivial⟩, trivial, trivial, rfl⟩⟩
 try simp only [tdy] at h11
 have hop := litB_cmp hl h6 h11
 refine AW_condF rfl ?_
 refine AW_skip ?_
 refine AW_seq ?_
 refine AW_draw rfl ?_
 refine AL_p (x_field (off := 4) (o' := 4) rfl rfl rfl (by kernel_rfl) rfl) ?_
 refine AL_p (x_loadN (n := 3) rfl rfl rfl (by kernel_rfl) rfl rfl) ?_
 refine AL_p (x_call0 rfl rfl rfl (termTextI_c l.a) rfl rfl) ?_
 refine AL_p (x_sadd rfl rfl rfl (by obtain ⟨w1, w2, q1, q2⟩ := litB_cmp hl h6 h11; have := termText_le q1; have := termText_le q2; have := opList_get (k := l.op.toNat) (opList_lt (by omega)); have : (⟨#[40]⟩ : ByteArray).size = 1 := rfl; have : (⟨#[41]⟩ : ByteArray).size = 1 := rfl; have : (⟨#[44, 32]⟩ : ByteArray).size = 2 := rfl; have : (⟨#[32]⟩ : ByteArray).size = 1 := rfl; have : (⟨#[46]⟩ : ByteArray).size = 1 := rfl; have : (⟨#[110, 111, 116, 32]⟩ : ByteArray).size = 4 := rfl; have : (⟨#[32, 58, 45, 32]⟩ : ByteArray).size = 4 := rfl; (try simp only [size_app]); omega)) ?_
 refine AL_p (y_bslice (E := 9) (e := strE) [.const (.string ⟨#[]⟩), .const (.string ⟨#[61]⟩), .const (.string ⟨#[33, 61]⟩), .const (.string ⟨#[60]⟩), .const (.string ⟨#[60, 61]⟩)] (opList) 101 rfl rfl rfl rfl rfl rfl rfl rfl FitL.rf rfl rfl rfl rfl rfl rfl (by kernel_rfl)) ?_
 refine AL_p (x_field (off := 3) (o' := 3) rfl rfl rfl (by kernel_rfl) rfl) ?_
 refine AL_p (x_load1 rfl rfl rfl (by kernel_rfl) rfl) ?_
 refine AL_p (x_oindex (n := 1) rfl rfl rfl rfl (by kernel_rfl) rfl (k := l.op.toNat) (by have := litB_cmp hl h6 h11; omega) (opList_lt (by have := litB_cmp hl h6 h11; omega))) ?_
 refine AL_p (x_oload1 rfl rfl rfl (by kernel_rfl) (opList_lt (by have := litB_cmp hl h6 h11; omega)) rfl) ?_
 refine AL_p (x_sadd rfl rfl rfl (by obtain ⟨w1, w2, q1, q2⟩ := litB_cmp hl h6 h11; have := termText_le q1; have := termText_le q2; have := opList_get (k := l.op.toNat) (opList_lt (by omega)); have : (⟨#[40]⟩ : ByteArray).size = 1 := rfl; have : (⟨#[41]⟩ : ByteArray).size = 1 := rfl; have : (⟨#[44, 32]⟩ : ByteArray).size = 2 := rfl; have : (⟨#[32]⟩ : ByteArray).size = 1 := rfl; have : (⟨#[46]⟩ : ByteArray).size = 1 := rfl; have : (⟨#[110, 111, 116, 32]⟩ : ByteArray).size = 4 := rfl; have : (⟨#[32, 58, 45, 32]⟩ : ByteArray).size = 4 := rfl; (try simp only [size_app]); omega)) ?_
 refine AL_p (x_sadd rfl rfl rfl (by obtain ⟨w1, w2, q1, q2⟩ := litB_cmp hl h6 h11; have := termText_le q1; have := termText_le q2; have := opList_get (k := l.op.toNat) (opList_lt (by omega)); have : (⟨#[40]⟩ : ByteArray).size = 1 := rfl; have : (⟨#[41]⟩ : ByteArray).size = 1 := rfl; have : (⟨#[44, 32]⟩ : ByteArray).size = 2 := rfl; have : (⟨#[32]⟩ : ByteArray).size = 1 := rfl; have : (⟨#[46]⟩ : ByteArray).size = 1 := rfl; have : (⟨#[110, 111, 116, 32]⟩ : ByteArray).size = 4 := rfl; have : (⟨#[32, 58, 45, 32]⟩ : ByteArray).size = 4 := rfl; (try simp only [size_app]); omega)) ?_
 refine AL_p (x_field (off := 7) (o' := 7) rfl rfl rfl (by kernel_rfl) rfl) ?_
 refine AL_p (x_loadN (n := 3) rfl rfl rfl (by kernel_rfl) rfl rfl) ?_
 refine AL_p (x_call0 rfl rfl rfl (termTextI_c l.b) rfl rfl) ?_
 refine AL_p (x_sadd rfl rfl rfl (by obtain ⟨w1, w2, q1, q2⟩ := litB_cmp hl h6 h11; have := termText_le q1; have := termText_le q2; have := opList_get (k := l.op.toNat) (opList_lt (by omega)); have : (⟨#[40]⟩ : ByteArray).size = 1 := rfl; have : (⟨#[41]⟩ : ByteArray).size = 1 := rfl; have : (⟨#[44, 32]⟩ : ByteArray).size = 2 := rfl; have : (⟨#[32]⟩ : ByteArray).size = 1 := rfl; have : (⟨#[46]⟩ : ByteArray).size = 1 := rfl; have : (⟨#[110, 111, 116, 32]⟩ : ByteArray).size = 4 := rfl; have : (⟨#[32, 58, 45, 32]⟩ : ByteArray).size = 4 := rfl; (try simp only [size_app]); omega)) ?_
 refine AL_p (x_assign rfl rfl) ?_
 refine AL_nild (by kernel_rfl) ?_
 refine AW_ret ?_
 exact ⟨rn [], ⟨⟨⟨_, rfl, vle_str (by first | exact (litText_is h6).symm | exact (litText_not h11).symm | (rw [litText_cmp h6 h11, ← opText_at (op := l.op) (k := l.op.toNat) (opList_lt (by omega)) rfl]))⟩, trivial⟩, trivial, trivial, rfl⟩⟩

set_option maxHeartbeats 4000000 in
theorem printRuleI_c (r : Rulet) : AC Try.prog 77 [.agg (ruleC r)] [] (.one (.c (.string (ruleText r)))) [] := by
 refine AC_body1 Try.func77 rfl rfl Try.ntmps77 rfl Try.results77 ?_
 refine AW_aggmax 0 3 rfl rfl (fun hm0_3 => ?_)
 refine AW_seq ?_
 refine AW_region ?_
 refine AL_p (x_box 100 rfl rfl rfl rfl rfl rfl rfl) ?_
 refine AL_p (x_assign rfl rfl) ?_
 refine AL_nil ?_
 refine AW_seq ?_
 refine AW_seq ?_
 refine AW_region ?_
 refine AL_p (x_loadN (n := 4) rfl rfl rfl (by kernel_rfl) rfl rfl) ?_
 refine AL_b (x_call0 rfl rfl rfl (ruleI_c r) rfl rfl) (fun b8 h8 => ?_)
 refine AL_p (x_not rfl rfl) ?_
 refine AL_nil ?_
 cases b8
 · try simp only [tdy] at h8
   refine AW_condT rfl ?_
   refine AW_seq ?_
   refine AW_region ?_
   refine AL_p (x_assign rfl rfl) ?_
   refine AL_nil ?_
   refine AW_ret ?_
   exact ⟨rn [], ⟨⟨⟨_, rfl, vle_str (by first | exact (ruleText_no h8).symm | (rw [ruleText_ok hr, bodyTo_some (k := k) (by omega) (by omega), hsg]; done) | (rw [ruleText_ok hr, bodyTo_some (k := k) (by omega) (by omega), hsg]; simp only [ByteArray.append_assoc, comma]; done) | (rw [ruleText_ok hr, bodyTo_none (by omega), hsg, app_nil]))⟩, trivial⟩, trivial, trivial, rfl⟩⟩
 try simp only [tdy] at h8
 have hr := h8
 have hr1 := ruleB_parts h8
 have hq := atomText_le r.head
 have hs := signList_get (k := r.kind.toNat) (signList_lt (by omega))
 have hsg := signText_at (op := r.kind) (k := r.kind.toNat) (signList_lt (by omega)) rfl
 have : (⟨#[40]⟩ : ByteArray).size = 1 := rfl
 have : (⟨#[41]⟩ : ByteArray).size = 1 := rfl
 have : (⟨#[44, 32]⟩ : ByteArray).size = 2 := rfl
 have : (⟨#[32]⟩ : ByteArray).size = 1 := rfl
 have : (⟨#[46]⟩ : ByteArray).size = 1 := rfl
 have : (⟨#[110, 111, 116, 32]⟩ : ByteArray).size = 4 := rfl
 have : (⟨#[32, 58, 45, 32]⟩ : ByteArray).size = 4 := rfl
 refine AW_condF rfl ?_
 refine AW_skip ?_
 refine AW_seq ?_
 refine AW_draw rfl ?_
 refine AL_p (y_bslice (E := 9) (e := strE) [.const (.string ⟨#[]⟩), .const (.string ⟨#[]⟩), .const (.string ⟨#[43]⟩), .const (.string ⟨#[45]⟩)] (signList) 101 rfl rfl rfl rfl rfl rfl rfl rfl FitL.rf rfl rfl rfl rfl rfl rfl (by kernel_rfl)) ?_
 refine AL_p (x_field (off := 0) (o' := 0) rfl rfl rfl (by kernel_rfl) rfl) ?_
 refine AL_p (x_load1 rfl rfl rfl (by kernel_rfl) rfl) ?_
 refine AL_p (x_oindex (n := 1) rfl rfl rfl rfl (by kernel_rfl) rfl (k := r.kind.toNat) (by omega) (signList_lt (by omega))) ?_
 refine AL_p (x_oload1 rfl rfl rfl (by kernel_rfl) (signList_lt (by omega)) rfl) ?_
 refine AL_p (x_field (off := 1) (o' := 1) rfl rfl rfl (by kernel_rfl) rfl) ?_
 refine AL_p (x_loadN (n := 2) rfl rfl rfl (by kernel_rfl) rfl rfl) ?_
 refine AL_p (x_call0 rfl rfl rfl (printAtomI_c r.head) rfl rfl) ?_
 refine AL_p (x_sadd rfl rfl rfl (by (try simp only [size_app]); omega)) ?_
 refine AL_p (x_assign rfl rfl) ?_
 refine AL_nild (by kernel_rfl) ?_
 refine AW_seq ?_
 refine AW_region ?_
 refine AL_p (y_bslice0 (E := 9) (e := strE) 102 rfl rfl rfl (by kernel_rfl)) ?_
 refine AL_p (x_assign rfl rfl) ?_
 refine AL_nil ?_
 refine AW_seq ?_
 refine AW_seq ?_
 refine AW_region ?_
 refine AL_p (x_field (off := 3) (o' := 3) rfl rfl rfl (by kernel_rfl) rfl) ?_
 refine AL_p (x_load1 rfl rfl rfl (by kernel_rfl) rfl) ?_
 refine AL_p (x_len (E := 72) (n := 10) rfl rfl (by kernel_rfl)) ?_
 refine AL_p (x_move rfl rfl) ?_
 refine AL_nil ?_
 refine AW_block ?_
 refine AW_loop2 (ι := {q : Nat // q ≤ r.body.length}) (fun p => [(4, .one (.own 102)), (23, .one (.c (.int .i64 ((p.1) : Int))))]) (fun p => [(102, some (.arr 9 strE (mapTo litText r.body (p.1)) true))]) [3, 21, 22] [100, 101] (fun p => r.body.length - (p.1)) ⟨0, by omega⟩ (rn []) ?_ ?_
 exact ⟨by (repeat refine ⟨⟨_, rfl, by first | exact VLe.rf | exact vle_int (by dsimp only; omega)⟩, ?_⟩); exact trivial, by (repeat refine ⟨⟨_, rfl, by first | exact BLe.rf | exact BLe.box AllC.rf | exact BLe.arr (by first | exact mapTo_zero | exact mapTo_more (by omega))⟩, ?_⟩); exact trivial, by repeat (first | exact trivial | refine ⟨⟨rfl, by first | (left; intro h; cases h) | (right; rfl), by first | exact (fun _ h => ⟨_, h⟩) | exact (fun _ _ => ⟨_, rfl⟩) | (intro _ h; cases h)⟩, ?_⟩), rfl⟩
 rintro ⟨k, hinv⟩
 dsimp only
 have hk := hinv
 refine AW_seq ?_
 refine AW_region ?_
 refine AL_b (x_lss rfl rfl rfl) (fun b24 h24 => ?_)
 refine AL_nil ?_
 refine AW_seq ?_
 cases b24
 rotate_left
 · try simp only [tdy] at h24
   refine AW_condT rfl ?_
   refine AW_skip ?_
   refine AW_seq ?_
   refine AW_block ?_
   refine AW_seq ?_
   refine AW_region ?_
   refine AL_p (x_index (E := 72) (n := 10) rfl rfl rfl (by kernel_rfl) rfl (k := k) (by omega) (by omega)) ?_
   refine AL_p (x_eloadW (n := 10) rfl rfl (by kernel_rfl) rfl) ?_
   refine AL_p (x_alloc (z := .agg #[.int .i64 0, .string ⟨#[]⟩, .slice none 0 0, .int .i64 0, .string ⟨#[]⟩, .int .i64 0, .string ⟨#[]⟩, .string ⟨#[]⟩, .int .i64 0, .string ⟨#[]⟩]) 103 rfl (by kernel_rfl) rfl rfl rfl rfl) ?_
   refine AL_p (x_store (n := 10) rfl rfl rfl rfl (by kernel_rfl) rfl rfl rfl) ?_
   refine AL_nil ?_
   refine AW_region ?_
   refine AL_p (x_move rfl rfl) ?_
   refine AL_p (x_loadN (n := 10) rfl rfl rfl (by kernel_rfl) rfl rfl) ?_
   refine AL_p (x_call0 rfl rfl rfl (litTextI_c (r.body[k]'(by omega)) (hr1.2.2.2 _ (List.getElem_mem _))) rfl rfl) ?_
   refine AL_p (y_bslice (E := 9) (e := strE) [.tmp 29] ([litText (r.body[k]'(by omega))]) 104 rfl rfl rfl rfl rfl rfl rfl rfl FitL.rf rfl rfl rfl rfl rfl rfl (by kernel_rfl)) ?_
   refine AL_p (y_append 105 rfl rfl rfl rfl rfl rfl rfl rfl (by kernel_rfl) (by have := mapTo_len (f := litText) (xs := r.body) (k := k); simp only [List.length_cons, List.length_nil]; omega)) ?_
   refine AL_p (x_assign rfl rfl) ?_
   refine AL_nil ?_
   refine AW_region ?_
   refine AL_p (x_add rfl rfl rfl (IntWalk.i64_in _ (by omega))) ?_
   refine AL_p (x_move rfl rfl) ?_
   refine AL_nil ?_
   refine ⟨⟨k + 1, by omega⟩, rn [(102, 105)], ?_, by dsimp only; omega⟩
   exact ⟨by (repeat refine ⟨⟨_, rfl, by first | exact VLe.rf | exact vle_int (by dsimp only; omega)⟩, ?_⟩); exact trivial, by (repeat refine ⟨⟨_, rfl, by first | exact BLe.rf | exact BLe.box AllC.rf | exact BLe.arr (by first | exact mapTo_zero | exact mapTo_more (by omega))⟩, ?_⟩); exact trivial, by repeat (first | exact trivial | refine ⟨⟨rfl, by first | (left; intro h; cases h) | (right; rfl), by first | exact (fun _ h => ⟨_, h⟩) | exact (fun _ _ => ⟨_, rfl⟩) | (intro _ h; cases h)⟩, ?_⟩), rfl⟩
 try simp only [tdy] at h24
 have hml : (mapTo litText r.body k).length = r.body.length := by rw [mapTo_all (by omega), List.length_map]
 refine AW_condF rfl ?_
 refine AW_exit (BQ_hit ?_)
 refine AW_seq ?_
 refine AW_seq ?_
 refine AW_region ?_
 refine AL_p (x_move rfl rfl) ?_
 refine AL_p (x_olen (E := 9) (n := 1) rfl rfl rfl (by kernel_rfl)) ?_
 refine AL_b (x_gtr rfl rfl rfl) (fun b35 h35 => ?_)
 refine AL_nil ?_
 cases b35
 · try simp only [tdy] at h35
   refine AW_condF rfl ?_
   refine AW_skip ?_
   refine AW_seq ?_
   refine AW_region ?_
   refine AL_p (x_move rfl rfl) ?_
   refine AL_p (x_sadd rfl rfl rfl (by have := lits_map hr k; (try simp only [size_app]); omega)) ?_
   refine AL_p (x_assign rfl rfl) ?_
   refine AL_nil ?_
   refine AW_ret ?_
   exact ⟨rn [], ⟨⟨⟨_, rfl, vle_str (by first | exact (ruleText_no h8).symm | (rw [ruleText_ok hr, bodyTo_some (k := k) (by omega) (by omega), hsg]; done) | (rw [ruleText_ok hr, bodyTo_some (k := k) (by omega) (by omega), hsg]; simp only [ByteArray.append_assoc, comma]; done) | (rw [ruleText_ok hr, bodyTo_none (by omega), hsg, app_nil]))⟩, trivial⟩, trivial, trivial, rfl⟩⟩
 try simp only [tdy] at h35
 refine AW_condT rfl ?_
 refine AW_region ?_
 refine AL_p (x_move rfl rfl) ?_
 refine AL_p (x_move rfl rfl) ?_
 refine AL_p (x_callR rfl rfl rfl (join_c (mapTo litText r.body k) comma (by have := mapTo_len (f := litText) (xs := r.body) (k := k); omega) (by have := lits_map hr k; omega)) rfl AllV.rf rfl rfl rfl rfl rfl) ?_
 refine AL_p (x_sadd rfl rfl rfl (by have := lits_map hr k; (try simp only [size_app]); omega)) ?_
 refine AL_p (x_sadd rfl rfl rfl (by have := lits_map hr k; (try simp only [size_app]); omega)) ?_
 refine AL_p (x_assign rfl rfl) ?_
 refine AL_nil ?_
 refine AW_seq ?_
 refine AW_region ?_
 refine AL_p (x_move rfl rfl) ?_
 refine AL_p (x_sadd rfl rfl rfl (by have := lits_map hr k; (try simp only [size_app]); omega)) ?_
 refine AL_p (x_assign rfl rfl) ?_
 refine AL_nil ?_
 refine AW_ret ?_
 exact ⟨rn [], ⟨⟨⟨_, rfl, vle_str (by first | exact (ruleText_no h8).symm | (rw [ruleText_ok hr, bodyTo_some (k := k) (by omega) (by omega), hsg]; done) | (rw [ruleText_ok hr, bodyTo_some (k := k) (by omega) (by omega), hsg]; simp only [ByteArray.append_assoc, comma]; done) | (rw [ruleText_ok hr, bodyTo_none (by omega), hsg, app_nil]))⟩, trivial⟩, trivial, trivial, rfl⟩⟩

set_option maxHeartbeats 4000000 in
theorem printProgI_c (pg : Programt) : AC Try.prog 27 [.agg (programC pg)] [] (.tup [.one (.c (.string (programText pg).1)), .one (.c (.bool (programText pg).2))]) [] := by
 refine AC_body2 Try.func27 rfl rfl Try.ntmps27 rfl Try.results27 rfl rfl rfl ?_
 refine AW_aggmax 0 0 rfl rfl (fun hm0_0 => ?_)
 refine AW_aggmax 0 1 rfl rfl (fun hm0_1 => ?_)
 refine AW_seq ?_
 refine AW_region ?_
 refine AL_p (x_box 100 rfl rfl rfl rfl rfl rfl rfl) ?_
 refine AL_p (x_assign rfl rfl) ?_
 refine AL_p (x_assign rfl rfl) ?_
 refine AL_nil ?_
 refine AW_seq ?_
 refine AW_seq ?_
 refine AW_region ?_
 refine AL_p (x_loadN (n := 2) rfl rfl rfl (by kernel_rfl) rfl rfl) ?_
 refine AL_b (x_call0 rfl rfl rfl (progI_c pg) rfl rfl) (fun b10 h10 => ?_)
 refine AL_p (x_not rfl rfl) ?_
 refine AL_nil ?_
 cases b10
 · try simp only [tdy] at h10
   have hno := programText_no h10
   refine AW_condT rfl ?_
   refine AW_seq ?_
   refine AW_region ?_
   refine AL_p (x_assign rfl rfl) ?_
   refine AL_p (x_assign rfl rfl) ?_
   refine AL_nil ?_
   refine AW_ret ?_
   exact ⟨rn [], ⟨⟨⟨_, rfl, vle_str (by rw [hno])⟩, ⟨_, rfl, vle_bool (by rw [hno])⟩, trivial⟩, trivial, trivial, rfl⟩⟩
 try simp only [tdy] at h10
 have hp := h10
 have hp1 := programB_parts h10
 refine AW_condF rfl ?_
 refine AW_skip ?_
 refine AW_seq ?_
 refine AW_region ?_
 refine AL_p (x_assign rfl rfl) ?_
 refine AL_nil ?_
 refine AW_seq ?_
 refine AW_seq ?_
 refine AW_region ?_
 refine AL_p (x_field (off := 0) (o' := 0) rfl rfl rfl (by kernel_rfl) rfl) ?_
 refine AL_p (x_load1 rfl rfl rfl (by kernel_rfl) rfl) ?_
 refine AL_p (x_len (E := 97) (n := 3) rfl rfl (by kernel_rfl)) ?_
 refine AL_p (x_move rfl rfl) ?_
 refine AL_nil ?_
 refine AW_block ?_
 refine AW_loop2 (ι := {q : Nat // q ≤ pg.decls.length}) (fun p => [(4, .one (.c (.string (catTo declText pg.decls (p.1))))), (15, .one (.c (.int .i64 ((p.1) : Int))))]) (fun p => []) [1, 13, 14] [100] (fun p => pg.decls.length - (p.1)) ⟨0, by omega⟩ (rn []) ?_ ?_
 exact ⟨by (repeat refine ⟨⟨_, rfl, by first | exact VLe.rf | exact vle_int (by dsimp only; omega) | exact vle_str (by first | (rw [catTo_zero]; done) | (rw [hcm, hsg]; simp only [declText, ByteArray.append_assoc]; done))⟩, ?_⟩); exact trivial, by (repeat refine ⟨⟨_, rfl, by first | exact BLe.rf | exact BLe.box AllC.rf | exact BLe.arr (by exact rfl)⟩, ?_⟩); exact trivial, by repeat (first | exact trivial | refine ⟨⟨rfl, by first | (left; intro h; cases h) | (right; rfl), by first | exact (fun _ h => ⟨_, h⟩) | exact (fun _ _ => ⟨_, rfl⟩) | (intro _ h; cases h)⟩, ?_⟩), rfl⟩
 rintro ⟨k, hinv⟩
 dsimp only
 have hk := hinv
 refine AW_seq ?_
 refine AW_region ?_
 refine AL_b (x_lss rfl rfl rfl) (fun b16 h16 => ?_)
 refine AL_nil ?_
 refine AW_seq ?_
 cases b16
 rotate_left
 · try simp only [tdy] at h16
   have hd := declB_parts (hp1.2.2 (pg.decls[k]'(by omega)) (List.getElem_mem _))
   have hs := declList_get (k := (pg.decls[k]'(by omega)).kind.toNat) (declList_lt (by omega))
   have hsg := declWord_at (op := (pg.decls[k]'(by omega)).kind) (k := (pg.decls[k]'(by omega)).kind.toNat) (declList_lt (by omega)) rfl
   have hn := numText_size (pg.decls[k]'(by omega)).arity
   have hc := decls_le hp hk
   have : (⟨#[40]⟩ : ByteArray).size = 1 := rfl
   have : (⟨#[41]⟩ : ByteArray).size = 1 := rfl
   have : (⟨#[44, 32]⟩ : ByteArray).size = 2 := rfl
   have : (⟨#[32]⟩ : ByteArray).size = 1 := rfl
   have : (⟨#[46]⟩ : ByteArray).size = 1 := rfl
   have : (⟨#[110, 111, 116, 32]⟩ : ByteArray).size = 4 := rfl
   have : (⟨#[32, 58, 45, 32]⟩ : ByteArray).size = 4 := rfl
   have : (⟨#[47]⟩ : ByteArray).size = 1 := rfl
   have : (⟨#[46, 10]⟩ : ByteArray).size = 2 := rfl
   have hcm := catTo_more (f := declText) (xs := pg.decls) (k := k) (by omega)
   refine AW_condT rfl ?_
   refine AW_skip ?_
   refine AW_seq ?_
   refine AW_block ?_
   refine AW_seq ?_
   refine AW_region ?_
   refine AL_p (x_index (E := 97) (n := 3) rfl rfl rfl (by kernel_rfl) rfl (k := k) (by omega) (by omega)) ?_
   refine AL_p (x_eloadW (n := 3) rfl rfl (by kernel_rfl) rfl) ?_
   refine AL_p (x_alloc (z := .agg #[.int .i64 0, .string ⟨#[]⟩, .int .i64 0]) 101 rfl (by kernel_rfl) rfl rfl rfl rfl) ?_
   refine AL_p (x_store (n := 3) rfl rfl rfl rfl (by kernel_rfl) rfl rfl rfl) ?_
   refine AL_nil ?_
   refine AW_draw rfl ?_
   refine AL_p (x_move rfl rfl) ?_
   refine AL_p (y_bslice (E := 9) (e := strE) [.const (.string ⟨#[]⟩), .const (.string ⟨#[115, 116, 97, 116, 101]⟩), .const (.string ⟨#[101, 118, 101, 110, 116]⟩), .const (.string ⟨#[118, 105, 101, 119]⟩)] (declList) 102 rfl rfl rfl rfl rfl rfl rfl rfl FitL.rf rfl rfl rfl rfl rfl rfl (by kernel_rfl)) ?_
   refine AL_p (x_field (off := 0) (o' := 0) rfl rfl rfl (by kernel_rfl) rfl) ?_
   refine AL_p (x_load1 rfl rfl rfl (by kernel_rfl) rfl) ?_
   refine AL_p (x_oindex (n := 1) rfl rfl rfl rfl (by kernel_rfl) rfl (k := (pg.decls[k]'(by omega)).kind.toNat) (by omega) (declList_lt (by omega))) ?_
   refine AL_p (x_oload1 rfl rfl rfl (by kernel_rfl) (declList_lt (by omega)) rfl) ?_
   refine AL_p (x_sadd rfl rfl rfl (by (try simp only [size_app]); omega)) ?_
   refine AL_p (x_field (off := 1) (o' := 1) rfl rfl rfl (by kernel_rfl) rfl) ?_
   refine AL_p (x_load1 rfl rfl rfl (by kernel_rfl) rfl) ?_
   refine AL_p (x_sadd rfl rfl rfl (by (try simp only [size_app]); omega)) ?_
   refine AL_p (x_sadd rfl rfl rfl (by (try simp only [size_app]); omega)) ?_
   refine AL_p (x_field (off := 2) (o' := 2) rfl rfl rfl (by kernel_rfl) rfl) ?_
   refine AL_p (x_load1 rfl rfl rfl (by kernel_rfl) rfl) ?_
   refine AL_p (x_call0 rfl rfl rfl (numTextI_c _) rfl rfl) ?_
   refine AL_p (x_sadd rfl rfl rfl (by (try simp only [size_app]); omega)) ?_
   refine AL_p (x_sadd rfl rfl rfl (by (try simp only [size_app]); omega)) ?_
   refine AL_p (x_sadd rfl rfl rfl (by (try simp only [size_app]); omega)) ?_
   refine AL_p (x_assign rfl rfl) ?_
   refine AL_nild (by kernel_rfl) ?_
   refine AW_region ?_
   refine AL_p (x_add rfl rfl rfl (IntWalk.i64_in _ (by omega))) ?_
   refine AL_p (x_move rfl rfl) ?_
   refine AL_nil ?_
   refine ⟨⟨k + 1, by omega⟩, rn [], ?_, by dsimp only; omega⟩
   exact ⟨by (repeat refine ⟨⟨_, rfl, by first | exact VLe.rf | exact vle_int (by dsimp only; omega) | exact vle_str (by first | (rw [catTo_zero]; done) | (rw [hcm, hsg]; simp only [declText, ByteArray.append_assoc]; done))⟩, ?_⟩); exact trivial, by (repeat refine ⟨⟨_, rfl, by first | exact BLe.rf | exact BLe.box AllC.rf | exact BLe.arr (by exact rfl)⟩, ?_⟩); exact trivial, by repeat (first | exact trivial | refine ⟨⟨rfl, by first | (left; intro h; cases h) | (right; rfl), by first | exact (fun _ h => ⟨_, h⟩) | exact (fun _ _ => ⟨_, rfl⟩) | (intro _ h; cases h)⟩, ?_⟩), rfl⟩
 try simp only [tdy] at h16
 refine AW_condF rfl ?_
 refine AW_exit (BQ_hit ?_)
 refine AW_seq ?_
 refine AW_seq ?_
 refine AW_region ?_
 refine AL_p (x_field (off := 1) (o' := 1) rfl rfl rfl (by kernel_rfl) rfl) ?_
 refine AL_p (x_load1 rfl rfl rfl (by kernel_rfl) rfl) ?_
 refine AL_p (x_len (E := 36) (n := 4) rfl rfl (by kernel_rfl)) ?_
 refine AL_p (x_move rfl rfl) ?_
 refine AL_nil ?_
 refine AW_block ?_
 refine AW_loop2 (ι := {q : Nat // pg.decls.length = pg.decls.length ∧ q ≤ pg.rules.length}) (fun p => [(4, .one (.c (.string (progBody pg pg.decls.length (p.1))))), (40, .one (.c (.int .i64 ((p.1) : Int))))]) (fun p => []) [38, 39] [100] (fun p => pg.rules.length - (p.1)) ⟨0, ⟨rfl, by omega⟩⟩ (rn []) ?_ ?_
 exact ⟨by (repeat refine ⟨⟨_, rfl, by first | exact VLe.rf | exact vle_int (by dsimp only; omega) | exact vle_str (by first | (unfold progBody; rw [catTo_zero, app_nil, show pg.decls.length = k by omega]; done) | (unfold progBody; rw [catTo_zero, app_nil]; done) | (unfold progBody; rw [catTo_more (f := lineText) (xs := pg.rules) (k := j) (by omega)]; simp only [lineText, ByteArray.append_assoc]; done))⟩, ?_⟩); exact trivial, by (repeat refine ⟨⟨_, rfl, by first | exact BLe.rf | exact BLe.box AllC.rf | exact BLe.arr (by exact rfl)⟩, ?_⟩); exact trivial, by repeat (first | exact trivial | refine ⟨⟨rfl, by first | (left; intro h; cases h) | (right; rfl), by first | exact (fun _ h => ⟨_, h⟩) | exact (fun _ _ => ⟨_, rfl⟩) | (intro _ h; cases h)⟩, ?_⟩), rfl⟩
 rintro ⟨j, hinv⟩
 dsimp only
 have hk := hinv.1
 have hj := hinv.2
 have hc := decls_le hp (Nat.le_of_eq hk)
 have hc2 := rules_le hp hj
 have : (⟨#[10]⟩ : ByteArray).size = 1 := rfl
 refine AW_seq ?_
 refine AW_region ?_
 refine AL_b (x_lss rfl rfl rfl) (fun b41 h41 => ?_)
 refine AL_nil ?_
 refine AW_seq ?_
 cases b41
 rotate_left
 · try simp only [tdy] at h41
   refine AW_condT rfl ?_
   refine AW_skip ?_
   refine AW_seq ?_
   refine AW_block ?_
   refine AW_seq ?_
   refine AW_region ?_
   refine AL_p (x_index (E := 36) (n := 4) rfl rfl rfl (by kernel_rfl) rfl (k := j) (by omega) (by omega)) ?_
   refine AL_p (x_eloadW (n := 4) rfl rfl (by kernel_rfl) rfl) ?_
   refine AL_p (x_alloc (z := .agg #[.int .i64 0, .string ⟨#[]⟩, .slice none 0 0, .slice none 0 0]) 103 rfl (by kernel_rfl) rfl rfl rfl rfl) ?_
   refine AL_p (x_store (n := 4) rfl rfl rfl rfl (by kernel_rfl) rfl rfl rfl) ?_
   refine AL_nil ?_
   refine AW_region ?_
   refine AL_p (x_move rfl rfl) ?_
   refine AL_p (x_loadN (n := 4) rfl rfl rfl (by kernel_rfl) rfl rfl) ?_
   refine AL_p (x_call0 rfl rfl rfl (printRuleI_c (pg.rules[j]'(by omega))) rfl rfl) ?_
   refine AL_p (x_sadd rfl rfl rfl (by have := ruleText_le (pg.rules[j]'(by omega)); (try simp only [size_app, progBody]); omega)) ?_
   refine AL_p (x_sadd rfl rfl rfl (by have := ruleText_le (pg.rules[j]'(by omega)); (try simp only [size_app, progBody]); omega)) ?_
   refine AL_p (x_assign rfl rfl) ?_
   refine AL_nil ?_
   refine AW_region ?_
   refine AL_p (x_add rfl rfl rfl (IntWalk.i64_in _ (by omega))) ?_
   refine AL_p (x_move rfl rfl) ?_
   refine AL_nil ?_
   refine ⟨⟨j + 1, ⟨rfl, by omega⟩⟩, rn [], ?_, by dsimp only; omega⟩
   exact ⟨by (repeat refine ⟨⟨_, rfl, by first | exact VLe.rf | exact vle_int (by dsimp only; omega) | exact vle_str (by first | (unfold progBody; rw [catTo_zero, app_nil, show pg.decls.length = k by omega]; done) | (unfold progBody; rw [catTo_zero, app_nil]; done) | (unfold progBody; rw [catTo_more (f := lineText) (xs := pg.rules) (k := j) (by omega)]; simp only [lineText, ByteArray.append_assoc]; done))⟩, ?_⟩); exact trivial, by (repeat refine ⟨⟨_, rfl, by first | exact BLe.rf | exact BLe.box AllC.rf | exact BLe.arr (by exact rfl)⟩, ?_⟩); exact trivial, by repeat (first | exact trivial | refine ⟨⟨rfl, by first | (left; intro h; cases h) | (right; rfl), by first | exact (fun _ h => ⟨_, h⟩) | exact (fun _ _ => ⟨_, rfl⟩) | (intro _ h; cases h)⟩, ?_⟩), rfl⟩
 try simp only [tdy] at h41
 refine AW_condF rfl ?_
 refine AW_exit (BQ_hit ?_)
 refine AW_seq ?_
 refine AW_seq ?_
 refine AW_region ?_
 refine AL_p (x_move rfl rfl) ?_
 refine AL_p (x_lens rfl rfl (by kernel_rfl)) ?_
 refine AL_b (x_gtr rfl rfl rfl) (fun b52 h52 => ?_)
 refine AL_nil ?_
 cases b52
 rotate_left
 · try simp only [tdy] at h52
   have hno := programText_big hp (i := pg.decls.length) (j := j) rfl (by omega) (by omega)
   refine AW_condT rfl ?_
   refine AW_seq ?_
   refine AW_region ?_
   refine AL_p (x_assign rfl rfl) ?_
   refine AL_p (x_assign rfl rfl) ?_
   refine AL_nil ?_
   refine AW_ret ?_
   exact ⟨rn [], ⟨⟨⟨_, rfl, vle_str (by rw [hno])⟩, ⟨_, rfl, vle_bool (by rw [hno])⟩, trivial⟩, trivial, trivial, rfl⟩⟩
 try simp only [tdy] at h52
 have hno := programText_ok hp (i := pg.decls.length) (j := j) rfl (by omega) (by omega)
 refine AW_condF rfl ?_
 refine AW_skip ?_
 refine AW_seq ?_
 refine AW_region ?_
 refine AL_p (x_move rfl rfl) ?_
 refine AL_p (x_assign rfl rfl) ?_
 refine AL_p (x_assign rfl rfl) ?_
 refine AL_nil ?_
 refine AW_ret ?_
 exact ⟨rn [], ⟨⟨⟨_, rfl, vle_str (by rw [hno])⟩, ⟨_, rfl, vle_bool (by rw [hno])⟩, trivial⟩, trivial, trivial, rfl⟩⟩
end Go.Proofs.Ytkemjhlbokldhaa

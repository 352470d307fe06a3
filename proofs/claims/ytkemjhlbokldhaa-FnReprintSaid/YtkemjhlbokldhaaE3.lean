/- Lemmas of the walks, part 3. -/
import Derived.Test.YtkemjhlbokldhaaE2
/- Draws (printed by walk.py) -/
namespace Go.Proofs.Ytkemjhlbokldhaa
open Go.RowKit
set_option linter.unusedVariables false
set_option linter.unusedSimpArgs false
set_option maxRecDepth 100000

set_option maxHeartbeats 4000000 in
theorem new_c (b : List Int) (hb : b.length ≤ 1048576) : AC Try.prog 73 [.one (.sl (intE .u8) b)] [] (.one (.ptr 200 0)) [(200, some (curB b (dNew b)))] := by
 refine AC_body1 Try.func73 rfl rfl Try.ntmps73 rfl Try.results73 ?_
 refine AW_seq ?_
 refine AW_region ?_
 refine AL_p (x_assign_any rfl) ?_
 refine AL_nil ?_
 refine AW_seq ?_
 refine AW_region ?_
 refine AL_p (x_move rfl rfl) ?_
 refine AL_p (x_len (E := 5) (n := 1) rfl rfl (by kernel_rfl)) ?_
 refine AL_p (x_add rfl rfl rfl (r := w64 (391785 + (b.length : Int))) rfl) ?_
 refine AL_p (x_assign rfl rfl) ?_
 refine AL_nil ?_
 refine AW_seq ?_
 refine AW_seq ?_
 refine AW_region ?_
 refine AL_p (x_assign rfl rfl) ?_
 refine AL_nil ?_
 refine AW_block ?_
 refine AW_loop2 (ι := {q : Nat // q ≤ min b.length 4000}) (fun p => [(3, .one (.c (.int .i64 (hashTo b (p.1))))), (4, .one (.c (.int .i64 (((p.1) : Int)))))]) (fun p => []) [0] [] (fun p => 4000 - (p.1)) ⟨0, by omega⟩ (rn []) ?_ ?_
 exact ⟨by (repeat refine ⟨⟨_, rfl, by first | exact VLe.rf | exact vle_int (by dsimp only; omega)⟩, ?_⟩); exact trivial, by (repeat refine ⟨⟨_, rfl, by first | exact BLe.rf | exact BLe.box AllC.rf | exact BLe.arr (by exact rfl)⟩, ?_⟩); exact trivial, by repeat (first | exact trivial | refine ⟨⟨rfl, by first | (left; intro h; cases h) | (right; rfl), by first | exact (fun _ h => ⟨_, h⟩) | exact (fun _ _ => ⟨_, rfl⟩) | (intro _ h; cases h)⟩, ?_⟩), rfl⟩
 rintro ⟨k, hinv⟩
 dsimp only
 have hk := hinv
 refine AW_seq ?_
 refine AW_seq ?_
 refine AW_region ?_
 refine AL_p (x_move rfl rfl) ?_
 refine AL_p (x_move rfl rfl) ?_
 refine AL_p (x_len (E := 5) (n := 1) rfl rfl (by kernel_rfl)) ?_
 refine AL_b (x_lss rfl rfl rfl) (fun b11 h11 => ?_)
 refine AL_p (x_move rfl rfl) ?_
 cases b11
 · try simp only [tdy] at h11
   obtain rfl : k = min b.length 4000 := by omega
   refine AL_o rfl rfl rfl rfl ?_
   refine AL_o rfl rfl rfl rfl ?_
   refine AL_p (x_pickF rfl rfl rfl) ?_
   refine AL_nil ?_
   refine AW_condF rfl ?_
   refine AW_exit (BQ_hit ?_)
   refine AW_seq ?_
   refine AW_region ?_
   refine AL_p (x_move rfl rfl) ?_
   refine AL_p (x_move rfl rfl) ?_
   refine AL_p (x_build (zs := [.slice none 0 0, .int .i64 0, .int .i64 0]) (places := [(0, 1), (1, 1), (2, 1)]) rfl (by kernel_rfl) rfl rfl rfl rfl rfl) ?_
   refine AL_p (x_box 200 rfl rfl rfl rfl rfl rfl rfl) ?_
   refine AL_p (x_assign rfl rfl) ?_
   refine AL_nil ?_
   refine AW_ret ?_
   exact ⟨rn [], ⟨⟨⟨_, rfl, VLe.rf⟩, trivial⟩, ⟨⟨_, rfl, ble_eq rfl⟩, trivial⟩, trivial, rfl⟩⟩
 try simp only [tdy] at h11
 refine AL_g rfl rfl (x_move rfl rfl) ?_
 refine AL_gb rfl rfl (x_lss rfl rfl rfl) (fun b14 h14 => ?_)
 refine AL_p (x_pickT rfl rfl rfl) ?_
 refine AL_nil ?_
 cases b14
 · try simp only [tdy] at h14
   obtain rfl : k = min b.length 4000 := by omega
   refine AW_condF rfl ?_
   refine AW_exit (BQ_hit ?_)
   refine AW_seq ?_
   refine AW_region ?_
   refine AL_p (x_move rfl rfl) ?_
   refine AL_p (x_move rfl rfl) ?_
   refine AL_p (x_build (zs := [.slice none 0 0, .int .i64 0, .int .i64 0]) (places := [(0, 1), (1, 1), (2, 1)]) rfl (by kernel_rfl) rfl rfl rfl rfl rfl) ?_
   refine AL_p (x_box 200 rfl rfl rfl rfl rfl rfl rfl) ?_
   refine AL_p (x_assign rfl rfl) ?_
   refine AL_nil ?_
   refine AW_ret ?_
   exact ⟨rn [], ⟨⟨⟨_, rfl, VLe.rf⟩, trivial⟩, ⟨⟨_, rfl, ble_eq rfl⟩, trivial⟩, trivial, rfl⟩⟩
 try simp only [tdy] at h14
 refine AW_condT rfl ?_
 refine AW_skip ?_
 refine AW_seq ?_
 refine AW_block ?_
 refine AW_region ?_
 refine AL_p (x_move rfl rfl) ?_
 refine AL_p (x_mul rfl rfl rfl (r := w64 (hashTo b k * 131)) rfl) ?_
 refine AL_p (x_move rfl rfl) ?_
 refine AL_p (x_move rfl rfl) ?_
 refine AL_p (x_index (E := 5) (n := 1) rfl rfl rfl (by kernel_rfl) rfl (k := k) rfl (by omega)) ?_
 refine AL_p (x_eload1 rfl rfl (by kernel_rfl) rfl) ?_
 refine AL_p (x_conv (k' := .i64) rfl rfl (by kernel_rfl) (r := w64 (b.getD k 0)) (congrArg w64 (getD_int (by omega)))) ?_
 refine AL_p (x_add rfl rfl rfl (r := w64 (w64 (hashTo b k * 131) + w64 (b.getD k 0))) rfl) ?_
 refine AL_p (x_add rfl rfl rfl (r := w64 (w64 (w64 (hashTo b k * 131) + w64 (b.getD k 0)) + 7)) rfl) ?_
 refine AL_p (x_and rfl rfl rfl ) ?_
 refine AL_p (x_assign rfl rfl) ?_
 refine AL_nil ?_
 refine AW_region ?_
 refine AL_p (x_move rfl rfl) ?_
 refine AL_p (x_add rfl rfl rfl (IntWalk.i64_in _ (by omega))) ?_
 refine AL_p (x_assign rfl rfl) ?_
 refine AL_nil ?_
 refine ⟨⟨k + 1, by omega⟩, rn [], ?_, by dsimp only; omega⟩
 exact ⟨by (repeat refine ⟨⟨_, rfl, by first | exact VLe.rf | exact vle_int (by dsimp only; omega)⟩, ?_⟩); exact trivial, by (repeat refine ⟨⟨_, rfl, by first | exact BLe.rf | exact BLe.box AllC.rf | exact BLe.arr (by exact rfl)⟩, ?_⟩); exact trivial, by repeat (first | exact trivial | refine ⟨⟨rfl, by first | (left; intro h; cases h) | (right; rfl), by first | exact (fun _ h => ⟨_, h⟩) | exact (fun _ _ => ⟨_, rfl⟩) | (intro _ h; cases h)⟩, ?_⟩), rfl⟩

set_option maxHeartbeats 4000000 in
theorem byte_c (b : List Int) (c : Cur) (hb : b.length ≤ 1048576) : AC Try.prog 120 [.one (.ptr 200 0)] [(200, some (curB b c))] (.one (.c (.int .i64 ((dByte b c).1)))) [(200, some (curB b (dByte b c).2))] := by
 refine AC_body1 Try.func120 rfl rfl Try.ntmps120 rfl Try.results120 ?_
 refine AW_seq ?_
 refine AW_region ?_
 refine AL_p (x_assign rfl rfl) ?_
 refine AL_nil ?_
 refine AW_seq ?_
 refine AW_region ?_
 refine AL_p (x_move rfl rfl) ?_
 refine AL_p (x_move rfl rfl) ?_
 refine AL_p (x_nilc rfl rfl rfl) ?_
 refine AL_p (x_field (off := 2) (o' := 2) rfl rfl rfl (by kernel_rfl) rfl) ?_
 refine AL_p (x_load1 rfl rfl rfl (by kernel_rfl) rfl) ?_
 refine AL_p (x_mul rfl rfl rfl (r := w64 (c.h * 6364136223846793005)) rfl) ?_
 refine AL_p (x_add rfl rfl rfl (r := nextH c.h) rfl) ?_
 refine AL_p (x_nilc rfl rfl rfl) ?_
 refine AL_p (x_field (off := 2) (o' := 2) rfl rfl rfl (by kernel_rfl) rfl) ?_
 refine AL_p (x_store (n := 1) rfl rfl rfl rfl (by kernel_rfl) rfl rfl rfl) ?_
 refine AL_nil ?_
 refine AW_seq ?_
 refine AW_draw rfl ?_
 refine AL_p (x_move rfl rfl) ?_
 refine AL_p (x_nilc rfl rfl rfl) ?_
 refine AL_p (x_field (off := 2) (o' := 2) rfl rfl rfl (by kernel_rfl) rfl) ?_
 refine AL_p (x_load1 rfl rfl rfl (by kernel_rfl) rfl) ?_
 refine AL_p (x_shr rfl rfl rfl (r := (nextH c.h).fdiv (2 ^ 33)) (by decide) rfl (shr_33 _)) ?_
 refine AL_p (x_move rfl rfl) ?_
 refine AL_p (x_nilc rfl rfl rfl) ?_
 refine AL_p (x_field (off := 2) (o' := 2) rfl rfl rfl (by kernel_rfl) rfl) ?_
 refine AL_p (x_load1 rfl rfl rfl (by kernel_rfl) rfl) ?_
 refine AL_p (x_shr rfl rfl rfl (r := (nextH c.h).fdiv (2 ^ 45)) (by decide) rfl (shr_45 _)) ?_
 refine AL_p (x_xor rfl rfl rfl ) ?_
 refine AL_p (x_and rfl rfl rfl ) ?_
 refine AL_p (x_assign rfl rfl) ?_
 refine AL_nild (by kernel_rfl) ?_
 refine AW_seq ?_
 refine AW_seq ?_
 refine AW_draw rfl ?_
 refine AL_p (x_move rfl rfl) ?_
 refine AL_p (x_nilc rfl rfl rfl) ?_
 refine AL_p (x_field (off := 1) (o' := 1) rfl rfl rfl (by kernel_rfl) rfl) ?_
 refine AL_p (x_load1 rfl rfl rfl (by kernel_rfl) rfl) ?_
 refine AL_p (x_move rfl rfl) ?_
 refine AL_p (x_nilc rfl rfl rfl) ?_
 refine AL_p (x_field (off := 0) (o' := 0) rfl rfl rfl (by kernel_rfl) rfl) ?_
 refine AL_p (x_load1 rfl rfl rfl (by kernel_rfl) rfl) ?_
 refine AL_p (x_len (E := 5) (n := 1) rfl rfl (by kernel_rfl)) ?_
 refine AL_b (x_lss rfl rfl rfl) (fun b34 h34 => ?_)
 refine AL_nild (by kernel_rfl) ?_
 cases b34
 · try simp only [tdy] at h34
   have hno := dByte_no (b := b) (c := c) (by omega)
   refine AW_condF rfl ?_
   refine AW_skip ?_
   refine AW_seq ?_
   refine AW_region ?_
   refine AL_p (x_move rfl rfl) ?_
   refine AL_p (x_assign rfl rfl) ?_
   refine AL_nil ?_
   refine AW_ret ?_
   exact ⟨rn [], ⟨⟨⟨_, rfl, vle_int (by rw [hno]; first | done | rfl)⟩, trivial⟩, ⟨⟨_, rfl, by first | exact BLe.rf | exact ble_eq (by rw [hno]; first | done | rfl)⟩, trivial⟩, by repeat (first | exact trivial | refine ⟨⟨rfl, by first | (left; intro h; cases h) | (right; rfl), by first | exact (fun _ h => ⟨_, h⟩) | exact (fun _ _ => ⟨_, rfl⟩) | (intro _ h; cases h)⟩, ?_⟩), rfl⟩⟩
 try simp only [tdy] at h34
 have hno := dByte_yes (b := b) (c := c) (by omega)
 refine AW_condT rfl ?_
 refine AW_seq ?_
 refine AW_draw rfl ?_
 refine AL_p (x_move rfl rfl) ?_
 refine AL_p (x_move rfl rfl) ?_
 refine AL_p (x_nilc rfl rfl rfl) ?_
 refine AL_p (x_field (off := 0) (o' := 0) rfl rfl rfl (by kernel_rfl) rfl) ?_
 refine AL_p (x_load1 rfl rfl rfl (by kernel_rfl) rfl) ?_
 refine AL_p (x_move rfl rfl) ?_
 refine AL_p (x_nilc rfl rfl rfl) ?_
 refine AL_p (x_field (off := 1) (o' := 1) rfl rfl rfl (by kernel_rfl) rfl) ?_
 refine AL_p (x_load1 rfl rfl rfl (by kernel_rfl) rfl) ?_
 refine AL_p (x_index (E := 5) (n := 1) rfl rfl rfl (by kernel_rfl) rfl (k := c.i) rfl (by omega)) ?_
 refine AL_p (x_eload1 rfl rfl (by kernel_rfl) rfl) ?_
 refine AL_p (x_conv (k' := .i64) rfl rfl (by kernel_rfl) (r := w64 (b.getD c.i 0)) (congrArg w64 (getD_int (by omega)))) ?_
 refine AL_p (x_add rfl rfl rfl (r := w64 (mixH (nextH c.h) + w64 (b.getD c.i 0))) rfl) ?_
 refine AL_p (x_and rfl rfl rfl ) ?_
 refine AL_p (x_assign rfl rfl) ?_
 refine AL_nild (by kernel_rfl) ?_
 refine AW_region ?_
 refine AL_p (x_move rfl rfl) ?_
 refine AL_p (x_move rfl rfl) ?_
 refine AL_p (x_nilc rfl rfl rfl) ?_
 refine AL_p (x_field (off := 1) (o' := 1) rfl rfl rfl (by kernel_rfl) rfl) ?_
 refine AL_p (x_load1 rfl rfl rfl (by kernel_rfl) rfl) ?_
 refine AL_p (x_add rfl rfl rfl (IntWalk.i64_in _ (by omega))) ?_
 refine AL_p (x_nilc rfl rfl rfl) ?_
 refine AL_p (x_field (off := 1) (o' := 1) rfl rfl rfl (by kernel_rfl) rfl) ?_
 refine AL_p (x_store (n := 1) rfl rfl rfl rfl (by kernel_rfl) rfl rfl rfl) ?_
 refine AL_nil ?_
 refine AW_seq ?_
 refine AW_region ?_
 refine AL_p (x_move rfl rfl) ?_
 refine AL_p (x_assign rfl rfl) ?_
 refine AL_nil ?_
 refine AW_ret ?_
 exact ⟨rn [], ⟨⟨⟨_, rfl, vle_int (by rw [hno]; first | done | rfl)⟩, trivial⟩, ⟨⟨_, rfl, by first | exact BLe.rf | exact ble_eq (by rw [hno]; first | done | rfl)⟩, trivial⟩, by repeat (first | exact trivial | refine ⟨⟨rfl, by first | (left; intro h; cases h) | (right; rfl), by first | exact (fun _ h => ⟨_, h⟩) | exact (fun _ _ => ⟨_, rfl⟩) | (intro _ h; cases h)⟩, ?_⟩), rfl⟩⟩

set_option maxHeartbeats 4000000 in
theorem below_c (b : List Int) (c : Cur) (hb : b.length ≤ 1048576) (n : Int) : AC Try.prog 75 [.one (.ptr 200 0), .one (.c (.int .i64 n))] [(200, some (curB b c))] (.one (.c (.int .i64 ((dBelow b c n).1)))) [(200, some (curB b (dBelow b c n).2))] := by
 refine AC_body1 Try.func75 rfl rfl Try.ntmps75 rfl Try.results75 ?_
 refine AW_seq ?_
 refine AW_region ?_
 refine AL_p (x_assign rfl rfl) ?_
 refine AL_nil ?_
 refine AW_seq ?_
 refine AW_seq ?_
 refine AW_region ?_
 refine AL_p (x_move rfl rfl) ?_
 refine AL_b (x_leq rfl rfl rfl) (fun b10 h10 => ?_)
 refine AL_nil ?_
 cases b10
 rotate_left
 · try simp only [tdy] at h10
   have hno := dBelow_0 (b := b) (c := c) (n := n) (by omega)
   refine AW_condT rfl ?_
   refine AW_seq ?_
   refine AW_region ?_
   refine AL_p (x_assign rfl rfl) ?_
   refine AL_nil ?_
   refine AW_ret ?_
   exact ⟨rn [], ⟨⟨⟨_, rfl, vle_int (by rw [hno]; first | done | rfl)⟩, trivial⟩, ⟨⟨_, rfl, by first | exact BLe.rf | exact ble_eq (by rw [hno]; first | done | rfl)⟩, trivial⟩, by repeat (first | exact trivial | refine ⟨⟨rfl, by first | (left; intro h; cases h) | (right; rfl), by first | exact (fun _ h => ⟨_, h⟩) | exact (fun _ _ => ⟨_, rfl⟩) | (intro _ h; cases h)⟩, ?_⟩), rfl⟩⟩
 try simp only [tdy] at h10
 refine AW_condF rfl ?_
 refine AW_skip ?_
 refine AW_seq ?_
 refine AW_seq ?_
 refine AW_region ?_
 refine AL_p (x_move rfl rfl) ?_
 refine AL_b (x_leq rfl rfl rfl) (fun b12 h12 => ?_)
 refine AL_nil ?_
 cases b12
 rotate_left
 · try simp only [tdy] at h12
   have hno := dBelow_1 (b := b) (c := c) (n := n) (by omega) (by omega)
   have hd1 := dByte_in b c
   refine AW_condT rfl ?_
   refine AW_seq ?_
   refine AW_region ?_
   refine AL_p (x_move rfl rfl) ?_
   refine AL_p (x_call (ks := []) (L := [(200, some _)]) (L' := [(200, some _)]) rfl rfl rfl (byte_c b c hb) rfl AllV.rf (caught_of rfl) rfl rfl rfl ⟨rfl, trivial⟩ rfl) ?_
   refine AL_p (x_move rfl rfl) ?_
   refine AL_p (x_rem rfl rfl rfl (by omega) rfl (rem_wf hd1.1 (by omega) (by omega))) ?_
   refine AL_p (x_assign rfl rfl) ?_
   refine AL_nil ?_
   refine AW_ret ?_
   exact ⟨rn [], ⟨⟨⟨_, rfl, vle_int (by rw [hno]; first | done | rfl)⟩, trivial⟩, ⟨⟨_, rfl, by first | exact BLe.rf | exact ble_eq (by rw [hno]; first | done | rfl)⟩, trivial⟩, by repeat (first | exact trivial | refine ⟨⟨rfl, by first | (left; intro h; cases h) | (right; rfl), by first | exact (fun _ h => ⟨_, h⟩) | exact (fun _ _ => ⟨_, rfl⟩) | (intro _ h; cases h)⟩, ?_⟩), rfl⟩⟩
 try simp only [tdy] at h12
 have hno := dBelow_2 (b := b) (c := c) (n := n) (by omega) (by omega)
 have hd2 := dFour_in b c
 have g1 := dByte_in b c
 have g2 := dByte_in b (dByte b c).2
 have g3 := dByte_in b (dByte b (dByte b c).2).2
 have g4 := dByte_in b (dByte b (dByte b (dByte b c).2).2).2
 refine AW_condF rfl ?_
 refine AW_skip ?_
 refine AW_seq ?_
 refine AW_region ?_
 refine AL_p (x_move rfl rfl) ?_
 refine AL_p (x_call (ks := []) (L := [(200, some _)]) (L' := [(200, some _)]) rfl rfl rfl (byte_c b c hb) rfl AllV.rf (caught_of rfl) rfl rfl rfl ⟨rfl, trivial⟩ rfl) ?_
 refine AL_p (x_assign rfl rfl) ?_
 refine AL_nil ?_
 refine AW_seq ?_
 refine AW_region ?_
 refine AL_p (x_move rfl rfl) ?_
 refine AL_p (x_call (ks := []) (L := [(200, some _)]) (L' := [(200, some _)]) rfl rfl rfl (byte_c b (dByte b c).2 hb) rfl AllV.rf (caught_of rfl) rfl rfl rfl ⟨rfl, trivial⟩ rfl) ?_
 refine AL_p (x_assign rfl rfl) ?_
 refine AL_nil ?_
 refine AW_seq ?_
 refine AW_region ?_
 refine AL_p (x_move rfl rfl) ?_
 refine AL_p (x_call (ks := []) (L := [(200, some _)]) (L' := [(200, some _)]) rfl rfl rfl (byte_c b (dByte b (dByte b c).2).2 hb) rfl AllV.rf (caught_of rfl) rfl rfl rfl ⟨rfl, trivial⟩ rfl) ?_
 refine AL_p (x_assign rfl rfl) ?_
 refine AL_nil ?_
 refine AW_seq ?_
 refine AW_region ?_
 refine AL_p (x_move rfl rfl) ?_
 refine AL_p (x_call (ks := []) (L := [(200, some _)]) (L' := [(200, some _)]) rfl rfl rfl (byte_c b (dByte b (dByte b (dByte b c).2).2).2 hb) rfl AllV.rf (caught_of rfl) rfl rfl rfl ⟨rfl, trivial⟩ rfl) ?_
 refine AL_p (x_assign rfl rfl) ?_
 refine AL_nil ?_
 refine AW_seq ?_
 refine AW_region ?_
 refine AL_p (x_move rfl rfl) ?_
 refine AL_p (x_mul rfl rfl rfl (IntWalk.i64_in _ (by omega))) ?_
 refine AL_p (x_move rfl rfl) ?_
 refine AL_p (x_mul rfl rfl rfl (IntWalk.i64_in _ (by omega))) ?_
 refine AL_p (x_add rfl rfl rfl (IntWalk.i64_in _ (by omega))) ?_
 refine AL_p (x_move rfl rfl) ?_
 refine AL_p (x_mul rfl rfl rfl (IntWalk.i64_in _ (by omega))) ?_
 refine AL_p (x_add rfl rfl rfl (IntWalk.i64_in _ (by omega))) ?_
 refine AL_p (x_move rfl rfl) ?_
 refine AL_p (x_add rfl rfl rfl (IntWalk.i64_in _ (by omega))) ?_
 refine AL_p (x_move rfl rfl) ?_
 refine AL_p (x_rem rfl rfl rfl (by omega) rfl (rem_wf (m := (dFour b c).1) hd2.1 (by omega) (by omega))) ?_
 refine AL_p (x_assign rfl rfl) ?_
 refine AL_nil ?_
 refine AW_ret ?_
 exact ⟨rn [], ⟨⟨⟨_, rfl, vle_int (by rw [hno]; first | done | rfl)⟩, trivial⟩, ⟨⟨_, rfl, by first | exact BLe.rf | exact ble_eq (by rw [hno]; first | done | rfl)⟩, trivial⟩, by repeat (first | exact trivial | refine ⟨⟨rfl, by first | (left; intro h; cases h) | (right; rfl), by first | exact (fun _ h => ⟨_, h⟩) | exact (fun _ _ => ⟨_, rfl⟩) | (intro _ h; cases h)⟩, ?_⟩), rfl⟩⟩
end Go.Proofs.Ytkemjhlbokldhaa

/- The abstract walk: contracts that leave open what a function returns; it is something good. -/
namespace Go.Proofs.Ytkemjhlbokldhaa
open Go.RowKit
set_option linter.unusedVariables false

/-- Called with such arguments, the function returns one of some values. -/
structure AX (P : Program) (f : FuncId) (args : List AVal) (L : Locs) {ι : Type} (G : ι → Prop) (res : ι → AVal) (L' : ι → Locs) : Prop where
 fn : Callable P f
 run : ∀ (g : Gh) (w : World) (cargs : Array Value), MemR g L w → All2 (VR1 g L w) cargs.toList args →
   Calls P f cargs w fun e w' => ∃ i v g', G i ∧ e = .returned v ∧ MemR g' (L' i) w' ∧ VR g' (L' i) w' v (res i) ∧ Step (keys L) g L w g' (L' i) w'
theorem AX.mono {P : Program} {f : FuncId} {args : List AVal} {L : Locs} {ι : Type} {G G' : ι → Prop} {res : ι → AVal} {L' : ι → Locs} (h : AX P f args L G res L') (hg : ∀ i, G i → G' i) : AX P f args L G' res L' :=
 ⟨h.fn, fun g w cargs m ha => (h.run g w cargs m ha).mono (by
   rintro e w' ⟨i, v, g', h0, h1, h2, h3, h4⟩
   exact ⟨i, v, g', hg i h0, h1, h2, h3, h4⟩)⟩

/-! ### How a body must end -/
def RetXS {ι : Type} (K : List Nat) (G : ι → Prop) (T : ι → Tmps) (L' : ι → Locs) (s : St) : Prop := ∃ i, G i ∧ ∃ r, LeS K r s ⟨T i, L' i⟩
def RetXQ {ι : Type} (K : List Nat) (G : ι → Prop) (T : ι → Tmps) (L' : ι → Locs) : Exit → St → Prop
 | .ret, s => RetXS K G T L' s
 | _, _ => False
section body
variable {P : Program} {N : Nat} {f : FuncId} {fn : Func} {c : Code} {args : List AVal} {L : Locs} {ι : Type} {G : ι → Prop} {res : ι → AVal} {L' Lf : ι → Locs} {T : ι → Tmps}
theorem AX_of (hf : P.funcs[f]? = some fn) (hb : fn.body = some c) (hn : (fn.name == "runtime.NumGoroutine") = false) (hN : fn.ntmps = N) (hA : Nat.ble args.length N = true)
   (hr : ∀ (i : ι) (g : Gh) (a : Act) (w : World), Rep N g ⟨T i, L' i⟩ a w → ∃ v, (results fn a.tmps).run P w = .ok v w ∧ VR g (L' i) w v (res i))
   (h : AW P N (keys L) c (RetXS (keys L) G T L') (RetXQ (keys L) G T L') ⟨args0 args 0, L⟩) : AX P f args L G res L' := by
 refine ⟨⟨fn, c, hf, hb, hn⟩, fun g w cargs m ha => ?_⟩
 subst hN
 have R := entry_rep m ha (Nat.le_of_ble_eq_true hA)
 refine calls_of_wp hf hb (Go.wp_mono (h g _ w R) ?_)
 rintro e a1 w1 ⟨g1, s1, R1, hs, hR⟩
 have fin : RetXS (keys L) G T L' s1 → a1.defers = [] ∧ ∃ v, (results fn a1.tmps).run P w1 = .ok v w1 ∧ ∃ i v' g', G i ∧ Ending.returned v = .returned v' ∧ MemR g' (L' i) w1 ∧ VR g' (L' i) w1 v' (res i) ∧ Step (keys L) g L w g' (L' i) w1 := by
   rintro ⟨i, hG, r, hle⟩
   have R2 := R1.le hle
   obtain ⟨v, h1, h2⟩ := hr i _ a1 w1 R2
   exact ⟨R1.defers, v, h1, i, v, _, hG, rfl, R2.mem, h2, hs.trans m R1.mem (Step.unren hle.l hle.k)⟩
 cases e with
 | normal => exact fin hR
 | ret => exact fin hR
 | exit id => exact hR
 | goto l => exact hR
 | panic ch => exact hR.elim
 | outgrown => exact hR.elim
theorem AX_body1 {r : Nat} {x : ι → AVal} (hf : P.funcs[f]? = some fn) (hb : fn.body = some c) (hn : (fn.name == "runtime.NumGoroutine") = false) (hN : fn.ntmps = N) (hA : Nat.ble args.length N = true) (hr : fn.results = #[.tmp r])
   (h : AW P N (keys L) c (RetXS (keys L) G (fun i => [(r, x i)]) L') (RetXQ (keys L) G (fun i => [(r, x i)]) L') ⟨args0 args 0, L⟩) : AX P f args L G x L' :=
 AX_of hf hb hn hN hA (fun i g a w R => ⟨_, results_tmp hr _ _ _, R.tmp r (x i) lk_cons_self⟩) h
end body

/-! ### A region in the order of its text -/
def AN (P : Program) (N : Nat) (ops : Array Oper) (Kn : St → Prop) (l : List Oper) (s : St) : Prop :=
 ∀ (K : List Nat) (Q : Exit → St → Prop) (g0 : Gh) (l0 : Locs) (w0 : World), MemR g0 l0 w0 → ∀ (g : Gh) (a : Act) (w : World), Rep N g s a w → Step K g0 l0 w0 g s.l w → wpList P ops (Ends N K g0 l0 w0 (NormR Kn Q)) l a w
section walk
variable {P : Program} {N : Nat} {ops : Array Oper} {Kn : St → Prop} {r : List Oper} {s s' : St} {c : Cert}
theorem AW_regionN {K : List Nat} {Q : Exit → St → Prop} {id : Nat} {l : List Oper} (h : AN P N l.toArray Kn l s) : AW P N K (.region id l.toArray false) Kn Q s := fun g a w r =>
 wp_region_lit (h K Q g s.l w r.mem g a w r (Step.refl ..))
theorem AN_nil (h : Kn s) : AN P N ops Kn [] s := fun K Q g0 l0 w0 m0 g a w r hs => ⟨g, s, r, hs, h⟩
theorem AN_cons {o : Oper} (h1 : OpG P N ops o c) (h2 : c.pre s) (h3 : AN P N ops Kn r (c.upd s)) : AN P N ops Kn (o :: r) s := fun K Q g0 l0 w0 m0 g a w R hs => by
 have h4 := h1 K g s a w h2 R
 unfold wpList
 split
 · rename_i hw
   rw [if_pos hw] at h4
   exact .inl (Oper.wp_weak (fun a' w' ⟨g', r', hs'⟩ => h3 K Q g0 l0 w0 m0 g' a' w' r' (hs.trans m0 R.mem hs')) h4)
 · rename_i hw
   rw [if_neg hw] at h4
   obtain ⟨g', r', hs'⟩ := h4
   exact h3 K Q g0 l0 w0 m0 g' _ w r' (hs.trans m0 R.mem hs')
theorem AN_p {dst : Option Nat} {op : Op} {ty : TypeId} {pos : String} {after : Array Edge} (h : Stp P N ⟨dst, op, ty, pos, after, none⟩ s s' c) (next : AN P N ops Kn r s') : AN P N ops Kn (⟨dst, op, ty, pos, after, none⟩ :: r) s :=
 AN_cons (OpG.plain rfl h.1) h.2.1 (by rw [h.2.2]; exact next)
theorem AN_g {dst : Option Nat} {op : Op} {ty : TypeId} {pos : String} {after : Array Edge} {j t : Nat} {b : Bool} (hj : gslot ops j = some t) (hb : lk s.t t = some (.one (.c (.bool b)))) (h : Stp P N ⟨dst, op, ty, pos, after, some (j, b)⟩ s s' c)
   (next : AN P N ops Kn r s') : AN P N ops Kn (⟨dst, op, ty, pos, after, some (j, b)⟩ :: r) s :=
 AN_cons (c := { c with rt := (t, .one (.c (.bool b))) :: c.rt }) (OpG.on rfl hj h.1) ⟨fun p hp => by
   rcases List.mem_cons.1 hp with rfl | hp
   · exact hb
   · exact h.2.1.1 p hp, h.2.1.2⟩ (by
   show AN P N ops Kn r (c.upd s)
   rw [h.2.2]; exact next)
theorem AN_b {d : Nat} {op : Op} {ty : TypeId} {pos : String} {after : Array Edge} {e : Bool} {rt : List (Nat × AVal)} {rl : List (Nat × Blk)} (h : Stp P N ⟨some d, op, ty, pos, after, none⟩ s ⟨(d, .one (.c (.bool e))) :: s.t, s.l⟩ ⟨rt, rl, [(d, .one (.c (.bool e)))], [], []⟩)
   (next : ∀ b, e = b → AN P N ops Kn r ⟨(d, .one (.c (.bool b))) :: s.t, s.l⟩) : AN P N ops Kn (⟨some d, op, ty, pos, after, none⟩ :: r) s :=
 AN_p h (next e rfl)
theorem AN_gb {d : Nat} {op : Op} {ty : TypeId} {pos : String} {after : Array Edge} {j t : Nat} {g : Bool} {e : Bool} {rt : List (Nat × AVal)} {rl : List (Nat × Blk)} (hj : gslot ops j = some t) (hb : lk s.t t = some (.one (.c (.bool g)))) (h : Stp P N ⟨some d, op, ty, pos, after, some (j, g)⟩ s ⟨(d, .one (.c (.bool e))) :: s.t, s.l⟩ ⟨rt, rl, [(d, .one (.c (.bool e)))], [], []⟩)
   (next : ∀ b, e = b → AN P N ops Kn r ⟨(d, .one (.c (.bool b))) :: s.t, s.l⟩) : AN P N ops Kn (⟨some d, op, ty, pos, after, some (j, g)⟩ :: r) s :=
 AN_g hj hb h (next e rfl)
/-- A call whose contract leaves open what it returns. -/
theorem AN_x {ι : Type} {G : ι → Prop} {res : ι → AVal} {L' : ι → Locs} {d : Nat} {fo : Operand} {f : FuncId} {ars : Array Operand} {ats : Array TypeId} {xs : List AVal} {L : Locs} {ty : TypeId} {pos : String} {after : Array Edge} (hN : Nat.blt d N = true)
   (hev : evo s.t fo = some (.one (.clo f []))) (hxs : evl s.t ars.toList = some xs) (hac : AX P f xs L G res L') (hfl : flats xs = true) (hLs : okL L = true) (hsc : ∀ i, closedIn (keys (L' i)) (L' i).ids = true) (hsr : ∀ i, closedIn (keys (L' i)) (res i).ids = true)
   (hsub : sub s.l L) (hnew : ∀ i, newOk s (newOf L (L' i)) = true) (next : ∀ i, G i → AN P N ops Kn r ⟨(d, res i) :: s.t, L' i ++ (goneL L ++ s.l)⟩) :
   AN P N ops Kn (⟨some d, .call { callee := .value fo, args := ars, argTypes := ats }, ty, pos, after, none⟩ :: r) s := fun K Q g0 l0 w0 m0 g a w R hst => by
 have hfe : a.eval fo = .func (.func f) #[] #[] := (eval_ok R (evs_of hev) (rdo_of hev) : VR g s.l w (a.eval fo) (.one (.clo f []))) fun k hk => by cases hk
 have hargs : All2 (VR1 g s.l w) ((ars.map a.eval) ++ #[]).toList xs := by
   rw [Array.append_empty, Array.toList_map]
   exact ((evl_ok hxs).2 R (evl_ok (N := N) hxs).1).vr1 hfl
 unfold wpList
 rw [if_pos (by simp [Region.wanted])]
 refine .inl ?_
 unfold Oper.wp
 rw [run_enter rfl hac.fn hfe, Oper.upon_enter]
 have mL := R.mem.sub hsub
 refine (hac.run g w _ mL (hargs.mono fun v x _ hr => VR1.step (fun _ _ => rfl) (fun _ h => h) (Nat.le_refl _) (fun k _ => okK.sub hsub k) hr)).mono ?_
 rintro e w' ⟨i, v, g', hG, rfl, m', hv, hs⟩
 have p3 := newOk_of (hnew i)
 have hnw : ∀ k ∈ newOf L (L' i), lk s.l k = none ∧ k ∉ s.l.ids := fun k hk => ⟨(p3 k hk).1, fun h => (p3 k hk).2 (List.mem_append_right _ h)⟩
 obtain ⟨c1, c2, c3, c4, c5⟩ := call_mem R.mem hsub m' hs (hsc i) hLs hnw K
 have hmm : ∀ b, g.I b → (g.mix g' (keys (L' i) ++ keys L)).I b := fun b hb => hs.imm b hb
 refine next i hG K Q g0 l0 w0 m0 _ _ w' ?_ (hst.trans m0 R.mem c2)
 exact R.next (blt_lt hN) c3 hmm hs.size (fun k hk => c4 k fun h => (p3 k h).2 hk) (VR.step (g := g') (l := L' i) (fun _ _ => rfl) (fun b hb => hb) (Nat.le_refl _) (fun k hk => c5 k (closedIn_get (hsr i) hk)) hv) c1
end walk
end Go.Proofs.Ytkemjhlbokldhaa

/- Texts that are drawn (printed by walk.py) -/
namespace Go.Proofs.Ytkemjhlbokldhaa
open Go.RowKit
set_option linter.unusedVariables false
set_option linter.unusedSimpArgs false
set_option maxRecDepth 100000

set_option maxHeartbeats 4000000 in
theorem classic_c (n : Int) (h0 : 0 ≤ n) (h8 : n < 8) : AC Try.prog 118 [.one (.c (.int .i64 (n)))] [] (.one (.c (.string (classics[n.toNat]'(by rw [classics_len]; omega))))) [] := by
 have hcl := classics_len
 refine AC_body1 Try.func118 rfl rfl Try.ntmps118 rfl Try.results118 ?_
 refine AW_seq ?_
 refine AW_region ?_
 refine AL_p (x_assign rfl rfl) ?_
 refine AL_nil ?_
 refine AW_seq ?_
 refine AW_region ?_
 refine AL_p (y_bslice_sl (E := 9) (e := strE) [.const (.string ⟨#[115, 116, 97, 116, 101, 32, 112, 111, 114, 116, 47, 50, 46, 10, 102, 111, 114, 119, 97, 114, 100, 40, 79, 41, 32, 58, 45, 32, 112, 97, 99, 107, 101, 116, 40, 83, 44, 32, 73, 44, 32, 65, 44, 32, 66, 41, 44, 32, 112, 111, 114, 116, 40, 83, 44, 32, 79, 41, 44, 32, 79, 32, 33, 61, 32, 73, 46, 10]⟩), .const (.string ⟨#[115, 116, 97, 116, 101, 32, 112, 111, 114, 116, 47, 50, 46, 10, 115, 116, 97, 116, 101, 32, 115, 101, 101, 110, 47, 51, 46, 10, 118, 105, 101, 119, 32, 107, 110, 111, 119, 110, 47, 50, 46, 10, 107, 110, 111, 119, 110, 40, 83, 44, 32, 65, 41, 32, 58, 45, 32, 115, 101, 101, 110, 40, 83, 44, 32, 65, 44, 32, 80, 41, 46, 10, 102, 111, 114, 119, 97, 114, 100, 40, 79, 41, 32, 58, 45, 32, 112, 97, 99, 107, 101, 116, 40, 83, 44, 32, 73, 44, 32, 65, 44, 32, 66, 41, 44, 32, 115, 101, 101, 110, 40, 83, 44, 32, 66, 44, 32, 79, 41, 46, 10, 102, 111, 114, 119, 97, 114, 100, 40, 79, 41, 32, 58, 45, 32, 112, 97, 99, 107, 101, 116, 40, 83, 44, 32, 73, 44, 32, 65, 44, 32, 66, 41, 44, 32, 110, 111, 116, 32, 107, 110, 111, 119, 110, 40, 83, 44, 32, 66, 41, 44, 32, 112, 111, 114, 116, 40, 83, 44, 32, 79, 41, 44, 32, 79, 32, 33, 61, 32, 73, 46, 10, 43, 115, 101, 101, 110, 40, 83, 44, 32, 65, 44, 32, 73, 41, 32, 58, 45, 32, 112, 97, 99, 107, 101, 116, 40, 83, 44, 32, 73, 44, 32, 65, 44, 32, 66, 41, 44, 32, 110, 111, 116, 32, 107, 110, 111, 119, 110, 40, 83, 44, 32, 65, 41, 46, 10]⟩), .const (.string ⟨#[115, 116, 97, 116, 101, 32, 112, 111, 114, 116, 47, 50, 46, 10, 115, 116, 97, 116, 101, 32, 100, 101, 110, 121, 47, 50, 46, 10, 101, 118, 101, 110, 116, 32, 98, 108, 111, 99, 107, 47, 50, 46, 10, 101, 118, 101, 110, 116, 32, 97, 108, 108, 111, 119, 47, 50, 46, 10, 43, 100, 101, 110, 121, 40, 65, 44, 32, 66, 41, 32, 58, 45, 32, 98, 108, 111, 99, 107, 40, 65, 44, 32, 66, 41, 46, 10, 45, 100, 101, 110, 121, 40, 65, 44, 32, 66, 41, 32, 58, 45, 32, 97, 108, 108, 111, 119, 40, 65, 44, 32, 66, 41, 46, 10, 102, 111, 114, 119, 97, 114, 100, 40, 79, 41, 32, 58, 45, 32, 112, 97, 99, 107, 101, 116, 40, 83, 44, 32, 73, 44, 32, 65, 44, 32, 66, 41, 44, 32, 110, 111, 116, 32, 100, 101, 110, 121, 40, 65, 44, 32, 66, 41, 44, 32, 112, 111, 114, 116, 40, 83, 44, 32, 79, 41, 44, 32, 79, 32, 33, 61, 32, 73, 46, 10]⟩), .const (.string ⟨#[115, 116, 97, 116, 101, 32, 108, 105, 110, 107, 47, 51, 46, 10, 115, 116, 97, 116, 101, 32, 104, 111, 115, 116, 47, 51, 46, 10, 101, 118, 101, 110, 116, 32, 117, 112, 47, 51, 46, 10, 101, 118, 101, 110, 116, 32, 100, 111, 119, 110, 47, 51, 46, 10, 101, 118, 101, 110, 116, 32, 106, 111, 105, 110, 47, 51, 46, 10, 118, 105, 101, 119, 32, 112, 97, 116, 104, 47, 50, 46, 10, 118, 105, 101, 119, 32, 118, 105, 97, 47, 51, 46, 10, 112, 97, 116, 104, 40, 83, 44, 32, 84, 41, 32, 58, 45, 32, 108, 105, 110, 107, 40, 83, 44, 32, 80, 44, 32, 84, 41, 46, 10, 112, 97, 116, 104, 40, 83, 44, 32, 84, 41, 32, 58, 45, 32, 108, 105, 110, 107, 40, 83, 44, 32, 80, 44, 32, 85, 41, 44, 32, 112, 97, 116, 104, 40, 85, 44, 32, 84, 41, 46, 10, 118, 105, 97, 40, 83, 44, 32, 80, 44, 32, 65, 41, 32, 58, 45, 32, 104, 111, 115, 116, 40, 83, 44, 32, 80, 44, 32, 65, 41, 46, 10, 118, 105, 97, 40, 83, 44, 32, 80, 44, 32, 65, 41, 32, 58, 45, 32, 108, 105, 110, 107, 40, 83, 44, 32, 80, 44, 32, 84, 41, 44, 32, 118, 105, 97, 40, 84, 44, 32, 81, 44, 32, 65, 41, 44, 32, 110, 111, 116, 32, 110, 101, 97, 114, 40, 83, 44, 32, 65, 41, 46, 10, 118, 105, 101, 119, 32, 110, 101, 97, 114, 47, 50, 46, 10, 110, 101, 97, 114, 40, 83, 44, 32, 65, 41, 32, 58, 45, 32, 104, 111, 115, 116, 40, 83, 44, 32, 80, 44, 32, 65, 41, 46, 10, 102, 111, 114, 119, 97, 114, 100, 40, 80, 41, 32, 58, 45, 32, 112, 97, 99, 107, 101, 116, 40, 83, 44, 32, 73, 44, 32, 65, 44, 32, 66, 41, 44, 32, 118, 105, 97, 40, 83, 44, 32, 80, 44, 32, 66, 41, 46, 10, 43, 108, 105, 110, 107, 40, 83, 44, 32, 80, 44, 32, 84, 41, 32, 58, 45, 32, 117, 112, 40, 83, 44, 32, 80, 44, 32, 84, 41, 46, 10, 45, 108, 105, 110, 107, 40, 83, 44, 32, 80, 44, 32, 84, 41, 32, 58, 45, 32, 100, 111, 119, 110, 40, 83, 44, 32, 80, 44, 32, 84, 41, 46, 10, 43, 104, 111, 115, 116, 40, 83, 44, 32, 80, 44, 32, 65, 41, 32, 58, 45, 32, 106, 111, 105, 110, 40, 83, 44, 32, 80, 44, 32, 65, 41, 46, 10]⟩), .const (.string ⟨#[115, 116, 97, 116, 101, 32, 109, 111, 100, 101, 47, 49, 46, 10, 101, 118, 101, 110, 116, 32, 115, 101, 116, 47, 49, 46, 10, 43, 109, 111, 100, 101, 40, 77, 41, 32, 58, 45, 32, 115, 101, 116, 40, 77, 41, 46, 10, 45, 109, 111, 100, 101, 40, 78, 41, 32, 58, 45, 32, 115, 101, 116, 40, 77, 41, 44, 32, 109, 111, 100, 101, 40, 78, 41, 44, 32, 78, 32, 33, 61, 32, 77, 46, 10, 102, 111, 114, 119, 97, 114, 100, 40, 49, 41, 32, 58, 45, 32, 112, 97, 99, 107, 101, 116, 40, 83, 44, 32, 73, 44, 32, 65, 44, 32, 66, 41, 44, 32, 109, 111, 100, 101, 40, 111, 110, 41, 44, 32, 73, 32, 33, 61, 32, 49, 46, 10, 102, 111, 114, 119, 97, 114, 100, 40, 50, 41, 32, 58, 45, 32, 112, 97, 99, 107, 101, 116, 40, 83, 44, 32, 73, 44, 32, 65, 44, 32, 66, 41, 44, 32, 110, 111, 116, 32, 109, 111, 100, 101, 40, 111, 110, 41, 44, 32, 66, 32, 33, 61, 32, 55, 46, 10]⟩), .const (.string ⟨#[115, 116, 97, 116, 101, 32, 112, 111, 114, 116, 47, 50, 46, 10, 102, 111, 114, 119, 97, 114, 100, 40, 79, 41, 32, 58, 45, 32, 112, 97, 99, 107, 101, 116, 40, 83, 44, 32, 73, 44, 32, 65, 44, 32, 65, 41, 44, 32, 112, 111, 114, 116, 40, 83, 44, 32, 79, 41, 46, 10, 102, 111, 114, 119, 97, 114, 100, 40, 79, 41, 32, 58, 45, 32, 112, 97, 99, 107, 101, 116, 40, 83, 44, 32, 73, 44, 32, 65, 44, 32, 66, 41, 44, 32, 65, 32, 60, 32, 66, 44, 32, 112, 111, 114, 116, 40, 83, 44, 32, 79, 41, 46, 10]⟩), .const (.string ⟨#[115, 116, 97, 116, 101, 32, 97, 47, 49, 46, 10, 115, 116, 97, 116, 101, 32, 98, 47, 49, 46, 10, 101, 118, 101, 110, 116, 32, 116, 105, 99, 107, 47, 48, 46, 10, 118, 105, 101, 119, 32, 99, 47, 49, 46, 10, 118, 105, 101, 119, 32, 100, 47, 49, 46, 10, 99, 40, 88, 41, 32, 58, 45, 32, 97, 40, 88, 41, 44, 32, 110, 111, 116, 32, 98, 40, 88, 41, 46, 10, 100, 40, 88, 41, 32, 58, 45, 32, 97, 40, 88, 41, 44, 32, 110, 111, 116, 32, 99, 40, 88, 41, 44, 32, 88, 32, 60, 61, 32, 51, 46, 10, 43, 98, 40, 88, 41, 32, 58, 45, 32, 116, 105, 99, 107, 40, 41, 44, 32, 99, 40, 88, 41, 46, 10, 45, 98, 40, 88, 41, 32, 58, 45, 32, 116, 105, 99, 107, 40, 41, 44, 32, 100, 40, 88, 41, 46, 10, 102, 111, 114, 119, 97, 114, 100, 40, 88, 41, 32, 58, 45, 32, 112, 97, 99, 107, 101, 116, 40, 83, 44, 32, 73, 44, 32, 65, 44, 32, 66, 41, 44, 32, 99, 40, 88, 41, 46, 10]⟩), .const (.string ⟨#[115, 116, 97, 116, 101, 32, 97, 47, 50, 46, 10, 115, 116, 97, 116, 101, 32, 98, 47, 48, 46, 10, 101, 118, 101, 110, 116, 32, 101, 47, 49, 46, 10, 118, 105, 101, 119, 32, 99, 47, 50, 46, 10, 99, 40, 88, 44, 32, 89, 41, 32, 58, 45, 32, 97, 40, 88, 44, 32, 89, 41, 46, 10, 99, 40, 88, 44, 32, 89, 41, 32, 58, 45, 32, 99, 40, 88, 44, 32, 90, 41, 44, 32, 99, 40, 90, 44, 32, 89, 41, 46, 10, 43, 97, 40, 88, 44, 32, 89, 41, 32, 58, 45, 32, 101, 40, 88, 41, 44, 32, 89, 32, 61, 32, 50, 46, 10, 45, 97, 40, 88, 44, 32, 88, 41, 32, 58, 45, 32, 101, 40, 88, 41, 46, 10, 43, 98, 40, 41, 32, 58, 45, 32, 112, 97, 99, 107, 101, 116, 40, 49, 44, 32, 73, 44, 32, 65, 44, 32, 53, 41, 44, 32, 110, 111, 116, 32, 98, 40, 41, 46, 10, 102, 111, 114, 119, 97, 114, 100, 40, 51, 41, 32, 58, 45, 32, 112, 97, 99, 107, 101, 116, 40, 83, 44, 32, 49, 44, 32, 65, 44, 32, 66, 41, 44, 32, 98, 40, 41, 44, 32, 65, 32, 61, 32, 52, 46, 10]⟩)] (classics) rfl rfl rfl rfl rfl rfl rfl rfl FitL.rf rfl rfl rfl (by kernel_rfl)) ?_
 refine AL_p (x_assign rfl rfl) ?_
 refine AL_nil ?_
 refine AW_seq ?_
 refine AW_region ?_
 refine AL_p (x_move rfl rfl) ?_
 refine AL_p (x_move rfl rfl) ?_
 refine AL_p (x_move rfl rfl) ?_
 refine AL_p (x_len (E := 9) (n := 1) rfl rfl (by kernel_rfl)) ?_
 refine AL_p (x_rem rfl rfl rfl (by omega) rfl (WalkArith.wf_i64 (by rw [Int.tmod_eq_emod_of_nonneg h0]; rw [hcl]; omega))) ?_
 refine AL_p (x_index (E := 9) (n := 1) rfl rfl rfl (by kernel_rfl) rfl (k := n.toNat) (by rw [hcl]; show _ = _; rw [Int.tmod_eq_emod_of_nonneg h0]; omega) (by omega)) ?_
 refine AL_p (x_eload1 rfl rfl (by kernel_rfl) rfl) ?_
 refine AL_p (x_assign rfl rfl) ?_
 refine AL_nil ?_
 refine AW_ret ?_
 exact ⟨rn [], ⟨⟨⟨_, rfl, vle_str (rfl)⟩, trivial⟩, trivial, trivial, rfl⟩⟩

set_option maxHeartbeats 4000000 in
theorem turn_x (b : List Int) (c : Cur) (hb : b.length ≤ 1048576) (s : ByteArray) (hs : s.size ≤ 100000) : AX Try.prog 119 [.one (.ptr 200 0), .one (.c (.string (s)))] [(200, some (curB b c))] (ι := ByteArray × Cur) (fun i => i.1.size ≤ s.size + 20) (fun i => .one (.c (.string (i.1)))) (fun i => [(200, some (curB b i.2))]) := by
 refine AX_body1 (x := fun (i : ByteArray × Cur) => .one (.c (.string (i.1)))) (L' := fun (i : ByteArray × Cur) => [(200, some (curB b i.2))]) Try.func119 rfl rfl Try.ntmps119 rfl Try.results119 ?_
 refine AW_seq ?_
 refine AW_regionN ?_
 refine AN_p (x_assign rfl rfl) ?_
 refine AN_nil ?_
 refine AW_seq ?_
 refine AW_seq ?_
 refine AW_regionN ?_
 refine AN_p (x_move rfl rfl) ?_
 refine AN_p (x_lens rfl rfl (by kernel_rfl)) ?_
 refine AN_b (x_eql rfl rfl rfl) (fun b10 h10 => ?_)
 refine AN_nil ?_
 cases b10
 rotate_left
 · try simp only [tdy] at h10
   refine AW_condT rfl ?_
   refine AW_seq ?_
   refine AW_regionN ?_
   refine AN_p (x_assign rfl rfl) ?_
   refine AN_nil ?_
   refine AW_ret ?_
   refine ⟨⟨_, _⟩, ?_, rn [], by exact ⟨⟨⟨_, rfl, VLe.rf⟩, trivial⟩, ⟨⟨_, rfl, BLe.rf⟩, trivial⟩, by repeat (first | exact trivial | refine ⟨⟨rfl, by first | (left; intro h; cases h) | (right; rfl), by first | exact (fun _ h => ⟨_, h⟩) | exact (fun _ _ => ⟨_, rfl⟩) | (intro _ h; cases h)⟩, ?_⟩), rfl⟩⟩
   first | (show (1 : Nat) ≤ _; omega) | (dsimp only; simp only [size_app, ByteArray.size_extract]; omega) | (simp only [size_app, ByteArray.size_extract]; omega) | exact Nat.le_trans ext_le (Nat.le_add_right _ _)
 try simp only [tdy] at h10
 refine AW_condF rfl ?_
 refine AW_skip ?_
 refine AW_seq ?_
 refine AW_regionN ?_
 refine AN_p (x_move rfl rfl) ?_
 refine AN_p (x_move rfl rfl) ?_
 refine AN_p (x_lens rfl rfl (by kernel_rfl)) ?_
 have d14 := dBelow_lt b c (n := (s.size : Int)) (by omega)
 refine AN_p (x_call (ks := []) (L := [(200, some _)]) (L' := [(200, some _)]) rfl rfl rfl (below_c b c hb (s.size : Int)) rfl AllV.rf (caught_of rfl) rfl rfl rfl ⟨rfl, trivial⟩ rfl) ?_
 refine AN_p (x_assign rfl rfl) ?_
 refine AN_nil ?_
 refine AW_seq ?_
 refine AW_regionN ?_
 refine AN_p (x_move rfl rfl) ?_
 have d16 := dBelow_lt b (dBelow b c (s.size : Int)).2 (n := 4) (by decide)
 refine AN_p (x_call (ks := []) (L := [(200, some _)]) (L' := [(200, some _)]) rfl rfl rfl (below_c b (dBelow b c (s.size : Int)).2 hb 4) rfl AllV.rf (caught_of rfl) rfl rfl rfl ⟨rfl, trivial⟩ rfl) ?_
 refine AN_p (x_assign rfl rfl) ?_
 refine AN_nil ?_
 refine AW_seq ?_
 refine AW_seq ?_
 refine AW_regionN ?_
 refine AN_p (x_move rfl rfl) ?_
 refine AN_b (x_eql rfl rfl rfl) (fun b18 h18 => ?_)
 refine AN_nil ?_
 cases b18
 rotate_left
 · try simp only [tdy] at h18
   refine AW_condT rfl ?_
   refine AW_seq ?_
   refine AW_draw rfl ?_
   refine AL_p (x_move rfl rfl) ?_
   refine AL_p (x_move rfl rfl) ?_
   refine AL_p (x_sslice rfl rfl (by kernel_rfl) .no (.yes (l := (dBelow b c (s.size : Int)).1.toNat) rfl (by omega)) (by omega) (by first | exact Nat.le_refl _ | omega) rfl) ?_
   refine AL_p (x_move rfl rfl) ?_
   refine AL_p (x_move rfl rfl) ?_
   refine AL_p (x_add rfl rfl rfl (IntWalk.i64_in _ (by omega))) ?_
   refine AL_p (x_sslice rfl rfl (by kernel_rfl) (.yes (l := ((dBelow b c (s.size : Int)).1.toNat + 1)) rfl (by omega)) .no (by omega) (by first | exact Nat.le_refl _ | omega) rfl) ?_
   refine AL_p (x_sadd rfl rfl rfl (by first | omega | (simp only [size_app, ByteArray.size_extract]; omega) | (show _ + 1 ≤ _; omega))) ?_
   refine AL_p (x_assign rfl rfl) ?_
   refine AL_nild (by kernel_rfl) ?_
   refine AW_ret ?_
   refine ⟨⟨_, _⟩, ?_, rn [], by exact ⟨⟨⟨_, rfl, VLe.rf⟩, trivial⟩, ⟨⟨_, rfl, BLe.rf⟩, trivial⟩, by repeat (first | exact trivial | refine ⟨⟨rfl, by first | (left; intro h; cases h) | (right; rfl), by first | exact (fun _ h => ⟨_, h⟩) | exact (fun _ _ => ⟨_, rfl⟩) | (intro _ h; cases h)⟩, ?_⟩), rfl⟩⟩
   first | (show (1 : Nat) ≤ _; omega) | (dsimp only; simp only [size_app, ByteArray.size_extract]; omega) | (simp only [size_app, ByteArray.size_extract]; omega) | exact Nat.le_trans ext_le (Nat.le_add_right _ _)
 try simp only [tdy] at h18
 refine AW_condF rfl ?_
 refine AW_skip ?_
 refine AW_seq ?_
 refine AW_seq ?_
 refine AW_regionN ?_
 refine AN_p (x_move rfl rfl) ?_
 refine AN_b (x_eql rfl rfl rfl) (fun b28 h28 => ?_)
 refine AN_nil ?_
 cases b28
 rotate_left
 · try simp only [tdy] at h28
   refine AW_condT rfl ?_
   refine AW_seq ?_
   refine AW_regionN ?_
   refine AN_p (x_move rfl rfl) ?_
   refine AN_p (x_move rfl rfl) ?_
   refine AN_p (x_sslice rfl rfl (by kernel_rfl) .no (.yes (l := (dBelow b c (s.size : Int)).1.toNat) rfl (by omega)) (by omega) (by first | exact Nat.le_refl _ | omega) rfl) ?_
   refine AN_p (x_assign rfl rfl) ?_
   refine AN_nil ?_
   refine AW_ret ?_
   refine ⟨⟨_, _⟩, ?_, rn [], by exact ⟨⟨⟨_, rfl, VLe.rf⟩, trivial⟩, ⟨⟨_, rfl, BLe.rf⟩, trivial⟩, by repeat (first | exact trivial | refine ⟨⟨rfl, by first | (left; intro h; cases h) | (right; rfl), by first | exact (fun _ h => ⟨_, h⟩) | exact (fun _ _ => ⟨_, rfl⟩) | (intro _ h; cases h)⟩, ?_⟩), rfl⟩⟩
   first | (show (1 : Nat) ≤ _; omega) | (dsimp only; simp only [size_app, ByteArray.size_extract]; omega) | (simp only [size_app, ByteArray.size_extract]; omega) | exact Nat.le_trans ext_le (Nat.le_add_right _ _)
 try simp only [tdy] at h28
 refine AW_condF rfl ?_
 refine AW_skip ?_
 refine AW_seq ?_
 refine AW_regionN ?_
 refine AN_p (y_bslice_sl (E := 9) (e := strE) [.const (.string ⟨#[32]⟩), .const (.string ⟨#[35]⟩), .const (.string ⟨#[110, 111, 116, 32]⟩), .const (.string ⟨#[40]⟩), .const (.string ⟨#[41]⟩), .const (.string ⟨#[44]⟩), .const (.string ⟨#[46]⟩), .const (.string ⟨#[58, 45]⟩), .const (.string ⟨#[88]⟩), .const (.string ⟨#[97, 98, 99]⟩), .const (.string ⟨#[48]⟩), .const (.string ⟨#[48, 49]⟩), .const (.string ⟨#[33, 61]⟩), .const (.string ⟨#[61]⟩), .const (.string ⟨#[60]⟩), .const (.string ⟨#[60, 61]⟩), .const (.string ⟨#[43]⟩), .const (.string ⟨#[45]⟩), .const (.string ⟨#[47]⟩), .const (.string ⟨#[10]⟩), .const (.string ⟨#[63]⟩), .const (.string ⟨#[65, 66, 67, 68, 69, 70, 71, 72, 73, 74, 75, 76, 77]⟩), .const (.string ⟨#[97, 98, 99, 100, 101, 102, 103, 104, 105, 106, 107, 108, 109]⟩), .const (.string ⟨#[50, 56, 49, 52, 55, 52, 57, 55, 54, 55, 49, 48, 54, 53, 54]⟩), .const (.string ⟨#[57, 97]⟩), .const (.string ⟨#[115, 116, 97, 116, 101, 32]⟩), .const (.string ⟨#[112, 97, 99, 107, 101, 116]⟩), .const (.string ⟨#[102, 111, 114, 119, 97, 114, 100]⟩), .const (.string ⟨#[195, 169]⟩)] (odds) rfl rfl rfl rfl rfl rfl rfl rfl FitL.rf rfl rfl rfl (by kernel_rfl)) ?_
 refine AN_p (x_assign rfl rfl) ?_
 refine AN_nil ?_
 refine AW_seq ?_
 refine AW_draw rfl ?_
 refine AL_p (x_move rfl rfl) ?_
 refine AL_p (x_move rfl rfl) ?_
 refine AL_p (x_sslice rfl rfl (by kernel_rfl) .no (.yes (l := (dBelow b c (s.size : Int)).1.toNat) rfl (by omega)) (by omega) (by first | exact Nat.le_refl _ | omega) rfl) ?_
 refine AL_p (x_move rfl rfl) ?_
 refine AL_p (x_move rfl rfl) ?_
 refine AL_p (x_move rfl rfl) ?_
 refine AL_p (x_len (E := 9) (n := 1) rfl rfl (by kernel_rfl)) ?_
 have d40 := dBelow_lt b (dBelow b (dBelow b c (s.size : Int)).2 4).2 (n := 29) (by decide)
 refine AL_p (x_call (ks := []) (L := [(200, some _)]) (L' := [(200, some _)]) rfl rfl rfl (below_c b (dBelow b (dBelow b c (s.size : Int)).2 4).2 hb 29) rfl AllV.rf (caught_of rfl) rfl rfl rfl ⟨rfl, trivial⟩ rfl) ?_
 refine AL_p (x_index (E := 9) (n := 1) rfl rfl rfl (by kernel_rfl) rfl (k := (dBelow b (dBelow b (dBelow b c (s.size : Int)).2 4).2 29).1.toNat) (by omega) (by rw [odds_len]; omega)) ?_
 refine AL_p (x_eload1 rfl rfl (by kernel_rfl) rfl) ?_
 refine AL_p (x_sadd rfl rfl rfl (by have := odds_le (k := (dBelow b (dBelow b (dBelow b c (s.size : Int)).2 4).2 29).1.toNat) (by rw [odds_len]; omega); first | omega | (simp only [ByteArray.size_extract]; omega))) ?_
 refine AL_p (x_move rfl rfl) ?_
 refine AL_p (x_move rfl rfl) ?_
 refine AL_p (x_sslice rfl rfl (by kernel_rfl) (.yes (l := (dBelow b c (s.size : Int)).1.toNat) rfl (by omega)) .no (by omega) (by first | exact Nat.le_refl _ | omega) rfl) ?_
 refine AL_p (x_sadd rfl rfl rfl (by have := odds_le (k := (dBelow b (dBelow b (dBelow b c (s.size : Int)).2 4).2 29).1.toNat) (by rw [odds_len]; omega); first | omega | (simp only [size_app, ByteArray.size_extract]; omega))) ?_
 refine AL_p (x_assign rfl rfl) ?_
 refine AL_nild (by kernel_rfl) ?_
 refine AW_ret ?_
 refine ⟨⟨_, _⟩, ?_, rn [], by exact ⟨⟨⟨_, rfl, VLe.rf⟩, trivial⟩, ⟨⟨_, rfl, BLe.rf⟩, trivial⟩, by repeat (first | exact trivial | refine ⟨⟨rfl, by first | (left; intro h; cases h) | (right; rfl), by first | exact (fun _ h => ⟨_, h⟩) | exact (fun _ _ => ⟨_, rfl⟩) | (intro _ h; cases h)⟩, ?_⟩), rfl⟩⟩
 have := odds_le (k := (dBelow b (dBelow b (dBelow b c (s.size : Int)).2 4).2 29).1.toNat) (by rw [odds_len]; omega)
 first | (show (1 : Nat) ≤ _; omega) | (dsimp only; simp only [size_app, ByteArray.size_extract]; omega) | (simp only [size_app, ByteArray.size_extract]; omega) | exact Nat.le_trans ext_le (Nat.le_add_right _ _)

set_option maxHeartbeats 4000000 in
theorem text_x (b : List Int) (c : Cur) (hb : b.length ≤ 1048576) : AX Try.prog 74 [.one (.ptr 200 0)] [(200, some (curB b c))] (ι := ByteArray × Cur) (fun i => i.1.size ≤ 7000) (fun i => .one (.c (.string (i.1)))) (fun i => [(200, some (curB b i.2))]) := by
 refine AX_body1 (x := fun (i : ByteArray × Cur) => .one (.c (.string (i.1)))) (L' := fun (i : ByteArray × Cur) => [(200, some (curB b i.2))]) Try.func74 rfl rfl Try.ntmps74 rfl Try.results74 ?_
 refine AW_seq ?_
 refine AW_regionN ?_
 refine AN_p (x_assign rfl rfl) ?_
 refine AN_nil ?_
 refine AW_seq ?_
 refine AW_regionN ?_
 refine AN_p (x_move rfl rfl) ?_
 have d6 := dBelow_lt b c (n := 8) (by decide)
 refine AN_p (x_call (ks := []) (L := [(200, some _)]) (L' := [(200, some _)]) rfl rfl rfl (below_c b c hb 8) rfl AllV.rf (caught_of rfl) rfl rfl rfl ⟨rfl, trivial⟩ rfl) ?_
 refine AN_p (x_call0 rfl rfl rfl (classic_c (dBelow b c 8).1 (by omega) (by omega)) rfl rfl) ?_
 refine AN_p (x_assign rfl rfl) ?_
 refine AN_nil ?_
 refine AW_seq ?_
 refine AW_seq ?_
 refine AW_regionN ?_
 refine AN_p (x_move rfl rfl) ?_
 have d9 := dBelow_lt b (dBelow b c 8).2 (n := 3) (by decide)
 refine AN_p (x_call (ks := []) (L := [(200, some _)]) (L' := [(200, some _)]) rfl rfl rfl (below_c b (dBelow b c 8).2 hb 3) rfl AllV.rf (caught_of rfl) rfl rfl rfl ⟨rfl, trivial⟩ rfl) ?_
 refine AN_p (x_assign rfl rfl) ?_
 refine AN_nil ?_
 refine AW_block ?_
 refine AW_loop2 (ι := {q : Int × ByteArray × Cur // 0 ≤ (q.1) ∧ ((q.2.1).size : Int) + 20 * (q.1) ≤ 800}) (fun p => [(3, .one (.c (.string ((p.1.2.1))))), (4, .one (.c (.int .i64 ((p.1.1)))))]) (fun p => [(200, some (curB b (p.1.2.2)))]) [0] [] (fun p => (p.1.1).toNat) ⟨⟨(dBelow b (dBelow b c 8).2 3).1, (classics[(dBelow b c 8).1.toNat]'(by rw [classics_len]; omega)), (dBelow b (dBelow b c 8).2 3).2⟩, by have := classics_le (k := (dBelow b c 8).1.toNat) (by rw [classics_len]; omega); dsimp only; omega⟩ (rn []) ?_ ?_
 exact ⟨by (repeat refine ⟨⟨_, rfl, by first | exact VLe.rf | exact vle_int (by dsimp only; omega)⟩, ?_⟩); exact trivial, by (repeat refine ⟨⟨_, rfl, by first | exact BLe.rf | exact BLe.box AllC.rf | exact BLe.arr (by exact rfl)⟩, ?_⟩); exact trivial, by repeat (first | exact trivial | refine ⟨⟨rfl, by first | (left; intro h; cases h) | (right; rfl), by first | exact (fun _ h => ⟨_, h⟩) | exact (fun _ _ => ⟨_, rfl⟩) | (intro _ h; cases h)⟩, ?_⟩), rfl⟩
 rintro ⟨⟨n, s, cc⟩, hinv⟩
 dsimp only
 obtain ⟨hn, hsz⟩ := hinv
 have hn : 0 ≤ n := hn
 have hsz : (s.size : Int) + 20 * n ≤ 800 := hsz
 refine AW_seq ?_
 refine AW_seq ?_
 refine AW_regionN ?_
 refine AN_p (x_move rfl rfl) ?_
 refine AN_b (x_gtr rfl rfl rfl) (fun b11 h11 => ?_)
 refine AN_nil ?_
 cases b11
 rotate_left
 · try simp only [tdy] at h11
   refine AW_condT rfl ?_
   refine AW_skip ?_
   refine AW_seq ?_
   refine AW_block ?_
   refine AW_regionN ?_
   refine AN_p (x_move rfl rfl) ?_
   refine AN_p (x_move rfl rfl) ?_
   refine AN_x (L := [(200, some (curB b cc))]) rfl rfl rfl (turn_x b cc hb s (by omega)) rfl rfl (fun _ => rfl) (fun _ => rfl) ⟨rfl, trivial⟩ (fun _ => rfl) ?_
   rintro ⟨y16, c16⟩ g16
   try dsimp only at g16
   try dsimp only
   refine AN_p (x_assign rfl rfl) ?_
   refine AN_nil ?_
   refine AW_regionN ?_
   refine AN_p (x_move rfl rfl) ?_
   refine AN_p (x_sub rfl rfl rfl (IntWalk.i64_in _ (by omega))) ?_
   refine AN_p (x_assign rfl rfl) ?_
   refine AN_nil ?_
   refine ⟨⟨⟨_, _, _⟩, ?_⟩, rn [], by exact ⟨by (repeat refine ⟨⟨_, rfl, by first | exact VLe.rf | exact vle_int (by dsimp only; omega)⟩, ?_⟩); exact trivial, by (repeat refine ⟨⟨_, rfl, by first | exact BLe.rf | exact BLe.box AllC.rf | exact BLe.arr (by exact rfl)⟩, ?_⟩); exact trivial, by repeat (first | exact trivial | refine ⟨⟨rfl, by first | (left; intro h; cases h) | (right; rfl), by first | exact (fun _ h => ⟨_, h⟩) | exact (fun _ _ => ⟨_, rfl⟩) | (intro _ h; cases h)⟩, ?_⟩), rfl⟩, by dsimp only; omega⟩
   dsimp only at g16 ⊢; omega
 try simp only [tdy] at h11
 refine AW_condF rfl ?_
 refine AW_exit (BQ_hit ?_)
 refine AW_seq ?_
 refine AW_seq ?_
 refine AW_regionN ?_
 refine AN_p (x_move rfl rfl) ?_
 have d18 := dBelow_lt b cc (n := 40) (by decide)
 refine AN_p (x_call (ks := []) (L := [(200, some _)]) (L' := [(200, some _)]) rfl rfl rfl (below_c b cc hb 40) rfl AllV.rf (caught_of rfl) rfl rfl rfl ⟨rfl, trivial⟩ rfl) ?_
 refine AN_b (x_eql rfl rfl rfl) (fun b19 h19 => ?_)
 refine AN_nil ?_
 cases b19
 · try simp only [tdy] at h19
   refine AW_condF rfl ?_
   refine AW_skip ?_
   refine AW_seq ?_
   refine AW_regionN ?_
   refine AN_p (x_move rfl rfl) ?_
   refine AN_p (x_assign rfl rfl) ?_
   refine AN_nil ?_
   refine AW_ret ?_
   refine ⟨⟨_, _⟩, ?_, rn [], by exact ⟨⟨⟨_, rfl, VLe.rf⟩, trivial⟩, ⟨⟨_, rfl, BLe.rf⟩, trivial⟩, by repeat (first | exact trivial | refine ⟨⟨rfl, by first | (left; intro h; cases h) | (right; rfl), by first | exact (fun _ h => ⟨_, h⟩) | exact (fun _ _ => ⟨_, rfl⟩) | (intro _ h; cases h)⟩, ?_⟩), rfl⟩⟩
   dsimp only; omega
 try simp only [tdy] at h19
 refine AW_condT rfl ?_
 refine AW_block ?_
 refine AW_loop2 (ι := {q : ByteArray × Cur // (q.1).size ≤ 6001}) (fun p => [(3, .one (.c (.string ((p.1.1)))))]) (fun p => [(200, some (curB b (p.1.2)))]) [0] [] (fun p => 6002 - (p.1.1).size) ⟨⟨s, (dBelow b cc 40).2⟩, by dsimp only; omega⟩ (rn []) ?_ ?_
 exact ⟨by (repeat refine ⟨⟨_, rfl, by first | exact VLe.rf | exact vle_int (by dsimp only; omega)⟩, ?_⟩); exact trivial, by (repeat refine ⟨⟨_, rfl, by first | exact BLe.rf | exact BLe.box AllC.rf | exact BLe.arr (by exact rfl)⟩, ?_⟩); exact trivial, by repeat (first | exact trivial | refine ⟨⟨rfl, by first | (left; intro h; cases h) | (right; rfl), by first | exact (fun _ h => ⟨_, h⟩) | exact (fun _ _ => ⟨_, rfl⟩) | (intro _ h; cases h)⟩, ?_⟩), rfl⟩
 rintro ⟨⟨s, cc⟩, hinv⟩
 dsimp only
 have hsz2 : s.size ≤ 6001 := hinv
 refine AW_seq ?_
 refine AW_seq ?_
 refine AW_regionN ?_
 refine AN_p (x_move rfl rfl) ?_
 refine AN_p (x_lens rfl rfl (by kernel_rfl)) ?_
 refine AN_p (x_move rfl rfl) ?_
 have d23 := dBelow_lt b cc (n := 3) (by decide)
 refine AN_p (x_call (ks := []) (L := [(200, some _)]) (L' := [(200, some _)]) rfl rfl rfl (below_c b cc hb 3) rfl AllV.rf (caught_of rfl) rfl rfl rfl ⟨rfl, trivial⟩ rfl) ?_
 refine AN_p (x_add rfl rfl rfl (IntWalk.i64_in _ (by omega))) ?_
 refine AN_b (x_lss rfl rfl rfl) (fun b25 h25 => ?_)
 refine AN_nil ?_
 cases b25
 · try simp only [tdy] at h25
   refine AW_condF rfl ?_
   refine AW_exit (BQ_hit ?_)
   refine AW_seq ?_
   refine AW_regionN ?_
   refine AN_p (x_move rfl rfl) ?_
   refine AN_p (x_assign rfl rfl) ?_
   refine AN_nil ?_
   refine AW_ret ?_
   refine ⟨⟨_, _⟩, ?_, rn [], by exact ⟨⟨⟨_, rfl, VLe.rf⟩, trivial⟩, ⟨⟨_, rfl, BLe.rf⟩, trivial⟩, by repeat (first | exact trivial | refine ⟨⟨rfl, by first | (left; intro h; cases h) | (right; rfl), by first | exact (fun _ h => ⟨_, h⟩) | exact (fun _ _ => ⟨_, rfl⟩) | (intro _ h; cases h)⟩, ?_⟩), rfl⟩⟩
   dsimp only; omega
 try simp only [tdy] at h25
 refine AW_condT rfl ?_
 refine AW_skip ?_
 refine AW_block ?_
 refine AW_regionN ?_
 refine AN_p (x_move rfl rfl) ?_
 refine AN_p (x_sadd rfl rfl rfl (by first | omega | (simp only [size_app, ByteArray.size_extract]; omega) | (show _ + 1 ≤ _; omega))) ?_
 refine AN_p (x_assign rfl rfl) ?_
 refine AN_nil ?_
 refine ⟨⟨⟨_, _⟩, ?_⟩, rn [], by exact ⟨by (repeat refine ⟨⟨_, rfl, by first | exact VLe.rf | exact vle_int (by dsimp only; omega)⟩, ?_⟩); exact trivial, by (repeat refine ⟨⟨_, rfl, by first | exact BLe.rf | exact BLe.box AllC.rf | exact BLe.arr (by exact rfl)⟩, ?_⟩); exact trivial, by repeat (first | exact trivial | refine ⟨⟨rfl, by first | (left; intro h; cases h) | (right; rfl), by first | exact (fun _ h => ⟨_, h⟩) | exact (fun _ _ => ⟨_, rfl⟩) | (intro _ h; cases h)⟩, ?_⟩), rfl⟩, by dsimp only; rw [size_app]; show 6002 - (s.size + 1) < _; omega⟩
 dsimp only
 rw [size_app]
 show s.size + 1 ≤ _
 omega
end Go.Proofs.Ytkemjhlbokldhaa

/- The texts of FnReprint (printed by walk.py) -/
namespace Go.Proofs.Ytkemjhlbokldhaa
open Go.RowKit
set_option linter.unusedVariables false
set_option linter.unusedSimpArgs false
set_option maxRecDepth 100000

set_option maxHeartbeats 4000000 in
theorem drawParse_x (b : List Int) (hb : b.length ≤ 1048576) : AX Try.prog 26 [.one (.sl (intE .u8) b)] [] (ι := ByteArray) (fun i => i.size ≤ 8000) (fun i => .one (.c (.string (i)))) (fun i => []) := by
 have z0 : (⟨#[97, 40, 49, 41, 46, 10]⟩ : ByteArray).size = 6 := rfl
 have z1 : (⟨#[41, 32, 58, 45, 32]⟩ : ByteArray).size = 5 := rfl
 have z2 : (⟨#[98, 40, 41, 44, 32]⟩ : ByteArray).size = 5 := rfl
 have z3 : (⟨#[118, 105, 101, 119, 32, 113, 47]⟩ : ByteArray).size = 7 := rfl
 have z4 : (⟨#[46, 10]⟩ : ByteArray).size = 2 := rfl
 have za : argS.size = 18 := rfl
 have lt := tails_len
 have le := ends_len
 have lq := quads_len
 refine AX_body1 (x := fun (i : ByteArray) => .one (.c (.string (i)))) (L' := fun (i : ByteArray) => []) Try.func26 rfl rfl Try.ntmps26 rfl Try.results26 ?_
 refine AW_seq ?_
 refine AW_regionN ?_
 refine AN_p (x_assign rfl rfl) ?_
 refine AN_nil ?_
 refine AW_seq ?_
 refine AW_regionN ?_
 refine AN_p (x_move rfl rfl) ?_
 refine AN_p (x_call1 rfl rfl rfl (new_c b hb) rfl rfl rfl rfl) ?_
 refine AN_p (x_assign rfl rfl) ?_
 refine AN_nil ?_
 refine AW_seq ?_
 refine AW_regionN ?_
 refine AN_p (x_move rfl rfl) ?_
 refine AN_x (L := [(200, some (curB b (dNew b)))]) rfl rfl rfl (text_x b (dNew b) hb) rfl rfl (fun _ => rfl) (fun _ => rfl) ⟨rfl, trivial⟩ (fun _ => rfl) ?_
 rintro ⟨x12, c12⟩ g12
 try dsimp only at g12
 try dsimp only
 refine AN_p (x_assign rfl rfl) ?_
 refine AN_nil ?_
 refine AW_seq ?_
 refine AW_regionN ?_
 refine AN_p (x_move rfl rfl) ?_
 have d14 := dBelow_lt b c12 (n := 30) (by decide)
 refine AN_p (x_call (ks := []) (L := [(200, some _)]) (L' := [(200, some _)]) rfl rfl rfl (below_c b c12 hb 30) rfl AllV.rf (caught_of rfl) rfl rfl rfl ⟨rfl, trivial⟩ rfl) ?_
 refine AN_p (x_assign rfl rfl) ?_
 refine AN_nil ?_
 refine AW_seq ?_
 refine AW_seq ?_
 refine AW_regionN ?_
 refine AN_p (x_move rfl rfl) ?_
 refine AN_b (x_eql rfl rfl rfl) (fun b16 h16 => ?_)
 refine AN_nil ?_
 cases b16
 rotate_left
 · try simp only [tdy] at h16
   refine AW_condT rfl ?_
   refine AW_seq ?_
   refine AW_regionN ?_
   refine AN_p (x_move rfl rfl) ?_
   have d18 := dBelow_lt b (dBelow b c12 30).2 (n := 8) (by decide)
   refine AN_p (x_call (ks := []) (L := [(200, some _)]) (L' := [(200, some _)]) rfl rfl rfl (below_c b (dBelow b c12 30).2 hb 8) rfl AllV.rf (caught_of rfl) rfl rfl rfl ⟨rfl, trivial⟩ rfl) ?_
   refine AN_p (x_add rfl rfl rfl (IntWalk.i64_in _ (by omega))) ?_
   refine AN_p (x_assign rfl rfl) ?_
   refine AN_nil ?_
   refine AW_block ?_
   refine AW_loop2 (ι := {q : Int × ByteArray // 0 ≤ (q.1) ∧ ((q.2).size : Int) + 6 * (q.1) ≤ 7200}) (fun p => [(4, .one (.c (.string ((p.1.2))))), (6, .one (.c (.int .i64 ((p.1.1)))))]) (fun p => []) [3, 5] [200] (fun p => (p.1.1).toNat) ⟨⟨(21 + (dBelow b (dBelow b c12 30).2 8).1), x12⟩, by dsimp only; omega⟩ (rn []) ?_ ?_
   exact ⟨by (repeat refine ⟨⟨_, rfl, by first | exact VLe.rf | exact vle_int (by dsimp only; omega)⟩, ?_⟩); exact trivial, by (repeat refine ⟨⟨_, rfl, by first | exact BLe.rf | exact BLe.box AllC.rf | exact BLe.arr (by exact rfl)⟩, ?_⟩); exact trivial, by repeat (first | exact trivial | refine ⟨⟨rfl, by first | (left; intro h; cases h) | (right; rfl), by first | exact (fun _ h => ⟨_, h⟩) | exact (fun _ _ => ⟨_, rfl⟩) | (intro _ h; cases h)⟩, ?_⟩), rfl⟩
   rintro ⟨⟨n, s⟩, hinv⟩
   dsimp only
   obtain ⟨hn, hsz⟩ := hinv
   have hn : 0 ≤ n := hn
   have hsz : (s.size : Int) + 6 * n ≤ 7200 := hsz
   refine AW_seq ?_
   refine AW_seq ?_
   refine AW_regionN ?_
   refine AN_p (x_move rfl rfl) ?_
   refine AN_b (x_gtr rfl rfl rfl) (fun b21 h21 => ?_)
   refine AN_nil ?_
   cases b21
   rotate_left
   · try simp only [tdy] at h21
     refine AW_condT rfl ?_
     refine AW_skip ?_
     refine AW_seq ?_
     refine AW_block ?_
     refine AW_regionN ?_
     refine AN_p (x_move rfl rfl) ?_
     refine AN_p (x_sadd rfl rfl rfl (by first | omega | (simp only [size_app]; omega))) ?_
     refine AN_p (x_assign rfl rfl) ?_
     refine AN_nil ?_
     refine AW_regionN ?_
     refine AN_p (x_move rfl rfl) ?_
     refine AN_p (x_sub rfl rfl rfl (IntWalk.i64_in _ (by omega))) ?_
     refine AN_p (x_assign rfl rfl) ?_
     refine AN_nil ?_
     refine ⟨⟨⟨_, _⟩, ?_⟩, rn [], by exact ⟨by (repeat refine ⟨⟨_, rfl, by first | exact VLe.rf | exact vle_int (by dsimp only; omega)⟩, ?_⟩); exact trivial, by (repeat refine ⟨⟨_, rfl, by first | exact BLe.rf | exact BLe.box AllC.rf | exact BLe.arr (by exact rfl)⟩, ?_⟩); exact trivial, by repeat (first | exact trivial | refine ⟨⟨rfl, by first | (left; intro h; cases h) | (right; rfl), by first | exact (fun _ h => ⟨_, h⟩) | exact (fun _ _ => ⟨_, rfl⟩) | (intro _ h; cases h)⟩, ?_⟩), rfl⟩, by dsimp only; omega⟩
     dsimp only; rw [size_app]
     omega
   try simp only [tdy] at h21
   refine AW_condF rfl ?_
   refine AW_exit (BQ_hit ?_)
   refine AW_seq ?_
   refine AW_seq ?_
   refine AW_regionN ?_
   refine AN_p (x_move rfl rfl) ?_
   refine AN_b (x_eql rfl rfl rfl) (fun b27 h27 => ?_)
   refine AN_nil ?_
   cases b27
   rotate_left
   · exfalso; simp at h27; omega
   try simp only [tdy] at h27
   refine AW_condF rfl ?_
   refine AW_skip ?_
   refine AW_seq ?_
   refine AW_seq ?_
   refine AW_regionN ?_
   refine AN_p (x_move rfl rfl) ?_
   refine AN_b (x_eql rfl rfl rfl) (fun b54 h54 => ?_)
   refine AN_nil ?_
   cases b54
   rotate_left
   · exfalso; simp at h54; omega
   try simp only [tdy] at h54
   refine AW_condF rfl ?_
   refine AW_skip ?_
   refine AW_seq ?_
   refine AW_regionN ?_
   refine AN_p (x_move rfl rfl) ?_
   refine AN_p (x_assign rfl rfl) ?_
   refine AN_nil ?_
   refine AW_ret ?_
   refine ⟨_, ?_, rn [], by exact ⟨⟨⟨_, rfl, VLe.rf⟩, trivial⟩, trivial, by repeat (first | exact trivial | refine ⟨⟨rfl, by first | (left; intro h; cases h) | (right; rfl), by first | exact (fun _ h => ⟨_, h⟩) | exact (fun _ _ => ⟨_, rfl⟩) | (intro _ h; cases h)⟩, ?_⟩), rfl⟩⟩
   first | omega | (simp only [size_app]; omega)
 try simp only [tdy] at h16
 refine AW_condF rfl ?_
 refine AW_skip ?_
 refine AW_seq ?_
 refine AW_seq ?_
 refine AW_regionN ?_
 refine AN_p (x_move rfl rfl) ?_
 refine AN_b (x_eql rfl rfl rfl) (fun b27 h27 => ?_)
 refine AN_nil ?_
 cases b27
 · try simp only [tdy] at h27
   refine AW_condF rfl ?_
   refine AW_skip ?_
   refine AW_seq ?_
   refine AW_seq ?_
   refine AW_regionN ?_
   refine AN_p (x_move rfl rfl) ?_
   refine AN_b (x_eql rfl rfl rfl) (fun b54 h54 => ?_)
   refine AN_nil ?_
   cases b54
   · try simp only [tdy] at h54
     refine AW_condF rfl ?_
     refine AW_skip ?_
     refine AW_seq ?_
     refine AW_regionN ?_
     refine AN_p (x_move rfl rfl) ?_
     refine AN_p (x_assign rfl rfl) ?_
     refine AN_nil ?_
     refine AW_ret ?_
     refine ⟨_, ?_, rn [], by exact ⟨⟨⟨_, rfl, VLe.rf⟩, trivial⟩, trivial, by repeat (first | exact trivial | refine ⟨⟨rfl, by first | (left; intro h; cases h) | (right; rfl), by first | exact (fun _ h => ⟨_, h⟩) | exact (fun _ _ => ⟨_, rfl⟩) | (intro _ h; cases h)⟩, ?_⟩), rfl⟩⟩
     first | omega | (simp only [size_app]; omega)
   try simp only [tdy] at h54
   refine AW_condT rfl ?_
   refine AW_seq ?_
   refine AW_regionN ?_
   refine AN_p (x_move rfl rfl) ?_
   have d56 := dBelow_lt b (dBelow b c12 30).2 (n := 6) (by decide)
   refine AN_p (x_call (ks := []) (L := [(200, some _)]) (L' := [(200, some _)]) rfl rfl rfl (below_c b (dBelow b c12 30).2 hb 6) rfl AllV.rf (caught_of rfl) rfl rfl rfl ⟨rfl, trivial⟩ rfl) ?_
   refine AN_p (x_add rfl rfl rfl (IntWalk.i64_in _ (by omega))) ?_
   refine AN_p (x_assign rfl rfl) ?_
   refine AN_nil ?_
   refine AW_block ?_
   refine AW_loop2 (ι := {q : Int × ByteArray × Cur // 0 ≤ (q.1) ∧ ((q.2.1).size : Int) + 10 * (q.1) ≤ 7300}) (fun p => [(4, .one (.c (.string ((p.1.2.1))))), (8, .one (.c (.int .i64 ((p.1.1)))))]) (fun p => [(200, some (curB b (p.1.2.2)))]) [3] [] (fun p => (p.1.1).toNat) ⟨⟨(13 + (dBelow b (dBelow b c12 30).2 6).1), x12, (dBelow b (dBelow b c12 30).2 6).2⟩, by dsimp only; omega⟩ (rn []) ?_ ?_
   exact ⟨by (repeat refine ⟨⟨_, rfl, by first | exact VLe.rf | exact vle_int (by dsimp only; omega)⟩, ?_⟩); exact trivial, by (repeat refine ⟨⟨_, rfl, by first | exact BLe.rf | exact BLe.box AllC.rf | exact BLe.arr (by exact rfl)⟩, ?_⟩); exact trivial, by repeat (first | exact trivial | refine ⟨⟨rfl, by first | (left; intro h; cases h) | (right; rfl), by first | exact (fun _ h => ⟨_, h⟩) | exact (fun _ _ => ⟨_, rfl⟩) | (intro _ h; cases h)⟩, ?_⟩), rfl⟩
   rintro ⟨⟨n, s, cc⟩, hinv⟩
   dsimp only
   obtain ⟨hn, hsz⟩ := hinv
   have hn : 0 ≤ n := hn
   have hsz : (s.size : Int) + 10 * n ≤ 7300 := hsz
   refine AW_seq ?_
   refine AW_seq ?_
   refine AW_regionN ?_
   refine AN_p (x_move rfl rfl) ?_
   refine AN_b (x_gtr rfl rfl rfl) (fun b59 h59 => ?_)
   refine AN_nil ?_
   cases b59
   · try simp only [tdy] at h59
     refine AW_condF rfl ?_
     refine AW_exit (BQ_hit ?_)
     refine AW_seq ?_
     refine AW_regionN ?_
     refine AN_p (x_move rfl rfl) ?_
     refine AN_p (x_assign rfl rfl) ?_
     refine AN_nil ?_
     refine AW_ret ?_
     refine ⟨_, ?_, rn [], by exact ⟨⟨⟨_, rfl, VLe.rf⟩, trivial⟩, trivial, by repeat (first | exact trivial | refine ⟨⟨rfl, by first | (left; intro h; cases h) | (right; rfl), by first | exact (fun _ h => ⟨_, h⟩) | exact (fun _ _ => ⟨_, rfl⟩) | (intro _ h; cases h)⟩, ?_⟩), rfl⟩⟩
     first | omega | (simp only [size_app]; omega)
   try simp only [tdy] at h59
   refine AW_condT rfl ?_
   refine AW_skip ?_
   refine AW_seq ?_
   refine AW_block ?_
   refine AW_regionN ?_
   refine AN_p (x_move rfl rfl) ?_
   refine AN_p (x_sadd rfl rfl rfl (by first | omega | (simp only [size_app]; omega))) ?_
   refine AN_p (y_bslice_sl (E := 9) (e := strE) [.const (.string ⟨#[48]⟩), .const (.string ⟨#[54]⟩), .const (.string ⟨#[55]⟩), .const (.string ⟨#[88]⟩)] (quads) rfl rfl rfl rfl rfl rfl rfl rfl FitL.rf rfl rfl rfl (by kernel_rfl)) ?_
   refine AN_p (x_move rfl rfl) ?_
   have t66 := tm_le (dBelow_lt b cc (n := 12) (by decide))
   have d66 := dBelow_lt b cc (n := 12) (by decide)
   refine AN_p (x_call (ks := []) (L := [(200, some _)]) (L' := [(200, some _)]) rfl rfl rfl (below_c b cc hb 12) rfl AllV.rf (caught_of rfl) rfl rfl rfl ⟨rfl, trivial⟩ rfl) ?_
   refine AN_p (x_rem rfl rfl rfl (by omega) rfl (WalkArith.wf_i64 (by omega))) ?_
   refine AN_p (x_rem rfl rfl rfl (by omega) rfl (WalkArith.wf_i64 (by omega))) ?_
   refine AN_p (x_index (E := 9) (n := 1) rfl rfl rfl (by kernel_rfl) rfl (k := ((((dBelow b cc 12).1).tmod 4).tmod 3).toNat) (by omega) (by omega)) ?_
   refine AN_p (x_eload1 rfl rfl (by kernel_rfl) rfl) ?_
   refine AN_p (x_sadd rfl rfl rfl (by have := quads_le (k := ((((dBelow b cc 12).1).tmod 4).tmod 3).toNat) (by omega); simp only [size_app]; omega)) ?_
   refine AN_p (x_sadd rfl rfl rfl (by have := quads_le (k := ((((dBelow b cc 12).1).tmod 4).tmod 3).toNat) (by omega); simp only [size_app]; omega)) ?_
   refine AN_p (x_assign rfl rfl) ?_
   refine AN_nil ?_
   refine AW_regionN ?_
   refine AN_p (x_move rfl rfl) ?_
   refine AN_p (x_sub rfl rfl rfl (IntWalk.i64_in _ (by omega))) ?_
   refine AN_p (x_assign rfl rfl) ?_
   refine AN_nil ?_
   refine ⟨⟨⟨_, _, _⟩, ?_⟩, rn [], by exact ⟨by (repeat refine ⟨⟨_, rfl, by first | exact VLe.rf | exact vle_int (by dsimp only; omega)⟩, ?_⟩); exact trivial, by (repeat refine ⟨⟨_, rfl, by first | exact BLe.rf | exact BLe.box AllC.rf | exact BLe.arr (by exact rfl)⟩, ?_⟩); exact trivial, by repeat (first | exact trivial | refine ⟨⟨rfl, by first | (left; intro h; cases h) | (right; rfl), by first | exact (fun _ h => ⟨_, h⟩) | exact (fun _ _ => ⟨_, rfl⟩) | (intro _ h; cases h)⟩, ?_⟩), rfl⟩, by dsimp only; omega⟩
   have := quads_le (k := ((((dBelow b cc 12).1).tmod 4).tmod 3).toNat) (by omega)
   dsimp only; simp only [size_app]
   omega
 try simp only [tdy] at h27
 refine AW_condT rfl ?_
 refine AW_seq ?_
 refine AW_regionN ?_
 refine AN_p (x_move rfl rfl) ?_
 refine AN_p (x_sadd rfl rfl rfl (by show x12.size + argS.size ≤ _; omega)) ?_
 refine AN_p (y_bslice_sl (E := 9) (e := strE) [.const (.string ⟨#[]⟩), .const (.string ⟨#[44, 32, 55]⟩), .const (.string ⟨#[44, 32, 40]⟩)] (tails) rfl rfl rfl rfl rfl rfl rfl rfl FitL.rf rfl rfl rfl (by kernel_rfl)) ?_
 refine AN_p (x_move rfl rfl) ?_
 have d32 := dBelow_lt b (dBelow b c12 30).2 (n := 3) (by decide)
 refine AN_p (x_call (ks := []) (L := [(200, some _)]) (L' := [(200, some _)]) rfl rfl rfl (below_c b (dBelow b c12 30).2 hb 3) rfl AllV.rf (caught_of rfl) rfl rfl rfl ⟨rfl, trivial⟩ rfl) ?_
 refine AN_p (x_index (E := 9) (n := 1) rfl rfl rfl (by kernel_rfl) rfl (k := (dBelow b (dBelow b c12 30).2 3).1.toNat) (by omega) (by omega)) ?_
 refine AN_p (x_eload1 rfl rfl (by kernel_rfl) rfl) ?_
 refine AN_p (x_sadd rfl rfl rfl (by have := tails_le (k := (dBelow b (dBelow b c12 30).2 3).1.toNat) (by omega); show (x12 ++ argS).size + (tails[(dBelow b (dBelow b c12 30).2 3).1.toNat]'(by omega)).size ≤ _; rw [size_app]; omega)) ?_
 refine AN_p (x_sadd rfl rfl rfl (by have := tails_le (k := (dBelow b (dBelow b c12 30).2 3).1.toNat) (by omega); show ((x12 ++ argS) ++ (tails[(dBelow b (dBelow b c12 30).2 3).1.toNat]'(by omega))).size + (⟨#[41, 32, 58, 45, 32]⟩ : ByteArray).size ≤ _; rw [size_app, size_app]; omega)) ?_
 refine AN_p (x_assign rfl rfl) ?_
 refine AN_nil ?_
 refine AW_seq ?_
 refine AW_seq ?_
 refine AW_regionN ?_
 refine AN_p (x_move rfl rfl) ?_
 have d38 := dBelow_lt b (dBelow b (dBelow b c12 30).2 3).2 (n := 3) (by decide)
 refine AN_p (x_call (ks := []) (L := [(200, some _)]) (L' := [(200, some _)]) rfl rfl rfl (below_c b (dBelow b (dBelow b c12 30).2 3).2 hb 3) rfl AllV.rf (caught_of rfl) rfl rfl rfl ⟨rfl, trivial⟩ rfl) ?_
 refine AN_p (x_add rfl rfl rfl (IntWalk.i64_in _ (by omega))) ?_
 refine AN_p (x_assign rfl rfl) ?_
 refine AN_nil ?_
 refine AW_block ?_
 refine AW_loop2 (ι := {q : Int × ByteArray // 0 ≤ (q.1) ∧ ((q.2).size : Int) + 5 * (q.1) ≤ 7200}) (fun p => [(4, .one (.c (.string ((p.1.2))))), (7, .one (.c (.int .i64 ((p.1.1)))))]) (fun p => []) [3, 5] [200] (fun p => (p.1.1).toNat) ⟨⟨(7 + (dBelow b (dBelow b (dBelow b c12 30).2 3).2 3).1), (((x12 ++ argS) ++ (tails[(dBelow b (dBelow b c12 30).2 3).1.toNat]'(by omega))) ++ (⟨#[41, 32, 58, 45, 32]⟩ : ByteArray))⟩, by have := tails_le (k := (dBelow b (dBelow b c12 30).2 3).1.toNat) (by omega); dsimp only; simp only [size_app]; omega⟩ (rn []) ?_ ?_
 exact ⟨by (repeat refine ⟨⟨_, rfl, by first | exact VLe.rf | exact vle_int (by dsimp only; omega)⟩, ?_⟩); exact trivial, by (repeat refine ⟨⟨_, rfl, by first | exact BLe.rf | exact BLe.box AllC.rf | exact BLe.arr (by exact rfl)⟩, ?_⟩); exact trivial, by repeat (first | exact trivial | refine ⟨⟨rfl, by first | (left; intro h; cases h) | (right; rfl), by first | exact (fun _ h => ⟨_, h⟩) | exact (fun _ _ => ⟨_, rfl⟩) | (intro _ h; cases h)⟩, ?_⟩), rfl⟩
 rintro ⟨⟨n, s⟩, hinv⟩
 dsimp only
 obtain ⟨hn, hsz⟩ := hinv
 have hn : 0 ≤ n := hn
 have hsz : (s.size : Int) + 5 * n ≤ 7200 := hsz
 refine AW_seq ?_
 refine AW_seq ?_
 refine AW_regionN ?_
 refine AN_p (x_move rfl rfl) ?_
 refine AN_b (x_gtr rfl rfl rfl) (fun b41 h41 => ?_)
 refine AN_nil ?_
 cases b41
 rotate_left
 · try simp only [tdy] at h41
   refine AW_condT rfl ?_
   refine AW_skip ?_
   refine AW_seq ?_
   refine AW_block ?_
   refine AW_regionN ?_
   refine AN_p (x_move rfl rfl) ?_
   refine AN_p (x_sadd rfl rfl rfl (by first | omega | (simp only [size_app]; omega))) ?_
   refine AN_p (x_assign rfl rfl) ?_
   refine AN_nil ?_
   refine AW_regionN ?_
   refine AN_p (x_move rfl rfl) ?_
   refine AN_p (x_sub rfl rfl rfl (IntWalk.i64_in _ (by omega))) ?_
   refine AN_p (x_assign rfl rfl) ?_
   refine AN_nil ?_
   refine ⟨⟨⟨_, _⟩, ?_⟩, rn [], by exact ⟨by (repeat refine ⟨⟨_, rfl, by first | exact VLe.rf | exact vle_int (by dsimp only; omega)⟩, ?_⟩); exact trivial, by (repeat refine ⟨⟨_, rfl, by first | exact BLe.rf | exact BLe.box AllC.rf | exact BLe.arr (by exact rfl)⟩, ?_⟩); exact trivial, by repeat (first | exact trivial | refine ⟨⟨rfl, by first | (left; intro h; cases h) | (right; rfl), by first | exact (fun _ h => ⟨_, h⟩) | exact (fun _ _ => ⟨_, rfl⟩) | (intro _ h; cases h)⟩, ?_⟩), rfl⟩, by dsimp only; omega⟩
   dsimp only; rw [size_app]
   omega
 try simp only [tdy] at h41
 refine AW_condF rfl ?_
 refine AW_exit (BQ_hit ?_)
 refine AW_regionN ?_
 refine AN_p (x_move rfl rfl) ?_
 refine AN_p (y_bslice_sl (E := 9) (e := strE) [.const (.string ⟨#[99, 40, 41, 46]⟩), .const (.string ⟨#[61, 46]⟩), .const (.string ⟨#[88, 32, 61, 32, 49, 46]⟩)] (ends) rfl rfl rfl rfl rfl rfl rfl rfl FitL.rf rfl rfl rfl (by kernel_rfl)) ?_
 refine AN_p (x_move rfl rfl) ?_
 have d49 := dBelow_lt b (dBelow b (dBelow b (dBelow b c12 30).2 3).2 3).2 (n := 3) (by decide)
 refine AN_p (x_call (ks := []) (L := [(200, some _)]) (L' := [(200, some _)]) rfl rfl rfl (below_c b (dBelow b (dBelow b (dBelow b c12 30).2 3).2 3).2 hb 3) rfl AllV.rf (caught_of rfl) rfl rfl rfl ⟨rfl, trivial⟩ rfl) ?_
 refine AN_p (x_index (E := 9) (n := 1) rfl rfl rfl (by kernel_rfl) rfl (k := (dBelow b (dBelow b (dBelow b (dBelow b c12 30).2 3).2 3).2 3).1.toNat) (by omega) (by omega)) ?_
 refine AN_p (x_eload1 rfl rfl (by kernel_rfl) rfl) ?_
 refine AN_p (x_sadd rfl rfl rfl (by have := ends_le (k := (dBelow b (dBelow b (dBelow b (dBelow b c12 30).2 3).2 3).2 3).1.toNat) (by omega); omega)) ?_
 refine AN_p (x_assign rfl rfl) ?_
 refine AN_nil ?_
 refine AW_seq ?_
 refine AW_seq ?_
 refine AW_regionN ?_
 refine AN_p (x_move rfl rfl) ?_
 refine AN_b (x_eql rfl rfl rfl) (fun b54 h54 => ?_)
 refine AN_nil ?_
 cases b54
 rotate_left
 · exfalso; simp at h54; omega
 try simp only [tdy] at h54
 refine AW_condF rfl ?_
 refine AW_skip ?_
 refine AW_seq ?_
 refine AW_regionN ?_
 refine AN_p (x_move rfl rfl) ?_
 refine AN_p (x_assign rfl rfl) ?_
 refine AN_nil ?_
 refine AW_ret ?_
 refine ⟨_, ?_, rn [], by exact ⟨⟨⟨_, rfl, VLe.rf⟩, trivial⟩, trivial, by repeat (first | exact trivial | refine ⟨⟨rfl, by first | (left; intro h; cases h) | (right; rfl), by first | exact (fun _ h => ⟨_, h⟩) | exact (fun _ _ => ⟨_, rfl⟩) | (intro _ h; cases h)⟩, ?_⟩), rfl⟩⟩
 have := ends_le (k := (dBelow b (dBelow b (dBelow b (dBelow b c12 30).2 3).2 3).2 3).1.toNat) (by omega)
 first | omega | (simp only [size_app]; omega)
end Go.Proofs.Ytkemjhlbokldhaa

/- What is read of tokens, in plain words: the program's reader, the reference's, and that they agree. -/
namespace Go.Proofs.Ytkemjhlbokldhaa
open Go.RowKit
set_option linter.unusedVariables false
set_option linter.unusedSimpArgs false

/-- Where a reader stands: the place among the tokens, the fault and its place. -/
structure PS where
 i : Nat
 code : Int
 place : Int
def PS.next (st : PS) : PS := ⟨st.i + 1, st.code, st.place⟩
def tokOk (t : Tokent) : Prop := (t.kind = 1 ∧ t.n = 0 ∧ wordB t.s = true) ∨ (t.kind = 2 ∧ varB t.s = true) ∨ (t.kind = 3 ∧ t.s = ⟨#[]⟩ ∧ numB t.n = true) ∨ t.kind = 4
def signT (t : Tokent) (s : ByteArray) : Bool := decide (t.kind = 4) && t.s == s
def nameT (t : Tokent) : Bool := decide (t.kind = 1) && !keptB t.s
def termT (t : Tokent) : Bool := decide (t.kind = 2) || (decide (t.kind = 3) || nameT t)
def notS : ByteArray := ⟨#[110, 111, 116]⟩
def notT (t : Tokent) : Bool := decide (t.kind = 1) && t.s == notS
def beginsT (t : Tokent) : Bool := termT t || notT t
def termOfT (t : Tokent) : Termt := if t.kind = 2 then ⟨t.s, ⟨0, ⟨#[]⟩⟩⟩ else if t.kind = 3 then ⟨⟨#[]⟩, ⟨t.n, ⟨#[]⟩⟩⟩ else ⟨⟨#[]⟩, ⟨0, t.s⟩⟩
def opN (s : ByteArray) : Int := if (s == (⟨#[61]⟩ : ByteArray)) = true then 1 else if (s == (⟨#[33, 61]⟩ : ByteArray)) = true then 2 else if (s == (⟨#[60]⟩ : ByteArray)) = true then 3 else if (s == (⟨#[60, 61]⟩ : ByteArray)) = true then 4 else 0
def opX (s : ByteArray) : Int := if (s == (⟨#[]⟩ : ByteArray)) = true then 0 else if opN s = 0 then -1 else opN s
def kindN (s : ByteArray) : Int := if (s == (⟨#[115, 116, 97, 116, 101]⟩ : ByteArray)) = true then 1 else if (s == (⟨#[101, 118, 101, 110, 116]⟩ : ByteArray)) = true then 2 else if (s == (⟨#[118, 105, 101, 119]⟩ : ByteArray)) = true then 3 else 0
def kindX (s : ByteArray) : Int := if (s == (⟨#[]⟩ : ByteArray)) = true then 0 else if kindN s = 0 then -1 else kindN s
def opI (t : Tokent) : Int := if t.kind = 4 then opX t.s else 0
def opS (t : Tokent) : Int := if t.kind = 4 then opN t.s else 0
def kindI (t : Tokent) : Int := if t.kind = 1 then kindX t.s else 0
def kindS (t : Tokent) : Int := if t.kind = 1 then kindN t.s else 0
theorem opN_range (s : ByteArray) : 0 ≤ opN s ∧ opN s ≤ 4 := by
 unfold opN; repeat' split
 all_goals omega
theorem kindN_range (s : ByteArray) : 0 ≤ kindN s ∧ kindN s ≤ 3 := by
 unfold kindN; repeat' split
 all_goals omega
theorem opI_pos (t : Tokent) : (0 < opI t ↔ 0 < opS t) ∧ (0 < opI t → opI t = opS t) := by
 have h := opN_range t.s
 unfold opI opS opX
 split
 · split
   · rename_i h2
     have : opN t.s = 0 := by rw [show t.s = ⟨#[]⟩ from ba_iff.1 h2]; decide
     omega
   · split <;> omega
 · omega
theorem kindI_pos (t : Tokent) : (0 < kindI t ↔ 0 < kindS t) ∧ (0 < kindI t → kindI t = kindS t) := by
 have h := kindN_range t.s
 unfold kindI kindS kindX
 split
 · split
   · rename_i h2
     have : kindN t.s = 0 := by rw [show t.s = ⟨#[]⟩ from ba_iff.1 h2]; decide
     omega
   · split <;> omega
 · omega
abbrev noAtom : Atomt := ⟨⟨#[]⟩, []⟩
section
variable (tk : List Tokent) (e : Int)
def hereT (st : PS) : Tokent := if h : st.code = 0 ∧ st.i < tk.length then tk[st.i]'h.2 else ⟨0, 0, ⟨#[]⟩, e⟩
def faultP (c : Int) (st : PS) : PS := if st.code = 0 then ⟨st.i, c, (hereT tk e st).pl⟩ else st
def takeP (s : ByteArray) (st : PS) : PS := if signT (hereT tk e st) s = true then st.next else faultP tk e 6 st
def wordP (st : PS) : ByteArray × PS := if nameT (hereT tk e st) = true then ((hereT tk e st).s, st.next) else (⟨#[]⟩, faultP tk e 6 st)
def termP (full : Bool) (st : PS) : Termt × PS := if termT (hereT tk e st) = true then (if full = true then (noTerm, faultP tk e 7 st) else (termOfT (hereT tk e st), st.next)) else (noTerm, faultP tk e 6 st)
def argsI : Nat → PS → List Termt → List Termt × PS
 | 0, st, a => (a, st)
 | f + 1, st, a => if st.code = 0 then (if termT (hereT tk e st) = true ∧ a.length = 6 then (a, faultP tk e 7 st) else
     if signT (hereT tk e (termP tk e false st).2) ⟨#[44]⟩ = true then argsI f (termP tk e false st).2.next (a ++ [(termP tk e false st).1]) else (a ++ [(termP tk e false st).1], (termP tk e false st).2)) else (a, st)
def argsS : Nat → PS → List Termt → List Termt × PS
 | 0, st, a => (a, st)
 | f + 1, st, a => if st.code = 0 then
     (if signT (hereT tk e (termP tk e (decide (a.length = 6)) st).2) ⟨#[44]⟩ = true then argsS f (termP tk e (decide (a.length = 6)) st).2.next (a ++ [(termP tk e (decide (a.length = 6)) st).1]) else (a ++ [(termP tk e (decide (a.length = 6)) st).1], (termP tk e (decide (a.length = 6)) st).2)) else (a, st)
/-- The name and what stands behind it. -/
def atomOpen (st : PS) : PS := takeP tk e ⟨#[40]⟩ (wordP tk e st).2
def atomI (st : PS) : Atomt × PS := if signT (hereT tk e (atomOpen tk e st)) ⟨#[41]⟩ = true then (⟨(wordP tk e st).1, []⟩, (atomOpen tk e st).next) else (⟨(wordP tk e st).1, (argsI tk e 8 (atomOpen tk e st) []).1⟩, takeP tk e ⟨#[41]⟩ (argsI tk e 8 (atomOpen tk e st) []).2)
def atomS (st : PS) : Atomt × PS := if signT (hereT tk e (atomOpen tk e st)) ⟨#[41]⟩ = true then (⟨(wordP tk e st).1, []⟩, (atomOpen tk e st).next) else (⟨(wordP tk e st).1, (argsS tk e 8 (atomOpen tk e st) []).1⟩, takeP tk e ⟨#[41]⟩ (argsS tk e 8 (atomOpen tk e st) []).2)
def openT (st : PS) : Bool := nameT (hereT tk e st) && signT (hereT tk e st.next) ⟨#[40]⟩
def litI (st : PS) : Litt × PS := if notT (hereT tk e st) = true then (⟨2, (atomI tk e st.next).1, 0, noTerm, noTerm⟩, (atomI tk e st.next).2)
 else if openT tk e st = true then (⟨1, (atomI tk e st).1, 0, noTerm, noTerm⟩, (atomI tk e st).2)
 else if opI (hereT tk e (termP tk e false st).2) < 1 then (⟨3, noAtom, opI (hereT tk e (termP tk e false st).2), (termP tk e false st).1, noTerm⟩, faultP tk e 6 (termP tk e false st).2)
 else (⟨3, noAtom, opI (hereT tk e (termP tk e false st).2), (termP tk e false st).1, (termP tk e false (termP tk e false st).2.next).1⟩, (termP tk e false (termP tk e false st).2.next).2)
/-- Behind the sign of a comparison. -/
def opP (st : PS) : PS := if opS (hereT tk e st) = 0 then faultP tk e 6 st else st.next
def litS (st : PS) : Litt × PS := if notT (hereT tk e st) = true then (⟨2, (atomS tk e st.next).1, 0, noTerm, noTerm⟩, (atomS tk e st.next).2)
 else if openT tk e st = true then (⟨1, (atomS tk e st).1, 0, noTerm, noTerm⟩, (atomS tk e st).2)
 else (⟨3, noAtom, opS (hereT tk e (termP tk e false st).2), (termP tk e false st).1, (termP tk e false (opP tk e (termP tk e false st).2)).1⟩, (termP tk e false (opP tk e (termP tk e false st).2)).2)
def bodyI : Nat → PS → List Litt → List Litt × PS
 | 0, st, a => (a, st)
 | f + 1, st, a => if st.code = 0 then (if beginsT (hereT tk e st) = true ∧ a.length = 8 then (a, faultP tk e 7 st) else
     if signT (hereT tk e (litI tk e st).2) ⟨#[44]⟩ = true then bodyI f (litI tk e st).2.next (a ++ [(litI tk e st).1]) else (a ++ [(litI tk e st).1], (litI tk e st).2)) else (a, st)
/-- Before a literal: no more than eight. -/
def fullP (a : List Litt) (st : PS) : PS := if a.length = 8 ∧ beginsT (hereT tk e st) = true then faultP tk e 7 st else st
def bodyS : Nat → PS → List Litt → List Litt × PS
 | 0, st, a => (a, st)
 | f + 1, st, a => if st.code = 0 then
     (if signT (hereT tk e (litS tk e (fullP tk e a st)).2) ⟨#[44]⟩ = true then bodyS f (litS tk e (fullP tk e a st)).2.next (a ++ [(litS tk e (fullP tk e a st)).1]) else (a ++ [(litS tk e (fullP tk e a st)).1], (litS tk e (fullP tk e a st)).2)) else (a, st)
def plusP (st : PS) : Int × PS := if signT (hereT tk e st) ⟨#[43]⟩ = true then (2, st.next) else if signT (hereT tk e st) ⟨#[45]⟩ = true then (3, st.next) else (1, st)
def ruleI (st : PS) : Rulet × PS := if signT (hereT tk e (atomI tk e (plusP tk e st).2).2) ⟨#[58, 45]⟩ = true
 then (⟨(plusP tk e st).1, (atomI tk e (plusP tk e st).2).1, (bodyI tk e 10 (atomI tk e (plusP tk e st).2).2.next []).1⟩, takeP tk e ⟨#[46]⟩ (bodyI tk e 10 (atomI tk e (plusP tk e st).2).2.next []).2)
 else (⟨(plusP tk e st).1, (atomI tk e (plusP tk e st).2).1, []⟩, takeP tk e ⟨#[46]⟩ (atomI tk e (plusP tk e st).2).2)
def ruleS (st : PS) : Rulet × PS := if signT (hereT tk e (atomS tk e (plusP tk e st).2).2) ⟨#[58, 45]⟩ = true
 then (⟨(plusP tk e st).1, (atomS tk e (plusP tk e st).2).1, (bodyS tk e 10 (atomS tk e (plusP tk e st).2).2.next []).1⟩, takeP tk e ⟨#[46]⟩ (bodyS tk e 10 (atomS tk e (plusP tk e st).2).2.next []).2)
 else (⟨(plusP tk e st).1, (atomS tk e (plusP tk e st).2).1, []⟩, takeP tk e ⟨#[46]⟩ (atomS tk e (plusP tk e st).2).2)
/-- Where a declaration's number stands. -/
def slashP (st : PS) : PS := takeP tk e ⟨#[47]⟩ (wordP tk e st).2
def declI (k : Int) (st : PS) : Declt × PS := if (hereT tk e (slashP tk e st.next)).kind = 3 then (if 6 < (hereT tk e (slashP tk e st.next)).n then (⟨k, (wordP tk e st.next).1, 0⟩, takeP tk e ⟨#[46]⟩ (faultP tk e 7 (slashP tk e st.next))) else (⟨k, (wordP tk e st.next).1, (hereT tk e (slashP tk e st.next)).n⟩, takeP tk e ⟨#[46]⟩ (slashP tk e st.next).next))
 else (⟨k, (wordP tk e st.next).1, 0⟩, takeP tk e ⟨#[46]⟩ (faultP tk e 6 (slashP tk e st.next)))
def declS (k : Int) (st : PS) : Declt × PS := if (hereT tk e (slashP tk e st)).kind = 3 then (if 6 < (hereT tk e (slashP tk e st)).n then (⟨k, (wordP tk e st).1, (hereT tk e (slashP tk e st)).n⟩, faultP tk e 7 (slashP tk e st)) else (⟨k, (wordP tk e st).1, (hereT tk e (slashP tk e st)).n⟩, takeP tk e ⟨#[46]⟩ (slashP tk e st).next))
 else (⟨k, (wordP tk e st).1, 0⟩, faultP tk e 6 (slashP tk e st))
def startsT (t : Tokent) : Bool := nameT t || (signT t ⟨#[43]⟩ || signT t ⟨#[45]⟩)
abbrev ProgR : Type := List Declt × List Rulet × PS
def progI : Nat → PS → List Declt → List Rulet → ProgR
 | 0, st, ds, rs => (ds, rs, st)
 | f + 1, st, ds, rs => if st.code = 0 ∧ st.i < tk.length then
     (if (0 < kindI (hereT tk e st) ∧ ds.length = 16) ∨ (startsT (hereT tk e st) = true ∧ rs.length = 24) then progI f (faultP tk e 7 st) ds rs
     else if 0 < kindI (hereT tk e st) then progI f (declI tk e (kindI (hereT tk e st)) st).2 (ds ++ [(declI tk e (kindI (hereT tk e st)) st).1]) rs
     else if startsT (hereT tk e st) = true then progI f (ruleI tk e st).2 ds (rs ++ [(ruleI tk e st).1])
     else progI f (faultP tk e 6 st) ds rs) else (ds, rs, st)
def fullD (ds : List Declt) (st : PS) : PS := if ds.length = 16 then faultP tk e 7 st else st
def fullR (rs : List Rulet) (st : PS) : PS := if startsT (hereT tk e st) = true ∧ rs.length = 24 then faultP tk e 7 st else st
def progS : Nat → PS → List Declt → List Rulet → ProgR
 | 0, st, ds, rs => (ds, rs, st)
 | f + 1, st, ds, rs => if st.code = 0 ∧ st.i < tk.length then
     (if 0 < kindS (hereT tk e st) then progS f (declS tk e (kindS (hereT tk e st)) (fullD tk e ds st).next).2 (ds ++ [(declS tk e (kindS (hereT tk e st)) (fullD tk e ds st).next).1]) rs
     else progS f (ruleS tk e (fullR tk e rs st)).2 ds (rs ++ [(ruleS tk e (fullR tk e rs st)).1])) else (ds, rs, st)
end
abbrev ParseR : Type := Programt × Int × Int
def endR (r : ProgR) : ParseR := if r.2.2.code = 0 then (⟨r.1, r.2.1⟩, 0, 0) else (⟨[], []⟩, r.2.2.code, r.2.2.place)
def parseI (s : ByteArray) : ParseR := if (lexAll s).2.1 = 0 then endR (progI (lexAll s).1 s.size 43 ⟨0, 0, 0⟩ [] []) else (⟨[], []⟩, (lexAll s).2.1, (lexAll s).2.2)
def parseS (s : ByteArray) : ParseR := if (lexAll s).2.1 = 0 then endR (progS (lexAll s).1 s.size 43 ⟨0, 0, 0⟩ [] []) else (⟨[], []⟩, (lexAll s).2.1, (lexAll s).2.2)

/-! ### Once there is a fault -/
section
variable {tk : List Tokent} {e : Int}
theorem here_bad {st : PS} (h : ¬ st.code = 0) : hereT tk e st = ⟨0, 0, ⟨#[]⟩, e⟩ := by unfold hereT; rw [dif_neg (by intro h2; exact h h2.1)]
theorem here_end {st : PS} (h : ¬ st.i < tk.length) : hereT tk e st = ⟨0, 0, ⟨#[]⟩, e⟩ := by unfold hereT; rw [dif_neg (by intro h2; exact h h2.2)]
theorem here_ok {st : PS} (h : st.code = 0) (h2 : st.i < tk.length) : hereT tk e st = tk[st.i] := by unfold hereT; rw [dif_pos ⟨h, h2⟩]
theorem here_good {st : PS} (h : ¬ (hereT tk e st).kind = 0) : st.code = 0 ∧ st.i < tk.length := by
 by_cases q : st.code = 0 ∧ st.i < tk.length
 · exact q
 · unfold hereT at h; rw [dif_neg q] at h; exact absurd rfl h
theorem here_tok {st : PS} (hk : ∀ t ∈ tk, tokOk t) : (hereT tk e st).kind = 0 ∨ tokOk (hereT tk e st) := by
 by_cases q : st.code = 0 ∧ st.i < tk.length
 · right; rw [here_ok q.1 q.2]; exact hk _ (List.getElem_mem _)
 · left; unfold hereT; rw [dif_neg q]
theorem sign_kind {t : Tokent} {s : ByteArray} (h : signT t s = true) : t.kind = 4 := by simp [signT] at h; exact h.1
theorem name_kind {t : Tokent} (h : nameT t = true) : t.kind = 1 := by simp [nameT] at h; exact h.1
theorem term_kind {t : Tokent} (h : termT t = true) : ¬ t.kind = 0 := by
 intro h0; simp [termT, nameT, h0] at h
theorem not_kind {t : Tokent} (h : notT t = true) : t.kind = 1 := by simp [notT] at h; exact h.1
theorem starts_kind {t : Tokent} (h : startsT t = true) : ¬ t.kind = 0 := by
 intro h0; simp [startsT, nameT, signT, h0] at h
theorem kindI_kind {t : Tokent} (h : 0 < kindI t) : t.kind = 1 := by
 unfold kindI at h; split at h
 · assumption
 · omega
theorem opI_kind {t : Tokent} (h : 0 < opI t) : t.kind = 4 := by
 unfold opI at h; split at h
 · assumption
 · omega
theorem fault_bad {c : Int} {st : PS} (h : ¬ st.code = 0) : faultP tk e c st = st := by simp [faultP, h]
theorem fault_code {c : Int} {st : PS} (hc : ¬ c = 0) : ¬ (faultP tk e c st).code = 0 := by
 unfold faultP; split <;> assumption
theorem take_bad {s : ByteArray} {st : PS} (h : ¬ st.code = 0) : takeP tk e s st = st := by simp [takeP, here_bad h, signT, fault_bad h]
theorem word_bad {st : PS} (h : ¬ st.code = 0) : wordP tk e st = (⟨#[]⟩, st) := by simp [wordP, here_bad h, nameT, fault_bad h]
theorem term_bad {b : Bool} {st : PS} (h : ¬ st.code = 0) : termP tk e b st = (noTerm, st) := by simp [termP, here_bad h, termT, nameT, fault_bad h]
theorem argsI_bad {f : Nat} {st : PS} {a : List Termt} (h : ¬ st.code = 0) : argsI tk e f st a = (a, st) := by cases f <;> simp [argsI, h]
theorem argsS_bad {f : Nat} {st : PS} {a : List Termt} (h : ¬ st.code = 0) : argsS tk e f st a = (a, st) := by cases f <;> simp [argsS, h]
theorem open_bad {st : PS} (h : ¬ st.code = 0) : atomOpen tk e st = st := by simp [atomOpen, word_bad h, take_bad h]
theorem atomS_bad {st : PS} (h : ¬ st.code = 0) : atomS tk e st = (noAtom, st) := by simp [atomS, word_bad h, open_bad h, here_bad h, signT, argsS_bad h, take_bad h]
theorem opP_bad {st : PS} (h : ¬ st.code = 0) : opP tk e st = st := by simp [opP, here_bad h, opS, fault_bad h]
theorem litS_bad {st : PS} (h : ¬ st.code = 0) : (litS tk e st).2 = st := by simp [litS, here_bad h, notT, openT, nameT, term_bad h, opP_bad h]
theorem plus_bad {st : PS} (h : ¬ st.code = 0) : plusP tk e st = (1, st) := by simp [plusP, here_bad h, signT]
theorem ruleS_bad {st : PS} (h : ¬ st.code = 0) : (ruleS tk e st).2 = st := by simp [ruleS, plus_bad h, atomS_bad h, here_bad h, signT, take_bad h]
theorem declS_bad {k : Int} {st : PS} (h : ¬ st.code = 0) : (declS tk e k st).2 = st := by simp [declS, slashP, word_bad h, take_bad h, here_bad h, fault_bad h]
/-! ### They agree -/
def Agr {α : Type} (x y : α × PS) : Prop := x.2 = y.2 ∧ (x.2.code = 0 → x.1 = y.1)
theorem term_full {st : PS} {a : List Termt} (h : ¬ (termT (hereT tk e st) = true ∧ a.length = 6)) : termP tk e (decide (a.length = 6)) st = termP tk e false st := by
 unfold termP
 by_cases h1 : termT (hereT tk e st) = true
 · have h2 : ¬ a.length = 6 := fun q => h ⟨h1, q⟩
   simp [h1, h2]
 · simp [h1]
theorem args_agr : ∀ (f : Nat) (st : PS) (a : List Termt), Agr (argsI tk e f st a) (argsS tk e f st a)
 | 0, st, a => ⟨rfl, fun _ => rfl⟩
 | f + 1, st, a => by
   unfold argsI argsS
   by_cases h0 : st.code = 0
   · rw [if_pos h0, if_pos h0]
     by_cases h1 : termT (hereT tk e st) = true ∧ a.length = 6
     · rw [if_pos h1]
       have e1 : termP tk e (decide (a.length = 6)) st = (noTerm, faultP tk e 7 st) := by simp [termP, h1.1, h1.2]
       have h2 : ¬ (faultP tk e 7 st).code = 0 := fault_code (by decide)
       rw [e1, if_neg (by simp [here_bad h2, signT])]
       exact ⟨rfl, fun h => absurd h h2⟩
     · rw [if_neg h1, term_full h1]
       by_cases h3 : signT (hereT tk e (termP tk e false st).2) ⟨#[44]⟩ = true
       · rw [if_pos h3, if_pos h3]; exact args_agr f _ _
       · rw [if_neg h3, if_neg h3]; exact ⟨rfl, fun _ => rfl⟩
   · rw [if_neg h0, if_neg h0]; exact ⟨rfl, fun _ => rfl⟩
theorem take_code {s : ByteArray} {st : PS} (h : (takeP tk e s st).code = 0) : st.code = 0 := by
 by_cases q : st.code = 0
 · exact q
 · rw [take_bad q] at h; exact h
theorem atom_agr (st : PS) : Agr (atomI tk e st) (atomS tk e st) := by
 unfold atomI atomS
 have h := args_agr (tk := tk) (e := e) 8 (atomOpen tk e st) []
 split
 · exact ⟨rfl, fun _ => rfl⟩
 · exact ⟨by rw [h.1], fun q => by rw [h.2 (take_code q)]⟩
theorem lit_agr (st : PS) : Agr (litI tk e st) (litS tk e st) := by
 unfold litI litS
 split
 · exact ⟨(atom_agr _).1, fun q => by rw [(atom_agr _).2 q]⟩
 · split
   · exact ⟨(atom_agr _).1, fun q => by rw [(atom_agr _).2 q]⟩
   · have h := opI_pos (hereT tk e (termP tk e false st).2)
     have h2 := (opN_range (hereT tk e (termP tk e false st).2).s)
     have h3 : 0 ≤ opS (hereT tk e (termP tk e false st).2) := by unfold opS; split <;> omega
     split
     · rename_i h4
       have h5 : opS (hereT tk e (termP tk e false st).2) = 0 := by omega
       have e1 : opP tk e (termP tk e false st).2 = faultP tk e 6 (termP tk e false st).2 := by unfold opP; rw [if_pos h5]
       have h6 : ¬ (faultP tk e 6 (termP tk e false st).2).code = 0 := fault_code (by decide)
       rw [e1, term_bad h6]
       exact ⟨rfl, fun q => absurd q h6⟩
     · rename_i h4
       have h5 : ¬ opS (hereT tk e (termP tk e false st).2) = 0 := by omega
       have e1 : opP tk e (termP tk e false st).2 = (termP tk e false st).2.next := by unfold opP; rw [if_neg h5]
       rw [e1, h.2 (by omega)]
       exact ⟨rfl, fun _ => rfl⟩
theorem body_agr : ∀ (f : Nat) (st : PS) (a : List Litt), Agr (bodyI tk e f st a) (bodyS tk e f st a)
 | 0, st, a => ⟨rfl, fun _ => rfl⟩
 | f + 1, st, a => by
   unfold bodyI bodyS
   by_cases h0 : st.code = 0
   · rw [if_pos h0, if_pos h0]
     by_cases h1 : beginsT (hereT tk e st) = true ∧ a.length = 8
     · rw [if_pos h1]
       have e1 : fullP tk e a st = faultP tk e 7 st := by unfold fullP; rw [if_pos ⟨h1.2, h1.1⟩]
       have h2 : ¬ (faultP tk e 7 st).code = 0 := fault_code (by decide)
       rw [e1, litS_bad h2, if_neg (by simp [here_bad h2, signT])]
       exact ⟨rfl, fun h => absurd h h2⟩
     · have e1 : fullP tk e a st = st := by unfold fullP; rw [if_neg fun q => h1 ⟨q.2, q.1⟩]
       have h := lit_agr (tk := tk) (e := e) st
       rw [if_neg h1, e1, ← h.1]
       by_cases h3 : signT (hereT tk e (litI tk e st).2) ⟨#[44]⟩ = true
       · rw [if_pos h3, if_pos h3, ← h.2 (here_good (by rw [sign_kind h3]; decide)).1]; exact body_agr f _ _
       · rw [if_neg h3, if_neg h3]; exact ⟨rfl, fun q => by rw [h.2 q]⟩
   · rw [if_neg h0, if_neg h0]; exact ⟨rfl, fun _ => rfl⟩
theorem rule_agr (st : PS) : Agr (ruleI tk e st) (ruleS tk e st) := by
 have h := atom_agr (tk := tk) (e := e) (plusP tk e st).2
 have h2 := body_agr (tk := tk) (e := e) 10 (atomI tk e (plusP tk e st).2).2.next []
 unfold ruleI ruleS
 rw [← h.1]
 split
 · rename_i h3
   refine ⟨by rw [h2.1], fun q => ?_⟩
   rw [h2.2 (take_code q), h.2 (here_good (by rw [sign_kind h3]; decide)).1]
 · exact ⟨rfl, fun q => by rw [h.2 (take_code q)]⟩
theorem decl_agr (k : Int) (st : PS) : Agr (declI tk e k st) (declS tk e k st.next) := by
 unfold declI declS
 split
 · split
   · have h2 : ¬ (faultP tk e 7 (slashP tk e st.next)).code = 0 := fault_code (by decide)
     rw [take_bad h2]
     exact ⟨rfl, fun q => absurd q h2⟩
   · exact ⟨rfl, fun _ => rfl⟩
 · have h2 : ¬ (faultP tk e 6 (slashP tk e st.next)).code = 0 := fault_code (by decide)
   rw [take_bad h2]
   exact ⟨rfl, fun q => absurd q h2⟩
theorem progI_bad {f : Nat} {st : PS} {ds : List Declt} {rs : List Rulet} (h : ¬ st.code = 0) : progI tk e f st ds rs = (ds, rs, st) := by cases f <;> simp [progI, h]
theorem progS_bad {f : Nat} {st : PS} {ds : List Declt} {rs : List Rulet} (h : ¬ st.code = 0) : progS tk e f st ds rs = (ds, rs, st) := by cases f <;> simp [progS, h]
theorem end_bad {ds ds2 : List Declt} {rs rs2 : List Rulet} {st st2 : PS} (h : ¬ st.code = 0) (hc : st.code = st2.code) (hp : st.place = st2.place) : endR (ds, rs, st) = endR (ds2, rs2, st2) := by
 unfold endR
 rw [if_neg h, if_neg (by show ¬ st2.code = 0; omega)]
 show (_, st.code, st.place) = (_, st2.code, st2.place)
 rw [hc, hp]
theorem name_none {t : Tokent} (h : ¬ startsT t = true) : ¬ nameT t = true ∧ signT t ⟨#[43]⟩ = false ∧ signT t ⟨#[45]⟩ = false := by
 unfold startsT at h
 cases h1 : nameT t <;> cases h2 : signT t ⟨#[43]⟩ <;> cases h3 : signT t ⟨#[45]⟩ <;> simp_all
theorem prog_agr : ∀ (f : Nat) (st : PS) (ds : List Declt) (rs : List Rulet), endR (progI tk e f st ds rs) = endR (progS tk e f st ds rs)
 | 0, st, ds, rs => rfl
 | f + 1, st, ds, rs => by
   unfold progI progS
   by_cases h0 : st.code = 0 ∧ st.i < tk.length
   · rw [if_pos h0, if_pos h0]
     have hk := kindI_pos (hereT tk e st)
     by_cases h1 : 0 < kindI (hereT tk e st)
     · have h1' : 0 < kindS (hereT tk e st) := hk.1.1 h1
       rw [if_pos h1']
       have hst : startsT (hereT tk e st) = false := by
         have q := kindI_kind h1
         have q2 : keptB (hereT tk e st).s = true := by
           unfold kindS kindN at h1'
           rw [if_pos q] at h1'
           unfold keptB
           repeat' split at h1'
           · rename_i h; rw [ba_iff.1 h]; simp [ByteArray.toList_eq]
           · rename_i h; rw [ba_iff.1 h]; simp [ByteArray.toList_eq]
           · rename_i h; rw [ba_iff.1 h]; simp [ByteArray.toList_eq]
           · omega
         simp [startsT, nameT, signT, q, q2]
       by_cases h2 : ds.length = 16
       · have h3 : ¬ (faultP tk e 7 st).code = 0 := fault_code (by decide)
         have h3' : ¬ (faultP tk e 7 st).next.code = 0 := h3
         have e1 : fullD tk e ds st = faultP tk e 7 st := by unfold fullD; rw [if_pos h2]
         rw [if_pos (.inl ⟨h1, h2⟩), progI_bad h3, e1]
         have h4 := declS_bad (tk := tk) (e := e) (k := kindS (hereT tk e st)) h3'
         rw [progS_bad (by rw [h4]; exact h3'), h4]
         exact end_bad h3 rfl rfl
       · have e1 : fullD tk e ds st = st := by unfold fullD; rw [if_neg h2]
         rw [if_neg (by rw [hst]; simp [h2]), if_pos h1, e1, hk.2 h1]
         have h := decl_agr (tk := tk) (e := e) (kindS (hereT tk e st)) st
         by_cases h5 : (declI tk e (kindS (hereT tk e st)) st).2.code = 0
         · rw [← h.1, ← h.2 h5]; exact prog_agr f _ _ _
         · rw [progI_bad h5, ← h.1, progS_bad h5]
           exact end_bad h5 rfl rfl
     · rw [if_neg (show ¬ 0 < kindS (hereT tk e st) by omega)]
       by_cases h2 : startsT (hereT tk e st) = true ∧ rs.length = 24
       · have h3 : ¬ (faultP tk e 7 st).code = 0 := fault_code (by decide)
         have e1 : fullR tk e rs st = faultP tk e 7 st := by unfold fullR; rw [if_pos h2]
         rw [if_pos (.inr h2), progI_bad h3, e1]
         have h4 := ruleS_bad (tk := tk) (e := e) h3
         rw [progS_bad (by rw [h4]; exact h3), h4]
         exact end_bad h3 rfl rfl
       · have e1 : fullR tk e rs st = st := by unfold fullR; rw [if_neg h2]
         rw [if_neg (by intro q; rcases q with q | q; exact h1 q.1; exact h2 q), if_neg h1, e1]
         by_cases h4 : startsT (hereT tk e st) = true
         · rw [if_pos h4]
           have h := rule_agr (tk := tk) (e := e) st
           by_cases h5 : (ruleI tk e st).2.code = 0
           · rw [← h.1, ← h.2 h5]; exact prog_agr f _ _ _
           · rw [progI_bad h5, ← h.1, progS_bad h5]
             exact end_bad h5 rfl rfl
         · rw [if_neg h4]
           have h3 : ¬ (faultP tk e 6 st).code = 0 := fault_code (by decide)
           obtain ⟨n1, n2, n3⟩ := name_none h4
           have e2 : plusP tk e st = (1, st) := by simp [plusP, n2, n3]
           have e3 : wordP tk e st = (⟨#[]⟩, faultP tk e 6 st) := by unfold wordP; rw [if_neg n1]
           have e4 : atomOpen tk e st = faultP tk e 6 st := by unfold atomOpen; rw [e3, take_bad h3]
           have e5 : (atomS tk e st).2 = faultP tk e 6 st := by
             unfold atomS; rw [e4, if_neg (by simp [here_bad h3, signT]), argsS_bad h3, take_bad h3]
           have e6 : (ruleS tk e st).2 = faultP tk e 6 st := by
             unfold ruleS; rw [e2, e5, if_neg (by simp [here_bad h3, signT]), take_bad h3]
           rw [progI_bad h3, e6, progS_bad h3]
           exact end_bad h3 rfl rfl
   · rw [if_neg h0, if_neg h0]
theorem parse_agr (s : ByteArray) : parseI s = parseS s := by
 unfold parseI parseS
 rw [prog_agr]
end
end Go.Proofs.Ytkemjhlbokldhaa

/- Reading tokens: step by step. -/
namespace Go.Proofs.Ytkemjhlbokldhaa
open Go.RowKit
set_option linter.unusedVariables false
set_option linter.unusedSimpArgs false

section
variable {tk : List Tokent} {e : Int}
/-! ### where a reader may stand -/
theorem fault_i {c : Int} {st : PS} : (faultP tk e c st).i = st.i := by unfold faultP; split <;> rfl
theorem fault_ok {c : Int} {st : PS} (h : st.code = 0) : faultP tk e c st = ⟨st.i, c, (hereT tk e st).pl⟩ := if_pos h
theorem good_lt {st : PS} (h : ¬ (hereT tk e st).kind = 0) : st.i < tk.length := (here_good h).2
theorem sign_lt {st : PS} {s : ByteArray} (h : signT (hereT tk e st) s = true) : st.i < tk.length := good_lt (by rw [sign_kind h]; decide)
theorem name_lt {st : PS} (h : nameT (hereT tk e st) = true) : st.i < tk.length := good_lt (by rw [name_kind h]; decide)
theorem term_lt {st : PS} (h : termT (hereT tk e st) = true) : st.i < tk.length := good_lt (term_kind h)
theorem not_lt {st : PS} (h : notT (hereT tk e st) = true) : st.i < tk.length := good_lt (by rw [not_kind h]; decide)
theorem take_ok {s : ByteArray} {st : PS} (h : signT (hereT tk e st) s = true) : takeP tk e s st = st.next := if_pos h
theorem take_no {s : ByteArray} {st : PS} (h : signT (hereT tk e st) s = false) : takeP tk e s st = faultP tk e 6 st := if_neg (by rw [h]; decide)
theorem word_ok {st : PS} (h : nameT (hereT tk e st) = true) : wordP tk e st = ((hereT tk e st).s, st.next) := if_pos h
theorem word_no {st : PS} (h : nameT (hereT tk e st) = false) : wordP tk e st = (⟨#[]⟩, faultP tk e 6 st) := if_neg (by rw [h]; decide)
theorem term_no {b : Bool} {st : PS} (h : termT (hereT tk e st) = false) : termP tk e b st = (noTerm, faultP tk e 6 st) := if_neg (by rw [h]; decide)
theorem term_ok {st : PS} (h : termT (hereT tk e st) = true) : termP tk e false st = (termOfT (hereT tk e st), st.next) := by unfold termP; rw [if_pos h, if_neg (by decide)]
theorem term_over {st : PS} (h : termT (hereT tk e st) = true) : termP tk e true st = (noTerm, faultP tk e 7 st) := by unfold termP; rw [if_pos h, if_pos rfl]
theorem take_le {s : ByteArray} {st : PS} (h : st.i ≤ tk.length) : (takeP tk e s st).i ≤ tk.length := by
 unfold takeP; split
 · rename_i h2; exact sign_lt h2
 · rw [fault_i]; exact h
theorem word_le {st : PS} (h : st.i ≤ tk.length) : (wordP tk e st).2.i ≤ tk.length := by
 unfold wordP; split
 · rename_i h2; exact name_lt h2
 · show (faultP tk e 6 st).i ≤ _; rw [fault_i]; exact h
theorem term_le {b : Bool} {st : PS} (h : st.i ≤ tk.length) : (termP tk e b st).2.i ≤ tk.length := by
 unfold termP; split
 · rename_i h2
   split
   · show (faultP tk e 7 st).i ≤ _; rw [fault_i]; exact h
   · exact term_lt h2
 · show (faultP tk e 6 st).i ≤ _; rw [fault_i]; exact h
theorem open_le {st : PS} (h : st.i ≤ tk.length) : (atomOpen tk e st).i ≤ tk.length := take_le (word_le h)
theorem slash_le {st : PS} (h : st.i ≤ tk.length) : (slashP tk e st).i ≤ tk.length := take_le (word_le h)
theorem argsI_le : ∀ (f : Nat) (st : PS) (a : List Termt), st.i ≤ tk.length → (argsI tk e f st a).2.i ≤ tk.length
 | 0, st, a, h => h
 | f + 1, st, a, h => by
   unfold argsI
   split
   · split
     · show (faultP tk e 7 st).i ≤ _; rw [fault_i]; exact h
     · split
       · rename_i h2; exact argsI_le f _ _ (sign_lt h2)
       · exact term_le h
   · exact h
theorem atomI_le {st : PS} (h : st.i ≤ tk.length) : (atomI tk e st).2.i ≤ tk.length := by
 unfold atomI; split
 · rename_i h2; exact sign_lt h2
 · exact take_le (argsI_le 8 _ _ (open_le h))
theorem atomS_le {st : PS} (h : st.i ≤ tk.length) : (atomS tk e st).2.i ≤ tk.length := by rw [← (atom_agr st).1]; exact atomI_le h
theorem litI_le {st : PS} (h : st.i ≤ tk.length) : (litI tk e st).2.i ≤ tk.length := by
 unfold litI; split
 · rename_i h2; exact atomI_le (not_lt h2)
 · split
   · exact atomI_le h
   · split
     · show (faultP tk e 6 _).i ≤ _; rw [fault_i]; exact term_le h
     · rename_i h3
       exact term_le (st := (termP tk e false st).2.next) (good_lt (st := (termP tk e false st).2) (e := e) (by rw [opI_kind (t := hereT tk e (termP tk e false st).2) (by omega)]; decide))
theorem litS_le {st : PS} (h : st.i ≤ tk.length) : (litS tk e st).2.i ≤ tk.length := by rw [← (lit_agr st).1]; exact litI_le h
theorem bodyI_le : ∀ (f : Nat) (st : PS) (a : List Litt), st.i ≤ tk.length → (bodyI tk e f st a).2.i ≤ tk.length
 | 0, st, a, h => h
 | f + 1, st, a, h => by
   unfold bodyI
   split
   · split
     · show (faultP tk e 7 st).i ≤ _; rw [fault_i]; exact h
     · split
       · rename_i h2; exact bodyI_le f _ _ (sign_lt h2)
       · exact litI_le h
   · exact h
theorem plus_le {st : PS} (h : st.i ≤ tk.length) : (plusP tk e st).2.i ≤ tk.length := by
 unfold plusP; split
 · rename_i h2; exact sign_lt h2
 · split
   · rename_i h2; exact sign_lt h2
   · exact h
theorem ruleI_le {st : PS} (h : st.i ≤ tk.length) : (ruleI tk e st).2.i ≤ tk.length := by
 unfold ruleI; split
 · rename_i h2; exact take_le (bodyI_le 10 _ _ (sign_lt h2))
 · exact take_le (atomI_le (plus_le h))
theorem ruleS_le {st : PS} (h : st.i ≤ tk.length) : (ruleS tk e st).2.i ≤ tk.length := by rw [← (rule_agr st).1]; exact ruleI_le h
theorem declI_le {k : Int} {st : PS} (h : st.i < tk.length) : (declI tk e k st).2.i ≤ tk.length := by
 have h1 : (slashP tk e st.next).i ≤ tk.length := slash_le h
 unfold declI; split
 · rename_i h3
   split
   · refine take_le ?_; rw [fault_i]; exact h1
   · refine take_le (st := (slashP tk e st.next).next) (good_lt (st := slashP tk e st.next) (e := e) (by rw [h3]; decide))
 · refine take_le ?_; rw [fault_i]; exact h1
theorem declS_le {k : Int} {st : PS} (h : st.i ≤ tk.length) : (declS tk e k st).2.i ≤ tk.length := by
 have h1 : (slashP tk e st).i ≤ tk.length := slash_le h
 unfold declS; split
 · rename_i h3
   split
   · show (faultP tk e 7 _).i ≤ _; rw [fault_i]; exact h1
   · refine take_le (st := (slashP tk e st).next) (good_lt (st := slashP tk e st) (e := e) (by rw [h3]; decide))
 · show (faultP tk e 6 _).i ≤ _; rw [fault_i]; exact h1
theorem of_var {t : Tokent} (h : t.kind = 2) : termOfT t = ⟨t.s, ⟨0, ⟨#[]⟩⟩⟩ := if_pos h
theorem of_num {t : Tokent} (h : ¬ t.kind = 2) (h2 : t.kind = 3) : termOfT t = ⟨⟨#[]⟩, ⟨t.n, ⟨#[]⟩⟩⟩ := (if_neg h).trans (if_pos h2)
theorem of_name {t : Tokent} (h : ¬ t.kind = 2) (h2 : ¬ t.kind = 3) : termOfT t = ⟨⟨#[]⟩, ⟨0, t.s⟩⟩ := (if_neg h).trans (if_neg h2)
/-- What the reference makes of a term's token. -/
theorem of_any {t : Tokent} (h : tokOk t) (h2 : ¬ t.kind = 2) (h4 : ¬ t.kind = 4) : termOfT t = ⟨⟨#[]⟩, ⟨t.n, t.s⟩⟩ := by
 rcases h with h | h | h | h
 · rw [of_name h2 (by omega), h.2.1]
 · exact absurd h.1 h2
 · rw [of_num h2 h.1, h.2.1]
 · exact absurd h h4
/-! ### the arguments -/
theorem args_full {st : PS} {a : List Termt} (h0 : st.code = 0) (h1 : termT (hereT tk e st) = true) (h2 : (a.length : Int) = 6) : argsI tk e (8 - a.length) st a = (a, faultP tk e 7 st) := by
 obtain ⟨f, hf⟩ : ∃ f, 8 - a.length = f + 1 := ⟨1, by omega⟩
 rw [hf]; unfold argsI
 rw [if_pos h0, if_pos ⟨h1, by omega⟩]
theorem args_last {st : PS} {a : List Termt} (h0 : st.code = 0) (h1 : ¬ (termT (hereT tk e st) = true ∧ (a.length : Int) = 6)) (hl : a.length ≤ 6) (hs : signT (hereT tk e (termP tk e false st).2) ⟨#[44]⟩ = false) : argsI tk e (8 - a.length) st a = (a ++ [(termP tk e false st).1], (termP tk e false st).2) := by
 obtain ⟨f, hf⟩ : ∃ f, 8 - a.length = f + 1 := ⟨7 - a.length, by omega⟩
 rw [hf]; unfold argsI
 rw [if_pos h0, if_neg (fun q => h1 ⟨q.1, by omega⟩), if_neg (by rw [hs]; decide)]
theorem args_more {st : PS} {a : List Termt} (h0 : st.code = 0) (h1 : ¬ (termT (hereT tk e st) = true ∧ (a.length : Int) = 6)) (hl : a.length ≤ 6) (hs : signT (hereT tk e (termP tk e false st).2) ⟨#[44]⟩ = true) :
   a.length + 1 ≤ 6 ∧ (termP tk e false st).2.i < tk.length ∧ argsI tk e (8 - (a ++ [(termP tk e false st).1]).length) (termP tk e false st).2.next (a ++ [(termP tk e false st).1]) = argsI tk e (8 - a.length) st a := by
 have h6 : ¬ a.length = 6 := fun q => by
   have h2 : termT (hereT tk e st) = false := by
     cases h : termT (hereT tk e st)
     · rfl
     · exact absurd ⟨h, by omega⟩ h1
   rw [term_no h2] at hs
   have h3 : ¬ (faultP tk e 6 st).code = 0 := fault_code (by decide)
   simp [here_bad h3, signT] at hs
 refine ⟨by omega, sign_lt hs, ?_⟩
 obtain ⟨f, hf⟩ : ∃ f, 8 - a.length = f + 1 := ⟨7 - a.length, by omega⟩
 have hf2 : 8 - (a ++ [(termP tk e false st).1]).length = f := by simp; omega
 rw [hf, hf2, argsI, if_pos h0, if_neg (fun q => h1 ⟨q.1, by omega⟩), if_pos hs]
theorem argsS_last {st : PS} {a : List Termt} (h0 : st.code = 0) (hl : a.length ≤ 6) (hs : signT (hereT tk e (termP tk e (decide ((a.length : Int) = 6)) st).2) ⟨#[44]⟩ = false) : argsS tk e (8 - a.length) st a = (a ++ [(termP tk e (decide ((a.length : Int) = 6)) st).1], (termP tk e (decide ((a.length : Int) = 6)) st).2) := by
 have ed : decide ((a.length : Int) = 6) = decide (a.length = 6) := by rw [decide_eq_decide]; omega
 rw [ed] at hs ⊢
 obtain ⟨f, hf⟩ : ∃ f, 8 - a.length = f + 1 := ⟨7 - a.length, by omega⟩
 rw [hf]; unfold argsS
 rw [if_pos h0, if_neg (by rw [hs]; decide)]
theorem argsS_more {st : PS} {a : List Termt} (h0 : st.code = 0) (hl : a.length ≤ 6) (hs : signT (hereT tk e (termP tk e (decide ((a.length : Int) = 6)) st).2) ⟨#[44]⟩ = true) :
   a.length + 1 ≤ 6 ∧ (termP tk e (decide ((a.length : Int) = 6)) st).2.i < tk.length ∧ argsS tk e (8 - (a ++ [(termP tk e (decide ((a.length : Int) = 6)) st).1]).length) (termP tk e (decide ((a.length : Int) = 6)) st).2.next (a ++ [(termP tk e (decide ((a.length : Int) = 6)) st).1]) = argsS tk e (8 - a.length) st a := by
 have ed : decide ((a.length : Int) = 6) = decide (a.length = 6) := by rw [decide_eq_decide]; omega
 rw [ed] at hs ⊢
 have h6 : ¬ a.length = 6 := fun q => by
   have h3 : ¬ (termP tk e (decide (a.length = 6)) st).2.code = 0 := by
     unfold termP; split
     · rw [if_pos (by simp [q])]; exact fault_code (by decide)
     · exact fault_code (by decide)
   simp [here_bad h3, signT] at hs
 refine ⟨by omega, sign_lt hs, ?_⟩
 obtain ⟨f, hf⟩ : ∃ f, 8 - a.length = f + 1 := ⟨7 - a.length, by omega⟩
 have hf2 : 8 - (a ++ [(termP tk e (decide (a.length = 6)) st).1]).length = f := by simp; omega
 rw [hf, hf2, argsS, if_pos h0, if_pos hs]
/-! ### an atom -/
theorem atomI_none {st : PS} (h : signT (hereT tk e (atomOpen tk e st)) ⟨#[41]⟩ = true) : atomI tk e st = (⟨(wordP tk e st).1, []⟩, (atomOpen tk e st).next) := if_pos h
theorem atomS_none {st : PS} (h : signT (hereT tk e (atomOpen tk e st)) ⟨#[41]⟩ = true) : atomS tk e st = (⟨(wordP tk e st).1, []⟩, (atomOpen tk e st).next) := if_pos h
theorem atomI_some {st s2 : PS} {a : List Termt} (h : signT (hereT tk e (atomOpen tk e st)) ⟨#[41]⟩ = false) (h2 : argsI tk e 8 (atomOpen tk e st) [] = (a, s2)) : atomI tk e st = (⟨(wordP tk e st).1, a⟩, takeP tk e ⟨#[41]⟩ s2) := by
 unfold atomI; rw [if_neg (by rw [h]; decide), h2]
theorem atomS_some {st s2 : PS} {a : List Termt} (h : signT (hereT tk e (atomOpen tk e st)) ⟨#[41]⟩ = false) (h2 : argsS tk e 8 (atomOpen tk e st) [] = (a, s2)) : atomS tk e st = (⟨(wordP tk e st).1, a⟩, takeP tk e ⟨#[41]⟩ s2) := by
 unfold atomS; rw [if_neg (by rw [h]; decide), h2]
/-! ### a literal -/
theorem litI_not {st : PS} (h : notT (hereT tk e st) = true) : litI tk e st = (⟨2, (atomI tk e st.next).1, 0, noTerm, noTerm⟩, (atomI tk e st.next).2) := if_pos h
theorem litS_not {st : PS} (h : notT (hereT tk e st) = true) : litS tk e st = (⟨2, (atomS tk e st.next).1, 0, noTerm, noTerm⟩, (atomS tk e st.next).2) := if_pos h
theorem litI_is {st : PS} (h : notT (hereT tk e st) = false) (h2 : openT tk e st = true) : litI tk e st = (⟨1, (atomI tk e st).1, 0, noTerm, noTerm⟩, (atomI tk e st).2) := (if_neg (by rw [h]; decide)).trans (if_pos h2)
theorem litS_is {st : PS} (h : notT (hereT tk e st) = false) (h2 : openT tk e st = true) : litS tk e st = (⟨1, (atomS tk e st).1, 0, noTerm, noTerm⟩, (atomS tk e st).2) := (if_neg (by rw [h]; decide)).trans (if_pos h2)
theorem litI_bad {st : PS} (h : notT (hereT tk e st) = false) (h2 : openT tk e st = false) (h3 : opI (hereT tk e (termP tk e false st).2) < 1) : litI tk e st = (⟨3, noAtom, opI (hereT tk e (termP tk e false st).2), (termP tk e false st).1, noTerm⟩, faultP tk e 6 (termP tk e false st).2) :=
 (if_neg (by rw [h]; decide)).trans ((if_neg (by rw [h2]; decide)).trans (if_pos h3))
theorem litI_cmp {st : PS} (h : notT (hereT tk e st) = false) (h2 : openT tk e st = false) (h3 : ¬ opI (hereT tk e (termP tk e false st).2) < 1) : litI tk e st = (⟨3, noAtom, opI (hereT tk e (termP tk e false st).2), (termP tk e false st).1, (termP tk e false (termP tk e false st).2.next).1⟩, (termP tk e false (termP tk e false st).2.next).2) :=
 (if_neg (by rw [h]; decide)).trans ((if_neg (by rw [h2]; decide)).trans (if_neg h3))
theorem litS_cmp {st s2 : PS} (h : notT (hereT tk e st) = false) (h2 : openT tk e st = false) (h3 : opP tk e (termP tk e false st).2 = s2) : litS tk e st = (⟨3, noAtom, opS (hereT tk e (termP tk e false st).2), (termP tk e false st).1, (termP tk e false s2).1⟩, (termP tk e false s2).2) := by
 subst h3
 exact (if_neg (by rw [h]; decide)).trans (if_neg (by rw [h2]; decide))
theorem op_lt {st : PS} (h : ¬ opI (hereT tk e st) < 1) : st.i < tk.length := good_lt (by rw [opI_kind (t := hereT tk e st) (by omega)]; decide)
theorem opP_no {st : PS} (h : opS (hereT tk e st) = 0) : opP tk e st = faultP tk e 6 st := if_pos h
theorem opP_ok {st : PS} (h : ¬ opS (hereT tk e st) = 0) : opP tk e st = st.next ∧ st.i < tk.length := by
 refine ⟨if_neg h, good_lt (e := e) ?_⟩
 intro h0; apply h; unfold opS; rw [if_neg (by omega)]
/-! ### a body -/
theorem body_full {st : PS} {a : List Litt} (h0 : st.code = 0) (h1 : beginsT (hereT tk e st) = true) (h2 : (a.length : Int) = 8) : bodyI tk e (10 - a.length) st a = (a, faultP tk e 7 st) := by
 obtain ⟨f, hf⟩ : ∃ f, 10 - a.length = f + 1 := ⟨1, by omega⟩
 rw [hf]; unfold bodyI
 rw [if_pos h0, if_pos ⟨h1, by omega⟩]
theorem body_last {st : PS} {a : List Litt} (h0 : st.code = 0) (h1 : ¬ (beginsT (hereT tk e st) = true ∧ (a.length : Int) = 8)) (hl : a.length ≤ 8) (hs : signT (hereT tk e (litI tk e st).2) ⟨#[44]⟩ = false) : bodyI tk e (10 - a.length) st a = (a ++ [(litI tk e st).1], (litI tk e st).2) := by
 obtain ⟨f, hf⟩ : ∃ f, 10 - a.length = f + 1 := ⟨9 - a.length, by omega⟩
 rw [hf]; unfold bodyI
 rw [if_pos h0, if_neg (fun q => h1 ⟨q.1, by omega⟩), if_neg (by rw [hs]; decide)]
/-- What begins no literal is none. -/
theorem lit_none {st : PS} (h : beginsT (hereT tk e st) = false) : ¬ (litI tk e st).2.code = 0 := by
 simp only [beginsT, Bool.or_eq_false_iff] at h
 have h1 : openT tk e st = false := by
   have : nameT (hereT tk e st) = false := by
     have := h.1; unfold termT at this; simp only [Bool.or_eq_false_iff] at this; exact this.2.2
   simp [openT, this]
 have h3 : ¬ (faultP tk e 6 st).code = 0 := fault_code (by decide)
 have h4 : opI (hereT tk e (termP tk e false st).2) < 1 := by rw [term_no h.1]; simp [here_bad h3, opI]
 rw [litI_bad h.2 h1 h4, term_no h.1]
 exact fault_code (by decide)
theorem body_more {st : PS} {a : List Litt} (h0 : st.code = 0) (h1 : ¬ (beginsT (hereT tk e st) = true ∧ (a.length : Int) = 8)) (hl : a.length ≤ 8) (hs : signT (hereT tk e (litI tk e st).2) ⟨#[44]⟩ = true) :
   a.length + 1 ≤ 8 ∧ (litI tk e st).2.i < tk.length ∧ bodyI tk e (10 - (a ++ [(litI tk e st).1]).length) (litI tk e st).2.next (a ++ [(litI tk e st).1]) = bodyI tk e (10 - a.length) st a := by
 have h6 : ¬ a.length = 8 := fun q => by
   have h2 : beginsT (hereT tk e st) = false := by
     cases h : beginsT (hereT tk e st)
     · rfl
     · exact absurd ⟨h, by omega⟩ h1
   simp [here_bad (lit_none h2), signT] at hs
 refine ⟨by omega, sign_lt hs, ?_⟩
 obtain ⟨f, hf⟩ : ∃ f, 10 - a.length = f + 1 := ⟨9 - a.length, by omega⟩
 have hf2 : 10 - (a ++ [(litI tk e st).1]).length = f := by simp; omega
 rw [hf, hf2, bodyI, if_pos h0, if_neg (fun q => h1 ⟨q.1, by omega⟩), if_pos hs]
theorem bodyS_last {st s2 : PS} {a : List Litt} (h0 : st.code = 0) (hf : fullP tk e a st = s2) (hl : a.length ≤ 8) (hs : signT (hereT tk e (litS tk e s2).2) ⟨#[44]⟩ = false) : bodyS tk e (10 - a.length) st a = (a ++ [(litS tk e s2).1], (litS tk e s2).2) := by
 subst hf
 obtain ⟨f, hf⟩ : ∃ f, 10 - a.length = f + 1 := ⟨9 - a.length, by omega⟩
 rw [hf]; unfold bodyS
 rw [if_pos h0, if_neg (by rw [hs]; decide)]
theorem bodyS_more {st s2 : PS} {a : List Litt} (h0 : st.code = 0) (hf : fullP tk e a st = s2) (hl : a.length ≤ 8) (hs : signT (hereT tk e (litS tk e s2).2) ⟨#[44]⟩ = true) :
   a.length + 1 ≤ 8 ∧ (litS tk e s2).2.i < tk.length ∧ bodyS tk e (10 - (a ++ [(litS tk e s2).1]).length) (litS tk e s2).2.next (a ++ [(litS tk e s2).1]) = bodyS tk e (10 - a.length) st a := by
 subst hf
 have h6 : ¬ a.length = 8 := fun q => by
   have h3 : ¬ (litS tk e (fullP tk e a st)).2.code = 0 := by
     by_cases h2 : beginsT (hereT tk e st) = true
     · have e1 : fullP tk e a st = faultP tk e 7 st := by unfold fullP; rw [if_pos ⟨q, h2⟩]
       have h3 : ¬ (faultP tk e 7 st).code = 0 := fault_code (by decide)
       rw [e1, litS_bad h3]; exact h3
     · have e1 : fullP tk e a st = st := by unfold fullP; rw [if_neg fun q => h2 q.2]
       rw [e1, ← (lit_agr st).1]; exact lit_none (by simpa using h2)
   simp [here_bad h3, signT] at hs
 refine ⟨by omega, sign_lt hs, ?_⟩
 obtain ⟨f, hf⟩ : ∃ f, 10 - a.length = f + 1 := ⟨9 - a.length, by omega⟩
 have hf2 : 10 - (a ++ [(litS tk e (fullP tk e a st)).1]).length = f := by simp; omega
 rw [hf, hf2, bodyS, if_pos h0, if_pos hs]
theorem full_on {a : List Litt} {st : PS} (h : (a.length : Int) = 8) (h2 : beginsT (hereT tk e st) = true) : fullP tk e a st = faultP tk e 7 st := if_pos ⟨by omega, h2⟩
theorem full_off {a : List Litt} {st : PS} (h : ¬ ((a.length : Int) = 8 ∧ beginsT (hereT tk e st) = true)) : fullP tk e a st = st := if_neg fun q => h ⟨by omega, q.2⟩
/-! ### a rule -/
theorem plus_plus {st : PS} (h : signT (hereT tk e st) ⟨#[43]⟩ = true) : plusP tk e st = (2, st.next) := if_pos h
theorem plus_minus {st : PS} (h : signT (hereT tk e st) ⟨#[43]⟩ = false) (h2 : signT (hereT tk e st) ⟨#[45]⟩ = true) : plusP tk e st = (3, st.next) := (if_neg (by rw [h]; decide)).trans (if_pos h2)
theorem plus_none {st : PS} (h : signT (hereT tk e st) ⟨#[43]⟩ = false) (h2 : signT (hereT tk e st) ⟨#[45]⟩ = false) : plusP tk e st = (1, st) := (if_neg (by rw [h]; decide)).trans (if_neg (by rw [h2]; decide))
theorem ruleI_body {st : PS} (h : signT (hereT tk e (atomI tk e (plusP tk e st).2).2) ⟨#[58, 45]⟩ = true) : ruleI tk e st = (⟨(plusP tk e st).1, (atomI tk e (plusP tk e st).2).1, (bodyI tk e 10 (atomI tk e (plusP tk e st).2).2.next []).1⟩, takeP tk e ⟨#[46]⟩ (bodyI tk e 10 (atomI tk e (plusP tk e st).2).2.next []).2) := if_pos h
theorem ruleI_bare {st : PS} (h : signT (hereT tk e (atomI tk e (plusP tk e st).2).2) ⟨#[58, 45]⟩ = false) : ruleI tk e st = (⟨(plusP tk e st).1, (atomI tk e (plusP tk e st).2).1, []⟩, takeP tk e ⟨#[46]⟩ (atomI tk e (plusP tk e st).2).2) := if_neg (by rw [h]; decide)
theorem ruleS_body {st s2 : PS} {b : List Litt} (h : signT (hereT tk e (atomS tk e (plusP tk e st).2).2) ⟨#[58, 45]⟩ = true) (h2 : bodyS tk e 10 (atomS tk e (plusP tk e st).2).2.next [] = (b, s2)) : ruleS tk e st = (⟨(plusP tk e st).1, (atomS tk e (plusP tk e st).2).1, b⟩, takeP tk e ⟨#[46]⟩ s2) := by
 unfold ruleS; rw [if_pos h, h2]
theorem ruleS_bare {st : PS} (h : signT (hereT tk e (atomS tk e (plusP tk e st).2).2) ⟨#[58, 45]⟩ = false) : ruleS tk e st = (⟨(plusP tk e st).1, (atomS tk e (plusP tk e st).2).1, []⟩, takeP tk e ⟨#[46]⟩ (atomS tk e (plusP tk e st).2).2) := if_neg (by rw [h]; decide)
/-! ### a declaration -/
theorem declI_no {k : Int} {st : PS} (h : ¬ (hereT tk e (slashP tk e st.next)).kind = 3) : declI tk e k st = (⟨k, (wordP tk e st.next).1, 0⟩, takeP tk e ⟨#[46]⟩ (faultP tk e 6 (slashP tk e st.next))) := if_neg h
theorem declI_big {k : Int} {st : PS} (h : (hereT tk e (slashP tk e st.next)).kind = 3) (h2 : 6 < (hereT tk e (slashP tk e st.next)).n) : declI tk e k st = (⟨k, (wordP tk e st.next).1, 0⟩, takeP tk e ⟨#[46]⟩ (faultP tk e 7 (slashP tk e st.next))) := (if_pos h).trans (if_pos h2)
theorem declI_ok {k : Int} {st : PS} (h : (hereT tk e (slashP tk e st.next)).kind = 3) (h2 : ¬ 6 < (hereT tk e (slashP tk e st.next)).n) : declI tk e k st = (⟨k, (wordP tk e st.next).1, (hereT tk e (slashP tk e st.next)).n⟩, takeP tk e ⟨#[46]⟩ (slashP tk e st.next).next) := (if_pos h).trans (if_neg h2)
theorem declS_no {k : Int} {st : PS} (h : ¬ (hereT tk e (slashP tk e st)).kind = 3) : declS tk e k st = (⟨k, (wordP tk e st).1, 0⟩, faultP tk e 6 (slashP tk e st)) := if_neg h
theorem declS_big {k : Int} {st : PS} (h : (hereT tk e (slashP tk e st)).kind = 3) (h2 : 6 < (hereT tk e (slashP tk e st)).n) : declS tk e k st = (⟨k, (wordP tk e st).1, (hereT tk e (slashP tk e st)).n⟩, faultP tk e 7 (slashP tk e st)) := (if_pos h).trans (if_pos h2)
theorem declS_ok {k : Int} {st : PS} (h : (hereT tk e (slashP tk e st)).kind = 3) (h2 : ¬ 6 < (hereT tk e (slashP tk e st)).n) : declS tk e k st = (⟨k, (wordP tk e st).1, (hereT tk e (slashP tk e st)).n⟩, takeP tk e ⟨#[46]⟩ (slashP tk e st).next) := (if_pos h).trans (if_neg h2)
theorem num_lt {st : PS} (h : (hereT tk e st).kind = 3) : st.i < tk.length := good_lt (by rw [h]; decide)
/-! ### a program -/
def muP (st : PS) (ds : List Declt) (rs : List Rulet) : Nat := (43 - ds.length - rs.length) * 2 + (if st.code = 0 then 1 else 0)
theorem muP_fault {st st2 : PS} {ds : List Declt} {rs : List Rulet} (h : st.code = 0) (h2 : ¬ st2.code = 0) : muP st2 ds rs < muP st ds rs := by
 unfold muP; rw [if_pos h, if_neg h2]; omega
theorem muP_decl {st st2 : PS} {ds : List Declt} {rs : List Rulet} {d : Declt} (h : st.code = 0) (h2 : ds.length + rs.length < 43) : muP st2 (ds ++ [d]) rs < muP st ds rs := by
 unfold muP; rw [if_pos h, List.length_append, List.length_cons, List.length_nil]; split <;> omega
theorem muP_rule {st st2 : PS} {ds : List Declt} {rs : List Rulet} {r : Rulet} (h : st.code = 0) (h2 : ds.length + rs.length < 43) : muP st2 ds (rs ++ [r]) < muP st ds rs := by
 unfold muP; rw [if_pos h, List.length_append, List.length_cons, List.length_nil]; split <;> omega
def progT (tk : List Tokent) (e : Int) (st : PS) (ds : List Declt) (rs : List Rulet) : ProgR := progI tk e (43 - ds.length - rs.length) st ds rs
theorem progT_end {st : PS} {ds : List Declt} {rs : List Rulet} (h : ¬ (st.code = 0 ∧ st.i < tk.length)) (hl : ds.length ≤ 16 ∧ rs.length ≤ 24) : progT tk e st ds rs = (ds, rs, st) := by
 unfold progT
 obtain ⟨f, hf⟩ : ∃ f, 43 - ds.length - rs.length = f + 1 := ⟨42 - ds.length - rs.length, by omega⟩
 rw [hf, progI, if_neg h]
theorem progT_fault {st : PS} {ds : List Declt} {rs : List Rulet} {c : Int} (hc : ¬ c = 0) : progT tk e (faultP tk e c st) ds rs = (ds, rs, faultP tk e c st) := progI_bad (fault_code hc)
section
variable {st : PS} {ds : List Declt} {rs : List Rulet} (h0 : st.code = 0) (h1 : st.i < tk.length) (hl : ds.length ≤ 16 ∧ rs.length ≤ 24)
include h0 h1 hl
theorem progT_full (h : (0 < kindI (hereT tk e st) ∧ (ds.length : Int) = 16) ∨ (startsT (hereT tk e st) = true ∧ (rs.length : Int) = 24)) : progT tk e (faultP tk e 7 st) ds rs = progT tk e st ds rs := by
 rw [progT_fault (by decide)]
 unfold progT
 obtain ⟨f, hf⟩ : ∃ f, 43 - ds.length - rs.length = f + 1 := ⟨42 - ds.length - rs.length, by omega⟩
 rw [hf, progI, if_pos ⟨h0, h1⟩, if_pos (by rcases h with h | h; exact .inl ⟨h.1, by omega⟩; exact .inr ⟨h.1, by omega⟩), progI_bad (fault_code (by decide))]
theorem progT_decl (h : ¬ ((0 < kindI (hereT tk e st) ∧ (ds.length : Int) = 16) ∨ (startsT (hereT tk e st) = true ∧ (rs.length : Int) = 24))) (hk : 0 < kindI (hereT tk e st)) :
   progT tk e (declI tk e (kindI (hereT tk e st)) st).2 (ds ++ [(declI tk e (kindI (hereT tk e st)) st).1]) rs = progT tk e st ds rs ∧ ds.length < 16 := by
 have h2 : ¬ ds.length = 16 := fun q => h (.inl ⟨hk, by omega⟩)
 refine ⟨?_, by omega⟩
 unfold progT
 obtain ⟨f, hf⟩ : ∃ f, 43 - ds.length - rs.length = f + 1 := ⟨42 - ds.length - rs.length, by omega⟩
 have hf2 : 43 - (ds ++ [(declI tk e (kindI (hereT tk e st)) st).1]).length - rs.length = f := by simp; omega
 rw [hf, hf2]
 conv => rhs; rw [progI, if_pos ⟨h0, h1⟩, if_neg (by intro q; rcases q with q | q; exact h (.inl ⟨q.1, by omega⟩); exact h (.inr ⟨q.1, by omega⟩)), if_pos hk]
theorem progT_rule (h : ¬ ((0 < kindI (hereT tk e st) ∧ (ds.length : Int) = 16) ∨ (startsT (hereT tk e st) = true ∧ (rs.length : Int) = 24))) (hk : ¬ 0 < kindI (hereT tk e st)) (hs : startsT (hereT tk e st) = true) :
   progT tk e (ruleI tk e st).2 ds (rs ++ [(ruleI tk e st).1]) = progT tk e st ds rs ∧ rs.length < 24 := by
 have h2 : ¬ rs.length = 24 := fun q => h (.inr ⟨hs, by omega⟩)
 refine ⟨?_, by omega⟩
 unfold progT
 obtain ⟨f, hf⟩ : ∃ f, 43 - ds.length - rs.length = f + 1 := ⟨42 - ds.length - rs.length, by omega⟩
 have hf2 : 43 - ds.length - (rs ++ [(ruleI tk e st).1]).length = f := by simp; omega
 rw [hf, hf2]
 conv => rhs; rw [progI, if_pos ⟨h0, h1⟩, if_neg (by intro q; rcases q with q | q; exact h (.inl ⟨q.1, by omega⟩); exact h (.inr ⟨q.1, by omega⟩)), if_neg hk, if_pos hs]
theorem progT_none (hk : ¬ 0 < kindI (hereT tk e st)) (hs : startsT (hereT tk e st) = false) : progT tk e (faultP tk e 6 st) ds rs = progT tk e st ds rs := by
 rw [progT_fault (by decide)]
 unfold progT
 obtain ⟨f, hf⟩ : ∃ f, 43 - ds.length - rs.length = f + 1 := ⟨42 - ds.length - rs.length, by omega⟩
 rw [hf, progI, if_pos ⟨h0, h1⟩, if_neg (by rw [hs]; rintro (q | q); exact hk q.1; exact absurd q.1 (by decide)), if_neg hk, if_neg (by rw [hs]; decide), progI_bad (fault_code (by decide))]
end
/-- The reference's program; it may have one rule or declaration too many once there is a fault. -/
def progU (tk : List Tokent) (e : Int) (st : PS) (ds : List Declt) (rs : List Rulet) : ProgR := progS tk e (43 - ds.length - rs.length) st ds rs
def okU (st : PS) (ds : List Declt) (rs : List Rulet) : Prop := (ds.length ≤ 17 ∧ rs.length ≤ 25) ∧ (st.code = 0 → st.i ≤ tk.length ∧ ds.length ≤ 16 ∧ rs.length ≤ 24)
theorem progU_end {st : PS} {ds : List Declt} {rs : List Rulet} (h : ¬ (st.code = 0 ∧ st.i < tk.length)) : progU tk e st ds rs = (ds, rs, st) := by
 unfold progU
 cases 43 - ds.length - rs.length with
 | zero => rfl
 | succ f => rw [progS, if_neg h]
section
variable {st s2 : PS} {ds : List Declt} {rs : List Rulet} (h0 : st.code = 0) (h1 : st.i < tk.length) (hl : ds.length ≤ 16 ∧ rs.length ≤ 24)
include h0 h1 hl
theorem progU_decl (hk : 0 < kindS (hereT tk e st)) (hf : fullD tk e ds st = s2) :
   progU tk e (declS tk e (kindS (hereT tk e st)) s2.next).2 (ds ++ [(declS tk e (kindS (hereT tk e st)) s2.next).1]) rs = progU tk e st ds rs ∧ ((declS tk e (kindS (hereT tk e st)) s2.next).2.code = 0 → ds.length < 16 ∧ (declS tk e (kindS (hereT tk e st)) s2.next).2.i ≤ tk.length) := by
 subst hf
 constructor
 · unfold progU
   obtain ⟨f, hf⟩ : ∃ f, 43 - ds.length - rs.length = f + 1 := ⟨42 - ds.length - rs.length, by omega⟩
   have hf2 : 43 - (ds ++ [(declS tk e (kindS (hereT tk e st)) (fullD tk e ds st).next).1]).length - rs.length = f := by simp; omega
   rw [hf, hf2]
   conv => rhs; rw [progS, if_pos ⟨h0, h1⟩, if_pos hk]
 · intro hc
   by_cases q : ds.length = 16
   · exfalso
     have e1 : fullD tk e ds st = faultP tk e 7 st := by unfold fullD; rw [if_pos q]
     have h3 : ¬ (faultP tk e 7 st).next.code = 0 := fault_code (by decide)
     rw [e1, declS_bad h3] at hc
     exact h3 hc
   · have e1 : fullD tk e ds st = st := by unfold fullD; rw [if_neg q]
     rw [e1]
     exact ⟨by omega, declS_le (st := st.next) h1⟩
theorem progU_rule (hk : ¬ 0 < kindS (hereT tk e st)) (hf : fullR tk e rs st = s2) :
   progU tk e (ruleS tk e s2).2 ds (rs ++ [(ruleS tk e s2).1]) = progU tk e st ds rs ∧ ((ruleS tk e s2).2.code = 0 → rs.length < 24 ∧ (ruleS tk e s2).2.i ≤ tk.length) := by
 subst hf
 constructor
 · unfold progU
   obtain ⟨f, hf⟩ : ∃ f, 43 - ds.length - rs.length = f + 1 := ⟨42 - ds.length - rs.length, by omega⟩
   have hf2 : 43 - ds.length - (rs ++ [(ruleS tk e (fullR tk e rs st)).1]).length = f := by simp; omega
   rw [hf, hf2]
   conv => rhs; rw [progS, if_pos ⟨h0, h1⟩, if_neg hk]
 · intro hc
   by_cases q : startsT (hereT tk e st) = true ∧ rs.length = 24
   · exfalso
     have e1 : fullR tk e rs st = faultP tk e 7 st := by unfold fullR; rw [if_pos q]
     have h3 : ¬ (faultP tk e 7 st).code = 0 := fault_code (by decide)
     rw [e1, ruleS_bad h3] at hc
     exact h3 hc
   · have e1 : fullR tk e rs st = st := by unfold fullR; rw [if_neg q]
     rw [e1] at hc ⊢
     refine ⟨?_, ruleS_le (by omega)⟩
     by_cases h24 : rs.length = 24
     · exfalso
       have h4 : ¬ startsT (hereT tk e st) = true := fun h => q ⟨h, h24⟩
       have h3 : ¬ (faultP tk e 6 st).code = 0 := fault_code (by decide)
       obtain ⟨n1, n2, n3⟩ := name_none h4
       have e2 : plusP tk e st = (1, st) := plus_none n2 n3
       have e3 : wordP tk e st = (⟨#[]⟩, faultP tk e 6 st) := by unfold wordP; rw [if_neg n1]
       have e4 : atomOpen tk e st = faultP tk e 6 st := by unfold atomOpen; rw [e3, take_bad h3]
       have e5 : (atomS tk e st).2 = faultP tk e 6 st := by
         unfold atomS; rw [e4, if_neg (by simp [here_bad h3, signT]), argsS_bad h3, take_bad h3]
       have e6 : (ruleS tk e st).2 = faultP tk e 6 st := by
         unfold ruleS; rw [e2, e5, if_neg (by simp [here_bad h3, signT]), take_bad h3]
       rw [e6] at hc
       exact h3 hc
     · omega
end
/-! ### with the states named -/
theorem bodyI_bad {f : Nat} {st : PS} {a : List Litt} (h : ¬ st.code = 0) : bodyI tk e f st a = (a, st) := by cases f <;> simp [bodyI, h]
theorem bodyS_bad {f : Nat} {st : PS} {a : List Litt} (h : ¬ st.code = 0) : bodyS tk e f st a = (a, st) := by cases f <;> simp [bodyS, h]
theorem next_le {st : PS} {n : Nat} (h : st.i < n) : st.next.i ≤ n := h
theorem fault_le {c : Int} {st : PS} (h : st.i ≤ tk.length) : (faultP tk e c st).i ≤ tk.length := by rw [fault_i]; exact h
theorem open_no {st : PS} (h : nameT (hereT tk e st) = false) : openT tk e st = false := by simp [openT, h]
theorem open_end {st : PS} (h : nameT (hereT tk e st) = true) (h2 : ¬ st.i + 1 < tk.length) : openT tk e st = false := by
 have h3 : ¬ st.next.i < tk.length := h2
 simp [openT, here_end h3, signT]
theorem open_at {st : PS} (h : nameT (hereT tk e st) = true) (h2 : st.i + 1 < tk.length) : openT tk e st = signT tk[st.i + 1] ⟨#[40]⟩ := by
 have h3 : st.next.code = 0 := (here_good (tk := tk) (e := e) (st := st) (by rw [name_kind h]; decide)).1
 have h4 : hereT tk e st.next = tk[st.i + 1] := here_ok h3 h2
 simp [openT, h, h4]
theorem ruleI_body' {st s0 : PS} {k : Int} (hp : plusP tk e st = (k, s0)) (h : signT (hereT tk e (atomI tk e s0).2) ⟨#[58, 45]⟩ = true) : ruleI tk e st = (⟨k, (atomI tk e s0).1, (bodyI tk e 10 (atomI tk e s0).2.next []).1⟩, takeP tk e ⟨#[46]⟩ (bodyI tk e 10 (atomI tk e s0).2.next []).2) := by
 have := ruleI_body (tk := tk) (e := e) (st := st) (by rw [hp]; exact h)
 rw [hp] at this; exact this
theorem ruleI_bare' {st s0 : PS} {k : Int} (hp : plusP tk e st = (k, s0)) (h : signT (hereT tk e (atomI tk e s0).2) ⟨#[58, 45]⟩ = false) : ruleI tk e st = (⟨k, (atomI tk e s0).1, []⟩, takeP tk e ⟨#[46]⟩ (atomI tk e s0).2) := by
 have := ruleI_bare (tk := tk) (e := e) (st := st) (by rw [hp]; exact h)
 rw [hp] at this; exact this
theorem ruleS_body' {st s0 s2 : PS} {k : Int} {b : List Litt} (hp : plusP tk e st = (k, s0)) (h : signT (hereT tk e (atomS tk e s0).2) ⟨#[58, 45]⟩ = true) (h2 : bodyS tk e 10 (atomS tk e s0).2.next [] = (b, s2)) : ruleS tk e st = (⟨k, (atomS tk e s0).1, b⟩, takeP tk e ⟨#[46]⟩ s2) := by
 have := ruleS_body (tk := tk) (e := e) (st := st) (b := b) (s2 := s2) (by rw [hp]; exact h) (by rw [hp]; exact h2)
 rw [hp] at this; exact this
theorem ruleS_bare' {st s0 : PS} {k : Int} (hp : plusP tk e st = (k, s0)) (h : signT (hereT tk e (atomS tk e s0).2) ⟨#[58, 45]⟩ = false) : ruleS tk e st = (⟨k, (atomS tk e s0).1, []⟩, takeP tk e ⟨#[46]⟩ (atomS tk e s0).2) := by
 have := ruleS_bare (tk := tk) (e := e) (st := st) (by rw [hp]; exact h)
 rw [hp] at this; exact this
end
end Go.Proofs.Ytkemjhlbokldhaa

/- Functions with one result in memory and two plain ones. -/
namespace Go.Proofs.Ytkemjhlbokldhaa
open Go.RowKit
set_option linter.unusedVariables false
section results
variable {P : Program} {f : FuncId} {fn : Func} {c : Code} {N : Nat} {args : List AVal} {L L' : Locs}
theorem AC_bodyCTT {ty : TypeId} {r q q2 n k : Nat} {cs : List Cell} {x x2 : AVal} {T : Tmps} {Lf : Locs} (hf : P.funcs[f]? = some fn) (hb : fn.body = some c) (hn : (fn.name == "runtime.NumGoroutine") = false) (hN : fn.ntmps = N) (hA : Nat.ble args.length N = true) (hr : fn.results = #[.cell r ty, .tmp q, .tmp q2])
   (ht : lk T r = some (.one (.ptr k 0))) (hq : lk T q = some x) (hx : x.flat = true) (hq2 : lk T q2 = some x2) (hx2 : x2.flat = true) (hl : lkl Lf k = some (.box cs)) (hk : kindT P ty = some (some n)) (hcn : cs.length = n) (hren : (AVal.tup [.agg cs, x, x2]).ren (rn []) = .tup [.agg cs, x, x2]) (hle : LeS (keys L) (rn []) ⟨T, Lf⟩ ⟨[], L'⟩)
   (h : AW P N (keys L) c (RetS (keys L) T Lf) (RetQ (keys L) T Lf) ⟨args0 args 0, L⟩) : AC P f args L (.tup [.agg cs, x, x2]) L' :=
 AC_ofB hf hb hn hN hA hren hle (fun g a w R => by
   obtain ⟨ad, v, h1, h2, h3⟩ := run_results_c R ht hl hk hcn
   refine ⟨.tuple #[v, a.tmps.getD q undef, a.tmps.getD q2 undef], ?_, ⟨[v, a.tmps.getD q undef, a.tmps.getD q2 undef], rfl, h3, (R.tmp q x hq).vr1 hx, (R.tmp q2 x2 hq2).vr1 hx2, trivial⟩⟩
   simp only [Array.getD_eq_getD_getElem?] at h1
   simp [results, hr, h1, h2]) h
end results
end Go.Proofs.Ytkemjhlbokldhaa

/- The reader in memory; contracts under other numbers. -/
namespace Go.Proofs.Ytkemjhlbokldhaa
open Go.RowKit
set_option linter.unusedVariables false
set_option linter.unusedSimpArgs false

/-- The reader's variable. -/
def psB (tk : List Tokent) (e : Int) (st : PS) : Blk := .box [.sl tokenE tk, .c (.int .i64 ((st.i : Nat) : Int)), .c (.int .i64 e), .c (.int .i64 st.code), .c (.int .i64 st.place)]
theorem psB_ren (tk : List Tokent) (e : Int) (st : PS) (r : Nat → Nat) : (psB tk e st).ren r = psB tk e st := rfl
def atomO (x : Atomt) : List Cell := [.c (.string x.name), .own 0]
def litO (x : Litt) : List Cell := [.c (.int .i64 x.kind), .c (.string x.atom.name), .own 0, .c (.int .i64 x.op), .c (.string x.a.var), .c (.int .i64 x.a.val.n), .c (.string x.a.val.s), .c (.string x.b.var), .c (.int .i64 x.b.val.n), .c (.string x.b.val.s)]
def ruleO (x : Rulet) : List Cell := [.c (.int .i64 x.kind), .c (.string x.head.name), .own 0, .own 1]
def atomK (x : Atomt) (k : Nat) : List Cell := [.c (.string x.name), .own k]
def litK (x : Litt) (k : Nat) : List Cell := [.c (.int .i64 x.kind), .c (.string x.atom.name), .own k, .c (.int .i64 x.op), .c (.string x.a.var), .c (.int .i64 x.a.val.n), .c (.string x.a.val.s), .c (.string x.b.var), .c (.int .i64 x.b.val.n), .c (.string x.b.val.s)]
def ruleK (x : Rulet) (k j : Nat) : List Cell := [.c (.int .i64 x.kind), .c (.string x.head.name), .own k, .own j]
def rnP (j : Nat) : Nat := bif Nat.beq j 200 then 200 else 0
theorem rnP_k {k : Nat} (hk : Nat.beq k 200 = false) : rnP k = 0 := by unfold rnP; rw [hk]; rfl
theorem atomK_ren {x : Atomt} {k : Nat} {r : Nat → Nat} (h : r k = 0) : (AVal.agg (atomK x k)).ren r = .agg (atomO x) := by
 show AVal.agg [.c (.string x.name), .own (r k)] = _
 rw [h]; rfl
theorem litK_ren {x : Litt} {k : Nat} {r : Nat → Nat} (h : r k = 0) : (AVal.agg (litK x k)).ren r = .agg (litO x) := by
 show AVal.agg [.c (.int .i64 x.kind), .c (.string x.atom.name), .own (r k), .c (.int .i64 x.op), .c (.string x.a.var), .c (.int .i64 x.a.val.n), .c (.string x.a.val.s), .c (.string x.b.var), .c (.int .i64 x.b.val.n), .c (.string x.b.val.s)] = _
 rw [h]; rfl
theorem ruleK_ren {x : Rulet} {k j : Nat} {r : Nat → Nat} (h : r k = 0) (h2 : r j = 1) : (AVal.agg (ruleK x k j)).ren r = .agg (ruleO x) := by
 show AVal.agg [.c (.int .i64 x.kind), .c (.string x.head.name), .own (r k), .own (r j)] = _
 rw [h, h2]; rfl
theorem ownK_ren {k : Nat} {r : Nat → Nat} (h : r k = 0) : (AVal.one (.own k)).ren r = .one (.own 0) := by
 show AVal.one (.own (r k)) = _
 rw [h]
/-- The array that is left beside a reader, under another number. -/
theorem AC.ps {P : Program} {f : FuncId} {args : List AVal} {tk : List Tokent} {e : Int} {st st' : PS} {res res0 : AVal} {blk : Blk} (h : AC P f args [(200, some (psB tk e st))] res0 [(200, some (psB tk e st')), (0, some blk)]) (k : Nat) (hk : Nat.beq k 200 = false)
   (hres : ∀ r : Nat → Nat, r k = 0 → res.ren r = res0) (hbl : ∀ r : Nat → Nat, blk.ren r = blk) : AC P f args [(200, some (psB tk e st))] res [(200, some (psB tk e st')), (k, some blk)] := by
 have hL : LeL rnP [(200, some (psB tk e st')), (0, some blk)] [(200, some (psB tk e st')), (k, some blk)] :=
   ⟨⟨psB tk e st', rfl, by rw [psB_ren]; exact BLe.rf⟩, ⟨blk, by rw [rnP_k hk]; rfl, by rw [hbl]; exact BLe.rf⟩, trivial⟩
 have hi : injL rnP (keys [(200, some (psB tk e st')), (k, some blk)]) = true := by
   have h2 : rnP 200 = 200 := rfl
   simp [injL, keys, rnP_k hk, h2]
   exact .inr rfl
 have hK : LeK rnP [(200, some (psB tk e st')), (0, some blk)] [(200, some (psB tk e st')), (k, some blk)] (keys [(200, some (psB tk e st))]) :=
   ⟨⟨rfl, .inl (by simp [lk]), fun cs _ => ⟨_, rfl⟩⟩, trivial⟩
 refine ⟨h.fn, fun g w cargs m ha => (h.run g w cargs m ha).mono ?_⟩
 rintro e w' ⟨v, g1, rfl, m1, hv, hs⟩
 exact ⟨v, g1.ren rnP, rfl, m1.unren hL hi, VR.unren hL (by rw [hres rnP (rnP_k hk)]; exact hv), hs.trans m m1 (Step.unren hL hK)⟩
def rnQ (k j : Nat) (i : Nat) : Nat := bif Nat.beq i 200 then 200 else bif Nat.beq i k then 0 else bif Nat.beq i j then 1 else i + 1000
theorem AC.ps2 {P : Program} {f : FuncId} {args : List AVal} {tk : List Tokent} {e : Int} {st st' : PS} {res res0 : AVal} {blk blk2 : Blk} (h : AC P f args [(200, some (psB tk e st))] res0 [(200, some (psB tk e st')), (0, some blk), (1, some blk2)]) (k j : Nat) (hk : Nat.beq k 200 = false) (hj : Nat.beq j 200 = false) (hkj : Nat.beq k j = false) (hjk : Nat.beq j k = false)
   (hres : ∀ r : Nat → Nat, r k = 0 → r j = 1 → res.ren r = res0) (hbl : ∀ r : Nat → Nat, blk.ren r = blk) (hbl2 : ∀ r : Nat → Nat, blk2.ren r = blk2) : AC P f args [(200, some (psB tk e st))] res [(200, some (psB tk e st')), (k, some blk), (j, some blk2)] := by
 have h2 : rnQ k j 200 = 200 := rfl
 have hrk : rnQ k j k = 0 := by unfold rnQ; rw [hk]; simp
 have hrj : rnQ k j j = 1 := by unfold rnQ; rw [hj, hjk]; simp
 have hL : LeL (rnQ k j) [(200, some (psB tk e st')), (0, some blk), (1, some blk2)] [(200, some (psB tk e st')), (k, some blk), (j, some blk2)] :=
   ⟨⟨psB tk e st', rfl, by rw [psB_ren]; exact BLe.rf⟩, ⟨blk, by rw [hrk]; rfl, by rw [hbl]; exact BLe.rf⟩, ⟨blk2, by rw [hrj]; rfl, by rw [hbl2]; exact BLe.rf⟩, trivial⟩
 have hi : injL (rnQ k j) (keys [(200, some (psB tk e st')), (k, some blk), (j, some blk2)]) = true := by
   have e1 : Nat.beq 0 200 = false := rfl
   have e2 : Nat.beq 1 200 = false := rfl
   have e3 : Nat.beq 1 0 = false := rfl
   simp only [injL, keys, List.map, hrk, hrj, h2, List.all_cons, List.all_nil, e1, e2, e3, Bool.not_false, Bool.or_true, Bool.and_true, Bool.and_self]
 have hK : LeK (rnQ k j) [(200, some (psB tk e st')), (0, some blk), (1, some blk2)] [(200, some (psB tk e st')), (k, some blk), (j, some blk2)] (keys [(200, some (psB tk e st))]) :=
   ⟨⟨rfl, .inl (by simp [lk]), fun cs _ => ⟨_, rfl⟩⟩, trivial⟩
 refine ⟨h.fn, fun g w cargs m ha => (h.run g w cargs m ha).mono ?_⟩
 rintro e w' ⟨v, g1, rfl, m1, hv, hs⟩
 exact ⟨v, g1.ren (rnQ k j), rfl, m1.unren hL hi, VR.unren hL (by rw [hres _ hrk hrj]; exact hv), hs.trans m m1 (Step.unren hL hK)⟩
/-! ### words that are looked up -/
def opL : List ByteArray := [⟨#[]⟩, ⟨#[61]⟩, ⟨#[33, 61]⟩, ⟨#[60]⟩, ⟨#[60, 61]⟩]
def opL4 : List ByteArray := [⟨#[61]⟩, ⟨#[33, 61]⟩, ⟨#[60]⟩, ⟨#[60, 61]⟩]
def kindL : List ByteArray := [⟨#[]⟩, ⟨#[115, 116, 97, 116, 101]⟩, ⟨#[101, 118, 101, 110, 116]⟩, ⟨#[118, 105, 101, 119]⟩]
def kindL3 : List ByteArray := [⟨#[115, 116, 97, 116, 101]⟩, ⟨#[101, 118, 101, 110, 116]⟩, ⟨#[118, 105, 101, 119]⟩]
def idxS (l : List ByteArray) (s : ByteArray) : Int := firstIdx (fun x => s == x) l
theorem first_cons {α : Type} {p : α → Bool} {x : α} {l : List α} : firstIdx p (x :: l) = if p x = true then 0 else if firstIdx p l = -1 then -1 else firstIdx p l + 1 := by
 unfold firstIdx
 rw [List.findIdx?_cons]
 cases p x
 · cases l.findIdx? p with
   | none => rfl
   | some k =>
     rw [if_neg (by decide), if_neg (by decide), if_neg (by show ¬ ((k : Nat) : Int) = -1; omega)]
     rfl
 · rfl
theorem first_nil {α : Type} {p : α → Bool} : firstIdx p [] = -1 := rfl
theorem idx_op (s : ByteArray) : idxS opL s = opX s := by
 unfold idxS opL opX opN
 simp only [first_cons, first_nil]
 cases s == (⟨#[]⟩ : ByteArray) <;> cases s == (⟨#[61]⟩ : ByteArray) <;> cases s == (⟨#[33, 61]⟩ : ByteArray) <;> cases s == (⟨#[60]⟩ : ByteArray) <;> cases s == (⟨#[60, 61]⟩ : ByteArray) <;> simp
theorem idx_kind (s : ByteArray) : idxS kindL s = kindX s := by
 unfold idxS kindL kindX kindN
 simp only [first_cons, first_nil]
 cases s == (⟨#[]⟩ : ByteArray) <;> cases s == (⟨#[115, 116, 97, 116, 101]⟩ : ByteArray) <;> cases s == (⟨#[101, 118, 101, 110, 116]⟩ : ByteArray) <;> cases s == (⟨#[118, 105, 101, 119]⟩ : ByteArray) <;> simp
/-! the reference looks word by word -/
theorem op_at {s : ByteArray} {k : Nat} (hk : k < opL4.length) (h : s = opL4[k]) : opN s = (k : Int) + 1 := by
 subst h
 match k, hk with
 | 0, _ => rfl
 | 1, _ => rfl
 | 2, _ => rfl
 | 3, _ => rfl
theorem op_none {s : ByteArray} {k : Nat} (hk : 4 ≤ k) (h : NoneTo (fun x => s == x) opL4 k) : opN s = 0 := by
 have h0 := h 0 (by decide) (by omega)
 have h1 := h 1 (by decide) (by omega)
 have h2 := h 2 (by decide) (by omega)
 have h3 := h 3 (by decide) (by omega)
 simp only [opL4, List.getElem_cons_zero, List.getElem_cons_succ] at h0 h1 h2 h3
 simp [opN, h0, h1, h2, h3]
theorem kind_at {s : ByteArray} {k : Nat} (hk : k < kindL3.length) (h : s = kindL3[k]) : kindN s = (k : Int) + 1 := by
 subst h
 match k, hk with
 | 0, _ => rfl
 | 1, _ => rfl
 | 2, _ => rfl
theorem kind_none {s : ByteArray} {k : Nat} (hk : 3 ≤ k) (h : NoneTo (fun x => s == x) kindL3 k) : kindN s = 0 := by
 have h0 := h 0 (by decide) (by omega)
 have h1 := h 1 (by decide) (by omega)
 have h2 := h 2 (by decide) (by omega)
 simp only [kindL3, List.getElem_cons_zero, List.getElem_cons_succ] at h0 h1 h2
 simp [kindN, h0, h1, h2]
end Go.Proofs.Ytkemjhlbokldhaa

/- Rules and programs that are well formed (printed by walk.py) -/
namespace Go.Proofs.Ytkemjhlbokldhaa
open Go.RowKit
set_option linter.unusedVariables false
set_option linter.unusedSimpArgs false
set_option maxRecDepth 100000

set_option maxHeartbeats 4000000 in
theorem nameI_c (s : ByteArray) : AC Try.prog 78 [.one (.c (.string s))] [] (.one (.c (.bool (nameB s)))) [] := by
 refine AC_body1 Try.func78 rfl rfl Try.ntmps78 rfl Try.results78 ?_
 refine AW_seq ?_
 refine AW_region ?_
 refine AL_p (x_assign rfl rfl) ?_
 refine AL_nil ?_
 refine AW_seq ?_
 refine AW_region ?_
 refine AL_p (x_move rfl rfl) ?_
 refine AL_b (x_call0 rfl rfl rfl (wordOkI_c _) rfl rfl) (fun b4 h4 => ?_)
 refine AL_p (x_move rfl rfl) ?_
 cases b4
 · try simp only [tdy] at h4
   refine AL_o rfl rfl rfl rfl ?_
   refine AL_o rfl rfl rfl rfl ?_
   refine AL_o rfl rfl rfl rfl ?_
   refine AL_p (x_pickF rfl rfl rfl) ?_
   refine AL_p (x_assign rfl rfl) ?_
   refine AL_nil ?_
   refine AW_ret ?_
   exact ⟨rn [], ⟨⟨⟨_, rfl, vle_bool (by simp [nameB, *])⟩, trivial⟩, trivial, trivial, rfl⟩⟩
 try simp only [tdy] at h4
 refine AL_g rfl rfl (x_move rfl rfl) ?_
 refine AL_gb rfl rfl (x_call0 rfl rfl rfl (keptI_c _) rfl rfl) (fun b7 h7 => ?_)
 refine AL_g rfl rfl (x_not rfl rfl) ?_
 refine AL_p (x_pickT rfl rfl rfl) ?_
 refine AL_p (x_assign rfl rfl) ?_
 refine AL_nil ?_
 refine AW_ret ?_
 cases b7
 rotate_left
 · try simp only [tdy] at h7
   exact ⟨rn [], ⟨⟨⟨_, rfl, vle_bool (by simp [nameB, *])⟩, trivial⟩, trivial, trivial, rfl⟩⟩
 try simp only [tdy] at h7
 exact ⟨rn [], ⟨⟨⟨_, rfl, vle_bool (by simp [nameB, *])⟩, trivial⟩, trivial, trivial, rfl⟩⟩

set_option maxHeartbeats 4000000 in
theorem termI_c (t : Termt) : AC Try.prog 132 [.agg (termC t)] [] (.one (.c (.bool (termB t)))) [] := by
 refine AC_body1 Try.func132 rfl rfl Try.ntmps132 rfl Try.results132 ?_
 refine AW_seq ?_
 refine AW_region ?_
 refine AL_p (x_box 100 rfl rfl rfl rfl rfl rfl rfl) ?_
 refine AL_p (x_assign rfl rfl) ?_
 refine AL_nil ?_
 refine AW_seq ?_
 refine AW_seq ?_
 refine AW_region ?_
 refine AL_p (x_field (off := 0) (o' := 0) rfl rfl rfl (by kernel_rfl) rfl) ?_
 refine AL_p (x_load1 rfl rfl rfl (by kernel_rfl) rfl) ?_
 refine AL_b (x_sneq rfl rfl rfl) (fun b5 h5 => ?_)
 refine AL_nil ?_
 cases b5
 rotate_left
 · try simp only [tdy] at h5
   refine AW_condT rfl ?_
   refine AW_seq ?_
   refine AW_region ?_
   refine AL_p (x_field (off := 0) (o' := 0) rfl rfl rfl (by kernel_rfl) rfl) ?_
   refine AL_p (x_load1 rfl rfl rfl (by kernel_rfl) rfl) ?_
   refine AL_b (x_call0 rfl rfl rfl (varOkI_c _) rfl rfl) (fun b8 h8 => ?_)
   refine AL_p (x_move rfl rfl) ?_
   cases b8
   · try simp only [tdy] at h8
     refine AL_o rfl rfl rfl rfl ?_
     refine AL_o rfl rfl rfl rfl ?_
     refine AL_o rfl rfl rfl rfl ?_
     refine AL_o rfl rfl rfl rfl ?_
     refine AL_p (x_pickF rfl rfl rfl) ?_
     refine AL_p (x_assign rfl rfl) ?_
     refine AL_nil ?_
     refine AW_ret ?_
     exact ⟨rn [], ⟨⟨⟨_, rfl, vle_bool (by simp [termB, *])⟩, trivial⟩, trivial, trivial, rfl⟩⟩
   try simp only [tdy] at h8
   refine AL_g rfl rfl (x_field (off := 1) (o' := 1) rfl rfl rfl (by kernel_rfl) rfl) ?_
   refine AL_g rfl rfl (x_loadN (n := 2) rfl rfl rfl (by kernel_rfl) rfl rfl) ?_
   refine AL_g rfl rfl (x_build (zs := [.int .i64 0, .string ⟨#[]⟩]) (places := [(0, 1), (1, 1)]) rfl (by kernel_rfl) rfl rfl rfl rfl rfl) ?_
   refine AL_gb rfl rfl (x_veql (a := t.val) (b := noVal) rfl rfl rfl) (fun b13 h13 => ?_)
   refine AL_p (x_pickT rfl rfl rfl) ?_
   refine AL_p (x_assign rfl rfl) ?_
   refine AL_nil ?_
   refine AW_ret ?_
   cases b13
   rotate_left
   · try simp only [tdy] at h13
     exact ⟨rn [], ⟨⟨⟨_, rfl, vle_bool (by simp [termB, *])⟩, trivial⟩, trivial, trivial, rfl⟩⟩
   try simp only [tdy] at h13
   exact ⟨rn [], ⟨⟨⟨_, rfl, vle_bool (by simp [termB, *])⟩, trivial⟩, trivial, trivial, rfl⟩⟩
 try simp only [tdy] at h5
 refine AW_condF rfl ?_
 refine AW_skip ?_
 refine AW_seq ?_
 refine AW_region ?_
 refine AL_p (x_field (off := 1) (o' := 1) rfl rfl rfl (by kernel_rfl) rfl) ?_
 refine AL_p (x_loadN (n := 2) rfl rfl rfl (by kernel_rfl) rfl rfl) ?_
 refine AL_b (x_call0 rfl rfl rfl (valueOkI_c _) rfl rfl) (fun b17 h17 => ?_)
 refine AL_p (x_move rfl rfl) ?_
 cases b17
 · try simp only [tdy] at h17
   refine AL_o rfl rfl rfl rfl ?_
   refine AL_o rfl rfl rfl rfl ?_
   refine AL_o rfl rfl rfl rfl ?_
   refine AL_o rfl rfl rfl rfl ?_
   refine AL_o rfl rfl rfl rfl ?_
   refine AL_p (x_pickF rfl rfl rfl) ?_
   refine AL_p (x_assign rfl rfl) ?_
   refine AL_nil ?_
   refine AW_ret ?_
   exact ⟨rn [], ⟨⟨⟨_, rfl, vle_bool (by simp [termB, *])⟩, trivial⟩, trivial, trivial, rfl⟩⟩
 try simp only [tdy] at h17
 refine AL_g rfl rfl (x_field (off := 1) (o' := 1) rfl rfl rfl (by kernel_rfl) rfl) ?_
 refine AL_g rfl rfl (x_field (off := 1) (o' := 2) rfl rfl rfl (by kernel_rfl) rfl) ?_
 refine AL_g rfl rfl (x_load1 rfl rfl rfl (by kernel_rfl) rfl) ?_
 refine AL_gb rfl rfl (x_call0 rfl rfl rfl (keptI_c _) rfl rfl) (fun b22 h22 => ?_)
 refine AL_g rfl rfl (x_not rfl rfl) ?_
 refine AL_p (x_pickT rfl rfl rfl) ?_
 refine AL_p (x_assign rfl rfl) ?_
 refine AL_nil ?_
 refine AW_ret ?_
 cases b22
 rotate_left
 · try simp only [tdy] at h22
   exact ⟨rn [], ⟨⟨⟨_, rfl, vle_bool (by simp [termB, *])⟩, trivial⟩, trivial, trivial, rfl⟩⟩
 try simp only [tdy] at h22
 exact ⟨rn [], ⟨⟨⟨_, rfl, vle_bool (by simp [termB, *])⟩, trivial⟩, trivial, trivial, rfl⟩⟩

set_option maxHeartbeats 4000000 in
theorem notTerm_c (t : Termt) : AC Try.prog 131 [.agg (termC t)] [] (.one (.c (.bool (!termB t)))) [] := by
 refine AC_body1 Try.func131 rfl rfl Try.ntmps131 rfl Try.results131 ?_
 refine AW_seq ?_
 refine AW_region ?_
 refine AL_p (x_box 100 rfl rfl rfl rfl rfl rfl rfl) ?_
 refine AL_p (x_assign rfl rfl) ?_
 refine AL_nil ?_
 refine AW_seq ?_
 refine AW_region ?_
 refine AL_p (x_loadN (n := 3) rfl rfl rfl (by kernel_rfl) rfl rfl) ?_
 refine AL_b (x_call0 rfl rfl rfl (termI_c t) rfl rfl) (fun b4 h4 => ?_)
 refine AL_p (x_not rfl rfl) ?_
 refine AL_p (x_assign rfl rfl) ?_
 refine AL_nil ?_
 refine AW_ret ?_
 cases b4
 rotate_left
 · try simp only [tdy] at h4
   exact ⟨rn [], ⟨⟨⟨_, rfl, vle_bool (by simp [*])⟩, trivial⟩, trivial, trivial, rfl⟩⟩
 try simp only [tdy] at h4
 exact ⟨rn [], ⟨⟨⟨_, rfl, vle_bool (by simp [*])⟩, trivial⟩, trivial, trivial, rfl⟩⟩

set_option maxHeartbeats 4000000 in
theorem idxTerm_c (l : List Termt) : AC Try.prog 152 [.one (.sl termE l), .one (.clo 131 [])] [] (.one (.c (.int .i64 (badIdx termB l)))) [] := by
 refine AC_body1 Try.func152 rfl rfl Try.ntmps152 rfl Try.results152 ?_
 refine AW_slmax 0 rfl (fun hm0 => ?_)
 refine AW_seq ?_
 refine AW_region ?_
 refine AL_p (x_assign rfl rfl) ?_
 refine AL_nil ?_
 refine AW_seq ?_
 refine AW_seq ?_
 refine AW_region ?_
 refine AL_p (x_move rfl rfl) ?_
 refine AL_p (x_len (E := 70) (n := 3) rfl rfl (by kernel_rfl)) ?_
 refine AL_p (x_move rfl rfl) ?_
 refine AL_nil ?_
 refine AW_block ?_
 refine AW_loop2 (ι := {q : Nat // q ≤ l.length ∧ EachTo termB l q}) (fun p => [(8, .one (.c (.int .i64 ((p.1) : Int))))]) (fun p => []) [0, 1, 7] [] (fun p => l.length - (p.1)) ⟨0, ⟨by omega, .zero⟩⟩ (rn []) ?_ ?_
 exact ⟨by (repeat refine ⟨⟨_, rfl, by first | exact VLe.rf | exact vle_int (by dsimp only; omega)⟩, ?_⟩); exact trivial, by (repeat refine ⟨⟨_, rfl, by first | exact BLe.rf | exact BLe.box AllC.rf | exact BLe.arr (by exact rfl)⟩, ?_⟩); exact trivial, by repeat (first | exact trivial | refine ⟨⟨rfl, by first | (left; intro h; cases h) | (right; rfl), by first | exact (fun _ h => ⟨_, h⟩) | exact (fun _ _ => ⟨_, rfl⟩) | (intro _ h; cases h)⟩, ?_⟩), rfl⟩
 rintro ⟨k, hinv⟩
 dsimp only
 have hk := hinv.1
 have hA := hinv.2
 refine AW_seq ?_
 refine AW_region ?_
 refine AL_b (x_lss rfl rfl rfl) (fun b9 h9 => ?_)
 refine AL_nil ?_
 refine AW_seq ?_
 cases b9
 · try simp only [tdy] at h9
   refine AW_condF rfl ?_
   refine AW_exit (BQ_hit ?_)
   refine AW_seq ?_
   refine AW_region ?_
   refine AL_p (x_assign rfl rfl) ?_
   refine AL_nil ?_
   refine AW_ret ?_
   exact ⟨rn [], ⟨⟨⟨_, rfl, vle_int (by first | exact (badIdx_at hA (by omega) (by simpa using h16)).symm | exact (badIdx_all hA (by omega)).symm)⟩, trivial⟩, trivial, trivial, rfl⟩⟩
 try simp only [tdy] at h9
 refine AW_condT rfl ?_
 refine AW_skip ?_
 refine AW_seq ?_
 refine AW_block ?_
 refine AW_seq ?_
 refine AW_region ?_
 refine AL_p (x_move rfl rfl) ?_
 refine AL_p (x_assign rfl rfl) ?_
 refine AL_nil ?_
 refine AW_seq ?_
 refine AW_region ?_
 refine AL_p (x_move rfl rfl) ?_
 refine AL_p (x_move rfl rfl) ?_
 refine AL_p (x_move rfl rfl) ?_
 refine AL_p (x_index (E := 70) (n := 3) rfl rfl rfl (by kernel_rfl) rfl (k := k) (by omega) (by omega)) ?_
 refine AL_p (x_eloadW (n := 3) rfl rfl (by kernel_rfl) rfl) ?_
 refine AL_bc (x_call (ks := []) (L := []) (L' := []) rfl rfl rfl (notTerm_c (l[k]'(by omega))) rfl AllV.rf (caught_of rfl) rfl rfl rfl (by repeat (first | exact trivial | refine ⟨rfl, ?_⟩)) rfl) (fun b16 h16 => ?_)
 refine AL_nil ?_
 cases b16
 rotate_left
 · try simp only [tdy] at h16
   refine AW_condT rfl ?_
   refine AW_seq ?_
   refine AW_region ?_
   refine AL_p (x_move rfl rfl) ?_
   refine AL_p (x_assign rfl rfl) ?_
   refine AL_nil ?_
   refine AW_ret (BQ_ret (BQ_ret ?_))
   exact ⟨rn [], ⟨⟨⟨_, rfl, vle_int (by first | exact (badIdx_at hA (by omega) (by simpa using h16)).symm | exact (badIdx_all hA (by omega)).symm)⟩, trivial⟩, trivial, trivial, rfl⟩⟩
 try simp only [tdy] at h16
 refine AW_condF rfl ?_
 refine AW_skip ?_
 refine AW_region ?_
 refine AL_p (x_add rfl rfl rfl (IntWalk.i64_in _ (by omega))) ?_
 refine AL_p (x_move rfl rfl) ?_
 refine AL_nil ?_
 refine ⟨⟨k + 1, ⟨by omega, hA.succ (by omega) (by simpa using h16)⟩⟩, rn [], ?_, by dsimp only; omega⟩
 exact ⟨by (repeat refine ⟨⟨_, rfl, by first | exact VLe.rf | exact vle_int (by dsimp only; omega)⟩, ?_⟩); exact trivial, by (repeat refine ⟨⟨_, rfl, by first | exact BLe.rf | exact BLe.box AllC.rf | exact BLe.arr (by exact rfl)⟩, ?_⟩); exact trivial, by repeat (first | exact trivial | refine ⟨⟨rfl, by first | (left; intro h; cases h) | (right; rfl), by first | exact (fun _ h => ⟨_, h⟩) | exact (fun _ _ => ⟨_, rfl⟩) | (intro _ h; cases h)⟩, ?_⟩), rfl⟩

set_option maxHeartbeats 4000000 in
theorem anyTerm_c (l : List Termt) : AC Try.prog 130 [.one (.sl termE l), .one (.clo 131 [])] [] (.one (.c (.bool (!l.all termB)))) [] := by
 refine AC_body1 Try.func130 rfl rfl Try.ntmps130 rfl Try.results130 ?_
 refine AW_seq ?_
 refine AW_region ?_
 refine AL_p (x_assign rfl rfl) ?_
 refine AL_nil ?_
 refine AW_seq ?_
 refine AW_region ?_
 refine AL_p (x_move rfl rfl) ?_
 refine AL_p (x_move rfl rfl) ?_
 refine AL_p (x_call (ks := []) (L := []) (L' := []) rfl rfl rfl (idxTerm_c l) rfl AllV.rf (caught_of rfl) rfl rfl rfl (by repeat (first | exact trivial | refine ⟨rfl, ?_⟩)) rfl) ?_
 refine AL_b (x_geq rfl rfl rfl) (fun b8 h8 => ?_)
 refine AL_p (x_assign rfl rfl) ?_
 refine AL_nil ?_
 refine AW_ret ?_
 cases b8
 rotate_left
 · try simp only [tdy] at h8
   exact ⟨rn [], ⟨⟨⟨_, rfl, vle_bool (by first | (rw [← badIdx_neg]; simp [*]; done) | (rw [← badIdx_neg]; first | rfl | (symm; rw [decide_eq_true_eq]; omega) | (symm; rw [decide_eq_false_iff_not]; omega)))⟩, trivial⟩, trivial, trivial, rfl⟩⟩
 try simp only [tdy] at h8
 exact ⟨rn [], ⟨⟨⟨_, rfl, vle_bool (by first | (rw [← badIdx_neg]; simp [*]; done) | (rw [← badIdx_neg]; first | rfl | (symm; rw [decide_eq_true_eq]; omega) | (symm; rw [decide_eq_false_iff_not]; omega)))⟩, trivial⟩, trivial, trivial, rfl⟩⟩

set_option maxHeartbeats 4000000 in
theorem atomI_c (a : Atomt) : AC Try.prog 89 [.agg (atomC a)] [] (.one (.c (.bool (atomB a)))) [] := by
 refine AC_body1 Try.func89 rfl rfl Try.ntmps89 rfl Try.results89 ?_
 refine AW_aggmax 0 1 rfl rfl (fun hm0_1 => ?_)
 refine AW_seq ?_
 refine AW_region ?_
 refine AL_p (x_box 100 rfl rfl rfl rfl rfl rfl rfl) ?_
 refine AL_p (x_assign rfl rfl) ?_
 refine AL_nil ?_
 refine AW_seq ?_
 refine AW_region ?_
 refine AL_p (x_field (off := 0) (o' := 0) rfl rfl rfl (by kernel_rfl) rfl) ?_
 refine AL_p (x_load1 rfl rfl rfl (by kernel_rfl) rfl) ?_
 refine AL_b (x_call0 rfl rfl rfl (nameI_c _) rfl rfl) (fun b5 h5 => ?_)
 refine AL_p (x_move rfl rfl) ?_
 cases b5
 · try simp only [tdy] at h5
   refine AL_o rfl rfl rfl rfl ?_
   refine AL_o rfl rfl rfl rfl ?_
   refine AL_o rfl rfl rfl rfl ?_
   refine AL_o rfl rfl rfl rfl ?_
   refine AL_p (x_pickF rfl rfl rfl) ?_
   refine AL_p (x_move rfl rfl) ?_
   refine AL_o rfl rfl rfl rfl ?_
   refine AL_o rfl rfl rfl rfl ?_
   refine AL_o rfl rfl rfl rfl ?_
   refine AL_o rfl rfl rfl rfl ?_
   refine AL_p (x_pickF rfl rfl rfl) ?_
   refine AL_p (x_assign rfl rfl) ?_
   refine AL_nil ?_
   refine AW_ret ?_
   exact ⟨rn [], ⟨⟨⟨_, rfl, vle_bool (by grind [atomB])⟩, trivial⟩, trivial, trivial, rfl⟩⟩
 try simp only [tdy] at h5
 refine AL_g rfl rfl (x_field (off := 1) (o' := 1) rfl rfl rfl (by kernel_rfl) rfl) ?_
 refine AL_g rfl rfl (x_load1 rfl rfl rfl (by kernel_rfl) rfl) ?_
 refine AL_g rfl rfl (x_len (E := 70) (n := 3) rfl rfl (by kernel_rfl)) ?_
 refine AL_gb rfl rfl (x_leq rfl rfl rfl) (fun b10 h10 => ?_)
 refine AL_p (x_pickT rfl rfl rfl) ?_
 refine AL_p (x_move rfl rfl) ?_
 cases b10
 · try simp only [tdy] at h10
   refine AL_o rfl rfl rfl rfl ?_
   refine AL_o rfl rfl rfl rfl ?_
   refine AL_o rfl rfl rfl rfl ?_
   refine AL_o rfl rfl rfl rfl ?_
   refine AL_p (x_pickF rfl rfl rfl) ?_
   refine AL_p (x_assign rfl rfl) ?_
   refine AL_nil ?_
   refine AW_ret ?_
   exact ⟨rn [], ⟨⟨⟨_, rfl, vle_bool (by grind [atomB])⟩, trivial⟩, trivial, trivial, rfl⟩⟩
 try simp only [tdy] at h10
 refine AL_g rfl rfl (x_field (off := 1) (o' := 1) rfl rfl rfl (by kernel_rfl) rfl) ?_
 refine AL_g rfl rfl (x_load1 rfl rfl rfl (by kernel_rfl) rfl) ?_
 refine AL_gbc rfl rfl (x_call (ks := []) (L := []) (L' := []) rfl rfl rfl (anyTerm_c a.args) rfl AllV.rf (caught_of rfl) rfl rfl rfl (by repeat (first | exact trivial | refine ⟨rfl, ?_⟩)) rfl) (fun b15 h15 => ?_)
 refine AL_g rfl rfl (x_not rfl rfl) ?_
 refine AL_p (x_pickT rfl rfl rfl) ?_
 refine AL_p (x_assign rfl rfl) ?_
 refine AL_nil ?_
 refine AW_ret ?_
 cases b15
 rotate_left
 · try simp only [tdy] at h15
   exact ⟨rn [], ⟨⟨⟨_, rfl, vle_bool (by grind [atomB])⟩, trivial⟩, trivial, trivial, rfl⟩⟩
 try simp only [tdy] at h15
 exact ⟨rn [], ⟨⟨⟨_, rfl, vle_bool (by grind [atomB])⟩, trivial⟩, trivial, trivial, rfl⟩⟩

set_option maxHeartbeats 4000000 in
theorem litI_c (l : Litt) : AC Try.prog 92 [.agg (litC l)] [] (.one (.c (.bool (litB l)))) [] := by
 refine AC_body1 Try.func92 rfl rfl Try.ntmps92 rfl Try.results92 ?_
 refine AW_aggmax 0 2 rfl rfl (fun hm0_2 => ?_)
 refine AW_seq ?_
 refine AW_region ?_
 refine AL_p (x_box 100 rfl rfl rfl rfl rfl rfl rfl) ?_
 refine AL_p (x_assign rfl rfl) ?_
 refine AL_nil ?_
 refine AW_seq ?_
 refine AW_seq ?_
 refine AW_region ?_
 refine AL_p (x_field (off := 0) (o' := 0) rfl rfl rfl (by kernel_rfl) rfl) ?_
 refine AL_p (x_load1 rfl rfl rfl (by kernel_rfl) rfl) ?_
 refine AL_nil ?_
 refine AW_block ?_
 refine AW_seq ?_
 refine AW_seq ?_
 refine AW_region ?_
 refine AL_b (x_eql rfl rfl rfl) (fun b6 h6 => ?_)
 refine AL_p (x_assign rfl rfl) ?_
 refine AL_nil ?_
 cases b6
 rotate_left
 · try simp only [tdy] at h6
   refine AW_condT rfl ?_
   refine AW_skip ?_
   refine AW_condT rfl ?_
   refine AW_seq ?_
   refine AW_region ?_
   refine AL_p (x_field (off := 1) (o' := 1) rfl rfl rfl (by kernel_rfl) rfl) ?_
   refine AL_p (x_loadN (n := 2) rfl rfl rfl (by kernel_rfl) rfl rfl) ?_
   refine AL_b (x_call0 rfl rfl rfl (atomI_c l.atom) rfl rfl) (fun b10 h10 => ?_)
   refine AL_p (x_move rfl rfl) ?_
   cases b10
   · try simp only [tdy] at h10
     refine AL_o rfl rfl rfl rfl ?_
     refine AL_o rfl rfl rfl rfl ?_
     refine AL_o rfl rfl rfl rfl ?_
     refine AL_p (x_pickF rfl rfl rfl) ?_
     refine AL_p (x_move rfl rfl) ?_
     refine AL_o rfl rfl rfl rfl ?_
     refine AL_o rfl rfl rfl rfl ?_
     refine AL_o rfl rfl rfl rfl ?_
     refine AL_o rfl rfl rfl rfl ?_
     refine AL_p (x_pickF rfl rfl rfl) ?_
     refine AL_p (x_move rfl rfl) ?_
     refine AL_o rfl rfl rfl rfl ?_
     refine AL_o rfl rfl rfl rfl ?_
     refine AL_o rfl rfl rfl rfl ?_
     refine AL_o rfl rfl rfl rfl ?_
     refine AL_p (x_pickF rfl rfl rfl) ?_
     refine AL_p (x_assign rfl rfl) ?_
     refine AL_nil ?_
     refine AW_ret (BQ_ret ?_)
     exact ⟨rn [], ⟨⟨⟨_, rfl, vle_bool (by grind [litB])⟩, trivial⟩, trivial, trivial, rfl⟩⟩
   try simp only [tdy] at h10
   refine AL_g rfl rfl (x_field (off := 3) (o' := 3) rfl rfl rfl (by kernel_rfl) rfl) ?_
   refine AL_g rfl rfl (x_load1 rfl rfl rfl (by kernel_rfl) rfl) ?_
   refine AL_gb rfl rfl (x_eql rfl rfl rfl) (fun b14 h14 => ?_)
   refine AL_p (x_pickT rfl rfl rfl) ?_
   refine AL_p (x_move rfl rfl) ?_
   cases b14
   · try simp only [tdy] at h14
     refine AL_o rfl rfl rfl rfl ?_
     refine AL_o rfl rfl rfl rfl ?_
     refine AL_o rfl rfl rfl rfl ?_
     refine AL_o rfl rfl rfl rfl ?_
     refine AL_p (x_pickF rfl rfl rfl) ?_
     refine AL_p (x_move rfl rfl) ?_
     refine AL_o rfl rfl rfl rfl ?_
     refine AL_o rfl rfl rfl rfl ?_
     refine AL_o rfl rfl rfl rfl ?_
     refine AL_o rfl rfl rfl rfl ?_
     refine AL_p (x_pickF rfl rfl rfl) ?_
     refine AL_p (x_assign rfl rfl) ?_
     refine AL_nil ?_
     refine AW_ret (BQ_ret ?_)
     exact ⟨rn [], ⟨⟨⟨_, rfl, vle_bool (by grind [litB])⟩, trivial⟩, trivial, trivial, rfl⟩⟩
   try simp only [tdy] at h14
   refine AL_g rfl rfl (x_field (off := 4) (o' := 4) rfl rfl rfl (by kernel_rfl) rfl) ?_
   refine AL_g rfl rfl (x_loadN (n := 3) rfl rfl rfl (by kernel_rfl) rfl rfl) ?_
   refine AL_g rfl rfl (x_build (zs := [.string ⟨#[]⟩, .int .i64 0, .string ⟨#[]⟩]) (places := [(0, 1), (1, 2)]) rfl (by kernel_rfl) rfl rfl rfl rfl rfl) ?_
   refine AL_gb rfl rfl (x_teql (a := l.a) (b := noTerm) rfl rfl rfl) (fun b20 h20 => ?_)
   refine AL_p (x_pickT rfl rfl rfl) ?_
   refine AL_p (x_move rfl rfl) ?_
   cases b20
   · try simp only [tdy] at h20
     refine AL_o rfl rfl rfl rfl ?_
     refine AL_o rfl rfl rfl rfl ?_
     refine AL_o rfl rfl rfl rfl ?_
     refine AL_o rfl rfl rfl rfl ?_
     refine AL_p (x_pickF rfl rfl rfl) ?_
     refine AL_p (x_assign rfl rfl) ?_
     refine AL_nil ?_
     refine AW_ret (BQ_ret ?_)
     exact ⟨rn [], ⟨⟨⟨_, rfl, vle_bool (by grind [litB])⟩, trivial⟩, trivial, trivial, rfl⟩⟩
   try simp only [tdy] at h20
   refine AL_g rfl rfl (x_field (off := 7) (o' := 7) rfl rfl rfl (by kernel_rfl) rfl) ?_
   refine AL_g rfl rfl (x_loadN (n := 3) rfl rfl rfl (by kernel_rfl) rfl rfl) ?_
   refine AL_g rfl rfl (x_build (zs := [.string ⟨#[]⟩, .int .i64 0, .string ⟨#[]⟩]) (places := [(0, 1), (1, 2)]) rfl (by kernel_rfl) rfl rfl rfl rfl rfl) ?_
   refine AL_gb rfl rfl (x_teql (a := l.b) (b := noTerm) rfl rfl rfl) (fun b26 h26 => ?_)
   refine AL_p (x_pickT rfl rfl rfl) ?_
   refine AL_p (x_assign rfl rfl) ?_
   refine AL_nil ?_
   refine AW_ret (BQ_ret ?_)
   cases b26
   rotate_left
   · try simp only [tdy] at h26
     exact ⟨rn [], ⟨⟨⟨_, rfl, vle_bool (by grind [litB])⟩, trivial⟩, trivial, trivial, rfl⟩⟩
   try simp only [tdy] at h26
   exact ⟨rn [], ⟨⟨⟨_, rfl, vle_bool (by grind [litB])⟩, trivial⟩, trivial, trivial, rfl⟩⟩
 try simp only [tdy] at h6
 refine AW_condF rfl ?_
 refine AW_region ?_
 refine AL_b (x_eql rfl rfl rfl) (fun b7 h7 => ?_)
 refine AL_p (x_assign rfl rfl) ?_
 refine AL_nil ?_
 cases b7
 rotate_left
 · try simp only [tdy] at h7
   refine AW_condT rfl ?_
   refine AW_seq ?_
   refine AW_region ?_
   refine AL_p (x_field (off := 1) (o' := 1) rfl rfl rfl (by kernel_rfl) rfl) ?_
   refine AL_p (x_loadN (n := 2) rfl rfl rfl (by kernel_rfl) rfl rfl) ?_
   refine AL_b (x_call0 rfl rfl rfl (atomI_c l.atom) rfl rfl) (fun b10 h10 => ?_)
   refine AL_p (x_move rfl rfl) ?_
   cases b10
   · try simp only [tdy] at h10
     refine AL_o rfl rfl rfl rfl ?_
     refine AL_o rfl rfl rfl rfl ?_
     refine AL_o rfl rfl rfl rfl ?_
     refine AL_p (x_pickF rfl rfl rfl) ?_
     refine AL_p (x_move rfl rfl) ?_
     refine AL_o rfl rfl rfl rfl ?_
     refine AL_o rfl rfl rfl rfl ?_
     refine AL_o rfl rfl rfl rfl ?_
     refine AL_o rfl rfl rfl rfl ?_
     refine AL_p (x_pickF rfl rfl rfl) ?_
     refine AL_p (x_move rfl rfl) ?_
     refine AL_o rfl rfl rfl rfl ?_
     refine AL_o rfl rfl rfl rfl ?_
     refine AL_o rfl rfl rfl rfl ?_
     refine AL_o rfl rfl rfl rfl ?_
     refine AL_p (x_pickF rfl rfl rfl) ?_
     refine AL_p (x_assign rfl rfl) ?_
     refine AL_nil ?_
     refine AW_ret (BQ_ret ?_)
     exact ⟨rn [], ⟨⟨⟨_, rfl, vle_bool (by grind [litB])⟩, trivial⟩, trivial, trivial, rfl⟩⟩
   try simp only [tdy] at h10
   refine AL_g rfl rfl (x_field (off := 3) (o' := 3) rfl rfl rfl (by kernel_rfl) rfl) ?_
   refine AL_g rfl rfl (x_load1 rfl rfl rfl (by kernel_rfl) rfl) ?_
   refine AL_gb rfl rfl (x_eql rfl rfl rfl) (fun b14 h14 => ?_)
   refine AL_p (x_pickT rfl rfl rfl) ?_
   refine AL_p (x_move rfl rfl) ?_
   cases b14
   · try simp only [tdy] at h14
     refine AL_o rfl rfl rfl rfl ?_
     refine AL_o rfl rfl rfl rfl ?_
     refine AL_o rfl rfl rfl rfl ?_
     refine AL_o rfl rfl rfl rfl ?_
     refine AL_p (x_pickF rfl rfl rfl) ?_
     refine AL_p (x_move rfl rfl) ?_
     refine AL_o rfl rfl rfl rfl ?_
     refine AL_o rfl rfl rfl rfl ?_
     refine AL_o rfl rfl rfl rfl ?_
     refine AL_o rfl rfl rfl rfl ?_
     refine AL_p (x_pickF rfl rfl rfl) ?_
     refine AL_p (x_assign rfl rfl) ?_
     refine AL_nil ?_
     refine AW_ret (BQ_ret ?_)
     exact ⟨rn [], ⟨⟨⟨_, rfl, vle_bool (by grind [litB])⟩, trivial⟩, trivial, trivial, rfl⟩⟩
   try simp only [tdy] at h14
   refine AL_g rfl rfl (x_field (off := 4) (o' := 4) rfl rfl rfl (by kernel_rfl) rfl) ?_
   refine AL_g rfl rfl (x_loadN (n := 3) rfl rfl rfl (by kernel_rfl) rfl rfl) ?_
   refine AL_g rfl rfl (x_build (zs := [.string ⟨#[]⟩, .int .i64 0, .string ⟨#[]⟩]) (places := [(0, 1), (1, 2)]) rfl (by kernel_rfl) rfl rfl rfl rfl rfl) ?_
   refine AL_gb rfl rfl (x_teql (a := l.a) (b := noTerm) rfl rfl rfl) (fun b20 h20 => ?_)
   refine AL_p (x_pickT rfl rfl rfl) ?_
   refine AL_p (x_move rfl rfl) ?_
   cases b20
   · try simp only [tdy] at h20
     refine AL_o rfl rfl rfl rfl ?_
     refine AL_o rfl rfl rfl rfl ?_
     refine AL_o rfl rfl rfl rfl ?_
     refine AL_o rfl rfl rfl rfl ?_
     refine AL_p (x_pickF rfl rfl rfl) ?_
     refine AL_p (x_assign rfl rfl) ?_
     refine AL_nil ?_
     refine AW_ret (BQ_ret ?_)
     exact ⟨rn [], ⟨⟨⟨_, rfl, vle_bool (by grind [litB])⟩, trivial⟩, trivial, trivial, rfl⟩⟩
   try simp only [tdy] at h20
   refine AL_g rfl rfl (x_field (off := 7) (o' := 7) rfl rfl rfl (by kernel_rfl) rfl) ?_
   refine AL_g rfl rfl (x_loadN (n := 3) rfl rfl rfl (by kernel_rfl) rfl rfl) ?_
   refine AL_g rfl rfl (x_build (zs := [.string ⟨#[]⟩, .int .i64 0, .string ⟨#[]⟩]) (places := [(0, 1), (1, 2)]) rfl (by kernel_rfl) rfl rfl rfl rfl rfl) ?_
   refine AL_gb rfl rfl (x_teql (a := l.b) (b := noTerm) rfl rfl rfl) (fun b26 h26 => ?_)
   refine AL_p (x_pickT rfl rfl rfl) ?_
   refine AL_p (x_assign rfl rfl) ?_
   refine AL_nil ?_
   refine AW_ret (BQ_ret ?_)
   cases b26
   rotate_left
   · try simp only [tdy] at h26
     exact ⟨rn [], ⟨⟨⟨_, rfl, vle_bool (by grind [litB])⟩, trivial⟩, trivial, trivial, rfl⟩⟩
   try simp only [tdy] at h26
   exact ⟨rn [], ⟨⟨⟨_, rfl, vle_bool (by grind [litB])⟩, trivial⟩, trivial, trivial, rfl⟩⟩
 try simp only [tdy] at h7
 refine AW_condF rfl ?_
 refine AW_seq ?_
 refine AW_region ?_
 refine AL_b (x_eql rfl rfl rfl) (fun b29 h29 => ?_)
 refine AL_p (x_assign rfl rfl) ?_
 refine AL_nil ?_
 cases b29
 · try simp only [tdy] at h29
   refine AW_condF rfl ?_
   refine AW_skip ?_
   refine AW_seq ?_
   refine AW_region ?_
   refine AL_p (x_assign rfl rfl) ?_
   refine AL_nil ?_
   refine AW_ret ?_
   exact ⟨rn [], ⟨⟨⟨_, rfl, vle_bool (by grind [litB])⟩, trivial⟩, trivial, trivial, rfl⟩⟩
 try simp only [tdy] at h29
 refine AW_condT rfl ?_
 refine AW_seq ?_
 refine AW_region ?_
 refine AL_p (x_field (off := 3) (o' := 3) rfl rfl rfl (by kernel_rfl) rfl) ?_
 refine AL_p (x_load1 rfl rfl rfl (by kernel_rfl) rfl) ?_
 refine AL_b (x_geq rfl rfl rfl) (fun b32 h32 => ?_)
 refine AL_p (x_move rfl rfl) ?_
 cases b32
 · try simp only [tdy] at h32
   refine AL_o rfl rfl rfl rfl ?_
   refine AL_o rfl rfl rfl rfl ?_
   refine AL_o rfl rfl rfl rfl ?_
   refine AL_p (x_pickF rfl rfl rfl) ?_
   refine AL_p (x_move rfl rfl) ?_
   refine AL_o rfl rfl rfl rfl ?_
   refine AL_o rfl rfl rfl rfl ?_
   refine AL_o rfl rfl rfl rfl ?_
   refine AL_o rfl rfl rfl rfl ?_
   refine AL_p (x_pickF rfl rfl rfl) ?_
   refine AL_p (x_move rfl rfl) ?_
   refine AL_o rfl rfl rfl rfl ?_
   refine AL_o rfl rfl rfl rfl ?_
   refine AL_o rfl rfl rfl rfl ?_
   refine AL_o rfl rfl rfl rfl ?_
   refine AL_o rfl rfl rfl rfl ?_
   refine AL_p (x_pickF rfl rfl rfl) ?_
   refine AL_p (x_move rfl rfl) ?_
   refine AL_o rfl rfl rfl rfl ?_
   refine AL_o rfl rfl rfl rfl ?_
   refine AL_o rfl rfl rfl rfl ?_
   refine AL_p (x_pickF rfl rfl rfl) ?_
   refine AL_p (x_move rfl rfl) ?_
   refine AL_o rfl rfl rfl rfl ?_
   refine AL_o rfl rfl rfl rfl ?_
   refine AL_o rfl rfl rfl rfl ?_
   refine AL_p (x_pickF rfl rfl rfl) ?_
   refine AL_p (x_assign rfl rfl) ?_
   refine AL_nil ?_
   refine AW_ret (BQ_ret ?_)
   exact ⟨rn [], ⟨⟨⟨_, rfl, vle_bool (by grind [litB])⟩, trivial⟩, trivial, trivial, rfl⟩⟩
 try simp only [tdy] at h32
 refine AL_g rfl rfl (x_field (off := 3) (o' := 3) rfl rfl rfl (by kernel_rfl) rfl) ?_
 refine AL_g rfl rfl (x_load1 rfl rfl rfl (by kernel_rfl) rfl) ?_
 refine AL_gb rfl rfl (x_leq rfl rfl rfl) (fun b36 h36 => ?_)
 refine AL_p (x_pickT rfl rfl rfl) ?_
 refine AL_p (x_move rfl rfl) ?_
 cases b36
 · try simp only [tdy] at h36
   refine AL_o rfl rfl rfl rfl ?_
   refine AL_o rfl rfl rfl rfl ?_
   refine AL_o rfl rfl rfl rfl ?_
   refine AL_o rfl rfl rfl rfl ?_
   refine AL_p (x_pickF rfl rfl rfl) ?_
   refine AL_p (x_move rfl rfl) ?_
   refine AL_o rfl rfl rfl rfl ?_
   refine AL_o rfl rfl rfl rfl ?_
   refine AL_o rfl rfl rfl rfl ?_
   refine AL_o rfl rfl rfl rfl ?_
   refine AL_o rfl rfl rfl rfl ?_
   refine AL_p (x_pickF rfl rfl rfl) ?_
   refine AL_p (x_move rfl rfl) ?_
   refine AL_o rfl rfl rfl rfl ?_
   refine AL_o rfl rfl rfl rfl ?_
   refine AL_o rfl rfl rfl rfl ?_
   refine AL_p (x_pickF rfl rfl rfl) ?_
   refine AL_p (x_move rfl rfl) ?_
   refine AL_o rfl rfl rfl rfl ?_
   refine AL_o rfl rfl rfl rfl ?_
   refine AL_o rfl rfl rfl rfl ?_
   refine AL_p (x_pickF rfl rfl rfl) ?_
   refine AL_p (x_assign rfl rfl) ?_
   refine AL_nil ?_
   refine AW_ret (BQ_ret ?_)
   exact ⟨rn [], ⟨⟨⟨_, rfl, vle_bool (by grind [litB])⟩, trivial⟩, trivial, trivial, rfl⟩⟩
 try simp only [tdy] at h36
 refine AL_g rfl rfl (x_field (off := 1) (o' := 1) rfl rfl rfl (by kernel_rfl) rfl) ?_
 refine AL_g rfl rfl (x_field (off := 0) (o' := 1) rfl rfl rfl (by kernel_rfl) rfl) ?_
 refine AL_g rfl rfl (x_load1 rfl rfl rfl (by kernel_rfl) rfl) ?_
 refine AL_gb rfl rfl (x_seql rfl rfl rfl) (fun b42 h42 => ?_)
 refine AL_p (x_pickT rfl rfl rfl) ?_
 refine AL_p (x_move rfl rfl) ?_
 cases b42
 · try simp only [tdy] at h42
   refine AL_o rfl rfl rfl rfl ?_
   refine AL_o rfl rfl rfl rfl ?_
   refine AL_o rfl rfl rfl rfl ?_
   refine AL_o rfl rfl rfl rfl ?_
   refine AL_o rfl rfl rfl rfl ?_
   refine AL_p (x_pickF rfl rfl rfl) ?_
   refine AL_p (x_move rfl rfl) ?_
   refine AL_o rfl rfl rfl rfl ?_
   refine AL_o rfl rfl rfl rfl ?_
   refine AL_o rfl rfl rfl rfl ?_
   refine AL_p (x_pickF rfl rfl rfl) ?_
   refine AL_p (x_move rfl rfl) ?_
   refine AL_o rfl rfl rfl rfl ?_
   refine AL_o rfl rfl rfl rfl ?_
   refine AL_o rfl rfl rfl rfl ?_
   refine AL_p (x_pickF rfl rfl rfl) ?_
   refine AL_p (x_assign rfl rfl) ?_
   refine AL_nil ?_
   refine AW_ret (BQ_ret ?_)
   exact ⟨rn [], ⟨⟨⟨_, rfl, vle_bool (by grind [litB])⟩, trivial⟩, trivial, trivial, rfl⟩⟩
 try simp only [tdy] at h42
 refine AL_g rfl rfl (x_field (off := 1) (o' := 1) rfl rfl rfl (by kernel_rfl) rfl) ?_
 refine AL_g rfl rfl (x_field (off := 1) (o' := 2) rfl rfl rfl (by kernel_rfl) rfl) ?_
 refine AL_g rfl rfl (x_load1 rfl rfl rfl (by kernel_rfl) rfl) ?_
 refine AL_g rfl rfl (x_len (E := 70) (n := 3) rfl rfl (by kernel_rfl)) ?_
 refine AL_gb rfl rfl (x_eql rfl rfl rfl) (fun b49 h49 => ?_)
 refine AL_p (x_pickT rfl rfl rfl) ?_
 refine AL_p (x_move rfl rfl) ?_
 cases b49
 · try simp only [tdy] at h49
   refine AL_o rfl rfl rfl rfl ?_
   refine AL_o rfl rfl rfl rfl ?_
   refine AL_o rfl rfl rfl rfl ?_
   refine AL_p (x_pickF rfl rfl rfl) ?_
   refine AL_p (x_move rfl rfl) ?_
   refine AL_o rfl rfl rfl rfl ?_
   refine AL_o rfl rfl rfl rfl ?_
   refine AL_o rfl rfl rfl rfl ?_
   refine AL_p (x_pickF rfl rfl rfl) ?_
   refine AL_p (x_assign rfl rfl) ?_
   refine AL_nil ?_
   refine AW_ret (BQ_ret ?_)
   exact ⟨rn [], ⟨⟨⟨_, rfl, vle_bool (by grind [litB])⟩, trivial⟩, trivial, trivial, rfl⟩⟩
 try simp only [tdy] at h49
 refine AL_g rfl rfl (x_field (off := 4) (o' := 4) rfl rfl rfl (by kernel_rfl) rfl) ?_
 refine AL_g rfl rfl (x_loadN (n := 3) rfl rfl rfl (by kernel_rfl) rfl rfl) ?_
 refine AL_gb rfl rfl (x_call0 rfl rfl rfl (termI_c l.a) rfl rfl) (fun b54 h54 => ?_)
 refine AL_p (x_pickT rfl rfl rfl) ?_
 refine AL_p (x_move rfl rfl) ?_
 cases b54
 · try simp only [tdy] at h54
   refine AL_o rfl rfl rfl rfl ?_
   refine AL_o rfl rfl rfl rfl ?_
   refine AL_o rfl rfl rfl rfl ?_
   refine AL_p (x_pickF rfl rfl rfl) ?_
   refine AL_p (x_assign rfl rfl) ?_
   refine AL_nil ?_
   refine AW_ret (BQ_ret ?_)
   exact ⟨rn [], ⟨⟨⟨_, rfl, vle_bool (by grind [litB])⟩, trivial⟩, trivial, trivial, rfl⟩⟩
 try simp only [tdy] at h54
 refine AL_g rfl rfl (x_field (off := 7) (o' := 7) rfl rfl rfl (by kernel_rfl) rfl) ?_
 refine AL_g rfl rfl (x_loadN (n := 3) rfl rfl rfl (by kernel_rfl) rfl rfl) ?_
 refine AL_gb rfl rfl (x_call0 rfl rfl rfl (termI_c l.b) rfl rfl) (fun b59 h59 => ?_)
 refine AL_p (x_pickT rfl rfl rfl) ?_
 refine AL_p (x_assign rfl rfl) ?_
 refine AL_nil ?_
 refine AW_ret (BQ_ret ?_)
 cases b59
 rotate_left
 · try simp only [tdy] at h59
   exact ⟨rn [], ⟨⟨⟨_, rfl, vle_bool (by grind [litB])⟩, trivial⟩, trivial, trivial, rfl⟩⟩
 try simp only [tdy] at h59
 exact ⟨rn [], ⟨⟨⟨_, rfl, vle_bool (by grind [litB])⟩, trivial⟩, trivial, trivial, rfl⟩⟩

set_option maxHeartbeats 4000000 in
theorem notLit_c (t : Litt) : AC Try.prog 91 [.agg (litC t)] [] (.one (.c (.bool (!litB t)))) [] := by
 refine AC_body1 Try.func91 rfl rfl Try.ntmps91 rfl Try.results91 ?_
 refine AW_seq ?_
 refine AW_region ?_
 refine AL_p (x_box 100 rfl rfl rfl rfl rfl rfl rfl) ?_
 refine AL_p (x_assign rfl rfl) ?_
 refine AL_nil ?_
 refine AW_seq ?_
 refine AW_region ?_
 refine AL_p (x_loadN (n := 10) rfl rfl rfl (by kernel_rfl) rfl rfl) ?_
 refine AL_b (x_call0 rfl rfl rfl (litI_c t) rfl rfl) (fun b4 h4 => ?_)
 refine AL_p (x_not rfl rfl) ?_
 refine AL_p (x_assign rfl rfl) ?_
 refine AL_nil ?_
 refine AW_ret ?_
 cases b4
 rotate_left
 · try simp only [tdy] at h4
   exact ⟨rn [], ⟨⟨⟨_, rfl, vle_bool (by simp [*])⟩, trivial⟩, trivial, trivial, rfl⟩⟩
 try simp only [tdy] at h4
 exact ⟨rn [], ⟨⟨⟨_, rfl, vle_bool (by simp [*])⟩, trivial⟩, trivial, trivial, rfl⟩⟩

set_option maxHeartbeats 4000000 in
theorem idxLit_c (l : List Litt) : AC Try.prog 133 [.one (.sl litE l), .one (.clo 91 [])] [] (.one (.c (.int .i64 (badIdx litB l)))) [] := by
 refine AC_body1 Try.func133 rfl rfl Try.ntmps133 rfl Try.results133 ?_
 refine AW_slmax 0 rfl (fun hm0 => ?_)
 refine AW_seq ?_
 refine AW_region ?_
 refine AL_p (x_assign rfl rfl) ?_
 refine AL_nil ?_
 refine AW_seq ?_
 refine AW_seq ?_
 refine AW_region ?_
 refine AL_p (x_move rfl rfl) ?_
 refine AL_p (x_len (E := 72) (n := 10) rfl rfl (by kernel_rfl)) ?_
 refine AL_p (x_move rfl rfl) ?_
 refine AL_nil ?_
 refine AW_block ?_
 refine AW_loop2 (ι := {q : Nat // q ≤ l.length ∧ EachTo litB l q}) (fun p => [(8, .one (.c (.int .i64 ((p.1) : Int))))]) (fun p => []) [0, 1, 7] [] (fun p => l.length - (p.1)) ⟨0, ⟨by omega, .zero⟩⟩ (rn []) ?_ ?_
 exact ⟨by (repeat refine ⟨⟨_, rfl, by first | exact VLe.rf | exact vle_int (by dsimp only; omega)⟩, ?_⟩); exact trivial, by (repeat refine ⟨⟨_, rfl, by first | exact BLe.rf | exact BLe.box AllC.rf | exact BLe.arr (by exact rfl)⟩, ?_⟩); exact trivial, by repeat (first | exact trivial | refine ⟨⟨rfl, by first | (left; intro h; cases h) | (right; rfl), by first | exact (fun _ h => ⟨_, h⟩) | exact (fun _ _ => ⟨_, rfl⟩) | (intro _ h; cases h)⟩, ?_⟩), rfl⟩
 rintro ⟨k, hinv⟩
 dsimp only
 have hk := hinv.1
 have hA := hinv.2
 refine AW_seq ?_
 refine AW_region ?_
 refine AL_b (x_lss rfl rfl rfl) (fun b9 h9 => ?_)
 refine AL_nil ?_
 refine AW_seq ?_
 cases b9
 · try simp only [tdy] at h9
   refine AW_condF rfl ?_
   refine AW_exit (BQ_hit ?_)
   refine AW_seq ?_
   refine AW_region ?_
   refine AL_p (x_assign rfl rfl) ?_
   refine AL_nil ?_
   refine AW_ret ?_
   exact ⟨rn [], ⟨⟨⟨_, rfl, vle_int (by first | exact (badIdx_at hA (by omega) (by simpa using h16)).symm | exact (badIdx_all hA (by omega)).symm)⟩, trivial⟩, trivial, trivial, rfl⟩⟩
 try simp only [tdy] at h9
 refine AW_condT rfl ?_
 refine AW_skip ?_
 refine AW_seq ?_
 refine AW_block ?_
 refine AW_seq ?_
 refine AW_region ?_
 refine AL_p (x_move rfl rfl) ?_
 refine AL_p (x_assign rfl rfl) ?_
 refine AL_nil ?_
 refine AW_seq ?_
 refine AW_region ?_
 refine AL_p (x_move rfl rfl) ?_
 refine AL_p (x_move rfl rfl) ?_
 refine AL_p (x_move rfl rfl) ?_
 refine AL_p (x_index (E := 72) (n := 10) rfl rfl rfl (by kernel_rfl) rfl (k := k) (by omega) (by omega)) ?_
 refine AL_p (x_eloadW (n := 10) rfl rfl (by kernel_rfl) rfl) ?_
 refine AL_bc (x_call (ks := []) (L := []) (L' := []) rfl rfl rfl (notLit_c (l[k]'(by omega))) rfl AllV.rf (caught_of rfl) rfl rfl rfl (by repeat (first | exact trivial | refine ⟨rfl, ?_⟩)) rfl) (fun b16 h16 => ?_)
 refine AL_nil ?_
 cases b16
 rotate_left
 · try simp only [tdy] at h16
   refine AW_condT rfl ?_
   refine AW_seq ?_
   refine AW_region ?_
   refine AL_p (x_move rfl rfl) ?_
   refine AL_p (x_assign rfl rfl) ?_
   refine AL_nil ?_
   refine AW_ret (BQ_ret (BQ_ret ?_))
   exact ⟨rn [], ⟨⟨⟨_, rfl, vle_int (by first | exact (badIdx_at hA (by omega) (by simpa using h16)).symm | exact (badIdx_all hA (by omega)).symm)⟩, trivial⟩, trivial, trivial, rfl⟩⟩
 try simp only [tdy] at h16
 refine AW_condF rfl ?_
 refine AW_skip ?_
 refine AW_region ?_
 refine AL_p (x_add rfl rfl rfl (IntWalk.i64_in _ (by omega))) ?_
 refine AL_p (x_move rfl rfl) ?_
 refine AL_nil ?_
 refine ⟨⟨k + 1, ⟨by omega, hA.succ (by omega) (by simpa using h16)⟩⟩, rn [], ?_, by dsimp only; omega⟩
 exact ⟨by (repeat refine ⟨⟨_, rfl, by first | exact VLe.rf | exact vle_int (by dsimp only; omega)⟩, ?_⟩); exact trivial, by (repeat refine ⟨⟨_, rfl, by first | exact BLe.rf | exact BLe.box AllC.rf | exact BLe.arr (by exact rfl)⟩, ?_⟩); exact trivial, by repeat (first | exact trivial | refine ⟨⟨rfl, by first | (left; intro h; cases h) | (right; rfl), by first | exact (fun _ h => ⟨_, h⟩) | exact (fun _ _ => ⟨_, rfl⟩) | (intro _ h; cases h)⟩, ?_⟩), rfl⟩

set_option maxHeartbeats 4000000 in
theorem anyLit_c (l : List Litt) : AC Try.prog 90 [.one (.sl litE l), .one (.clo 91 [])] [] (.one (.c (.bool (!l.all litB)))) [] := by
 refine AC_body1 Try.func90 rfl rfl Try.ntmps90 rfl Try.results90 ?_
 refine AW_seq ?_
 refine AW_region ?_
 refine AL_p (x_assign rfl rfl) ?_
 refine AL_nil ?_
 refine AW_seq ?_
 refine AW_region ?_
 refine AL_p (x_move rfl rfl) ?_
 refine AL_p (x_move rfl rfl) ?_
 refine AL_p (x_call (ks := []) (L := []) (L' := []) rfl rfl rfl (idxLit_c l) rfl AllV.rf (caught_of rfl) rfl rfl rfl (by repeat (first | exact trivial | refine ⟨rfl, ?_⟩)) rfl) ?_
 refine AL_b (x_geq rfl rfl rfl) (fun b8 h8 => ?_)
 refine AL_p (x_assign rfl rfl) ?_
 refine AL_nil ?_
 refine AW_ret ?_
 cases b8
 rotate_left
 · try simp only [tdy] at h8
   exact ⟨rn [], ⟨⟨⟨_, rfl, vle_bool (by first | (rw [← badIdx_neg]; simp [*]; done) | (rw [← badIdx_neg]; first | rfl | (symm; rw [decide_eq_true_eq]; omega) | (symm; rw [decide_eq_false_iff_not]; omega)))⟩, trivial⟩, trivial, trivial, rfl⟩⟩
 try simp only [tdy] at h8
 exact ⟨rn [], ⟨⟨⟨_, rfl, vle_bool (by first | (rw [← badIdx_neg]; simp [*]; done) | (rw [← badIdx_neg]; first | rfl | (symm; rw [decide_eq_true_eq]; omega) | (symm; rw [decide_eq_false_iff_not]; omega)))⟩, trivial⟩, trivial, trivial, rfl⟩⟩

set_option maxHeartbeats 4000000 in
theorem ruleI_c (r : Rulet) : AC Try.prog 35 [.agg (ruleC r)] [] (.one (.c (.bool (ruleB r)))) [] := by
 refine AC_body1 Try.func35 rfl rfl Try.ntmps35 rfl Try.results35 ?_
 refine AW_aggmax 0 3 rfl rfl (fun hm0_3 => ?_)
 refine AW_seq ?_
 refine AW_region ?_
 refine AL_p (x_box 100 rfl rfl rfl rfl rfl rfl rfl) ?_
 refine AL_p (x_assign rfl rfl) ?_
 refine AL_nil ?_
 refine AW_seq ?_
 refine AW_region ?_
 refine AL_p (x_field (off := 0) (o' := 0) rfl rfl rfl (by kernel_rfl) rfl) ?_
 refine AL_p (x_load1 rfl rfl rfl (by kernel_rfl) rfl) ?_
 refine AL_b (x_geq rfl rfl rfl) (fun b5 h5 => ?_)
 refine AL_p (x_move rfl rfl) ?_
 cases b5
 · try simp only [tdy] at h5
   refine AL_o rfl rfl rfl rfl ?_
   refine AL_o rfl rfl rfl rfl ?_
   refine AL_o rfl rfl rfl rfl ?_
   refine AL_p (x_pickF rfl rfl rfl) ?_
   refine AL_p (x_move rfl rfl) ?_
   refine AL_o rfl rfl rfl rfl ?_
   refine AL_o rfl rfl rfl rfl ?_
   refine AL_o rfl rfl rfl rfl ?_
   refine AL_p (x_pickF rfl rfl rfl) ?_
   refine AL_p (x_move rfl rfl) ?_
   refine AL_o rfl rfl rfl rfl ?_
   refine AL_o rfl rfl rfl rfl ?_
   refine AL_o rfl rfl rfl rfl ?_
   refine AL_o rfl rfl rfl rfl ?_
   refine AL_p (x_pickF rfl rfl rfl) ?_
   refine AL_p (x_move rfl rfl) ?_
   refine AL_o rfl rfl rfl rfl ?_
   refine AL_o rfl rfl rfl rfl ?_
   refine AL_o rfl rfl rfl rfl ?_
   refine AL_o rfl rfl rfl rfl ?_
   refine AL_p (x_pickF rfl rfl rfl) ?_
   refine AL_p (x_assign rfl rfl) ?_
   refine AL_nil ?_
   refine AW_ret ?_
   exact ⟨rn [], ⟨⟨⟨_, rfl, vle_bool (by grind [ruleB])⟩, trivial⟩, trivial, trivial, rfl⟩⟩
 try simp only [tdy] at h5
 refine AL_g rfl rfl (x_field (off := 0) (o' := 0) rfl rfl rfl (by kernel_rfl) rfl) ?_
 refine AL_g rfl rfl (x_load1 rfl rfl rfl (by kernel_rfl) rfl) ?_
 refine AL_gb rfl rfl (x_leq rfl rfl rfl) (fun b9 h9 => ?_)
 refine AL_p (x_pickT rfl rfl rfl) ?_
 refine AL_p (x_move rfl rfl) ?_
 cases b9
 · try simp only [tdy] at h9
   refine AL_o rfl rfl rfl rfl ?_
   refine AL_o rfl rfl rfl rfl ?_
   refine AL_o rfl rfl rfl rfl ?_
   refine AL_p (x_pickF rfl rfl rfl) ?_
   refine AL_p (x_move rfl rfl) ?_
   refine AL_o rfl rfl rfl rfl ?_
   refine AL_o rfl rfl rfl rfl ?_
   refine AL_o rfl rfl rfl rfl ?_
   refine AL_o rfl rfl rfl rfl ?_
   refine AL_p (x_pickF rfl rfl rfl) ?_
   refine AL_p (x_move rfl rfl) ?_
   refine AL_o rfl rfl rfl rfl ?_
   refine AL_o rfl rfl rfl rfl ?_
   refine AL_o rfl rfl rfl rfl ?_
   refine AL_o rfl rfl rfl rfl ?_
   refine AL_p (x_pickF rfl rfl rfl) ?_
   refine AL_p (x_assign rfl rfl) ?_
   refine AL_nil ?_
   refine AW_ret ?_
   exact ⟨rn [], ⟨⟨⟨_, rfl, vle_bool (by grind [ruleB])⟩, trivial⟩, trivial, trivial, rfl⟩⟩
 try simp only [tdy] at h9
 refine AL_g rfl rfl (x_field (off := 1) (o' := 1) rfl rfl rfl (by kernel_rfl) rfl) ?_
 refine AL_g rfl rfl (x_loadN (n := 2) rfl rfl rfl (by kernel_rfl) rfl rfl) ?_
 refine AL_gb rfl rfl (x_call0 rfl rfl rfl (atomI_c r.head) rfl rfl) (fun b14 h14 => ?_)
 refine AL_p (x_pickT rfl rfl rfl) ?_
 refine AL_p (x_move rfl rfl) ?_
 cases b14
 · try simp only [tdy] at h14
   refine AL_o rfl rfl rfl rfl ?_
   refine AL_o rfl rfl rfl rfl ?_
   refine AL_o rfl rfl rfl rfl ?_
   refine AL_o rfl rfl rfl rfl ?_
   refine AL_p (x_pickF rfl rfl rfl) ?_
   refine AL_p (x_move rfl rfl) ?_
   refine AL_o rfl rfl rfl rfl ?_
   refine AL_o rfl rfl rfl rfl ?_
   refine AL_o rfl rfl rfl rfl ?_
   refine AL_o rfl rfl rfl rfl ?_
   refine AL_p (x_pickF rfl rfl rfl) ?_
   refine AL_p (x_assign rfl rfl) ?_
   refine AL_nil ?_
   refine AW_ret ?_
   exact ⟨rn [], ⟨⟨⟨_, rfl, vle_bool (by grind [ruleB])⟩, trivial⟩, trivial, trivial, rfl⟩⟩
 try simp only [tdy] at h14
 refine AL_g rfl rfl (x_field (off := 3) (o' := 3) rfl rfl rfl (by kernel_rfl) rfl) ?_
 refine AL_g rfl rfl (x_load1 rfl rfl rfl (by kernel_rfl) rfl) ?_
 refine AL_g rfl rfl (x_len (E := 72) (n := 10) rfl rfl (by kernel_rfl)) ?_
 refine AL_gb rfl rfl (x_leq rfl rfl rfl) (fun b20 h20 => ?_)
 refine AL_p (x_pickT rfl rfl rfl) ?_
 refine AL_p (x_move rfl rfl) ?_
 cases b20
 · try simp only [tdy] at h20
   refine AL_o rfl rfl rfl rfl ?_
   refine AL_o rfl rfl rfl rfl ?_
   refine AL_o rfl rfl rfl rfl ?_
   refine AL_o rfl rfl rfl rfl ?_
   refine AL_p (x_pickF rfl rfl rfl) ?_
   refine AL_p (x_assign rfl rfl) ?_
   refine AL_nil ?_
   refine AW_ret ?_
   exact ⟨rn [], ⟨⟨⟨_, rfl, vle_bool (by grind [ruleB])⟩, trivial⟩, trivial, trivial, rfl⟩⟩
 try simp only [tdy] at h20
 refine AL_g rfl rfl (x_field (off := 3) (o' := 3) rfl rfl rfl (by kernel_rfl) rfl) ?_
 refine AL_g rfl rfl (x_load1 rfl rfl rfl (by kernel_rfl) rfl) ?_
 refine AL_gbc rfl rfl (x_call (ks := []) (L := []) (L' := []) rfl rfl rfl (anyLit_c r.body) rfl AllV.rf (caught_of rfl) rfl rfl rfl (by repeat (first | exact trivial | refine ⟨rfl, ?_⟩)) rfl) (fun b25 h25 => ?_)
 refine AL_g rfl rfl (x_not rfl rfl) ?_
 refine AL_p (x_pickT rfl rfl rfl) ?_
 refine AL_p (x_assign rfl rfl) ?_
 refine AL_nil ?_
 refine AW_ret ?_
 cases b25
 rotate_left
 · try simp only [tdy] at h25
   exact ⟨rn [], ⟨⟨⟨_, rfl, vle_bool (by grind [ruleB])⟩, trivial⟩, trivial, trivial, rfl⟩⟩
 try simp only [tdy] at h25
 exact ⟨rn [], ⟨⟨⟨_, rfl, vle_bool (by grind [ruleB])⟩, trivial⟩, trivial, trivial, rfl⟩⟩

set_option maxHeartbeats 4000000 in
theorem notRule_c (t : Rulet) : AC Try.prog 81 [.agg (ruleC t)] [] (.one (.c (.bool (!ruleB t)))) [] := by
 refine AC_body1 Try.func81 rfl rfl Try.ntmps81 rfl Try.results81 ?_
 refine AW_seq ?_
 refine AW_region ?_
 refine AL_p (x_box 100 rfl rfl rfl rfl rfl rfl rfl) ?_
 refine AL_p (x_assign rfl rfl) ?_
 refine AL_nil ?_
 refine AW_seq ?_
 refine AW_region ?_
 refine AL_p (x_loadN (n := 4) rfl rfl rfl (by kernel_rfl) rfl rfl) ?_
 refine AL_b (x_call0 rfl rfl rfl (ruleI_c t) rfl rfl) (fun b4 h4 => ?_)
 refine AL_p (x_not rfl rfl) ?_
 refine AL_p (x_assign rfl rfl) ?_
 refine AL_nil ?_
 refine AW_ret ?_
 cases b4
 rotate_left
 · try simp only [tdy] at h4
   exact ⟨rn [], ⟨⟨⟨_, rfl, vle_bool (by simp [*])⟩, trivial⟩, trivial, trivial, rfl⟩⟩
 try simp only [tdy] at h4
 exact ⟨rn [], ⟨⟨⟨_, rfl, vle_bool (by simp [*])⟩, trivial⟩, trivial, trivial, rfl⟩⟩

set_option maxHeartbeats 4000000 in
theorem idxRule_c (l : List Rulet) : AC Try.prog 125 [.one (.sl ruleE l), .one (.clo 81 [])] [] (.one (.c (.int .i64 (badIdx ruleB l)))) [] := by
 refine AC_body1 Try.func125 rfl rfl Try.ntmps125 rfl Try.results125 ?_
 refine AW_slmax 0 rfl (fun hm0 => ?_)
 refine AW_seq ?_
 refine AW_region ?_
 refine AL_p (x_assign rfl rfl) ?_
 refine AL_nil ?_
 refine AW_seq ?_
 refine AW_seq ?_
 refine AW_region ?_
 refine AL_p (x_move rfl rfl) ?_
 refine AL_p (x_len (E := 36) (n := 4) rfl rfl (by kernel_rfl)) ?_
 refine AL_p (x_move rfl rfl) ?_
 refine AL_nil ?_
 refine AW_block ?_
 refine AW_loop2 (ι := {q : Nat // q ≤ l.length ∧ EachTo ruleB l q}) (fun p => [(8, .one (.c (.int .i64 ((p.1) : Int))))]) (fun p => []) [0, 1, 7] [] (fun p => l.length - (p.1)) ⟨0, ⟨by omega, .zero⟩⟩ (rn []) ?_ ?_
 exact ⟨by (repeat refine ⟨⟨_, rfl, by first | exact VLe.rf | exact vle_int (by dsimp only; omega)⟩, ?_⟩); exact trivial, by (repeat refine ⟨⟨_, rfl, by first | exact BLe.rf | exact BLe.box AllC.rf | exact BLe.arr (by exact rfl)⟩, ?_⟩); exact trivial, by repeat (first | exact trivial | refine ⟨⟨rfl, by first | (left; intro h; cases h) | (right; rfl), by first | exact (fun _ h => ⟨_, h⟩) | exact (fun _ _ => ⟨_, rfl⟩) | (intro _ h; cases h)⟩, ?_⟩), rfl⟩
 rintro ⟨k, hinv⟩
 dsimp only
 have hk := hinv.1
 have hA := hinv.2
 refine AW_seq ?_
 refine AW_region ?_
 refine AL_b (x_lss rfl rfl rfl) (fun b9 h9 => ?_)
 refine AL_nil ?_
 refine AW_seq ?_
 cases b9
 · try simp only [tdy] at h9
   refine AW_condF rfl ?_
   refine AW_exit (BQ_hit ?_)
   refine AW_seq ?_
   refine AW_region ?_
   refine AL_p (x_assign rfl rfl) ?_
   refine AL_nil ?_
   refine AW_ret ?_
   exact ⟨rn [], ⟨⟨⟨_, rfl, vle_int (by first | exact (badIdx_at hA (by omega) (by simpa using h16)).symm | exact (badIdx_all hA (by omega)).symm)⟩, trivial⟩, trivial, trivial, rfl⟩⟩
 try simp only [tdy] at h9
 refine AW_condT rfl ?_
 refine AW_skip ?_
 refine AW_seq ?_
 refine AW_block ?_
 refine AW_seq ?_
 refine AW_region ?_
 refine AL_p (x_move rfl rfl) ?_
 refine AL_p (x_assign rfl rfl) ?_
 refine AL_nil ?_
 refine AW_seq ?_
 refine AW_region ?_
 refine AL_p (x_move rfl rfl) ?_
 refine AL_p (x_move rfl rfl) ?_
 refine AL_p (x_move rfl rfl) ?_
 refine AL_p (x_index (E := 36) (n := 4) rfl rfl rfl (by kernel_rfl) rfl (k := k) (by omega) (by omega)) ?_
 refine AL_p (x_eloadW (n := 4) rfl rfl (by kernel_rfl) rfl) ?_
 refine AL_bc (x_call (ks := []) (L := []) (L' := []) rfl rfl rfl (notRule_c (l[k]'(by omega))) rfl AllV.rf (caught_of rfl) rfl rfl rfl (by repeat (first | exact trivial | refine ⟨rfl, ?_⟩)) rfl) (fun b16 h16 => ?_)
 refine AL_nil ?_
 cases b16
 rotate_left
 · try simp only [tdy] at h16
   refine AW_condT rfl ?_
   refine AW_seq ?_
   refine AW_region ?_
   refine AL_p (x_move rfl rfl) ?_
   refine AL_p (x_assign rfl rfl) ?_
   refine AL_nil ?_
   refine AW_ret (BQ_ret (BQ_ret ?_))
   exact ⟨rn [], ⟨⟨⟨_, rfl, vle_int (by first | exact (badIdx_at hA (by omega) (by simpa using h16)).symm | exact (badIdx_all hA (by omega)).symm)⟩, trivial⟩, trivial, trivial, rfl⟩⟩
 try simp only [tdy] at h16
 refine AW_condF rfl ?_
 refine AW_skip ?_
 refine AW_region ?_
 refine AL_p (x_add rfl rfl rfl (IntWalk.i64_in _ (by omega))) ?_
 refine AL_p (x_move rfl rfl) ?_
 refine AL_nil ?_
 refine ⟨⟨k + 1, ⟨by omega, hA.succ (by omega) (by simpa using h16)⟩⟩, rn [], ?_, by dsimp only; omega⟩
 exact ⟨by (repeat refine ⟨⟨_, rfl, by first | exact VLe.rf | exact vle_int (by dsimp only; omega)⟩, ?_⟩); exact trivial, by (repeat refine ⟨⟨_, rfl, by first | exact BLe.rf | exact BLe.box AllC.rf | exact BLe.arr (by exact rfl)⟩, ?_⟩); exact trivial, by repeat (first | exact trivial | refine ⟨⟨rfl, by first | (left; intro h; cases h) | (right; rfl), by first | exact (fun _ h => ⟨_, h⟩) | exact (fun _ _ => ⟨_, rfl⟩) | (intro _ h; cases h)⟩, ?_⟩), rfl⟩

set_option maxHeartbeats 4000000 in
theorem anyRule_c (l : List Rulet) : AC Try.prog 80 [.one (.sl ruleE l), .one (.clo 81 [])] [] (.one (.c (.bool (!l.all ruleB)))) [] := by
 refine AC_body1 Try.func80 rfl rfl Try.ntmps80 rfl Try.results80 ?_
 refine AW_seq ?_
 refine AW_region ?_
 refine AL_p (x_assign rfl rfl) ?_
 refine AL_nil ?_
 refine AW_seq ?_
 refine AW_region ?_
 refine AL_p (x_move rfl rfl) ?_
 refine AL_p (x_move rfl rfl) ?_
 refine AL_p (x_call (ks := []) (L := []) (L' := []) rfl rfl rfl (idxRule_c l) rfl AllV.rf (caught_of rfl) rfl rfl rfl (by repeat (first | exact trivial | refine ⟨rfl, ?_⟩)) rfl) ?_
 refine AL_b (x_geq rfl rfl rfl) (fun b8 h8 => ?_)
 refine AL_p (x_assign rfl rfl) ?_
 refine AL_nil ?_
 refine AW_ret ?_
 cases b8
 rotate_left
 · try simp only [tdy] at h8
   exact ⟨rn [], ⟨⟨⟨_, rfl, vle_bool (by first | (rw [← badIdx_neg]; simp [*]; done) | (rw [← badIdx_neg]; first | rfl | (symm; rw [decide_eq_true_eq]; omega) | (symm; rw [decide_eq_false_iff_not]; omega)))⟩, trivial⟩, trivial, trivial, rfl⟩⟩
 try simp only [tdy] at h8
 exact ⟨rn [], ⟨⟨⟨_, rfl, vle_bool (by first | (rw [← badIdx_neg]; simp [*]; done) | (rw [← badIdx_neg]; first | rfl | (symm; rw [decide_eq_true_eq]; omega) | (symm; rw [decide_eq_false_iff_not]; omega)))⟩, trivial⟩, trivial, trivial, rfl⟩⟩

set_option maxHeartbeats 4000000 in
theorem progI_c (pg : Programt) : AC Try.prog 28 [.agg (programC pg)] [] (.one (.c (.bool (programB pg)))) [] := by
 refine AC_body1 Try.func28 rfl rfl Try.ntmps28 rfl Try.results28 ?_
 refine AW_aggmax 0 0 rfl rfl (fun hm0_0 => ?_)
 refine AW_aggmax 0 1 rfl rfl (fun hm0_1 => ?_)
 refine AW_seq ?_
 refine AW_region ?_
 refine AL_p (x_box 100 rfl rfl rfl rfl rfl rfl rfl) ?_
 refine AL_p (x_assign rfl rfl) ?_
 refine AL_nil ?_
 refine AW_seq ?_
 refine AW_seq ?_
 refine AW_region ?_
 refine AL_p (x_field (off := 0) (o' := 0) rfl rfl rfl (by kernel_rfl) rfl) ?_
 refine AL_p (x_load1 rfl rfl rfl (by kernel_rfl) rfl) ?_
 refine AL_p (x_len (E := 97) (n := 3) rfl rfl (by kernel_rfl)) ?_
 refine AL_p (x_move rfl rfl) ?_
 refine AL_nil ?_
 refine AW_block ?_
 refine AW_loop2 (ι := {q : Nat // q ≤ pg.decls.length ∧ EachTo declB pg.decls q}) (fun p => [(8, .one (.c (.int .i64 ((p.1) : Int))))]) (fun p => []) [1, 6, 7] [100] (fun p => pg.decls.length - (p.1)) ⟨0, ⟨by omega, .zero⟩⟩ (rn []) ?_ ?_
 exact ⟨by (repeat refine ⟨⟨_, rfl, by first | exact VLe.rf | exact vle_int (by dsimp only; omega)⟩, ?_⟩); exact trivial, by (repeat refine ⟨⟨_, rfl, by first | exact BLe.rf | exact BLe.box AllC.rf | exact BLe.arr (by exact rfl)⟩, ?_⟩); exact trivial, by repeat (first | exact trivial | refine ⟨⟨rfl, by first | (left; intro h; cases h) | (right; rfl), by first | exact (fun _ h => ⟨_, h⟩) | exact (fun _ _ => ⟨_, rfl⟩) | (intro _ h; cases h)⟩, ?_⟩), rfl⟩
 rintro ⟨k, hinv⟩
 dsimp only
 have hk := hinv.1
 have hA := hinv.2
 refine AW_seq ?_
 refine AW_region ?_
 refine AL_b (x_lss rfl rfl rfl) (fun b9 h9 => ?_)
 refine AL_nil ?_
 refine AW_seq ?_
 cases b9
 · try simp only [tdy] at h9
   have hall := hA.all (by omega)
   refine AW_condF rfl ?_
   refine AW_exit (BQ_hit ?_)
   refine AW_seq ?_
   refine AW_region ?_
   refine AL_p (x_field (off := 0) (o' := 0) rfl rfl rfl (by kernel_rfl) rfl) ?_
   refine AL_p (x_load1 rfl rfl rfl (by kernel_rfl) rfl) ?_
   refine AL_p (x_len (E := 97) (n := 3) rfl rfl (by kernel_rfl)) ?_
   refine AL_b (x_leq rfl rfl rfl) (fun b36 h36 => ?_)
   refine AL_p (x_move rfl rfl) ?_
   cases b36
   · try simp only [tdy] at h36
     refine AL_o rfl rfl rfl rfl ?_
     refine AL_o rfl rfl rfl rfl ?_
     refine AL_o rfl rfl rfl rfl ?_
     refine AL_o rfl rfl rfl rfl ?_
     refine AL_p (x_pickF rfl rfl rfl) ?_
     refine AL_p (x_move rfl rfl) ?_
     refine AL_o rfl rfl rfl rfl ?_
     refine AL_o rfl rfl rfl rfl ?_
     refine AL_o rfl rfl rfl rfl ?_
     refine AL_o rfl rfl rfl rfl ?_
     refine AL_p (x_pickF rfl rfl rfl) ?_
     refine AL_p (x_assign rfl rfl) ?_
     refine AL_nil ?_
     refine AW_ret ?_
     exact ⟨rn [], ⟨⟨⟨_, rfl, vle_bool (by first | (have hall := EachTo.bad (g := declB) (l := pg.decls) (k := k) (by omega) (by unfold declB; grind [upToB]); grind [programB]) | grind [programB])⟩, trivial⟩, trivial, trivial, rfl⟩⟩
   try simp only [tdy] at h36
   refine AL_g rfl rfl (x_field (off := 1) (o' := 1) rfl rfl rfl (by kernel_rfl) rfl) ?_
   refine AL_g rfl rfl (x_load1 rfl rfl rfl (by kernel_rfl) rfl) ?_
   refine AL_g rfl rfl (x_len (E := 36) (n := 4) rfl rfl (by kernel_rfl)) ?_
   refine AL_gb rfl rfl (x_leq rfl rfl rfl) (fun b41 h41 => ?_)
   refine AL_p (x_pickT rfl rfl rfl) ?_
   refine AL_p (x_move rfl rfl) ?_
   cases b41
   · try simp only [tdy] at h41
     refine AL_o rfl rfl rfl rfl ?_
     refine AL_o rfl rfl rfl rfl ?_
     refine AL_o rfl rfl rfl rfl ?_
     refine AL_o rfl rfl rfl rfl ?_
     refine AL_p (x_pickF rfl rfl rfl) ?_
     refine AL_p (x_assign rfl rfl) ?_
     refine AL_nil ?_
     refine AW_ret ?_
     exact ⟨rn [], ⟨⟨⟨_, rfl, vle_bool (by first | (have hall := EachTo.bad (g := declB) (l := pg.decls) (k := k) (by omega) (by unfold declB; grind [upToB]); grind [programB]) | grind [programB])⟩, trivial⟩, trivial, trivial, rfl⟩⟩
   try simp only [tdy] at h41
   refine AL_g rfl rfl (x_field (off := 1) (o' := 1) rfl rfl rfl (by kernel_rfl) rfl) ?_
   refine AL_g rfl rfl (x_load1 rfl rfl rfl (by kernel_rfl) rfl) ?_
   refine AL_gbc rfl rfl (x_call (ks := []) (L := []) (L' := []) rfl rfl rfl (anyRule_c pg.rules) rfl AllV.rf (caught_of rfl) rfl rfl rfl (by repeat (first | exact trivial | refine ⟨rfl, ?_⟩)) rfl) (fun b46 h46 => ?_)
   refine AL_g rfl rfl (x_not rfl rfl) ?_
   refine AL_p (x_pickT rfl rfl rfl) ?_
   refine AL_p (x_assign rfl rfl) ?_
   refine AL_nil ?_
   refine AW_ret ?_
   cases b46
   rotate_left
   · try simp only [tdy] at h46
     exact ⟨rn [], ⟨⟨⟨_, rfl, vle_bool (by first | (have hall := EachTo.bad (g := declB) (l := pg.decls) (k := k) (by omega) (by unfold declB; grind [upToB]); grind [programB]) | grind [programB])⟩, trivial⟩, trivial, trivial, rfl⟩⟩
   try simp only [tdy] at h46
   exact ⟨rn [], ⟨⟨⟨_, rfl, vle_bool (by first | (have hall := EachTo.bad (g := declB) (l := pg.decls) (k := k) (by omega) (by unfold declB; grind [upToB]); grind [programB]) | grind [programB])⟩, trivial⟩, trivial, trivial, rfl⟩⟩
 try simp only [tdy] at h9
 refine AW_condT rfl ?_
 refine AW_skip ?_
 refine AW_seq ?_
 refine AW_block ?_
 refine AW_seq ?_
 refine AW_region ?_
 refine AL_p (x_index (E := 97) (n := 3) rfl rfl rfl (by kernel_rfl) rfl (k := k) (by omega) (by omega)) ?_
 refine AL_p (x_eloadW (n := 3) rfl rfl (by kernel_rfl) rfl) ?_
 refine AL_p (x_alloc (z := .agg #[.int .i64 0, .string ⟨#[]⟩, .int .i64 0]) 101 rfl (by kernel_rfl) rfl rfl rfl rfl) ?_
 refine AL_p (x_store (n := 3) rfl rfl rfl rfl (by kernel_rfl) rfl rfl rfl) ?_
 refine AL_nil ?_
 refine AW_seq ?_
 refine AW_region ?_
 refine AL_p (x_field (off := 0) (o' := 0) rfl rfl rfl (by kernel_rfl) rfl) ?_
 refine AL_p (x_load1 rfl rfl rfl (by kernel_rfl) rfl) ?_
 refine AL_b (x_lss rfl rfl rfl) (fun b14 h14 => ?_)
 refine AL_p (x_move rfl rfl) ?_
 cases b14
 rotate_left
 · try simp only [tdy] at h14
   refine AL_o rfl rfl rfl rfl ?_
   refine AL_o rfl rfl rfl rfl ?_
   refine AL_o rfl rfl rfl rfl ?_
   refine AL_p (x_pickT rfl rfl rfl) ?_
   refine AL_p (x_move rfl rfl) ?_
   refine AL_o rfl rfl rfl rfl ?_
   refine AL_o rfl rfl rfl rfl ?_
   refine AL_o rfl rfl rfl rfl ?_
   refine AL_o rfl rfl rfl rfl ?_
   refine AL_p (x_pickT rfl rfl rfl) ?_
   refine AL_p (x_move rfl rfl) ?_
   refine AL_o rfl rfl rfl rfl ?_
   refine AL_o rfl rfl rfl rfl ?_
   refine AL_o rfl rfl rfl rfl ?_
   refine AL_o rfl rfl rfl rfl ?_
   refine AL_p (x_pickT rfl rfl rfl) ?_
   refine AL_nil ?_
   refine AW_condT rfl ?_
   refine AW_seq ?_
   refine AW_region ?_
   refine AL_p (x_assign rfl rfl) ?_
   refine AL_nil ?_
   refine AW_ret (BQ_ret (BQ_ret ?_))
   exact ⟨rn [], ⟨⟨⟨_, rfl, vle_bool (by first | (have hall := EachTo.bad (g := declB) (l := pg.decls) (k := k) (by omega) (by unfold declB; grind [upToB]); grind [programB]) | grind [programB])⟩, trivial⟩, trivial, trivial, rfl⟩⟩
 try simp only [tdy] at h14
 refine AL_g rfl rfl (x_field (off := 0) (o' := 0) rfl rfl rfl (by kernel_rfl) rfl) ?_
 refine AL_g rfl rfl (x_load1 rfl rfl rfl (by kernel_rfl) rfl) ?_
 refine AL_gb rfl rfl (x_gtr rfl rfl rfl) (fun b18 h18 => ?_)
 refine AL_p (x_pickF rfl rfl rfl) ?_
 refine AL_p (x_move rfl rfl) ?_
 cases b18
 rotate_left
 · try simp only [tdy] at h18
   refine AL_o rfl rfl rfl rfl ?_
   refine AL_o rfl rfl rfl rfl ?_
   refine AL_o rfl rfl rfl rfl ?_
   refine AL_o rfl rfl rfl rfl ?_
   refine AL_p (x_pickT rfl rfl rfl) ?_
   refine AL_p (x_move rfl rfl) ?_
   refine AL_o rfl rfl rfl rfl ?_
   refine AL_o rfl rfl rfl rfl ?_
   refine AL_o rfl rfl rfl rfl ?_
   refine AL_o rfl rfl rfl rfl ?_
   refine AL_p (x_pickT rfl rfl rfl) ?_
   refine AL_nil ?_
   refine AW_condT rfl ?_
   refine AW_seq ?_
   refine AW_region ?_
   refine AL_p (x_assign rfl rfl) ?_
   refine AL_nil ?_
   refine AW_ret (BQ_ret (BQ_ret ?_))
   exact ⟨rn [], ⟨⟨⟨_, rfl, vle_bool (by first | (have hall := EachTo.bad (g := declB) (l := pg.decls) (k := k) (by omega) (by unfold declB; grind [upToB]); grind [programB]) | grind [programB])⟩, trivial⟩, trivial, trivial, rfl⟩⟩
 try simp only [tdy] at h18
 refine AL_g rfl rfl (x_field (off := 1) (o' := 1) rfl rfl rfl (by kernel_rfl) rfl) ?_
 refine AL_g rfl rfl (x_load1 rfl rfl rfl (by kernel_rfl) rfl) ?_
 refine AL_gb rfl rfl (x_call0 rfl rfl rfl (nameI_c _) rfl rfl) (fun b23 h23 => ?_)
 refine AL_g rfl rfl (x_not rfl rfl) ?_
 refine AL_p (x_pickF rfl rfl rfl) ?_
 refine AL_p (x_move rfl rfl) ?_
 cases b23
 · try simp only [tdy] at h23
   refine AL_o rfl rfl rfl rfl ?_
   refine AL_o rfl rfl rfl rfl ?_
   refine AL_o rfl rfl rfl rfl ?_
   refine AL_o rfl rfl rfl rfl ?_
   refine AL_p (x_pickT rfl rfl rfl) ?_
   refine AL_nil ?_
   refine AW_condT rfl ?_
   refine AW_seq ?_
   refine AW_region ?_
   refine AL_p (x_assign rfl rfl) ?_
   refine AL_nil ?_
   refine AW_ret (BQ_ret (BQ_ret ?_))
   exact ⟨rn [], ⟨⟨⟨_, rfl, vle_bool (by first | (have hall := EachTo.bad (g := declB) (l := pg.decls) (k := k) (by omega) (by unfold declB; grind [upToB]); grind [programB]) | grind [programB])⟩, trivial⟩, trivial, trivial, rfl⟩⟩
 try simp only [tdy] at h23
 refine AL_g rfl rfl (x_field (off := 2) (o' := 2) rfl rfl rfl (by kernel_rfl) rfl) ?_
 refine AL_g rfl rfl (x_load1 rfl rfl rfl (by kernel_rfl) rfl) ?_
 refine AL_gb rfl rfl (x_call0 rfl rfl rfl (upToI_c _ _) rfl rfl) (fun b29 h29 => ?_)
 refine AL_g rfl rfl (x_not rfl rfl) ?_
 refine AL_p (x_pickF rfl rfl rfl) ?_
 refine AL_nil ?_
 cases b29
 · try simp only [tdy] at h29
   refine AW_condT rfl ?_
   refine AW_seq ?_
   refine AW_region ?_
   refine AL_p (x_assign rfl rfl) ?_
   refine AL_nil ?_
   refine AW_ret (BQ_ret (BQ_ret ?_))
   exact ⟨rn [], ⟨⟨⟨_, rfl, vle_bool (by first | (have hall := EachTo.bad (g := declB) (l := pg.decls) (k := k) (by omega) (by unfold declB; grind [upToB]); grind [programB]) | grind [programB])⟩, trivial⟩, trivial, trivial, rfl⟩⟩
 try simp only [tdy] at h29
 refine AW_condF rfl ?_
 refine AW_skip ?_
 refine AW_region ?_
 refine AL_p (x_add rfl rfl rfl (IntWalk.i64_in _ (by omega))) ?_
 refine AL_p (x_move rfl rfl) ?_
 refine AL_nil ?_
 refine ⟨⟨k + 1, ⟨by omega, hA.succ (by omega) (by unfold declB; grind [upToB])⟩⟩, rn [], ?_, by dsimp only; omega⟩
 exact ⟨by (repeat refine ⟨⟨_, rfl, by first | exact VLe.rf | exact vle_int (by dsimp only; omega)⟩, ?_⟩); exact trivial, by (repeat refine ⟨⟨_, rfl, by first | exact BLe.rf | exact BLe.box AllC.rf | exact BLe.arr (by exact rfl)⟩, ?_⟩); exact trivial, by repeat (first | exact trivial | refine ⟨⟨rfl, by first | (left; intro h; cases h) | (right; rfl), by first | exact (fun _ h => ⟨_, h⟩) | exact (fun _ _ => ⟨_, rfl⟩) | (intro _ h; cases h)⟩, ?_⟩), rfl⟩
end Go.Proofs.Ytkemjhlbokldhaa

/- Tokens are read (printed by walk.py) -/
namespace Go.Proofs.Ytkemjhlbokldhaa
open Go.RowKit
set_option linter.unusedVariables false
set_option linter.unusedSimpArgs false
set_option maxRecDepth 100000

set_option maxHeartbeats 4000000 in
theorem pIndex_c (l : List ByteArray) (s : ByteArray) : AC Try.prog 61 [.one (.sl strE l), .one (.c (.string (s)))] [] (.one (.c (.int .i64 (idxS l s)))) [] := by
 refine AC_body1 Try.func61 rfl rfl Try.ntmps61 rfl Try.results61 ?_
 refine AW_slmax 0 rfl (fun hm0 => ?_)
 refine AW_seq ?_
 refine AW_region ?_
 refine AL_p (x_assign rfl rfl) ?_
 refine AL_nil ?_
 refine AW_seq ?_
 refine AW_seq ?_
 refine AW_region ?_
 refine AL_p (x_move rfl rfl) ?_
 refine AL_p (x_len (E := 9) (n := 1) rfl rfl (by kernel_rfl)) ?_
 refine AL_p (x_move rfl rfl) ?_
 refine AL_nil ?_
 refine AW_block ?_
 refine AW_loop2 (ι := {q : Nat // q ≤ l.length ∧ NoneTo (fun x => s == x) l q}) (fun p => [(8, .one (.c (.int .i64 ((p.1) : Int))))]) (fun p => []) [0, 1, 7] [] (fun p => l.length - (p.1)) ⟨0, ⟨by omega, .zero⟩⟩ (rn []) ?_ ?_
 exact ⟨by (repeat refine ⟨⟨_, rfl, by first | exact VLe.rf | exact vle_int (by dsimp only; omega)⟩, ?_⟩); exact trivial, by (repeat refine ⟨⟨_, rfl, by first | exact BLe.rf | exact BLe.box AllC.rf | exact BLe.arr (by exact rfl)⟩, ?_⟩); exact trivial, by repeat (first | exact trivial | refine ⟨⟨rfl, by first | (left; intro h; cases h) | (right; rfl), by first | exact (fun _ h => ⟨_, h⟩) | exact (fun _ _ => ⟨_, rfl⟩) | (intro _ h; cases h)⟩, ?_⟩), rfl⟩
 rintro ⟨k, hinv⟩
 dsimp only
 have hk := hinv.1
 have hn := hinv.2
 refine AW_seq ?_
 refine AW_region ?_
 refine AL_b (x_lss rfl rfl rfl) (fun b9 h9 => ?_)
 refine AL_nil ?_
 refine AW_seq ?_
 cases b9
 · try simp only [tdy] at h9
   refine AW_condF rfl ?_
   refine AW_exit (BQ_hit ?_)
   refine AW_seq ?_
   refine AW_region ?_
   refine AL_p (x_assign rfl rfl) ?_
   refine AL_nil ?_
   refine AW_ret ?_
   exact ⟨rn [], ⟨⟨⟨_, rfl, vle_int (by unfold idxS; first | exact (firstIdx_at (by omega) (fun j hj hjk => hn j hj hjk) h16).symm | (rw [NoneTo.none (fun j hj hjk => hn j hj (by omega))]))⟩, trivial⟩, trivial, trivial, rfl⟩⟩
 try simp only [tdy] at h9
 refine AW_condT rfl ?_
 refine AW_skip ?_
 refine AW_seq ?_
 refine AW_block ?_
 refine AW_seq ?_
 refine AW_region ?_
 refine AL_p (x_move rfl rfl) ?_
 refine AL_p (x_assign rfl rfl) ?_
 refine AL_nil ?_
 refine AW_seq ?_
 refine AW_region ?_
 refine AL_p (x_move rfl rfl) ?_
 refine AL_p (x_move rfl rfl) ?_
 refine AL_p (x_move rfl rfl) ?_
 refine AL_p (x_index (E := 9) (n := 1) rfl rfl rfl (by kernel_rfl) rfl (k := k) (by omega) (by omega)) ?_
 refine AL_p (x_eload1 rfl rfl (by kernel_rfl) rfl) ?_
 refine AL_b (x_seql rfl rfl rfl) (fun b16 h16 => ?_)
 refine AL_nil ?_
 cases b16
 rotate_left
 · try simp only [tdy] at h16
   refine AW_condT rfl ?_
   refine AW_seq ?_
   refine AW_region ?_
   refine AL_p (x_move rfl rfl) ?_
   refine AL_p (x_assign rfl rfl) ?_
   refine AL_nil ?_
   refine AW_ret (BQ_ret (BQ_ret ?_))
   exact ⟨rn [], ⟨⟨⟨_, rfl, vle_int (by unfold idxS; first | exact (firstIdx_at (by omega) (fun j hj hjk => hn j hj hjk) h16).symm | (rw [NoneTo.none (fun j hj hjk => hn j hj (by omega))]))⟩, trivial⟩, trivial, trivial, rfl⟩⟩
 try simp only [tdy] at h16
 refine AW_condF rfl ?_
 refine AW_skip ?_
 refine AW_region ?_
 refine AL_p (x_add rfl rfl rfl (IntWalk.i64_in _ (by omega))) ?_
 refine AL_p (x_move rfl rfl) ?_
 refine AL_nil ?_
 refine ⟨⟨k + 1, ⟨by omega, hn.succ (by omega) h16⟩⟩, rn [], ?_, by dsimp only; omega⟩
 exact ⟨by (repeat refine ⟨⟨_, rfl, by first | exact VLe.rf | exact vle_int (by dsimp only; omega)⟩, ?_⟩); exact trivial, by (repeat refine ⟨⟨_, rfl, by first | exact BLe.rf | exact BLe.box AllC.rf | exact BLe.arr (by exact rfl)⟩, ?_⟩); exact trivial, by repeat (first | exact trivial | refine ⟨⟨rfl, by first | (left; intro h; cases h) | (right; rfl), by first | exact (fun _ h => ⟨_, h⟩) | exact (fun _ _ => ⟨_, rfl⟩) | (intro _ h; cases h)⟩, ?_⟩), rfl⟩

set_option maxHeartbeats 4000000 in
theorem pOpOf_c (s : ByteArray) : AC Try.prog 159 [.one (.c (.string (s)))] [] (.one (.c (.int .i64 (opX s)))) [] := by
 refine AC_body1 Try.func159 rfl rfl Try.ntmps159 rfl Try.results159 ?_
 refine AW_seq ?_
 refine AW_region ?_
 refine AL_p (x_assign rfl rfl) ?_
 refine AL_nil ?_
 refine AW_seq ?_
 refine AW_region ?_
 refine AL_p (y_bslice_sl (E := 9) (e := strE) [.const (.string ⟨#[]⟩), .const (.string ⟨#[61]⟩), .const (.string ⟨#[33, 61]⟩), .const (.string ⟨#[60]⟩), .const (.string ⟨#[60, 61]⟩)] (opL) rfl rfl rfl rfl rfl rfl rfl rfl FitL.rf rfl rfl rfl (by kernel_rfl)) ?_
 refine AL_p (x_move rfl rfl) ?_
 refine AL_p (x_call0 rfl rfl rfl (pIndex_c opL s) rfl rfl) ?_
 refine AL_p (x_assign rfl rfl) ?_
 refine AL_nil ?_
 refine AW_ret ?_
 exact ⟨rn [], ⟨⟨⟨_, rfl, vle_int (idx_op s)⟩, trivial⟩, trivial, trivial, rfl⟩⟩

set_option maxHeartbeats 4000000 in
theorem pHere_c (tk : List Tokent) (e : Int) (st : PS) (hm : tk.length ≤ 1048576) (hi : st.i ≤ tk.length) : AC Try.prog 60 [.one (.ptr 200 0)] [(200, some (psB tk e st))] (.agg (tokenC (hereT tk e st))) [(200, some (psB tk e st))] := by
 refine AC_bodyC (n := 4) (k := 9) (T := [(2, .one (.ptr 9 0))]) (Lf := ((9, some (.box (tokenC (hereT tk e st)))) :: [(200, some (psB tk e st))])) Try.func60 rfl rfl Try.ntmps60 rfl Try.results60 rfl rfl (by kernel_rfl) rfl rfl ⟨trivial, (by repeat (first | exact trivial | refine ⟨⟨_, rfl, BLe.rf⟩, ?_⟩)), (by repeat (first | exact trivial | refine ⟨⟨rfl, by first | (left; intro h; cases h) | (right; rfl), by first | exact (fun _ h => ⟨_, h⟩) | exact (fun _ _ => ⟨_, rfl⟩) | (intro _ h; cases h)⟩, ?_⟩)), rfl⟩ ?_
 refine AW_seq ?_
 refine AW_region ?_
 refine AL_p (x_alloc (z := .agg #[.int .i64 0, .int .i64 0, .string ⟨#[]⟩, .int .i64 0]) 100 rfl (by kernel_rfl) rfl rfl rfl rfl) ?_
 refine AL_nil ?_
 refine AW_seq ?_
 refine AW_seq ?_
 refine AW_draw rfl ?_
 refine AL_p (x_move rfl rfl) ?_
 refine AL_p (x_nilc rfl rfl rfl) ?_
 refine AL_p (x_field (off := 3) (o' := 3) rfl rfl rfl (by kernel_rfl) rfl) ?_
 refine AL_p (x_load1 rfl rfl rfl (by kernel_rfl) rfl) ?_
 refine AL_b (x_neq rfl rfl rfl) (fun b7 h7 => ?_)
 refine AL_p (x_move rfl rfl) ?_
 cases b7
 rotate_left
 · try simp only [tdy] at h7
   have hno := here_bad (tk := tk) (e := e) (st := st) h7
   refine AL_o rfl rfl rfl rfl ?_
   refine AL_o rfl rfl rfl rfl ?_
   refine AL_o rfl rfl rfl rfl ?_
   refine AL_o rfl rfl rfl rfl ?_
   refine AL_o rfl rfl rfl rfl ?_
   refine AL_o rfl rfl rfl rfl ?_
   refine AL_o rfl rfl rfl rfl ?_
   refine AL_o rfl rfl rfl rfl ?_
   refine AL_o rfl rfl rfl rfl ?_
   refine AL_o rfl rfl rfl rfl ?_
   refine AL_p (x_pickT rfl rfl rfl) ?_
   refine AL_nild (by kernel_rfl) ?_
   refine AW_condT rfl ?_
   refine AW_seq ?_
   refine AW_region ?_
   refine AL_p (x_move rfl rfl) ?_
   refine AL_p (x_nilc rfl rfl rfl) ?_
   refine AL_p (x_field (off := 2) (o' := 2) rfl rfl rfl (by kernel_rfl) rfl) ?_
   refine AL_p (x_load1 rfl rfl rfl (by kernel_rfl) rfl) ?_
   refine AL_p (x_build (zs := [.int .i64 0, .int .i64 0, .string ⟨#[]⟩, .int .i64 0]) (places := [(0, 1), (1, 1), (2, 1), (3, 1)]) rfl (by kernel_rfl) rfl rfl rfl rfl rfl) ?_
   refine AL_p (x_store (n := 4) rfl rfl rfl rfl (by kernel_rfl) rfl rfl rfl) ?_
   refine AL_nil ?_
   refine AW_ret ?_
   exact ⟨rn [(9, 100)], ⟨⟨⟨_, rfl, VLe.rf⟩, trivial⟩, ⟨⟨_, rfl, by first | exact BLe.rf | exact ble_eq (by rw [hno]; first | done | rfl)⟩, ⟨_, rfl, by first | exact BLe.rf | exact ble_eq (by rw [hno]; first | done | rfl)⟩, trivial⟩, ⟨⟨rfl, .inl nofun, fun _ _ => ⟨_, rfl⟩⟩, trivial⟩, rfl⟩⟩
 try simp only [tdy] at h7
 refine AL_g rfl rfl (x_move rfl rfl) ?_
 refine AL_g rfl rfl (x_nilc rfl rfl rfl) ?_
 refine AL_g rfl rfl (x_field (off := 1) (o' := 1) rfl rfl rfl (by kernel_rfl) rfl) ?_
 refine AL_g rfl rfl (x_load1 rfl rfl rfl (by kernel_rfl) rfl) ?_
 refine AL_g rfl rfl (x_move rfl rfl) ?_
 refine AL_g rfl rfl (x_nilc rfl rfl rfl) ?_
 refine AL_g rfl rfl (x_field (off := 0) (o' := 0) rfl rfl rfl (by kernel_rfl) rfl) ?_
 refine AL_g rfl rfl (x_load1 rfl rfl rfl (by kernel_rfl) rfl) ?_
 refine AL_g rfl rfl (x_len (E := 83) (n := 4) rfl rfl (by kernel_rfl)) ?_
 refine AL_gb rfl rfl (x_geq rfl rfl rfl) (fun b18 h18 => ?_)
 refine AL_p (x_pickF rfl rfl rfl) ?_
 refine AL_nild (by kernel_rfl) ?_
 cases b18
 rotate_left
 · try simp only [tdy] at h18
   have hno := here_end (tk := tk) (e := e) (st := st) (by omega)
   refine AW_condT rfl ?_
   refine AW_seq ?_
   refine AW_region ?_
   refine AL_p (x_move rfl rfl) ?_
   refine AL_p (x_nilc rfl rfl rfl) ?_
   refine AL_p (x_field (off := 2) (o' := 2) rfl rfl rfl (by kernel_rfl) rfl) ?_
   refine AL_p (x_load1 rfl rfl rfl (by kernel_rfl) rfl) ?_
   refine AL_p (x_build (zs := [.int .i64 0, .int .i64 0, .string ⟨#[]⟩, .int .i64 0]) (places := [(0, 1), (1, 1), (2, 1), (3, 1)]) rfl (by kernel_rfl) rfl rfl rfl rfl rfl) ?_
   refine AL_p (x_store (n := 4) rfl rfl rfl rfl (by kernel_rfl) rfl rfl rfl) ?_
   refine AL_nil ?_
   refine AW_ret ?_
   exact ⟨rn [(9, 100)], ⟨⟨⟨_, rfl, VLe.rf⟩, trivial⟩, ⟨⟨_, rfl, by first | exact BLe.rf | exact ble_eq (by rw [hno]; first | done | rfl)⟩, ⟨_, rfl, by first | exact BLe.rf | exact ble_eq (by rw [hno]; first | done | rfl)⟩, trivial⟩, ⟨⟨rfl, .inl nofun, fun _ _ => ⟨_, rfl⟩⟩, trivial⟩, rfl⟩⟩
 try simp only [tdy] at h18
 have hno := here_ok (tk := tk) (e := e) (st := st) h7 (by omega)
 refine AW_condF rfl ?_
 refine AW_skip ?_
 refine AW_seq ?_
 refine AW_draw rfl ?_
 refine AL_p (x_move rfl rfl) ?_
 refine AL_p (x_nilc rfl rfl rfl) ?_
 refine AL_p (x_field (off := 0) (o' := 0) rfl rfl rfl (by kernel_rfl) rfl) ?_
 refine AL_p (x_load1 rfl rfl rfl (by kernel_rfl) rfl) ?_
 refine AL_p (x_move rfl rfl) ?_
 refine AL_p (x_nilc rfl rfl rfl) ?_
 refine AL_p (x_field (off := 1) (o' := 1) rfl rfl rfl (by kernel_rfl) rfl) ?_
 refine AL_p (x_load1 rfl rfl rfl (by kernel_rfl) rfl) ?_
 refine AL_p (x_index (E := 83) (n := 4) rfl rfl rfl (by kernel_rfl) rfl (k := st.i) (by omega) (by omega)) ?_
 refine AL_p (x_eloadW (n := 4) rfl rfl (by kernel_rfl) rfl) ?_
 refine AL_p (x_store (n := 4) rfl rfl rfl rfl (by kernel_rfl) rfl rfl rfl) ?_
 refine AL_nild (by kernel_rfl) ?_
 refine AW_ret ?_
 exact ⟨rn [(9, 100)], ⟨⟨⟨_, rfl, VLe.rf⟩, trivial⟩, ⟨⟨_, rfl, by first | exact BLe.rf | exact ble_eq (by rw [hno]; first | done | rfl)⟩, ⟨_, rfl, by first | exact BLe.rf | exact ble_eq (by rw [hno]; first | done | rfl)⟩, trivial⟩, ⟨⟨rfl, .inl nofun, fun _ _ => ⟨_, rfl⟩⟩, trivial⟩, rfl⟩⟩

set_option maxHeartbeats 4000000 in
theorem pFail_c (tk : List Tokent) (e : Int) (st : PS) (hm : tk.length ≤ 1048576) (hi : st.i ≤ tk.length) (c : Int) : AC Try.prog 64 [.one (.ptr 200 0), .one (.c (.int .i64 (c)))] [(200, some (psB tk e st))] (.tup []) [(200, some (psB tk e (faultP tk e c st)))] := by
 refine AC_body0 Try.func64 rfl rfl Try.ntmps64 rfl Try.results64 ?_
 refine AW_seq ?_
 refine AW_region ?_
 refine AL_p (x_move rfl rfl) ?_
 refine AL_p (x_nilc rfl rfl rfl) ?_
 refine AL_p (x_field (off := 3) (o' := 3) rfl rfl rfl (by kernel_rfl) rfl) ?_
 refine AL_p (x_load1 rfl rfl rfl (by kernel_rfl) rfl) ?_
 refine AL_b (x_eql rfl rfl rfl) (fun b9 h9 => ?_)
 refine AL_nil ?_
 cases b9
 · try simp only [tdy] at h9
   have hno := fault_bad (tk := tk) (e := e) (c := c) h9
   refine AW_condF rfl ?_
   refine AW_skip ?_
   exact ⟨rn [], ⟨trivial, ⟨⟨_, rfl, by first | exact BLe.rf | exact ble_eq (by rw [hno]; first | done | rfl)⟩, trivial⟩, ⟨⟨rfl, .inl nofun, fun _ _ => ⟨_, rfl⟩⟩, trivial⟩, rfl⟩⟩
 try simp only [tdy] at h9
 have hno := fault_ok (tk := tk) (e := e) (c := c) h9
 refine AW_condT rfl ?_
 refine AW_seq ?_
 refine AW_region ?_
 refine AL_p (x_move rfl rfl) ?_
 refine AL_p (x_call (ks := []) (L := [(200, some _)]) (L' := [(200, some _)]) rfl rfl rfl (pHere_c tk e st hm (hi)) rfl AllV.rf (caught_of rfl) rfl rfl rfl ⟨rfl, trivial⟩ rfl) ?_
 refine AL_p (x_alloc (z := .agg #[.int .i64 0, .int .i64 0, .string ⟨#[]⟩, .int .i64 0]) 100 rfl (by kernel_rfl) rfl rfl rfl rfl) ?_
 refine AL_p (x_store (n := 4) rfl rfl rfl rfl (by kernel_rfl) rfl rfl rfl) ?_
 refine AL_nil ?_
 refine AW_seq ?_
 refine AW_region ?_
 refine AL_p (x_move rfl rfl) ?_
 refine AL_p (x_move rfl rfl) ?_
 refine AL_p (x_nilc rfl rfl rfl) ?_
 refine AL_p (x_field (off := 3) (o' := 3) rfl rfl rfl (by kernel_rfl) rfl) ?_
 refine AL_p (x_store (n := 1) rfl rfl rfl rfl (by kernel_rfl) rfl rfl rfl) ?_
 refine AL_nil ?_
 refine AW_region ?_
 refine AL_p (x_move rfl rfl) ?_
 refine AL_p (x_field (off := 3) (o' := 3) rfl rfl rfl (by kernel_rfl) rfl) ?_
 refine AL_p (x_load1 rfl rfl rfl (by kernel_rfl) rfl) ?_
 refine AL_p (x_nilc rfl rfl rfl) ?_
 refine AL_p (x_field (off := 4) (o' := 4) rfl rfl rfl (by kernel_rfl) rfl) ?_
 refine AL_p (x_store (n := 1) rfl rfl rfl rfl (by kernel_rfl) rfl rfl rfl) ?_
 refine AL_nil ?_
 exact ⟨rn [], ⟨trivial, ⟨⟨_, rfl, by first | exact BLe.rf | exact ble_eq (by rw [hno]; first | done | rfl)⟩, trivial⟩, ⟨⟨rfl, .inl nofun, fun _ _ => ⟨_, rfl⟩⟩, trivial⟩, rfl⟩⟩

set_option maxHeartbeats 4000000 in
theorem pIsSign_c (tk : List Tokent) (e : Int) (st : PS) (hm : tk.length ≤ 1048576) (hi : st.i ≤ tk.length) (s : ByteArray) : AC Try.prog 63 [.one (.ptr 200 0), .one (.c (.string (s)))] [(200, some (psB tk e st))] (.one (.c (.bool (signT (hereT tk e st) s)))) [(200, some (psB tk e st))] := by
 refine AC_body1 Try.func63 rfl rfl Try.ntmps63 rfl Try.results63 ?_
 refine AW_seq ?_
 refine AW_region ?_
 refine AL_p (x_assign rfl rfl) ?_
 refine AL_nil ?_
 refine AW_seq ?_
 refine AW_region ?_
 refine AL_p (x_move rfl rfl) ?_
 refine AL_p (x_call (ks := []) (L := [(200, some _)]) (L' := [(200, some _)]) rfl rfl rfl (pHere_c tk e st hm (hi)) rfl AllV.rf (caught_of rfl) rfl rfl rfl ⟨rfl, trivial⟩ rfl) ?_
 refine AL_p (x_alloc (z := .agg #[.int .i64 0, .int .i64 0, .string ⟨#[]⟩, .int .i64 0]) 100 rfl (by kernel_rfl) rfl rfl rfl rfl) ?_
 refine AL_p (x_store (n := 4) rfl rfl rfl rfl (by kernel_rfl) rfl rfl rfl) ?_
 refine AL_nil ?_
 refine AW_seq ?_
 refine AW_region ?_
 refine AL_p (x_field (off := 0) (o' := 0) rfl rfl rfl (by kernel_rfl) rfl) ?_
 refine AL_p (x_load1 rfl rfl rfl (by kernel_rfl) rfl) ?_
 refine AL_b (x_eql rfl rfl rfl) (fun b10 h10 => ?_)
 refine AL_p (x_move rfl rfl) ?_
 cases b10
 · try simp only [tdy] at h10
   refine AL_o rfl rfl rfl rfl ?_
   refine AL_o rfl rfl rfl rfl ?_
   refine AL_o rfl rfl rfl rfl ?_
   refine AL_o rfl rfl rfl rfl ?_
   refine AL_p (x_pickF rfl rfl rfl) ?_
   refine AL_p (x_assign rfl rfl) ?_
   refine AL_nil ?_
   refine AW_ret ?_
   exact ⟨rn [], ⟨⟨⟨_, rfl, vle_bool (by simp [signT, *])⟩, trivial⟩, ⟨⟨_, rfl, by first | exact BLe.rf | exact ble_eq (by rw [hno]; first | done | rfl)⟩, trivial⟩, ⟨⟨rfl, .inl nofun, fun _ _ => ⟨_, rfl⟩⟩, trivial⟩, rfl⟩⟩
 try simp only [tdy] at h10
 refine AL_g rfl rfl (x_field (off := 2) (o' := 2) rfl rfl rfl (by kernel_rfl) rfl) ?_
 refine AL_g rfl rfl (x_load1 rfl rfl rfl (by kernel_rfl) rfl) ?_
 refine AL_g rfl rfl (x_move rfl rfl) ?_
 refine AL_gb rfl rfl (x_seql rfl rfl rfl) (fun b15 h15 => ?_)
 refine AL_p (x_pickT rfl rfl rfl) ?_
 refine AL_p (x_assign rfl rfl) ?_
 refine AL_nil ?_
 refine AW_ret ?_
 cases b15
 rotate_left
 · try simp only [tdy] at h15
   exact ⟨rn [], ⟨⟨⟨_, rfl, vle_bool (by simp [signT, *])⟩, trivial⟩, ⟨⟨_, rfl, by first | exact BLe.rf | exact ble_eq (by rw [hno]; first | done | rfl)⟩, trivial⟩, ⟨⟨rfl, .inl nofun, fun _ _ => ⟨_, rfl⟩⟩, trivial⟩, rfl⟩⟩
 try simp only [tdy] at h15
 exact ⟨rn [], ⟨⟨⟨_, rfl, vle_bool (by simp [signT, *])⟩, trivial⟩, ⟨⟨_, rfl, by first | exact BLe.rf | exact ble_eq (by rw [hno]; first | done | rfl)⟩, trivial⟩, ⟨⟨rfl, .inl nofun, fun _ _ => ⟨_, rfl⟩⟩, trivial⟩, rfl⟩⟩

set_option maxHeartbeats 4000000 in
theorem pIsName_c (tk : List Tokent) (e : Int) (st : PS) (hm : tk.length ≤ 1048576) (hi : st.i ≤ tk.length) : AC Try.prog 62 [.one (.ptr 200 0)] [(200, some (psB tk e st))] (.one (.c (.bool (nameT (hereT tk e st))))) [(200, some (psB tk e st))] := by
 refine AC_body1 Try.func62 rfl rfl Try.ntmps62 rfl Try.results62 ?_
 refine AW_seq ?_
 refine AW_region ?_
 refine AL_p (x_assign rfl rfl) ?_
 refine AL_nil ?_
 refine AW_seq ?_
 refine AW_region ?_
 refine AL_p (x_move rfl rfl) ?_
 refine AL_p (x_call (ks := []) (L := [(200, some _)]) (L' := [(200, some _)]) rfl rfl rfl (pHere_c tk e st hm (hi)) rfl AllV.rf (caught_of rfl) rfl rfl rfl ⟨rfl, trivial⟩ rfl) ?_
 refine AL_p (x_alloc (z := .agg #[.int .i64 0, .int .i64 0, .string ⟨#[]⟩, .int .i64 0]) 100 rfl (by kernel_rfl) rfl rfl rfl rfl) ?_
 refine AL_p (x_store (n := 4) rfl rfl rfl rfl (by kernel_rfl) rfl rfl rfl) ?_
 refine AL_nil ?_
 refine AW_seq ?_
 refine AW_region ?_
 refine AL_p (x_field (off := 0) (o' := 0) rfl rfl rfl (by kernel_rfl) rfl) ?_
 refine AL_p (x_load1 rfl rfl rfl (by kernel_rfl) rfl) ?_
 refine AL_b (x_eql rfl rfl rfl) (fun b8 h8 => ?_)
 refine AL_p (x_move rfl rfl) ?_
 cases b8
 · try simp only [tdy] at h8
   refine AL_o rfl rfl rfl rfl ?_
   refine AL_o rfl rfl rfl rfl ?_
   refine AL_o rfl rfl rfl rfl ?_
   refine AL_o rfl rfl rfl rfl ?_
   refine AL_p (x_pickF rfl rfl rfl) ?_
   refine AL_p (x_assign rfl rfl) ?_
   refine AL_nil ?_
   refine AW_ret ?_
   exact ⟨rn [], ⟨⟨⟨_, rfl, vle_bool (by simp [nameT, *])⟩, trivial⟩, ⟨⟨_, rfl, by first | exact BLe.rf | exact ble_eq (by rw [hno]; first | done | rfl)⟩, trivial⟩, ⟨⟨rfl, .inl nofun, fun _ _ => ⟨_, rfl⟩⟩, trivial⟩, rfl⟩⟩
 try simp only [tdy] at h8
 refine AL_g rfl rfl (x_field (off := 2) (o' := 2) rfl rfl rfl (by kernel_rfl) rfl) ?_
 refine AL_g rfl rfl (x_load1 rfl rfl rfl (by kernel_rfl) rfl) ?_
 refine AL_gb rfl rfl (x_call0 rfl rfl rfl (keptI_c _) rfl rfl) (fun b12 h12 => ?_)
 refine AL_g rfl rfl (x_not rfl rfl) ?_
 refine AL_p (x_pickT rfl rfl rfl) ?_
 refine AL_p (x_assign rfl rfl) ?_
 refine AL_nil ?_
 refine AW_ret ?_
 cases b12
 rotate_left
 · try simp only [tdy] at h12
   exact ⟨rn [], ⟨⟨⟨_, rfl, vle_bool (by simp [nameT, *])⟩, trivial⟩, ⟨⟨_, rfl, by first | exact BLe.rf | exact ble_eq (by rw [hno]; first | done | rfl)⟩, trivial⟩, ⟨⟨rfl, .inl nofun, fun _ _ => ⟨_, rfl⟩⟩, trivial⟩, rfl⟩⟩
 try simp only [tdy] at h12
 exact ⟨rn [], ⟨⟨⟨_, rfl, vle_bool (by simp [nameT, *])⟩, trivial⟩, ⟨⟨_, rfl, by first | exact BLe.rf | exact ble_eq (by rw [hno]; first | done | rfl)⟩, trivial⟩, ⟨⟨rfl, .inl nofun, fun _ _ => ⟨_, rfl⟩⟩, trivial⟩, rfl⟩⟩

set_option maxHeartbeats 4000000 in
theorem pIsTerm_c (tk : List Tokent) (e : Int) (st : PS) (hm : tk.length ≤ 1048576) (hi : st.i ≤ tk.length) : AC Try.prog 141 [.one (.ptr 200 0)] [(200, some (psB tk e st))] (.one (.c (.bool (termT (hereT tk e st))))) [(200, some (psB tk e st))] := by
 refine AC_body1 Try.func141 rfl rfl Try.ntmps141 rfl Try.results141 ?_
 refine AW_seq ?_
 refine AW_region ?_
 refine AL_p (x_assign rfl rfl) ?_
 refine AL_nil ?_
 refine AW_seq ?_
 refine AW_region ?_
 refine AL_p (x_move rfl rfl) ?_
 refine AL_p (x_call (ks := []) (L := [(200, some _)]) (L' := [(200, some _)]) rfl rfl rfl (pHere_c tk e st hm (hi)) rfl AllV.rf (caught_of rfl) rfl rfl rfl ⟨rfl, trivial⟩ rfl) ?_
 refine AL_p (x_alloc (z := .agg #[.int .i64 0, .int .i64 0, .string ⟨#[]⟩, .int .i64 0]) 100 rfl (by kernel_rfl) rfl rfl rfl rfl) ?_
 refine AL_p (x_store (n := 4) rfl rfl rfl rfl (by kernel_rfl) rfl rfl rfl) ?_
 refine AL_nil ?_
 refine AW_seq ?_
 refine AW_region ?_
 refine AL_p (x_field (off := 0) (o' := 0) rfl rfl rfl (by kernel_rfl) rfl) ?_
 refine AL_p (x_load1 rfl rfl rfl (by kernel_rfl) rfl) ?_
 refine AL_b (x_eql rfl rfl rfl) (fun b8 h8 => ?_)
 refine AL_p (x_move rfl rfl) ?_
 cases b8
 rotate_left
 · try simp only [tdy] at h8
   refine AL_o rfl rfl rfl rfl ?_
   refine AL_o rfl rfl rfl rfl ?_
   refine AL_o rfl rfl rfl rfl ?_
   refine AL_p (x_pickT rfl rfl rfl) ?_
   refine AL_p (x_move rfl rfl) ?_
   refine AL_o rfl rfl rfl rfl ?_
   refine AL_o rfl rfl rfl rfl ?_
   refine AL_p (x_pickT rfl rfl rfl) ?_
   refine AL_p (x_assign rfl rfl) ?_
   refine AL_nil ?_
   refine AW_ret ?_
   exact ⟨rn [], ⟨⟨⟨_, rfl, vle_bool (by simp [termT, *])⟩, trivial⟩, ⟨⟨_, rfl, by first | exact BLe.rf | exact ble_eq (by rw [hno]; first | done | rfl)⟩, trivial⟩, ⟨⟨rfl, .inl nofun, fun _ _ => ⟨_, rfl⟩⟩, trivial⟩, rfl⟩⟩
 try simp only [tdy] at h8
 refine AL_g rfl rfl (x_field (off := 0) (o' := 0) rfl rfl rfl (by kernel_rfl) rfl) ?_
 refine AL_g rfl rfl (x_load1 rfl rfl rfl (by kernel_rfl) rfl) ?_
 refine AL_gb rfl rfl (x_eql rfl rfl rfl) (fun b12 h12 => ?_)
 refine AL_p (x_pickF rfl rfl rfl) ?_
 refine AL_p (x_move rfl rfl) ?_
 cases b12
 rotate_left
 · try simp only [tdy] at h12
   refine AL_o rfl rfl rfl rfl ?_
   refine AL_o rfl rfl rfl rfl ?_
   refine AL_p (x_pickT rfl rfl rfl) ?_
   refine AL_p (x_assign rfl rfl) ?_
   refine AL_nil ?_
   refine AW_ret ?_
   exact ⟨rn [], ⟨⟨⟨_, rfl, vle_bool (by simp [termT, *])⟩, trivial⟩, ⟨⟨_, rfl, by first | exact BLe.rf | exact ble_eq (by rw [hno]; first | done | rfl)⟩, trivial⟩, ⟨⟨rfl, .inl nofun, fun _ _ => ⟨_, rfl⟩⟩, trivial⟩, rfl⟩⟩
 try simp only [tdy] at h12
 refine AL_g rfl rfl (x_move rfl rfl) ?_
 refine AL_gbc rfl rfl (x_call (ks := []) (L := [(200, some _)]) (L' := [(200, some _)]) rfl rfl rfl (pIsName_c tk e st hm hi) rfl AllV.rf (caught_of rfl) rfl rfl rfl ⟨rfl, trivial⟩ rfl) (fun b16 h16 => ?_)
 refine AL_p (x_pickF rfl rfl rfl) ?_
 refine AL_p (x_assign rfl rfl) ?_
 refine AL_nil ?_
 refine AW_ret ?_
 cases b16
 rotate_left
 · try simp only [tdy] at h16
   exact ⟨rn [], ⟨⟨⟨_, rfl, vle_bool (by simp [termT, *])⟩, trivial⟩, ⟨⟨_, rfl, by first | exact BLe.rf | exact ble_eq (by rw [hno]; first | done | rfl)⟩, trivial⟩, ⟨⟨rfl, .inl nofun, fun _ _ => ⟨_, rfl⟩⟩, trivial⟩, rfl⟩⟩
 try simp only [tdy] at h16
 exact ⟨rn [], ⟨⟨⟨_, rfl, vle_bool (by simp [termT, *])⟩, trivial⟩, ⟨⟨_, rfl, by first | exact BLe.rf | exact ble_eq (by rw [hno]; first | done | rfl)⟩, trivial⟩, ⟨⟨rfl, .inl nofun, fun _ _ => ⟨_, rfl⟩⟩, trivial⟩, rfl⟩⟩

set_option maxHeartbeats 4000000 in
theorem pStarts_c (tk : List Tokent) (e : Int) (st : PS) (hm : tk.length ≤ 1048576) (hi : st.i ≤ tk.length) : AC Try.prog 143 [.one (.ptr 200 0)] [(200, some (psB tk e st))] (.one (.c (.bool (beginsT (hereT tk e st))))) [(200, some (psB tk e st))] := by
 refine AC_body1 Try.func143 rfl rfl Try.ntmps143 rfl Try.results143 ?_
 refine AW_seq ?_
 refine AW_region ?_
 refine AL_p (x_assign rfl rfl) ?_
 refine AL_nil ?_
 refine AW_seq ?_
 refine AW_region ?_
 refine AL_p (x_move rfl rfl) ?_
 refine AL_p (x_call (ks := []) (L := [(200, some _)]) (L' := [(200, some _)]) rfl rfl rfl (pHere_c tk e st hm (hi)) rfl AllV.rf (caught_of rfl) rfl rfl rfl ⟨rfl, trivial⟩ rfl) ?_
 refine AL_p (x_alloc (z := .agg #[.int .i64 0, .int .i64 0, .string ⟨#[]⟩, .int .i64 0]) 100 rfl (by kernel_rfl) rfl rfl rfl rfl) ?_
 refine AL_p (x_store (n := 4) rfl rfl rfl rfl (by kernel_rfl) rfl rfl rfl) ?_
 refine AL_nil ?_
 refine AW_seq ?_
 refine AW_region ?_
 refine AL_p (x_move rfl rfl) ?_
 refine AL_bc (x_call (ks := []) (L := [(200, some _)]) (L' := [(200, some _)]) rfl rfl rfl (pIsTerm_c tk e st hm hi) rfl AllV.rf (caught_of rfl) rfl rfl rfl ⟨rfl, trivial⟩ rfl) (fun b7 h7 => ?_)
 refine AL_p (x_move rfl rfl) ?_
 cases b7
 rotate_left
 · try simp only [tdy] at h7
   refine AL_o rfl rfl rfl rfl ?_
   refine AL_o rfl rfl rfl rfl ?_
   refine AL_o rfl rfl rfl rfl ?_
   refine AL_o rfl rfl rfl rfl ?_
   refine AL_u rfl rfl rfl ?_
   refine AL_u rfl rfl rfl ?_
   refine AL_u rfl rfl rfl ?_
   refine AL_o rfl rfl rfl rfl ?_
   refine AL_p (x_pickT rfl rfl rfl) ?_
   refine AL_p (x_assign rfl rfl) ?_
   refine AL_nil ?_
   refine AW_ret ?_
   exact ⟨rn [], ⟨⟨⟨_, rfl, vle_bool (by simp [beginsT, notT, notS, *])⟩, trivial⟩, ⟨⟨_, rfl, by first | exact BLe.rf | exact ble_eq (by rw [hno]; first | done | rfl)⟩, trivial⟩, ⟨⟨rfl, .inl nofun, fun _ _ => ⟨_, rfl⟩⟩, trivial⟩, rfl⟩⟩
 try simp only [tdy] at h7
 refine AL_g rfl rfl (x_field (off := 0) (o' := 0) rfl rfl rfl (by kernel_rfl) rfl) ?_
 refine AL_g rfl rfl (x_load1 rfl rfl rfl (by kernel_rfl) rfl) ?_
 refine AL_gb rfl rfl (x_eql rfl rfl rfl) (fun b11 h11 => ?_)
 refine AL_g rfl rfl (x_move rfl rfl) ?_
 cases b11
 · try simp only [tdy] at h11
   refine AL_o rfl rfl rfl rfl ?_
   refine AL_o rfl rfl rfl rfl ?_
   refine AL_o rfl rfl rfl rfl ?_
   refine AL_g rfl rfl (x_pickF rfl rfl rfl) ?_
   refine AL_p (x_pickF rfl rfl rfl) ?_
   refine AL_p (x_assign rfl rfl) ?_
   refine AL_nil ?_
   refine AW_ret ?_
   exact ⟨rn [], ⟨⟨⟨_, rfl, vle_bool (by simp [beginsT, notT, notS, *])⟩, trivial⟩, ⟨⟨_, rfl, by first | exact BLe.rf | exact ble_eq (by rw [hno]; first | done | rfl)⟩, trivial⟩, ⟨⟨rfl, .inl nofun, fun _ _ => ⟨_, rfl⟩⟩, trivial⟩, rfl⟩⟩
 try simp only [tdy] at h11
 refine AL_g rfl rfl (x_field (off := 2) (o' := 2) rfl rfl rfl (by kernel_rfl) rfl) ?_
 refine AL_g rfl rfl (x_load1 rfl rfl rfl (by kernel_rfl) rfl) ?_
 refine AL_gb rfl rfl (x_seql rfl rfl rfl) (fun b15 h15 => ?_)
 refine AL_g rfl rfl (x_pickT rfl rfl rfl) ?_
 refine AL_p (x_pickF rfl rfl rfl) ?_
 refine AL_p (x_assign rfl rfl) ?_
 refine AL_nil ?_
 refine AW_ret ?_
 cases b15
 rotate_left
 · try simp only [tdy] at h15
   exact ⟨rn [], ⟨⟨⟨_, rfl, vle_bool (by simp [beginsT, notT, notS, *])⟩, trivial⟩, ⟨⟨_, rfl, by first | exact BLe.rf | exact ble_eq (by rw [hno]; first | done | rfl)⟩, trivial⟩, ⟨⟨rfl, .inl nofun, fun _ _ => ⟨_, rfl⟩⟩, trivial⟩, rfl⟩⟩
 try simp only [tdy] at h15
 exact ⟨rn [], ⟨⟨⟨_, rfl, vle_bool (by simp [beginsT, notT, notS, *])⟩, trivial⟩, ⟨⟨_, rfl, by first | exact BLe.rf | exact ble_eq (by rw [hno]; first | done | rfl)⟩, trivial⟩, ⟨⟨rfl, .inl nofun, fun _ _ => ⟨_, rfl⟩⟩, trivial⟩, rfl⟩⟩

set_option maxHeartbeats 4000000 in
theorem pNeed_c (tk : List Tokent) (e : Int) (st : PS) (hm : tk.length ≤ 1048576) (hi : st.i ≤ tk.length) (s : ByteArray) : AC Try.prog 112 [.one (.ptr 200 0), .one (.c (.string (s)))] [(200, some (psB tk e st))] (.tup []) [(200, some (psB tk e (takeP tk e s st)))] := by
 refine AC_body0 Try.func112 rfl rfl Try.ntmps112 rfl Try.results112 ?_
 refine AW_seq ?_
 refine AW_seq ?_
 refine AW_region ?_
 refine AL_p (x_move rfl rfl) ?_
 refine AL_p (x_move rfl rfl) ?_
 refine AL_bc (x_call (ks := []) (L := [(200, some _)]) (L' := [(200, some _)]) rfl rfl rfl (pIsSign_c tk e st hm hi s) rfl AllV.rf (caught_of rfl) rfl rfl rfl ⟨rfl, trivial⟩ rfl) (fun b6 h6 => ?_)
 refine AL_p (x_not rfl rfl) ?_
 refine AL_nil ?_
 cases b6
 · try simp only [tdy] at h6
   have hno := take_no h6
   refine AW_condT rfl ?_
   refine AW_seq ?_
   refine AW_region ?_
   refine AL_p (x_move rfl rfl) ?_
   refine AL_p (x_call (ks := []) (L := [(200, some _)]) (L' := [(200, some _)]) rfl rfl rfl (pFail_c tk e st hm hi 6) rfl AllV.rf (caught_of rfl) rfl rfl rfl ⟨rfl, trivial⟩ rfl) ?_
   refine AL_nil ?_
   refine AW_ret ?_
   exact ⟨rn [], ⟨trivial, ⟨⟨_, rfl, by first | exact BLe.rf | exact ble_eq (by rw [hno]; first | done | rfl)⟩, trivial⟩, ⟨⟨rfl, .inl nofun, fun _ _ => ⟨_, rfl⟩⟩, trivial⟩, rfl⟩⟩
 try simp only [tdy] at h6
 have hno := take_ok h6
 have hlt := sign_lt h6
 refine AW_condF rfl ?_
 refine AW_skip ?_
 refine AW_region ?_
 refine AL_p (x_move rfl rfl) ?_
 refine AL_p (x_nilc rfl rfl rfl) ?_
 refine AL_p (x_field (off := 1) (o' := 1) rfl rfl rfl (by kernel_rfl) rfl) ?_
 refine AL_p (x_load1 rfl rfl rfl (by kernel_rfl) rfl) ?_
 refine AL_p (x_add rfl rfl rfl (IntWalk.i64_in _ (by omega))) ?_
 refine AL_p (x_nilc rfl rfl rfl) ?_
 refine AL_p (x_field (off := 1) (o' := 1) rfl rfl rfl (by kernel_rfl) rfl) ?_
 refine AL_p (x_store (n := 1) rfl rfl rfl rfl (by kernel_rfl) rfl rfl rfl) ?_
 refine AL_nil ?_
 exact ⟨rn [], ⟨trivial, ⟨⟨_, rfl, by first | exact BLe.rf | exact ble_eq (by rw [hno]; first | done | rfl)⟩, trivial⟩, ⟨⟨rfl, .inl nofun, fun _ _ => ⟨_, rfl⟩⟩, trivial⟩, rfl⟩⟩

set_option maxHeartbeats 4000000 in
theorem pName_c (tk : List Tokent) (e : Int) (st : PS) (hm : tk.length ≤ 1048576) (hi : st.i ≤ tk.length) : AC Try.prog 111 [.one (.ptr 200 0)] [(200, some (psB tk e st))] (.one (.c (.string ((wordP tk e st).1)))) [(200, some (psB tk e (wordP tk e st).2))] := by
 refine AC_body1 Try.func111 rfl rfl Try.ntmps111 rfl Try.results111 ?_
 refine AW_seq ?_
 refine AW_region ?_
 refine AL_p (x_assign rfl rfl) ?_
 refine AL_nil ?_
 refine AW_seq ?_
 refine AW_seq ?_
 refine AW_region ?_
 refine AL_p (x_move rfl rfl) ?_
 refine AL_bc (x_call (ks := []) (L := [(200, some _)]) (L' := [(200, some _)]) rfl rfl rfl (pIsName_c tk e st hm hi) rfl AllV.rf (caught_of rfl) rfl rfl rfl ⟨rfl, trivial⟩ rfl) (fun b5 h5 => ?_)
 refine AL_p (x_not rfl rfl) ?_
 refine AL_nil ?_
 cases b5
 · try simp only [tdy] at h5
   have hno := word_no h5
   refine AW_condT rfl ?_
   refine AW_seq ?_
   refine AW_region ?_
   refine AL_p (x_move rfl rfl) ?_
   refine AL_p (x_call (ks := []) (L := [(200, some _)]) (L' := [(200, some _)]) rfl rfl rfl (pFail_c tk e st hm hi 6) rfl AllV.rf (caught_of rfl) rfl rfl rfl ⟨rfl, trivial⟩ rfl) ?_
   refine AL_nil ?_
   refine AW_seq ?_
   refine AW_region ?_
   refine AL_p (x_assign rfl rfl) ?_
   refine AL_nil ?_
   refine AW_ret ?_
   exact ⟨rn [], ⟨⟨⟨_, rfl, vle_str (by rw [hno])⟩, trivial⟩, ⟨⟨_, rfl, by first | exact BLe.rf | exact ble_eq (by rw [hno]; first | done | rfl)⟩, trivial⟩, ⟨⟨rfl, .inl nofun, fun _ _ => ⟨_, rfl⟩⟩, trivial⟩, rfl⟩⟩
 try simp only [tdy] at h5
 have hno := word_ok h5
 have hlt := name_lt h5
 refine AW_condF rfl ?_
 refine AW_skip ?_
 refine AW_seq ?_
 refine AW_region ?_
 refine AL_p (x_move rfl rfl) ?_
 refine AL_p (x_call (ks := []) (L := [(200, some _)]) (L' := [(200, some _)]) rfl rfl rfl (pHere_c tk e st hm (hi)) rfl AllV.rf (caught_of rfl) rfl rfl rfl ⟨rfl, trivial⟩ rfl) ?_
 refine AL_p (x_alloc (z := .agg #[.int .i64 0, .int .i64 0, .string ⟨#[]⟩, .int .i64 0]) 100 rfl (by kernel_rfl) rfl rfl rfl rfl) ?_
 refine AL_p (x_store (n := 4) rfl rfl rfl rfl (by kernel_rfl) rfl rfl rfl) ?_
 refine AL_nil ?_
 refine AW_seq ?_
 refine AW_region ?_
 refine AL_p (x_move rfl rfl) ?_
 refine AL_p (x_nilc rfl rfl rfl) ?_
 refine AL_p (x_field (off := 1) (o' := 1) rfl rfl rfl (by kernel_rfl) rfl) ?_
 refine AL_p (x_load1 rfl rfl rfl (by kernel_rfl) rfl) ?_
 refine AL_p (x_add rfl rfl rfl (IntWalk.i64_in _ (by omega))) ?_
 refine AL_p (x_nilc rfl rfl rfl) ?_
 refine AL_p (x_field (off := 1) (o' := 1) rfl rfl rfl (by kernel_rfl) rfl) ?_
 refine AL_p (x_store (n := 1) rfl rfl rfl rfl (by kernel_rfl) rfl rfl rfl) ?_
 refine AL_nil ?_
 refine AW_seq ?_
 refine AW_region ?_
 refine AL_p (x_field (off := 2) (o' := 2) rfl rfl rfl (by kernel_rfl) rfl) ?_
 refine AL_p (x_load1 rfl rfl rfl (by kernel_rfl) rfl) ?_
 refine AL_p (x_assign rfl rfl) ?_
 refine AL_nil ?_
 refine AW_ret ?_
 exact ⟨rn [], ⟨⟨⟨_, rfl, vle_str (by rw [hno])⟩, trivial⟩, ⟨⟨_, rfl, by first | exact BLe.rf | exact ble_eq (by rw [hno]; first | done | rfl)⟩, trivial⟩, ⟨⟨rfl, .inl nofun, fun _ _ => ⟨_, rfl⟩⟩, trivial⟩, rfl⟩⟩

set_option maxHeartbeats 4000000 in
theorem pTerm_c (tk : List Tokent) (e : Int) (st : PS) (hm : tk.length ≤ 1048576) (hi : st.i ≤ tk.length) : AC Try.prog 142 [.one (.ptr 200 0)] [(200, some (psB tk e st))] (.agg (termC (termP tk e false st).1)) [(200, some (psB tk e (termP tk e false st).2))] := by
 refine AC_bodyC (n := 3) (k := 9) (T := [(2, .one (.ptr 9 0))]) (Lf := ((9, some (.box (termC (termP tk e false st).1))) :: [(200, some (psB tk e (termP tk e false st).2))])) Try.func142 rfl rfl Try.ntmps142 rfl Try.results142 rfl rfl (by kernel_rfl) rfl rfl ⟨trivial, (by repeat (first | exact trivial | refine ⟨⟨_, rfl, BLe.rf⟩, ?_⟩)), (by repeat (first | exact trivial | refine ⟨⟨rfl, by first | (left; intro h; cases h) | (right; rfl), by first | exact (fun _ h => ⟨_, h⟩) | exact (fun _ _ => ⟨_, rfl⟩) | (intro _ h; cases h)⟩, ?_⟩)), rfl⟩ ?_
 refine AW_seq ?_
 refine AW_region ?_
 refine AL_p (x_alloc (z := .agg #[.string ⟨#[]⟩, .int .i64 0, .string ⟨#[]⟩]) 100 rfl (by kernel_rfl) rfl rfl rfl rfl) ?_
 refine AL_nil ?_
 refine AW_seq ?_
 refine AW_seq ?_
 refine AW_region ?_
 refine AL_p (x_move rfl rfl) ?_
 refine AL_bc (x_call (ks := []) (L := [(200, some _)]) (L' := [(200, some _)]) rfl rfl rfl (pIsTerm_c tk e st hm hi) rfl AllV.rf (caught_of rfl) rfl rfl rfl ⟨rfl, trivial⟩ rfl) (fun b5 h5 => ?_)
 refine AL_p (x_not rfl rfl) ?_
 refine AL_nil ?_
 cases b5
 · try simp only [tdy] at h5
   have hno := term_no (b := false) h5
   refine AW_condT rfl ?_
   refine AW_seq ?_
   refine AW_region ?_
   refine AL_p (x_move rfl rfl) ?_
   refine AL_p (x_call (ks := []) (L := [(200, some _)]) (L' := [(200, some _)]) rfl rfl rfl (pFail_c tk e st hm hi 6) rfl AllV.rf (caught_of rfl) rfl rfl rfl ⟨rfl, trivial⟩ rfl) ?_
   refine AL_nil ?_
   refine AW_seq ?_
   refine AW_region ?_
   refine AL_p (x_build (zs := [.string ⟨#[]⟩, .int .i64 0, .string ⟨#[]⟩]) (places := [(0, 1), (1, 2)]) rfl (by kernel_rfl) rfl rfl rfl rfl rfl) ?_
   refine AL_p (x_store (n := 3) rfl rfl rfl rfl (by kernel_rfl) rfl rfl rfl) ?_
   refine AL_nil ?_
   refine AW_ret ?_
   exact ⟨rn [(9, 100)], ⟨⟨⟨_, rfl, VLe.rf⟩, trivial⟩, ⟨⟨_, rfl, by first | exact BLe.rf | exact ble_eq (by rw [hno]; first | done | rfl)⟩, ⟨_, rfl, by first | exact BLe.rf | exact ble_eq (by rw [hno]; first | done | rfl)⟩, trivial⟩, ⟨⟨rfl, .inl nofun, fun _ _ => ⟨_, rfl⟩⟩, trivial⟩, rfl⟩⟩
 try simp only [tdy] at h5
 have hn1 := term_ok h5
 have hlt := term_lt h5
 refine AW_condF rfl ?_
 refine AW_skip ?_
 refine AW_seq ?_
 refine AW_region ?_
 refine AL_p (x_move rfl rfl) ?_
 refine AL_p (x_call (ks := []) (L := [(200, some _)]) (L' := [(200, some _)]) rfl rfl rfl (pHere_c tk e st hm (hi)) rfl AllV.rf (caught_of rfl) rfl rfl rfl ⟨rfl, trivial⟩ rfl) ?_
 refine AL_p (x_alloc (z := .agg #[.int .i64 0, .int .i64 0, .string ⟨#[]⟩, .int .i64 0]) 101 rfl (by kernel_rfl) rfl rfl rfl rfl) ?_
 refine AL_p (x_store (n := 4) rfl rfl rfl rfl (by kernel_rfl) rfl rfl rfl) ?_
 refine AL_nil ?_
 refine AW_seq ?_
 refine AW_region ?_
 refine AL_p (x_move rfl rfl) ?_
 refine AL_p (x_nilc rfl rfl rfl) ?_
 refine AL_p (x_field (off := 1) (o' := 1) rfl rfl rfl (by kernel_rfl) rfl) ?_
 refine AL_p (x_load1 rfl rfl rfl (by kernel_rfl) rfl) ?_
 refine AL_p (x_add rfl rfl rfl (IntWalk.i64_in _ (by omega))) ?_
 refine AL_p (x_nilc rfl rfl rfl) ?_
 refine AL_p (x_field (off := 1) (o' := 1) rfl rfl rfl (by kernel_rfl) rfl) ?_
 refine AL_p (x_store (n := 1) rfl rfl rfl rfl (by kernel_rfl) rfl rfl rfl) ?_
 refine AL_nil ?_
 refine AW_seq ?_
 refine AW_seq ?_
 refine AW_region ?_
 refine AL_p (x_field (off := 0) (o' := 0) rfl rfl rfl (by kernel_rfl) rfl) ?_
 refine AL_p (x_load1 rfl rfl rfl (by kernel_rfl) rfl) ?_
 refine AL_nil ?_
 refine AW_block ?_
 refine AW_seq ?_
 refine AW_region ?_
 refine AL_b (x_eql rfl rfl rfl) (fun b22 h22 => ?_)
 refine AL_p (x_assign rfl rfl) ?_
 refine AL_nil ?_
 cases b22
 rotate_left
 · try simp only [tdy] at h22
   have hno := hn1.trans (congrArg (fun x => (x, st.next)) (of_var h22))
   refine AW_condT rfl ?_
   refine AW_seq ?_
   refine AW_region ?_
   refine AL_p (x_field (off := 2) (o' := 2) rfl rfl rfl (by kernel_rfl) rfl) ?_
   refine AL_p (x_load1 rfl rfl rfl (by kernel_rfl) rfl) ?_
   refine AL_p (x_build (zs := [.string ⟨#[]⟩, .int .i64 0, .string ⟨#[]⟩]) (places := [(0, 1), (1, 2)]) rfl (by kernel_rfl) rfl rfl rfl rfl rfl) ?_
   refine AL_p (x_store (n := 3) rfl rfl rfl rfl (by kernel_rfl) rfl rfl rfl) ?_
   refine AL_nil ?_
   refine AW_ret (BQ_ret ?_)
   exact ⟨rn [(9, 100)], ⟨⟨⟨_, rfl, VLe.rf⟩, trivial⟩, ⟨⟨_, rfl, by first | exact BLe.rf | exact ble_eq (by rw [hno]; first | done | rfl)⟩, ⟨_, rfl, by first | exact BLe.rf | exact ble_eq (by rw [hno]; first | done | rfl)⟩, trivial⟩, ⟨⟨rfl, .inl nofun, fun _ _ => ⟨_, rfl⟩⟩, trivial⟩, rfl⟩⟩
 try simp only [tdy] at h22
 refine AW_condF rfl ?_
 refine AW_seq ?_
 refine AW_region ?_
 refine AL_b (x_eql rfl rfl rfl) (fun b27 h27 => ?_)
 refine AL_p (x_assign rfl rfl) ?_
 refine AL_nil ?_
 cases b27
 rotate_left
 · try simp only [tdy] at h27
   have hno := hn1.trans (congrArg (fun x => (x, st.next)) (of_num h22 h27))
   refine AW_condT rfl ?_
   refine AW_seq ?_
   refine AW_region ?_
   refine AL_p (x_field (off := 1) (o' := 1) rfl rfl rfl (by kernel_rfl) rfl) ?_
   refine AL_p (x_load1 rfl rfl rfl (by kernel_rfl) rfl) ?_
   refine AL_p (x_build (zs := [.int .i64 0, .string ⟨#[]⟩]) (places := [(0, 1), (1, 1)]) rfl (by kernel_rfl) rfl rfl rfl rfl rfl) ?_
   refine AL_p (x_build (zs := [.string ⟨#[]⟩, .int .i64 0, .string ⟨#[]⟩]) (places := [(0, 1), (1, 2)]) rfl (by kernel_rfl) rfl rfl rfl rfl rfl) ?_
   refine AL_p (x_store (n := 3) rfl rfl rfl rfl (by kernel_rfl) rfl rfl rfl) ?_
   refine AL_nil ?_
   refine AW_ret (BQ_ret ?_)
   exact ⟨rn [(9, 100)], ⟨⟨⟨_, rfl, VLe.rf⟩, trivial⟩, ⟨⟨_, rfl, by first | exact BLe.rf | exact ble_eq (by rw [hno]; first | done | rfl)⟩, ⟨_, rfl, by first | exact BLe.rf | exact ble_eq (by rw [hno]; first | done | rfl)⟩, trivial⟩, ⟨⟨rfl, .inl nofun, fun _ _ => ⟨_, rfl⟩⟩, trivial⟩, rfl⟩⟩
 try simp only [tdy] at h27
 have hno := hn1.trans (congrArg (fun x => (x, st.next)) (of_name h22 h27))
 refine AW_condF rfl ?_
 refine AW_skip ?_
 refine AW_seq ?_
 refine AW_region ?_
 refine AL_p (x_field (off := 2) (o' := 2) rfl rfl rfl (by kernel_rfl) rfl) ?_
 refine AL_p (x_load1 rfl rfl rfl (by kernel_rfl) rfl) ?_
 refine AL_p (x_build (zs := [.int .i64 0, .string ⟨#[]⟩]) (places := [(0, 1), (1, 1)]) rfl (by kernel_rfl) rfl rfl rfl rfl rfl) ?_
 refine AL_p (x_build (zs := [.string ⟨#[]⟩, .int .i64 0, .string ⟨#[]⟩]) (places := [(0, 1), (1, 2)]) rfl (by kernel_rfl) rfl rfl rfl rfl rfl) ?_
 refine AL_p (x_store (n := 3) rfl rfl rfl rfl (by kernel_rfl) rfl rfl rfl) ?_
 refine AL_nil ?_
 refine AW_ret ?_
 exact ⟨rn [(9, 100)], ⟨⟨⟨_, rfl, VLe.rf⟩, trivial⟩, ⟨⟨_, rfl, by first | exact BLe.rf | exact ble_eq (by rw [hno]; first | done | rfl)⟩, ⟨_, rfl, by first | exact BLe.rf | exact ble_eq (by rw [hno]; first | done | rfl)⟩, trivial⟩, ⟨⟨rfl, .inl nofun, fun _ _ => ⟨_, rfl⟩⟩, trivial⟩, rfl⟩⟩
end Go.Proofs.Ytkemjhlbokldhaa

/- Lemmas of the walks, part 5. -/
import Derived.Test.YtddofobcekmbjaaJ4
import Derived.Shelf.Spec.SlicesGrow
import Derived.Test.YtddofobcekmbjaaRows
/- Equal neighbours once (printed by walk.py) -/
namespace Go.Proofs.Ytddofobcekmbjaa
open Go.RowKit
set_option linter.unusedVariables false
set_option linter.unusedSimpArgs false
set_option maxRecDepth 100000

set_option maxHeartbeats 4000000 in
theorem compactRaw_c (us : List (Raw (List Val))) (hl : us.length ≤ 1048576) (hm : ∀ r ∈ us, r.x.length ≤ 1048576) : AT Try.prog 85 [.one (.own 0), .one (.clo 86 [])] [(0, some (.arr 42 (rawE rowE) (us) false))] (.one (.own 1)) [(1, some (.arr 42 (rawE rowE) (uniqR us us.length) false))] := by
  refine AT_body1 Try.func85 rfl rfl Try.ntmps85 rfl Try.results85 ?_
  refine AW_seq ?_
  refine AW_region ?_
  refine AL_p (x_assign rfl rfl) ?_
  refine AL_nil ?_
  refine AW_seq ?_
  refine AW_seq ?_
  refine AW_region ?_
  refine AL_p (x_move rfl rfl) ?_
  refine AL_p (x_olen (E := 42) (n := 1) rfl rfl rfl (by kernel_rfl)) ?_
  refine AL_b (x_lss rfl rfl rfl) (fun b10 h10 => ?_)
  refine AL_nil ?_
  cases b10
  rotate_left
  · try simp only [tdy] at h10
    refine AW_condT rfl ?_
    refine AW_seq ?_
    refine AW_region ?_
    refine AL_p (x_move rfl rfl) ?_
    refine AL_p (x_assign rfl rfl) ?_
    refine AL_nil ?_
    refine AW_ret ?_
    exact ⟨rn [(1, 0)], ⟨⟨⟨_, rfl, VLe.rf⟩, trivial⟩, ⟨⟨_, rfl, by first | exact BLe.arr (uniqR_short (by omega)) | exact BLe.arr (hp.all (by omega) (by omega)) | exact BLe.arr (uniqA_end (by omega) (by omega))⟩, trivial⟩, trivial, rfl⟩⟩
  try simp only [tdy] at h10
  refine AW_condF rfl ?_
  refine AW_skip ?_
  refine AW_seq ?_
  refine AW_seq ?_
  refine AW_region ?_
  refine AL_p (x_assign rfl rfl) ?_
  refine AL_nil ?_
  refine AW_block ?_
  refine AW_loop2 (ι := {q : Nat // (0 < q ∧ q ≤ us.length) ∧ Plain us q}) (fun p => [(5, .one (.c (.int .i64 ((p.1) : Int))))]) (fun p => []) [0, 1] [0] (fun p => us.length - (p.1)) ⟨1, ⟨by omega, Plain.one⟩⟩ (rn []) ?_ ?_
  exact ⟨by (repeat refine ⟨⟨_, rfl, by first | exact VLe.rf | exact vle_int (by dsimp only; omega)⟩, ?_⟩); exact trivial, by (repeat refine ⟨⟨_, rfl, by first | exact BLe.rf | exact BLe.box AllC.rf | exact BLe.arr (by exact rfl)⟩, ?_⟩); exact trivial, by repeat (first | exact trivial | refine ⟨⟨rfl, by first | (left; intro h; cases h) | (right; rfl), fun _ h => ⟨_, h⟩⟩, ?_⟩), rfl⟩
  rintro ⟨k, hinv⟩
  dsimp only
  obtain ⟨⟨hk0, hk⟩, hp⟩ := hinv
  refine AW_seq ?_
  refine AW_seq ?_
  refine AW_region ?_
  refine AL_p (x_move rfl rfl) ?_
  refine AL_p (x_move rfl rfl) ?_
  refine AL_p (x_olen (E := 42) (n := 1) rfl rfl rfl (by kernel_rfl)) ?_
  refine AL_b (x_lss rfl rfl rfl) (fun b15 h15 => ?_)
  refine AL_nil ?_
  cases b15
  · try simp only [tdy] at h15
    refine AW_condF rfl ?_
    refine AW_exit (BQ_hit ?_)
    refine AW_seq ?_
    refine AW_region ?_
    refine AL_p (x_move rfl rfl) ?_
    refine AL_p (x_assign rfl rfl) ?_
    refine AL_nil ?_
    refine AW_ret ?_
    exact ⟨rn [(1, 0)], ⟨⟨⟨_, rfl, VLe.rf⟩, trivial⟩, ⟨⟨_, rfl, by first | exact BLe.arr (uniqR_short (by omega)) | exact BLe.arr (hp.all (by omega) (by omega)) | exact BLe.arr (uniqA_end (by omega) (by omega))⟩, trivial⟩, trivial, rfl⟩⟩
  try simp only [tdy] at h15
  refine AW_condT rfl ?_
  refine AW_skip ?_
  refine AW_seq ?_
  refine AW_block ?_
  refine AW_seq ?_
  refine AW_draw rfl ?_
  refine AL_p (x_move rfl rfl) ?_
  refine AL_p (x_move rfl rfl) ?_
  refine AL_p (x_move rfl rfl) ?_
  refine AL_p (x_oindex (n := 1) rfl rfl rfl rfl (by kernel_rfl) rfl (k := k) rfl (by omega)) ?_
  refine AL_p (x_oloadN (n := 1) rfl rfl rfl (by kernel_rfl) (by omega) rfl rfl) ?_
  refine AL_p (x_move rfl rfl) ?_
  refine AL_p (x_move rfl rfl) ?_
  refine AL_p (x_sub rfl rfl rfl (IntWalk.i64_in _ (by omega))) ?_
  refine AL_p (x_oindex (n := 1) rfl rfl rfl rfl (by kernel_rfl) rfl (k := k - 1) (by omega) (by omega)) ?_
  refine AL_p (x_oloadN (n := 1) rfl rfl rfl (by kernel_rfl) (by omega) rfl rfl) ?_
  refine AL_bc (x_call (ks := []) (L := []) (L' := []) rfl rfl rfl (sameRowI_c (us[k]'(by omega)).x (us[k - 1]'(by omega)).x (hm _ (List.getElem_mem _))) rfl ⟨V1Le.agg ⟨CLe.rx rfl, trivial⟩, V1Le.agg ⟨CLe.rx rfl, trivial⟩, trivial⟩ (caught_of rfl) rfl rfl rfl trivial rfl) (fun b28 h28 => ?_)
  refine AL_nild (by kernel_rfl) ?_
  cases b28
  · try simp only [tdy] at h28
    refine AW_condF rfl ?_
    refine AW_skip ?_
    refine AW_region ?_
    refine AL_p (x_move rfl rfl) ?_
    refine AL_p (x_add rfl rfl rfl (IntWalk.i64_in _ (by omega))) ?_
    refine AL_p (x_assign rfl rfl) ?_
    refine AL_nil ?_
    refine ⟨⟨k + 1, ⟨by omega, hp.succ (by omega) (by omega) h28⟩⟩, rn [], ?_, by dsimp only; omega⟩
    exact ⟨by (repeat refine ⟨⟨_, rfl, by first | exact VLe.rf | exact vle_int (by dsimp only; omega)⟩, ?_⟩); exact trivial, by (repeat refine ⟨⟨_, rfl, by first | exact BLe.rf | exact BLe.box AllC.rf | exact BLe.arr (by exact rfl)⟩, ?_⟩); exact trivial, by repeat (first | exact trivial | refine ⟨⟨rfl, by first | (left; intro h; cases h) | (right; rfl), fun _ h => ⟨_, h⟩⟩, ?_⟩), rfl⟩
  try simp only [tdy] at h28
  obtain ⟨q1, q2⟩ := uniqR_dup hp (by omega) (by omega) h28
  refine AW_condT rfl ?_
  refine AW_seq ?_
  refine AW_region ?_
  refine AL_p (x_move rfl rfl) ?_
  refine AL_p (x_move rfl rfl) ?_
  refine AL_p (x_oslice (n := 1) rfl rfl rfl (by kernel_rfl) rfl (.yes (l := k) rfl (by omega)) .no (by omega) (by first | exact Nat.le_refl _ | omega)) ?_
  refine AL_p (x_assign rfl rfl) ?_
  refine AL_nil ?_
  refine AW_seq ?_
  refine AW_seq ?_
  refine AW_region ?_
  refine AL_p (x_assign rfl rfl) ?_
  refine AL_nil ?_
  refine AW_block ?_
  refine AW_loop2 (ι := {q : Nat // (k < q ∧ q ≤ us.length) ∧ (uniqR us q).length < q}) (fun p => [(5, .one (.c (.int .i64 ((uniqR us (p.1)).length : Int)))), (7, .one (.c (.int .i64 (((p.1) : Int) - (k : Int)))))]) (fun p => [(0, some (.arr 42 (rawE rowE) (uniqA us (p.1)) false))]) [0, 1, 6] [] (fun p => us.length - (p.1)) ⟨k + 1, ⟨by omega, by omega⟩⟩ (rn []) ?_ ?_
  exact ⟨by (repeat refine ⟨⟨_, rfl, by first | exact VLe.rf | exact vle_int (by dsimp only; omega)⟩, ?_⟩); exact trivial, by (repeat refine ⟨⟨_, rfl, by first | exact BLe.rf | exact BLe.box AllC.rf | exact BLe.arr (by first | exact q2 | exact q5.1 | (unfold uniqA; rw [q5]))⟩, ?_⟩); exact trivial, by repeat (first | exact trivial | refine ⟨⟨rfl, by first | (left; intro h; cases h) | (right; rfl), fun _ h => ⟨_, h⟩⟩, ?_⟩), rfl⟩
  rintro ⟨j, hinv⟩
  dsimp only
  obtain ⟨⟨hkj, hj⟩, hul⟩ := hinv
  have hj : j ≤ us.length := hj
  refine AW_seq ?_
  refine AW_seq ?_
  refine AW_region ?_
  refine AL_p (x_move rfl rfl) ?_
  refine AL_p (x_move rfl rfl) ?_
  refine AL_p (x_osllen (E := 42) (n := 1) rfl rfl rfl (by kernel_rfl) (by rw [uniqA_len (by omega)]; omega)) ?_
  refine AL_b (x_lss rfl rfl rfl) (fun b35 h35 => ?_)
  refine AL_nil ?_
  cases b35
  · try simp only [tdy] at h35
    refine AW_condF rfl ?_
    refine AW_exit (BQ_hit ?_)
    refine AW_seq ?_
    refine AW_region ?_
    refine AL_p (x_move rfl rfl) ?_
    refine AL_p (x_move rfl rfl) ?_
    refine AL_p (x_oslice (n := 1) rfl rfl rfl (by kernel_rfl) rfl (.yes (l := (uniqR us j).length) rfl rfl) .no (by rw [uniqA_len (by omega)]; omega) (by first | exact Nat.le_refl _ | omega)) ?_
    refine AL_p (x_clear (E := 42) (n := 1) (z := .agg #[.slice none 0 0]) zeroR rfl rfl (by kernel_rfl) rfl (by decide) Try.zeroValue42 zeroR_rep (by rw [uniqA_len (by omega)]; omega) (by rw [uniqA_len (by omega)]; omega)) ?_
    refine AL_nil ?_
    refine AW_seq ?_
    refine AW_region ?_
    refine AL_p (x_move rfl rfl) ?_
    refine AL_p (x_move rfl rfl) ?_
    refine AL_p (x_cut (n := 1) (h := (uniqR us j).length) 100 rfl rfl rfl (by kernel_rfl) rfl (.yes rfl rfl) rfl rfl (by simp [uniqA_len hj]; omega)) ?_
    refine AL_p (x_assign rfl rfl) ?_
    refine AL_nil ?_
    refine AW_ret (BQ_ret (BQ_ret ?_))
    exact ⟨rn [(1, 100)], ⟨⟨⟨_, rfl, VLe.rf⟩, trivial⟩, ⟨⟨_, rfl, by first | exact BLe.arr (uniqR_short (by omega)) | exact BLe.arr (hp.all (by omega) (by omega)) | exact BLe.arr (uniqA_end (by omega) (by omega))⟩, trivial⟩, trivial, rfl⟩⟩
  try simp only [tdy] at h35
  refine AW_condT rfl ?_
  refine AW_skip ?_
  refine AW_seq ?_
  refine AW_block ?_
  refine AW_seq ?_
  refine AW_draw rfl ?_
  refine AL_p (x_move rfl rfl) ?_
  refine AL_p (x_move rfl rfl) ?_
  refine AL_p (x_move rfl rfl) ?_
  refine AL_p (x_oslindex (n := 1) rfl rfl rfl rfl (by kernel_rfl) rfl (k := j - k) (by omega) (by omega) (k1 := j) (by omega)) ?_
  refine AL_p (x_oloadN (n := 1) rfl rfl rfl (by kernel_rfl) (by rw [uniqA_len (by omega)]; omega) rfl rfl) ?_
  refine AL_p (x_move rfl rfl) ?_
  refine AL_p (x_move rfl rfl) ?_
  refine AL_p (x_sub rfl rfl rfl (IntWalk.i64_in _ (by omega))) ?_
  refine AL_p (x_oslindex (n := 1) rfl rfl rfl rfl (by kernel_rfl) rfl (k := j - k - 1) (by omega) (by omega) (k1 := j - 1) (by omega)) ?_
  refine AL_p (x_oloadN (n := 1) rfl rfl rfl (by kernel_rfl) (by rw [uniqA_len (by omega)]; omega) rfl rfl) ?_
  refine AL_bc (x_call (ks := []) (L := []) (L' := []) rfl rfl rfl (sameRowI_c (((uniqA us j)[j]'(by rw [uniqA_len (by omega)]; omega))).x (((uniqA us j)[j - 1]'(by rw [uniqA_len (by omega)]; omega))).x (hm _ (by rw [uniqA_at (us := us) (j := j) (i := j) (by omega) (by omega) (by omega) (by rw [uniqA_len (by omega)]; omega)]; exact List.getElem_mem _))) rfl ⟨V1Le.agg ⟨CLe.rx rfl, trivial⟩, V1Le.agg ⟨CLe.rx rfl, trivial⟩, trivial⟩ (caught_of rfl) rfl rfl rfl trivial rfl) (fun b48 h48 => ?_)
  refine AL_p (x_not rfl rfl) ?_
  refine AL_nild (by kernel_rfl) ?_
  cases b48
  rotate_left
  · try simp only [tdy] at h48
    rw [uniqA_at (us := us) (j := j) (i := j) (by omega) (by omega) (by omega) (by rw [uniqA_len (by omega)]; omega), uniqA_at (us := us) (j := j) (i := j - 1) (by omega) (by omega) (by omega) (by rw [uniqA_len (by omega)]; omega)] at h48
    have q5 := uniqR_skip (by omega) (by omega) h48
    have q6 : (uniqR us (j + 1)).length = (uniqR us j).length := by rw [q5]
    refine AW_condF rfl ?_
    refine AW_skip ?_
    refine AW_region ?_
    refine AL_p (x_move rfl rfl) ?_
    refine AL_p (x_add rfl rfl rfl (IntWalk.i64_in _ (by omega))) ?_
    refine AL_p (x_assign rfl rfl) ?_
    refine AL_nil ?_
    refine ⟨⟨j + 1, ⟨by omega, by rw [q5]; omega⟩⟩, rn [], ?_, by dsimp only; omega⟩
    exact ⟨by (repeat refine ⟨⟨_, rfl, by first | exact VLe.rf | exact vle_int (by dsimp only; omega)⟩, ?_⟩); exact trivial, by (repeat refine ⟨⟨_, rfl, by first | exact BLe.rf | exact BLe.box AllC.rf | exact BLe.arr (by first | exact q2 | exact q5.1 | (unfold uniqA; rw [q5]))⟩, ?_⟩); exact trivial, by repeat (first | exact trivial | refine ⟨⟨rfl, by first | (left; intro h; cases h) | (right; rfl), fun _ h => ⟨_, h⟩⟩, ?_⟩), rfl⟩
  try simp only [tdy] at h48
  rw [uniqA_at (us := us) (j := j) (i := j) (by omega) (by omega) (by omega) (by rw [uniqA_len (by omega)]; omega), uniqA_at (us := us) (j := j) (i := j - 1) (by omega) (by omega) (by omega) (by rw [uniqA_len (by omega)]; omega)] at h48
  have q5 := uniqA_put (by omega) (by omega) (by omega) h48 (by rw [uniqA_len (by omega)]; omega)
  have q6 := q5.2
  refine AW_condT rfl ?_
  refine AW_seq ?_
  refine AW_region ?_
  refine AL_p (x_move rfl rfl) ?_
  refine AL_p (x_move rfl rfl) ?_
  refine AL_p (x_move rfl rfl) ?_
  refine AL_p (x_move rfl rfl) ?_
  refine AL_p (x_oslindex (n := 1) rfl rfl rfl rfl (by kernel_rfl) rfl (k := j - k) (by omega) (by omega) (k1 := j) (by omega)) ?_
  refine AL_p (x_oloadN (n := 1) rfl rfl rfl (by kernel_rfl) (by rw [uniqA_len (by omega)]; omega) rfl rfl) ?_
  refine AL_p (x_oindex (n := 1) rfl rfl rfl rfl (by kernel_rfl) rfl (k := (uniqR us j).length) rfl (by rw [uniqA_len (by omega)]; omega)) ?_
  refine AL_p (x_ostore (((uniqA us j)[j]'(by rw [uniqA_len (by omega)]; omega))) rfl rfl rfl rfl (by kernel_rfl) rfl rfl rfl rfl FitL.rf rfl rfl (by rw [uniqA_len (by omega)]; omega)) ?_
  refine AL_nil ?_
  refine AW_region ?_
  refine AL_p (x_move rfl rfl) ?_
  refine AL_p (x_add rfl rfl rfl (IntWalk.i64_in _ (by omega))) ?_
  refine AL_p (x_assign rfl rfl) ?_
  refine AL_nil ?_
  refine AW_region ?_
  refine AL_p (x_move rfl rfl) ?_
  refine AL_p (x_add rfl rfl rfl (IntWalk.i64_in _ (by omega))) ?_
  refine AL_p (x_assign rfl rfl) ?_
  refine AL_nil ?_
  refine ⟨⟨j + 1, ⟨by omega, by rw [q5.2]; omega⟩⟩, rn [], ?_, by dsimp only; omega⟩
  exact ⟨by (repeat refine ⟨⟨_, rfl, by first | exact VLe.rf | exact vle_int (by dsimp only; omega)⟩, ?_⟩); exact trivial, by (repeat refine ⟨⟨_, rfl, by first | exact BLe.rf | exact BLe.box AllC.rf | exact BLe.arr (by first | exact q2 | exact q5.1 | (unfold uniqA; rw [q5]))⟩, ?_⟩); exact trivial, by repeat (first | exact trivial | refine ⟨⟨rfl, by first | (left; intro h; cases h) | (right; rfl), fun _ h => ⟨_, h⟩⟩, ?_⟩), rfl⟩

theorem compact_t (xs : List (List Val)) (hl : xs.length ≤ 1048576) (hm : ∀ r ∈ xs, r.length ≤ 1048576) : AT Try.prog 85 [.one (.own 0), .one (.clo 86 [])] [(0, some (.arr 42 rowE xs true))] (.one (.own 1)) [(1, some (.arr 42 rowE (uniq xs) true))] :=
  AT.raw (by decide) ⟨_, _, Try.func85, rfl, rfl⟩ (fun zs hz => ⟨uniqR zs zs.length, by rw [uniqR_map (Nat.le_refl _), hz]; unfold uniq; rw [← hz, List.length_map], fun hn => hn.sublist (by have := feet_sub (uniqR_sub (us := zs) (k := zs.length)); rwa [List.take_length] at this), fun b hb => by have := feet_sub (uniqR_sub (us := zs) (k := zs.length)); rw [List.take_length] at this; exact this.subset hb, compactRaw_c zs (by rw [← List.length_map (f := Raw.x), hz]; exact hl) (fun r hr => hm _ (by rw [← hz]; exact List.mem_map_of_mem hr))⟩) rfl
end Go.Proofs.Ytddofobcekmbjaa

/- Functions of the library on rows (printed by walk.py) -/
namespace Go.Proofs.Ytddofobcekmbjaa
open Go.RowKit
set_option linter.unusedVariables false
set_option linter.unusedSimpArgs false
set_option maxRecDepth 100000


theorem insRow_T : ∃ i z, Try.prog.underlying 33 = some (.slice 42) ∧ Try.prog.info? 42 = some i ∧ i.zero = some z ∧ z.cells.size = 1 ∧ i.size = 1 ∧ i.bytes = 24 := by
  obtain ⟨hu, hn0, ti, z, hti, hz, hzs, htis, htib⟩ := arrT_spec (P := Try.prog) (T := 33) (E := 42) (n := 1) (b := 24) (by kernel_rfl)
  exact ⟨ti, z, hu, hti, hz, hzs, htis, htib⟩
set_option maxHeartbeats 4000000 in
set_option maxRecDepth 100000 in
theorem insRow_end (w : World) (base : Option Addr) (n c i : Nat) (cells news : List Value) (vb vc m : Nat) (hown : w.ownsRow 0 42 1 (.slice base n c) n cells) (hu : w.ownsRow 0 42 1 (.slice (some ⟨vb, 0, none⟩) m vc) m news) (hin : i = n) (hm : 0 < m) (hm1 : m ≤ 1000) (hn : n ≤ 100000000) (hc63 : c ≤ 9223372036854775807) (h1 : ∀ u ∈ news, u.oneCell' = true) (hnc : n ≤ c) :
    Calls Try.prog 67 #[.slice base n c, .int .i64 (i : Int), .slice (some ⟨vb, 0, none⟩) m vc] w fun en w' => ∃ v', en = .returned v' ∧ w'.ownsRow 0 42 1 v' (n + m) (cells ++ news) ∧ w.grownBy w' (Value.slice base n c).ownBlock ∧ ∀ b, v'.ownBlock = some b → (Value.slice base n c).ownBlock = some b ∨ w.heap.size ≤ b := by
  subst hin
  obtain ⟨ti, z, hT, hti, hz, hzs, htis, htib⟩ := insRow_T
  obtain ⟨v', w', q1, q2, q3, q4⟩ := run_app (P := Try.prog) w 33 33 42 ti z 1 24 hT hti hz htis htib hzs (by decide) _ _ _ hown ⟨vb, 0, none⟩ m vc news hu.1 (hu.cells rfl) h1 (by unfold maxLen; omega) (by omega)
  have hi : (0 : Int) ≤ (i : Int) := by omega
  have hz1 : ¬ ((m : Int) = 0) := by omega
  clear hown hu
  by_cases hci : c = i
  · subst hci
    go_enter Try.func67, Try.ntmps67
    go_wp2_with (at_builtin; refine Lib.wpList_append_run _ rfl _ _ _ _ rfl _ _ rfl rfl _ _ q1 ?_)
    go_ret
    exact ⟨v', rfl, q2, q3, q4⟩
  · go_enter Try.func67, Try.ntmps67
    go_wp2_with (at_builtin; refine Lib.wpList_append_run _ rfl _ _ _ _ rfl _ _ rfl rfl _ _ q1 ?_)
    go_ret
    exact ⟨v', rfl, q2, q3, q4⟩
set_option maxHeartbeats 4000000 in
set_option maxRecDepth 100000 in
theorem insRow_shift (w : World) (g n c i : Nat) (cur : Array Value) (cells news : List Value) (vb vc m : Nat) (vcur : Array Value) (hg : w.heap[g]? = some (.cells cur 42 (0, 0))) (hgv : w.heap[vb]? = some (.cells vcur 42 (0, 0))) (hne : vb ≠ g) (hcs : cur.size = c * 1) (htk : cur.toList.take (n * 1) = cells) (hl : cells.length = n * 1) (hnv : ∀ j u, news[j]? = some u → w.cell? ((⟨vb, 0, none⟩ : Addr).add j) = some u) (hnl : news.length = m * 1)
    (hin : i < n) (hroom : n + m ≤ c) (hm : 0 < m) (hc63 : c ≤ 9223372036854775807) (h1 : ∀ u ∈ cells ++ news, u.oneCell' = true) (hvs : vcur.size = vc * 1) (hv1 : m ≤ vc) :
    Calls Try.prog 67 #[.slice (some ⟨g, 0, none⟩) n c, .int .i64 (i : Int), .slice (some ⟨vb, 0, none⟩) m vc] w fun en w' => en = .returned (.slice (some ⟨g, 0, none⟩) (n + m) c) ∧ w'.heap[g]? = some (.cells (cells.take (i * 1) ++ news ++ cells.drop (i * 1) ++ cur.toList.drop ((n + m) * 1)).toArray 42 (0, 0)) ∧ w.grownBy w' (some g) := by
  obtain ⟨ti, z, hT, hti, hz, hzs, htis, htib⟩ := insRow_T
  have hsz : (Try.prog.info? 42).map (·.size) = some 1 := by rw [hti]; simp [htis]
  have hov : ∀ (W : World), W.heap = w.heap → ∀ lb cb, (callFunc 95 #[.slice (some ⟨vb, 0, none⟩) m vc, .slice (some ⟨g, (i + m), none⟩) lb cb]).run Try.prog W = .ok (.value (.bool false)) W := fun W hW lb cb => by
    rw [run_callFunc_extern Try.func95 (by kernel_rfl) (by kernel_rfl) (by kernel_rfl) (e := Extern.SlicesOverlaps.overlaps #[33, 33] #[4]) (by kernel_rfl),
      Lib.run_overlaps_apart W 33 4 42 hT 1 (by intro w; simp [Go.sizeOf, typeInfo, hti, htis]) ⟨vb, 0, none⟩ ⟨g, (i + m), none⟩ m vc lb cb hne 42 42 vcur.size cur.size (by simp [World.shape?, hW, hgv]) (by simp [World.shape?, hW, hg]) (by rw [hcs]; omega) (by simp [World.frozen?, hW, hgv]) (by simp [World.frozen?, hW, hgv])]
    rfl
  obtain ⟨A1, hA1⟩ : ∃ A1, A1 = (cur.toList.take ((i + m) * 1) ++ cells.drop (i * 1) ++ cur.toList.drop ((n + m) * 1)) := ⟨_, rfl⟩
  have hcur : cur.toList.length = c * 1 := by rw [← hcs, Array.length_toList]
  have hdl : (cells.drop (i * 1)).length = (n - i) * 1 := by rw [List.length_drop, hl]; omega
  have hcp1 : ∀ W : World, W.heap = w.heap → ∀ ty dc sc, (Builtin.copy_ #[33, 33] ty #[.slice (some ⟨g, (i + m), none⟩) (n + m - (i + m)) dc, .slice (some ⟨g, (i), none⟩) (n + m - i) sc]).run Try.prog W = .ok (goInt (n - i : Nat)) (W.setRow g A1.toArray) := fun W hW ty dc sc => by
    have hmn : Nat.min (n + m - i) (n + m - (i + m)) = n - i := by simp only [Nat.min_def]; split <;> omega
    have := run_copy_rowK (P := Try.prog) W 33 33 ty 42 1 g (i + m) (n + m - (i + m)) dc ⟨g, (i), none⟩ (n + m - i) sc cur 42 (cells.drop (i * 1)) hT hsz (by rw [hW]; exact hg) (by rw [hmn, hdl])
      (fun j v hj => by
        rw [Addr.add_lit, cell_of_row W g _ cur 42 (0, 0) (by rw [hW]; exact hg)]
        rw [List.getElem?_drop, ← htk, List.getElem?_take] at hj
        split at hj
        · simpa using hj
        · cases hj) (by rw [hdl, hcs]; omega) (fun v hv => h1 v (List.mem_append_left _ (List.mem_of_mem_drop hv)))
    rw [hmn] at this
    rw [this, hA1, hdl]
    have e : (i + m) + (n - i) * 1 = (n + m) * 1 := by omega
    rw [e]
    try simp only [Nat.mul_one]
  have hA1l : A1.length = c * 1 := by rw [hA1]; simp [hdl, hcur]; omega
  have hcp2 : ∀ W0 : World, W0.heap = w.heap → ∀ ty dc, (Builtin.copy_ #[33, 33] ty #[.slice (some ⟨g, (i), none⟩) (n + m - i) dc, .slice (some ⟨vb, 0, none⟩) m vc]).run Try.prog (W0.setRow g A1.toArray) = .ok (goInt m) ((W0.setRow g A1.toArray).setRow g (cells.take (i * 1) ++ news ++ cells.drop (i * 1) ++ cur.toList.drop ((n + m) * 1)).toArray) := fun W0 hW0 ty dc => by
    have hW : (W0.setRow g A1.toArray).heap[g]? = some (.cells A1.toArray 42 (0, 0)) := setRow_heap W0 g cur _ _ _ (by rw [hW0]; exact hg)
    have hWv : (W0.setRow g A1.toArray).heap[vb]? = w.heap[vb]? := (setRow_other W0 g vb _ hne).trans (by rw [hW0])
    generalize W0.setRow g A1.toArray = W at *
    have hmn : Nat.min m (n + m - i) = m := by simp only [Nat.min_def]; split <;> omega
    have := run_copy_rowK (P := Try.prog) W 33 33 ty 42 1 g (i) (n + m - i) dc ⟨vb, 0, none⟩ m vc A1.toArray 42 news hT hsz hW (by rw [hmn, hnl]) (fun j v hj => by
        have h2 := hnv j v hj
        rw [Addr.add_lit] at h2 ⊢
        simp only [World.cell?, hWv] at h2 ⊢
        exact h2) (by rw [hnl, List.size_toArray, hA1l]; omega) (fun v hv => h1 v (List.mem_append_right _ hv))
    rw [hmn] at this
    rw [this]
    congr 3
    have hx := insRow (A := cur.toList) (C := cells) (N := news) (x := i * 1) (y := (i + m) * 1) (z := (n + m) * 1) (by rw [hl]; omega) (by rw [hnl]; omega) (by rw [hl, hnl]; omega) (by rw [hl]; exact htk) (by rw [hcur]; omega)
    rw [hA1]
    first | exact hx | simpa only [Nat.mul_one] using hx
  have hz1 : ¬ ((m : Int) = 0) := by omega
  have hz2 : ¬ ((i : Int) = (n : Int)) := by omega
  have hw1 : IntKind.i64.wrap ((i : Int) + (m : Int)) = (i : Int) + (m : Int) := by rw [IntKind.wrap_i64]; omega
  have hw2 : IntKind.i64.wrap ((n : Int) + (m : Int)) = (n : Int) + (m : Int) := by rw [IntKind.wrap_i64]; omega
  have hw3 : ¬ ((c : Int) < (n : Int) + (m : Int)) := by omega
  have hb1 : (0 : Int) ≤ (i : Int) + (m : Int) := by omega
  have hb1' : (0 : Int) ≤ (n : Int) + (m : Int) := by omega
  have hin' : i ≤ n := by omega
  have htn : ((i : Int) + (m : Int)).toNat = i + m := by omega
  have htn2 : ((n : Int) + (m : Int)).toNat = n + m := by omega
  have hb2 : ¬ (c = i + m) := by omega
  have hb3 : (i : Int) ≤ (n : Int) + (m : Int) := by omega
  have hb3' : (i : Int) + (m : Int) ≤ (n : Int) + (m : Int) := by omega
  have hb5 : (n : Int) + (m : Int) ≤ (c : Int) := by omega
  have hb4 : ¬ (c = i) := by omega
  have hgw : (w.setRow g A1.toArray).heap[g]? = some (.cells A1.toArray 42 (0, 0)) := setRow_heap w g cur _ _ _ hg
  have hgo : (w.setRow g A1.toArray).heap[vb]? = w.heap[vb]? := setRow_other w g vb _ hne
  clear hA1
  go_enter Try.func67, Try.ntmps67
  go_wp2_with (simp only [hov _ rfl])
  go_region_law (refine step_copy_runI rfl (.tmp 73) (.tmp 76) 33 33 rfl (.slice (some ⟨g, (i + m), none⟩) (n + m - (i + m)) (c - (i + m))) (.slice (some ⟨g, (i), none⟩) (n + m - i) (c - i)) (by simp [Act.eval, Act.put]) (by simp [Act.eval, Act.put]) (hcp1 _ (by rfl) _ _ _) ?_)
  go_wp2
  rw [hcp2 w.drew rfl]
  go_wp2
  go_ret
  refine ⟨rfl, ?_, ?_⟩
  · have hh := setRow_heap (w.drew.setRow g A1.toArray) g A1.toArray (cells.take (i * 1) ++ news ++ cells.drop (i * 1) ++ cur.toList.drop ((n + m) * 1)).toArray 42 (0, 0) hgw
    simpa only [List.append_assoc, Nat.mul_one] using hh
  · exact ⟨rfl, rfl, rfl, by simp, fun b hb hne => by
      have hb2 : b ≠ g := fun e => hne (by rw [e])
      exact (setRow_other _ g b _ hb2).trans (setRow_other w g b _ hb2)⟩

set_option maxHeartbeats 4000000 in
set_option maxRecDepth 100000 in
theorem insRow_grow (w : World) (g n c i : Nat) (cur : Array Value) (cells news : List Value) (vb vc m : Nat) (hg : w.heap[g]? = some (.cells cur 42 (0, 0))) (hvbl : vb < w.heap.size) (hcs : cur.size = c * 1) (htk : cur.toList.take (n * 1) = cells) (hl : cells.length = n * 1) (hnv : ∀ j u, news[j]? = some u → w.cell? ((⟨vb, 0, none⟩ : Addr).add j) = some u) (hnl : news.length = m * 1)
    (hin : i < n) (hnc : n ≤ c) (hroom : c < n + m) (hm : 0 < m) (hm1 : m ≤ 1000) (hn : n ≤ 100000000) (hc63 : c ≤ 9223372036854775807) (h1 : ∀ u ∈ cells ++ news, u.oneCell' = true) :
    Calls Try.prog 67 #[.slice (some ⟨g, 0, none⟩) n c, .int .i64 (i : Int), .slice (some ⟨vb, 0, none⟩) m vc] w fun en w' => ∃ (G : Nat) (T : List Value), en = .returned (.slice (some ⟨w.heap.size, 0, none⟩) (n + m) G) ∧ n + m ≤ G ∧ G ≤ maxLen ∧ T.length = G * 1 ∧ T.take ((n + m) * 1) = cells.take (i * 1) ++ news ++ cells.drop (i * 1) ∧ w'.heap[w.heap.size]? = some (.cells T.toArray 42 (0, 0)) ∧ w.grownBy w' none := by
  obtain ⟨ti, z, hT, hti, hz, hzs, htis, htib⟩ := insRow_T
  have hsz : (Try.prog.info? 42).map (·.size) = some 1 := by rw [hti]; simp [htis]
  have hgl : g < w.heap.size := (Array.getElem?_eq_some_iff.1 hg).1
  have hcell : ∀ j v, cells[j]? = some v → w.cell? ⟨g, j, none⟩ = some v := fun j v hj => by
    rw [cell_of_row w g _ cur 42 (0, 0) hg]
    rw [← htk, List.getElem?_take] at hj
    split at hj
    · simpa using hj
    · cases hj
  have hkk : (n : Int) + (m : Int) - (i : Int) = ((n + m - i : Nat) : Int) := by omega
  have hik : i + (n + m - i) = n + m := by omega
  have hold : (Builtin.firstCells ti.size i (.slice (some ⟨g, 0, none⟩) i c)).run Try.prog w.drew = .ok (cells.take (i * 1)).toArray w.drew := by
    rw [htis]
    exact run_firstCells_some w.drew 1 i ⟨g, 0, none⟩ i c (cells.take (i * 1)) (by rw [List.length_take, hl]; omega) (fun j v hj => by
      rw [Addr.add_lit, Nat.zero_add]
      rw [List.getElem?_take] at hj
      split at hj
      · exact hcell j v hj
      · cases hj)
  obtain ⟨G, hG⟩ : ∃ G, G = grownCap w (n + m) c 42 := ⟨_, rfl⟩
  obtain ⟨ROW, hROW⟩ : ∃ ROW : Array Value, ROW = (cells.take (i * 1)).toArray ++ Builtin.zeroCells z.cells (n + m - i) ++ Builtin.zeroCells z.cells (G - (n + m)) := ⟨_, rfl⟩
  have hrz : ∀ ty, (Builtin.append_ #[33, 3] ty #[.slice (some ⟨g, 0, none⟩) i c, .int .i64 ((n : Int) + (m : Int) - (i : Int))]).run Try.prog w = .ok (.slice (some ⟨w.heap.size, 0, none⟩) (n + m) G) (w.drew.alloc (.cells ROW 42)) := fun ty => by
    have h := Lib.run_append_grow_zeros (P := Try.prog) w 33 3 ty 42 ti z .i64 .i64 hT Try.underlying3 hti hz (some ⟨g, 0, none⟩) i c (cells.take (i * 1)).toArray.toList hold (n + m - i) (by omega) (by rw [htis]; decide) (by omega) (by omega) (by rw [htib]; omega) (by rw [htib, hik]; exact growslice_fits hroom (by omega))
    rw [hik, ← hG] at h
    rw [hkk, hROW]
    exact h
  have hGn : n + m ≤ G := by rw [hG]; exact grownCap_ge w _ _ _
  have hGm : G ≤ maxLen := by rw [hG]; exact grownCap_le_maxLen w (n + m) c 42 (by unfold maxLen; omega)
  have hG63 : G ≤ 9223372036854775807 := by unfold maxLen at hGm; omega
  have hRl : ROW.size = G * 1 := by
    rw [hROW, Array.size_append, Array.size_append, size_zeroCells, size_zeroCells, List.size_toArray, List.length_take, hl, hzs]
    omega
  have hRt : ROW.toList.take (i * 1) = cells.take (i * 1) := by
    rw [hROW]
    simp only [Array.toList_append, List.append_assoc]
    exact List.take_left' (by rw [List.length_take, hl]; omega)
  have hdl : (cells.drop (i * 1)).length = (n - i) * 1 := by rw [List.length_drop, hl]; omega
  obtain ⟨A1, hA1⟩ : ∃ A1, A1 = (ROW.toList.take (i * 1) ++ news ++ ROW.toList.drop ((i + m) * 1)) := ⟨_, rfl⟩
  have hrl : ROW.toList.length = G * 1 := by rw [← hRl, Array.length_toList]
  have hA1l : A1.length = G * 1 := by rw [hA1]; simp [hnl, hrl]; omega
  obtain ⟨A2, hA2⟩ : ∃ A2, A2 = (A1.take ((i + m) * 1) ++ cells.drop (i * 1) ++ A1.drop ((n + m) * 1)) := ⟨_, rfl⟩
  have hA2l : A2.length = G * 1 := by rw [hA2]; simp [hdl, hA1l]; omega
  have hcpA : ∀ W : World, W.heap[w.heap.size]? = some (.cells ROW 42 (0, 0)) → (∀ b, b < w.heap.size → W.heap[b]? = w.heap[b]?) → ∀ ty dc, (Builtin.copy_ #[33, 33] ty #[.slice (some ⟨w.heap.size, (i), none⟩) (n + m - i) dc, .slice (some ⟨vb, 0, none⟩) m vc]).run Try.prog W = .ok (goInt m) (W.setRow w.heap.size A1.toArray) := fun W hW hWv ty dc => by
    have hmn : Nat.min m (n + m - i) = m := by simp only [Nat.min_def]; split <;> omega
    have := run_copy_rowK (P := Try.prog) W 33 33 ty 42 1 w.heap.size (i) (n + m - i) dc ⟨vb, 0, none⟩ m vc ROW 42 news hT hsz hW (by rw [hmn, hnl]) (fun j v hj => by
        have h2 := hnv j v hj
        rw [Addr.add_lit] at h2 ⊢
        simp only [World.cell?, hWv vb hvbl] at h2 ⊢
        exact h2) (by rw [hnl, hRl]; omega) (fun v hv => h1 v (List.mem_append_right _ hv))
    rw [hmn] at this
    rw [this, hA1, hnl]
    have e : (i) + m * 1 = (i + m) * 1 := by omega
    rw [e]
    try simp only [Nat.mul_one]
  have hcpB : ∀ W : World, W.heap[w.heap.size]? = some (.cells A1.toArray 42 (0, 0)) → (∀ b, b < w.heap.size → W.heap[b]? = w.heap[b]?) → ∀ ty dc sc, (Builtin.copy_ #[33, 33] ty #[.slice (some ⟨w.heap.size, (i + m), none⟩) (n + m - (i + m)) dc, .slice (some ⟨g, (i), none⟩) (n - i) sc]).run Try.prog W = .ok (goInt (n - i : Nat)) (W.setRow w.heap.size A2.toArray) := fun W hW hWv ty dc sc => by
    have hmn : Nat.min (n - i) (n + m - (i + m)) = n - i := by simp only [Nat.min_def]; split <;> omega
    have := run_copy_rowK (P := Try.prog) W 33 33 ty 42 1 w.heap.size (i + m) (n + m - (i + m)) dc ⟨g, (i), none⟩ (n - i) sc A1.toArray 42 (cells.drop (i * 1)) hT hsz hW (by rw [hmn, hdl]) (fun j v hj => by
        rw [List.getElem?_drop] at hj
        have h2 := hcell _ v hj
        rw [Addr.add_lit]
        simp only [World.cell?, hWv g hgl] at h2 ⊢
        first | exact h2 | simpa only [Nat.mul_one] using h2) (by rw [hdl, List.size_toArray, hA1l]; omega) (fun v hv => h1 v (List.mem_append_left _ (List.mem_of_mem_drop hv)))
    rw [hmn] at this
    rw [this, hA2, hdl]
    have e : (i + m) + (n - i) * 1 = (n + m) * 1 := by omega
    rw [e]
    try simp only [Nat.mul_one]
  have hfin : A2.take ((n + m) * 1) = cells.take (i * 1) ++ news ++ cells.drop (i * 1) := by
    rw [hA2, List.take_left' (by rw [List.length_append, List.length_take, hA1l, hdl]; omega)]
    congr 1
    rw [hA1, hRt, List.take_left' (by rw [List.length_append, List.length_take, hl, hnl]; omega)]
  have hz1 : ¬ ((m : Int) = 0) := by omega
  have hz2 : ¬ ((i : Int) = (n : Int)) := by omega
  have hz3 : (c : Int) < (n : Int) + (m : Int) := by omega
  have hw1 : IntKind.i64.wrap ((i : Int) + (m : Int)) = (i : Int) + (m : Int) := by rw [IntKind.wrap_i64]; omega
  have hw2 : IntKind.i64.wrap ((n : Int) + (m : Int)) = (n : Int) + (m : Int) := by rw [IntKind.wrap_i64]; omega
  have hw3 : IntKind.i64.wrap ((n : Int) + (m : Int) - (i : Int)) = (n : Int) + (m : Int) - (i : Int) := by rw [IntKind.wrap_i64]; omega
  have hb1 : (0 : Int) ≤ (i : Int) + (m : Int) := by omega
  have hin' : i ≤ n := by omega
  have hic : i ≤ c := by omega
  have htn : ((i : Int) + (m : Int)).toNat = i + m := by omega
  have hb3 : (i : Int) ≤ (n : Int) + (m : Int) := by omega
  have hb3' : (i : Int) + (m : Int) ≤ (n : Int) + (m : Int) := by omega
  have hGi : ¬ (G = i) := by omega
  have hGim : ¬ (G = i + m) := by omega
  have hci : ¬ (c = i) := by omega
  have hA0 : ∀ W : World, W.heap = w.heap → ((W.alloc (.cells ROW 42)).heap[w.heap.size]? = some (.cells ROW 42 (0, 0)) ∧ ∀ b, b < w.heap.size → (W.alloc (.cells ROW 42)).heap[b]? = w.heap[b]?) := fun W hW => ⟨by rw [← hW]; exact heap_alloc_new W _, fun b hb => by rw [← hW] at hb ⊢; show (W.heap.push _)[b]? = _; rw [Array.getElem?_push, if_neg (Nat.ne_of_lt hb)]⟩
  have hB0 : ∀ W : World, W.heap[w.heap.size]? = some (.cells ROW 42 (0, 0)) → (∀ b, b < w.heap.size → W.heap[b]? = w.heap[b]?) → ((W.setRow w.heap.size A1.toArray).heap[w.heap.size]? = some (.cells A1.toArray 42 (0, 0)) ∧ ∀ b, b < w.heap.size → (W.setRow w.heap.size A1.toArray).heap[b]? = w.heap[b]?) := fun W h1 h2 => ⟨setRow_heap W _ _ _ _ _ h1, fun b hb => by rw [setRow_other W _ b _ (by omega)]; exact h2 b hb⟩
  obtain ⟨a1, a2⟩ := hA0 w.drew rfl
  obtain ⟨b1, b2⟩ := hB0 (w.drew.alloc (.cells ROW 42)) a1 a2
  have hcA := hcpA (w.alloc (.cells ROW 42)).drew a1 a2
  clear hkk hik hold hROW hG hA1 hA2 hcpA hA0 hB0 hRt hRl
  go_enter Try.func67, Try.ntmps67
  go_wp2_with (at_builtin; refine Lib.wpList_append_run _ rfl _ _ _ _ rfl _ _ rfl rfl _ _ (hrz _) ?_)
  first | (rw [hcA]; go_wp2_with fail) | skip
  go_region_law (refine step_copy_runI rfl (.tmp 50) (.tmp 53) 33 33 rfl (.slice (some ⟨w.heap.size, (i + m), none⟩) (n + m - (i + m)) (G - (i + m))) (.slice (some ⟨g, (i), none⟩) (n - i) (c - i)) (by simp [Act.eval, Act.put]) (by simp [Act.eval, Act.put]) (hcpB _ (by exact b1) (by exact b2) _ _ _) ?_)
  go_wp2
  go_ret
  refine ⟨G, A2, rfl, hGn, hGm, hA2l, hfin, ?_, ?_⟩
  · exact setRow_heap _ _ A1.toArray A2.toArray 42 (0, 0) b1
  · exact ⟨rfl, rfl, rfl, by simp, fun b hb _ => (setRow_other _ _ b _ (by omega)).trans (b2 b hb)⟩
theorem insRow_t {α : Type} {e : Enc α} {f : α → List Cell} [hc : CellsOf e f] (he : e.size = 1) {d : Bool} {xs zs : List α} {i : Nat} (hi : i ≤ xs.length) (hz : 0 < zs.length) (hz1 : zs.length ≤ 1000) (hx : xs.length ≤ 100000000) :
    AT Try.prog 67 ([.one (.own 0), .one (.c (.int .i64 (i : Int)))] ++ [.one (.own 2)]) [(0, some (.arr 42 e xs d)), (2, some (.arr 42 e zs d))] (.one (.own 1)) [(1, some (.arr 42 e (xs.take i ++ zs ++ xs.drop i) d))] := by
  refine AT.row2 (rest := [.one (.c (.int .i64 (i : Int)))]) ⟨_, _, Try.func67, rfl, rfl⟩ (fun w v u vs cells news bs b2 hvs hown hu hF hF2 h1 hap => ?_) (fun x hx => by simp at hx; exact ⟨_, hx⟩)
  have hv1 : vs = [.int .i64 (i : Int)] := by
    cases vs with
    | nil => exact hvs.elim
    | cons a as' =>
      cases as' with
      | nil => have := hvs.1; cases this; rfl
      | cons _ _ => exact hvs.2.elim
  subst hv1
  obtain ⟨bs', q1, q2, q3⟩ := FR.ins (e := e) hF hF2 hi
  rw [he] at hown hu q1 ⊢
  have hln : (xs.take i ++ zs ++ xs.drop i).length = xs.length + zs.length := by simp; omega
  rw [hln]
  have hcl := hown.1
  rcases hu.2 with ⟨_, h0⟩ | ⟨vb, vc, vcur, rfl, _, g2, g3, g4, g5, g6⟩
  · omega
  have hap' : v.ownBlock ≠ some vb := hap vb rfl
  have hcut : i = xs.length → cells.take (i * 1) ++ news ++ cells.drop (i * 1) = cells ++ news := fun e0 => by
    rw [e0, ← hcl, List.take_length, List.drop_length, List.append_nil]
  show Calls Try.prog 67 #[v, .int .i64 (i : Int), .slice (some ⟨vb, 0, none⟩) zs.length vc] w _
  rcases hown.2 with ⟨rfl, h0⟩ | ⟨g, c, cur, rfl, _, r3, r4, r5, r6, r7⟩
  · rw [h0]
    refine (insRow_end w none 0 0 i cells news vb vc zs.length (by rw [h0] at hown; exact hown) hu (by omega) hz hz1 (by omega) (by omega) (fun u hu => h1 u (List.mem_append_right _ hu)) (by omega)).mono ?_
    rintro en w' ⟨v', rfl, t1, t2, t3⟩
    exact ⟨v', _, rfl, by rw [hcut (by omega)]; exact t1, t2, t3, bs', q1, q2, q3⟩
  · have hne : vb ≠ g := fun e0 => hap' (by rw [e0]; rfl)
    have hc63 : c ≤ 9223372036854775807 := by unfold maxLen at r5; omega
    by_cases hin : i = xs.length
    · refine (insRow_end w (some ⟨g, 0, none⟩) xs.length c i cells news vb vc zs.length hown hu hin hz hz1 hx hc63 (fun u hu => h1 u (List.mem_append_right _ hu)) r4).mono ?_
      rintro en w' ⟨v', rfl, t1, t2, t3⟩
      exact ⟨v', _, rfl, by rw [hcut hin]; exact t1, t2, t3, bs', q1, q2, q3⟩
    · have hnv := hu.cells (g := vb) rfl
      by_cases hroom : xs.length + zs.length ≤ c
      · refine (insRow_shift w g xs.length c i cur cells news vb vc zs.length vcur r3 g2 hne r6 r7 hcl hnv hu.1 (by omega) hroom hz hc63 h1 g5 g3).mono ?_
        rintro en w' ⟨rfl, t1, t2⟩
        refine ⟨_, cells.take (i * 1) ++ news ++ cells.drop (i * 1), rfl, ⟨?_, .inr ⟨g, c, _, rfl, Nat.zero_le _, t1, hroom, r5, ?_, ?_⟩⟩, t2, fun b hb => .inl hb, bs', q1, q2, q3⟩
        · simp [hcl, hu.1]; omega
        · have hz := hu.1
          have hsz : cur.toList.length = c * 1 := by rw [Array.length_toList]; exact r6
          simp [hcl, hz, hsz]; omega
        · have hz := hu.1
          simp only [List.toList_toArray]
          exact List.take_left' (by simp [hcl, hz]; omega)
      · refine (insRow_grow w g xs.length c i cur cells news vb vc zs.length r3 (Array.getElem?_eq_some_iff.1 g2).1 r6 r7 hcl hnv hu.1 (by omega) r4 (by omega) hz hz1 hx hc63 h1).mono ?_
        rintro en w' ⟨G, T, rfl, t1, t2, t3, t4, t5, t6⟩
        refine ⟨_, cells.take (i * 1) ++ news ++ cells.drop (i * 1), rfl, ⟨?_, .inr ⟨_, G, _, rfl, Nat.zero_le _, t5, t1, t2, ?_, ?_⟩⟩, ⟨t6.os, t6.tape, t6.output, t6.size, fun b hb _ => t6.block b hb (by simp)⟩, fun b hb => .inr ?_, bs', q1, q2, q3⟩
        · simp [hcl, hu.1]; omega
        · simp [t3]
        · simpa using t4
        · have hb' : some w.heap.size = some b := hb
          cases hb'; exact Nat.le_refl _


theorem delRow_T : ∃ i z, Try.prog.underlying 33 = some (.slice 42) ∧ Try.prog.info? 42 = some i ∧ i.zero = some z ∧ z.cells.size = 1 ∧ i.size = 1 ∧ i.bytes = 24 := by
  obtain ⟨hu, hn0, ti, z, hti, hz, hzs, htis, htib⟩ := arrT_spec (P := Try.prog) (T := 33) (E := 42) (n := 1) (b := 24) (by kernel_rfl)
  exact ⟨ti, z, hu, hti, hz, hzs, htis, htib⟩
set_option maxHeartbeats 4000000 in
set_option maxRecDepth 100000 in
theorem delRow_run (w : World) (g n c i j : Nat) (cur : Array Value) (cells : List Value) (hg : w.heap[g]? = some (.cells cur 42 (0, 0))) (hcs : cur.size = c * 1) (htk : cur.toList.take (n * 1) = cells) (hl : cells.length = n * 1) (hij : i < j) (hj : j ≤ n) (hnc : n ≤ c) (hc63 : c ≤ 9223372036854775807) (h1 : ∀ u ∈ cells, u.oneCell' = true) :
    Calls Try.prog 70 #[.slice (some ⟨g, 0, none⟩) n c, .int .i64 (i : Int), .int .i64 (j : Int)] w fun en w' => en = .returned (.slice (some ⟨g, 0, none⟩) (i + (n - j)) c) ∧ ∃ T : List Value, w'.heap[g]? = some (.cells T.toArray 42 (0, 0)) ∧ T.length = c * 1 ∧ T.take ((i + (n - j)) * 1) = cells.take (i * 1) ++ cells.drop (j * 1) ∧ w.grownBy w' (some g) := by
  obtain ⟨ti, z, hT, hti, hz, hzs, htis, htib⟩ := delRow_T
  have hcur : cur.toList.length = c * 1 := by rw [← hcs, Array.length_toList]
  have hdl : (cells.drop (j * 1)).length = (n - j) * 1 := by rw [List.length_drop, hl]; omega
  obtain ⟨A, hA, hsrc⟩ : ∃ A : Addr, (if c = j then some (⟨g, 0, none⟩ : Addr) else some ⟨g, (j), none⟩) = some A ∧ ∀ t u, (cells.drop (j * 1))[t]? = some u → w.cell? (A.add t) = some u := by
    by_cases h : c = j
    · refine ⟨⟨g, 0, none⟩, by rw [if_pos h], fun t u hu => ?_⟩
      have h0 := (List.getElem?_eq_some_iff.1 hu).1
      rw [hdl] at h0
      have : n - j = 0 := by omega
      rw [this] at h0; omega
    · refine ⟨⟨g, (j), none⟩, by rw [if_neg h], fun t u hu => ?_⟩
      rw [Addr.add_lit, cell_of_row w g _ cur 42 (0, 0) hg]
      rw [List.getElem?_drop, ← htk, List.getElem?_take] at hu
      split at hu
      · simpa using hu
      · cases hu
  obtain ⟨A1, hA1⟩ : ∃ A1, A1 = (cur.toList.take (i * 1) ++ cells.drop (j * 1) ++ cur.toList.drop ((i + (n - j)) * 1)) := ⟨_, rfl⟩
  have hA1l : A1.length = c * 1 := by rw [hA1]; simp [hdl, hcur]; omega
  have hap : ∀ W : World, W.heap = w.heap → ∀ ty, (Builtin.append_ #[33, 33] ty #[.slice (some ⟨g, 0, none⟩) i c, .slice (some A) (n - j) (c - j)]).run Try.prog W = .ok (.slice (some ⟨g, 0, none⟩) (i + (n - j)) c) (W.setRow g A1.toArray) := fun W hW ty => by
    have := run_append_room (P := Try.prog) W 33 ty 42 ti hT hti g i c cur (by rw [hW]; exact hg) A (n - j) (c - j) (cells.drop (j * 1)) (by rw [htis]; exact hdl) (fun t u hu => by
        have h2 := hsrc t u hu
        simp only [World.cell?, hW] at h2 ⊢
        exact h2) (fun u hu => h1 u (List.mem_of_mem_drop hu)) (by omega) (by rw [htis, hdl, hcs]; omega)
    rw [this, htis, hA1, hdl]
    have e : i * 1 + (n - j) * 1 = (i + (n - j)) * 1 := by omega
    rw [e]
    try simp only [Nat.mul_one]
  have hgw : ∀ W : World, W.heap = w.heap → (W.setRow g A1.toArray).heap[g]? = some (.cells A1.toArray 42 (0, 0)) := fun W hW => setRow_heap W g cur _ _ _ (by rw [hW]; exact hg)
  obtain ⟨zs, hzl, hcl⟩ : ∃ zs : List Value, zs.length = (n - (i + (n - j))) * 1 ∧ ∀ ty, (Builtin.clear_ #[33] ty #[.slice (some ⟨g, (i + (n - j)), none⟩) (n - (i + (n - j))) (c - (i + (n - j)))]).run Try.prog (w.drew.setRow g A1.toArray) = .ok (.tuple #[]) ((w.drew.setRow g A1.toArray).setRow g (A1.take (i + (n - j)) ++ zs ++ A1.drop (n * 1)).toArray) := by
    obtain ⟨zs, h1, h2⟩ := run_clear_rowK (P := Try.prog) (w.drew.setRow g A1.toArray) 33 42 0 (.agg #[.slice none 0 0]) 1 hT Try.zeroValue42 rfl (by decide) g (i + (n - j)) (n - (i + (n - j))) (c - (i + (n - j))) (by omega) A1.toArray 42 (hgw w.drew rfl) (by rw [List.size_toArray, hA1l]; omega)
    refine ⟨zs, h1, fun ty => ?_⟩
    obtain ⟨zs', h1', h2'⟩ := run_clear_rowK (P := Try.prog) (w.drew.setRow g A1.toArray) 33 42 ty (.agg #[.slice none 0 0]) 1 hT Try.zeroValue42 rfl (by decide) g (i + (n - j)) (n - (i + (n - j))) (c - (i + (n - j))) (by omega) A1.toArray 42 (hgw w.drew rfl) (by rw [List.size_toArray, hA1l]; omega)
    have e0 : (Builtin.clear_ #[33] ty #[.slice (some ⟨g, (i + (n - j)), none⟩) (n - (i + (n - j))) (c - (i + (n - j)))]) = (Builtin.clear_ #[33] 0 #[.slice (some ⟨g, (i + (n - j)), none⟩) (n - (i + (n - j))) (c - (i + (n - j)))]) := rfl
    rw [e0, h2]
    have e : (i + (n - j)) + (n - (i + (n - j))) * 1 = n * 1 := by omega
    rw [e, List.toList_toArray]
  have hz2 : ¬ ((i : Int) = (j : Int)) := by omega
  have hb1 : (0 : Int) ≤ (i : Int) ∧ (i : Int) ≤ (j : Int) := by omega
  have hb2 : (j : Int) ≤ (n : Int) := by omega
  have hb3 : (i : Int) ≤ (c : Int) := by omega
  have hb4 : (j : Int) ≤ (c : Int) := by omega
  have hb5 : i + (n - j) ≤ n := by omega
  have hb6 : ¬ (c = i + (n - j)) := by omega
  have hij' : i ≤ j := by omega
  have hic : i ≤ c := by omega
  have hjc : j ≤ c := by omega
  have hfin : (A1.take ((i + (n - j)) * 1) ++ zs ++ A1.drop (n * 1)).take ((i + (n - j)) * 1) = cells.take (i * 1) ++ cells.drop (j * 1) := by
    rw [List.append_assoc, List.take_left' (by rw [List.length_take, hA1l]; omega), hA1, List.take_left' (by rw [List.length_append, List.length_take, hcur, hdl]; omega)]
    congr 1
    rw [← htk, List.take_take, Nat.min_eq_left (by omega)]
  have hTl : (A1.take ((i + (n - j)) * 1) ++ zs ++ A1.drop (n * 1)).length = c * 1 := by simp [hA1l, hzl]; omega
  clear hA1 hsrc
  go_enter Try.func70, Try.ntmps70
  go_wp2_with fail
  go_region_law (refine step_append_runI rfl (.tmp 22) (.tmp 25) 33 33 rfl (.slice (some ⟨g, 0, none⟩) i c) (.slice (some A) (n - j) (c - j)) (by simp [Act.eval, Act.put]) (by simp [Act.eval, Act.put, hA]) (hap _ (by rfl) _) ?_)
  go_wp2
  go_ret
  have hh := setRow_heap (w.drew.setRow g A1.toArray) g A1.toArray (A1.take ((i + (n - j)) * 1) ++ zs ++ A1.drop (n * 1)).toArray 42 (0, 0) (hgw w.drew rfl)
  refine ⟨rfl, _, by simpa only [List.append_assoc, Nat.mul_one] using hh, hTl, hfin, ?_⟩
  exact ⟨rfl, rfl, rfl, by simp, fun b hb hne => by
      have hb2 : b ≠ g := fun e => hne (by rw [e])
      exact (setRow_other _ g b _ hb2).trans (setRow_other w.drew g b _ hb2)⟩
theorem delRow_t {α : Type} {e : Enc α} {f : α → List Cell} [hc : CellsOf e f] (he : e.size = 1) {d : Bool} {xs : List α} {i j : Nat} (hij : i < j) (hj : j ≤ xs.length) :
    AT Try.prog 70 [.one (.own 0), .one (.c (.int .i64 (i : Int))), .one (.c (.int .i64 (j : Int)))] [(0, some (.arr 42 e xs d))] (.one (.own 1)) [(1, some (.arr 42 e (xs.take i ++ xs.drop j) d))] := by
  refine AT.row1 (rest := [.one (.c (.int .i64 (i : Int))), .one (.c (.int .i64 (j : Int)))]) ⟨_, _, Try.func70, rfl, rfl⟩ (fun w v vs cells bs gg LL hvs _ hown hF h1 hap => ?_)
  have hv1 : vs = [.int .i64 (i : Int), .int .i64 (j : Int)] := by
    cases vs with
    | nil => exact hvs.elim
    | cons a vs =>
      cases vs with
      | nil => exact hvs.2.elim
      | cons b vs =>
        cases vs with
        | cons _ _ => exact hvs.2.2.elim
        | nil =>
          have e1 := (hvs.1 : CellR gg LL w a (.c (.int .i64 (i : Int)))).1
          have e2 := (hvs.2.1 : CellR gg LL w b (.c (.int .i64 (j : Int)))).1
          rw [e1, e2]
  subst hv1
  obtain ⟨bs', q1, q2, q3⟩ := FR.del (e := e) hF (Nat.le_of_lt hij) hj
  rw [he] at hown q1 ⊢
  have hln : (xs.take i ++ xs.drop j).length = i + (xs.length - j) := by simp; omega
  rw [hln]
  have hcl := hown.1
  rcases hown.2 with ⟨rfl, h0⟩ | ⟨g, c, cur, rfl, _, r3, r4, r5, r6, r7⟩
  · omega
  · show Calls Try.prog 70 #[.slice (some ⟨g, 0, none⟩) xs.length c, .int .i64 (i : Int), .int .i64 (j : Int)] w _
    refine (delRow_run w g xs.length c i j cur cells r3 r6 r7 hcl hij hj r4 (by unfold maxLen at r5; omega) h1).mono ?_
    rintro en w' ⟨rfl, T, t1, t2, t3, t4⟩
    refine ⟨_, cells.take (i * 1) ++ cells.drop (j * 1), rfl, ⟨?_, .inr ⟨g, c, _, rfl, Nat.zero_le _, t1, by omega, r5, by simp [t2], by simpa using t3⟩⟩, t4, fun b hb => .inl hb, bs', q1, q2, q3⟩
    simp [hcl]; omega
end Go.Proofs.Ytddofobcekmbjaa

/- A row taken out, or put in (printed by walk.py) -/
namespace Go.Proofs.Ytddofobcekmbjaa
open Go.RowKit
set_option linter.unusedVariables false
set_option linter.unusedSimpArgs false
set_option maxRecDepth 100000

set_option maxHeartbeats 4000000 in
theorem copyS_c0 (r : Relt) (hr : smallRel r) : AC Try.prog 59 [.agg (relC r)] [] (.agg [.c (.int .i64 r.arity), .own 0]) [(0, some (.arr 42 rowE r.rows true))] := by
  refine AC_bodyC (n := 2) (k := 9) (T := [(2, .one (.ptr 9 0))]) (Lf := ((9, some (.box [.c (.int .i64 r.arity), .own 0])) :: [(0, some (.arr 42 rowE r.rows true))])) Try.func59 rfl rfl Try.ntmps59 rfl Try.results59 rfl rfl (by kernel_rfl) rfl rfl ⟨trivial, (by repeat (first | exact trivial | refine ⟨⟨_, rfl, BLe.rf⟩, ?_⟩)), (by repeat (first | exact trivial | refine ⟨⟨rfl, by first | (left; intro h; cases h) | (right; rfl), by first | exact (fun _ h => ⟨_, h⟩) | exact (fun _ _ => ⟨_, rfl⟩)⟩, ?_⟩)), rfl⟩ ?_
  refine AW_seq ?_
  refine AW_region ?_
  refine AL_p (x_box 100 rfl rfl rfl rfl rfl rfl rfl) ?_
  refine AL_p (x_alloc (z := .agg #[.int .i64 0, .slice none 0 0]) 101 rfl (by kernel_rfl) rfl rfl rfl rfl) ?_
  refine AL_nil ?_
  refine AW_seq ?_
  refine AW_region ?_
  refine AL_p (x_field (off := 0) (o' := 0) rfl rfl rfl (by kernel_rfl) rfl) ?_
  refine AL_p (x_load1 rfl rfl rfl (by kernel_rfl) rfl) ?_
  refine AL_p (x_build (zs := [.int .i64 0, .slice none 0 0]) (places := [(0, 1), (1, 1)]) rfl (by kernel_rfl) rfl rfl rfl rfl rfl) ?_
  refine AL_p (x_alloc (z := .agg #[.int .i64 0, .slice none 0 0]) 102 rfl (by kernel_rfl) rfl rfl rfl rfl) ?_
  refine AL_p (x_store (n := 2) rfl rfl rfl rfl (by kernel_rfl) rfl rfl rfl) ?_
  refine AL_nil ?_
  refine AW_seq ?_
  refine AW_seq ?_
  refine AW_region ?_
  refine AL_p (x_field (off := 1) (o' := 1) rfl rfl rfl (by kernel_rfl) rfl) ?_
  refine AL_p (x_load1 rfl rfl rfl (by kernel_rfl) rfl) ?_
  refine AL_p (x_len (E := 42) (n := 1) rfl rfl (by kernel_rfl)) ?_
  refine AL_p (x_move rfl rfl) ?_
  refine AL_nil ?_
  refine AW_block ?_
  refine AW_adopt (T := 42) (e := rowE) 103 102 1 rfl rfl rfl rfl rfl ?_
  refine AW_loop2 (ι := {q : Nat // q ≤ r.rows.length}) (fun p => [(11, .one (.c (.int .i64 ((p.1) : Int))))]) (fun p => [(103, some (.arr 42 rowE (r.rows.take (p.1)) true))]) [1, 2, 3, 10] [100, 101, 102] (fun p => r.rows.length - (p.1)) ⟨0, by omega⟩ (rn []) ?_ ?_
  exact ⟨by (repeat refine ⟨⟨_, rfl, by first | exact VLe.rf | exact vle_int (by dsimp only; omega)⟩, ?_⟩); exact trivial, by (repeat refine ⟨⟨_, rfl, by first | exact BLe.rf | exact BLe.box AllC.rf | exact BLe.arr (by first | exact take_none | exact take_more (by omega))⟩, ?_⟩); exact trivial, by repeat (first | exact trivial | refine ⟨⟨rfl, by first | (left; intro h; cases h) | (right; rfl), fun _ h => ⟨_, h⟩⟩, ?_⟩), rfl⟩
  rintro ⟨k, hinv⟩
  dsimp only
  have hl := hr.1
  refine AW_seq ?_
  refine AW_region ?_
  refine AL_b (x_lss rfl rfl rfl) (fun b12 h12 => ?_)
  refine AL_nil ?_
  refine AW_seq ?_
  cases b12
  · try simp only [tdy] at h12
    refine AW_condF rfl ?_
    refine AW_exit (BQ_hit ?_)
    refine AW_seq ?_
    refine AW_region ?_
    refine AL_p (x_loadN (n := 2) rfl rfl rfl (by kernel_rfl) rfl rfl) ?_
    refine AL_p (x_store (n := 2) rfl rfl rfl rfl (by kernel_rfl) rfl rfl rfl) ?_
    refine AL_nil ?_
    refine AW_ret ?_
    exact ⟨rn [(9, 101), (0, 103)], ⟨⟨⟨_, rfl, VLe.rf⟩, trivial⟩, ⟨⟨_, rfl, by first | exact BLe.rf | (subst_vars; exact BLe.rf)⟩, ⟨_, rfl, BLe.arr (List.take_of_length_le (by omega))⟩, trivial⟩, trivial, rfl⟩⟩
  try simp only [tdy] at h12
  refine AW_condT rfl ?_
  refine AW_skip ?_
  refine AW_seq ?_
  refine AW_block ?_
  refine AW_seq ?_
  refine AW_region ?_
  refine AL_p (x_move rfl rfl) ?_
  refine AL_p (x_assign rfl rfl) ?_
  refine AL_nil ?_
  refine AW_draw rfl ?_
  refine AL_p (x_field (off := 1) (o' := 1) rfl rfl rfl (by kernel_rfl) rfl) ?_
  refine AL_p (x_load1 rfl rfl rfl (by kernel_rfl) rfl) ?_
  refine AL_p (x_field (off := 1) (o' := 1) rfl rfl rfl (by kernel_rfl) rfl) ?_
  refine AL_p (x_load1 rfl rfl rfl (by kernel_rfl) rfl) ?_
  refine AL_p (x_move rfl rfl) ?_
  refine AL_p (x_index (E := 42) (n := 1) rfl rfl rfl (by kernel_rfl) rfl (k := k) (by omega) (by omega)) ?_
  refine AL_p (x_eloadW (n := 1) rfl rfl (by kernel_rfl) rfl) ?_
  refine AL_p (x_call1 rfl rfl rfl (rowS_c (r.rows[k]'(by omega)) (hr.2 _ (List.getElem_mem _)).1 104) rfl rfl rfl rfl) ?_
  refine AL_p (y_bslice (E := 42) (e := rowE) [.tmp 21] ([r.rows[k]'(by omega)]) 105 rfl rfl rfl rfl rfl rfl rfl rfl FitL.rf rfl rfl rfl rfl rfl rfl (by kernel_rfl)) ?_
  refine AL_p (y_append 106 rfl rfl rfl rfl rfl rfl rfl rfl (by kernel_rfl) (by have := hr.1; simp only [List.length_take, List.length_cons, List.length_nil]; omega)) ?_
  refine AL_p (x_field (off := 1) (o' := 1) rfl rfl rfl (by kernel_rfl) rfl) ?_
  refine AL_p (x_store (n := 1) rfl rfl rfl rfl (by kernel_rfl) rfl rfl rfl) ?_
  refine AL_nild (by kernel_rfl) ?_
  refine AW_region ?_
  refine AL_p (x_add rfl rfl rfl (IntWalk.i64_in _ (by omega))) ?_
  refine AL_p (x_move rfl rfl) ?_
  refine AL_nil ?_
  refine ⟨⟨k + 1, by omega⟩, rn [(103, 106)], ?_, by dsimp only; omega⟩
  exact ⟨by (repeat refine ⟨⟨_, rfl, by first | exact VLe.rf | exact vle_int (by dsimp only; omega)⟩, ?_⟩); exact trivial, by (repeat refine ⟨⟨_, rfl, by first | exact BLe.rf | exact BLe.box AllC.rf | exact BLe.arr (by first | exact take_none | exact take_more (by omega))⟩, ?_⟩); exact trivial, by repeat (first | exact trivial | refine ⟨⟨rfl, by first | (left; intro h; cases h) | (right; rfl), fun _ h => ⟨_, h⟩⟩, ?_⟩), rfl⟩
theorem copyS_c (r : Relt) (hr : smallRel r) (k : Nat) : AC Try.prog 59 [.agg (relC r)] [] (.agg [.c (.int .i64 r.arity), .own k]) [(k, some (.arr 42 rowE r.rows true))] := AC.at (copyS_c0 r hr) k

set_option maxHeartbeats 4000000 in
theorem copyI_c0 (r : Relt) (hr : smallRel r) : AC Try.prog 57 [.agg (relC r)] [] (.agg [.c (.int .i64 r.arity), .own 0]) [(0, some (.arr 42 rowE r.rows true))] := by
  refine AC_bodyC (n := 2) (k := 9) (T := [(2, .one (.ptr 9 0))]) (Lf := ((9, some (.box [.c (.int .i64 r.arity), .own 0])) :: [(0, some (.arr 42 rowE r.rows true))])) Try.func57 rfl rfl Try.ntmps57 rfl Try.results57 rfl rfl (by kernel_rfl) rfl rfl ⟨trivial, (by repeat (first | exact trivial | refine ⟨⟨_, rfl, BLe.rf⟩, ?_⟩)), (by repeat (first | exact trivial | refine ⟨⟨rfl, by first | (left; intro h; cases h) | (right; rfl), by first | exact (fun _ h => ⟨_, h⟩) | exact (fun _ _ => ⟨_, rfl⟩)⟩, ?_⟩)), rfl⟩ ?_
  refine AW_seq ?_
  refine AW_region ?_
  refine AL_p (x_box 100 rfl rfl rfl rfl rfl rfl rfl) ?_
  refine AL_p (x_alloc (z := .agg #[.int .i64 0, .slice none 0 0]) 101 rfl (by kernel_rfl) rfl rfl rfl rfl) ?_
  refine AL_nil ?_
  refine AW_seq ?_
  refine AW_region ?_
  refine AL_p (x_field (off := 0) (o' := 0) rfl rfl rfl (by kernel_rfl) rfl) ?_
  refine AL_p (x_load1 rfl rfl rfl (by kernel_rfl) rfl) ?_
  refine AL_p (x_build (zs := [.int .i64 0, .slice none 0 0]) (places := [(0, 1), (1, 1)]) rfl (by kernel_rfl) rfl rfl rfl rfl rfl) ?_
  refine AL_p (x_alloc (z := .agg #[.int .i64 0, .slice none 0 0]) 102 rfl (by kernel_rfl) rfl rfl rfl rfl) ?_
  refine AL_p (x_store (n := 2) rfl rfl rfl rfl (by kernel_rfl) rfl rfl rfl) ?_
  refine AL_nil ?_
  refine AW_seq ?_
  refine AW_seq ?_
  refine AW_region ?_
  refine AL_p (x_field (off := 1) (o' := 1) rfl rfl rfl (by kernel_rfl) rfl) ?_
  refine AL_p (x_load1 rfl rfl rfl (by kernel_rfl) rfl) ?_
  refine AL_p (x_len (E := 42) (n := 1) rfl rfl (by kernel_rfl)) ?_
  refine AL_p (x_move rfl rfl) ?_
  refine AL_nil ?_
  refine AW_block ?_
  refine AW_adopt (T := 42) (e := rowE) 103 102 1 rfl rfl rfl rfl rfl ?_
  refine AW_loop2 (ι := {q : Nat // q ≤ r.rows.length}) (fun p => [(12, .one (.c (.int .i64 ((p.1) : Int))))]) (fun p => [(103, some (.arr 42 rowE (r.rows.take (p.1)) true))]) [2, 3, 10, 11] [100, 101, 102] (fun p => r.rows.length - (p.1)) ⟨0, by omega⟩ (rn []) ?_ ?_
  exact ⟨by (repeat refine ⟨⟨_, rfl, by first | exact VLe.rf | exact vle_int (by dsimp only; omega)⟩, ?_⟩); exact trivial, by (repeat refine ⟨⟨_, rfl, by first | exact BLe.rf | exact BLe.box AllC.rf | exact BLe.arr (by first | exact take_none | exact take_more (by omega))⟩, ?_⟩); exact trivial, by repeat (first | exact trivial | refine ⟨⟨rfl, by first | (left; intro h; cases h) | (right; rfl), fun _ h => ⟨_, h⟩⟩, ?_⟩), rfl⟩
  rintro ⟨k, hinv⟩
  dsimp only
  have hl := hr.1
  refine AW_seq ?_
  refine AW_region ?_
  refine AL_b (x_lss rfl rfl rfl) (fun b13 h13 => ?_)
  refine AL_nil ?_
  refine AW_seq ?_
  cases b13
  · try simp only [tdy] at h13
    refine AW_condF rfl ?_
    refine AW_exit (BQ_hit ?_)
    refine AW_seq ?_
    refine AW_region ?_
    refine AL_p (x_loadN (n := 2) rfl rfl rfl (by kernel_rfl) rfl rfl) ?_
    refine AL_p (x_store (n := 2) rfl rfl rfl rfl (by kernel_rfl) rfl rfl rfl) ?_
    refine AL_nil ?_
    refine AW_ret ?_
    exact ⟨rn [(9, 101), (0, 103)], ⟨⟨⟨_, rfl, VLe.rf⟩, trivial⟩, ⟨⟨_, rfl, by first | exact BLe.rf | (subst_vars; exact BLe.rf)⟩, ⟨_, rfl, BLe.arr (List.take_of_length_le (by omega))⟩, trivial⟩, trivial, rfl⟩⟩
  try simp only [tdy] at h13
  refine AW_condT rfl ?_
  refine AW_skip ?_
  refine AW_seq ?_
  refine AW_block ?_
  refine AW_seq ?_
  refine AW_region ?_
  refine AL_p (x_index (E := 42) (n := 1) rfl rfl rfl (by kernel_rfl) rfl (k := k) (by omega) (by omega)) ?_
  refine AL_p (x_eloadW (n := 1) rfl rfl (by kernel_rfl) rfl) ?_
  refine AL_p (x_alloc (z := .agg #[.slice none 0 0]) 104 rfl (by kernel_rfl) rfl rfl rfl rfl) ?_
  refine AL_p (x_store (n := 1) rfl rfl rfl rfl (by kernel_rfl) rfl rfl rfl) ?_
  refine AL_nil ?_
  refine AW_draw rfl ?_
  refine AL_p (x_field (off := 1) (o' := 1) rfl rfl rfl (by kernel_rfl) rfl) ?_
  refine AL_p (x_load1 rfl rfl rfl (by kernel_rfl) rfl) ?_
  refine AL_p (x_loadN (n := 1) rfl rfl rfl (by kernel_rfl) rfl rfl) ?_
  refine AL_p (x_call1 rfl rfl rfl (rowI_c (r.rows[k]'(by omega)) (hr.2 _ (List.getElem_mem _)).1 105) rfl rfl rfl rfl) ?_
  refine AL_p (y_bslice (E := 42) (e := rowE) [.tmp 19] ([r.rows[k]'(by omega)]) 106 rfl rfl rfl rfl rfl rfl rfl rfl FitL.rf rfl rfl rfl rfl rfl rfl (by kernel_rfl)) ?_
  refine AL_p (y_append 107 rfl rfl rfl rfl rfl rfl rfl rfl (by kernel_rfl) (by have := hr.1; simp only [List.length_take, List.length_cons, List.length_nil]; omega)) ?_
  refine AL_p (x_field (off := 1) (o' := 1) rfl rfl rfl (by kernel_rfl) rfl) ?_
  refine AL_p (x_store (n := 1) rfl rfl rfl rfl (by kernel_rfl) rfl rfl rfl) ?_
  refine AL_nild (by kernel_rfl) ?_
  refine AW_region ?_
  refine AL_p (x_add rfl rfl rfl (IntWalk.i64_in _ (by omega))) ?_
  refine AL_p (x_move rfl rfl) ?_
  refine AL_nil ?_
  refine ⟨⟨k + 1, by omega⟩, rn [(103, 107)], ?_, by dsimp only; omega⟩
  exact ⟨by (repeat refine ⟨⟨_, rfl, by first | exact VLe.rf | exact vle_int (by dsimp only; omega)⟩, ?_⟩); exact trivial, by (repeat refine ⟨⟨_, rfl, by first | exact BLe.rf | exact BLe.box AllC.rf | exact BLe.arr (by first | exact take_none | exact take_more (by omega))⟩, ?_⟩); exact trivial, by repeat (first | exact trivial | refine ⟨⟨rfl, by first | (left; intro h; cases h) | (right; rfl), fun _ h => ⟨_, h⟩⟩, ?_⟩), rfl⟩
theorem copyI_c (r : Relt) (hr : smallRel r) (k : Nat) : AC Try.prog 57 [.agg (relC r)] [] (.agg [.c (.int .i64 r.arity), .own k]) [(k, some (.arr 42 rowE r.rows true))] := AC.at (copyI_c0 r hr) k

set_option maxHeartbeats 4000000 in
theorem fitsI_c (r : Relt) (row : List Val) (hl : r.rows.length ≤ 1048576) : AC Try.prog 65 [.agg (relC r), .agg (rowC row)] [] (.one (.c (.bool (fits r row)))) [] := by
  refine AC_body1 Try.func65 rfl rfl Try.ntmps65 rfl Try.results65 ?_
  refine AW_aggmax 1 0 rfl rfl (fun hm1_0 => ?_)
  refine AW_seq ?_
  refine AW_region ?_
  refine AL_p (x_box 100 rfl rfl rfl rfl rfl rfl rfl) ?_
  refine AL_p (x_box 101 rfl rfl rfl rfl rfl rfl rfl) ?_
  refine AL_p (x_assign rfl rfl) ?_
  refine AL_nil ?_
  refine AW_seq ?_
  refine AW_region ?_
  refine AL_p (x_loadN (n := 2) rfl rfl rfl (by kernel_rfl) rfl rfl) ?_
  refine AL_b (x_call0 rfl rfl rfl (relOkI_c _ hl) rfl rfl) (fun b6 h6 => ?_)
  refine AL_p (x_move rfl rfl) ?_
  cases b6
  · try simp only [tdy] at h6
    refine AL_o rfl rfl rfl rfl ?_
    refine AL_o rfl rfl rfl rfl ?_
    refine AL_p (x_pickF rfl rfl rfl) ?_
    refine AL_p (x_move rfl rfl) ?_
    refine AL_o rfl rfl rfl rfl ?_
    refine AL_o rfl rfl rfl rfl ?_
    refine AL_o rfl rfl rfl rfl ?_
    refine AL_o rfl rfl rfl rfl ?_
    refine AL_o rfl rfl rfl rfl ?_
    refine AL_o rfl rfl rfl rfl ?_
    refine AL_p (x_pickF rfl rfl rfl) ?_
    refine AL_p (x_assign rfl rfl) ?_
    refine AL_nil ?_
    refine AW_ret ?_
    exact ⟨rn [], ⟨⟨⟨_, rfl, vle_bool (by first | exact (fits_r h6).symm | exact (fits_row h9).symm | exact (fits_len h17).symm | exact (fits_ok h6 h9 h17).symm)⟩, trivial⟩, trivial, trivial, rfl⟩⟩
  try simp only [tdy] at h6
  refine AL_g rfl rfl (x_loadN (n := 1) rfl rfl rfl (by kernel_rfl) rfl rfl) ?_
  refine AL_gb rfl rfl (x_call0 rfl rfl rfl (rowOkI_c _) rfl rfl) (fun b9 h9 => ?_)
  refine AL_p (x_pickT rfl rfl rfl) ?_
  refine AL_p (x_move rfl rfl) ?_
  cases b9
  · try simp only [tdy] at h9
    refine AL_o rfl rfl rfl rfl ?_
    refine AL_o rfl rfl rfl rfl ?_
    refine AL_o rfl rfl rfl rfl ?_
    refine AL_o rfl rfl rfl rfl ?_
    refine AL_o rfl rfl rfl rfl ?_
    refine AL_o rfl rfl rfl rfl ?_
    refine AL_p (x_pickF rfl rfl rfl) ?_
    refine AL_p (x_assign rfl rfl) ?_
    refine AL_nil ?_
    refine AW_ret ?_
    exact ⟨rn [], ⟨⟨⟨_, rfl, vle_bool (by first | exact (fits_r h6).symm | exact (fits_row h9).symm | exact (fits_len h17).symm | exact (fits_ok h6 h9 h17).symm)⟩, trivial⟩, trivial, trivial, rfl⟩⟩
  try simp only [tdy] at h9
  refine AL_g rfl rfl (x_field (off := 0) (o' := 0) rfl rfl rfl (by kernel_rfl) rfl) ?_
  refine AL_g rfl rfl (x_load1 rfl rfl rfl (by kernel_rfl) rfl) ?_
  refine AL_g rfl rfl (x_len (E := 24) (n := 2) rfl rfl (by kernel_rfl)) ?_
  refine AL_g rfl rfl (x_field (off := 0) (o' := 0) rfl rfl rfl (by kernel_rfl) rfl) ?_
  refine AL_g rfl rfl (x_load1 rfl rfl rfl (by kernel_rfl) rfl) ?_
  refine AL_gb rfl rfl (x_eql rfl rfl rfl) (fun b17 h17 => ?_)
  refine AL_p (x_pickT rfl rfl rfl) ?_
  refine AL_p (x_assign rfl rfl) ?_
  refine AL_nil ?_
  refine AW_ret ?_
  cases b17
  rotate_left
  · try simp only [tdy] at h17
    exact ⟨rn [], ⟨⟨⟨_, rfl, vle_bool (by first | exact (fits_r h6).symm | exact (fits_row h9).symm | exact (fits_len h17).symm | exact (fits_ok h6 h9 h17).symm)⟩, trivial⟩, trivial, trivial, rfl⟩⟩
  try simp only [tdy] at h17
  exact ⟨rn [], ⟨⟨⟨_, rfl, vle_bool (by first | exact (fits_r h6).symm | exact (fits_row h9).symm | exact (fits_len h17).symm | exact (fits_ok h6 h9 h17).symm)⟩, trivial⟩, trivial, trivial, rfl⟩⟩

set_option maxHeartbeats 4000000 in
theorem relDropI_c0 (r : Relt) (row : List Val) (hr : smallRel r) (hw : smallRow row) : AC Try.prog 27 [.agg (relC r), .agg (rowC row)] [] (.tup [.agg [.c (.int .i64 (relDrop r row).1.arity), .own 0], .one (.c (.int .i64 (relDrop r row).2))]) [(0, some (.arr 42 rowE (relDrop r row).1.rows true))] := by
  refine AC_bodyCT (n := 2) (k := 9) (T := [(4, .one (.ptr 9 0)), (5, .one (.c (.int .i64 (relDrop r row).2)))]) (Lf := ((9, some (.box [.c (.int .i64 (relDrop r row).1.arity), .own 0])) :: [(0, some (.arr 42 rowE (relDrop r row).1.rows true))])) Try.func27 rfl rfl Try.ntmps27 rfl Try.results27 rfl rfl rfl rfl (by kernel_rfl) rfl rfl ⟨trivial, (by repeat (first | exact trivial | refine ⟨⟨_, rfl, BLe.rf⟩, ?_⟩)), (by repeat (first | exact trivial | refine ⟨⟨rfl, by first | (left; intro h; cases h) | (right; rfl), by first | exact (fun _ h => ⟨_, h⟩) | exact (fun _ _ => ⟨_, rfl⟩)⟩, ?_⟩)), rfl⟩ ?_
  refine AW_seq ?_
  refine AW_region ?_
  refine AL_p (x_box 100 rfl rfl rfl rfl rfl rfl rfl) ?_
  refine AL_p (x_box 101 rfl rfl rfl rfl rfl rfl rfl) ?_
  refine AL_p (x_alloc (z := .agg #[.int .i64 0, .slice none 0 0]) 102 rfl (by kernel_rfl) rfl rfl rfl rfl) ?_
  refine AL_p (x_assign rfl rfl) ?_
  refine AL_nil ?_
  refine AW_seq ?_
  refine AW_seq ?_
  refine AW_region ?_
  refine AL_p (x_loadN (n := 2) rfl rfl rfl (by kernel_rfl) rfl rfl) ?_
  refine AL_p (x_loadN (n := 1) rfl rfl rfl (by kernel_rfl) rfl rfl) ?_
  refine AL_b (x_call0 rfl rfl rfl (fitsI_c r row hr.1) rfl rfl) (fun b10 h10 => ?_)
  refine AL_p (x_not rfl rfl) ?_
  refine AL_nil ?_
  cases b10
  · try simp only [tdy] at h10
    have hno := relDrop_no h10
    refine AW_condT rfl ?_
    refine AW_seq ?_
    refine AW_region ?_
    refine AL_p (x_build (zs := [.int .i64 0, .slice none 0 0]) (places := [(0, 1), (1, 1)]) rfl (by kernel_rfl) rfl rfl rfl rfl rfl) ?_
    refine AL_p (x_store (n := 2) rfl rfl rfl rfl (by kernel_rfl) rfl rfl rfl) ?_
    refine AL_p (x_assign rfl rfl) ?_
    refine AL_nil ?_
    refine AW_adopt (T := 42) (e := rowE) 105 102 1 rfl rfl rfl rfl rfl ?_
    refine AW_ret ?_
    exact ⟨rn [(9, 102), (0, 105)], ⟨⟨⟨_, rfl, VLe.rf⟩, ⟨_, rfl, by first | (refine vle_int ?_; rw [hno]; done) | exact VLe.rf | (refine vle_int ?_; rw [hno]; apply Eq.symm; assumption) | exact vle_int (by rw [hno])⟩, trivial⟩, ⟨⟨_, rfl, by first | (refine ble_eq ?_; rw [hno]; done) | (refine ble_eq ?_; rw [hno]; rfl) | exact BLe.rf⟩, ⟨_, rfl, by first | (refine BLe.arr ?_; rw [hno]; done) | (refine BLe.arr ?_; rw [hno]; exact drop_has hs hrv h20) | (refine BLe.arr ?_; rw [hno]; exact drop_not h20) | (refine BLe.arr ?_; rw [hno]; rfl) | exact BLe.rf⟩, trivial⟩, trivial, rfl⟩⟩
  try simp only [tdy] at h10
  have hf := h10
  obtain ⟨hs, hrv, h300⟩ := fits_sorted h10
  have hno := relDrop_ok h10
  refine AW_condF rfl ?_
  refine AW_skip ?_
  refine AW_seq ?_
  refine AW_region ?_
  refine AL_p (x_loadN (n := 2) rfl rfl rfl (by kernel_rfl) rfl rfl) ?_
  refine AL_p (x_call1 rfl rfl rfl (copyI_c r hr 103) rfl rfl rfl rfl) ?_
  refine AL_p (x_store (n := 2) rfl rfl rfl rfl (by kernel_rfl) rfl rfl rfl) ?_
  refine AL_nil ?_
  refine AW_seq ?_
  refine AW_seq ?_
  refine AW_region ?_
  refine AL_p (x_loadN (n := 2) rfl rfl rfl (by kernel_rfl) rfl rfl) ?_
  refine AL_p (x_loadN (n := 1) rfl rfl rfl (by kernel_rfl) rfl rfl) ?_
  refine AL_p (x_callR rfl rfl rfl (find_c r row (by omega) hs hrv) rfl AllV.rf rfl rfl rfl rfl rfl) ?_
  refine AL_p (x_move rfl rfl) ?_
  refine AL_p (x_extract rfl rfl rfl) ?_
  refine AL_b (x_extract rfl rfl rfl) (fun b20 h20 => ?_)
  refine AL_p (x_assign rfl rfl) ?_
  refine AL_p (x_assign rfl rfl) ?_
  refine AL_nil ?_
  refine AW_seq ?_
  refine AW_region ?_
  refine AL_p (x_move rfl rfl) ?_
  refine AL_nil ?_
  cases b20
  · try simp only [tdy] at h20
    refine AW_condF rfl ?_
    refine AW_skip ?_
    refine AW_seq ?_
    refine AW_region ?_
    refine AL_p (x_loadN (n := 2) rfl rfl rfl (by kernel_rfl) rfl rfl) ?_
    refine AL_p (x_store (n := 2) rfl rfl rfl rfl (by kernel_rfl) rfl rfl rfl) ?_
    refine AL_p (x_assign rfl rfl) ?_
    refine AL_nil ?_
    refine AW_ret ?_
    exact ⟨rn [(9, 102), (0, 103)], ⟨⟨⟨_, rfl, VLe.rf⟩, ⟨_, rfl, by first | (refine vle_int ?_; rw [hno]; done) | exact VLe.rf | (refine vle_int ?_; rw [hno]; apply Eq.symm; assumption) | exact vle_int (by rw [hno])⟩, trivial⟩, ⟨⟨_, rfl, by first | (refine ble_eq ?_; rw [hno]; done) | (refine ble_eq ?_; rw [hno]; rfl) | exact BLe.rf⟩, ⟨_, rfl, by first | (refine BLe.arr ?_; rw [hno]; done) | (refine BLe.arr ?_; rw [hno]; exact drop_has hs hrv h20) | (refine BLe.arr ?_; rw [hno]; exact drop_not h20) | (refine BLe.arr ?_; rw [hno]; rfl) | exact BLe.rf⟩, trivial⟩, trivial, rfl⟩⟩
  try simp only [tdy] at h20
  obtain ⟨hp, hpe⟩ := has_pos hs hrv h20
  refine AW_condT rfl ?_
  refine AW_region ?_
  refine AL_p (x_field (off := 1) (o' := 1) rfl rfl rfl (by kernel_rfl) rfl) ?_
  refine AL_p (x_load1 rfl rfl rfl (by kernel_rfl) rfl) ?_
  refine AL_p (x_move rfl rfl) ?_
  refine AL_p (x_move rfl rfl) ?_
  refine AL_p (x_add rfl rfl rfl (r := ((pos r.rows row + 1 : Nat) : Int)) (by rw [Int.natCast_add]; exact IntWalk.i64_in _ (by omega))) ?_
  refine AL_p (x_call (ks := []) (L := [(103, some _)]) (L' := [(103, none), (104, some _)]) rfl rfl rfl (AT.lend1 (delRow_t rfl (i := pos r.rows row) (j := pos r.rows row + 1) (by omega) (by omega)) 103 104 rfl (fun _ => rfl)) rfl AllV.rf (caught_of rfl) rfl rfl rfl ⟨rfl, trivial⟩ rfl) ?_
  refine AL_p (x_field (off := 1) (o' := 1) rfl rfl rfl (by kernel_rfl) rfl) ?_
  refine AL_p (x_store (n := 1) rfl rfl rfl rfl (by kernel_rfl) rfl rfl rfl) ?_
  refine AL_nil ?_
  refine AW_seq ?_
  refine AW_region ?_
  refine AL_p (x_loadN (n := 2) rfl rfl rfl (by kernel_rfl) rfl rfl) ?_
  refine AL_p (x_store (n := 2) rfl rfl rfl rfl (by kernel_rfl) rfl rfl rfl) ?_
  refine AL_p (x_assign rfl rfl) ?_
  refine AL_nil ?_
  refine AW_ret ?_
  exact ⟨rn [(9, 102), (0, 104)], ⟨⟨⟨_, rfl, VLe.rf⟩, ⟨_, rfl, by first | (refine vle_int ?_; rw [hno]; done) | exact VLe.rf | (refine vle_int ?_; rw [hno]; apply Eq.symm; assumption) | exact vle_int (by rw [hno])⟩, trivial⟩, ⟨⟨_, rfl, by first | (refine ble_eq ?_; rw [hno]; done) | (refine ble_eq ?_; rw [hno]; rfl) | exact BLe.rf⟩, ⟨_, rfl, by first | (refine BLe.arr ?_; rw [hno]; done) | (refine BLe.arr ?_; rw [hno]; exact drop_has hs hrv h20) | (refine BLe.arr ?_; rw [hno]; exact drop_not h20) | (refine BLe.arr ?_; rw [hno]; rfl) | exact BLe.rf⟩, trivial⟩, trivial, rfl⟩⟩
theorem relDropI_c (r : Relt) (row : List Val) (hr : smallRel r) (hw : smallRow row) (k : Nat) : AC Try.prog 27 [.agg (relC r), .agg (rowC row)] [] (.tup [.agg [.c (.int .i64 (relDrop r row).1.arity), .own k], .one (.c (.int .i64 (relDrop r row).2))]) [(k, some (.arr 42 rowE (relDrop r row).1.rows true))] := AC.at (relDropI_c0 r row hr hw) k

set_option maxHeartbeats 4000000 in
theorem putS_c (rows : List (List Val)) (row : List Val) (hl : rows.length ≤ 1048575) (hm : ∀ r ∈ rows, r.length ≤ 1048576) (hr : row.length ≤ 1048576) (hs : Sorted rows) (hv : ∀ v ∈ row, valOk v = true) : AC Try.prog 50 [.one (.sl rowE rows), .agg (rowC row)] [] (.one (.sl rowE (putRow rows row))) [] := by
  refine AC_body1 Try.func50 rfl rfl Try.ntmps50 rfl Try.results50 ?_
  refine AW_seq ?_
  refine AW_region ?_
  refine AL_p (x_box 100 rfl rfl rfl rfl rfl rfl rfl) ?_
  refine AL_p (x_assign rfl rfl) ?_
  refine AL_nil ?_
  refine AW_seq ?_
  refine AW_seq ?_
  refine AW_region ?_
  refine AL_p (x_move rfl rfl) ?_
  refine AL_p (x_loadN (n := 1) rfl rfl rfl (by kernel_rfl) rfl rfl) ?_
  refine AL_b (x_call0 rfl rfl rfl (hasS_c _ _ (by omega) hm) rfl rfl) (fun b10 h10 => ?_)
  refine AL_nil ?_
  cases b10
  rotate_left
  · try simp only [tdy] at h10
    have hno := putRow_has h10
    refine AW_condT rfl ?_
    refine AW_seq ?_
    refine AW_region ?_
    refine AL_p (x_move rfl rfl) ?_
    refine AL_p (x_assign rfl rfl) ?_
    refine AL_nil ?_
    refine AW_ret ?_
    exact ⟨rn [], ⟨⟨_, rfl, by first | (refine vle_sl ?_; rw [hno]; done) | (refine vle_sl ?_; rw [hno]; first | exact putTo_done (by omega) (by omega) (by omega) | exact putTo_end (by omega) (by omega) (by omega))⟩, trivial⟩, trivial, trivial, rfl⟩
  try simp only [tdy] at h10
  have hno := putRow_no h10
  refine AW_condF rfl ?_
  refine AW_skip ?_
  refine AW_seq ?_
  refine AW_region ?_
  refine AL_p (y_bslice0 (E := 42) (e := rowE) 101 rfl rfl rfl (by kernel_rfl)) ?_
  refine AL_p (x_assign rfl rfl) ?_
  refine AL_nil ?_
  refine AW_seq ?_
  refine AW_region ?_
  refine AL_p (x_assign rfl rfl) ?_
  refine AL_nil ?_
  refine AW_seq ?_
  refine AW_seq ?_
  refine AW_region ?_
  refine AL_p (x_move rfl rfl) ?_
  refine AL_p (x_len (E := 42) (n := 1) rfl rfl (by kernel_rfl)) ?_
  refine AL_p (x_move rfl rfl) ?_
  refine AL_nil ?_
  refine AW_block ?_
  refine AW_shallow 101 rfl ?_
  refine AW_loop2 (ι := {q : Nat × Bool // (q.1) ≤ rows.length ∧ decide (pos rows row < (q.1)) = (q.2)}) (fun p => [(5, .one (.own 101)), (6, .one (.c (.bool (p.1.2)))), (15, .one (.c (.int .i64 ((p.1.1) : Int))))]) (fun p => [(101, some (.arr 42 rowE (putTo rows row (p.1.1)) false))]) [0, 3, 14] [100] (fun p => rows.length - (p.1.1)) ⟨⟨0, false⟩, ⟨by omega, by simp⟩⟩ (rn []) ?_ ?_
  exact ⟨by (repeat refine ⟨⟨_, rfl, by first | exact VLe.rf | exact vle_int (by dsimp only; omega)⟩, ?_⟩); exact trivial, by (repeat refine ⟨⟨_, rfl, by first | exact BLe.rf | exact BLe.box AllC.rf | exact BLe.arr (by first | exact putTo_zero | exact putTo_behind (by omega) (by omega) | exact putTo_here (by omega) (by omega) | exact putTo_before (by omega) (by omega))⟩, ?_⟩); exact trivial, by repeat (first | exact trivial | refine ⟨⟨rfl, by first | (left; intro h; cases h) | (right; rfl), fun _ h => ⟨_, h⟩⟩, ?_⟩), rfl⟩
  rintro ⟨⟨k, b900⟩, hinv⟩
  dsimp only
  obtain ⟨hk, h900⟩ := hinv
  have hk : k ≤ rows.length := hk
  refine AW_seq ?_
  refine AW_region ?_
  refine AL_b (x_lss rfl rfl rfl) (fun b16 h16 => ?_)
  refine AL_nil ?_
  refine AW_seq ?_
  cases b16
  · try simp only [tdy] at h16
    refine AW_condF rfl ?_
    refine AW_exit (BQ_hit ?_)
    refine AW_seq ?_
    refine AW_seq ?_
    refine AW_region ?_
    refine AL_p (x_move rfl rfl) ?_
    refine AL_p (x_not rfl rfl) ?_
    refine AL_nil ?_
    cases b900
    rotate_left
    · try simp only [tdy] at h900
      refine AW_condF rfl ?_
      refine AW_skip ?_
      refine AW_seq ?_
      refine AW_region ?_
      refine AL_p (x_move rfl rfl) ?_
      refine AL_p (x_assign rfl rfl) ?_
      refine AL_nil ?_
      refine AW_shut 101 4 rfl rfl ?_
      refine AW_ret ?_
      exact ⟨rn [], ⟨⟨_, rfl, by first | (refine vle_sl ?_; rw [hno]; done) | (refine vle_sl ?_; rw [hno]; first | exact putTo_done (by omega) (by omega) (by omega) | exact putTo_end (by omega) (by omega) (by omega))⟩, trivial⟩, trivial, trivial, rfl⟩
    try simp only [tdy] at h900
    refine AW_condT rfl ?_
    refine AW_region ?_
    refine AL_p (x_move rfl rfl) ?_
    refine AL_p (x_loadN (n := 1) rfl rfl rfl (by kernel_rfl) rfl rfl) ?_
    refine AL_p (x_call1 rfl rfl rfl (rowS_c row hr 107) rfl rfl rfl rfl) ?_
    refine AL_p (y_bslice (E := 42) (e := rowE) [.tmp 46] ([row]) 108 rfl rfl rfl rfl rfl rfl rfl rfl FitL.rf rfl rfl rfl rfl rfl rfl (by kernel_rfl)) ?_
    refine AL_p (y_append 109 rfl rfl rfl rfl rfl rfl rfl rfl (by kernel_rfl) (by have := putTo_len (rows := rows) (row := row) (k := k) (by omega); simp only [List.length_append, List.length_cons, List.length_nil]; omega)) ?_
    refine AL_p (x_assign rfl rfl) ?_
    refine AL_nil ?_
    refine AW_seq ?_
    refine AW_region ?_
    refine AL_p (x_move rfl rfl) ?_
    refine AL_p (x_assign rfl rfl) ?_
    refine AL_nil ?_
    refine AW_shut 109 4 rfl rfl ?_
    refine AW_ret ?_
    exact ⟨rn [], ⟨⟨_, rfl, by first | (refine vle_sl ?_; rw [hno]; done) | (refine vle_sl ?_; rw [hno]; first | exact putTo_done (by omega) (by omega) (by omega) | exact putTo_end (by omega) (by omega) (by omega))⟩, trivial⟩, trivial, trivial, rfl⟩
  try simp only [tdy] at h16
  refine AW_condT rfl ?_
  refine AW_skip ?_
  refine AW_seq ?_
  refine AW_block ?_
  refine AW_seq ?_
  refine AW_region ?_
  refine AL_p (x_move rfl rfl) ?_
  refine AL_p (x_assign rfl rfl) ?_
  refine AL_nil ?_
  refine AW_seq ?_
  refine AW_seq ?_
  refine AW_draw rfl ?_
  refine AL_p (x_move rfl rfl) ?_
  refine AL_p (x_not rfl rfl) ?_
  refine AL_p (x_move rfl rfl) ?_
  cases b900
  rotate_left
  · try simp only [tdy] at h900
    refine AL_o rfl rfl rfl rfl ?_
    refine AL_o rfl rfl rfl rfl ?_
    refine AL_o rfl rfl rfl rfl ?_
    refine AL_o rfl rfl rfl rfl ?_
    refine AL_o rfl rfl rfl rfl ?_
    refine AL_o rfl rfl rfl rfl ?_
    refine AL_o rfl rfl rfl rfl ?_
    refine AL_p (x_pickF rfl rfl rfl) ?_
    refine AL_nild (by kernel_rfl) ?_
    refine AW_condF rfl ?_
    refine AW_skip ?_
    refine AW_region ?_
    refine AL_p (x_move rfl rfl) ?_
    refine AL_p (x_move rfl rfl) ?_
    refine AL_p (x_move rfl rfl) ?_
    refine AL_p (x_index (E := 42) (n := 1) rfl rfl rfl (by kernel_rfl) rfl (k := k) (by omega) (by omega)) ?_
    refine AL_p (x_eloadW (n := 1) rfl rfl (by kernel_rfl) rfl) ?_
    refine AL_p (y_bslice (E := 42) (e := rowE) [.tmp 38] ([(rows[k]'(by omega))]) 102 rfl rfl rfl rfl rfl rfl rfl rfl FitL.rf rfl rfl rfl rfl rfl rfl (by kernel_rfl)) ?_
    refine AL_p (y_append 103 rfl rfl rfl rfl rfl rfl rfl rfl (by kernel_rfl) (by have := putTo_len (rows := rows) (row := row) (k := k) (by omega); simp only [List.length_append, List.length_cons, List.length_nil]; omega)) ?_
    refine AL_p (x_assign rfl rfl) ?_
    refine AL_nil ?_
    refine AW_region ?_
    refine AL_p (x_add rfl rfl rfl (IntWalk.i64_in _ (by omega))) ?_
    refine AL_p (x_move rfl rfl) ?_
    refine AL_nil ?_
    refine ⟨⟨⟨k + 1, true⟩, ⟨by omega, by rw [decide_eq_true_eq]; omega⟩⟩, rn [(101, 103)], ?_, by dsimp only; omega⟩
    exact ⟨by (repeat refine ⟨⟨_, rfl, by first | exact VLe.rf | exact vle_int (by dsimp only; omega)⟩, ?_⟩); exact trivial, by (repeat refine ⟨⟨_, rfl, by first | exact BLe.rf | exact BLe.box AllC.rf | exact BLe.arr (by first | exact putTo_zero | exact putTo_behind (by omega) (by omega) | exact putTo_here (by omega) (by omega) | exact putTo_before (by omega) (by omega))⟩, ?_⟩); exact trivial, by repeat (first | exact trivial | refine ⟨⟨rfl, by first | (left; intro h; cases h) | (right; rfl), fun _ h => ⟨_, h⟩⟩, ?_⟩), rfl⟩
  try simp only [tdy] at h900
  refine AL_g rfl rfl (x_loadN (n := 1) rfl rfl rfl (by kernel_rfl) rfl rfl) ?_
  refine AL_g rfl rfl (x_move rfl rfl) ?_
  refine AL_g rfl rfl (x_move rfl rfl) ?_
  refine AL_g rfl rfl (x_index (E := 42) (n := 1) rfl rfl rfl (by kernel_rfl) rfl (k := k) (by omega) (by omega)) ?_
  refine AL_g rfl rfl (x_eloadW (n := 1) rfl rfl (by kernel_rfl) rfl) ?_
  refine AL_g rfl rfl (x_call0 rfl rfl rfl (orderS_c _ _) rfl rfl) ?_
  refine AL_gb rfl rfl (x_eql rfl rfl rfl) (fun b27 h27 => ?_)
  refine AL_p (x_pickT rfl rfl rfl) ?_
  refine AL_nild (by kernel_rfl) ?_
  cases b27
  · try simp only [tdy] at h27
    have hp : ¬ k = pos rows row := of_decide_eq_false ((putTo_lt hs hv h10 (k := k) (by omega) (by omega)).symm.trans (by simp [h27]))
    refine AW_condF rfl ?_
    refine AW_skip ?_
    refine AW_region ?_
    refine AL_p (x_move rfl rfl) ?_
    refine AL_p (x_move rfl rfl) ?_
    refine AL_p (x_move rfl rfl) ?_
    refine AL_p (x_index (E := 42) (n := 1) rfl rfl rfl (by kernel_rfl) rfl (k := k) (by omega) (by omega)) ?_
    refine AL_p (x_eloadW (n := 1) rfl rfl (by kernel_rfl) rfl) ?_
    refine AL_p (y_bslice (E := 42) (e := rowE) [.tmp 38] ([(rows[k]'(by omega))]) 102 rfl rfl rfl rfl rfl rfl rfl rfl FitL.rf rfl rfl rfl rfl rfl rfl (by kernel_rfl)) ?_
    refine AL_p (y_append 103 rfl rfl rfl rfl rfl rfl rfl rfl (by kernel_rfl) (by have := putTo_len (rows := rows) (row := row) (k := k) (by omega); simp only [List.length_append, List.length_cons, List.length_nil]; omega)) ?_
    refine AL_p (x_assign rfl rfl) ?_
    refine AL_nil ?_
    refine AW_region ?_
    refine AL_p (x_add rfl rfl rfl (IntWalk.i64_in _ (by omega))) ?_
    refine AL_p (x_move rfl rfl) ?_
    refine AL_nil ?_
    refine ⟨⟨⟨k + 1, false⟩, ⟨by omega, by rw [decide_eq_false_iff_not]; omega⟩⟩, rn [(101, 103)], ?_, by dsimp only; omega⟩
    exact ⟨by (repeat refine ⟨⟨_, rfl, by first | exact VLe.rf | exact vle_int (by dsimp only; omega)⟩, ?_⟩); exact trivial, by (repeat refine ⟨⟨_, rfl, by first | exact BLe.rf | exact BLe.box AllC.rf | exact BLe.arr (by first | exact putTo_zero | exact putTo_behind (by omega) (by omega) | exact putTo_here (by omega) (by omega) | exact putTo_before (by omega) (by omega))⟩, ?_⟩); exact trivial, by repeat (first | exact trivial | refine ⟨⟨rfl, by first | (left; intro h; cases h) | (right; rfl), fun _ h => ⟨_, h⟩⟩, ?_⟩), rfl⟩
  try simp only [tdy] at h27
  have hp : k = pos rows row := of_decide_eq_true ((putTo_lt hs hv h10 (k := k) (by omega) (by omega)).symm.trans (by simp [h27]))
  refine AW_condT rfl ?_
  refine AW_seq ?_
  refine AW_region ?_
  refine AL_p (x_move rfl rfl) ?_
  refine AL_p (x_loadN (n := 1) rfl rfl rfl (by kernel_rfl) rfl rfl) ?_
  refine AL_p (x_call1 rfl rfl rfl (rowS_c row hr 104) rfl rfl rfl rfl) ?_
  refine AL_p (y_bslice (E := 42) (e := rowE) [.tmp 31] ([row]) 105 rfl rfl rfl rfl rfl rfl rfl rfl FitL.rf rfl rfl rfl rfl rfl rfl (by kernel_rfl)) ?_
  refine AL_p (y_append 106 rfl rfl rfl rfl rfl rfl rfl rfl (by kernel_rfl) (by have := putTo_len (rows := rows) (row := row) (k := k) (by omega); simp only [List.length_append, List.length_cons, List.length_nil]; omega)) ?_
  refine AL_p (x_assign rfl rfl) ?_
  refine AL_nil ?_
  refine AW_region ?_
  refine AL_p (x_assign rfl rfl) ?_
  refine AL_nil ?_
  refine AW_region ?_
  refine AL_p (x_move rfl rfl) ?_
  refine AL_p (x_move rfl rfl) ?_
  refine AL_p (x_move rfl rfl) ?_
  refine AL_p (x_index (E := 42) (n := 1) rfl rfl rfl (by kernel_rfl) rfl (k := k) (by omega) (by omega)) ?_
  refine AL_p (x_eloadW (n := 1) rfl rfl (by kernel_rfl) rfl) ?_
  refine AL_p (y_bslice (E := 42) (e := rowE) [.tmp 38] ([(rows[k]'(by omega))]) 102 rfl rfl rfl rfl rfl rfl rfl rfl FitL.rf rfl rfl rfl rfl rfl rfl (by kernel_rfl)) ?_
  refine AL_p (y_append 103 rfl rfl rfl rfl rfl rfl rfl rfl (by kernel_rfl) (by have := putTo_len (rows := rows) (row := row) (k := k) (by omega); simp only [List.length_append, List.length_cons, List.length_nil]; omega)) ?_
  refine AL_p (x_assign rfl rfl) ?_
  refine AL_nil ?_
  refine AW_region ?_
  refine AL_p (x_add rfl rfl rfl (IntWalk.i64_in _ (by omega))) ?_
  refine AL_p (x_move rfl rfl) ?_
  refine AL_nil ?_
  refine ⟨⟨⟨k + 1, true⟩, ⟨by omega, by rw [decide_eq_true_eq]; omega⟩⟩, rn [(101, 103)], ?_, by dsimp only; omega⟩
  exact ⟨by (repeat refine ⟨⟨_, rfl, by first | exact VLe.rf | exact vle_int (by dsimp only; omega)⟩, ?_⟩); exact trivial, by (repeat refine ⟨⟨_, rfl, by first | exact BLe.rf | exact BLe.box AllC.rf | exact BLe.arr (by first | exact putTo_zero | exact putTo_behind (by omega) (by omega) | exact putTo_here (by omega) (by omega) | exact putTo_before (by omega) (by omega))⟩, ?_⟩); exact trivial, by repeat (first | exact trivial | refine ⟨⟨rfl, by first | (left; intro h; cases h) | (right; rfl), fun _ h => ⟨_, h⟩⟩, ?_⟩), rfl⟩

set_option maxHeartbeats 4000000 in
theorem relAddI_c0 (r : Relt) (row : List Val) (hr : smallRel r) (hw : smallRow row) : AC Try.prog 25 [.agg (relC r), .agg (rowC row)] [] (.tup [.agg [.c (.int .i64 (relAdd r row).1.arity), .own 0], .one (.c (.int .i64 (relAdd r row).2))]) [(0, some (.arr 42 rowE (relAdd r row).1.rows true))] := by
  refine AC_bodyCT (n := 2) (k := 9) (T := [(4, .one (.ptr 9 0)), (5, .one (.c (.int .i64 (relAdd r row).2)))]) (Lf := ((9, some (.box [.c (.int .i64 (relAdd r row).1.arity), .own 0])) :: [(0, some (.arr 42 rowE (relAdd r row).1.rows true))])) Try.func25 rfl rfl Try.ntmps25 rfl Try.results25 rfl rfl rfl rfl (by kernel_rfl) rfl rfl ⟨trivial, (by repeat (first | exact trivial | refine ⟨⟨_, rfl, BLe.rf⟩, ?_⟩)), (by repeat (first | exact trivial | refine ⟨⟨rfl, by first | (left; intro h; cases h) | (right; rfl), by first | exact (fun _ h => ⟨_, h⟩) | exact (fun _ _ => ⟨_, rfl⟩)⟩, ?_⟩)), rfl⟩ ?_
  refine AW_seq ?_
  refine AW_region ?_
  refine AL_p (x_box 100 rfl rfl rfl rfl rfl rfl rfl) ?_
  refine AL_p (x_box 101 rfl rfl rfl rfl rfl rfl rfl) ?_
  refine AL_p (x_alloc (z := .agg #[.int .i64 0, .slice none 0 0]) 102 rfl (by kernel_rfl) rfl rfl rfl rfl) ?_
  refine AL_p (x_assign rfl rfl) ?_
  refine AL_nil ?_
  refine AW_seq ?_
  refine AW_seq ?_
  refine AW_region ?_
  refine AL_p (x_loadN (n := 2) rfl rfl rfl (by kernel_rfl) rfl rfl) ?_
  refine AL_p (x_loadN (n := 1) rfl rfl rfl (by kernel_rfl) rfl rfl) ?_
  refine AL_b (x_call0 rfl rfl rfl (fitsI_c r row hr.1) rfl rfl) (fun b10 h10 => ?_)
  refine AL_p (x_not rfl rfl) ?_
  refine AL_nil ?_
  cases b10
  · try simp only [tdy] at h10
    have hno := relAdd_no h10
    refine AW_condT rfl ?_
    refine AW_seq ?_
    refine AW_region ?_
    refine AL_p (x_build (zs := [.int .i64 0, .slice none 0 0]) (places := [(0, 1), (1, 1)]) rfl (by kernel_rfl) rfl rfl rfl rfl rfl) ?_
    refine AL_p (x_store (n := 2) rfl rfl rfl rfl (by kernel_rfl) rfl rfl rfl) ?_
    refine AL_p (x_assign rfl rfl) ?_
    refine AL_nil ?_
    refine AW_adopt (T := 42) (e := rowE) 104 102 1 rfl rfl rfl rfl rfl ?_
    refine AW_ret ?_
    exact ⟨rn [(9, 102), (0, 104)], ⟨⟨⟨_, rfl, VLe.rf⟩, ⟨_, rfl, by first | (refine vle_int ?_; rw [hno]; done) | exact VLe.rf | (refine vle_int ?_; rw [hno]; apply Eq.symm; assumption) | exact vle_int (by rw [hno])⟩, trivial⟩, ⟨⟨_, rfl, by first | (refine ble_eq ?_; rw [hno]; done) | (refine ble_eq ?_; rw [hno]; rfl) | exact BLe.rf⟩, ⟨_, rfl, by first | (refine BLe.arr ?_; rw [hno]; done) | (refine BLe.arr ?_; rw [hno]; rfl) | exact BLe.rf⟩, trivial⟩, trivial, rfl⟩⟩
  try simp only [tdy] at h10
  have hf := h10
  obtain ⟨hs, hrv, h300⟩ := fits_sorted h10
  refine AW_condF rfl ?_
  refine AW_skip ?_
  refine AW_seq ?_
  refine AW_region ?_
  refine AL_p (x_loadN (n := 2) rfl rfl rfl (by kernel_rfl) rfl rfl) ?_
  refine AL_p (x_call1 rfl rfl rfl (copyI_c r hr 103) rfl rfl rfl rfl) ?_
  refine AL_p (x_store (n := 2) rfl rfl rfl rfl (by kernel_rfl) rfl rfl rfl) ?_
  refine AL_nil ?_
  refine AW_seq ?_
  refine AW_region ?_
  refine AL_p (x_loadN (n := 2) rfl rfl rfl (by kernel_rfl) rfl rfl) ?_
  refine AL_p (x_loadN (n := 1) rfl rfl rfl (by kernel_rfl) rfl rfl) ?_
  refine AL_p (x_callR rfl rfl rfl (find_c r row (by omega) hs hrv) rfl AllV.rf rfl rfl rfl rfl rfl) ?_
  refine AL_p (x_move rfl rfl) ?_
  refine AL_p (x_extract rfl rfl rfl) ?_
  refine AL_b (x_extract rfl rfl rfl) (fun b20 h20 => ?_)
  refine AL_p (x_assign rfl rfl) ?_
  refine AL_p (x_assign rfl rfl) ?_
  refine AL_nil ?_
  refine AW_seq ?_
  refine AW_block ?_
  refine AW_seq ?_
  refine AW_region ?_
  refine AL_p (x_move rfl rfl) ?_
  refine AL_p (x_assign rfl rfl) ?_
  refine AL_nil ?_
  cases b20
  rotate_left
  · try simp only [tdy] at h20
    have hno := relAdd_has hf h20
    refine AW_condT rfl ?_
    refine AW_seq ?_
    refine AW_region ?_
    refine AL_p (x_loadN (n := 2) rfl rfl rfl (by kernel_rfl) rfl rfl) ?_
    refine AL_p (x_store (n := 2) rfl rfl rfl rfl (by kernel_rfl) rfl rfl rfl) ?_
    refine AL_p (x_assign rfl rfl) ?_
    refine AL_nil ?_
    refine AW_ret (BQ_ret ?_)
    exact ⟨rn [(9, 102), (0, 103)], ⟨⟨⟨_, rfl, VLe.rf⟩, ⟨_, rfl, by first | (refine vle_int ?_; rw [hno]; done) | exact VLe.rf | (refine vle_int ?_; rw [hno]; apply Eq.symm; assumption) | exact vle_int (by rw [hno])⟩, trivial⟩, ⟨⟨_, rfl, by first | (refine ble_eq ?_; rw [hno]; done) | (refine ble_eq ?_; rw [hno]; rfl) | exact BLe.rf⟩, ⟨_, rfl, by first | (refine BLe.arr ?_; rw [hno]; done) | (refine BLe.arr ?_; rw [hno]; rfl) | exact BLe.rf⟩, trivial⟩, trivial, rfl⟩⟩
  try simp only [tdy] at h20
  refine AW_condF rfl ?_
  refine AW_seq ?_
  refine AW_region ?_
  refine AL_p (x_field (off := 1) (o' := 1) rfl rfl rfl (by kernel_rfl) rfl) ?_
  refine AL_p (x_load1 rfl rfl rfl (by kernel_rfl) rfl) ?_
  refine AL_p (x_olen (E := 42) (n := 1) rfl rfl rfl (by kernel_rfl)) ?_
  refine AL_b (x_eql rfl rfl rfl) (fun b28 h28 => ?_)
  refine AL_p (x_assign rfl rfl) ?_
  refine AL_nil ?_
  cases b28
  rotate_left
  · try simp only [tdy] at h28
    have hno := relAdd_full hf h20 h28
    refine AW_condT rfl ?_
    refine AW_seq ?_
    refine AW_region ?_
    refine AL_p (x_build (zs := [.int .i64 0, .slice none 0 0]) (places := [(0, 1), (1, 1)]) rfl (by kernel_rfl) rfl rfl rfl rfl rfl) ?_
    refine AL_p (x_store (n := 2) rfl rfl rfl rfl (by kernel_rfl) rfl rfl rfl) ?_
    refine AL_p (x_assign rfl rfl) ?_
    refine AL_nil ?_
    refine AW_adopt (T := 42) (e := rowE) 104 102 1 rfl rfl rfl rfl rfl ?_
    refine AW_ret (BQ_ret ?_)
    exact ⟨rn [(9, 102), (0, 104)], ⟨⟨⟨_, rfl, VLe.rf⟩, ⟨_, rfl, by first | (refine vle_int ?_; rw [hno]; done) | exact VLe.rf | (refine vle_int ?_; rw [hno]; apply Eq.symm; assumption) | exact vle_int (by rw [hno])⟩, trivial⟩, ⟨⟨_, rfl, by first | (refine ble_eq ?_; rw [hno]; done) | (refine ble_eq ?_; rw [hno]; rfl) | exact BLe.rf⟩, ⟨_, rfl, by first | (refine BLe.arr ?_; rw [hno]; done) | (refine BLe.arr ?_; rw [hno]; rfl) | exact BLe.rf⟩, trivial⟩, trivial, rfl⟩⟩
  try simp only [tdy] at h28
  have hno := relAdd_ins hf h20 h28
  refine AW_condF rfl ?_
  refine AW_skip ?_
  refine AW_seq ?_
  refine AW_draw rfl ?_
  refine AL_p (x_field (off := 1) (o' := 1) rfl rfl rfl (by kernel_rfl) rfl) ?_
  refine AL_p (x_load1 rfl rfl rfl (by kernel_rfl) rfl) ?_
  refine AL_p (x_move rfl rfl) ?_
  refine AL_p (x_loadN (n := 1) rfl rfl rfl (by kernel_rfl) rfl rfl) ?_
  refine AL_p (x_call1 rfl rfl rfl (rowI_c row hw.1 105) rfl rfl rfl rfl) ?_
  refine AL_p (y_bslice (E := 42) (e := rowE) [.tmp 34] ([row]) 106 rfl rfl rfl rfl rfl rfl rfl rfl FitL.rf rfl rfl rfl rfl rfl rfl (by kernel_rfl)) ?_
  refine AL_p (x_call (ks := []) (L := [(103, some _), (106, some _)]) (L' := [(103, none), (106, none), (107, some _)]) rfl rfl rfl (AT.lend2 (insRow_t rfl (i := pos r.rows row) (zs := [row]) (pos_le _ _) (by simp) (by simp) (by omega)) 103 106 107 rfl rfl rfl (fun _ => rfl)) rfl AllV.rf (caught_of rfl) rfl rfl rfl ⟨rfl, rfl, trivial⟩ rfl) ?_
  refine AL_p (x_field (off := 1) (o' := 1) rfl rfl rfl (by kernel_rfl) rfl) ?_
  refine AL_p (x_store (n := 1) rfl rfl rfl rfl (by kernel_rfl) rfl rfl rfl) ?_
  refine AL_nild (by kernel_rfl) ?_
  refine AW_seq ?_
  refine AW_region ?_
  refine AL_p (x_loadN (n := 2) rfl rfl rfl (by kernel_rfl) rfl rfl) ?_
  refine AL_p (x_store (n := 2) rfl rfl rfl rfl (by kernel_rfl) rfl rfl rfl) ?_
  refine AL_p (x_assign rfl rfl) ?_
  refine AL_nil ?_
  refine AW_ret ?_
  exact ⟨rn [(9, 102), (0, 107)], ⟨⟨⟨_, rfl, VLe.rf⟩, ⟨_, rfl, by first | (refine vle_int ?_; rw [hno]; done) | exact VLe.rf | (refine vle_int ?_; rw [hno]; apply Eq.symm; assumption) | exact vle_int (by rw [hno])⟩, trivial⟩, ⟨⟨_, rfl, by first | (refine ble_eq ?_; rw [hno]; done) | (refine ble_eq ?_; rw [hno]; rfl) | exact BLe.rf⟩, ⟨_, rfl, by first | (refine BLe.arr ?_; rw [hno]; done) | (refine BLe.arr ?_; rw [hno]; rfl) | exact BLe.rf⟩, trivial⟩, trivial, rfl⟩⟩
theorem relAddI_c (r : Relt) (row : List Val) (hr : smallRel r) (hw : smallRow row) (k : Nat) : AC Try.prog 25 [.agg (relC r), .agg (rowC row)] [] (.tup [.agg [.c (.int .i64 (relAdd r row).1.arity), .own k], .one (.c (.int .i64 (relAdd r row).2))]) [(k, some (.arr 42 rowE (relAdd r row).1.rows true))] := AC.at (relAddI_c0 r row hr hw) k

set_option maxHeartbeats 4000000 in
theorem relAddS_c (r : Relt) (row : List Val) (hr : smallRel r) (hw : smallRow row) : AC Try.prog 26 [.agg (relC r), .agg (rowC row)] [] (.tup [.agg [.c (.int .i64 (relAdd r row).1.arity), .sl rowE (relAdd r row).1.rows], .one (.c (.int .i64 (relAdd r row).2))]) [] := by
  refine AC_bodyCT (n := 2) (k := 9) (T := [(4, .one (.ptr 9 0)), (5, .one (.c (.int .i64 (relAdd r row).2)))]) (Lf := ((9, some (.box [.c (.int .i64 (relAdd r row).1.arity), .sl rowE (relAdd r row).1.rows])) :: [])) Try.func26 rfl rfl Try.ntmps26 rfl Try.results26 rfl rfl rfl rfl (by kernel_rfl) rfl rfl ⟨trivial, (by repeat (first | exact trivial | refine ⟨⟨_, rfl, BLe.rf⟩, ?_⟩)), (by repeat (first | exact trivial | refine ⟨⟨rfl, by first | (left; intro h; cases h) | (right; rfl), by first | exact (fun _ h => ⟨_, h⟩) | exact (fun _ _ => ⟨_, rfl⟩)⟩, ?_⟩)), rfl⟩ ?_
  refine AW_aggmax 1 0 rfl rfl (fun hm1_0 => ?_)
  refine AW_seq ?_
  refine AW_region ?_
  refine AL_p (x_box 100 rfl rfl rfl rfl rfl rfl rfl) ?_
  refine AL_p (x_box 101 rfl rfl rfl rfl rfl rfl rfl) ?_
  refine AL_p (x_alloc (z := .agg #[.int .i64 0, .slice none 0 0]) 102 rfl (by kernel_rfl) rfl rfl rfl rfl) ?_
  refine AL_p (x_assign rfl rfl) ?_
  refine AL_nil ?_
  refine AW_seq ?_
  refine AW_seq ?_
  refine AW_region ?_
  refine AL_p (x_loadN (n := 2) rfl rfl rfl (by kernel_rfl) rfl rfl) ?_
  refine AL_b (x_call0 rfl rfl rfl (relOkS_c _ hr.1) rfl rfl) (fun b8 h8 => ?_)
  refine AL_p (x_not rfl rfl) ?_
  refine AL_p (x_move rfl rfl) ?_
  cases b8
  · try simp only [tdy] at h8
    have hno := relAdd_no (row := row) (fits_r h8)
    refine AL_o rfl rfl rfl rfl ?_
    refine AL_o rfl rfl rfl rfl ?_
    refine AL_o rfl rfl rfl rfl ?_
    refine AL_p (x_pickT rfl rfl rfl) ?_
    refine AL_p (x_move rfl rfl) ?_
    refine AL_o rfl rfl rfl rfl ?_
    refine AL_o rfl rfl rfl rfl ?_
    refine AL_o rfl rfl rfl rfl ?_
    refine AL_o rfl rfl rfl rfl ?_
    refine AL_o rfl rfl rfl rfl ?_
    refine AL_o rfl rfl rfl rfl ?_
    refine AL_p (x_pickT rfl rfl rfl) ?_
    refine AL_nil ?_
    refine AW_condT rfl ?_
    refine AW_seq ?_
    refine AW_region ?_
    refine AL_p (x_build (zs := [.int .i64 0, .slice none 0 0]) (places := [(0, 1), (1, 1)]) rfl (by kernel_rfl) rfl rfl rfl rfl rfl) ?_
    refine AL_p (x_store (n := 2) rfl rfl rfl rfl (by kernel_rfl) rfl rfl rfl) ?_
    refine AL_p (x_assign rfl rfl) ?_
    refine AL_nil ?_
    refine AW_ret ?_
    exact ⟨rn [(9, 102)], ⟨⟨⟨_, rfl, VLe.rf⟩, ⟨_, rfl, by first | (refine vle_int ?_; rw [hno]; done) | exact VLe.rf⟩, trivial⟩, ⟨⟨_, rfl, by first | (refine ble_eq ?_; rw [hno]; done) | (refine ble_eq ?_; rw [hno]; rfl) | (refine BLe.box ?_; rw [hno]; exact ⟨CLe.rf, CLe.nil, trivial⟩)⟩, trivial⟩, trivial, rfl⟩⟩
  try simp only [tdy] at h8
  refine AL_g rfl rfl (x_loadN (n := 1) rfl rfl rfl (by kernel_rfl) rfl rfl) ?_
  refine AL_gb rfl rfl (x_call0 rfl rfl rfl (rowOkS_c _) rfl rfl) (fun b12 h12 => ?_)
  refine AL_g rfl rfl (x_not rfl rfl) ?_
  refine AL_p (x_pickF rfl rfl rfl) ?_
  refine AL_p (x_move rfl rfl) ?_
  cases b12
  · try simp only [tdy] at h12
    have hno := relAdd_no (r := r) (fits_row h12)
    refine AL_o rfl rfl rfl rfl ?_
    refine AL_o rfl rfl rfl rfl ?_
    refine AL_o rfl rfl rfl rfl ?_
    refine AL_o rfl rfl rfl rfl ?_
    refine AL_o rfl rfl rfl rfl ?_
    refine AL_o rfl rfl rfl rfl ?_
    refine AL_p (x_pickT rfl rfl rfl) ?_
    refine AL_nil ?_
    refine AW_condT rfl ?_
    refine AW_seq ?_
    refine AW_region ?_
    refine AL_p (x_build (zs := [.int .i64 0, .slice none 0 0]) (places := [(0, 1), (1, 1)]) rfl (by kernel_rfl) rfl rfl rfl rfl rfl) ?_
    refine AL_p (x_store (n := 2) rfl rfl rfl rfl (by kernel_rfl) rfl rfl rfl) ?_
    refine AL_p (x_assign rfl rfl) ?_
    refine AL_nil ?_
    refine AW_ret ?_
    exact ⟨rn [(9, 102)], ⟨⟨⟨_, rfl, VLe.rf⟩, ⟨_, rfl, by first | (refine vle_int ?_; rw [hno]; done) | exact VLe.rf⟩, trivial⟩, ⟨⟨_, rfl, by first | (refine ble_eq ?_; rw [hno]; done) | (refine ble_eq ?_; rw [hno]; rfl) | (refine BLe.box ?_; rw [hno]; exact ⟨CLe.rf, CLe.nil, trivial⟩)⟩, trivial⟩, trivial, rfl⟩⟩
  try simp only [tdy] at h12
  refine AL_g rfl rfl (x_field (off := 0) (o' := 0) rfl rfl rfl (by kernel_rfl) rfl) ?_
  refine AL_g rfl rfl (x_load1 rfl rfl rfl (by kernel_rfl) rfl) ?_
  refine AL_g rfl rfl (x_len (E := 24) (n := 2) rfl rfl (by kernel_rfl)) ?_
  refine AL_g rfl rfl (x_field (off := 0) (o' := 0) rfl rfl rfl (by kernel_rfl) rfl) ?_
  refine AL_g rfl rfl (x_load1 rfl rfl rfl (by kernel_rfl) rfl) ?_
  refine AL_gb rfl rfl (x_neq rfl rfl rfl) (fun b21 h21 => ?_)
  refine AL_p (x_pickF rfl rfl rfl) ?_
  refine AL_nil ?_
  cases b21
  rotate_left
  · try simp only [tdy] at h21
    have hno := relAdd_no (fits_len h21)
    refine AW_condT rfl ?_
    refine AW_seq ?_
    refine AW_region ?_
    refine AL_p (x_build (zs := [.int .i64 0, .slice none 0 0]) (places := [(0, 1), (1, 1)]) rfl (by kernel_rfl) rfl rfl rfl rfl rfl) ?_
    refine AL_p (x_store (n := 2) rfl rfl rfl rfl (by kernel_rfl) rfl rfl rfl) ?_
    refine AL_p (x_assign rfl rfl) ?_
    refine AL_nil ?_
    refine AW_ret ?_
    exact ⟨rn [(9, 102)], ⟨⟨⟨_, rfl, VLe.rf⟩, ⟨_, rfl, by first | (refine vle_int ?_; rw [hno]; done) | exact VLe.rf⟩, trivial⟩, ⟨⟨_, rfl, by first | (refine ble_eq ?_; rw [hno]; done) | (refine ble_eq ?_; rw [hno]; rfl) | (refine BLe.box ?_; rw [hno]; exact ⟨CLe.rf, CLe.nil, trivial⟩)⟩, trivial⟩, trivial, rfl⟩⟩
  try simp only [tdy] at h21
  have hf := fits_ok h8 h12 h21
  obtain ⟨hs, hrv, h300⟩ := fits_sorted hf
  refine AW_condF rfl ?_
  refine AW_skip ?_
  refine AW_seq ?_
  refine AW_region ?_
  refine AL_p (x_loadN (n := 2) rfl rfl rfl (by kernel_rfl) rfl rfl) ?_
  refine AL_p (x_call1 rfl rfl rfl (copyS_c r hr 103) rfl rfl rfl rfl) ?_
  refine AL_p (x_alloc (z := .agg #[.int .i64 0, .slice none 0 0]) 104 rfl (by kernel_rfl) rfl rfl rfl rfl) ?_
  refine AL_p (x_store (n := 2) rfl rfl rfl rfl (by kernel_rfl) rfl rfl rfl) ?_
  refine AL_nil ?_
  refine AW_seq ?_
  refine AW_shutB 103 104 1 rfl rfl rfl rfl ?_
  refine AW_region ?_
  refine AL_p (x_field (off := 1) (o' := 1) rfl rfl rfl (by kernel_rfl) rfl) ?_
  refine AL_p (x_load1 rfl rfl rfl (by kernel_rfl) rfl) ?_
  refine AL_p (x_loadN (n := 1) rfl rfl rfl (by kernel_rfl) rfl rfl) ?_
  refine AL_p (x_call0 rfl rfl rfl (putS_c r.rows row (by omega) (fun x hx => (hr.2 x hx).1) hw.1 hs hrv) rfl rfl) ?_
  refine AL_p (x_field (off := 1) (o' := 1) rfl rfl rfl (by kernel_rfl) rfl) ?_
  refine AL_p (x_store (n := 1) rfl rfl rfl rfl (by kernel_rfl) rfl rfl rfl) ?_
  refine AL_nil ?_
  refine AW_seq ?_
  refine AW_seq ?_
  refine AW_region ?_
  refine AL_p (x_field (off := 1) (o' := 1) rfl rfl rfl (by kernel_rfl) rfl) ?_
  refine AL_p (x_load1 rfl rfl rfl (by kernel_rfl) rfl) ?_
  refine AL_p (x_len (E := 42) (n := 1) rfl rfl (by kernel_rfl)) ?_
  refine AL_b (x_gtr rfl rfl rfl) (fun b34 h34 => ?_)
  refine AL_nil ?_
  cases b34
  rotate_left
  · try simp only [tdy] at h34
    have hno := relAdd_big hf h34
    refine AW_condT rfl ?_
    refine AW_seq ?_
    refine AW_region ?_
    refine AL_p (x_build (zs := [.int .i64 0, .slice none 0 0]) (places := [(0, 1), (1, 1)]) rfl (by kernel_rfl) rfl rfl rfl rfl rfl) ?_
    refine AL_p (x_store (n := 2) rfl rfl rfl rfl (by kernel_rfl) rfl rfl rfl) ?_
    refine AL_p (x_assign rfl rfl) ?_
    refine AL_nil ?_
    refine AW_ret ?_
    exact ⟨rn [(9, 102)], ⟨⟨⟨_, rfl, VLe.rf⟩, ⟨_, rfl, by first | (refine vle_int ?_; rw [hno]; done) | exact VLe.rf⟩, trivial⟩, ⟨⟨_, rfl, by first | (refine ble_eq ?_; rw [hno]; done) | (refine ble_eq ?_; rw [hno]; rfl) | (refine BLe.box ?_; rw [hno]; exact ⟨CLe.rf, CLe.nil, trivial⟩)⟩, trivial⟩, trivial, rfl⟩⟩
  try simp only [tdy] at h34
  have hno := relAdd_ok hf (by omega)
  refine AW_condF rfl ?_
  refine AW_skip ?_
  refine AW_seq ?_
  refine AW_region ?_
  refine AL_p (x_loadN (n := 2) rfl rfl rfl (by kernel_rfl) rfl rfl) ?_
  refine AL_p (x_store (n := 2) rfl rfl rfl rfl (by kernel_rfl) rfl rfl rfl) ?_
  refine AL_p (x_assign rfl rfl) ?_
  refine AL_nil ?_
  refine AW_ret ?_
  exact ⟨rn [(9, 102)], ⟨⟨⟨_, rfl, VLe.rf⟩, ⟨_, rfl, by first | (refine vle_int ?_; rw [hno]; done) | exact VLe.rf⟩, trivial⟩, ⟨⟨_, rfl, by first | (refine ble_eq ?_; rw [hno]; done) | (refine ble_eq ?_; rw [hno]; rfl) | (refine BLe.box ?_; rw [hno]; exact ⟨CLe.rf, CLe.nil, trivial⟩)⟩, trivial⟩, trivial, rfl⟩⟩
end Go.Proofs.Ytddofobcekmbjaa

/- Variables whose rows are said in other words. -/
namespace Go.Proofs.Ytddofobcekmbjaa
open Go.RowKit
set_option linter.unusedVariables false
theorem boxRel {ar : Int} {x y : List (List Val)} {r : Nat → Nat} (h : x = y) : BLe (.box [.c (.int .i64 ar), .sl rowE x]) (Blk.ren r (.box [.c (.int .i64 ar), .sl rowE y])) := by subst h; exact BLe.rf
theorem boxNil' {n : Int} {x : List (List Val)} {r : Nat → Nat} (h : x = []) : BLe (.box [.c (.int .i64 n), .c (.slice none 0 0)]) (Blk.ren r (.box [.c (.int .i64 n), .sl rowE x])) := by
  subst h; exact BLe.box ⟨CLe.rf, CLe.nil, trivial⟩
theorem boxPair {a b : Int} {x y : List (List Val)} {r : Nat → Nat} (h : a = b) (h2 : x = y) : BLe (.box [.c (.int .i64 a), .sl rowE x]) (Blk.ren r (.box [.c (.int .i64 b), .sl rowE y])) := by subst h; subst h2; exact BLe.rf
end Go.Proofs.Ytddofobcekmbjaa

/- Rows joined (printed by walk.py) -/
namespace Go.Proofs.Ytddofobcekmbjaa
open Go.RowKit
set_option linter.unusedVariables false
set_option linter.unusedSimpArgs false
set_option maxRecDepth 100000

set_option maxHeartbeats 4000000 in
theorem concatRow_t {xss : List (List (List Val))} (hl : xss.flatten.length ≤ 2097152) (hn : xss.length ≤ 1048576) : AT Try.prog 72 [.one (.own 0)] [(0, some (.arr 33 (sliceE rowE) xss false))] (.one (.own 1)) [(1, some (.arr 42 rowE xss.flatten false))] := by
  refine AT_body1 Try.func72 rfl rfl Try.ntmps72 rfl Try.results72 ?_
  refine AW_seq ?_
  refine AW_region ?_
  refine AL_p (x_assign rfl rfl) ?_
  refine AL_nil ?_
  refine AW_seq ?_
  refine AW_region ?_
  refine AL_p (x_assign rfl rfl) ?_
  refine AL_nil ?_
  refine AW_seq ?_
  refine AW_seq ?_
  refine AW_region ?_
  refine AL_p (x_move rfl rfl) ?_
  refine AL_p (x_olen (E := 33) (n := 1) rfl rfl rfl (by kernel_rfl)) ?_
  refine AL_p (x_move rfl rfl) ?_
  refine AL_nil ?_
  refine AW_block ?_
  refine AW_loop2 (ι := {q : Nat // q ≤ xss.length}) (fun p => [(3, .one (.c (.int .i64 ((xss.take (p.1)).flatten.length : Int)))), (11, .one (.c (.int .i64 ((p.1) : Int))))]) (fun p => []) [0, 9, 10] [0] (fun p => xss.length - (p.1)) ⟨0, by omega⟩ (rn []) ?_ ?_
  exact ⟨by (repeat refine ⟨⟨_, rfl, by first | exact VLe.rf | exact vle_int (by dsimp only; omega)⟩, ?_⟩); exact trivial, by (repeat refine ⟨⟨_, rfl, by first | exact BLe.rf | exact BLe.box AllC.rf | exact BLe.arr (by exact rfl)⟩, ?_⟩); exact trivial, by repeat (first | exact trivial | refine ⟨⟨rfl, by first | (left; intro h; cases h) | (right; rfl), fun _ h => ⟨_, h⟩⟩, ?_⟩), rfl⟩
  rintro ⟨k, hinv⟩
  dsimp only
  have hf := flat_le (xss := xss) (k := k)
  refine AW_seq ?_
  refine AW_region ?_
  refine AL_b (x_lss rfl rfl rfl) (fun b12 h12 => ?_)
  refine AL_nil ?_
  refine AW_seq ?_
  cases b12
  rotate_left
  · try simp only [tdy] at h12
    refine AW_condT rfl ?_
    refine AW_skip ?_
    refine AW_seq ?_
    refine AW_block ?_
    refine AW_seq ?_
    refine AW_region ?_
    refine AL_p (x_oindex (n := 1) rfl rfl rfl rfl (by kernel_rfl) rfl (k := k) rfl (by omega)) ?_
    refine AL_p (x_oload1 rfl rfl rfl (by kernel_rfl) (by omega) rfl) ?_
    refine AL_p (x_assign rfl rfl) ?_
    refine AL_nil ?_
    refine AW_seq ?_
    refine AW_region ?_
    refine AL_p (x_move rfl rfl) ?_
    refine AL_p (x_move rfl rfl) ?_
    refine AL_p (x_len (E := 42) (n := 1) rfl rfl (by kernel_rfl)) ?_
    refine AL_p (x_add rfl rfl rfl (by have := flat_len1 (xss := xss) (k := k) (by omega); exact IntWalk.i64_in _ (by have := flat_le (xss := xss) (k := k + 1); omega))) ?_
    refine AL_p (x_assign rfl rfl) ?_
    refine AL_nil ?_
    refine AW_seq ?_
    refine AW_region ?_
    refine AL_p (x_move rfl rfl) ?_
    refine AL_b (x_lss rfl rfl rfl) (fun b20 h20 => ?_)
    refine AL_nil ?_
    cases b20
    rotate_left
    · exfalso; have := flat_len1 (xss := xss) (k := k) (by omega); simp at h20; omega
    try simp only [tdy] at h20
    have q4 := flat_len1 (xss := xss) (k := k) (by omega)
    refine AW_condF rfl ?_
    refine AW_skip ?_
    refine AW_region ?_
    refine AL_p (x_add rfl rfl rfl (IntWalk.i64_in _ (by omega))) ?_
    refine AL_p (x_move rfl rfl) ?_
    refine AL_nil ?_
    refine ⟨⟨k + 1, by omega⟩, rn [], ?_, by dsimp only; omega⟩
    exact ⟨by (repeat refine ⟨⟨_, rfl, by first | exact VLe.rf | exact vle_int (by dsimp only; omega)⟩, ?_⟩); exact trivial, by (repeat refine ⟨⟨_, rfl, by first | exact BLe.rf | exact BLe.box AllC.rf | exact BLe.arr (by exact rfl)⟩, ?_⟩); exact trivial, by repeat (first | exact trivial | refine ⟨⟨rfl, by first | (left; intro h; cases h) | (right; rfl), fun _ h => ⟨_, h⟩⟩, ?_⟩), rfl⟩
  try simp only [tdy] at h12
  have e0 : (xss.take k).flatten = xss.flatten := flat_all (by omega)
  rw [e0]
  refine AW_condF rfl ?_
  refine AW_exit (BQ_hit ?_)
  refine AW_seq ?_
  refine AW_region ?_
  refine AL_p (x_move rfl rfl) ?_
  refine AL_p (x_call1 rfl rfl rfl (growRow_c xss.flatten.length hl 100) rfl rfl rfl rfl) ?_
  refine AL_p (x_assign rfl rfl) ?_
  refine AL_nil ?_
  refine AW_seq ?_
  refine AW_seq ?_
  refine AW_region ?_
  refine AL_p (x_move rfl rfl) ?_
  refine AL_p (x_olen (E := 33) (n := 1) rfl rfl rfl (by kernel_rfl)) ?_
  refine AL_p (x_move rfl rfl) ?_
  refine AL_nil ?_
  refine AW_block ?_
  refine AW_shallow 100 rfl ?_
  refine AW_loop2 (ι := {q : Nat // q ≤ xss.length}) (fun p => [(6, .one (.own 100)), (27, .one (.c (.int .i64 ((p.1) : Int))))]) (fun p => [(100, some (.arr 42 rowE (xss.take (p.1)).flatten false))]) [25, 26] [0] (fun p => xss.length - (p.1)) ⟨0, by omega⟩ (rn []) ?_ ?_
  exact ⟨by (repeat refine ⟨⟨_, rfl, by first | exact VLe.rf | exact vle_int (by dsimp only; omega)⟩, ?_⟩); exact trivial, by (repeat refine ⟨⟨_, rfl, by first | exact BLe.rf | exact BLe.box AllC.rf | exact BLe.arr (by first | exact flat_zero | exact flat_more (by omega))⟩, ?_⟩); exact trivial, by repeat (first | exact trivial | refine ⟨⟨rfl, by first | (left; intro h; cases h) | (right; rfl), fun _ h => ⟨_, h⟩⟩, ?_⟩), rfl⟩
  rintro ⟨k, hinv⟩
  dsimp only
  refine AW_seq ?_
  refine AW_region ?_
  refine AL_b (x_lss rfl rfl rfl) (fun b28 h28 => ?_)
  refine AL_nil ?_
  refine AW_seq ?_
  cases b28
  · try simp only [tdy] at h28
    refine AW_condF rfl ?_
    refine AW_exit (BQ_hit ?_)
    refine AW_seq ?_
    refine AW_region ?_
    refine AL_p (x_move rfl rfl) ?_
    refine AL_p (x_assign rfl rfl) ?_
    refine AL_nil ?_
    refine AW_ret ?_
    exact ⟨rn [(1, 100)], ⟨⟨⟨_, rfl, VLe.rf⟩, trivial⟩, ⟨⟨_, rfl, BLe.arr (flat_all (by omega))⟩, trivial⟩, trivial, rfl⟩⟩
  try simp only [tdy] at h28
  refine AW_condT rfl ?_
  refine AW_skip ?_
  refine AW_seq ?_
  refine AW_block ?_
  refine AW_seq ?_
  refine AW_region ?_
  refine AL_p (x_oindex (n := 1) rfl rfl rfl rfl (by kernel_rfl) rfl (k := k) rfl (by omega)) ?_
  refine AL_p (x_oload1 rfl rfl rfl (by kernel_rfl) (by omega) rfl) ?_
  refine AL_p (x_assign rfl rfl) ?_
  refine AL_nil ?_
  refine AW_region ?_
  refine AL_p (x_move rfl rfl) ?_
  refine AL_p (x_move rfl rfl) ?_
  refine AL_p (y_append_sl 101 false (.inl rfl) rfl rfl rfl rfl rfl rfl (by kernel_rfl) (by have := flat_le (xss := xss) (k := k + 1); have := flat_len1 (xss := xss) (k := k) (by omega); omega)) ?_
  refine AL_p (x_assign rfl rfl) ?_
  refine AL_nil ?_
  refine AW_region ?_
  refine AL_p (x_add rfl rfl rfl (IntWalk.i64_in _ (by omega))) ?_
  refine AL_p (x_move rfl rfl) ?_
  refine AL_nil ?_
  refine ⟨⟨k + 1, by omega⟩, rn [(100, 101)], ?_, by dsimp only; omega⟩
  exact ⟨by (repeat refine ⟨⟨_, rfl, by first | exact VLe.rf | exact vle_int (by dsimp only; omega)⟩, ?_⟩); exact trivial, by (repeat refine ⟨⟨_, rfl, by first | exact BLe.rf | exact BLe.box AllC.rf | exact BLe.arr (by first | exact flat_zero | exact flat_more (by omega))⟩, ?_⟩); exact trivial, by repeat (first | exact trivial | refine ⟨⟨rfl, by first | (left; intro h; cases h) | (right; rfl), fun _ h => ⟨_, h⟩⟩, ?_⟩), rfl⟩

set_option maxHeartbeats 4000000 in
theorem relOfI_c0 (ar : Int) (rows : List (List Val)) (hv : ValsOk rows) (hs : smallRel ⟨ar, rows⟩) : AC Try.prog 47 [.one (.c (.int .i64 ar)), .one (.sl rowE rows)] [] (.tup [.agg [.c (.int .i64 (relOf ar rows).1.arity), .own 0], .one (.c (.bool (relOf ar rows).2))]) [(0, some (.arr 42 rowE (relOf ar rows).1.rows true))] := by
  refine AC_bodyCT (n := 2) (k := 9) (T := [(4, .one (.ptr 9 0)), (5, .one (.c (.bool (relOf ar rows).2)))]) (Lf := ((9, some (.box [.c (.int .i64 (relOf ar rows).1.arity), .own 0])) :: [(0, some (.arr 42 rowE (relOf ar rows).1.rows true))])) Try.func47 rfl rfl Try.ntmps47 rfl Try.results47 rfl rfl rfl rfl (by kernel_rfl) rfl rfl ⟨trivial, (by repeat (first | exact trivial | refine ⟨⟨_, rfl, BLe.rf⟩, ?_⟩)), (by repeat (first | exact trivial | refine ⟨⟨rfl, by first | (left; intro h; cases h) | (right; rfl), by first | exact (fun _ h => ⟨_, h⟩) | exact (fun _ _ => ⟨_, rfl⟩)⟩, ?_⟩)), rfl⟩ ?_
  refine AW_seq ?_
  refine AW_region ?_
  refine AL_p (x_alloc (z := .agg #[.int .i64 0, .slice none 0 0]) 100 rfl (by kernel_rfl) rfl rfl rfl rfl) ?_
  refine AL_p (x_assign rfl rfl) ?_
  refine AL_nil ?_
  refine AW_seq ?_
  refine AW_region ?_
  refine AL_p (x_move rfl rfl) ?_
  refine AL_p (x_move rfl rfl) ?_
  refine AL_p (x_build (zs := [.int .i64 0, .slice none 0 0]) (places := [(0, 1), (1, 1)]) rfl (by kernel_rfl) rfl rfl rfl rfl rfl) ?_
  refine AL_p (x_call1 rfl rfl rfl (copyI_c ⟨ar, rows⟩ hs 0) rfl rfl rfl rfl) ?_
  refine AL_p (x_alloc (z := .agg #[.int .i64 0, .slice none 0 0]) 101 rfl (by kernel_rfl) rfl rfl rfl rfl) ?_
  refine AL_p (x_store (n := 2) rfl rfl rfl rfl (by kernel_rfl) rfl rfl rfl) ?_
  refine AL_nil ?_
  refine AW_seq ?_
  refine AW_region ?_
  refine AL_p (x_field (off := 1) (o' := 1) rfl rfl rfl (by kernel_rfl) rfl) ?_
  refine AL_p (x_load1 rfl rfl rfl (by kernel_rfl) rfl) ?_
  refine AL_p (x_call (ks := []) (L := [(0, some _)]) (L' := [(0, some _)]) rfl rfl rfl (sortRow_c rows hv hs.1 true) rfl AllV.rf (caught_of rfl) rfl rfl rfl ⟨rfl, trivial⟩ rfl) ?_
  refine AL_nil ?_
  refine AW_seq ?_
  refine AW_region ?_
  refine AL_p (x_field (off := 1) (o' := 1) rfl rfl rfl (by kernel_rfl) rfl) ?_
  refine AL_p (x_load1 rfl rfl rfl (by kernel_rfl) rfl) ?_
  refine AL_p (x_call (ks := []) (L := [(0, some _)]) (L' := [(0, none), (102, some _)]) rfl rfl rfl (AT.lend1 (compact_t (ordRows rows) (by rw [ordRows_len hv]; exact hs.1) (ordRows_small hv fun r hr => (hs.2 r hr).1)) 0 102 rfl (fun _ => rfl)) rfl AllV.rf (caught_of rfl) rfl rfl rfl ⟨rfl, trivial⟩ rfl) ?_
  refine AL_p (x_field (off := 1) (o' := 1) rfl rfl rfl (by kernel_rfl) rfl) ?_
  refine AL_p (x_store (n := 1) rfl rfl rfl rfl (by kernel_rfl) rfl rfl rfl) ?_
  refine AL_nil ?_
  refine AW_seq ?_
  refine AW_seq ?_
  refine AW_region ?_
  refine AL_p (x_field (off := 1) (o' := 1) rfl rfl rfl (by kernel_rfl) rfl) ?_
  refine AL_p (x_load1 rfl rfl rfl (by kernel_rfl) rfl) ?_
  refine AL_p (x_olen (E := 42) (n := 1) rfl rfl rfl (by kernel_rfl)) ?_
  refine AL_b (x_gtr rfl rfl rfl) (fun b21 h21 => ?_)
  refine AL_nil ?_
  cases b21
  rotate_left
  · try simp only [tdy] at h21
    have hso := ordRows_uniq hv
    have hno := relOf_big (ar := ar) (rows := rows) (by rw [← hso]; omega)
    refine AW_condT rfl ?_
    refine AW_seq ?_
    refine AW_region ?_
    refine AL_p (x_build (zs := [.int .i64 0, .slice none 0 0]) (places := [(0, 1), (1, 1)]) rfl (by kernel_rfl) rfl rfl rfl rfl rfl) ?_
    refine AL_p (x_store (n := 2) rfl rfl rfl rfl (by kernel_rfl) rfl rfl rfl) ?_
    refine AL_p (x_assign rfl rfl) ?_
    refine AL_nil ?_
    refine AW_adopt (T := 42) (e := rowE) 103 100 1 rfl rfl rfl rfl rfl ?_
    refine AW_ret ?_
    exact ⟨rn [(9, 100), (0, 103)], ⟨⟨⟨_, rfl, VLe.rf⟩, ⟨_, rfl, by first | (refine vle_bool ?_; rw [hno]; done) | exact VLe.rf | (refine vle_bool ?_; rw [hno]; apply Eq.symm; assumption) | exact vle_bool (by rw [hno])⟩, trivial⟩, ⟨⟨_, rfl, by first | (refine ble_eq ?_; rw [hno]; done) | (refine ble_eq ?_; rw [hno]; rfl) | exact BLe.rf⟩, ⟨_, rfl, by first | (refine BLe.arr ?_; rw [hno]; done) | (refine BLe.arr ?_; rw [hno]; exact hso) | (refine BLe.arr ?_; rw [hno]; rfl) | exact BLe.rf⟩, trivial⟩, trivial, rfl⟩⟩
  try simp only [tdy] at h21
  have hso := ordRows_uniq hv
  have hno := relOf_ok (ar := ar) (rows := rows) (by rw [← hso]; omega)
  refine AW_condF rfl ?_
  refine AW_skip ?_
  refine AW_seq ?_
  refine AW_region ?_
  refine AL_p (x_loadN (n := 2) rfl rfl rfl (by kernel_rfl) rfl rfl) ?_
  refine AL_p (x_store (n := 2) rfl rfl rfl rfl (by kernel_rfl) rfl rfl rfl) ?_
  refine AL_p (x_assign rfl rfl) ?_
  refine AL_nil ?_
  refine AW_ret ?_
  exact ⟨rn [(9, 100), (0, 102)], ⟨⟨⟨_, rfl, VLe.rf⟩, ⟨_, rfl, by first | (refine vle_bool ?_; rw [hno]; done) | exact VLe.rf | (refine vle_bool ?_; rw [hno]; apply Eq.symm; assumption) | exact vle_bool (by rw [hno])⟩, trivial⟩, ⟨⟨_, rfl, by first | (refine ble_eq ?_; rw [hno]; done) | (refine ble_eq ?_; rw [hno]; rfl) | exact BLe.rf⟩, ⟨_, rfl, by first | (refine BLe.arr ?_; rw [hno]; done) | (refine BLe.arr ?_; rw [hno]; exact hso) | (refine BLe.arr ?_; rw [hno]; rfl) | exact BLe.rf⟩, trivial⟩, trivial, rfl⟩⟩
theorem relOfI_c (ar : Int) (rows : List (List Val)) (hv : ValsOk rows) (hs : smallRel ⟨ar, rows⟩) (k : Nat) : AC Try.prog 47 [.one (.c (.int .i64 ar)), .one (.sl rowE rows)] [] (.tup [.agg [.c (.int .i64 (relOf ar rows).1.arity), .own k], .one (.c (.bool (relOf ar rows).2))]) [(k, some (.arr 42 rowE (relOf ar rows).1.rows true))] := AC.at (relOfI_c0 ar rows hv hs) k

theorem union_vals {a b : Relt} (h : two a b = true) : ValsOk [a.rows, b.rows].flatten := fun r hr => by
  simp only [List.flatten_cons, List.flatten_nil, List.append_nil, List.mem_append] at hr
  exact hr.elim (two_vals h r) (two_valsB h r)
theorem union_lens {a b : Relt} (h : two a b = true) : a.rows.length ≤ 300 ∧ b.rows.length ≤ 300 := ⟨(relOk_parts (two_left h)).2.2.2, (relOk_parts (two_right h)).2.2.2⟩
theorem union_small {a b : Relt} (ha : smallRel a) (hb : smallRel b) (h : two a b = true) : smallRel ⟨a.arity, [a.rows, b.rows].flatten⟩ := by
  have := union_lens h
  refine ⟨by simp only [List.flatten_cons, List.flatten_nil, List.append_nil, List.length_append]; omega, fun r hr => ?_⟩
  simp only [List.flatten_cons, List.flatten_nil, List.append_nil, List.mem_append] at hr
  exact hr.elim (ha.2 r) (hb.2 r)
theorem union_len {a b : Relt} (ha : smallRel a) (hb : smallRel b) : [a.rows, b.rows].flatten.length ≤ 2097152 := by
  have := ha.1
  have := hb.1
  simp only [List.flatten_cons, List.flatten_nil, List.append_nil, List.length_append]; omega
theorem union_flat {a b : Relt} (h : two a b = true) : relUnion a b = relOf a.arity [a.rows, b.rows].flatten := by
  rw [relUnion_ok h]; simp
theorem union_le {a b : Relt} (h : two a b = true) (k : Nat) : ((b.rows.take k).foldl putRow a.rows).length ≤ 1048575 := by
  have := (puts_len (rows := b.rows.take k) (acc := a.rows)).2
  have := union_lens h
  simp only [List.length_take] at *; omega
theorem union_mem {a b : Relt} (ha : smallRel a) (hb : smallRel b) (k : Nat) : ∀ r ∈ (b.rows.take k).foldl putRow a.rows, r.length ≤ 1048576 := fun r hr => by
  rcases puts_mem.1 hr with h | h
  · exact (ha.2 r h).1
  · exact (hb.2 r (List.mem_of_mem_take h)).1
theorem union_sorted {a b : Relt} (h : two a b = true) (k : Nat) : Sorted ((b.rows.take k).foldl putRow a.rows) := puts_sorted (relOk_sorted (two_left h)) fun r hr => two_valsB h r (List.mem_of_mem_take hr)

set_option maxHeartbeats 4000000 in
theorem unionalike_c (a b : Relt) (ha : smallRel a) (hb : smallRel b) : AC Try.prog 60 [.agg (relC a), .agg (relC b)] [] (.one (.c (.bool (two a b)))) [] := by
  refine AC_body1 Try.func60 rfl rfl Try.ntmps60 rfl Try.results60 ?_
  refine AW_seq ?_
  refine AW_region ?_
  refine AL_p (x_box 100 rfl rfl rfl rfl rfl rfl rfl) ?_
  refine AL_p (x_box 101 rfl rfl rfl rfl rfl rfl rfl) ?_
  refine AL_p (x_assign rfl rfl) ?_
  refine AL_nil ?_
  refine AW_seq ?_
  refine AW_region ?_
  refine AL_p (x_loadN (n := 2) rfl rfl rfl (by kernel_rfl) rfl rfl) ?_
  refine AL_b (x_call0 rfl rfl rfl (relOkI_c _ (by first | exact ha.1 | exact hb.1)) rfl rfl) (fun b6 h6 => ?_)
  refine AL_p (x_move rfl rfl) ?_
  cases b6
  · try simp only [tdy] at h6
    refine AL_o rfl rfl rfl rfl ?_
    refine AL_o rfl rfl rfl rfl ?_
    refine AL_p (x_pickF rfl rfl rfl) ?_
    refine AL_p (x_move rfl rfl) ?_
    refine AL_o rfl rfl rfl rfl ?_
    refine AL_o rfl rfl rfl rfl ?_
    refine AL_o rfl rfl rfl rfl ?_
    refine AL_o rfl rfl rfl rfl ?_
    refine AL_o rfl rfl rfl rfl ?_
    refine AL_p (x_pickF rfl rfl rfl) ?_
    refine AL_p (x_assign rfl rfl) ?_
    refine AL_nil ?_
    refine AW_ret ?_
    exact ⟨rn [], ⟨⟨⟨_, rfl, vle_bool (by first | exact (two_a h6).symm | exact (two_b h9).symm | ((rw [two_ok h6 h9]; simp [h16])) | ((simp [two, *])))⟩, trivial⟩, trivial, trivial, rfl⟩⟩
  try simp only [tdy] at h6
  refine AL_g rfl rfl (x_loadN (n := 2) rfl rfl rfl (by kernel_rfl) rfl rfl) ?_
  refine AL_gb rfl rfl (x_call0 rfl rfl rfl (relOkI_c _ (by first | exact ha.1 | exact hb.1)) rfl rfl) (fun b9 h9 => ?_)
  refine AL_p (x_pickT rfl rfl rfl) ?_
  refine AL_p (x_move rfl rfl) ?_
  cases b9
  · try simp only [tdy] at h9
    refine AL_o rfl rfl rfl rfl ?_
    refine AL_o rfl rfl rfl rfl ?_
    refine AL_o rfl rfl rfl rfl ?_
    refine AL_o rfl rfl rfl rfl ?_
    refine AL_o rfl rfl rfl rfl ?_
    refine AL_p (x_pickF rfl rfl rfl) ?_
    refine AL_p (x_assign rfl rfl) ?_
    refine AL_nil ?_
    refine AW_ret ?_
    exact ⟨rn [], ⟨⟨⟨_, rfl, vle_bool (by first | exact (two_a h6).symm | exact (two_b h9).symm | ((rw [two_ok h6 h9]; simp [h16])) | ((simp [two, *])))⟩, trivial⟩, trivial, trivial, rfl⟩⟩
  try simp only [tdy] at h9
  refine AL_g rfl rfl (x_field (off := 0) (o' := 0) rfl rfl rfl (by kernel_rfl) rfl) ?_
  refine AL_g rfl rfl (x_load1 rfl rfl rfl (by kernel_rfl) rfl) ?_
  refine AL_g rfl rfl (x_field (off := 0) (o' := 0) rfl rfl rfl (by kernel_rfl) rfl) ?_
  refine AL_g rfl rfl (x_load1 rfl rfl rfl (by kernel_rfl) rfl) ?_
  refine AL_gb rfl rfl (x_eql rfl rfl rfl) (fun b16 h16 => ?_)
  refine AL_p (x_pickT rfl rfl rfl) ?_
  refine AL_p (x_assign rfl rfl) ?_
  refine AL_nil ?_
  refine AW_ret ?_
  cases b16
  rotate_left
  · try simp only [tdy] at h16
    exact ⟨rn [], ⟨⟨⟨_, rfl, vle_bool (by first | exact (two_a h6).symm | exact (two_b h9).symm | ((rw [two_ok h6 h9]; simp [h16])) | ((simp [two, *])))⟩, trivial⟩, trivial, trivial, rfl⟩⟩
  try simp only [tdy] at h16
  exact ⟨rn [], ⟨⟨⟨_, rfl, vle_bool (by first | exact (two_a h6).symm | exact (two_b h9).symm | ((rw [two_ok h6 h9]; simp [h16])) | ((simp [two, *])))⟩, trivial⟩, trivial, trivial, rfl⟩⟩

set_option maxHeartbeats 4000000 in
theorem relUnionI_c0 (a b : Relt) (ha : smallRel a) (hb : smallRel b) : AC Try.prog 29 [.agg (relC a), .agg (relC b)] [] (.tup [.agg [.c (.int .i64 (relUnion a b).1.arity), .own 0], .one (.c (.bool (relUnion a b).2))]) [(0, some (.arr 42 rowE (relUnion a b).1.rows true))] := by
  refine AC_bodyCT (n := 2) (k := 9) (T := [(4, .one (.ptr 9 0)), (5, .one (.c (.bool (relUnion a b).2)))]) (Lf := ((9, some (.box [.c (.int .i64 (relUnion a b).1.arity), .own 0])) :: [(0, some (.arr 42 rowE (relUnion a b).1.rows true))])) Try.func29 rfl rfl Try.ntmps29 rfl Try.results29 rfl rfl rfl rfl (by kernel_rfl) rfl rfl ⟨trivial, (by repeat (first | exact trivial | refine ⟨⟨_, rfl, BLe.rf⟩, ?_⟩)), (by repeat (first | exact trivial | refine ⟨⟨rfl, by first | (left; intro h; cases h) | (right; rfl), by first | exact (fun _ h => ⟨_, h⟩) | exact (fun _ _ => ⟨_, rfl⟩)⟩, ?_⟩)), rfl⟩ ?_
  refine AW_seq ?_
  refine AW_region ?_
  refine AL_p (x_box 100 rfl rfl rfl rfl rfl rfl rfl) ?_
  refine AL_p (x_box 101 rfl rfl rfl rfl rfl rfl rfl) ?_
  refine AL_p (x_alloc (z := .agg #[.int .i64 0, .slice none 0 0]) 102 rfl (by kernel_rfl) rfl rfl rfl rfl) ?_
  refine AL_p (x_assign rfl rfl) ?_
  refine AL_nil ?_
  refine AW_seq ?_
  refine AW_seq ?_
  refine AW_region ?_
  refine AL_p (x_loadN (n := 2) rfl rfl rfl (by kernel_rfl) rfl rfl) ?_
  refine AL_p (x_loadN (n := 2) rfl rfl rfl (by kernel_rfl) rfl rfl) ?_
  refine AL_b (x_call0 rfl rfl rfl (unionalike_c _ _ ha hb) rfl rfl) (fun b8 h8 => ?_)
  refine AL_p (x_not rfl rfl) ?_
  refine AL_nil ?_
  cases b8
  · try simp only [tdy] at h8
    have hno := relUnion_no h8
    refine AW_condT rfl ?_
    refine AW_seq ?_
    refine AW_region ?_
    refine AL_p (x_build (zs := [.int .i64 0, .slice none 0 0]) (places := [(0, 1), (1, 1)]) rfl (by kernel_rfl) rfl rfl rfl rfl rfl) ?_
    refine AL_p (x_store (n := 2) rfl rfl rfl rfl (by kernel_rfl) rfl rfl rfl) ?_
    refine AL_p (x_assign rfl rfl) ?_
    refine AL_nil ?_
    refine AW_adopt (T := 42) (e := rowE) 106 102 1 rfl rfl rfl rfl rfl ?_
    refine AW_ret ?_
    exact ⟨rn [(9, 102), (0, 106)], ⟨⟨⟨_, rfl, VLe.rf⟩, ⟨_, rfl, by first | (refine vle_bool ?_; rw [hno]; done) | exact VLe.rf | (refine vle_bool ?_; rw [hno]; apply Eq.symm; assumption) | exact vle_bool (by rw [hno])⟩, trivial⟩, ⟨⟨_, rfl, by first | (refine ble_eq ?_; rw [hno]; done) | (refine ble_eq ?_; rw [hno]; rfl) | exact BLe.rf⟩, ⟨_, rfl, by first | (refine BLe.arr ?_; rw [hno]; done) | (refine BLe.arr ?_; rw [hno]; rfl) | exact BLe.rf⟩, trivial⟩, trivial, rfl⟩⟩
  try simp only [tdy] at h8
  have hno := union_flat h8
  refine AW_condF rfl ?_
  refine AW_skip ?_
  refine AW_seq ?_
  refine AW_draw rfl ?_
  refine AL_p (x_field (off := 0) (o' := 0) rfl rfl rfl (by kernel_rfl) rfl) ?_
  refine AL_p (x_load1 rfl rfl rfl (by kernel_rfl) rfl) ?_
  refine AL_p (x_field (off := 1) (o' := 1) rfl rfl rfl (by kernel_rfl) rfl) ?_
  refine AL_p (x_load1 rfl rfl rfl (by kernel_rfl) rfl) ?_
  refine AL_p (x_field (off := 1) (o' := 1) rfl rfl rfl (by kernel_rfl) rfl) ?_
  refine AL_p (x_load1 rfl rfl rfl (by kernel_rfl) rfl) ?_
  refine AL_p (y_bslice (E := 33) (e := (sliceE rowE)) [.tmp 14, .tmp 16] ([a.rows, b.rows]) 103 rfl rfl rfl rfl rfl rfl rfl rfl FitL.rf rfl rfl rfl rfl rfl rfl (by kernel_rfl)) ?_
  refine AL_p (x_call (ks := []) (L := [(103, some _)]) (L' := [(103, none), (104, some _)]) rfl rfl rfl (AT.lend1 (concatRow_t (xss := [a.rows, b.rows]) (union_len ha hb) (by simp)) 103 104 rfl (fun _ => rfl)) rfl AllV.rf (caught_of rfl) rfl rfl rfl ⟨rfl, trivial⟩ rfl) ?_
  refine AL_p (x_callR rfl rfl rfl (relOfI_c a.arity [a.rows, b.rows].flatten (union_vals h8) (union_small ha hb h8) 105) rfl AllV.rf rfl rfl rfl rfl rfl) ?_
  refine AL_p (x_extract rfl rfl rfl) ?_
  refine AL_p (x_extract rfl rfl rfl) ?_
  refine AL_p (x_store (n := 2) rfl rfl rfl rfl (by kernel_rfl) rfl rfl rfl) ?_
  refine AL_p (x_assign rfl rfl) ?_
  refine AL_nild (by kernel_rfl) ?_
  refine AW_ret ?_
  exact ⟨rn [(9, 102), (0, 105)], ⟨⟨⟨_, rfl, VLe.rf⟩, ⟨_, rfl, by first | (refine vle_bool ?_; rw [hno]; done) | exact VLe.rf | (refine vle_bool ?_; rw [hno]; apply Eq.symm; assumption) | exact vle_bool (by rw [hno])⟩, trivial⟩, ⟨⟨_, rfl, by first | (refine ble_eq ?_; rw [hno]; done) | (refine ble_eq ?_; rw [hno]; rfl) | exact BLe.rf⟩, ⟨_, rfl, by first | (refine BLe.arr ?_; rw [hno]; done) | (refine BLe.arr ?_; rw [hno]; rfl) | exact BLe.rf⟩, trivial⟩, trivial, rfl⟩⟩
theorem relUnionI_c (a b : Relt) (ha : smallRel a) (hb : smallRel b) (k : Nat) : AC Try.prog 29 [.agg (relC a), .agg (relC b)] [] (.tup [.agg [.c (.int .i64 (relUnion a b).1.arity), .own k], .one (.c (.bool (relUnion a b).2))]) [(k, some (.arr 42 rowE (relUnion a b).1.rows true))] := AC.at (relUnionI_c0 a b ha hb) k

set_option maxHeartbeats 4000000 in
theorem relUnionS_c (a b : Relt) (ha : smallRel a) (hb : smallRel b) : AC Try.prog 30 [.agg (relC a), .agg (relC b)] [] (.tup [.agg [.c (.int .i64 (relUnion a b).1.arity), .sl rowE (relUnion a b).1.rows], .one (.c (.bool (relUnion a b).2))]) [] := by
  refine AC_bodyCT (n := 2) (k := 9) (T := [(4, .one (.ptr 9 0)), (5, .one (.c (.bool (relUnion a b).2)))]) (Lf := ((9, some (.box [.c (.int .i64 (relUnion a b).1.arity), .sl rowE (relUnion a b).1.rows])) :: [])) Try.func30 rfl rfl Try.ntmps30 rfl Try.results30 rfl rfl rfl rfl (by kernel_rfl) rfl rfl ⟨trivial, (by repeat (first | exact trivial | refine ⟨⟨_, rfl, BLe.rf⟩, ?_⟩)), (by repeat (first | exact trivial | refine ⟨⟨rfl, by first | (left; intro h; cases h) | (right; rfl), by first | exact (fun _ h => ⟨_, h⟩) | exact (fun _ _ => ⟨_, rfl⟩)⟩, ?_⟩)), rfl⟩ ?_
  refine AW_seq ?_
  refine AW_region ?_
  refine AL_p (x_box 100 rfl rfl rfl rfl rfl rfl rfl) ?_
  refine AL_p (x_box 101 rfl rfl rfl rfl rfl rfl rfl) ?_
  refine AL_p (x_alloc (z := .agg #[.int .i64 0, .slice none 0 0]) 102 rfl (by kernel_rfl) rfl rfl rfl rfl) ?_
  refine AL_p (x_assign rfl rfl) ?_
  refine AL_nil ?_
  refine AW_seq ?_
  refine AW_seq ?_
  refine AW_region ?_
  refine AL_p (x_loadN (n := 2) rfl rfl rfl (by kernel_rfl) rfl rfl) ?_
  refine AL_p (x_loadN (n := 2) rfl rfl rfl (by kernel_rfl) rfl rfl) ?_
  refine AL_b (x_call0 rfl rfl rfl (twoS_c _ _ ha hb) rfl rfl) (fun b10 h10 => ?_)
  refine AL_p (x_not rfl rfl) ?_
  refine AL_nil ?_
  cases b10
  · try simp only [tdy] at h10
    have hno := relUnion_no h10
    refine AW_condT rfl ?_
    refine AW_seq ?_
    refine AW_region ?_
    refine AL_p (x_build (zs := [.int .i64 0, .slice none 0 0]) (places := [(0, 1), (1, 1)]) rfl (by kernel_rfl) rfl rfl rfl rfl rfl) ?_
    refine AL_p (x_store (n := 2) rfl rfl rfl rfl (by kernel_rfl) rfl rfl rfl) ?_
    refine AL_p (x_assign rfl rfl) ?_
    refine AL_nil ?_
    refine AW_ret ?_
    first | exact ⟨rn [(9, 102)], ⟨⟨⟨_, rfl, VLe.rf⟩, ⟨_, rfl, by refine vle_bool ?_; rw [hno]⟩, trivial⟩, ⟨⟨_, rfl, by refine ble_eq ?_; rw [hno, hu]; rfl⟩, trivial⟩, trivial, rfl⟩⟩ | exact ⟨rn [(9, 102)], ⟨⟨⟨_, rfl, VLe.rf⟩, ⟨_, rfl, by refine vle_bool ?_; rw [hno]⟩, trivial⟩, ⟨⟨_, rfl, by refine BLe.box ?_; rw [hno]; exact ⟨CLe.rf, CLe.nil, trivial⟩⟩, trivial⟩, trivial, rfl⟩⟩
  try simp only [tdy] at h10
  refine AW_condF rfl ?_
  refine AW_skip ?_
  refine AW_seq ?_
  refine AW_region ?_
  refine AL_p (x_loadN (n := 2) rfl rfl rfl (by kernel_rfl) rfl rfl) ?_
  refine AL_p (x_call1 rfl rfl rfl (copyS_c a ha 103) rfl rfl rfl rfl) ?_
  refine AL_p (x_alloc (z := .agg #[.int .i64 0, .slice none 0 0]) 200 rfl (by kernel_rfl) rfl rfl rfl rfl) ?_
  refine AL_p (x_store (n := 2) rfl rfl rfl rfl (by kernel_rfl) rfl rfl rfl) ?_
  refine AL_nil ?_
  refine AW_seq ?_
  refine AW_seq ?_
  refine AW_region ?_
  refine AL_p (x_field (off := 1) (o' := 1) rfl rfl rfl (by kernel_rfl) rfl) ?_
  refine AL_p (x_load1 rfl rfl rfl (by kernel_rfl) rfl) ?_
  refine AL_p (x_len (E := 42) (n := 1) rfl rfl (by kernel_rfl)) ?_
  refine AL_p (x_move rfl rfl) ?_
  refine AL_nil ?_
  refine AW_block ?_
  refine AW_shutB 103 200 1 rfl rfl rfl rfl ?_
  refine AW_loop2 (ι := {q : Nat // q ≤ b.rows.length}) (fun p => [(18, .one (.c (.int .i64 ((p.1) : Int))))]) (fun p => [(200, some (.box [.c (.int .i64 a.arity), .sl rowE ((b.rows.take (p.1)).foldl putRow a.rows)]))]) [3, 4, 6, 17] [100, 101, 102] (fun p => b.rows.length - (p.1)) ⟨0, by omega⟩ (rn []) ?_ ?_
  exact ⟨by (repeat refine ⟨⟨_, rfl, by first | with_reducible exact VLe.rf | exact VLe.rf | exact vle_int (by dsimp only; omega)⟩, ?_⟩); exact trivial, by (repeat refine ⟨⟨_, rfl, by first | with_reducible exact BLe.rf | with_reducible exact BLe.rf | with_reducible exact boxRel (union_more (by omega)) | (refine BLe.arr ?_; exact rfl) | exact BLe.rf | exact BLe.box AllC.rf⟩, ?_⟩); exact trivial, by repeat (first | exact trivial | refine ⟨⟨rfl, by first | (left; intro h; cases h) | (right; rfl), fun _ h => ⟨_, h⟩⟩, ?_⟩), rfl⟩
  rintro ⟨k, hinv⟩
  dsimp only
  have hl := hb.1
  refine AW_seq ?_
  refine AW_region ?_
  refine AL_b (x_lss rfl rfl rfl) (fun b19 h19 => ?_)
  refine AL_nil ?_
  refine AW_seq ?_
  cases b19
  rotate_left
  · try simp only [tdy] at h19
    refine AW_condT rfl ?_
    refine AW_skip ?_
    refine AW_seq ?_
    refine AW_block ?_
    refine AW_seq ?_
    refine AW_region ?_
    refine AL_p (x_move rfl rfl) ?_
    refine AL_p (x_assign rfl rfl) ?_
    refine AL_nil ?_
    refine AW_draw rfl ?_
    refine AL_p (x_field (off := 1) (o' := 1) rfl rfl rfl (by kernel_rfl) rfl) ?_
    refine AL_p (x_load1 rfl rfl rfl (by kernel_rfl) rfl) ?_
    refine AL_p (x_field (off := 1) (o' := 1) rfl rfl rfl (by kernel_rfl) rfl) ?_
    refine AL_p (x_load1 rfl rfl rfl (by kernel_rfl) rfl) ?_
    refine AL_p (x_move rfl rfl) ?_
    refine AL_p (x_index (E := 42) (n := 1) rfl rfl rfl (by kernel_rfl) rfl (k := k) (by omega) (by omega)) ?_
    refine AL_p (x_eloadW (n := 1) rfl rfl (by kernel_rfl) rfl) ?_
    refine AL_p (x_call0 rfl rfl rfl (putS_c ((b.rows.take k).foldl putRow a.rows) (b.rows[k]'(by omega)) (union_le h10 k) (union_mem ha hb k) (hb.2 _ (List.getElem_mem _)).1 (union_sorted h10 k) (two_valsB h10 _ (List.getElem_mem _))) rfl rfl) ?_
    refine AL_p (x_field (off := 1) (o' := 1) rfl rfl rfl (by kernel_rfl) rfl) ?_
    refine AL_p (x_store (n := 1) rfl rfl rfl rfl (by kernel_rfl) rfl rfl rfl) ?_
    refine AL_nild (by kernel_rfl) ?_
    refine AW_region ?_
    refine AL_p (x_add rfl rfl rfl (IntWalk.i64_in _ (by omega))) ?_
    refine AL_p (x_move rfl rfl) ?_
    refine AL_nil ?_
    refine ⟨⟨k + 1, by omega⟩, rn [], ?_, by dsimp only; omega⟩
    exact ⟨by (repeat refine ⟨⟨_, rfl, by first | with_reducible exact VLe.rf | exact VLe.rf | exact vle_int (by dsimp only; omega)⟩, ?_⟩); exact trivial, by (repeat refine ⟨⟨_, rfl, by first | with_reducible exact BLe.rf | with_reducible exact BLe.rf | with_reducible exact boxRel (union_more (by omega)) | (refine BLe.arr ?_; exact rfl) | exact BLe.rf | exact BLe.box AllC.rf⟩, ?_⟩); exact trivial, by repeat (first | exact trivial | refine ⟨⟨rfl, by first | (left; intro h; cases h) | (right; rfl), fun _ h => ⟨_, h⟩⟩, ?_⟩), rfl⟩
  try simp only [tdy] at h19
  refine AW_condF rfl ?_
  refine AW_exit (BQ_hit ?_)
  refine AW_seq ?_
  refine AW_seq ?_
  refine AW_region ?_
  refine AL_p (x_field (off := 1) (o' := 1) rfl rfl rfl (by kernel_rfl) rfl) ?_
  refine AL_p (x_load1 rfl rfl rfl (by kernel_rfl) rfl) ?_
  refine AL_p (x_len (E := 42) (n := 1) rfl rfl (by kernel_rfl)) ?_
  refine AL_b (x_gtr rfl rfl rfl) (fun b34 h34 => ?_)
  refine AL_nil ?_
  cases b34
  rotate_left
  · try simp only [tdy] at h34
    have hu := union_all (k := k) h10 (by omega)
    have hno := (relUnion_ok h10).trans (relOf_big (by rw [← hu]; omega))
    refine AW_condT rfl ?_
    refine AW_seq ?_
    refine AW_region ?_
    refine AL_p (x_build (zs := [.int .i64 0, .slice none 0 0]) (places := [(0, 1), (1, 1)]) rfl (by kernel_rfl) rfl rfl rfl rfl rfl) ?_
    refine AL_p (x_store (n := 2) rfl rfl rfl rfl (by kernel_rfl) rfl rfl rfl) ?_
    refine AL_p (x_assign rfl rfl) ?_
    refine AL_nil ?_
    refine AW_ret ?_
    first | exact ⟨rn [(9, 102)], ⟨⟨⟨_, rfl, VLe.rf⟩, ⟨_, rfl, by refine vle_bool ?_; rw [hno]⟩, trivial⟩, ⟨⟨_, rfl, by refine ble_eq ?_; rw [hno, hu]; rfl⟩, trivial⟩, trivial, rfl⟩⟩ | exact ⟨rn [(9, 102)], ⟨⟨⟨_, rfl, VLe.rf⟩, ⟨_, rfl, by refine vle_bool ?_; rw [hno]⟩, trivial⟩, ⟨⟨_, rfl, by refine BLe.box ?_; rw [hno]; exact ⟨CLe.rf, CLe.nil, trivial⟩⟩, trivial⟩, trivial, rfl⟩⟩
  try simp only [tdy] at h34
  have hu := union_all (k := k) h10 (by omega)
  have hno := (relUnion_ok h10).trans (relOf_ok (by rw [← hu]; omega))
  refine AW_condF rfl ?_
  refine AW_skip ?_
  refine AW_seq ?_
  refine AW_region ?_
  refine AL_p (x_loadN (n := 2) rfl rfl rfl (by kernel_rfl) rfl rfl) ?_
  refine AL_p (x_store (n := 2) rfl rfl rfl rfl (by kernel_rfl) rfl rfl rfl) ?_
  refine AL_p (x_assign rfl rfl) ?_
  refine AL_nil ?_
  refine AW_ret ?_
  first | exact ⟨rn [(9, 102)], ⟨⟨⟨_, rfl, VLe.rf⟩, ⟨_, rfl, by refine vle_bool ?_; rw [hno]⟩, trivial⟩, ⟨⟨_, rfl, by refine ble_eq ?_; rw [hno, hu]; rfl⟩, trivial⟩, trivial, rfl⟩⟩ | exact ⟨rn [(9, 102)], ⟨⟨⟨_, rfl, VLe.rf⟩, ⟨_, rfl, by refine vle_bool ?_; rw [hno]⟩, trivial⟩, ⟨⟨_, rfl, by refine BLe.box ?_; rw [hno]; exact ⟨CLe.rf, CLe.nil, trivial⟩⟩, trivial⟩, trivial, rfl⟩⟩
end Go.Proofs.Ytddofobcekmbjaa

/- RelJoin in plain words. -/
namespace Go.Proofs.Ytddofobcekmbjaa
open Go.RowKit
set_option linter.unusedVariables false

def joinOne (m : Nat) (x y : List Val) : Bool := sameRow (x.drop (x.length - m)) (y.take m)
def joinRow (m : Nat) (x y : List Val) : List Val := x ++ y.drop m
def joinPart (m : Nat) (x : List Val) (ys : List (List Val)) : List (List Val) := (ys.filter (joinOne m x)).map (joinRow m x)
def joinFront (a b : Relt) (m k : Nat) : List (List Val) := (a.rows.take k).flatMap fun x => joinPart m x b.rows
def joinTo (a b : Relt) (m k j : Nat) : List (List Val) := joinFront a b m k ++ joinPart m (a.rows.getD k []) (b.rows.take j)
def joinRows (a b : Relt) (m : Nat) : List (List Val) := a.rows.flatMap fun x => joinPart m x b.rows
def joinFits (a b : Relt) (n : Int) : Bool := decide (0 ≤ n ∧ n ≤ a.arity ∧ n ≤ b.arity ∧ a.arity + b.arity - n ≤ 6)
def joinOk (a b : Relt) (n : Int) : Bool := relOk a && (relOk b && joinFits a b n)
def relJoin (a b : Relt) (n : Int) : Relt × Bool := if joinOk a b n = true then relOf (a.arity + b.arity - n) (joinRows a b n.toNat) else (⟨0, []⟩, false)
theorem relJoin_a {a b : Relt} {n : Int} (h : relOk a = false) : relJoin a b n = (⟨0, []⟩, false) := if_neg (by simp [joinOk, h])
theorem relJoin_b {a b : Relt} {n : Int} (h : relOk b = false) : relJoin a b n = (⟨0, []⟩, false) := if_neg (by simp [joinOk, h])
theorem relJoin_no {a b : Relt} {n : Int} (h : n < 0 ∨ a.arity < n ∨ b.arity < n ∨ 6 < a.arity + b.arity - n) : relJoin a b n = (⟨0, []⟩, false) := if_neg (by
  have : joinFits a b n = false := decide_eq_false (by omega)
  simp [joinOk, this])
theorem relJoin_ok {a b : Relt} {n : Int} (h : relOk a = true) (h' : relOk b = true) (h1 : 0 ≤ n) (h2 : n ≤ a.arity) (h3 : n ≤ b.arity) (h4 : a.arity + b.arity - n ≤ 6) : relJoin a b n = relOf (a.arity + b.arity - n) (joinRows a b n.toNat) := if_pos (by
  have : joinFits a b n = true := decide_eq_true (by omega)
  simp [joinOk, h, h', this])
theorem joinPart_len {m : Nat} {x : List Val} {ys : List (List Val)} : (joinPart m x ys).length ≤ ys.length := by
  unfold joinPart; rw [List.length_map]; exact List.length_filter_le _ _
theorem joinFront_len {a b : Relt} {m : Nat} (hb : b.rows.length ≤ 300) : ∀ {k : Nat}, (joinFront a b m k).length ≤ 300 * k
  | 0 => by simp [joinFront]
  | k + 1 => by
    have ih := joinFront_len (a := a) (m := m) hb (k := k)
    unfold joinFront at *
    rw [List.take_add_one]
    cases h : a.rows[k]? with
    | none => simp only [Option.toList, List.append_nil]; omega
    | some x =>
      have := joinPart_len (m := m) (x := x) (ys := b.rows)
      simp only [Option.toList, List.flatMap_append, List.flatMap_cons, List.flatMap_nil, List.append_nil, List.length_append]; omega
theorem joinTo_len {a b : Relt} {m k j : Nat} (hb : b.rows.length ≤ 300) (hk : k ≤ 300) : (joinTo a b m k j).length ≤ 90300 := by
  have h1 := joinFront_len (a := a) (m := m) hb (k := k)
  have h2 := joinPart_len (m := m) (x := a.rows.getD k []) (ys := b.rows.take j)
  have h3 : (b.rows.take j).length ≤ 300 := by rw [List.length_take]; omega
  unfold joinTo; rw [List.length_append]; omega
theorem joinTo_zero {a b : Relt} {m : Nat} : ([] : List (List Val)) = joinTo a b m 0 0 := by simp [joinTo, joinFront, joinPart]
theorem joinTo_start {a b : Relt} {m k : Nat} : joinTo a b m k 0 = joinFront a b m k := by simp [joinTo, joinPart]
theorem joinTo_next {a b : Relt} {m k j : Nat} (hk : k < a.rows.length) (hj : b.rows.length ≤ j) : joinTo a b m k j = joinTo a b m (k + 1) 0 := by
  rw [joinTo_start]
  unfold joinTo joinFront
  rw [List.take_succ_eq_append_getElem hk, List.flatMap_append, List.take_of_length_le hj]
  simp [List.getD, hk]
theorem joinTo_all {a b : Relt} {m k : Nat} (hk : a.rows.length ≤ k) : joinTo a b m k 0 = joinRows a b m := by
  rw [joinTo_start]
  unfold joinFront joinRows
  rw [List.take_of_length_le hk]
theorem joinTo_yes {a b : Relt} {m k j : Nat} (hk : k < a.rows.length) (hj : j < b.rows.length) (h : joinOne m a.rows[k] b.rows[j] = true) : joinTo a b m k j ++ [joinRow m a.rows[k] b.rows[j]] = joinTo a b m k (j + 1) := by
  unfold joinTo joinPart
  rw [List.take_succ_eq_append_getElem hj, List.filter_append, List.map_append, ← List.append_assoc]
  simp [List.getD, hk, h]
theorem joinTo_no {a b : Relt} {m k j : Nat} (hk : k < a.rows.length) (hj : j < b.rows.length) (h : joinOne m a.rows[k] b.rows[j] = false) : joinTo a b m k j = joinTo a b m k (j + 1) := by
  unfold joinTo joinPart
  rw [List.take_succ_eq_append_getElem hj, List.filter_append, List.map_append]
  simp [List.getD, hk, h]
theorem joinPart_mem {m : Nat} {x r : List Val} {ys : List (List Val)} (h : r ∈ joinPart m x ys) : ∃ y ∈ ys, r = joinRow m x y := by
  obtain ⟨y, hy, rfl⟩ := List.mem_map.1 h
  exact ⟨y, (List.mem_filter.1 hy).1, rfl⟩
theorem joinRows_mem {a b : Relt} {m : Nat} {r : List Val} (h : r ∈ joinRows a b m) : ∃ x ∈ a.rows, ∃ y ∈ b.rows, r = joinRow m x y := by
  obtain ⟨x, hx, h⟩ := List.mem_flatMap.1 h
  obtain ⟨y, hy, h⟩ := joinPart_mem h
  exact ⟨x, hx, y, hy, h⟩
/-- What has been joined so far, and the rest. -/
theorem joinTo_rest {a b : Relt} {m k j : Nat} (hk : k < a.rows.length) : ∃ rest, joinTo a b m k j ++ rest = joinRows a b m := by
  refine ⟨joinPart m a.rows[k] (b.rows.drop j) ++ (a.rows.drop (k + 1)).flatMap fun x => joinPart m x b.rows, ?_⟩
  have e1 : a.rows.getD k [] = a.rows[k] := by simp [List.getD, hk]
  have e2 : ∀ x, joinPart m x (b.rows.take j) ++ joinPart m x (b.rows.drop j) = joinPart m x b.rows := fun x => by
    unfold joinPart
    rw [← List.map_append, ← List.filter_append, List.take_append_drop]
  unfold joinTo joinFront joinRows
  rw [e1, List.append_assoc, ← List.append_assoc (joinPart m a.rows[k] (b.rows.take j)), e2]
  have e3 : a.rows = a.rows.take k ++ (a.rows[k] :: a.rows.drop (k + 1)) := by rw [← List.drop_eq_getElem_cons hk, List.take_append_drop]
  conv => rhs; rw [e3]
  rw [List.flatMap_append, List.flatMap_cons]
theorem joinTo_mem {a b : Relt} {m k j : Nat} (hk : k ≤ a.rows.length) (hj : k = a.rows.length → j = 0) {r : List Val} (h : r ∈ joinTo a b m k j) : r ∈ joinRows a b m := by
  rcases Nat.lt_or_ge k a.rows.length with q | q
  · obtain ⟨rest, e⟩ := joinTo_rest (b := b) (m := m) (j := j) q
    rw [← e]; exact List.mem_append_left _ h
  · rw [hj (by omega), joinTo_all q] at h; exact h
theorem join_vals {a b : Relt} {m : Nat} (ha : relOk a = true) (hb : relOk b = true) : ValsOk (joinRows a b m) := fun r hr v hv => by
  obtain ⟨x, hx, y, hy, rfl⟩ := joinRows_mem hr
  rcases List.mem_append.1 hv with h | h
  · exact (relOk_sorted ha).vals x hx v h
  · exact (relOk_sorted hb).vals y hy v (List.mem_of_mem_drop h)
theorem relOk_six {a : Relt} (ha : relOk a = true) {x : List Val} (hx : x ∈ a.rows) : x.length ≤ 6 := by
  obtain ⟨j, hj, rfl⟩ := List.getElem_of_mem hx
  have h1 := relOk_ar ha (k := j) hj
  have h2 := (relOk_parts ha).2.2.1
  omega
theorem join_six {a b : Relt} {m : Nat} (ha : relOk a = true) (hb : relOk b = true) {r : List Val} (hr : r ∈ joinRows a b m) : r.length ≤ 12 := by
  obtain ⟨x, hx, y, hy, rfl⟩ := joinRows_mem hr
  have h1 := relOk_six ha hx
  have h2 := relOk_six hb hy
  simp only [joinRow, List.length_append, List.length_drop]; omega
theorem joinRow_small {a b : Relt} {m : Nat} (ha : smallRel a) (hb : smallRel b) (oa : relOk a = true) (ob : relOk b = true) {r : List Val} (hr : r ∈ joinRows a b m) : smallRow r := by
  refine ⟨Nat.le_trans (join_six oa ob hr) (by decide), fun v hv => ?_⟩
  obtain ⟨x, hx, y, hy, rfl⟩ := joinRows_mem hr
  rcases List.mem_append.1 hv with h | h
  · exact (ha.2 x hx).2 v h
  · exact (hb.2 y hy).2 v (List.mem_of_mem_drop h)
theorem join_small {a b : Relt} {m : Nat} {n : Int} (ha : smallRel a) (hb : smallRel b) (oa : relOk a = true) (ob : relOk b = true) : smallRel ⟨n, joinRows a b m⟩ := by
  refine ⟨?_, fun r hr => joinRow_small ha hb oa ob hr⟩
  have h1 := (relOk_parts oa).2.2.2
  have h2 := joinTo_len (a := a) (m := m) (j := 0) (relOk_parts ob).2.2.2 h1
  rw [joinTo_all (Nat.le_refl _)] at h2
  show (joinRows a b m).length ≤ 1048576
  omega
theorem relJoin_small {a b : Relt} {n : Int} (ha : smallRel a) (hb : smallRel b) : smallRel (relJoin a b n).1 := by
  unfold relJoin; split
  · rename_i hc
    simp only [joinOk, Bool.and_eq_true] at hc
    exact relOf_small (join_small (n := 0) ha hb hc.1 hc.2.1).2
  · exact small_none
/-! The rows put so far. -/
def joinU (a b : Relt) (m k j : Nat) : List (List Val) := (joinTo a b m k j).foldl putRow []
theorem joinU_zero {a b : Relt} {m : Nat} : joinU a b m 0 0 = [] := by unfold joinU; rw [← joinTo_zero]; rfl
theorem joinU_next {a b : Relt} {m k j : Nat} (hk : k < a.rows.length) (hj : b.rows.length ≤ j) : joinU a b m k j = joinU a b m (k + 1) 0 := by unfold joinU; rw [joinTo_next hk hj]
theorem joinU_yes {a b : Relt} {m k j : Nat} (hk : k < a.rows.length) (hj : j < b.rows.length) (h : joinOne m a.rows[k] b.rows[j] = true) : putRow (joinU a b m k j) (joinRow m a.rows[k] b.rows[j]) = joinU a b m k (j + 1) := by
  unfold joinU
  rw [← joinTo_yes hk hj h, List.foldl_append]; rfl
theorem joinU_no {a b : Relt} {m k j : Nat} (hk : k < a.rows.length) (hj : j < b.rows.length) (h : joinOne m a.rows[k] b.rows[j] = false) : joinU a b m k j = joinU a b m k (j + 1) := by unfold joinU; rw [joinTo_no hk hj h]
theorem joinU_all {a b : Relt} {m k : Nat} (hk : a.rows.length ≤ k) : joinU a b m k 0 = sortRows (joinRows a b m) := by unfold joinU; rw [joinTo_all hk]; rfl
theorem joinU_big {a b : Relt} {m k j : Nat} (hk : k < a.rows.length) : (joinU a b m k j).length ≤ (sortRows (joinRows a b m)).length := by
  obtain ⟨rest, e⟩ := joinTo_rest (b := b) (m := m) (j := j) hk
  unfold joinU sortRows
  rw [← e, List.foldl_append]
  exact (puts_len (rows := rest)).1
theorem joinU_mem {a b : Relt} {m k j : Nat} (hk : k < a.rows.length) {r : List Val} (h : r ∈ joinU a b m k j) : r ∈ joinRows a b m := by
  rcases puts_mem.1 h with h | h
  · cases h
  · exact joinTo_mem (Nat.le_of_lt hk) (fun e => by omega) h
theorem joinU_row {a b : Relt} {m k j : Nat} (oa : relOk a = true) (ob : relOk b = true) (hk : k < a.rows.length) : ∀ x ∈ joinU a b m k j, x.length ≤ 1048576 := fun x hx => Nat.le_trans (join_six oa ob (joinU_mem hk hx)) (by decide)
theorem joinU_sorted {a b : Relt} {m k j : Nat} (oa : relOk a = true) (ob : relOk b = true) (hk : k < a.rows.length) : Sorted (joinU a b m k j) := puts_sorted Sorted.nil fun x hx => join_vals oa ob x (joinTo_mem (Nat.le_of_lt hk) (fun e => by omega) hx)
theorem join_valsOne {a b : Relt} {m : Nat} (oa : relOk a = true) (ob : relOk b = true) {x y : List Val} (hx : x ∈ a.rows) (hy : y ∈ b.rows) : ∀ v ∈ joinRow m x y, valOk v = true := fun v hv => by
  rcases List.mem_append.1 hv with h | h
  · exact (relOk_sorted oa).vals x hx v h
  · exact (relOk_sorted ob).vals y hy v (List.mem_of_mem_drop h)
theorem joinOne_at {m : Nat} {x y : List Val} {l : Nat} {t : Bool} (hl : l = x.length - m) (h : sameRow (x.drop l) (y.take m) = t) : joinOne m x y = t := by subst hl; exact h
theorem join_flat {m : Nat} {x y : List Val} : [x, y.drop m].flatten = joinRow m x y := by simp [joinRow]
end Go.Proofs.Ytddofobcekmbjaa

/- RelReach in plain words: the pairs that are linked by a way. -/
namespace Go.Proofs.Ytddofobcekmbjaa
open Go.RowKit
set_option linter.unusedVariables false

inductive Reach (rows : List (List Val)) : Val → Val → Prop
  | one {u v : Val} : [u, v] ∈ rows → Reach rows u v
  | step {u v w : Val} : Reach rows u v → [v, w] ∈ rows → Reach rows u w
theorem Reach.trans {rows : List (List Val)} {u v w : Val} (h : Reach rows u v) (h' : Reach rows v w) : Reach rows u w := by
  induction h' with
  | one h1 => exact .step h h1
  | step _ h1 ih => exact .step ih h1
def InTC (rows : List (List Val)) (x : List Val) : Prop := ∃ u v, x = [u, v] ∧ Reach rows u v
def IsClo (r : Relt) (L : List (List Val)) : Prop := Sorted L ∧ ∀ x, x ∈ L ↔ InTC r.rows x
open Classical in
noncomputable def relReach (r : Relt) : Relt × Bool :=
  if relOk r = true ∧ r.arity = 2 then (if h : ∃ L, IsClo r L ∧ L.length ≤ 300 then (⟨2, h.choose⟩, true) else (⟨0, []⟩, false)) else (⟨0, []⟩, false)
theorem relReach_no1 {r : Relt} (h : relOk r = false) : relReach r = (⟨0, []⟩, false) := by unfold relReach; rw [if_neg (by simp [h])]
theorem relReach_no2 {r : Relt} (h : ¬ r.arity = 2) : relReach r = (⟨0, []⟩, false) := by unfold relReach; rw [if_neg (by simp [h])]
theorem relReach_yes {r : Relt} {L : List (List Val)} (h1 : relOk r = true) (h2 : r.arity = 2) (hc : IsClo r L) (hl : L.length ≤ 300) : relReach r = (⟨2, L⟩, true) := by
  have h : ∃ L, IsClo r L ∧ L.length ≤ 300 := ⟨L, hc, hl⟩
  have e : h.choose = L := sorted_ext h.choose_spec.1.1 hc.1 fun x => by rw [h.choose_spec.1.2, hc.2]
  unfold relReach
  rw [if_pos ⟨h1, h2⟩, dif_pos h, e]
/-! ### Lists without repetition -/
theorem len_sub {α : Type} [DecidableEq α] : ∀ {a b : List α}, a.Nodup → (∀ x ∈ a, x ∈ b) → a.length ≤ b.length
  | [], b, _, _ => by simp
  | x :: t, b, hn, hs => by
    obtain ⟨h1, h2⟩ := List.nodup_cons.1 hn
    have h3 := len_sub (a := t) (b := b.erase x) h2 fun y hy => by
      have hne : y ≠ x := fun e => h1 (e ▸ hy)
      exact (List.mem_erase_of_ne hne).2 (hs y (List.mem_cons_of_mem _ hy))
    have hx := hs x List.mem_cons_self
    have h4 := List.length_erase_of_mem hx
    have h5 : 0 < b.length := List.length_pos_of_mem hx
    rw [List.length_cons]; omega
theorem Sorted.nodup {rows : List (List Val)} (h : Sorted rows) : rows.Nodup := h.pw.imp fun {a b} hab e => by
  subst e; rw [cmpRow_self] at hab; omega
open Classical in
theorem sorted_len {a b : List (List Val)} (ha : Sorted a) (hs : ∀ x ∈ a, x ∈ b) : a.length ≤ b.length := len_sub ha.nodup hs
open Classical in
/-- One in the other, of one length: the same. -/
theorem sorted_same {a b : List (List Val)} (ha : Sorted a) (hb : Sorted b) (hs : ∀ x ∈ a, x ∈ b) (hl : b.length ≤ a.length) : a = b := by
  refine sorted_ext ha hb fun x => ⟨hs x, fun hx => ?_⟩
  by_cases h : x ∈ a
  · exact h
  · have h1 : (x :: a).Nodup := List.nodup_cons.2 ⟨h, ha.nodup⟩
    have h2 := len_sub h1 fun y hy => (List.mem_cons.1 hy).elim (fun e => e ▸ hx) (hs y)
    rw [List.length_cons] at h2; omega
theorem relReach_big {r : Relt} {out : List (List Val)} (hs : Sorted out) (ht : ∀ x ∈ out, InTC r.rows x) (hl : 300 < (out.length : Int)) : relReach r = (⟨0, []⟩, false) := by
  unfold relReach
  split
  · rw [dif_neg]
    rintro ⟨L, hc, h3⟩
    have := sorted_len hs fun x hx => (hc.2 x).2 (ht x hx)
    omega
  · rfl
/-! ### Rows linked -/
def zv : Val := ⟨0, ByteArray.empty⟩
def linkOne (x y : List Val) : Bool := sameVal (x.getD 1 zv) (y.getD 0 zv)
def linkRow (x y : List Val) : List Val := [x.getD 0 zv, y.getD 1 zv]
def linkPart (x : List Val) (ys : List (List Val)) : List (List Val) := (ys.filter (linkOne x)).map (linkRow x)
def linkFront (av bs : List (List Val)) (k : Nat) : List (List Val) := (av.take k).flatMap fun x => linkPart x bs
def linkTo (av bs : List (List Val)) (k j : Nat) : List (List Val) := linkFront av bs k ++ linkPart (av.getD k []) (bs.take j)
def linkAll (av bs : List (List Val)) : List (List Val) := av.flatMap fun x => linkPart x bs
section
variable {av bs : List (List Val)} {k j : Nat}
theorem linkPart_len {x : List Val} {ys : List (List Val)} : (linkPart x ys).length ≤ ys.length := by
  unfold linkPart; rw [List.length_map]; exact List.length_filter_le _ _
theorem linkFront_len (hb : bs.length ≤ 300) : ∀ {k : Nat}, (linkFront av bs k).length ≤ 300 * k
  | 0 => by simp [linkFront]
  | k + 1 => by
    have ih := linkFront_len hb (k := k)
    unfold linkFront at *
    rw [List.take_add_one]
    cases h : av[k]? with
    | none => simp only [Option.toList, List.append_nil]; omega
    | some x =>
      have := linkPart_len (x := x) (ys := bs)
      simp only [Option.toList, List.flatMap_append, List.flatMap_cons, List.flatMap_nil, List.append_nil, List.length_append]; omega
theorem linkTo_len (hb : bs.length ≤ 300) (hk : k ≤ 300) : (linkTo av bs k j).length ≤ 90300 := by
  have h1 := linkFront_len (av := av) hb (k := k)
  have h2 := linkPart_len (x := av.getD k []) (ys := bs.take j)
  have h3 : (bs.take j).length ≤ 300 := by rw [List.length_take]; omega
  unfold linkTo; rw [List.length_append]; omega
theorem linkTo_zero : linkTo av bs 0 0 = [] := by simp [linkTo, linkFront, linkPart]
theorem linkTo_start : linkTo av bs k 0 = linkFront av bs k := by simp [linkTo, linkPart]
theorem linkTo_next (hk : k < av.length) (hj : bs.length ≤ j) : linkTo av bs k j = linkTo av bs (k + 1) 0 := by
  rw [linkTo_start]
  unfold linkTo linkFront
  rw [List.take_succ_eq_append_getElem hk, List.flatMap_append, List.take_of_length_le hj]
  simp [List.getD, hk]
theorem linkTo_all (hk : av.length ≤ k) : linkTo av bs k 0 = linkAll av bs := by
  rw [linkTo_start]
  unfold linkFront linkAll
  rw [List.take_of_length_le hk]
theorem linkTo_yes (hk : k < av.length) (hj : j < bs.length) (h : linkOne av[k] bs[j] = true) : linkTo av bs k j ++ [linkRow av[k] bs[j]] = linkTo av bs k (j + 1) := by
  unfold linkTo linkPart
  rw [List.take_succ_eq_append_getElem hj, List.filter_append, List.map_append, ← List.append_assoc]
  simp [List.getD, hk, h]
theorem linkTo_no (hk : k < av.length) (hj : j < bs.length) (h : linkOne av[k] bs[j] = false) : linkTo av bs k j = linkTo av bs k (j + 1) := by
  unfold linkTo linkPart
  rw [List.take_succ_eq_append_getElem hj, List.filter_append, List.map_append]
  simp [List.getD, hk, h]
theorem linkPart_mem {x r : List Val} {ys : List (List Val)} (h : r ∈ linkPart x ys) : ∃ y ∈ ys, linkOne x y = true ∧ r = linkRow x y := by
  obtain ⟨y, hy, rfl⟩ := List.mem_map.1 h
  exact ⟨y, (List.mem_filter.1 hy).1, (List.mem_filter.1 hy).2, rfl⟩
theorem linkTo_mem (hk : k < av.length ∨ j = 0) {r : List Val} (h : r ∈ linkTo av bs k j) : ∃ x ∈ av, ∃ y ∈ bs, linkOne x y = true ∧ r = linkRow x y := by
  rcases List.mem_append.1 h with h | h
  · obtain ⟨x, hx, h⟩ := List.mem_flatMap.1 h
    obtain ⟨y, hy, h1, h2⟩ := linkPart_mem h
    exact ⟨x, List.mem_of_mem_take hx, y, hy, h1, h2⟩
  · obtain ⟨y, hy, h1, h2⟩ := linkPart_mem h
    rcases hk with q | q
    · have e : av.getD k [] = av[k] := by simp [List.getD, q]
      rw [e] at h1 h2
      exact ⟨av[k], List.getElem_mem _, y, List.mem_of_mem_take hy, h1, h2⟩
    · subst q; cases hy
theorem linkAll_mem {x y : List Val} (hx : x ∈ av) (hy : y ∈ bs) (h : linkOne x y = true) : linkRow x y ∈ linkAll av bs :=
  List.mem_flatMap.2 ⟨x, hx, List.mem_map.2 ⟨y, List.mem_filter.2 ⟨hy, h⟩, rfl⟩⟩
end
/-! ### What both ways keep -/
structure Good (r : Relt) (out : List (List Val)) : Prop where
  srt : Sorted out
  tc : ∀ x ∈ out, InTC r.rows x
  sup : ∀ x ∈ r.rows, x ∈ out
theorem two_rows {r : Relt} (h1 : relOk r = true) (h2 : r.arity = 2) {x : List Val} (hx : x ∈ r.rows) : ∃ u v, x = [u, v] := by
  obtain ⟨j, hj, rfl⟩ := List.getElem_of_mem hx
  have hl := relOk_ar h1 hj
  have hl2 : r.rows[j].length = 2 := by omega
  match r.rows[j], hl2 with
  | [u, v], _ => exact ⟨u, v, rfl⟩
theorem Good.start {r : Relt} (h1 : relOk r = true) (h2 : r.arity = 2) : Good r r.rows :=
  ⟨relOk_sorted h1, fun x hx => by
    obtain ⟨u, v, rfl⟩ := two_rows h1 h2 hx
    exact ⟨u, v, rfl, .one hx⟩, fun x hx => hx⟩
theorem link_tc {rows : List (List Val)} {x y : List Val} (hx : InTC rows x) (hy : InTC rows y) (h : linkOne x y = true) : InTC rows (linkRow x y) := by
  obtain ⟨u, v, rfl, h1⟩ := hx
  obtain ⟨u', v', rfl, h2⟩ := hy
  have e : v = u' := sameVal_iff.1 h
  subst e
  exact ⟨u, v', rfl, h1.trans h2⟩
/-- What a way's values have, that all rows' values have. -/
theorem tc_all {rows : List (List Val)} {p : Val → Prop} (h : ∀ r ∈ rows, ∀ v ∈ r, p v) {x : List Val} (hx : InTC rows x) : ∀ v ∈ x, p v := by
  obtain ⟨u, v, rfl, hr⟩ := hx
  have key : p u ∧ p v := by
    induction hr with
    | one h1 => exact ⟨h _ h1 _ (by simp), h _ h1 _ (by simp)⟩
    | step _ h1 ih => exact ⟨ih.1, h _ h1 _ (by simp)⟩
  intro q hq
  simp only [List.mem_cons, List.not_mem_nil, or_false] at hq
  rcases hq with rfl | rfl
  · exact key.1
  · exact key.2
theorem tc_len {rows : List (List Val)} {x : List Val} (hx : InTC rows x) : x.length = 2 := by
  obtain ⟨u, v, rfl, _⟩ := hx; rfl
theorem tc_vals {r : Relt} (h1 : relOk r = true) {x : List Val} (hx : InTC r.rows x) : ∀ v ∈ x, valOk v = true := tc_all (relOk_sorted h1).vals hx
theorem tc_small {r : Relt} (hs : smallRel r) {x : List Val} (hx : InTC r.rows x) : smallRow x := ⟨by rw [tc_len hx]; decide, tc_all (fun q hq => (hs.2 q hq).2) hx⟩
/-! ### The program's way -/
def reachTo (r : Relt) (out : List (List Val)) (k j : Nat) : List (List Val) := out ++ linkTo out r.rows k j
theorem reachTo_zero {r : Relt} {out : List (List Val)} : out = reachTo r out 0 0 := by simp [reachTo, linkTo_zero]
theorem reachTo_next {r : Relt} {out : List (List Val)} {k j : Nat} (hk : k < out.length) (hj : r.rows.length ≤ j) : reachTo r out k j = reachTo r out (k + 1) 0 := by unfold reachTo; rw [linkTo_next hk hj]
theorem reachTo_yes {r : Relt} {out : List (List Val)} {k j : Nat} (hk : k < out.length) (hj : j < r.rows.length) (h : linkOne out[k] r.rows[j] = true) : reachTo r out k j ++ [linkRow out[k] r.rows[j]] = reachTo r out k (j + 1) := by
  unfold reachTo; rw [List.append_assoc, linkTo_yes hk hj h]
theorem reachTo_no {r : Relt} {out : List (List Val)} {k j : Nat} (hk : k < out.length) (hj : j < r.rows.length) (h : linkOne out[k] r.rows[j] = false) : reachTo r out k j = reachTo r out k (j + 1) := by unfold reachTo; rw [linkTo_no hk hj h]
theorem reachTo_tc {r : Relt} {out : List (List Val)} (g : Good r out) {k : Nat} {x : List Val} (hx : x ∈ reachTo r out k 0) : InTC r.rows x := by
  rcases List.mem_append.1 hx with h | h
  · exact g.tc x h
  · obtain ⟨a, ha, b, hb, h1, rfl⟩ := linkTo_mem (.inr rfl) h
    exact link_tc (g.tc a ha) (g.tc b (g.sup b hb)) h1
theorem reachTo_len {r : Relt} {out : List (List Val)} {k j : Nat} (ho : out.length ≤ 300) (hr : r.rows.length ≤ 300) (hk : k ≤ 300) : (reachTo r out k j).length ≤ 90600 := by
  have := linkTo_len (av := out) (bs := r.rows) (j := j) hr hk
  unfold reachTo; rw [List.length_append]; omega
theorem reach_vals {r : Relt} {out : List (List Val)} (h1 : relOk r = true) (g : Good r out) {k : Nat} : ValsOk (reachTo r out k 0) := fun x hx => tc_vals h1 (reachTo_tc g hx)
theorem reach_small {r : Relt} {out : List (List Val)} (h1 : relOk r = true) (hs : smallRel r) (g : Good r out) (ho : out.length ≤ 300) {k : Nat} (hk : k ≤ 300) : smallRel ⟨2, reachTo r out k 0⟩ :=
  ⟨by have := reachTo_len (r := r) (out := out) (j := 0) ho (relOk_parts h1).2.2.2 hk; show (reachTo r out k 0).length ≤ 1048576; omega, fun x hx => tc_small hs (reachTo_tc g hx)⟩
/-- The next rows. -/
def reachNext (r : Relt) (out : List (List Val)) (k : Nat) : List (List Val) := sortRows (reachTo r out k 0)
theorem reachNext_mem {r : Relt} {out : List (List Val)} {k : Nat} {x : List Val} (hx : x ∈ reachNext r out k) : x ∈ reachTo r out k 0 := sortRows_mem.1 hx
theorem Good.next {r : Relt} {out : List (List Val)} (h1 : relOk r = true) (g : Good r out) {k : Nat} : Good r (reachNext r out k) :=
  ⟨sortRows_sorted (reach_vals h1 g), fun x hx => reachTo_tc g (reachNext_mem hx), fun x hx => sortRows_mem.2 (List.mem_append_left _ (g.sup x hx))⟩
theorem next_sub {r : Relt} {out : List (List Val)} {k : Nat} : ∀ x ∈ out, x ∈ reachNext r out k := fun x hx => sortRows_mem.2 (List.mem_append_left _ hx)
theorem next_len {r : Relt} {out : List (List Val)} {k : Nat} (g : Good r out) : out.length ≤ (reachNext r out k).length := sorted_len g.srt next_sub
theorem Good.clo {r : Relt} {out : List (List Val)} (g : Good r out) (hc : ∀ x ∈ out, ∀ y ∈ r.rows, linkOne x y = true → linkRow x y ∈ out) : IsClo r out := by
  refine ⟨g.srt, fun x => ⟨g.tc x, fun hx => ?_⟩⟩
  obtain ⟨u, v, rfl, h⟩ := hx
  induction h with
  | one h1 => exact g.sup _ h1
  | step _ h1 ih => exact hc _ ih _ h1 (sameVal_refl _)
theorem next_done {r : Relt} {out : List (List Val)} {k : Nat} (h1 : relOk r = true) (g : Good r out) (hk : out.length ≤ k) (hl : (reachNext r out k).length = out.length) : IsClo r (reachNext r out k) := by
  have gn := g.next h1 (k := k)
  have e : out = reachNext r out k := sorted_same g.srt gn.srt next_sub (by omega)
  refine gn.clo fun x hx y hy h => ?_
  rw [← e] at hx
  refine sortRows_mem.2 (List.mem_append_right _ ?_)
  rw [linkTo_all hk]
  exact linkAll_mem hx hy h
/-! ### The reference's way -/
def reachU (now : List (List Val)) (k j : Nat) : List (List Val) := (linkTo now now k j).foldl putRow now
theorem reachU_zero {now : List (List Val)} : now = reachU now 0 0 := by simp [reachU, linkTo_zero]
theorem reachU_next {now : List (List Val)} {k j : Nat} (hk : k < now.length) (hj : now.length ≤ j) : reachU now k j = reachU now (k + 1) 0 := by unfold reachU; rw [linkTo_next hk hj]
theorem reachU_yes {now : List (List Val)} {k j : Nat} (hk : k < now.length) (hj : j < now.length) (h : linkOne now[k] now[j] = true) : putRow (reachU now k j) (linkRow now[k] now[j]) = reachU now k (j + 1) := by
  unfold reachU
  rw [← linkTo_yes hk hj h, List.foldl_append]; rfl
theorem reachU_no {now : List (List Val)} {k j : Nat} (hk : k < now.length) (hj : j < now.length) (h : linkOne now[k] now[j] = false) : reachU now k j = reachU now k (j + 1) := by unfold reachU; rw [linkTo_no hk hj h]
theorem reachU_tc {r : Relt} {now : List (List Val)} (g : Good r now) {k j : Nat} (hk : k < now.length ∨ j = 0) {x : List Val} (hx : x ∈ reachU now k j) : InTC r.rows x := by
  rcases puts_mem.1 hx with h | h
  · exact g.tc x h
  · obtain ⟨a, ha, b, hb, h1, rfl⟩ := linkTo_mem hk h
    exact link_tc (g.tc a ha) (g.tc b hb) h1
theorem reachU_sorted {r : Relt} {now : List (List Val)} (h1 : relOk r = true) (g : Good r now) {k j : Nat} (hk : k < now.length ∨ j = 0) : Sorted (reachU now k j) := puts_sorted g.srt fun x hx => tc_vals h1 (reachU_tc g hk (puts_mem.2 (.inr hx)))
theorem Good.put {r : Relt} {now : List (List Val)} (h1 : relOk r = true) (g : Good r now) {k : Nat} : Good r (reachU now k 0) :=
  ⟨reachU_sorted h1 g (.inr rfl), fun x hx => reachU_tc g (.inr rfl) hx, fun x hx => puts_mem.2 (.inl (g.sup x hx))⟩
theorem reachU_row {r : Relt} {now : List (List Val)} (g : Good r now) {k j : Nat} (hk : k < now.length ∨ j = 0) : ∀ x ∈ reachU now k j, x.length ≤ 1048576 := fun x hx => by rw [tc_len (reachU_tc g hk hx)]; decide
theorem reachU_len {now : List (List Val)} (hn : now.length ≤ 300) {k j : Nat} (hk : k ≤ 300) : (reachU now k j).length ≤ 90600 := by
  have h1 := linkTo_len (av := now) (bs := now) (j := j) hn hk
  have h2 := (puts_len (rows := linkTo now now k j) (acc := now)).2
  unfold reachU; omega
theorem reachU_more {now : List (List Val)} {k j : Nat} : now.length ≤ (reachU now k j).length := (puts_len (rows := linkTo now now k j) (acc := now)).1
def Closed (out : List (List Val)) : Prop := ∀ x ∈ out, ∀ y ∈ out, linkOne x y = true → linkRow x y ∈ out
theorem reachU_closed {r : Relt} {now : List (List Val)} (h1 : relOk r = true) (g : Good r now) {k : Nat} (hk : now.length ≤ k) (hl : (reachU now k 0).length = now.length) : Closed (reachU now k 0) := by
  have e : now = reachU now k 0 := sorted_same g.srt (reachU_sorted h1 g (.inr rfl)) (fun x hx => puts_mem.2 (.inl hx)) (by omega)
  intro x hx y hy h
  rw [← e] at hx hy
  refine puts_mem.2 (.inr ?_)
  rw [linkTo_all hk]
  exact linkAll_mem hx hy h
theorem Closed.clo {r : Relt} {out : List (List Val)} (hc : Closed out) (g : Good r out) : IsClo r out := g.clo fun x hx y hy h => hc x hx y (g.sup y hy) h
theorem link_valsOne {r : Relt} {now : List (List Val)} (h1 : relOk r = true) (g : Good r now) {x y : List Val} (hx : x ∈ now) (hy : y ∈ now) (h : linkOne x y = true) : ∀ v ∈ linkRow x y, valOk v = true := tc_vals h1 (link_tc (g.tc x hx) (g.tc y hy) h)
theorem relReach_small {r : Relt} (hs : smallRel r) : smallRel (relReach r).1 := by
  unfold relReach
  split
  · split
    · rename_i h1 h
      have hh := h.choose_spec
      refine ⟨Nat.le_trans hh.2 (by decide), fun x hx => tc_small hs ((hh.1.2 x).1 hx)⟩
    · exact small_none
  · exact small_none
/-! values in their places -/
theorem two_0 {x : List Val} (h : x.length = 2) : x[0] = x.getD 0 zv := by simp [List.getD, show 0 < x.length by omega]
theorem two_1 {x : List Val} (h : x.length = 2) : x[1] = x.getD 1 zv := by simp [List.getD, show 1 < x.length by omega]
theorem linkRow_at {x y : List Val} (hx : x.length = 2) (hy : y.length = 2) : [x[0]'(by omega), y[1]'(by omega)] = linkRow x y := by rw [two_0 hx, two_1 hy]; rfl
theorem linkOne_at {x y : List Val} {t : Bool} (hx : x.length = 2) (hy : y.length = 2) (h : sameVal (x[1]'(by omega)) (y[0]'(by omega)) = t) : linkOne x y = t := by rw [two_1 hx, two_0 hy] at h; exact h
end Go.Proofs.Ytddofobcekmbjaa

/- Ways (printed by walk.py) -/
namespace Go.Proofs.Ytddofobcekmbjaa
open Go.RowKit
set_option linter.unusedVariables false
set_option linter.unusedSimpArgs false
set_option maxRecDepth 100000

set_option maxHeartbeats 4000000 in
theorem cloneRows_c0 (r : List (List Val)) (hl : r.length ≤ 1048576) : AC Try.prog 58 [.one (.sl rowE r)] [] (.one (.own 0)) [(0, some (.arr 42 rowE r false))] := by
  refine AC_body1 Try.func58 rfl rfl Try.ntmps58 rfl Try.results58 ?_
  refine AW_split 0 rfl (fun hx => ?_) ?_
  · subst hx
    refine AW_seq ?_
    refine AW_region ?_
    refine AL_p (x_assign rfl rfl) ?_
    refine AL_nil ?_
    refine AW_seq ?_
    refine AW_seq ?_
    refine AW_region ?_
    refine AL_p (x_move rfl rfl) ?_
    refine AL_p (x_nilnil rfl rfl rfl (E := 42) (n := 1) (by kernel_rfl)) ?_
    refine AL_nil ?_
    refine AW_condT rfl ?_
    refine AW_seq ?_
    refine AW_region ?_
    refine AL_p (x_assign rfl rfl) ?_
    refine AL_nil ?_
    refine AW_adoptT (T := 42) (e := rowE) 100 2 rfl rfl rfl ?_
    refine AW_shallow 100 rfl ?_
    refine AW_ret ?_
    exact ⟨rn [(0, 100)], ⟨⟨⟨_, rfl, VLe.rf⟩, trivial⟩, ⟨⟨_, rfl, BLe.rf⟩, trivial⟩, trivial, rfl⟩⟩
  · refine AW_seq ?_
    refine AW_region ?_
    refine AL_p (x_assign rfl rfl) ?_
    refine AL_nil ?_
    refine AW_seq ?_
    refine AW_seq ?_
    refine AW_region ?_
    refine AL_p (x_move rfl rfl) ?_
    refine AL_p (x_snnil rfl rfl rfl (E := 42) (n := 1) (by kernel_rfl)) ?_
    refine AL_nil ?_
    refine AW_condF rfl ?_
    refine AW_skip ?_
    refine AW_seq ?_
    refine AW_region ?_
    refine AL_p (y_bslice0 (E := 42) (e := rowE) 101 rfl rfl rfl (by kernel_rfl)) ?_
    refine AL_p (x_move_sn rfl rfl) ?_
    refine AL_p (y_append_sl 102 false (.inl rfl) rfl rfl rfl rfl rfl rfl (by kernel_rfl) (by simp; omega)) ?_
    refine AL_p (x_assign rfl rfl) ?_
    refine AL_nil ?_
    refine AW_shallow 102 rfl ?_
    refine AW_ret ?_
    exact ⟨rn [(0, 102)], ⟨⟨⟨_, rfl, VLe.rf⟩, trivial⟩, ⟨⟨_, rfl, BLe.rf⟩, trivial⟩, trivial, rfl⟩⟩
theorem cloneRows_c (r : List (List Val)) (hl : r.length ≤ 1048576) (k : Nat) : AC Try.prog 58 [.one (.sl rowE r)] [] (.one (.own k)) [(k, some (.arr 42 rowE r false))] := AC.at (cloneRows_c0 r hl) k

set_option maxHeartbeats 4000000 in
theorem relReachI_c0 (r : Relt) (hr : smallRel r) : AC Try.prog 20 [.agg (relC r)] [] (.tup [.agg [.c (.int .i64 (relReach r).1.arity), .own 0], .one (.c (.bool (relReach r).2))]) [(0, some (.arr 42 rowE (relReach r).1.rows true))] := by
  refine AC_bodyCT (n := 2) (k := 9) (T := [(2, .one (.ptr 9 0)), (3, .one (.c (.bool (relReach r).2)))]) (Lf := ((9, some (.box [.c (.int .i64 (relReach r).1.arity), .own 0])) :: [(0, some (.arr 42 rowE (relReach r).1.rows true))])) Try.func20 rfl rfl Try.ntmps20 rfl Try.results20 rfl rfl rfl rfl (by kernel_rfl) rfl rfl ⟨trivial, (by repeat (first | exact trivial | refine ⟨⟨_, rfl, BLe.rf⟩, ?_⟩)), (by repeat (first | exact trivial | refine ⟨⟨rfl, by first | (left; intro h; cases h) | (right; rfl), by first | exact (fun _ h => ⟨_, h⟩) | exact (fun _ _ => ⟨_, rfl⟩)⟩, ?_⟩)), rfl⟩ ?_
  refine AW_seq ?_
  refine AW_region ?_
  refine AL_p (x_box 100 rfl rfl rfl rfl rfl rfl rfl) ?_
  refine AL_p (x_alloc (z := .agg #[.int .i64 0, .slice none 0 0]) 101 rfl (by kernel_rfl) rfl rfl rfl rfl) ?_
  refine AL_p (x_assign rfl rfl) ?_
  refine AL_nil ?_
  refine AW_seq ?_
  refine AW_seq ?_
  refine AW_region ?_
  refine AL_p (x_loadN (n := 2) rfl rfl rfl (by kernel_rfl) rfl rfl) ?_
  refine AL_b (x_call0 rfl rfl rfl (relOkI_c _ hr.1) rfl rfl) (fun b13 h13 => ?_)
  refine AL_p (x_not rfl rfl) ?_
  refine AL_p (x_move rfl rfl) ?_
  cases b13
  · try simp only [tdy] at h13
    have hno := relReach_no1 h13
    refine AL_o rfl rfl rfl rfl ?_
    refine AL_o rfl rfl rfl rfl ?_
    refine AL_o rfl rfl rfl rfl ?_
    refine AL_p (x_pickT rfl rfl rfl) ?_
    refine AL_nil ?_
    refine AW_condT rfl ?_
    refine AW_seq ?_
    refine AW_region ?_
    refine AL_p (x_build (zs := [.int .i64 0, .slice none 0 0]) (places := [(0, 1), (1, 1)]) rfl (by kernel_rfl) rfl rfl rfl rfl rfl) ?_
    refine AL_p (x_store (n := 2) rfl rfl rfl rfl (by kernel_rfl) rfl rfl rfl) ?_
    refine AL_p (x_assign rfl rfl) ?_
    refine AL_nil ?_
    refine AW_adopt (T := 42) (e := rowE) 102 101 1 rfl rfl rfl rfl rfl ?_
    refine AW_ret ?_
    exact ⟨rn [(9, 101), (0, 102)], ⟨⟨⟨_, rfl, VLe.rf⟩, ⟨_, rfl, by first | (refine vle_bool ?_; rw [hno]; done) | exact VLe.rf | (refine vle_bool ?_; rw [hno]; apply Eq.symm; assumption) | exact vle_bool (by rw [hno])⟩, trivial⟩, ⟨⟨_, rfl, by first | (refine ble_eq ?_; rw [hno]; done) | (refine ble_eq ?_; rw [hno]; rfl) | exact BLe.rf⟩, ⟨_, rfl, by first | (refine BLe.arr ?_; rw [hno]; done) | (refine BLe.arr ?_; rw [hno]; rfl) | exact BLe.rf⟩, trivial⟩, trivial, rfl⟩⟩
  try simp only [tdy] at h13
  have hr3 := (relOk_parts h13).2.2.2
  refine AL_g rfl rfl (x_field (off := 0) (o' := 0) rfl rfl rfl (by kernel_rfl) rfl) ?_
  refine AL_g rfl rfl (x_load1 rfl rfl rfl (by kernel_rfl) rfl) ?_
  refine AL_gb rfl rfl (x_neq rfl rfl rfl) (fun b18 h18 => ?_)
  refine AL_p (x_pickF rfl rfl rfl) ?_
  refine AL_nil ?_
  cases b18
  rotate_left
  · try simp only [tdy] at h18
    have hno := relReach_no2 (r := r) (by omega)
    refine AW_condT rfl ?_
    refine AW_seq ?_
    refine AW_region ?_
    refine AL_p (x_build (zs := [.int .i64 0, .slice none 0 0]) (places := [(0, 1), (1, 1)]) rfl (by kernel_rfl) rfl rfl rfl rfl rfl) ?_
    refine AL_p (x_store (n := 2) rfl rfl rfl rfl (by kernel_rfl) rfl rfl rfl) ?_
    refine AL_p (x_assign rfl rfl) ?_
    refine AL_nil ?_
    refine AW_adopt (T := 42) (e := rowE) 102 101 1 rfl rfl rfl rfl rfl ?_
    refine AW_ret ?_
    exact ⟨rn [(9, 101), (0, 102)], ⟨⟨⟨_, rfl, VLe.rf⟩, ⟨_, rfl, by first | (refine vle_bool ?_; rw [hno]; done) | exact VLe.rf | (refine vle_bool ?_; rw [hno]; apply Eq.symm; assumption) | exact vle_bool (by rw [hno])⟩, trivial⟩, ⟨⟨_, rfl, by first | (refine ble_eq ?_; rw [hno]; done) | (refine ble_eq ?_; rw [hno]; rfl) | exact BLe.rf⟩, ⟨_, rfl, by first | (refine BLe.arr ?_; rw [hno]; done) | (refine BLe.arr ?_; rw [hno]; rfl) | exact BLe.rf⟩, trivial⟩, trivial, rfl⟩⟩
  try simp only [tdy] at h18
  have har2 : r.arity = 2 := by omega
  refine AW_condF rfl ?_
  refine AW_skip ?_
  refine AW_seq ?_
  refine AW_region ?_
  refine AL_p (x_loadN (n := 2) rfl rfl rfl (by kernel_rfl) rfl rfl) ?_
  refine AL_p (x_call1 rfl rfl rfl (copyI_c r hr 103) rfl rfl rfl rfl) ?_
  refine AL_p (x_alloc (z := .agg #[.int .i64 0, .slice none 0 0]) 200 rfl (by kernel_rfl) rfl rfl rfl rfl) ?_
  refine AL_p (x_store (n := 2) rfl rfl rfl rfl (by kernel_rfl) rfl rfl rfl) ?_
  refine AL_nil ?_
  refine AW_block ?_
  refine AW_shutB 103 200 1 rfl rfl rfl rfl ?_
  refine AW_loop2 (ι := {q : List (List Val) // Good r q ∧ q.length ≤ 300}) (fun p => []) (fun p => [(200, some (.box [.c (.int .i64 2), .sl rowE (p.1)]))]) [1, 2, 4] [100, 101] (fun p => 301 - (p.1).length) ⟨r.rows, ⟨Good.start h13 (by omega), hr3⟩⟩ (rn []) ?_ ?_
  exact ⟨by (repeat refine ⟨⟨_, rfl, by first | with_reducible exact VLe.rf | exact VLe.rf | exact vle_int (by dsimp only; omega)⟩, ?_⟩); exact trivial, by (repeat refine ⟨⟨_, rfl, by first | with_reducible exact BLe.rf | with_reducible exact boxPair hrb hra | exact boxPair har2 rfl | (refine BLe.arr ?_; exact rfl) | exact BLe.rf | exact BLe.box AllC.rf⟩, ?_⟩); exact trivial, by repeat (first | exact trivial | refine ⟨⟨rfl, by first | (left; intro h; cases h) | (right; rfl), fun _ h => ⟨_, h⟩⟩, ?_⟩), rfl⟩
  rintro ⟨out, hinv⟩
  dsimp only
  obtain ⟨g, ho⟩ := hinv
  have ho : out.length ≤ 300 := ho
  have g : Good r out := g
  refine AW_block ?_
  refine AW_seq ?_
  refine AW_region ?_
  refine AL_p (x_field (off := 1) (o' := 1) rfl rfl rfl (by kernel_rfl) rfl) ?_
  refine AL_p (x_load1 rfl rfl rfl (by kernel_rfl) rfl) ?_
  refine AL_p (x_call1 rfl rfl rfl (cloneRows_c out (by omega) 104) rfl rfl rfl rfl) ?_
  refine AL_p (x_assign rfl rfl) ?_
  refine AL_nil ?_
  refine AW_seq ?_
  refine AW_seq ?_
  refine AW_region ?_
  refine AL_p (x_field (off := 1) (o' := 1) rfl rfl rfl (by kernel_rfl) rfl) ?_
  refine AL_p (x_load1 rfl rfl rfl (by kernel_rfl) rfl) ?_
  refine AL_p (x_len (E := 42) (n := 1) rfl rfl (by kernel_rfl)) ?_
  refine AL_p (x_move rfl rfl) ?_
  refine AL_nil ?_
  refine AW_block ?_
  refine AW_loop2 (ι := {q : Nat // q ≤ out.length}) (fun p => [(5, .one (.own 104)), (29, .one (.c (.int .i64 ((p.1) : Int))))]) (fun p => [(104, some (.arr 42 rowE (reachTo r out (p.1) 0) false))]) [1, 2, 4, 27, 28] [100, 101, 200] (fun p => out.length - (p.1)) ⟨0, by omega⟩ (rn []) ?_ ?_
  exact ⟨by (repeat refine ⟨⟨_, rfl, by first | exact VLe.rf | exact vle_int (by dsimp only; omega)⟩, ?_⟩); exact trivial, by (repeat refine ⟨⟨_, rfl, by first | exact BLe.rf | exact BLe.box AllC.rf | exact BLe.arr (by first | exact reachTo_zero | exact reachTo_next hkl (by omega))⟩, ?_⟩); exact trivial, by repeat (first | exact trivial | refine ⟨⟨rfl, by first | (left; intro h; cases h) | (right; rfl), fun _ h => ⟨_, h⟩⟩, ?_⟩), rfl⟩
  rintro ⟨k, hinv⟩
  dsimp only
  have hk := hinv
  refine AW_seq ?_
  refine AW_region ?_
  refine AL_b (x_lss rfl rfl rfl) (fun b30 h30 => ?_)
  refine AL_nil ?_
  refine AW_seq ?_
  cases b30
  · try simp only [tdy] at h30
    refine AW_condF rfl ?_
    refine AW_exit (BQ_hit ?_)
    refine AW_seq ?_
    refine AW_region ?_
    refine AL_p (x_move rfl rfl) ?_
    refine AL_p (x_callR rfl rfl rfl (relOfI_c 2 (reachTo r out k 0) (reach_vals h13 g) (reach_small h13 hr g ho (by omega)) 110) rfl AllV.rf rfl rfl rfl rfl rfl) ?_
    refine AL_p (x_move rfl rfl) ?_
    refine AL_p (x_extract rfl rfl rfl) ?_
    refine AL_b (x_extract rfl rfl rfl) (fun b68 h68 => ?_)
    refine AL_p (x_alloc (z := .agg #[.int .i64 0, .slice none 0 0]) 111 rfl (by kernel_rfl) rfl rfl rfl rfl) ?_
    refine AL_p (x_store (n := 2) rfl rfl rfl rfl (by kernel_rfl) rfl rfl rfl) ?_
    refine AL_p (x_assign rfl rfl) ?_
    refine AL_nil ?_
    refine AW_seq ?_
    refine AW_seq ?_
    refine AW_region ?_
    refine AL_p (x_move rfl rfl) ?_
    refine AL_p (x_not rfl rfl) ?_
    refine AL_nil ?_
    cases b68
    · try simp only [tdy] at h68
      have hno := relReach_big (g.next h13 (k := k)).srt (g.next h13).tc (relOf_false h68)
      refine AW_condT rfl ?_
      refine AW_seq ?_
      refine AW_region ?_
      refine AL_p (x_build (zs := [.int .i64 0, .slice none 0 0]) (places := [(0, 1), (1, 1)]) rfl (by kernel_rfl) rfl rfl rfl rfl rfl) ?_
      refine AL_p (x_store (n := 2) rfl rfl rfl rfl (by kernel_rfl) rfl rfl rfl) ?_
      refine AL_p (x_assign rfl rfl) ?_
      refine AL_nil ?_
      refine AW_adopt (T := 42) (e := rowE) 102 101 1 rfl rfl rfl rfl rfl ?_
      refine AW_ret (BQ_ret (BQ_ret ?_))
      exact ⟨rn [(9, 101), (0, 102)], ⟨⟨⟨_, rfl, VLe.rf⟩, ⟨_, rfl, by first | (refine vle_bool ?_; rw [hno]; done) | exact VLe.rf | (refine vle_bool ?_; rw [hno]; apply Eq.symm; assumption) | exact vle_bool (by rw [hno])⟩, trivial⟩, ⟨⟨_, rfl, by first | (refine ble_eq ?_; rw [hno]; done) | (refine ble_eq ?_; rw [hno]; rfl) | exact BLe.rf⟩, ⟨_, rfl, by first | (refine BLe.arr ?_; rw [hno]; done) | (refine BLe.arr ?_; rw [hno]; rfl) | exact BLe.rf⟩, trivial⟩, trivial, rfl⟩⟩
    try simp only [tdy] at h68
    obtain ⟨hro, hn3⟩ := relOf_true h68
    have hn3 : (reachNext r out k).length ≤ 300 := hn3
    have hnl := next_len (k := k) g
    have hra : (relOf 2 (reachTo r out k 0)).1.rows = reachNext r out k := by rw [hro]; rfl
    have hrb : (relOf 2 (reachTo r out k 0)).1.arity = 2 := by rw [hro]
    refine AW_condF rfl ?_
    refine AW_skip ?_
    refine AW_seq ?_
    refine AW_seq ?_
    refine AW_region ?_
    refine AL_p (x_field (off := 1) (o' := 1) rfl rfl rfl (by kernel_rfl) rfl) ?_
    refine AL_p (x_load1 rfl rfl rfl (by kernel_rfl) rfl) ?_
    refine AL_p (x_olen (E := 42) (n := 1) rfl rfl rfl (by kernel_rfl)) ?_
    refine AL_p (x_field (off := 1) (o' := 1) rfl rfl rfl (by kernel_rfl) rfl) ?_
    refine AL_p (x_load1 rfl rfl rfl (by kernel_rfl) rfl) ?_
    refine AL_p (x_len (E := 42) (n := 1) rfl rfl (by kernel_rfl)) ?_
    refine AL_b (x_eql rfl rfl rfl) (fun b78 h78 => ?_)
    refine AL_nil ?_
    cases b78
    rotate_left
    · try simp only [tdy] at h78
      rw [hra] at h78
      have hno := (relReach_yes h13 (by omega) (next_done h13 g (by omega) (by omega)) hn3).trans hro.symm
      refine AW_condT rfl ?_
      refine AW_seq ?_
      refine AW_region ?_
      refine AL_p (x_loadN (n := 2) rfl rfl rfl (by kernel_rfl) rfl rfl) ?_
      refine AL_p (x_store (n := 2) rfl rfl rfl rfl (by kernel_rfl) rfl rfl rfl) ?_
      refine AL_p (x_assign rfl rfl) ?_
      refine AL_nil ?_
      refine AW_ret (BQ_ret (BQ_ret ?_))
      exact ⟨rn [(9, 101), (0, 110)], ⟨⟨⟨_, rfl, VLe.rf⟩, ⟨_, rfl, by first | (refine vle_bool ?_; rw [hno]; done) | exact VLe.rf | (refine vle_bool ?_; rw [hno]; apply Eq.symm; assumption) | exact vle_bool (by rw [hno])⟩, trivial⟩, ⟨⟨_, rfl, by first | (refine ble_eq ?_; rw [hno]; done) | (refine ble_eq ?_; rw [hno]; rfl) | exact BLe.rf⟩, ⟨_, rfl, by first | (refine BLe.arr ?_; rw [hno]; done) | (refine BLe.arr ?_; rw [hno]; rfl) | exact BLe.rf⟩, trivial⟩, trivial, rfl⟩⟩
    try simp only [tdy] at h78
    rw [hra] at h78
    have hlt : out.length < (reachNext r out k).length := by omega
    refine AW_condF rfl ?_
    refine AW_skip ?_
    refine AW_shutB 110 111 1 rfl rfl rfl rfl ?_
    refine AW_region ?_
    refine AL_p (x_loadN (n := 2) rfl rfl rfl (by kernel_rfl) rfl rfl) ?_
    refine AL_p (x_store (n := 2) rfl rfl rfl rfl (by kernel_rfl) rfl rfl rfl) ?_
    refine AL_nil ?_
    refine ⟨⟨reachNext r out k, ⟨g.next h13, hn3⟩⟩, rn [], ?_, by dsimp only; omega⟩
    exact ⟨by (repeat refine ⟨⟨_, rfl, by first | with_reducible exact VLe.rf | exact VLe.rf | exact vle_int (by dsimp only; omega)⟩, ?_⟩); exact trivial, by (repeat refine ⟨⟨_, rfl, by first | with_reducible exact BLe.rf | with_reducible exact boxPair hrb hra | exact boxPair har2 rfl | (refine BLe.arr ?_; exact rfl) | exact BLe.rf | exact BLe.box AllC.rf⟩, ?_⟩); exact trivial, by repeat (first | exact trivial | refine ⟨⟨rfl, by first | (left; intro h; cases h) | (right; rfl), fun _ h => ⟨_, h⟩⟩, ?_⟩), rfl⟩
  try simp only [tdy] at h30
  have hkl : k < out.length := by omega
  have hx2 := tc_len (g.tc out[k] (List.getElem_mem hkl))
  refine AW_condT rfl ?_
  refine AW_skip ?_
  refine AW_seq ?_
  refine AW_block ?_
  refine AW_seq ?_
  refine AW_region ?_
  refine AL_p (x_index (E := 42) (n := 1) rfl rfl rfl (by kernel_rfl) rfl (k := k) rfl (by omega)) ?_
  refine AL_p (x_eloadW (n := 1) rfl rfl (by kernel_rfl) rfl) ?_
  refine AL_p (x_alloc (z := .agg #[.slice none 0 0]) 105 rfl (by kernel_rfl) rfl rfl rfl rfl) ?_
  refine AL_p (x_store (n := 1) rfl rfl rfl rfl (by kernel_rfl) rfl rfl rfl) ?_
  refine AL_nil ?_
  refine AW_seq ?_
  refine AW_region ?_
  refine AL_p (x_field (off := 1) (o' := 1) rfl rfl rfl (by kernel_rfl) rfl) ?_
  refine AL_p (x_load1 rfl rfl rfl (by kernel_rfl) rfl) ?_
  refine AL_p (x_len (E := 42) (n := 1) rfl rfl (by kernel_rfl)) ?_
  refine AL_p (x_move rfl rfl) ?_
  refine AL_nil ?_
  refine AW_block ?_
  refine AW_loop2 (ι := {q : Nat // q ≤ r.rows.length}) (fun p => [(5, .one (.own 104)), (36, .one (.c (.int .i64 ((p.1) : Int))))]) (fun p => [(104, some (.arr 42 rowE (reachTo r out k (p.1)) false))]) [1, 2, 4, 7, 27, 28, 29, 34, 35] [100, 101, 105, 200] (fun p => r.rows.length - (p.1)) ⟨0, by omega⟩ (rn []) ?_ ?_
  exact ⟨by (repeat refine ⟨⟨_, rfl, by first | exact VLe.rf | exact vle_int (by dsimp only; omega)⟩, ?_⟩); exact trivial, by (repeat refine ⟨⟨_, rfl, by first | exact BLe.rf | exact BLe.box AllC.rf | exact BLe.arr (by first | exact reachTo_no hkl hjl hj1 | (rw [linkRow_at hx2 hy2]; exact reachTo_yes hkl hjl hj1))⟩, ?_⟩); exact trivial, by repeat (first | exact trivial | refine ⟨⟨rfl, by first | (left; intro h; cases h) | (right; rfl), fun _ h => ⟨_, h⟩⟩, ?_⟩), rfl⟩
  rintro ⟨j, hinv⟩
  dsimp only
  have hj := hinv
  refine AW_seq ?_
  refine AW_region ?_
  refine AL_b (x_lss rfl rfl rfl) (fun b37 h37 => ?_)
  refine AL_nil ?_
  refine AW_seq ?_
  cases b37
  · try simp only [tdy] at h37
    refine AW_condF rfl ?_
    refine AW_exit (BQ_hit ?_)
    refine AW_region ?_
    refine AL_p (x_add rfl rfl rfl (IntWalk.i64_in _ (by omega))) ?_
    refine AL_p (x_move rfl rfl) ?_
    refine AL_nil ?_
    refine ⟨⟨k + 1, by omega⟩, rn [], ?_, by dsimp only; omega⟩
    exact ⟨by (repeat refine ⟨⟨_, rfl, by first | exact VLe.rf | exact vle_int (by dsimp only; omega)⟩, ?_⟩); exact trivial, by (repeat refine ⟨⟨_, rfl, by first | exact BLe.rf | exact BLe.box AllC.rf | exact BLe.arr (by first | exact reachTo_zero | exact reachTo_next hkl (by omega))⟩, ?_⟩); exact trivial, by repeat (first | exact trivial | refine ⟨⟨rfl, by first | (left; intro h; cases h) | (right; rfl), fun _ h => ⟨_, h⟩⟩, ?_⟩), rfl⟩
  try simp only [tdy] at h37
  have hjl : j < r.rows.length := by omega
  have hy2 := tc_len (g.tc r.rows[j] (g.sup _ (List.getElem_mem hjl)))
  refine AW_condT rfl ?_
  refine AW_skip ?_
  refine AW_seq ?_
  refine AW_block ?_
  refine AW_seq ?_
  refine AW_region ?_
  refine AL_p (x_index (E := 42) (n := 1) rfl rfl rfl (by kernel_rfl) rfl (k := j) rfl (by omega)) ?_
  refine AL_p (x_eloadW (n := 1) rfl rfl (by kernel_rfl) rfl) ?_
  refine AL_p (x_alloc (z := .agg #[.slice none 0 0]) 106 rfl (by kernel_rfl) rfl rfl rfl rfl) ?_
  refine AL_p (x_store (n := 1) rfl rfl rfl rfl (by kernel_rfl) rfl rfl rfl) ?_
  refine AL_nil ?_
  refine AW_seq ?_
  refine AW_draw rfl ?_
  refine AL_p (x_field (off := 0) (o' := 0) rfl rfl rfl (by kernel_rfl) rfl) ?_
  refine AL_p (x_load1 rfl rfl rfl (by kernel_rfl) rfl) ?_
  refine AL_p (x_index (E := 24) (n := 2) rfl rfl rfl (by kernel_rfl) rfl (k := 1) rfl (by omega)) ?_
  refine AL_p (x_eloadW (n := 2) rfl rfl (by kernel_rfl) rfl) ?_
  refine AL_p (x_field (off := 0) (o' := 0) rfl rfl rfl (by kernel_rfl) rfl) ?_
  refine AL_p (x_load1 rfl rfl rfl (by kernel_rfl) rfl) ?_
  refine AL_p (x_index (E := 24) (n := 2) rfl rfl rfl (by kernel_rfl) rfl (k := 0) rfl (by omega)) ?_
  refine AL_p (x_eloadW (n := 2) rfl rfl (by kernel_rfl) rfl) ?_
  refine AL_b (x_veql rfl rfl rfl) (fun b48 h48 => ?_)
  refine AL_nild (by kernel_rfl) ?_
  cases b48
  · try simp only [tdy] at h48
    have hj1 := linkOne_at hx2 hy2 h48
    refine AW_condF rfl ?_
    refine AW_skip ?_
    refine AW_region ?_
    refine AL_p (x_add rfl rfl rfl (IntWalk.i64_in _ (by omega))) ?_
    refine AL_p (x_move rfl rfl) ?_
    refine AL_nil ?_
    refine ⟨⟨j + 1, by omega⟩, rn [], ?_, by dsimp only; omega⟩
    exact ⟨by (repeat refine ⟨⟨_, rfl, by first | exact VLe.rf | exact vle_int (by dsimp only; omega)⟩, ?_⟩); exact trivial, by (repeat refine ⟨⟨_, rfl, by first | exact BLe.rf | exact BLe.box AllC.rf | exact BLe.arr (by first | exact reachTo_no hkl hjl hj1 | (rw [linkRow_at hx2 hy2]; exact reachTo_yes hkl hjl hj1))⟩, ?_⟩); exact trivial, by repeat (first | exact trivial | refine ⟨⟨rfl, by first | (left; intro h; cases h) | (right; rfl), fun _ h => ⟨_, h⟩⟩, ?_⟩), rfl⟩
  try simp only [tdy] at h48
  have hj1 := linkOne_at hx2 hy2 h48
  refine AW_condT rfl ?_
  refine AW_draw rfl ?_
  refine AL_p (x_move rfl rfl) ?_
  refine AL_p (x_field (off := 0) (o' := 0) rfl rfl rfl (by kernel_rfl) rfl) ?_
  refine AL_p (x_load1 rfl rfl rfl (by kernel_rfl) rfl) ?_
  refine AL_p (x_index (E := 24) (n := 2) rfl rfl rfl (by kernel_rfl) rfl (k := 0) rfl (by omega)) ?_
  refine AL_p (x_eloadW (n := 2) rfl rfl (by kernel_rfl) rfl) ?_
  refine AL_p (x_field (off := 0) (o' := 0) rfl rfl rfl (by kernel_rfl) rfl) ?_
  refine AL_p (x_load1 rfl rfl rfl (by kernel_rfl) rfl) ?_
  refine AL_p (x_index (E := 24) (n := 2) rfl rfl rfl (by kernel_rfl) rfl (k := 1) rfl (by omega)) ?_
  refine AL_p (x_eloadW (n := 2) rfl rfl (by kernel_rfl) rfl) ?_
  refine AL_p (y_bslice (E := 24) (e := valE) [.tmp 53, .tmp 57] ([(out[k]'(by omega))[0]'(by omega), (r.rows[j]'(by omega))[1]'(by omega)]) 107 rfl rfl rfl rfl rfl rfl rfl rfl FitL.rf rfl rfl rfl rfl rfl rfl (by kernel_rfl)) ?_
  refine AL_p (x_build (zs := [.slice none 0 0]) (places := [(0, 1)]) rfl (by kernel_rfl) rfl rfl rfl rfl rfl) ?_
  refine AL_p (y_bslice (E := 42) (e := rowE) [.tmp 59] ([[(out[k]'(by omega))[0]'(by omega), (r.rows[j]'(by omega))[1]'(by omega)]]) 108 rfl rfl rfl rfl rfl rfl rfl rfl FitL.rf rfl rfl rfl rfl rfl rfl (by kernel_rfl)) ?_
  refine AL_p (y_append 109 rfl rfl rfl rfl rfl rfl rfl rfl (by kernel_rfl) (by have := reachTo_len (r := r) (out := out) (k := k) (j := j) ho hr3 (by omega); simp only [List.length_cons, List.length_nil]; omega)) ?_
  refine AL_p (x_assign rfl rfl) ?_
  refine AL_nild (by kernel_rfl) ?_
  refine AW_region ?_
  refine AL_p (x_add rfl rfl rfl (IntWalk.i64_in _ (by omega))) ?_
  refine AL_p (x_move rfl rfl) ?_
  refine AL_nil ?_
  refine ⟨⟨j + 1, by omega⟩, rn [(104, 109)], ?_, by dsimp only; omega⟩
  exact ⟨by (repeat refine ⟨⟨_, rfl, by first | exact VLe.rf | exact vle_int (by dsimp only; omega)⟩, ?_⟩); exact trivial, by (repeat refine ⟨⟨_, rfl, by first | exact BLe.rf | exact BLe.box AllC.rf | exact BLe.arr (by first | exact reachTo_no hkl hjl hj1 | (rw [linkRow_at hx2 hy2]; exact reachTo_yes hkl hjl hj1))⟩, ?_⟩); exact trivial, by repeat (first | exact trivial | refine ⟨⟨rfl, by first | (left; intro h; cases h) | (right; rfl), fun _ h => ⟨_, h⟩⟩, ?_⟩), rfl⟩
theorem relReachI_c (r : Relt) (hr : smallRel r) (k : Nat) : AC Try.prog 20 [.agg (relC r)] [] (.tup [.agg [.c (.int .i64 (relReach r).1.arity), .own k], .one (.c (.bool (relReach r).2))]) [(k, some (.arr 42 rowE (relReach r).1.rows true))] := AC.at (relReachI_c0 r hr) k

set_option maxHeartbeats 4000000 in
theorem relReachS_c (r : Relt) (hr : smallRel r) : AC Try.prog 21 [.agg (relC r)] [] (.tup [.agg [.c (.int .i64 (relReach r).1.arity), .sl rowE (relReach r).1.rows], .one (.c (.bool (relReach r).2))]) [] := by
  refine AC_bodyCT (n := 2) (k := 9) (T := [(2, .one (.ptr 9 0)), (3, .one (.c (.bool (relReach r).2)))]) (Lf := ((9, some (.box [.c (.int .i64 (relReach r).1.arity), .sl rowE (relReach r).1.rows])) :: [])) Try.func21 rfl rfl Try.ntmps21 rfl Try.results21 rfl rfl rfl rfl (by kernel_rfl) rfl rfl ⟨trivial, (by repeat (first | exact trivial | refine ⟨⟨_, rfl, BLe.rf⟩, ?_⟩)), (by repeat (first | exact trivial | refine ⟨⟨rfl, by first | (left; intro h; cases h) | (right; rfl), by first | exact (fun _ h => ⟨_, h⟩) | exact (fun _ _ => ⟨_, rfl⟩)⟩, ?_⟩)), rfl⟩ ?_
  refine AW_seq ?_
  refine AW_region ?_
  refine AL_p (x_box 100 rfl rfl rfl rfl rfl rfl rfl) ?_
  refine AL_p (x_alloc (z := .agg #[.int .i64 0, .slice none 0 0]) 101 rfl (by kernel_rfl) rfl rfl rfl rfl) ?_
  refine AL_p (x_assign rfl rfl) ?_
  refine AL_nil ?_
  refine AW_seq ?_
  refine AW_seq ?_
  refine AW_region ?_
  refine AL_p (x_loadN (n := 2) rfl rfl rfl (by kernel_rfl) rfl rfl) ?_
  refine AL_b (x_call0 rfl rfl rfl (relOkS_c _ hr.1) rfl rfl) (fun b10 h10 => ?_)
  refine AL_p (x_not rfl rfl) ?_
  refine AL_p (x_move rfl rfl) ?_
  cases b10
  · try simp only [tdy] at h10
    have hno := relReach_no1 h10
    refine AL_o rfl rfl rfl rfl ?_
    refine AL_o rfl rfl rfl rfl ?_
    refine AL_o rfl rfl rfl rfl ?_
    refine AL_p (x_pickT rfl rfl rfl) ?_
    refine AL_nil ?_
    refine AW_condT rfl ?_
    refine AW_seq ?_
    refine AW_region ?_
    refine AL_p (x_build (zs := [.int .i64 0, .slice none 0 0]) (places := [(0, 1), (1, 1)]) rfl (by kernel_rfl) rfl rfl rfl rfl rfl) ?_
    refine AL_p (x_store (n := 2) rfl rfl rfl rfl (by kernel_rfl) rfl rfl rfl) ?_
    refine AL_p (x_assign rfl rfl) ?_
    refine AL_nil ?_
    refine AW_ret ?_
    first | exact ⟨rn [(9, 101)], ⟨⟨⟨_, rfl, VLe.rf⟩, ⟨_, rfl, by refine vle_bool ?_; rw [hno]⟩, trivial⟩, ⟨⟨_, rfl, by refine ble_eq ?_; rw [hno, ← har]; rfl⟩, trivial⟩, trivial, rfl⟩⟩ | exact ⟨rn [(9, 101)], ⟨⟨⟨_, rfl, VLe.rf⟩, ⟨_, rfl, by refine vle_bool ?_; rw [hno]⟩, trivial⟩, ⟨⟨_, rfl, by refine BLe.box ?_; rw [hno]; exact ⟨CLe.rf, CLe.nil, trivial⟩⟩, trivial⟩, trivial, rfl⟩⟩
  try simp only [tdy] at h10
  have hr3 := (relOk_parts h10).2.2.2
  refine AL_g rfl rfl (x_field (off := 0) (o' := 0) rfl rfl rfl (by kernel_rfl) rfl) ?_
  refine AL_g rfl rfl (x_load1 rfl rfl rfl (by kernel_rfl) rfl) ?_
  refine AL_gb rfl rfl (x_neq rfl rfl rfl) (fun b15 h15 => ?_)
  refine AL_p (x_pickF rfl rfl rfl) ?_
  refine AL_nil ?_
  cases b15
  rotate_left
  · try simp only [tdy] at h15
    have hno := relReach_no2 (r := r) (by omega)
    refine AW_condT rfl ?_
    refine AW_seq ?_
    refine AW_region ?_
    refine AL_p (x_build (zs := [.int .i64 0, .slice none 0 0]) (places := [(0, 1), (1, 1)]) rfl (by kernel_rfl) rfl rfl rfl rfl rfl) ?_
    refine AL_p (x_store (n := 2) rfl rfl rfl rfl (by kernel_rfl) rfl rfl rfl) ?_
    refine AL_p (x_assign rfl rfl) ?_
    refine AL_nil ?_
    refine AW_ret ?_
    first | exact ⟨rn [(9, 101)], ⟨⟨⟨_, rfl, VLe.rf⟩, ⟨_, rfl, by refine vle_bool ?_; rw [hno]⟩, trivial⟩, ⟨⟨_, rfl, by refine ble_eq ?_; rw [hno, ← har]; rfl⟩, trivial⟩, trivial, rfl⟩⟩ | exact ⟨rn [(9, 101)], ⟨⟨⟨_, rfl, VLe.rf⟩, ⟨_, rfl, by refine vle_bool ?_; rw [hno]⟩, trivial⟩, ⟨⟨_, rfl, by refine BLe.box ?_; rw [hno]; exact ⟨CLe.rf, CLe.nil, trivial⟩⟩, trivial⟩, trivial, rfl⟩⟩
  try simp only [tdy] at h15
  have har : r.arity = 2 := by omega
  refine AW_condF rfl ?_
  refine AW_skip ?_
  refine AW_seq ?_
  refine AW_region ?_
  refine AL_p (x_loadN (n := 2) rfl rfl rfl (by kernel_rfl) rfl rfl) ?_
  refine AL_p (x_call1 rfl rfl rfl (copyS_c r hr 102) rfl rfl rfl rfl) ?_
  refine AL_p (x_alloc (z := .agg #[.int .i64 0, .slice none 0 0]) 200 rfl (by kernel_rfl) rfl rfl rfl rfl) ?_
  refine AL_p (x_store (n := 2) rfl rfl rfl rfl (by kernel_rfl) rfl rfl rfl) ?_
  refine AL_nil ?_
  refine AW_seq ?_
  refine AW_seq ?_
  refine AW_region ?_
  refine AL_p (x_assign rfl rfl) ?_
  refine AL_nil ?_
  refine AW_block ?_
  refine AW_shutB 102 200 1 rfl rfl rfl rfl ?_
  refine AW_loop2 (ι := {q : List (List Val) × Int // (Good r (q.1) ∧ (q.1).length ≤ 300) ∧ (q.2) ≤ (q.1).length ∧ ((q.2) = (q.1).length → Closed (q.1))}) (fun p => [(5, .one (.c (.int .i64 (p.1.2))))]) (fun p => [(200, some (.box [.c (.int .i64 r.arity), .sl rowE (p.1.1)]))]) [2, 4] [100, 101] (fun p => 2 * (301 - (p.1.1).length) + min 1 (((p.1.1).length : Int) - (p.1.2)).toNat) ⟨⟨r.rows, -1⟩, ⟨⟨Good.start h10 har, hr3⟩, by omega, fun e => by omega⟩⟩ (rn []) ?_ ?_
  exact ⟨by (repeat refine ⟨⟨_, rfl, by first | with_reducible exact VLe.rf | exact VLe.rf | exact vle_int (by dsimp only; omega)⟩, ?_⟩); exact trivial, by (repeat refine ⟨⟨_, rfl, by first | with_reducible exact BLe.rf | with_reducible exact BLe.rf | (refine BLe.arr ?_; exact rfl) | exact BLe.rf | exact BLe.box AllC.rf⟩, ?_⟩); exact trivial, by repeat (first | exact trivial | refine ⟨⟨rfl, by first | (left; intro h; cases h) | (right; rfl), fun _ h => ⟨_, h⟩⟩, ?_⟩), rfl⟩
  rintro ⟨⟨out, n⟩, hinv⟩
  dsimp only
  obtain ⟨⟨g, ho⟩, hn, hcl⟩ := hinv
  have ho : out.length ≤ 300 := ho
  have g : Good r out := g
  have hn : n ≤ (out.length : Int) := hn
  have hcl : n = (out.length : Int) → Closed out := hcl
  refine AW_seq ?_
  refine AW_seq ?_
  refine AW_region ?_
  refine AL_p (x_move rfl rfl) ?_
  refine AL_p (x_field (off := 1) (o' := 1) rfl rfl rfl (by kernel_rfl) rfl) ?_
  refine AL_p (x_load1 rfl rfl rfl (by kernel_rfl) rfl) ?_
  refine AL_p (x_len (E := 42) (n := 1) rfl rfl (by kernel_rfl)) ?_
  refine AL_b (x_lss rfl rfl rfl) (fun b24 h24 => ?_)
  refine AL_nil ?_
  cases b24
  · try simp only [tdy] at h24
    have hno := relReach_yes h10 har ((hcl (by omega)).clo g) ho
    refine AW_condF rfl ?_
    refine AW_exit (BQ_hit ?_)
    refine AW_seq ?_
    refine AW_region ?_
    refine AL_p (x_loadN (n := 2) rfl rfl rfl (by kernel_rfl) rfl rfl) ?_
    refine AL_p (x_store (n := 2) rfl rfl rfl rfl (by kernel_rfl) rfl rfl rfl) ?_
    refine AL_p (x_assign rfl rfl) ?_
    refine AL_nil ?_
    refine AW_ret ?_
    first | exact ⟨rn [(9, 101)], ⟨⟨⟨_, rfl, VLe.rf⟩, ⟨_, rfl, by refine vle_bool ?_; rw [hno]⟩, trivial⟩, ⟨⟨_, rfl, by refine ble_eq ?_; rw [hno, ← har]; rfl⟩, trivial⟩, trivial, rfl⟩⟩ | exact ⟨rn [(9, 101)], ⟨⟨⟨_, rfl, VLe.rf⟩, ⟨_, rfl, by refine vle_bool ?_; rw [hno]⟩, trivial⟩, ⟨⟨_, rfl, by refine BLe.box ?_; rw [hno]; exact ⟨CLe.rf, CLe.nil, trivial⟩⟩, trivial⟩, trivial, rfl⟩⟩
  try simp only [tdy] at h24
  refine AW_condT rfl ?_
  refine AW_skip ?_
  refine AW_block ?_
  refine AW_seq ?_
  refine AW_region ?_
  refine AL_p (x_field (off := 1) (o' := 1) rfl rfl rfl (by kernel_rfl) rfl) ?_
  refine AL_p (x_load1 rfl rfl rfl (by kernel_rfl) rfl) ?_
  refine AL_p (x_len (E := 42) (n := 1) rfl rfl (by kernel_rfl)) ?_
  refine AL_p (x_assign rfl rfl) ?_
  refine AL_nil ?_
  refine AW_seq ?_
  refine AW_region ?_
  refine AL_p (x_field (off := 1) (o' := 1) rfl rfl rfl (by kernel_rfl) rfl) ?_
  refine AL_p (x_load1 rfl rfl rfl (by kernel_rfl) rfl) ?_
  refine AL_p (x_assign rfl rfl) ?_
  refine AL_nil ?_
  refine AW_seq ?_
  refine AW_region ?_
  refine AL_p (x_move rfl rfl) ?_
  refine AL_p (x_len (E := 42) (n := 1) rfl rfl (by kernel_rfl)) ?_
  refine AL_p (x_move rfl rfl) ?_
  refine AL_nil ?_
  refine AW_block ?_
  refine AW_loop2 (ι := {q : Nat // q ≤ out.length ∧ (reachU out q 0).length ≤ 300}) (fun p => [(32, .one (.c (.int .i64 ((p.1) : Int))))]) (fun p => [(200, some (.box [.c (.int .i64 r.arity), .sl rowE (reachU out (p.1) 0)]))]) [2, 4, 5, 6, 31] [100, 101] (fun p => out.length - (p.1)) ⟨0, ⟨by omega, by rw [← reachU_zero]; omega⟩⟩ (rn []) ?_ ?_
  exact ⟨by (repeat refine ⟨⟨_, rfl, by first | with_reducible exact VLe.rf | exact VLe.rf | exact vle_int (by dsimp only; omega)⟩, ?_⟩); exact trivial, by (repeat refine ⟨⟨_, rfl, by first | with_reducible exact BLe.rf | with_reducible exact boxRel reachU_zero | with_reducible exact boxRel hun | (refine BLe.arr ?_; exact rfl) | exact BLe.rf | exact BLe.box AllC.rf⟩, ?_⟩); exact trivial, by repeat (first | exact trivial | refine ⟨⟨rfl, by first | (left; intro h; cases h) | (right; rfl), fun _ h => ⟨_, h⟩⟩, ?_⟩), rfl⟩
  rintro ⟨k, hinv⟩
  dsimp only
  obtain ⟨hk, h3k⟩ := hinv
  have hk : k ≤ out.length := hk
  have h3k : (reachU out k 0).length ≤ 300 := h3k
  refine AW_seq ?_
  refine AW_region ?_
  refine AL_b (x_lss rfl rfl rfl) (fun b33 h33 => ?_)
  refine AL_nil ?_
  refine AW_seq ?_
  cases b33
  · try simp only [tdy] at h33
    have hum := reachU_more (now := out) (k := k) (j := 0)
    refine AW_condF rfl ?_
    refine AW_exit (BQ_hit ?_)
    refine ⟨⟨⟨reachU out k 0, (out.length : Int)⟩, ⟨⟨g.put h10, h3k⟩, by dsimp only; omega, fun e => reachU_closed h10 g (by omega) (by dsimp only at e; omega)⟩⟩, rn [], ?_, by dsimp only; omega⟩
    exact ⟨by (repeat refine ⟨⟨_, rfl, by first | with_reducible exact VLe.rf | exact VLe.rf | exact vle_int (by dsimp only; omega)⟩, ?_⟩); exact trivial, by (repeat refine ⟨⟨_, rfl, by first | with_reducible exact BLe.rf | with_reducible exact BLe.rf | (refine BLe.arr ?_; exact rfl) | exact BLe.rf | exact BLe.box AllC.rf⟩, ?_⟩); exact trivial, by repeat (first | exact trivial | refine ⟨⟨rfl, by first | (left; intro h; cases h) | (right; rfl), fun _ h => ⟨_, h⟩⟩, ?_⟩), rfl⟩
  try simp only [tdy] at h33
  have hkl : k < out.length := by omega
  have hx2 := tc_len (g.tc out[k] (List.getElem_mem hkl))
  refine AW_condT rfl ?_
  refine AW_skip ?_
  refine AW_seq ?_
  refine AW_block ?_
  refine AW_seq ?_
  refine AW_region ?_
  refine AL_p (x_move rfl rfl) ?_
  refine AL_p (x_assign rfl rfl) ?_
  refine AL_nil ?_
  refine AW_seq ?_
  refine AW_seq ?_
  refine AW_region ?_
  refine AL_p (x_move rfl rfl) ?_
  refine AL_p (x_len (E := 42) (n := 1) rfl rfl (by kernel_rfl)) ?_
  refine AL_p (x_move rfl rfl) ?_
  refine AL_nil ?_
  refine AW_block ?_
  refine AW_loop2 (ι := {q : Nat // q ≤ out.length}) (fun p => [(37, .one (.c (.int .i64 ((p.1) : Int))))]) (fun p => [(200, some (.box [.c (.int .i64 r.arity), .sl rowE (reachU out k (p.1))]))]) [2, 4, 5, 6, 7, 31, 32, 36] [100, 101] (fun p => out.length - (p.1)) ⟨0, by omega⟩ (rn []) ?_ ?_
  exact ⟨by (repeat refine ⟨⟨_, rfl, by first | with_reducible exact VLe.rf | exact VLe.rf | exact vle_int (by dsimp only; omega)⟩, ?_⟩); exact trivial, by (repeat refine ⟨⟨_, rfl, by first | with_reducible exact BLe.rf | with_reducible exact boxRel hu | (refine BLe.arr ?_; exact rfl) | exact BLe.rf | exact BLe.box AllC.rf⟩, ?_⟩); exact trivial, by repeat (first | exact trivial | refine ⟨⟨rfl, by first | (left; intro h; cases h) | (right; rfl), fun _ h => ⟨_, h⟩⟩, ?_⟩), rfl⟩
  rintro ⟨j, hinv⟩
  dsimp only
  have hj := hinv
  refine AW_seq ?_
  refine AW_region ?_
  refine AL_b (x_lss rfl rfl rfl) (fun b38 h38 => ?_)
  refine AL_nil ?_
  refine AW_seq ?_
  cases b38
  · try simp only [tdy] at h38
    have hun := reachU_next (now := out) (j := j) hkl (by omega)
    refine AW_condF rfl ?_
    refine AW_exit (BQ_hit ?_)
    refine AW_seq ?_
    refine AW_region ?_
    refine AL_p (x_field (off := 1) (o' := 1) rfl rfl rfl (by kernel_rfl) rfl) ?_
    refine AL_p (x_load1 rfl rfl rfl (by kernel_rfl) rfl) ?_
    refine AL_p (x_len (E := 42) (n := 1) rfl rfl (by kernel_rfl)) ?_
    refine AL_b (x_gtr rfl rfl rfl) (fun b79 h79 => ?_)
    refine AL_nil ?_
    cases b79
    · try simp only [tdy] at h79
      rw [hun] at h79
      refine AW_condF rfl ?_
      refine AW_skip ?_
      refine AW_region ?_
      refine AL_p (x_add rfl rfl rfl (IntWalk.i64_in _ (by omega))) ?_
      refine AL_p (x_move rfl rfl) ?_
      refine AL_nil ?_
      refine ⟨⟨k + 1, ⟨by omega, by omega⟩⟩, rn [], ?_, by dsimp only; omega⟩
      exact ⟨by (repeat refine ⟨⟨_, rfl, by first | with_reducible exact VLe.rf | exact VLe.rf | exact vle_int (by dsimp only; omega)⟩, ?_⟩); exact trivial, by (repeat refine ⟨⟨_, rfl, by first | with_reducible exact BLe.rf | with_reducible exact boxRel reachU_zero | with_reducible exact boxRel hun | (refine BLe.arr ?_; exact rfl) | exact BLe.rf | exact BLe.box AllC.rf⟩, ?_⟩); exact trivial, by repeat (first | exact trivial | refine ⟨⟨rfl, by first | (left; intro h; cases h) | (right; rfl), fun _ h => ⟨_, h⟩⟩, ?_⟩), rfl⟩
    try simp only [tdy] at h79
    rw [hun] at h79
    have hno := relReach_big (reachU_sorted h10 g (.inr rfl)) (fun x hx => reachU_tc g (.inr rfl) hx) h79
    refine AW_condT rfl ?_
    refine AW_seq ?_
    refine AW_region ?_
    refine AL_p (x_build (zs := [.int .i64 0, .slice none 0 0]) (places := [(0, 1), (1, 1)]) rfl (by kernel_rfl) rfl rfl rfl rfl rfl) ?_
    refine AL_p (x_store (n := 2) rfl rfl rfl rfl (by kernel_rfl) rfl rfl rfl) ?_
    refine AL_p (x_assign rfl rfl) ?_
    refine AL_nil ?_
    refine AW_ret (BQ_ret (BQ_ret (BQ_ret (BQ_ret ?_))))
    first | exact ⟨rn [(9, 101)], ⟨⟨⟨_, rfl, VLe.rf⟩, ⟨_, rfl, by refine vle_bool ?_; rw [hno]⟩, trivial⟩, ⟨⟨_, rfl, by refine ble_eq ?_; rw [hno, ← har]; rfl⟩, trivial⟩, trivial, rfl⟩⟩ | exact ⟨rn [(9, 101)], ⟨⟨⟨_, rfl, VLe.rf⟩, ⟨_, rfl, by refine vle_bool ?_; rw [hno]⟩, trivial⟩, ⟨⟨_, rfl, by refine BLe.box ?_; rw [hno]; exact ⟨CLe.rf, CLe.nil, trivial⟩⟩, trivial⟩, trivial, rfl⟩⟩
  try simp only [tdy] at h38
  have hjl : j < out.length := by omega
  have hy2 := tc_len (g.tc out[j] (List.getElem_mem hjl))
  refine AW_condT rfl ?_
  refine AW_skip ?_
  refine AW_seq ?_
  refine AW_block ?_
  refine AW_seq ?_
  refine AW_region ?_
  refine AL_p (x_move rfl rfl) ?_
  refine AL_p (x_assign rfl rfl) ?_
  refine AL_nil ?_
  refine AW_seq ?_
  refine AW_draw rfl ?_
  refine AL_p (x_move rfl rfl) ?_
  refine AL_p (x_move rfl rfl) ?_
  refine AL_p (x_index (E := 42) (n := 1) rfl rfl rfl (by kernel_rfl) rfl (k := k) rfl (by omega)) ?_
  refine AL_p (x_efield (off := 0) (o' := 0) rfl rfl (by kernel_rfl) rfl) ?_
  refine AL_p (x_eload1 rfl rfl (by kernel_rfl) rfl) ?_
  refine AL_p (x_index (E := 24) (n := 2) rfl rfl rfl (by kernel_rfl) rfl (k := 1) rfl (by omega)) ?_
  refine AL_p (x_eloadW (n := 2) rfl rfl (by kernel_rfl) rfl) ?_
  refine AL_p (x_move rfl rfl) ?_
  refine AL_p (x_move rfl rfl) ?_
  refine AL_p (x_index (E := 42) (n := 1) rfl rfl rfl (by kernel_rfl) rfl (k := j) rfl (by omega)) ?_
  refine AL_p (x_efield (off := 0) (o' := 0) rfl rfl (by kernel_rfl) rfl) ?_
  refine AL_p (x_eload1 rfl rfl (by kernel_rfl) rfl) ?_
  refine AL_p (x_index (E := 24) (n := 2) rfl rfl rfl (by kernel_rfl) rfl (k := 0) rfl (by omega)) ?_
  refine AL_p (x_eloadW (n := 2) rfl rfl (by kernel_rfl) rfl) ?_
  refine AL_b (x_veql rfl rfl rfl) (fun b54 h54 => ?_)
  refine AL_nild (by kernel_rfl) ?_
  cases b54
  · try simp only [tdy] at h54
    have hj1 := linkOne_at hx2 hy2 h54
    have hu := reachU_no hkl hjl hj1
    refine AW_condF rfl ?_
    refine AW_skip ?_
    refine AW_region ?_
    refine AL_p (x_add rfl rfl rfl (IntWalk.i64_in _ (by omega))) ?_
    refine AL_p (x_move rfl rfl) ?_
    refine AL_nil ?_
    refine ⟨⟨j + 1, by omega⟩, rn [], ?_, by dsimp only; omega⟩
    exact ⟨by (repeat refine ⟨⟨_, rfl, by first | with_reducible exact VLe.rf | exact VLe.rf | exact vle_int (by dsimp only; omega)⟩, ?_⟩); exact trivial, by (repeat refine ⟨⟨_, rfl, by first | with_reducible exact BLe.rf | with_reducible exact boxRel hu | (refine BLe.arr ?_; exact rfl) | exact BLe.rf | exact BLe.box AllC.rf⟩, ?_⟩); exact trivial, by repeat (first | exact trivial | refine ⟨⟨rfl, by first | (left; intro h; cases h) | (right; rfl), fun _ h => ⟨_, h⟩⟩, ?_⟩), rfl⟩
  try simp only [tdy] at h54
  have hj1 := linkOne_at hx2 hy2 h54
  have hu : putRow (reachU out k j) [(out[k]'(by omega))[0]'(by omega), (out[j]'(by omega))[1]'(by omega)] = (reachU out k (j + 1)) := by rw [linkRow_at hx2 hy2]; exact reachU_yes hkl hjl hj1
  refine AW_condT rfl ?_
  refine AW_draw rfl ?_
  refine AL_p (x_field (off := 1) (o' := 1) rfl rfl rfl (by kernel_rfl) rfl) ?_
  refine AL_p (x_load1 rfl rfl rfl (by kernel_rfl) rfl) ?_
  refine AL_p (x_move rfl rfl) ?_
  refine AL_p (x_move rfl rfl) ?_
  refine AL_p (x_index (E := 42) (n := 1) rfl rfl rfl (by kernel_rfl) rfl (k := k) rfl (by omega)) ?_
  refine AL_p (x_efield (off := 0) (o' := 0) rfl rfl (by kernel_rfl) rfl) ?_
  refine AL_p (x_eload1 rfl rfl (by kernel_rfl) rfl) ?_
  refine AL_p (x_index (E := 24) (n := 2) rfl rfl rfl (by kernel_rfl) rfl (k := 0) rfl (by omega)) ?_
  refine AL_p (x_eloadW (n := 2) rfl rfl (by kernel_rfl) rfl) ?_
  refine AL_p (x_move rfl rfl) ?_
  refine AL_p (x_move rfl rfl) ?_
  refine AL_p (x_index (E := 42) (n := 1) rfl rfl rfl (by kernel_rfl) rfl (k := j) rfl (by omega)) ?_
  refine AL_p (x_efield (off := 0) (o' := 0) rfl rfl (by kernel_rfl) rfl) ?_
  refine AL_p (x_eload1 rfl rfl (by kernel_rfl) rfl) ?_
  refine AL_p (x_index (E := 24) (n := 2) rfl rfl rfl (by kernel_rfl) rfl (k := 1) rfl (by omega)) ?_
  refine AL_p (x_eloadW (n := 2) rfl rfl (by kernel_rfl) rfl) ?_
  refine AL_p (y_bslice_sl (E := 24) (e := valE) [.tmp 63, .tmp 70] ([(out[k]'(by omega))[0]'(by omega), (out[j]'(by omega))[1]'(by omega)]) rfl rfl rfl rfl rfl rfl rfl rfl FitL.rf rfl rfl rfl (by kernel_rfl)) ?_
  refine AL_p (x_build (zs := [.slice none 0 0]) (places := [(0, 1)]) rfl (by kernel_rfl) rfl rfl rfl rfl rfl) ?_
  refine AL_p (x_call0 rfl rfl rfl (putS_c (reachU out k j) [(out[k]'(by omega))[0]'(by omega), (out[j]'(by omega))[1]'(by omega)] (Nat.le_trans (reachU_len ho (by omega)) (by decide)) (reachU_row g (.inl hkl)) (by simp) (reachU_sorted h10 g (.inl hkl)) (by rw [linkRow_at hx2 hy2]; exact link_valsOne h10 g (List.getElem_mem hkl) (List.getElem_mem hjl) hj1)) rfl rfl) ?_
  refine AL_p (x_field (off := 1) (o' := 1) rfl rfl rfl (by kernel_rfl) rfl) ?_
  refine AL_p (x_store (n := 1) rfl rfl rfl rfl (by kernel_rfl) rfl rfl rfl) ?_
  refine AL_nild (by kernel_rfl) ?_
  refine AW_region ?_
  refine AL_p (x_add rfl rfl rfl (IntWalk.i64_in _ (by omega))) ?_
  refine AL_p (x_move rfl rfl) ?_
  refine AL_nil ?_
  refine ⟨⟨j + 1, by omega⟩, rn [], ?_, by dsimp only; omega⟩
  exact ⟨by (repeat refine ⟨⟨_, rfl, by first | with_reducible exact VLe.rf | exact VLe.rf | exact vle_int (by dsimp only; omega)⟩, ?_⟩); exact trivial, by (repeat refine ⟨⟨_, rfl, by first | with_reducible exact BLe.rf | with_reducible exact boxRel hu | (refine BLe.arr ?_; exact rfl) | exact BLe.rf | exact BLe.box AllC.rf⟩, ?_⟩); exact trivial, by repeat (first | exact trivial | refine ⟨⟨rfl, by first | (left; intro h; cases h) | (right; rfl), fun _ h => ⟨_, h⟩⟩, ?_⟩), rfl⟩
end Go.Proofs.Ytddofobcekmbjaa

/- Laws of relations, in plain words: a row put in and taken out; union, difference and what is in both; joins; ways. -/
namespace Go.Proofs.Ytddofobcekmbjaa
open Go.RowKit
set_option linter.unusedVariables false

theorem rowOk_mk {x : List Val} (h : x.length ≤ 6) (hv : ∀ v ∈ x, valOk v = true) : rowOk x = true := by
  simp only [rowOk, Bool.and_eq_true, decide_eq_true_eq, Bool.not_eq_true']
  refine ⟨h, List.any_eq_false.2 fun v hm => ?_⟩
  simp [badVal, hv v hm]
/-- A relation is right if its rows are in order, valid and of one length. -/
theorem relOk_mk {ar : Int} {rows : List (List Val)} (hs : Sorted rows) (hl : ∀ x ∈ rows, (x.length : Int) = ar) (h0 : 0 ≤ ar) (h6 : ar ≤ 6) (h300 : rows.length ≤ 300) : relOk ⟨ar, rows⟩ = true := by
  refine relOk_good (k := rows.length) ?_ (Nat.le_refl _) h0 h6 h300
  intro j hj hjk
  have hj : j < rows.length := hj
  have hlj : (rows[j].length : Int) = ar := hl _ (List.getElem_mem hj)
  have hr : rowOk rows[j] = true := rowOk_mk (x := rows[j]) (by omega) (hs.1 j hj)
  cases j with
  | zero => exact rowAt_first hj (hl _ (List.getElem_mem hj)) hr rfl
  | succ j => exact rowAt_next hj (hl _ (List.getElem_mem hj)) hr (by omega) (hs.2 j (j + 1) (by omega) hj (by omega))
theorem relOk_lens {r : Relt} (h : relOk r = true) : ∀ x ∈ r.rows, (x.length : Int) = r.arity := fun x hx => by
  obtain ⟨j, hj, rfl⟩ := List.getElem_of_mem hx
  exact relOk_ar h hj
theorem Sorted.sub {rows rows' : List (List Val)} (h : Sorted rows) (hs : rows'.Sublist rows) : Sorted rows' := Sorted.of_pw (fun r hr => h.vals r (hs.subset hr)) (h.pw.sublist hs)
theorem relOk_sub {r : Relt} {rows : List (List Val)} (h : relOk r = true) (hs : rows.Sublist r.rows) : relOk ⟨r.arity, rows⟩ = true := by
  have hp := relOk_parts h
  exact relOk_mk ((relOk_sorted h).sub hs) (fun x hx => relOk_lens h x (hs.subset hx)) hp.2.1 hp.2.2.1 (Nat.le_trans hs.length_le hp.2.2.2)
theorem relOk_put {r : Relt} {row : List Val} (hf : fits r row = true) (h : (putRow r.rows row).length ≤ 300) : relOk ⟨r.arity, putRow r.rows row⟩ = true := by
  obtain ⟨h1, h2, h3⟩ := fits_parts hf
  have hp := relOk_parts h1
  refine relOk_mk (putRow_sorted (relOk_sorted h1) (rowOk_vals h2)) (fun x hx => ?_) hp.2.1 hp.2.2.1 h
  rcases putRow_mem hx with q | q
  · exact relOk_lens h1 x q
  · rw [q]; exact h3
theorem hasRow_iff {rows : List (List Val)} {row : List Val} : hasRow rows row = true ↔ row ∈ rows := by simp [hasRow]
theorem hasRow_not {rows : List (List Val)} {row : List Val} : hasRow rows row = false ↔ row ∉ rows := by simp [hasRow]
theorem sameRel_self {a : Relt} (h : relOk a = true) : sameRel a a = true := sameRel_yes (by simp [two, h]) (sameRows_eq rfl)
theorem sameRel_of {a b : Relt} (h : relOk a = true) (e : a = b) : sameRel a b = true := by subst e; exact sameRel_self h
/-! ### A row put in is there, and taken out is not -/
theorem add_code {r : Relt} {row : List Val} (h : ¬ (relAdd r row).2 = 0) : (relAdd r row).1.rows = [] := by
  unfold relAdd at *
  split at h
  · split at h
    · rename_i h1 h2; rw [if_pos h1, if_pos h2]
    · exact absurd rfl h
  · rename_i h1; rw [if_neg h1]
theorem add_done {r : Relt} {row : List Val} (h : (relAdd r row).2 = 0) : fits r row = true ∧ (putRow r.rows row).length ≤ 300 ∧ (relAdd r row).1 = ⟨r.arity, putRow r.rows row⟩ := by
  unfold relAdd at *
  split at h
  · rename_i h1
    split at h
    · cases h
    · rename_i h2; rw [if_pos h1, if_neg h2]; exact ⟨h1, by omega, rfl⟩
  · cases h
theorem fits_put {r : Relt} {row : List Val} (h : (relAdd r row).2 = 0) : fits (relAdd r row).1 row = true := by
  obtain ⟨h1, h2, h3⟩ := add_done h
  rw [h3]
  exact fits_ok (relOk_put h1 h2) (fits_parts h1).2.1 (fits_parts h1).2.2
theorem drop_put {r : Relt} {row : List Val} (h : (relAdd r row).2 = 0) : (relDrop (relAdd r row).1 row).2 = 0 ∧ relHas (relAdd r row).1 row = true ∧ relHas (relDrop (relAdd r row).1 row).1 row = false ∧ sameRel (relDrop (relAdd r row).1 row).1 (relDrop r row).1 = true := by
  obtain ⟨h1, h2, h3⟩ := add_done h
  have hf := fits_put h
  rw [h3] at hf ⊢
  have ok := relOk_put h1 h2
  have ok1 := (fits_parts h1).1
  have hs := relOk_sorted ok1
  have e : (putRow r.rows row).filter (fun x => !sameRow x row) = r.rows.filter (fun x => !sameRow x row) := by
    refine sorted_ext ((relOk_sorted ok).sub List.filter_sublist) (hs.sub List.filter_sublist) fun x => ?_
    simp only [List.mem_filter, putRow_iff]
    constructor
    · rintro ⟨q | q, hn⟩
      · exact ⟨q, hn⟩
      · rw [q] at hn; simp [sameRow] at hn
    · rintro ⟨q, hn⟩; exact ⟨.inl q, hn⟩
  rw [relDrop_ok hf, relDrop_ok h1]
  refine ⟨rfl, ?_, ?_, ?_⟩
  · rw [relHas_ok ok, hasRow_iff]; exact putRow_iff.2 (.inr rfl)
  · have okf : relOk ⟨r.arity, (putRow r.rows row).filter (fun x => !sameRow x row)⟩ = true := relOk_sub (r := ⟨r.arity, putRow r.rows row⟩) ok List.filter_sublist
    rw [relHas_ok okf, hasRow_not]
    intro hm
    have := (List.mem_filter.1 hm).2
    simp [sameRow] at this
  · refine sameRel_of (relOk_sub (r := ⟨r.arity, putRow r.rows row⟩) ok List.filter_sublist) ?_
    show (⟨r.arity, _⟩ : Relt) = ⟨r.arity, _⟩
    rw [e]
/-! ### Union, difference and what is in both -/
theorem relOf_no {ar : Int} {rows : List (List Val)} (h : (relOf ar rows).2 = false) : (relOf ar rows).1.rows = [] := by
  unfold relOf at *
  split
  · rfl
  · rename_i h1; rw [if_neg h1] at h; cases h
theorem union_not {a b : Relt} (h : (relUnion a b).2 = false) : (relUnion a b).1.rows = [] := by
  unfold relUnion at *
  split
  · rename_i h1; rw [if_pos h1] at h; exact relOf_no h
  · rfl
theorem union_is {a b : Relt} (h : (relUnion a b).2 = true) : two a b = true ∧ relUnion a b = (⟨a.arity, sortRows (a.rows ++ b.rows)⟩, true) ∧ (sortRows (a.rows ++ b.rows)).length ≤ 300 := by
  unfold relUnion at *
  split at h
  · rename_i h1
    rw [if_pos h1]
    exact ⟨h1, relOf_true h⟩
  · cases h
theorem two_mk {a b : Relt} (ha : relOk a = true) (hb : relOk b = true) (h : a.arity = b.arity) : two a b = true := by rw [two_ok ha hb, h]; simp
theorem sort_nodup_len {rows : List (List Val)} (hv : ValsOk rows) (hn : rows.Nodup) : (sortRows rows).length = rows.length := by
  have h1 := sortRows_len (rows := rows)
  classical
  have h2 := len_sub (b := sortRows rows) hn fun x hx => sortRows_mem.2 hx
  omega
theorem filter_lens {α : Type} {p : α → Bool} : ∀ xs : List α, (xs.filter p).length + (xs.filter fun x => !p x).length = xs.length
  | [] => rfl
  | x :: xs => by
    have := filter_lens (p := p) xs
    rw [List.filter_cons, List.filter_cons]
    cases p x <;> simp <;> omega
/-- What the law asks of two relations that have a union. -/
theorem sets_law {a b : Relt} (h : (relUnion a b).2 = true) :
    (relUnion (relMinus a b).1 (relBoth a b).1) = (a, true) ∧ (relUnion a (relMinus b a).1) = ((relUnion a b).1, true) ∧ sameRel a a = true ∧ sameRel (relUnion a b).1 (relUnion a b).1 = true ∧
      (relMinus a b).1.rows.length + (relMinus b a).1.rows.length + (relBoth a b).1.rows.length = (relUnion a b).1.rows.length := by
  obtain ⟨ht, hu, hl⟩ := union_is h
  have oa := two_left ht
  have ob := two_right ht
  have har := two_arity ht
  have ht2 : two b a = true := two_mk ob oa har.symm
  have sa := relOk_sorted oa
  have sb := relOk_sorted ob
  have pa := relOk_parts oa
  rw [relMinus_ok ht, relMinus_ok ht2, relBoth_ok ht, hu]
  have ox : relOk ⟨a.arity, a.rows.filter (fun row => !hasRow b.rows row)⟩ = true := relOk_sub oa List.filter_sublist
  have oz : relOk ⟨a.arity, a.rows.filter (fun row => hasRow b.rows row)⟩ = true := relOk_sub oa List.filter_sublist
  have oy : relOk ⟨b.arity, b.rows.filter (fun row => !hasRow a.rows row)⟩ = true := relOk_sub ob List.filter_sublist
  have vx : ValsOk ((a.rows.filter (fun row => !hasRow b.rows row)) ++ a.rows.filter (fun row => hasRow b.rows row)) := fun r hr => (List.mem_append.1 hr).elim (fun q => sa.vals r (List.mem_filter.1 q).1) fun q => sa.vals r (List.mem_filter.1 q).1
  have e1 : sortRows ((a.rows.filter (fun row => !hasRow b.rows row)) ++ a.rows.filter (fun row => hasRow b.rows row)) = a.rows := by
    refine sorted_ext (sortRows_sorted vx) sa fun x => ?_
    rw [sortRows_mem, List.mem_append, List.mem_filter, List.mem_filter]
    constructor
    · rintro (⟨q, _⟩ | ⟨q, _⟩) <;> exact q
    · intro q
      cases hh : hasRow b.rows x
      · exact .inl ⟨q, by simp⟩
      · exact .inr ⟨q, rfl⟩
  have vab : ValsOk (a.rows ++ b.rows) := fun r hr => (List.mem_append.1 hr).elim (sa.vals r) (sb.vals r)
  have vy : ValsOk (a.rows ++ b.rows.filter (fun row => !hasRow a.rows row)) := fun r hr => (List.mem_append.1 hr).elim (sa.vals r) fun q => sb.vals r (List.mem_filter.1 q).1
  have e2 : sortRows (a.rows ++ b.rows.filter (fun row => !hasRow a.rows row)) = sortRows (a.rows ++ b.rows) := by
    refine sorted_ext (sortRows_sorted vy) (sortRows_sorted vab) fun x => ?_
    rw [sortRows_mem, sortRows_mem, List.mem_append, List.mem_append, List.mem_filter]
    constructor
    · rintro (q | ⟨q, _⟩)
      · exact .inl q
      · exact .inr q
    · rintro (q | q)
      · exact .inl q
      · cases hh : hasRow a.rows x
        · exact .inr ⟨q, by simp⟩
        · exact .inl (hasRow_iff.1 hh)
  have oall : relOk ⟨a.arity, sortRows (a.rows ++ b.rows)⟩ = true := relOk_mk (sortRows_sorted vab) (fun x hx => by
    rcases List.mem_append.1 (sortRows_mem.1 hx) with q | q
    · exact relOk_lens oa x q
    · rw [har]; exact relOk_lens ob x q) pa.2.1 pa.2.2.1 hl
  refine ⟨?_, ?_, sameRel_self oa, sameRel_self oall, ?_⟩
  · rw [relUnion_ok (two_mk ox oz rfl), relOf_ok (by show ¬ 300 < ((sortRows ((a.rows.filter (fun row => !hasRow b.rows row)) ++ a.rows.filter (fun row => hasRow b.rows row))).length : Int); rw [e1]; omega)]
    show ((⟨a.arity, sortRows ((a.rows.filter (fun row => !hasRow b.rows row)) ++ a.rows.filter (fun row => hasRow b.rows row))⟩ : Relt), true) = _
    rw [e1]
  · rw [relUnion_ok (two_mk oa oy har), relOf_ok (by show ¬ 300 < ((sortRows (a.rows ++ b.rows.filter (fun row => !hasRow a.rows row))).length : Int); rw [e2]; omega)]
    show ((⟨a.arity, sortRows (a.rows ++ b.rows.filter (fun row => !hasRow a.rows row))⟩ : Relt), true) = _
    rw [e2]
  · show (a.rows.filter (fun row => !hasRow b.rows row)).length + (b.rows.filter (fun row => !hasRow a.rows row)).length + (a.rows.filter (fun row => hasRow b.rows row)).length = (sortRows (a.rows ++ b.rows)).length
    have hn : (a.rows ++ b.rows.filter (fun row => !hasRow a.rows row)).Nodup := List.nodup_append.2 ⟨sa.nodup, (sb.sub List.filter_sublist).nodup, fun x hx y hy exy => by
      subst exy
      have := (List.mem_filter.1 hy).2
      simp [hasRow, hx] at this⟩
    have h2 := sort_nodup_len vy hn
    rw [e2, List.length_append] at h2
    have h3 := filter_lens (p := fun row => hasRow b.rows row) a.rows
    omega
/-! ### Joins -/
theorem join_not {a b : Relt} {n : Int} (h : (relJoin a b n).2 = false) : (relJoin a b n).1.rows = [] := by
  unfold relJoin at *
  split
  · rename_i h1; rw [if_pos h1] at h; exact relOf_no h
  · rfl
theorem join_is {a b : Relt} {n : Int} (h : (relJoin a b n).2 = true) : relOk a = true ∧ relOk b = true ∧ 0 ≤ n ∧ n ≤ a.arity ∧ n ≤ b.arity ∧ a.arity + b.arity - n ≤ 6 ∧ relJoin a b n = (⟨a.arity + b.arity - n, sortRows (joinRows a b n.toNat)⟩, true) ∧ (sortRows (joinRows a b n.toNat)).length ≤ 300 := by
  unfold relJoin at *
  split at h
  · rename_i h1
    rw [if_pos h1]
    simp only [joinOk, joinFits, Bool.and_eq_true, decide_eq_true_eq] at h1
    obtain ⟨q1, q2, q3, q4, q5, q6⟩ := h1
    obtain ⟨q7, q8⟩ := relOf_true h
    exact ⟨q1, q2, q3, q4, q5, q6, q7, q8⟩
  · cases h
theorem joinRows_has {a b : Relt} {m : Nat} {r : List Val} (h : r ∈ joinRows a b m) : ∃ x ∈ a.rows, ∃ y ∈ b.rows, joinOne m x y = true ∧ r = joinRow m x y := by
  obtain ⟨x, hx, h⟩ := List.mem_flatMap.1 h
  obtain ⟨y, hy, rfl⟩ := List.mem_map.1 h
  exact ⟨x, hx, y, (List.mem_filter.1 hy).1, (List.mem_filter.1 hy).2, rfl⟩
/-- What the law asks of a row of a join. -/
theorem join_row {a b : Relt} {n : Int} (h : (relJoin a b n).2 = true) {r : List Val} (hr : r ∈ (relJoin a b n).1.rows) :
    (r.length : Int) = a.arity + b.arity - n ∧ relHas a (r.take a.arity.toNat) = true ∧ relHas b (r.drop (a.arity - n).toNat) = true := by
  obtain ⟨oa, ob, h0, h1, h2, h3, h4, h5⟩ := join_is h
  rw [h4] at hr
  obtain ⟨x, hx, y, hy, hj, rfl⟩ := joinRows_has (sortRows_mem.1 hr)
  have lx := relOk_lens oa x hx
  have ly := relOk_lens ob y hy
  have e := sameRow_iff.1 hj
  refine ⟨by simp only [joinRow, List.length_append, List.length_drop]; omega, ?_, ?_⟩
  · rw [relHas_ok oa, hasRow_iff]
    have : (joinRow n.toNat x y).take a.arity.toNat = x := by
      unfold joinRow
      rw [List.take_left' (by omega)]
    rw [this]; exact hx
  · rw [relHas_ok ob, hasRow_iff]
    have : (joinRow n.toNat x y).drop (a.arity - n).toNat = y := by
      unfold joinRow
      rw [List.drop_append_of_le_length (by omega), show (a.arity - n).toNat = x.length - n.toNat by omega, e, List.take_append_drop]
    rw [this]; exact hy
theorem join_right {a b : Relt} {n : Int} (h : (relJoin a b n).2 = true) : relOk (relJoin a b n).1 = true ∧ (relJoin a b n).1.arity = a.arity + b.arity - n := by
  obtain ⟨oa, ob, h0, h1, h2, h3, h4, h5⟩ := join_is h
  refine ⟨?_, by rw [h4]⟩
  have hr : ∀ r ∈ (relJoin a b n).1.rows, (r.length : Int) = a.arity + b.arity - n := fun r hr => (join_row h hr).1
  rw [h4] at hr ⊢
  have pb := relOk_parts ob
  exact relOk_mk (sortRows_sorted (join_vals oa ob)) hr (by omega) h3 h5
/-! ### Ways -/
theorem reach_not {r : Relt} (h : (relReach r).2 = false) : (relReach r).1.rows = [] := by
  unfold relReach at *
  split
  · rename_i h1
    rw [if_pos h1] at h
    split
    · rename_i h2; rw [dif_pos h2] at h; cases h
    · rfl
  · rfl
theorem reach_is {r : Relt} (h : (relReach r).2 = true) : relOk r = true ∧ r.arity = 2 ∧ ∃ L, IsClo r L ∧ L.length ≤ 300 ∧ relReach r = (⟨2, L⟩, true) := by
  unfold relReach at h
  split at h
  · rename_i h1
    split at h
    · rename_i h2
      obtain ⟨L, hc, hl⟩ := h2
      exact ⟨h1.1, h1.2, L, hc, hl, relReach_yes h1.1 h1.2 hc hl⟩
    · cases h
  · cases h
theorem reach_law {r : Relt} (h : (relReach r).2 = true) : (relBoth r (relReach r).1).1 = r ∧ relReach (relReach r).1 = ((relReach r).1, true) ∧ sameRel r r = true ∧ sameRel (relReach r).1 (relReach r).1 = true := by
  obtain ⟨ok, har, L, hc, hl, e⟩ := reach_is h
  rw [e]
  have hlen : ∀ x ∈ L, (x.length : Int) = 2 := fun x hx => by rw [tc_len ((hc.2 x).1 hx)]; rfl
  have oL : relOk ⟨2, L⟩ = true := relOk_mk hc.1 hlen (by decide) (by decide) hl
  have sub : ∀ x ∈ r.rows, x ∈ L := fun x hx => by
    obtain ⟨u, v, rfl⟩ := two_rows ok har hx
    exact (hc.2 _).2 ⟨u, v, rfl, .one hx⟩
  refine ⟨?_, ?_, sameRel_self ok, sameRel_self oL⟩
  · rw [relBoth_ok (two_mk ok oL har)]
    have : r.rows.filter (fun row => hasRow L row) = r.rows := List.filter_eq_self.2 fun x hx => hasRow_iff.2 (sub x hx)
    show (⟨r.arity, r.rows.filter (fun row => hasRow L row)⟩ : Relt) = r
    rw [this]
  · refine relReach_yes oL rfl ⟨hc.1, fun x => ⟨fun hx => ?_, fun hx => ?_⟩⟩ hl
    · obtain ⟨u, v, rfl⟩ := two_rows oL rfl hx
      exact ⟨u, v, rfl, .one hx⟩
    · obtain ⟨u, v, rfl, hr⟩ := hx
      refine (hc.2 _).2 ⟨u, v, rfl, ?_⟩
      have key : ∀ {p q : Val}, [p, q] ∈ L → Reach r.rows p q := fun {p q} hpq => by
        obtain ⟨u', v', e1, h1⟩ := (hc.2 _).1 hpq
        simp only [List.cons.injEq, and_true] at e1
        obtain ⟨rfl, rfl⟩ := e1
        exact h1
      induction hr with
      | one h1 => exact key h1
      | step _ h1 ih => exact ih.trans (key h1)
end Go.Proofs.Ytddofobcekmbjaa

/- The walk of FnReach (printed by walk.py) -/
namespace Go.Proofs.Ytddofobcekmbjaa
open Go.RowKit
set_option linter.unusedVariables false
set_option linter.unusedSimpArgs false
set_option maxRecDepth 100000

set_option maxHeartbeats 4000000 in
theorem lawFnReach.fn (b : List Int) : AC Try.prog 5 [.one (.sl (intE .u8) b)] [] (.one (.c (.bool true))) [] := by
  refine AC_body1 Try.func5 rfl rfl Try.ntmps5 rfl Try.results5 ?_
  refine AW_seq ?_
  refine AW_region ?_
  refine AL_p (x_assign rfl rfl) ?_
  refine AL_nil ?_
  refine AW_seq ?_
  refine AW_seq ?_
  refine AW_region ?_
  refine AL_p (x_move rfl rfl) ?_
  refine AL_p (x_len (E := 5) (n := 1) rfl rfl (by kernel_rfl)) ?_
  refine AL_b (x_gtr rfl rfl rfl) (fun b14 h14 => ?_)
  refine AL_nil ?_
  cases b14
  rotate_left
  · try simp only [tdy] at h14
    refine AW_condT rfl ?_
    refine AW_seq ?_
    refine AW_region ?_
    refine AL_p (x_assign rfl rfl) ?_
    refine AL_nil ?_
    refine AW_ret ?_
    exact ⟨rn [], ⟨⟨⟨_, rfl, vle_bool rfl⟩, trivial⟩, trivial, trivial, rfl⟩⟩
  try simp only [tdy] at h14
  have hb : b.length ≤ 1048576 := by omega
  obtain ⟨x, hr, hdr⟩ := drawReach_x b hb
  have ha : smallRel (relReach x).1 := relReach_small hr
  refine AW_condF rfl ?_
  refine AW_skip ?_
  refine AW_seq ?_
  refine AW_region ?_
  refine AL_p (x_move rfl rfl) ?_
  refine AL_p (x_call0 rfl rfl rfl (hdr) rfl rfl) ?_
  refine AL_p (x_alloc (z := .agg #[.int .i64 0, .slice none 0 0]) 100 rfl (by kernel_rfl) rfl rfl rfl rfl) ?_
  refine AL_p (x_store (n := 2) rfl rfl rfl rfl (by kernel_rfl) rfl rfl rfl) ?_
  refine AL_nil ?_
  refine AW_seq ?_
  refine AW_region ?_
  refine AL_p (x_loadN (n := 2) rfl rfl rfl (by kernel_rfl) rfl rfl) ?_
  refine AL_p (x_call1 rfl rfl rfl (relReachI_c x hr 101) rfl rfl rfl rfl) ?_
  refine AL_p (x_move rfl rfl) ?_
  refine AL_p (x_extract rfl rfl rfl) ?_
  refine AL_b (x_extract rfl rfl rfl) (fun b21 h21 => ?_)
  refine AL_p (x_alloc (z := .agg #[.int .i64 0, .slice none 0 0]) 102 rfl (by kernel_rfl) rfl rfl rfl rfl) ?_
  refine AL_p (x_store (n := 2) rfl rfl rfl rfl (by kernel_rfl) rfl rfl rfl) ?_
  refine AL_p (x_assign rfl rfl) ?_
  refine AL_nil ?_
  refine AW_seq ?_
  refine AW_shutB 101 102 1 rfl rfl rfl rfl ?_
  refine AW_region ?_
  refine AL_p (x_loadN (n := 2) rfl rfl rfl (by kernel_rfl) rfl rfl) ?_
  refine AL_p (x_call0 rfl rfl rfl (relReachS_c x hr) rfl rfl) ?_
  refine AL_p (x_move rfl rfl) ?_
  refine AL_p (x_extract rfl rfl rfl) ?_
  refine AL_b (x_extract rfl rfl rfl) (fun b26 h26 => ?_)
  refine AL_p (x_alloc (z := .agg #[.int .i64 0, .slice none 0 0]) 103 rfl (by kernel_rfl) rfl rfl rfl rfl) ?_
  refine AL_p (x_store (n := 2) rfl rfl rfl rfl (by kernel_rfl) rfl rfl rfl) ?_
  refine AL_p (x_assign rfl rfl) ?_
  refine AL_nil ?_
  refine AW_seq ?_
  refine AW_seq ?_
  refine AW_region ?_
  refine AL_p (x_move rfl rfl) ?_
  refine AL_p (x_move rfl rfl) ?_
  refine AL_b (x_bneq rfl rfl rfl (by kernel_rfl)) (fun b29 h29 => ?_)
  refine AL_nil ?_
  cases b29
  rotate_left
  · exfalso; rw [← h21, ← h26] at h29; simp at h29
  try simp only [tdy] at h29
  refine AW_condF rfl ?_
  refine AW_skip ?_
  refine AW_seq ?_
  refine AW_seq ?_
  refine AW_region ?_
  refine AL_p (x_move rfl rfl) ?_
  refine AL_p (x_not rfl rfl) ?_
  refine AL_nil ?_
  cases b21
  · try simp only [tdy] at h21
    have he := reach_not h21
    refine AW_condT rfl ?_
    refine AW_seq ?_
    refine AW_region ?_
    refine AL_p (x_field (off := 1) (o' := 1) rfl rfl rfl (by kernel_rfl) rfl) ?_
    refine AL_p (x_load1 rfl rfl rfl (by kernel_rfl) rfl) ?_
    refine AL_p (x_len (E := 42) (n := 1) rfl rfl (by kernel_rfl)) ?_
    refine AL_b (x_eql rfl rfl rfl) (fun b35 h35 => ?_)
    refine AL_p (x_assign rfl rfl) ?_
    refine AL_nil ?_
    refine AW_ret ?_
    cases b35
    · exfalso; rw [he] at h35; simp at h35
    try simp only [tdy] at h35
    exact ⟨rn [], ⟨⟨⟨_, rfl, vle_bool rfl⟩, trivial⟩, trivial, trivial, rfl⟩⟩
  try simp only [tdy] at h21
  have r1 := (reach_law h21).1
  have r2 := (reach_law h21).2.1
  have r3 := (reach_law h21).2.2.1
  have r4 := (reach_law h21).2.2.2
  refine AW_condF rfl ?_
  refine AW_skip ?_
  refine AW_seq ?_
  refine AW_region ?_
  refine AL_p (x_loadN (n := 2) rfl rfl rfl (by kernel_rfl) rfl rfl) ?_
  refine AL_p (x_loadN (n := 2) rfl rfl rfl (by kernel_rfl) rfl rfl) ?_
  refine AL_p (x_call1 rfl rfl rfl (relBothI_c x (relReach x).1 hr ha 104) rfl rfl rfl rfl) ?_
  refine AL_p (x_move rfl rfl) ?_
  refine AL_p (x_extract rfl rfl rfl) ?_
  refine AL_p (x_extract rfl rfl rfl) ?_
  refine AL_p (x_alloc (z := .agg #[.int .i64 0, .slice none 0 0]) 105 rfl (by kernel_rfl) rfl rfl rfl rfl) ?_
  refine AL_p (x_store (n := 2) rfl rfl rfl rfl (by kernel_rfl) rfl rfl rfl) ?_
  refine AL_p (x_assign rfl rfl) ?_
  refine AL_nil ?_
  refine AW_seq ?_
  refine AW_shutB 104 105 1 rfl rfl rfl rfl ?_
  refine AW_region ?_
  refine AL_p (x_loadN (n := 2) rfl rfl rfl (by kernel_rfl) rfl rfl) ?_
  refine AL_p (x_call1 rfl rfl rfl (relReachI_c (relReach x).1 ha 106) rfl rfl rfl rfl) ?_
  refine AL_p (x_move rfl rfl) ?_
  refine AL_p (x_extract rfl rfl rfl) ?_
  refine AL_b (x_extract rfl rfl rfl) (fun b46 h46 => ?_)
  refine AL_p (x_alloc (z := .agg #[.int .i64 0, .slice none 0 0]) 107 rfl (by kernel_rfl) rfl rfl rfl rfl) ?_
  refine AL_p (x_store (n := 2) rfl rfl rfl rfl (by kernel_rfl) rfl rfl rfl) ?_
  refine AL_p (x_assign rfl rfl) ?_
  refine AL_nil ?_
  refine AW_seq ?_
  refine AW_shutB 106 107 1 rfl rfl rfl rfl ?_
  refine AW_region ?_
  refine AL_p (x_move rfl rfl) ?_
  refine AL_p (x_move rfl rfl) ?_
  cases b46
  · exfalso; rw [r2] at h46; cases h46
  try simp only [tdy] at h46
  refine AL_g rfl rfl (x_loadN (n := 2) rfl rfl rfl (by kernel_rfl) rfl rfl) ?_
  refine AL_g rfl rfl (x_loadN (n := 2) rfl rfl rfl (by kernel_rfl) rfl rfl) ?_
  refine AL_gb rfl rfl (x_call0 rfl rfl rfl (sameRelS_c _ _ (relBoth_small hr ha) hr) rfl rfl) (fun b51 h51 => ?_)
  refine AL_p (x_pickT rfl rfl rfl) ?_
  refine AL_p (x_move rfl rfl) ?_
  cases b51
  · exfalso; rw [r1, r3] at h51; cases h51
  try simp only [tdy] at h51
  refine AL_g rfl rfl (x_loadN (n := 2) rfl rfl rfl (by kernel_rfl) rfl rfl) ?_
  refine AL_g rfl rfl (x_loadN (n := 2) rfl rfl rfl (by kernel_rfl) rfl rfl) ?_
  refine AL_gb rfl rfl (x_call0 rfl rfl rfl (sameRelS_c _ _ (relReach_small ha) ha) rfl rfl) (fun b56 h56 => ?_)
  refine AL_p (x_pickT rfl rfl rfl) ?_
  refine AL_p (x_assign rfl rfl) ?_
  refine AL_nil ?_
  refine AW_ret ?_
  cases b56
  · exfalso; rw [r2, r4] at h56; cases h56
  try simp only [tdy] at h56
  exact ⟨rn [], ⟨⟨⟨_, rfl, vle_bool rfl⟩, trivial⟩, trivial, trivial, rfl⟩⟩
theorem lawFnReach.walk (w : World) (a0 : Option Addr) (n0 c0 : Nat) (x0 : List Int) (bs0 : List Nat) (g0 : SliceRep (intE .u8) w a0 n0 c0 x0 bs0) : Calls Try.prog 5 #[.slice a0 n0 c0] w fun e w' => e = .returned (.bool true) ∧ Below w.heap.size w w' :=
  (lawFnReach.fn x0).calls w _ ⟨arg_sl g0 (fun i hi => (sliceE (intE .u8)).lt (sliceE_iff.2 g0) i hi), trivial⟩
end Go.Proofs.Ytddofobcekmbjaa

/- The walk of FnAddDrop (printed by walk.py) -/
namespace Go.Proofs.Ytddofobcekmbjaa
open Go.RowKit
set_option linter.unusedVariables false
set_option linter.unusedSimpArgs false
set_option maxRecDepth 100000

set_option maxHeartbeats 4000000 in
theorem lawFnAddDrop.fn (b : List Int) : AC Try.prog 6 [.one (.sl (intE .u8) b)] [] (.one (.c (.bool true))) [] := by
  refine AC_body1 Try.func6 rfl rfl Try.ntmps6 rfl Try.results6 ?_
  refine AW_seq ?_
  refine AW_region ?_
  refine AL_p (x_assign rfl rfl) ?_
  refine AL_nil ?_
  refine AW_seq ?_
  refine AW_seq ?_
  refine AW_region ?_
  refine AL_p (x_move rfl rfl) ?_
  refine AL_p (x_len (E := 5) (n := 1) rfl rfl (by kernel_rfl)) ?_
  refine AL_b (x_gtr rfl rfl rfl) (fun b14 h14 => ?_)
  refine AL_nil ?_
  cases b14
  rotate_left
  · try simp only [tdy] at h14
    refine AW_condT rfl ?_
    refine AW_seq ?_
    refine AW_region ?_
    refine AL_p (x_assign rfl rfl) ?_
    refine AL_nil ?_
    refine AW_ret ?_
    exact ⟨rn [], ⟨⟨⟨_, rfl, vle_bool rfl⟩, trivial⟩, trivial, trivial, rfl⟩⟩
  try simp only [tdy] at h14
  have hb : b.length ≤ 1048576 := by omega
  obtain ⟨x, y, hr, hw, hdr⟩ := drawAdd_x b hb
  have ha : smallRel (relAdd x y).1 := relAdd_small hr hw
  have hd : smallRel (relDrop (relAdd x y).1 y).1 := relDrop_small ha
  refine AW_condF rfl ?_
  refine AW_skip ?_
  refine AW_seq ?_
  refine AW_region ?_
  refine AL_p (x_move rfl rfl) ?_
  refine AL_p (x_call0 rfl rfl rfl (hdr) rfl rfl) ?_
  refine AL_p (x_move rfl rfl) ?_
  refine AL_p (x_extract rfl rfl rfl) ?_
  refine AL_p (x_extract rfl rfl rfl) ?_
  refine AL_p (x_alloc (z := .agg #[.int .i64 0, .slice none 0 0]) 100 rfl (by kernel_rfl) rfl rfl rfl rfl) ?_
  refine AL_p (x_alloc (z := .agg #[.slice none 0 0]) 101 rfl (by kernel_rfl) rfl rfl rfl rfl) ?_
  refine AL_p (x_store (n := 2) rfl rfl rfl rfl (by kernel_rfl) rfl rfl rfl) ?_
  refine AL_p (x_store (n := 1) rfl rfl rfl rfl (by kernel_rfl) rfl rfl rfl) ?_
  refine AL_nil ?_
  refine AW_seq ?_
  refine AW_region ?_
  refine AL_p (x_loadN (n := 2) rfl rfl rfl (by kernel_rfl) rfl rfl) ?_
  refine AL_p (x_loadN (n := 1) rfl rfl rfl (by kernel_rfl) rfl rfl) ?_
  refine AL_p (x_call1 rfl rfl rfl (relAddI_c x y hr hw 102) rfl rfl rfl rfl) ?_
  refine AL_p (x_move rfl rfl) ?_
  refine AL_p (x_extract rfl rfl rfl) ?_
  refine AL_p (x_extract rfl rfl rfl) ?_
  refine AL_p (x_alloc (z := .agg #[.int .i64 0, .slice none 0 0]) 103 rfl (by kernel_rfl) rfl rfl rfl rfl) ?_
  refine AL_p (x_store (n := 2) rfl rfl rfl rfl (by kernel_rfl) rfl rfl rfl) ?_
  refine AL_p (x_assign rfl rfl) ?_
  refine AL_nil ?_
  refine AW_seq ?_
  refine AW_shutB 102 103 1 rfl rfl rfl rfl ?_
  refine AW_region ?_
  refine AL_p (x_loadN (n := 2) rfl rfl rfl (by kernel_rfl) rfl rfl) ?_
  refine AL_p (x_loadN (n := 1) rfl rfl rfl (by kernel_rfl) rfl rfl) ?_
  refine AL_p (x_call0 rfl rfl rfl (relAddS_c x y hr hw) rfl rfl) ?_
  refine AL_p (x_move rfl rfl) ?_
  refine AL_p (x_extract rfl rfl rfl) ?_
  refine AL_p (x_extract rfl rfl rfl) ?_
  refine AL_p (x_alloc (z := .agg #[.int .i64 0, .slice none 0 0]) 104 rfl (by kernel_rfl) rfl rfl rfl rfl) ?_
  refine AL_p (x_store (n := 2) rfl rfl rfl rfl (by kernel_rfl) rfl rfl rfl) ?_
  refine AL_p (x_assign rfl rfl) ?_
  refine AL_nil ?_
  refine AW_seq ?_
  refine AW_seq ?_
  refine AW_region ?_
  refine AL_p (x_move rfl rfl) ?_
  refine AL_p (x_move rfl rfl) ?_
  refine AL_b (x_neq rfl rfl rfl) (fun b34 h34 => ?_)
  refine AL_nil ?_
  cases b34
  rotate_left
  · exfalso; simp at h34
  try simp only [tdy] at h34
  refine AW_condF rfl ?_
  refine AW_skip ?_
  refine AW_seq ?_
  refine AW_seq ?_
  refine AW_region ?_
  refine AL_p (x_move rfl rfl) ?_
  refine AL_b (x_neq rfl rfl rfl) (fun b36 h36 => ?_)
  refine AL_nil ?_
  cases b36
  rotate_left
  · try simp only [tdy] at h36
    have he := add_code h36
    refine AW_condT rfl ?_
    refine AW_seq ?_
    refine AW_region ?_
    refine AL_p (x_field (off := 1) (o' := 1) rfl rfl rfl (by kernel_rfl) rfl) ?_
    refine AL_p (x_load1 rfl rfl rfl (by kernel_rfl) rfl) ?_
    refine AL_p (x_len (E := 42) (n := 1) rfl rfl (by kernel_rfl)) ?_
    refine AL_b (x_eql rfl rfl rfl) (fun b40 h40 => ?_)
    refine AL_p (x_assign rfl rfl) ?_
    refine AL_nil ?_
    refine AW_ret ?_
    cases b40
    · exfalso; rw [he] at h40; simp at h40
    try simp only [tdy] at h40
    exact ⟨rn [], ⟨⟨⟨_, rfl, vle_bool rfl⟩, trivial⟩, trivial, trivial, rfl⟩⟩
  try simp only [tdy] at h36
  have d1 := (drop_put h36).1
  have d2 := (drop_put h36).2.1
  have d3 := (drop_put h36).2.2.1
  have d4 := (drop_put h36).2.2.2
  refine AW_condF rfl ?_
  refine AW_skip ?_
  refine AW_seq ?_
  refine AW_region ?_
  refine AL_p (x_loadN (n := 2) rfl rfl rfl (by kernel_rfl) rfl rfl) ?_
  refine AL_p (x_loadN (n := 1) rfl rfl rfl (by kernel_rfl) rfl rfl) ?_
  refine AL_p (x_call1 rfl rfl rfl (relDropI_c (relAdd x y).1 y ha hw 105) rfl rfl rfl rfl) ?_
  refine AL_p (x_move rfl rfl) ?_
  refine AL_p (x_extract rfl rfl rfl) ?_
  refine AL_p (x_extract rfl rfl rfl) ?_
  refine AL_p (x_alloc (z := .agg #[.int .i64 0, .slice none 0 0]) 106 rfl (by kernel_rfl) rfl rfl rfl rfl) ?_
  refine AL_p (x_store (n := 2) rfl rfl rfl rfl (by kernel_rfl) rfl rfl rfl) ?_
  refine AL_p (x_assign rfl rfl) ?_
  refine AL_nil ?_
  refine AW_seq ?_
  refine AW_shutB 105 106 1 rfl rfl rfl rfl ?_
  refine AW_region ?_
  refine AL_p (x_loadN (n := 2) rfl rfl rfl (by kernel_rfl) rfl rfl) ?_
  refine AL_p (x_loadN (n := 1) rfl rfl rfl (by kernel_rfl) rfl rfl) ?_
  refine AL_p (x_call1 rfl rfl rfl (relDropI_c x y hr hw 107) rfl rfl rfl rfl) ?_
  refine AL_p (x_move rfl rfl) ?_
  refine AL_p (x_extract rfl rfl rfl) ?_
  refine AL_p (x_extract rfl rfl rfl) ?_
  refine AL_p (x_alloc (z := .agg #[.int .i64 0, .slice none 0 0]) 108 rfl (by kernel_rfl) rfl rfl rfl rfl) ?_
  refine AL_p (x_store (n := 2) rfl rfl rfl rfl (by kernel_rfl) rfl rfl rfl) ?_
  refine AL_p (x_assign rfl rfl) ?_
  refine AL_nil ?_
  refine AW_seq ?_
  refine AW_shutB 107 108 1 rfl rfl rfl rfl ?_
  refine AW_region ?_
  refine AL_p (x_move rfl rfl) ?_
  refine AL_b (x_eql rfl rfl rfl) (fun b54 h54 => ?_)
  refine AL_p (x_move rfl rfl) ?_
  cases b54
  · exfalso; rw [d1] at h54; simp at h54
  try simp only [tdy] at h54
  refine AL_g rfl rfl (x_loadN (n := 2) rfl rfl rfl (by kernel_rfl) rfl rfl) ?_
  refine AL_g rfl rfl (x_loadN (n := 1) rfl rfl rfl (by kernel_rfl) rfl rfl) ?_
  refine AL_gb rfl rfl (x_call0 rfl rfl rfl (relHasI_c _ _ ha.1 (fun x hx => (ha.2 x hx).1)) rfl rfl) (fun b58 h58 => ?_)
  refine AL_p (x_pickT rfl rfl rfl) ?_
  refine AL_p (x_move rfl rfl) ?_
  cases b58
  · exfalso; rw [d2] at h58; cases h58
  try simp only [tdy] at h58
  refine AL_g rfl rfl (x_loadN (n := 2) rfl rfl rfl (by kernel_rfl) rfl rfl) ?_
  refine AL_g rfl rfl (x_loadN (n := 1) rfl rfl rfl (by kernel_rfl) rfl rfl) ?_
  refine AL_gb rfl rfl (x_call0 rfl rfl rfl (relHasI_c _ _ hd.1 (fun x hx => (hd.2 x hx).1)) rfl rfl) (fun b63 h63 => ?_)
  refine AL_g rfl rfl (x_not rfl rfl) ?_
  refine AL_p (x_pickT rfl rfl rfl) ?_
  refine AL_p (x_move rfl rfl) ?_
  cases b63
  rotate_left
  · exfalso; rw [d3] at h63; cases h63
  try simp only [tdy] at h63
  refine AL_g rfl rfl (x_loadN (n := 2) rfl rfl rfl (by kernel_rfl) rfl rfl) ?_
  refine AL_g rfl rfl (x_loadN (n := 2) rfl rfl rfl (by kernel_rfl) rfl rfl) ?_
  refine AL_gb rfl rfl (x_call0 rfl rfl rfl (sameRelS_c _ _ hd (relDrop_small hr)) rfl rfl) (fun b69 h69 => ?_)
  refine AL_p (x_pickT rfl rfl rfl) ?_
  refine AL_p (x_assign rfl rfl) ?_
  refine AL_nil ?_
  refine AW_ret ?_
  cases b69
  · exfalso; rw [d4] at h69; cases h69
  try simp only [tdy] at h69
  exact ⟨rn [], ⟨⟨⟨_, rfl, vle_bool rfl⟩, trivial⟩, trivial, trivial, rfl⟩⟩
theorem lawFnAddDrop.walk (w : World) (a0 : Option Addr) (n0 c0 : Nat) (x0 : List Int) (bs0 : List Nat) (g0 : SliceRep (intE .u8) w a0 n0 c0 x0 bs0) : Calls Try.prog 6 #[.slice a0 n0 c0] w fun e w' => e = .returned (.bool true) ∧ Below w.heap.size w w' :=
  (lawFnAddDrop.fn x0).calls w _ ⟨arg_sl g0 (fun i hi => (sliceE (intE .u8)).lt (sliceE_iff.2 g0) i hi), trivial⟩
end Go.Proofs.Ytddofobcekmbjaa

/- The walk of FnSets (printed by walk.py) -/
namespace Go.Proofs.Ytddofobcekmbjaa
open Go.RowKit
set_option linter.unusedVariables false
set_option linter.unusedSimpArgs false
set_option maxRecDepth 100000

set_option maxHeartbeats 4000000 in
theorem lawFnSets.fn (b : List Int) : AC Try.prog 7 [.one (.sl (intE .u8) b)] [] (.one (.c (.bool true))) [] := by
  refine AC_body1 Try.func7 rfl rfl Try.ntmps7 rfl Try.results7 ?_
  refine AW_seq ?_
  refine AW_region ?_
  refine AL_p (x_assign rfl rfl) ?_
  refine AL_nil ?_
  refine AW_seq ?_
  refine AW_seq ?_
  refine AW_region ?_
  refine AL_p (x_move rfl rfl) ?_
  refine AL_p (x_len (E := 5) (n := 1) rfl rfl (by kernel_rfl)) ?_
  refine AL_b (x_gtr rfl rfl rfl) (fun b21 h21 => ?_)
  refine AL_nil ?_
  cases b21
  rotate_left
  · try simp only [tdy] at h21
    refine AW_condT rfl ?_
    refine AW_seq ?_
    refine AW_region ?_
    refine AL_p (x_assign rfl rfl) ?_
    refine AL_nil ?_
    refine AW_ret ?_
    exact ⟨rn [], ⟨⟨⟨_, rfl, vle_bool rfl⟩, trivial⟩, trivial, trivial, rfl⟩⟩
  try simp only [tdy] at h21
  have hb : b.length ≤ 1048576 := by omega
  obtain ⟨x, y, ha, hB, hdr⟩ := drawUnion_x b hb
  have hx : smallRel (relMinus x y).1 := relMinus_small ha hB
  have hy : smallRel (relMinus y x).1 := relMinus_small hB ha
  have hz : smallRel (relBoth x y).1 := relBoth_small ha hB
  have ho : smallRel (relUnion (relMinus x y).1 (relBoth x y).1).1 := relUnion_small hx hz
  have hu : smallRel (relUnion x y).1 := relUnion_small ha hB
  have zx : (relMinus x y).1.rows.length ≤ 1048576 := hx.1
  have zy : (relMinus y x).1.rows.length ≤ 1048576 := hy.1
  have zz : (relBoth x y).1.rows.length ≤ 1048576 := hz.1
  refine AW_condF rfl ?_
  refine AW_skip ?_
  refine AW_seq ?_
  refine AW_region ?_
  refine AL_p (x_move rfl rfl) ?_
  refine AL_p (x_call0 rfl rfl rfl (hdr) rfl rfl) ?_
  refine AL_p (x_move rfl rfl) ?_
  refine AL_p (x_extract rfl rfl rfl) ?_
  refine AL_p (x_extract rfl rfl rfl) ?_
  refine AL_p (x_alloc (z := .agg #[.int .i64 0, .slice none 0 0]) 100 rfl (by kernel_rfl) rfl rfl rfl rfl) ?_
  refine AL_p (x_alloc (z := .agg #[.int .i64 0, .slice none 0 0]) 101 rfl (by kernel_rfl) rfl rfl rfl rfl) ?_
  refine AL_p (x_store (n := 2) rfl rfl rfl rfl (by kernel_rfl) rfl rfl rfl) ?_
  refine AL_p (x_store (n := 2) rfl rfl rfl rfl (by kernel_rfl) rfl rfl rfl) ?_
  refine AL_nil ?_
  refine AW_seq ?_
  refine AW_region ?_
  refine AL_p (x_loadN (n := 2) rfl rfl rfl (by kernel_rfl) rfl rfl) ?_
  refine AL_p (x_loadN (n := 2) rfl rfl rfl (by kernel_rfl) rfl rfl) ?_
  refine AL_p (x_call1 rfl rfl rfl (relUnionI_c x y ha hB 102) rfl rfl rfl rfl) ?_
  refine AL_p (x_move rfl rfl) ?_
  refine AL_p (x_extract rfl rfl rfl) ?_
  refine AL_b (x_extract rfl rfl rfl) (fun b32 h32 => ?_)
  refine AL_p (x_alloc (z := .agg #[.int .i64 0, .slice none 0 0]) 103 rfl (by kernel_rfl) rfl rfl rfl rfl) ?_
  refine AL_p (x_store (n := 2) rfl rfl rfl rfl (by kernel_rfl) rfl rfl rfl) ?_
  refine AL_p (x_assign rfl rfl) ?_
  refine AL_nil ?_
  refine AW_seq ?_
  refine AW_shutB 102 103 1 rfl rfl rfl rfl ?_
  refine AW_region ?_
  refine AL_p (x_loadN (n := 2) rfl rfl rfl (by kernel_rfl) rfl rfl) ?_
  refine AL_p (x_loadN (n := 2) rfl rfl rfl (by kernel_rfl) rfl rfl) ?_
  refine AL_p (x_call0 rfl rfl rfl (relUnionS_c x y ha hB) rfl rfl) ?_
  refine AL_p (x_move rfl rfl) ?_
  refine AL_p (x_extract rfl rfl rfl) ?_
  refine AL_b (x_extract rfl rfl rfl) (fun b38 h38 => ?_)
  refine AL_p (x_alloc (z := .agg #[.int .i64 0, .slice none 0 0]) 104 rfl (by kernel_rfl) rfl rfl rfl rfl) ?_
  refine AL_p (x_store (n := 2) rfl rfl rfl rfl (by kernel_rfl) rfl rfl rfl) ?_
  refine AL_p (x_assign rfl rfl) ?_
  refine AL_nil ?_
  refine AW_seq ?_
  refine AW_seq ?_
  refine AW_region ?_
  refine AL_p (x_move rfl rfl) ?_
  refine AL_p (x_move rfl rfl) ?_
  refine AL_b (x_bneq rfl rfl rfl (by kernel_rfl)) (fun b41 h41 => ?_)
  refine AL_nil ?_
  cases b41
  rotate_left
  · exfalso; rw [← h32, ← h38] at h41; simp at h41
  try simp only [tdy] at h41
  refine AW_condF rfl ?_
  refine AW_skip ?_
  refine AW_seq ?_
  refine AW_seq ?_
  refine AW_region ?_
  refine AL_p (x_move rfl rfl) ?_
  refine AL_p (x_not rfl rfl) ?_
  refine AL_nil ?_
  cases b32
  · try simp only [tdy] at h32
    have he := union_not h32
    refine AW_condT rfl ?_
    refine AW_seq ?_
    refine AW_region ?_
    refine AL_p (x_field (off := 1) (o' := 1) rfl rfl rfl (by kernel_rfl) rfl) ?_
    refine AL_p (x_load1 rfl rfl rfl (by kernel_rfl) rfl) ?_
    refine AL_p (x_len (E := 42) (n := 1) rfl rfl (by kernel_rfl)) ?_
    refine AL_b (x_eql rfl rfl rfl) (fun b47 h47 => ?_)
    refine AL_p (x_assign rfl rfl) ?_
    refine AL_nil ?_
    refine AW_ret ?_
    cases b47
    · exfalso; rw [he] at h47; simp at h47
    try simp only [tdy] at h47
    exact ⟨rn [], ⟨⟨⟨_, rfl, vle_bool rfl⟩, trivial⟩, trivial, trivial, rfl⟩⟩
  try simp only [tdy] at h32
  have s1 := (sets_law h32).1
  have s2 := (sets_law h32).2.1
  have s3 := (sets_law h32).2.2.1
  have s4 := (sets_law h32).2.2.2.1
  have s5 := (sets_law h32).2.2.2.2
  have e1 : (relUnion (relMinus x y).1 (relBoth x y).1).1 = x := congrArg Prod.fst s1
  have e2 : (relUnion (relUnion (relMinus x y).1 (relBoth x y).1).1 (relMinus y x).1) = ((relUnion x y).1, true) := by rw [e1]; exact s2
  have e3 : (relUnion (relMinus x y).1 (relBoth x y).1).2 = true := congrArg Prod.snd s1
  refine AW_condF rfl ?_
  refine AW_skip ?_
  refine AW_seq ?_
  refine AW_region ?_
  refine AL_p (x_loadN (n := 2) rfl rfl rfl (by kernel_rfl) rfl rfl) ?_
  refine AL_p (x_loadN (n := 2) rfl rfl rfl (by kernel_rfl) rfl rfl) ?_
  refine AL_p (x_call1 rfl rfl rfl (relMinusI_c x y ha hB 105) rfl rfl rfl rfl) ?_
  refine AL_p (x_move rfl rfl) ?_
  refine AL_p (x_extract rfl rfl rfl) ?_
  refine AL_p (x_extract rfl rfl rfl) ?_
  refine AL_p (x_alloc (z := .agg #[.int .i64 0, .slice none 0 0]) 106 rfl (by kernel_rfl) rfl rfl rfl rfl) ?_
  refine AL_p (x_store (n := 2) rfl rfl rfl rfl (by kernel_rfl) rfl rfl rfl) ?_
  refine AL_p (x_assign rfl rfl) ?_
  refine AL_nil ?_
  refine AW_seq ?_
  refine AW_shutB 105 106 1 rfl rfl rfl rfl ?_
  refine AW_region ?_
  refine AL_p (x_loadN (n := 2) rfl rfl rfl (by kernel_rfl) rfl rfl) ?_
  refine AL_p (x_loadN (n := 2) rfl rfl rfl (by kernel_rfl) rfl rfl) ?_
  refine AL_p (x_call1 rfl rfl rfl (relMinusI_c y x hB ha 107) rfl rfl rfl rfl) ?_
  refine AL_p (x_move rfl rfl) ?_
  refine AL_p (x_extract rfl rfl rfl) ?_
  refine AL_p (x_extract rfl rfl rfl) ?_
  refine AL_p (x_alloc (z := .agg #[.int .i64 0, .slice none 0 0]) 108 rfl (by kernel_rfl) rfl rfl rfl rfl) ?_
  refine AL_p (x_store (n := 2) rfl rfl rfl rfl (by kernel_rfl) rfl rfl rfl) ?_
  refine AL_p (x_assign rfl rfl) ?_
  refine AL_nil ?_
  refine AW_seq ?_
  refine AW_shutB 107 108 1 rfl rfl rfl rfl ?_
  refine AW_region ?_
  refine AL_p (x_loadN (n := 2) rfl rfl rfl (by kernel_rfl) rfl rfl) ?_
  refine AL_p (x_loadN (n := 2) rfl rfl rfl (by kernel_rfl) rfl rfl) ?_
  refine AL_p (x_call1 rfl rfl rfl (relBothI_c x y ha hB 109) rfl rfl rfl rfl) ?_
  refine AL_p (x_move rfl rfl) ?_
  refine AL_p (x_extract rfl rfl rfl) ?_
  refine AL_p (x_extract rfl rfl rfl) ?_
  refine AL_p (x_alloc (z := .agg #[.int .i64 0, .slice none 0 0]) 110 rfl (by kernel_rfl) rfl rfl rfl rfl) ?_
  refine AL_p (x_store (n := 2) rfl rfl rfl rfl (by kernel_rfl) rfl rfl rfl) ?_
  refine AL_p (x_assign rfl rfl) ?_
  refine AL_nil ?_
  refine AW_seq ?_
  refine AW_shutB 109 110 1 rfl rfl rfl rfl ?_
  refine AW_region ?_
  refine AL_p (x_loadN (n := 2) rfl rfl rfl (by kernel_rfl) rfl rfl) ?_
  refine AL_p (x_loadN (n := 2) rfl rfl rfl (by kernel_rfl) rfl rfl) ?_
  refine AL_p (x_call1 rfl rfl rfl (relUnionI_c (relMinus x y).1 (relBoth x y).1 hx hz 111) rfl rfl rfl rfl) ?_
  refine AL_p (x_move rfl rfl) ?_
  refine AL_p (x_extract rfl rfl rfl) ?_
  refine AL_b (x_extract rfl rfl rfl) (fun b71 h71 => ?_)
  refine AL_p (x_alloc (z := .agg #[.int .i64 0, .slice none 0 0]) 112 rfl (by kernel_rfl) rfl rfl rfl rfl) ?_
  refine AL_p (x_store (n := 2) rfl rfl rfl rfl (by kernel_rfl) rfl rfl rfl) ?_
  refine AL_p (x_assign rfl rfl) ?_
  refine AL_nil ?_
  refine AW_seq ?_
  refine AW_shutB 111 112 1 rfl rfl rfl rfl ?_
  refine AW_region ?_
  refine AL_p (x_loadN (n := 2) rfl rfl rfl (by kernel_rfl) rfl rfl) ?_
  refine AL_p (x_loadN (n := 2) rfl rfl rfl (by kernel_rfl) rfl rfl) ?_
  refine AL_p (x_call1 rfl rfl rfl (relUnionI_c (relUnion (relMinus x y).1 (relBoth x y).1).1 (relMinus y x).1 ho hy 113) rfl rfl rfl rfl) ?_
  refine AL_p (x_move rfl rfl) ?_
  refine AL_p (x_extract rfl rfl rfl) ?_
  refine AL_b (x_extract rfl rfl rfl) (fun b77 h77 => ?_)
  refine AL_p (x_alloc (z := .agg #[.int .i64 0, .slice none 0 0]) 114 rfl (by kernel_rfl) rfl rfl rfl rfl) ?_
  refine AL_p (x_store (n := 2) rfl rfl rfl rfl (by kernel_rfl) rfl rfl rfl) ?_
  refine AL_p (x_assign rfl rfl) ?_
  refine AL_nil ?_
  refine AW_seq ?_
  refine AW_shutB 113 114 1 rfl rfl rfl rfl ?_
  refine AW_region ?_
  refine AL_p (x_move rfl rfl) ?_
  refine AL_p (x_move rfl rfl) ?_
  cases b71
  · exfalso; rw [e3] at h71; cases h71
  try simp only [tdy] at h71
  refine AL_g rfl rfl (x_move rfl rfl) ?_
  refine AL_p (x_pickT rfl rfl rfl) ?_
  refine AL_p (x_move rfl rfl) ?_
  cases b77
  · exfalso; rw [e2] at h77; cases h77
  try simp only [tdy] at h77
  refine AL_g rfl rfl (x_loadN (n := 2) rfl rfl rfl (by kernel_rfl) rfl rfl) ?_
  refine AL_g rfl rfl (x_loadN (n := 2) rfl rfl rfl (by kernel_rfl) rfl rfl) ?_
  refine AL_gb rfl rfl (x_call0 rfl rfl rfl (sameRelS_c _ _ ho ha) rfl rfl) (fun b85 h85 => ?_)
  refine AL_p (x_pickT rfl rfl rfl) ?_
  refine AL_p (x_move rfl rfl) ?_
  cases b85
  · exfalso; rw [e1, s3] at h85; cases h85
  try simp only [tdy] at h85
  refine AL_g rfl rfl (x_loadN (n := 2) rfl rfl rfl (by kernel_rfl) rfl rfl) ?_
  refine AL_g rfl rfl (x_loadN (n := 2) rfl rfl rfl (by kernel_rfl) rfl rfl) ?_
  refine AL_gb rfl rfl (x_call0 rfl rfl rfl (sameRelS_c _ _ (relUnion_small ho hy) hu) rfl rfl) (fun b90 h90 => ?_)
  refine AL_p (x_pickT rfl rfl rfl) ?_
  refine AL_p (x_move rfl rfl) ?_
  cases b90
  · exfalso; rw [e2] at h90; rw [s4] at h90; cases h90
  try simp only [tdy] at h90
  refine AL_g rfl rfl (x_field (off := 1) (o' := 1) rfl rfl rfl (by kernel_rfl) rfl) ?_
  refine AL_g rfl rfl (x_load1 rfl rfl rfl (by kernel_rfl) rfl) ?_
  refine AL_g rfl rfl (x_len (E := 42) (n := 1) rfl rfl (by kernel_rfl)) ?_
  refine AL_g rfl rfl (x_field (off := 1) (o' := 1) rfl rfl rfl (by kernel_rfl) rfl) ?_
  refine AL_g rfl rfl (x_load1 rfl rfl rfl (by kernel_rfl) rfl) ?_
  refine AL_g rfl rfl (x_len (E := 42) (n := 1) rfl rfl (by kernel_rfl)) ?_
  refine AL_g rfl rfl (x_add rfl rfl rfl (IntWalk.i64_in _ (by omega))) ?_
  refine AL_g rfl rfl (x_field (off := 1) (o' := 1) rfl rfl rfl (by kernel_rfl) rfl) ?_
  refine AL_g rfl rfl (x_load1 rfl rfl rfl (by kernel_rfl) rfl) ?_
  refine AL_g rfl rfl (x_len (E := 42) (n := 1) rfl rfl (by kernel_rfl)) ?_
  refine AL_g rfl rfl (x_add rfl rfl rfl (IntWalk.i64_in _ (by omega))) ?_
  refine AL_g rfl rfl (x_field (off := 1) (o' := 1) rfl rfl rfl (by kernel_rfl) rfl) ?_
  refine AL_g rfl rfl (x_load1 rfl rfl rfl (by kernel_rfl) rfl) ?_
  refine AL_g rfl rfl (x_len (E := 42) (n := 1) rfl rfl (by kernel_rfl)) ?_
  refine AL_gb rfl rfl (x_eql rfl rfl rfl) (fun b107 h107 => ?_)
  refine AL_p (x_pickT rfl rfl rfl) ?_
  refine AL_p (x_assign rfl rfl) ?_
  refine AL_nil ?_
  refine AW_ret ?_
  cases b107
  · exfalso; simp only [beq_eq_false_iff_ne, ne_eq] at h107; omega
  try simp only [tdy] at h107
  exact ⟨rn [], ⟨⟨⟨_, rfl, vle_bool rfl⟩, trivial⟩, trivial, trivial, rfl⟩⟩
theorem lawFnSets.walk (w : World) (a0 : Option Addr) (n0 c0 : Nat) (x0 : List Int) (bs0 : List Nat) (g0 : SliceRep (intE .u8) w a0 n0 c0 x0 bs0) : Calls Try.prog 7 #[.slice a0 n0 c0] w fun e w' => e = .returned (.bool true) ∧ Below w.heap.size w w' :=
  (lawFnSets.fn x0).calls w _ ⟨arg_sl g0 (fun i hi => (sliceE (intE .u8)).lt (sliceE_iff.2 g0) i hi), trivial⟩
end Go.Proofs.Ytddofobcekmbjaa

/- The kit's contract of slices.Grow laid at values. -/
namespace Go.Proofs
open Go.Shelf
def Try.growVal_ren : Go.Shelf.Ren := ⟨fun | 4 => 83 | n => n, fun | 22 => 40 | 25 => 24 | 3 => 3 | 4 => 4 | 9 => 9 | 20 => 20 | 0 => 0 | n => n, fun | n => n⟩
theorem Try.growVal : Go.Proofs.Lays8.n4 Try.prog Try.growVal_ren := {
  mixed := by kernel_rfl
  f4 := ⟨Try.f83.name, by decide, Try.func83.trans (congrArg some (by kernel_rfl))⟩
  t0 := Try.underlying0
  a0 := Try.isAgg0
  z0 := Try.sizeOf0
  v0 := Try.zeroValue0
  t3 := Try.underlying3
  a3 := Try.isAgg3
  z3 := Try.sizeOf3
  v3 := Try.zeroValue3
  t4 := Try.underlying4
  a4 := Try.isAgg4
  z4 := Try.sizeOf4
  v4 := Try.zeroValue4
  t9 := Try.underlying9
  a9 := Try.isAgg9
  z9 := Try.sizeOf9
  v9 := Try.zeroValue9
  t20 := Try.underlying20
  a20 := Try.isAgg20
  z20 := Try.sizeOf20
  v20 := Try.zeroValue20
  t22 := Try.underlying40
  a22 := Try.isAgg40
  z22 := Try.sizeOf40
  v22 := Try.zeroValue40 }
end Go.Proofs

/- slices.Grow of no slice, at values. -/
namespace Go.Proofs.Ytddofobcekmbjaa
open Go.RowKit
set_option linter.unusedVariables false

theorem growVal_c0 (n : Nat) (hn : n ≤ 2097152) : AC Try.prog 83 [.one (.c (.slice none 0 0)), .one (.c (.int .i64 (n : Int)))] [] (.one (.own 0)) [(0, some (.arr 24 valE [] true))] :=
  AC.room valE ⟨_, _, Try.func83, rfl, rfl⟩ fun w g cargs h => by
    obtain ⟨x, y, rfl, h1, h2⟩ := inv2 h
    rw [(inv_c h1).1, (inv_c h2).1]
    rcases Nat.eq_zero_or_pos n with h0 | h0
    · subst h0
      refine (Any8.slices_Grow_room Try.growVal none 0 0 0 w (Nat.le_refl _) (by omega) (by omega) (Nat.le_refl _)).mono ?_
      rintro en w' ⟨rfl, rfl⟩
      exact ⟨_, rfl, ⟨by simp, .inl ⟨rfl, rfl⟩⟩, ⟨rfl, rfl, rfl, Nat.le_refl _, fun _ _ _ => rfl⟩, fun b hb => by cases hb⟩
    · obtain ⟨hu, hn0, ti, z, hti, hz, hzs, htis, htib⟩ := arrT_spec (P := Try.prog) (T := 40) (E := 24) (n := 2) (b := 24) (by kernel_rfl)
      refine (Any8.slices_Grow_grow Try.growVal ti z hti hz (by omega) none 0 0 n [] w (Nat.le_refl _) (by omega) (by rw [htib]; omega) (by omega) (by simp) (fun _ => rfl) (fun a ha => by cases ha)).mono ?_
      rintro en w' ⟨rfl, rfl⟩
      have hG := grownCap_ge w (0 + n) 0 24
      have hM := grownCap_le_maxLen w (0 + n) 0 24 (by unfold maxLen; omega)
      refine ⟨_, rfl, ⟨by simp, .inr ⟨w.heap.size, _, _, rfl, Nat.zero_le _, heap_alloc_new w.drew _, Nat.zero_le _, hM, ?_, by simp⟩⟩, ⟨rfl, rfl, rfl, by simp, fun k hk _ => Below.heap_alloc w.drew _ k hk⟩, fun b hb => by
        have : w.heap.size = b := by simpa [Value.ownBlock] using hb
        omega⟩
      show (_ : Array Value).size = _ * 2
      simp only [Array.size_append, size_zeroCells, List.size_toArray, List.length_nil, hzs]
      show 0 + (0 + n - 0) * 2 + (grownCap w (0 + n) 0 24 - (0 + n)) * 2 = grownCap w (0 + n) 0 24 * 2
      omega
theorem growVal_c (n : Nat) (hn : n ≤ 2097152) (k : Nat) : AC Try.prog 83 [.one (.c (.slice none 0 0)), .one (.c (.int .i64 (n : Int)))] [] (.one (.own k)) [(k, some (.arr 24 valE [] true))] := AC.at (growVal_c0 n hn) k
end Go.Proofs.Ytddofobcekmbjaa

/- Lemmas of the walks, part 6. -/
import Derived.Test.YtibhoanjglfaoaaGreatT5
/- Stores that are drawn (printed by walk.py) -/
namespace Go.Proofs.YtibhoanjglfaoaaGreat
open Go.RowKit
set_option linter.unusedVariables false
set_option linter.unusedSimpArgs false
set_option maxRecDepth 100000

set_option maxHeartbeats 4000000 in
theorem l12Set_c0 (rels : List Namedt) (nm : ByteArray) (r : Relt) (hs : rels.length ≤ 1048575) (hm : ∀ y ∈ rels, smallNamed y) (hr : smallRel r) : AC Tryz.prog 35 [.agg [.sl namedE rels], .one (.c (.string nm)), .agg (relC r)] [] (.agg [.own 0]) [(0, some (.arr 84 namedE (setRel rels (⟨nm, r⟩ : Namedt)) true))] := by
  refine AC_bodyC (n := 1) (k := 9) (T := [(6, .one (.ptr 9 0))]) (Lf := ((9, some (.box [.own 0])) :: [(0, some (.arr 84 namedE (setRel rels (⟨nm, r⟩ : Namedt)) true))])) Tryz.func35 rfl rfl Tryz.ntmps35 rfl Tryz.results35 rfl rfl (by kernel_rfl) rfl rfl ⟨trivial, (by repeat (first | exact trivial | refine ⟨⟨_, rfl, BLe.rf⟩, ?_⟩)), (by repeat (first | exact trivial | refine ⟨⟨rfl, by first | (left; intro h; cases h) | (right; rfl), by first | exact (fun _ h => ⟨_, h⟩) | exact (fun _ _ => ⟨_, rfl⟩) | (intro _ h; cases h)⟩, ?_⟩)), rfl⟩ ?_
  refine AW_seq ?_
  refine AW_region ?_
  refine AL_p (x_box 100 rfl rfl rfl rfl rfl rfl rfl) ?_
  refine AL_p (x_box 101 rfl rfl rfl rfl rfl rfl rfl) ?_
  refine AL_p (x_alloc (z := .agg #[.slice none 0 0]) 102 rfl (by kernel_rfl) rfl rfl rfl rfl) ?_
  refine AL_nil ?_
  refine AW_seq ?_
  refine AW_region ?_
  refine AL_p (x_build (zs := [.slice none 0 0]) (places := [(0, 1)]) rfl (by kernel_rfl) rfl rfl rfl rfl rfl) ?_
  refine AL_p (x_alloc (z := .agg #[.slice none 0 0]) 103 rfl (by kernel_rfl) rfl rfl rfl rfl) ?_
  refine AL_p (x_store (n := 1) rfl rfl rfl rfl (by kernel_rfl) rfl rfl rfl) ?_
  refine AL_nil ?_
  refine AW_seq ?_
  refine AW_region ?_
  refine AL_p (x_assign rfl rfl) ?_
  refine AL_nil ?_
  refine AW_seq ?_
  refine AW_seq ?_
  refine AW_region ?_
  refine AL_p (x_field (off := 0) (o' := 0) rfl rfl rfl (by kernel_rfl) rfl) ?_
  refine AL_p (x_load1 rfl rfl rfl (by kernel_rfl) rfl) ?_
  refine AL_p (x_len (E := 84) (n := 3) rfl rfl (by kernel_rfl)) ?_
  refine AL_p (x_move rfl rfl) ?_
  refine AL_nil ?_
  refine AW_block ?_
  refine AW_adopt (T := 84) (e := namedE) 104 103 0 rfl rfl rfl rfl rfl ?_
  refine AW_loop2 (ι := {q : Nat × Bool // (q.1) ≤ rels.length ∧ (setTo rels (⟨nm, r⟩ : Namedt) (q.1)).1 = (q.2)}) (fun p => [(8, .one (.c (.bool (p.1.2)))), (14, .one (.c (.int .i64 ((p.1.1) : Int))))]) (fun p => [(104, some (.arr 84 namedE (setTo rels (⟨nm, r⟩ : Namedt) (p.1.1)).2 true))]) [1, 3, 5, 6, 7, 13] [100, 101, 102, 103] (fun p => rels.length - (p.1.1)) ⟨⟨0, false⟩, ⟨by omega, rfl⟩⟩ (rn []) ?_ ?_
  exact ⟨by (repeat refine ⟨⟨_, rfl, by first | exact VLe.rf | exact vle_int (by dsimp only; omega)⟩, ?_⟩); exact trivial, by (repeat refine ⟨⟨_, rfl, by first | exact BLe.rf | exact BLe.box AllC.rf | exact BLe.arr (by first | rfl | exact (congrArg Prod.snd hs2).symm)⟩, ?_⟩); exact trivial, by repeat (first | exact trivial | refine ⟨⟨rfl, by first | (left; intro h; cases h) | (right; rfl), by first | exact (fun _ h => ⟨_, h⟩) | exact (fun _ _ => ⟨_, rfl⟩) | (intro _ h; cases h)⟩, ?_⟩), rfl⟩
  rintro ⟨⟨k, b900⟩, hinv⟩
  dsimp only
  obtain ⟨hk, h900⟩ := hinv
  have hk : k ≤ rels.length := hk
  refine AW_seq ?_
  refine AW_region ?_
  refine AL_b (x_lss rfl rfl rfl) (fun b15 h15 => ?_)
  refine AL_nil ?_
  refine AW_seq ?_
  cases b15
  · try simp only [tdy] at h15
    obtain rfl : k = rels.length := by omega
    refine AW_condF rfl ?_
    refine AW_exit (BQ_hit ?_)
    refine AW_seq ?_
    refine AW_seq ?_
    refine AW_region ?_
    refine AL_p (x_move rfl rfl) ?_
    refine AL_p (x_not rfl rfl) ?_
    refine AL_nil ?_
    cases b900
    rotate_left
    · try simp only [tdy] at h900
      have hno : setRel rels (⟨nm, r⟩ : Namedt) = (setTo rels (⟨nm, r⟩ : Namedt) rels.length).2 := by unfold setRel; rw [h900]; rfl
      refine AW_condF rfl ?_
      refine AW_skip ?_
      refine AW_seq ?_
      refine AW_region ?_
      refine AL_p (x_loadN (n := 1) rfl rfl rfl (by kernel_rfl) rfl rfl) ?_
      refine AL_p (x_store (n := 1) rfl rfl rfl rfl (by kernel_rfl) rfl rfl rfl) ?_
      refine AL_nil ?_
      refine AW_ret ?_
      exact ⟨rn [(9, 102), (0, 104)], ⟨⟨⟨_, rfl, VLe.rf⟩, trivial⟩, ⟨⟨_, rfl, by first | exact BLe.rf | (subst_vars; exact BLe.rf)⟩, ⟨_, rfl, BLe.arr hno.symm⟩, trivial⟩, trivial, rfl⟩⟩
    try simp only [tdy] at h900
    have hno : setRel rels (⟨nm, r⟩ : Namedt) = (setTo rels (⟨nm, r⟩ : Namedt) rels.length).2 ++ [(⟨nm, r⟩ : Namedt)] := by unfold setRel; rw [h900]; rfl
    refine AW_condT rfl ?_
    refine AW_draw rfl ?_
    refine AL_p (x_field (off := 0) (o' := 0) rfl rfl rfl (by kernel_rfl) rfl) ?_
    refine AL_p (x_load1 rfl rfl rfl (by kernel_rfl) rfl) ?_
    refine AL_p (x_move rfl rfl) ?_
    refine AL_p (x_loadN (n := 2) rfl rfl rfl (by kernel_rfl) rfl rfl) ?_
    refine AL_p (x_call1 rfl rfl rfl (copyS_c r hr 111) rfl rfl rfl rfl) ?_
    refine AL_p (x_build (zs := [.string ⟨#[]⟩, .int .i64 0, .slice none 0 0]) (places := [(0, 1), (1, 2)]) rfl (by kernel_rfl) rfl rfl rfl rfl rfl) ?_
    refine AL_p (y_bslice (E := 84) (e := namedE) [.tmp 73] ([(⟨nm, r⟩ : Namedt)]) 112 rfl rfl rfl rfl rfl rfl rfl rfl FitL.rf rfl rfl rfl rfl rfl rfl (by kernel_rfl)) ?_
    refine AL_p (y_append 113 rfl rfl rfl rfl rfl rfl rfl rfl (by kernel_rfl) (by have := setTo_len2 (rels := rels) (nw := (⟨nm, r⟩ : Namedt)) rels.length; simp only [List.length_append, List.length_cons, List.length_nil]; omega)) ?_
    refine AL_p (x_field (off := 0) (o' := 0) rfl rfl rfl (by kernel_rfl) rfl) ?_
    refine AL_p (x_store (n := 1) rfl rfl rfl rfl (by kernel_rfl) rfl rfl rfl) ?_
    refine AL_nild (by kernel_rfl) ?_
    refine AW_seq ?_
    refine AW_region ?_
    refine AL_p (x_loadN (n := 1) rfl rfl rfl (by kernel_rfl) rfl rfl) ?_
    refine AL_p (x_store (n := 1) rfl rfl rfl rfl (by kernel_rfl) rfl rfl rfl) ?_
    refine AL_nil ?_
    refine AW_ret ?_
    exact ⟨rn [(9, 102), (0, 113)], ⟨⟨⟨_, rfl, VLe.rf⟩, trivial⟩, ⟨⟨_, rfl, by first | exact BLe.rf | (subst_vars; exact BLe.rf)⟩, ⟨_, rfl, BLe.arr hno.symm⟩, trivial⟩, trivial, rfl⟩⟩
  try simp only [tdy] at h15
  refine AW_condT rfl ?_
  refine AW_skip ?_
  refine AW_seq ?_
  refine AW_block ?_
  refine AW_seq ?_
  refine AW_region ?_
  refine AL_p (x_move rfl rfl) ?_
  refine AL_p (x_assign rfl rfl) ?_
  refine AL_nil ?_
  refine AW_seq ?_
  refine AW_seq ?_
  refine AW_region ?_
  refine AL_p (x_move rfl rfl) ?_
  refine AL_p (x_not rfl rfl) ?_
  refine AL_p (x_move rfl rfl) ?_
  cases b900
  rotate_left
  · try simp only [tdy] at h900
    refine AL_o rfl rfl rfl rfl ?_
    refine AL_o rfl rfl rfl rfl ?_
    refine AL_o rfl rfl rfl rfl ?_
    refine AL_o rfl rfl rfl rfl ?_
    refine AL_o rfl rfl rfl rfl ?_
    refine AL_o rfl rfl rfl rfl ?_
    refine AL_o rfl rfl rfl rfl ?_
    refine AL_o rfl rfl rfl rfl ?_
    refine AL_p (x_pickF rfl rfl rfl) ?_
    refine AL_nil ?_
    refine AW_condF rfl ?_
    refine AW_skip ?_
    refine AW_seq ?_
    refine AW_region ?_
    refine AL_p (x_field (off := 0) (o' := 0) rfl rfl rfl (by kernel_rfl) rfl) ?_
    refine AL_p (x_load1 rfl rfl rfl (by kernel_rfl) rfl) ?_
    refine AL_p (x_move rfl rfl) ?_
    refine AL_p (x_index (E := 84) (n := 3) rfl rfl rfl (by kernel_rfl) rfl (k := k) rfl (by omega)) ?_
    refine AL_p (x_efield (off := 0) (o' := 0) rfl rfl (by kernel_rfl) rfl) ?_
    refine AL_p (x_eload1 rfl rfl (by kernel_rfl) rfl) ?_
    refine AL_p (x_move rfl rfl) ?_
    refine AL_b (x_sneq rfl rfl rfl) (fun b45 h45 => ?_)
    refine AL_nil ?_
    cases b45
    · try simp only [tdy] at h45
      have hs2 := setTo_skip (nw := (⟨nm, r⟩ : Namedt)) (k := k) (by omega) h900 (show (!((rels[k]'(by omega)).name == nm)) = false by rw [h45]; rfl)
      refine AW_condF rfl ?_
      refine AW_skip ?_
      refine AW_region ?_
      refine AL_p (x_add rfl rfl rfl (IntWalk.i64_in _ (by omega))) ?_
      refine AL_p (x_move rfl rfl) ?_
      refine AL_nil ?_
      refine ⟨⟨⟨k + 1, true⟩, ⟨by omega, congrArg Prod.fst hs2⟩⟩, rn [], ?_, by dsimp only; omega⟩
      exact ⟨by (repeat refine ⟨⟨_, rfl, by first | exact VLe.rf | exact vle_int (by dsimp only; omega)⟩, ?_⟩); exact trivial, by (repeat refine ⟨⟨_, rfl, by first | exact BLe.rf | exact BLe.box AllC.rf | exact BLe.arr (by first | rfl | exact (congrArg Prod.snd hs2).symm)⟩, ?_⟩); exact trivial, by repeat (first | exact trivial | refine ⟨⟨rfl, by first | (left; intro h; cases h) | (right; rfl), by first | exact (fun _ h => ⟨_, h⟩) | exact (fun _ _ => ⟨_, rfl⟩) | (intro _ h; cases h)⟩, ?_⟩), rfl⟩
    try simp only [tdy] at h45
    have hs2 := setTo_skip (nw := (⟨nm, r⟩ : Namedt)) (k := k) (by omega) h900 (show (!((rels[k]'(by omega)).name == nm)) = true by rw [h45]; rfl)
    refine AW_condT rfl ?_
    refine AW_draw rfl ?_
    refine AL_p (x_field (off := 0) (o' := 0) rfl rfl rfl (by kernel_rfl) rfl) ?_
    refine AL_p (x_load1 rfl rfl rfl (by kernel_rfl) rfl) ?_
    refine AL_p (x_field (off := 0) (o' := 0) rfl rfl rfl (by kernel_rfl) rfl) ?_
    refine AL_p (x_load1 rfl rfl rfl (by kernel_rfl) rfl) ?_
    refine AL_p (x_move rfl rfl) ?_
    refine AL_p (x_index (E := 84) (n := 3) rfl rfl rfl (by kernel_rfl) rfl (k := k) rfl (by omega)) ?_
    refine AL_p (x_efield (off := 0) (o' := 0) rfl rfl (by kernel_rfl) rfl) ?_
    refine AL_p (x_eload1 rfl rfl (by kernel_rfl) rfl) ?_
    refine AL_p (x_field (off := 0) (o' := 0) rfl rfl rfl (by kernel_rfl) rfl) ?_
    refine AL_p (x_load1 rfl rfl rfl (by kernel_rfl) rfl) ?_
    refine AL_p (x_move rfl rfl) ?_
    refine AL_p (x_index (E := 84) (n := 3) rfl rfl rfl (by kernel_rfl) rfl (k := k) rfl (by omega)) ?_
    refine AL_p (x_efield (off := 1) (o' := 1) rfl rfl (by kernel_rfl) rfl) ?_
    refine AL_p (x_eloadN (n := 2) rfl rfl (by kernel_rfl) rfl rfl) ?_
    refine AL_p (x_call1 rfl rfl rfl (copyS_c (rels[k]'(by omega)).rel (hm _ (List.getElem_mem _)).2 105) rfl rfl rfl rfl) ?_
    refine AL_p (x_build (zs := [.string ⟨#[]⟩, .int .i64 0, .slice none 0 0]) (places := [(0, 1), (1, 2)]) rfl (by kernel_rfl) rfl rfl rfl rfl rfl) ?_
    refine AL_p (y_bslice (E := 84) (e := namedE) [.tmp 61] ([(rels[k]'(by omega))]) 106 rfl rfl rfl rfl rfl rfl rfl rfl FitL.rf rfl rfl rfl rfl rfl rfl (by kernel_rfl)) ?_
    refine AL_p (y_append 107 rfl rfl rfl rfl rfl rfl rfl rfl (by kernel_rfl) (by have := setTo_len2 (rels := rels) (nw := (⟨nm, r⟩ : Namedt)) k; simp only [List.length_append, List.length_cons, List.length_nil]; omega)) ?_
    refine AL_p (x_field (off := 0) (o' := 0) rfl rfl rfl (by kernel_rfl) rfl) ?_
    refine AL_p (x_store (n := 1) rfl rfl rfl rfl (by kernel_rfl) rfl rfl rfl) ?_
    refine AL_nild (by kernel_rfl) ?_
    refine AW_region ?_
    refine AL_p (x_add rfl rfl rfl (IntWalk.i64_in _ (by omega))) ?_
    refine AL_p (x_move rfl rfl) ?_
    refine AL_nil ?_
    refine ⟨⟨⟨k + 1, true⟩, ⟨by omega, congrArg Prod.fst hs2⟩⟩, rn [(104, 107)], ?_, by dsimp only; omega⟩
    exact ⟨by (repeat refine ⟨⟨_, rfl, by first | exact VLe.rf | exact vle_int (by dsimp only; omega)⟩, ?_⟩); exact trivial, by (repeat refine ⟨⟨_, rfl, by first | exact BLe.rf | exact BLe.box AllC.rf | exact BLe.arr (by first | rfl | exact (congrArg Prod.snd hs2).symm)⟩, ?_⟩); exact trivial, by repeat (first | exact trivial | refine ⟨⟨rfl, by first | (left; intro h; cases h) | (right; rfl), by first | exact (fun _ h => ⟨_, h⟩) | exact (fun _ _ => ⟨_, rfl⟩) | (intro _ h; cases h)⟩, ?_⟩), rfl⟩
  try simp only [tdy] at h900
  refine AL_g rfl rfl (x_move rfl rfl) ?_
  refine AL_g rfl rfl (x_field (off := 0) (o' := 0) rfl rfl rfl (by kernel_rfl) rfl) ?_
  refine AL_g rfl rfl (x_load1 rfl rfl rfl (by kernel_rfl) rfl) ?_
  refine AL_g rfl rfl (x_move rfl rfl) ?_
  refine AL_g rfl rfl (x_index (E := 84) (n := 3) rfl rfl rfl (by kernel_rfl) rfl (k := k) rfl (by omega)) ?_
  refine AL_g rfl rfl (x_efield (off := 0) (o' := 0) rfl rfl (by kernel_rfl) rfl) ?_
  refine AL_g rfl rfl (x_eload1 rfl rfl (by kernel_rfl) rfl) ?_
  refine AL_gb rfl rfl (x_sleq rfl rfl rfl) (fun b27 h27 => ?_)
  refine AL_p (x_pickT rfl rfl rfl) ?_
  refine AL_nil ?_
  cases b27
  · try simp only [tdy] at h27
    refine AW_condF rfl ?_
    refine AW_skip ?_
    refine AW_seq ?_
    refine AW_region ?_
    refine AL_p (x_field (off := 0) (o' := 0) rfl rfl rfl (by kernel_rfl) rfl) ?_
    refine AL_p (x_load1 rfl rfl rfl (by kernel_rfl) rfl) ?_
    refine AL_p (x_move rfl rfl) ?_
    refine AL_p (x_index (E := 84) (n := 3) rfl rfl rfl (by kernel_rfl) rfl (k := k) rfl (by omega)) ?_
    refine AL_p (x_efield (off := 0) (o' := 0) rfl rfl (by kernel_rfl) rfl) ?_
    refine AL_p (x_eload1 rfl rfl (by kernel_rfl) rfl) ?_
    refine AL_p (x_move rfl rfl) ?_
    refine AL_b (x_sneq rfl rfl rfl) (fun b45 h45 => ?_)
    refine AL_nil ?_
    cases b45
    · try simp only [tdy] at h45
      have hs2 := setTo_next (nw := (⟨nm, r⟩ : Namedt)) (k := k) (by omega) h900 h27 (show (!((rels[k]'(by omega)).name == nm)) = false by rw [h45]; rfl)
      refine AW_condF rfl ?_
      refine AW_skip ?_
      refine AW_region ?_
      refine AL_p (x_add rfl rfl rfl (IntWalk.i64_in _ (by omega))) ?_
      refine AL_p (x_move rfl rfl) ?_
      refine AL_nil ?_
      refine ⟨⟨⟨k + 1, false⟩, ⟨by omega, congrArg Prod.fst hs2⟩⟩, rn [], ?_, by dsimp only; omega⟩
      exact ⟨by (repeat refine ⟨⟨_, rfl, by first | exact VLe.rf | exact vle_int (by dsimp only; omega)⟩, ?_⟩); exact trivial, by (repeat refine ⟨⟨_, rfl, by first | exact BLe.rf | exact BLe.box AllC.rf | exact BLe.arr (by first | rfl | exact (congrArg Prod.snd hs2).symm)⟩, ?_⟩); exact trivial, by repeat (first | exact trivial | refine ⟨⟨rfl, by first | (left; intro h; cases h) | (right; rfl), by first | exact (fun _ h => ⟨_, h⟩) | exact (fun _ _ => ⟨_, rfl⟩) | (intro _ h; cases h)⟩, ?_⟩), rfl⟩
    try simp only [tdy] at h45
    have hs2 := setTo_next (nw := (⟨nm, r⟩ : Namedt)) (k := k) (by omega) h900 h27 (show (!((rels[k]'(by omega)).name == nm)) = true by rw [h45]; rfl)
    refine AW_condT rfl ?_
    refine AW_draw rfl ?_
    refine AL_p (x_field (off := 0) (o' := 0) rfl rfl rfl (by kernel_rfl) rfl) ?_
    refine AL_p (x_load1 rfl rfl rfl (by kernel_rfl) rfl) ?_
    refine AL_p (x_field (off := 0) (o' := 0) rfl rfl rfl (by kernel_rfl) rfl) ?_
    refine AL_p (x_load1 rfl rfl rfl (by kernel_rfl) rfl) ?_
    refine AL_p (x_move rfl rfl) ?_
    refine AL_p (x_index (E := 84) (n := 3) rfl rfl rfl (by kernel_rfl) rfl (k := k) rfl (by omega)) ?_
    refine AL_p (x_efield (off := 0) (o' := 0) rfl rfl (by kernel_rfl) rfl) ?_
    refine AL_p (x_eload1 rfl rfl (by kernel_rfl) rfl) ?_
    refine AL_p (x_field (off := 0) (o' := 0) rfl rfl rfl (by kernel_rfl) rfl) ?_
    refine AL_p (x_load1 rfl rfl rfl (by kernel_rfl) rfl) ?_
    refine AL_p (x_move rfl rfl) ?_
    refine AL_p (x_index (E := 84) (n := 3) rfl rfl rfl (by kernel_rfl) rfl (k := k) rfl (by omega)) ?_
    refine AL_p (x_efield (off := 1) (o' := 1) rfl rfl (by kernel_rfl) rfl) ?_
    refine AL_p (x_eloadN (n := 2) rfl rfl (by kernel_rfl) rfl rfl) ?_
    refine AL_p (x_call1 rfl rfl rfl (copyS_c (rels[k]'(by omega)).rel (hm _ (List.getElem_mem _)).2 105) rfl rfl rfl rfl) ?_
    refine AL_p (x_build (zs := [.string ⟨#[]⟩, .int .i64 0, .slice none 0 0]) (places := [(0, 1), (1, 2)]) rfl (by kernel_rfl) rfl rfl rfl rfl rfl) ?_
    refine AL_p (y_bslice (E := 84) (e := namedE) [.tmp 61] ([(rels[k]'(by omega))]) 106 rfl rfl rfl rfl rfl rfl rfl rfl FitL.rf rfl rfl rfl rfl rfl rfl (by kernel_rfl)) ?_
    refine AL_p (y_append 107 rfl rfl rfl rfl rfl rfl rfl rfl (by kernel_rfl) (by have := setTo_len2 (rels := rels) (nw := (⟨nm, r⟩ : Namedt)) k; simp only [List.length_append, List.length_cons, List.length_nil]; omega)) ?_
    refine AL_p (x_field (off := 0) (o' := 0) rfl rfl rfl (by kernel_rfl) rfl) ?_
    refine AL_p (x_store (n := 1) rfl rfl rfl rfl (by kernel_rfl) rfl rfl rfl) ?_
    refine AL_nild (by kernel_rfl) ?_
    refine AW_region ?_
    refine AL_p (x_add rfl rfl rfl (IntWalk.i64_in _ (by omega))) ?_
    refine AL_p (x_move rfl rfl) ?_
    refine AL_nil ?_
    refine ⟨⟨⟨k + 1, false⟩, ⟨by omega, congrArg Prod.fst hs2⟩⟩, rn [(104, 107)], ?_, by dsimp only; omega⟩
    exact ⟨by (repeat refine ⟨⟨_, rfl, by first | exact VLe.rf | exact vle_int (by dsimp only; omega)⟩, ?_⟩); exact trivial, by (repeat refine ⟨⟨_, rfl, by first | exact BLe.rf | exact BLe.box AllC.rf | exact BLe.arr (by first | rfl | exact (congrArg Prod.snd hs2).symm)⟩, ?_⟩); exact trivial, by repeat (first | exact trivial | refine ⟨⟨rfl, by first | (left; intro h; cases h) | (right; rfl), by first | exact (fun _ h => ⟨_, h⟩) | exact (fun _ _ => ⟨_, rfl⟩) | (intro _ h; cases h)⟩, ?_⟩), rfl⟩
  try simp only [tdy] at h27
  refine AW_condT rfl ?_
  refine AW_seq ?_
  refine AW_draw rfl ?_
  refine AL_p (x_field (off := 0) (o' := 0) rfl rfl rfl (by kernel_rfl) rfl) ?_
  refine AL_p (x_load1 rfl rfl rfl (by kernel_rfl) rfl) ?_
  refine AL_p (x_move rfl rfl) ?_
  refine AL_p (x_loadN (n := 2) rfl rfl rfl (by kernel_rfl) rfl rfl) ?_
  refine AL_p (x_call1 rfl rfl rfl (copyS_c r hr 108) rfl rfl rfl rfl) ?_
  refine AL_p (x_build (zs := [.string ⟨#[]⟩, .int .i64 0, .slice none 0 0]) (places := [(0, 1), (1, 2)]) rfl (by kernel_rfl) rfl rfl rfl rfl rfl) ?_
  refine AL_p (y_bslice (E := 84) (e := namedE) [.tmp 34] ([(⟨nm, r⟩ : Namedt)]) 109 rfl rfl rfl rfl rfl rfl rfl rfl FitL.rf rfl rfl rfl rfl rfl rfl (by kernel_rfl)) ?_
  refine AL_p (y_append 110 rfl rfl rfl rfl rfl rfl rfl rfl (by kernel_rfl) (by have := setTo_len2 (rels := rels) (nw := (⟨nm, r⟩ : Namedt)) k; simp only [List.length_append, List.length_cons, List.length_nil]; omega)) ?_
  refine AL_p (x_field (off := 0) (o' := 0) rfl rfl rfl (by kernel_rfl) rfl) ?_
  refine AL_p (x_store (n := 1) rfl rfl rfl rfl (by kernel_rfl) rfl rfl rfl) ?_
  refine AL_nild (by kernel_rfl) ?_
  refine AW_region ?_
  refine AL_p (x_assign rfl rfl) ?_
  refine AL_nil ?_
  refine AW_seq ?_
  refine AW_region ?_
  refine AL_p (x_field (off := 0) (o' := 0) rfl rfl rfl (by kernel_rfl) rfl) ?_
  refine AL_p (x_load1 rfl rfl rfl (by kernel_rfl) rfl) ?_
  refine AL_p (x_move rfl rfl) ?_
  refine AL_p (x_index (E := 84) (n := 3) rfl rfl rfl (by kernel_rfl) rfl (k := k) rfl (by omega)) ?_
  refine AL_p (x_efield (off := 0) (o' := 0) rfl rfl (by kernel_rfl) rfl) ?_
  refine AL_p (x_eload1 rfl rfl (by kernel_rfl) rfl) ?_
  refine AL_p (x_move rfl rfl) ?_
  refine AL_b (x_sneq rfl rfl rfl) (fun b45 h45 => ?_)
  refine AL_nil ?_
  cases b45
  · try simp only [tdy] at h45
    have hs2 := setTo_next (nw := (⟨nm, r⟩ : Namedt)) (k := k) (by omega) h900 h27 (show (!((rels[k]'(by omega)).name == nm)) = false by rw [h45]; rfl)
    refine AW_condF rfl ?_
    refine AW_skip ?_
    refine AW_region ?_
    refine AL_p (x_add rfl rfl rfl (IntWalk.i64_in _ (by omega))) ?_
    refine AL_p (x_move rfl rfl) ?_
    refine AL_nil ?_
    refine ⟨⟨⟨k + 1, true⟩, ⟨by omega, congrArg Prod.fst hs2⟩⟩, rn [(104, 110)], ?_, by dsimp only; omega⟩
    exact ⟨by (repeat refine ⟨⟨_, rfl, by first | exact VLe.rf | exact vle_int (by dsimp only; omega)⟩, ?_⟩); exact trivial, by (repeat refine ⟨⟨_, rfl, by first | exact BLe.rf | exact BLe.box AllC.rf | exact BLe.arr (by first | rfl | exact (congrArg Prod.snd hs2).symm)⟩, ?_⟩); exact trivial, by repeat (first | exact trivial | refine ⟨⟨rfl, by first | (left; intro h; cases h) | (right; rfl), by first | exact (fun _ h => ⟨_, h⟩) | exact (fun _ _ => ⟨_, rfl⟩) | (intro _ h; cases h)⟩, ?_⟩), rfl⟩
  try simp only [tdy] at h45
  have hs2 := setTo_next (nw := (⟨nm, r⟩ : Namedt)) (k := k) (by omega) h900 h27 (show (!((rels[k]'(by omega)).name == nm)) = true by rw [h45]; rfl)
  refine AW_condT rfl ?_
  refine AW_draw rfl ?_
  refine AL_p (x_field (off := 0) (o' := 0) rfl rfl rfl (by kernel_rfl) rfl) ?_
  refine AL_p (x_load1 rfl rfl rfl (by kernel_rfl) rfl) ?_
  refine AL_p (x_field (off := 0) (o' := 0) rfl rfl rfl (by kernel_rfl) rfl) ?_
  refine AL_p (x_load1 rfl rfl rfl (by kernel_rfl) rfl) ?_
  refine AL_p (x_move rfl rfl) ?_
  refine AL_p (x_index (E := 84) (n := 3) rfl rfl rfl (by kernel_rfl) rfl (k := k) rfl (by omega)) ?_
  refine AL_p (x_efield (off := 0) (o' := 0) rfl rfl (by kernel_rfl) rfl) ?_
  refine AL_p (x_eload1 rfl rfl (by kernel_rfl) rfl) ?_
  refine AL_p (x_field (off := 0) (o' := 0) rfl rfl rfl (by kernel_rfl) rfl) ?_
  refine AL_p (x_load1 rfl rfl rfl (by kernel_rfl) rfl) ?_
  refine AL_p (x_move rfl rfl) ?_
  refine AL_p (x_index (E := 84) (n := 3) rfl rfl rfl (by kernel_rfl) rfl (k := k) rfl (by omega)) ?_
  refine AL_p (x_efield (off := 1) (o' := 1) rfl rfl (by kernel_rfl) rfl) ?_
  refine AL_p (x_eloadN (n := 2) rfl rfl (by kernel_rfl) rfl rfl) ?_
  refine AL_p (x_call1 rfl rfl rfl (copyS_c (rels[k]'(by omega)).rel (hm _ (List.getElem_mem _)).2 105) rfl rfl rfl rfl) ?_
  refine AL_p (x_build (zs := [.string ⟨#[]⟩, .int .i64 0, .slice none 0 0]) (places := [(0, 1), (1, 2)]) rfl (by kernel_rfl) rfl rfl rfl rfl rfl) ?_
  refine AL_p (y_bslice (E := 84) (e := namedE) [.tmp 61] ([(rels[k]'(by omega))]) 106 rfl rfl rfl rfl rfl rfl rfl rfl FitL.rf rfl rfl rfl rfl rfl rfl (by kernel_rfl)) ?_
  refine AL_p (y_append 107 rfl rfl rfl rfl rfl rfl rfl rfl (by kernel_rfl) (by have := setTo_len2 (rels := rels) (nw := (⟨nm, r⟩ : Namedt)) k; simp only [List.length_append, List.length_cons, List.length_nil]; omega)) ?_
  refine AL_p (x_field (off := 0) (o' := 0) rfl rfl rfl (by kernel_rfl) rfl) ?_
  refine AL_p (x_store (n := 1) rfl rfl rfl rfl (by kernel_rfl) rfl rfl rfl) ?_
  refine AL_nild (by kernel_rfl) ?_
  refine AW_region ?_
  refine AL_p (x_add rfl rfl rfl (IntWalk.i64_in _ (by omega))) ?_
  refine AL_p (x_move rfl rfl) ?_
  refine AL_nil ?_
  refine ⟨⟨⟨k + 1, true⟩, ⟨by omega, congrArg Prod.fst hs2⟩⟩, rn [(104, 107)], ?_, by dsimp only; omega⟩
  exact ⟨by (repeat refine ⟨⟨_, rfl, by first | exact VLe.rf | exact vle_int (by dsimp only; omega)⟩, ?_⟩); exact trivial, by (repeat refine ⟨⟨_, rfl, by first | exact BLe.rf | exact BLe.box AllC.rf | exact BLe.arr (by first | rfl | exact (congrArg Prod.snd hs2).symm)⟩, ?_⟩); exact trivial, by repeat (first | exact trivial | refine ⟨⟨rfl, by first | (left; intro h; cases h) | (right; rfl), by first | exact (fun _ h => ⟨_, h⟩) | exact (fun _ _ => ⟨_, rfl⟩) | (intro _ h; cases h)⟩, ?_⟩), rfl⟩
theorem l12Set_c (rels : List Namedt) (nm : ByteArray) (r : Relt) (hs : rels.length ≤ 1048575) (hm : ∀ y ∈ rels, smallNamed y) (hr : smallRel r) (k : Nat) : AC Tryz.prog 35 [.agg [.sl namedE rels], .one (.c (.string nm)), .agg (relC r)] [] (.agg [.own k]) [(k, some (.arr 84 namedE (setRel rels (⟨nm, r⟩ : Namedt)) true))] := AC.at (l12Set_c0 rels nm r hs hm hr) k

end Go.Proofs.YtibhoanjglfaoaaGreat

/- DeltaThen, the reference (printed by walk.py) -/
namespace Go.Proofs.YtibhoanjglfaoaaGreat
open Go.RowKit
set_option linter.unusedVariables false
set_option linter.unusedSimpArgs false
set_option maxRecDepth 100000

set_option maxHeartbeats 4000000 in
theorem deltaThenS_c (a b : Deltat) (ha : smallDelta a) (hb : smallDelta b) : AC Tryz.prog 18 [.agg (deltaC a), .agg (deltaC b)] [] (.tup [.agg [.sl changeE (deltaThen a b).1.changes], .one (.c (.bool (deltaThen a b).2))]) [] := by
  refine AC_bodyCT (n := 1) (k := 9) (T := [(4, .one (.ptr 9 0)), (5, .one (.c (.bool (deltaThen a b).2)))]) (Lf := ((9, some (.box [.sl changeE (deltaThen a b).1.changes])) :: [])) Tryz.func18 rfl rfl Tryz.ntmps18 rfl Tryz.results18 rfl rfl rfl rfl (by kernel_rfl) rfl rfl ⟨trivial, (by repeat (first | exact trivial | refine ⟨⟨_, rfl, BLe.rf⟩, ?_⟩)), (by repeat (first | exact trivial | refine ⟨⟨rfl, by first | (left; intro h; cases h) | (right; rfl), by first | exact (fun _ h => ⟨_, h⟩) | exact (fun _ _ => ⟨_, rfl⟩) | (intro _ h; cases h)⟩, ?_⟩)), rfl⟩ ?_
  refine AW_seq ?_
  refine AW_region ?_
  refine AL_p (x_box 100 rfl rfl rfl rfl rfl rfl rfl) ?_
  refine AL_p (x_box 101 rfl rfl rfl rfl rfl rfl rfl) ?_
  refine AL_p (x_alloc (z := .agg #[.slice none 0 0]) 102 rfl (by kernel_rfl) rfl rfl rfl rfl) ?_
  refine AL_p (x_assign rfl rfl) ?_
  refine AL_nil ?_
  refine AW_seq ?_
  refine AW_seq ?_
  refine AW_region ?_
  refine AL_p (x_loadN (n := 1) rfl rfl rfl (by kernel_rfl) rfl rfl) ?_
  refine AL_b (x_call0 rfl rfl rfl (deltaOkS_c _ (by first | exact ha | exact hb | exact sums_small ha hb hA hB)) rfl rfl) (fun b17 h17 => ?_)
  refine AL_p (x_not rfl rfl) ?_
  refine AL_p (x_move rfl rfl) ?_
  cases b17
  · try simp only [tdy] at h17
    have hno := then_a (b := b) h17
    refine AL_o rfl rfl rfl rfl ?_
    refine AL_o rfl rfl rfl rfl ?_
    refine AL_o rfl rfl rfl rfl ?_
    refine AL_p (x_pickT rfl rfl rfl) ?_
    refine AL_nil ?_
    refine AW_condT rfl ?_
    refine AW_seq ?_
    refine AW_region ?_
    refine AL_p (x_build (zs := [.slice none 0 0]) (places := [(0, 1)]) rfl (by kernel_rfl) rfl rfl rfl rfl rfl) ?_
    refine AL_p (x_store (n := 1) rfl rfl rfl rfl (by kernel_rfl) rfl rfl rfl) ?_
    refine AL_p (x_assign rfl rfl) ?_
    refine AL_nil ?_
    refine AW_ret ?_
    exact ⟨rn [(9, 102)], ⟨⟨⟨_, rfl, VLe.rf⟩, ⟨_, rfl, by first | (refine vle_bool ?_; rw [hno]; done) | exact VLe.rf⟩, trivial⟩, ⟨⟨_, rfl, by first | (refine ble_eq ?_; rw [hno]; done) | (refine ble_eq ?_; rw [hno]; rfl) | (refine BLe.box ?_; rw [hno]; exact ⟨CLe.nil, trivial⟩)⟩, trivial⟩, trivial, rfl⟩⟩
  try simp only [tdy] at h17
  have hA := h17
  have hla := delta_max hA
  refine AL_g rfl rfl (x_loadN (n := 1) rfl rfl rfl (by kernel_rfl) rfl rfl) ?_
  refine AL_gb rfl rfl (x_call0 rfl rfl rfl (deltaOkS_c _ (by first | exact ha | exact hb | exact sums_small ha hb hA hB)) rfl rfl) (fun b21 h21 => ?_)
  refine AL_g rfl rfl (x_not rfl rfl) ?_
  refine AL_p (x_pickF rfl rfl rfl) ?_
  refine AL_nil ?_
  cases b21
  · try simp only [tdy] at h21
    have hno := then_b (a := a) h21
    refine AW_condT rfl ?_
    refine AW_seq ?_
    refine AW_region ?_
    refine AL_p (x_build (zs := [.slice none 0 0]) (places := [(0, 1)]) rfl (by kernel_rfl) rfl rfl rfl rfl rfl) ?_
    refine AL_p (x_store (n := 1) rfl rfl rfl rfl (by kernel_rfl) rfl rfl rfl) ?_
    refine AL_p (x_assign rfl rfl) ?_
    refine AL_nil ?_
    refine AW_ret ?_
    exact ⟨rn [(9, 102)], ⟨⟨⟨_, rfl, VLe.rf⟩, ⟨_, rfl, by first | (refine vle_bool ?_; rw [hno]; done) | exact VLe.rf⟩, trivial⟩, ⟨⟨_, rfl, by first | (refine ble_eq ?_; rw [hno]; done) | (refine ble_eq ?_; rw [hno]; rfl) | (refine BLe.box ?_; rw [hno]; exact ⟨CLe.nil, trivial⟩)⟩, trivial⟩, trivial, rfl⟩⟩
  try simp only [tdy] at h21
  have hB := h21
  have hlb := delta_max hB
  have hlt := thenAll_len a b
  have hlw : (a.changes ++ b.changes).length ≤ 48 := by simp only [List.length_append]; omega
  have hln := names_length hA hB
  refine AW_condF rfl ?_
  refine AW_skip ?_
  refine AW_seq ?_
  refine AW_draw rfl ?_
  refine AL_p (y_bslice0 (E := 65) (e := changeE) 103 rfl rfl rfl (by kernel_rfl)) ?_
  refine AL_p (x_field (off := 0) (o' := 0) rfl rfl rfl (by kernel_rfl) rfl) ?_
  refine AL_p (x_load1 rfl rfl rfl (by kernel_rfl) rfl) ?_
  refine AL_p (y_append_sl 104 false (.inl rfl) rfl rfl rfl rfl rfl rfl (by kernel_rfl) (by simp only [List.length_nil]; omega)) ?_
  refine AL_p (x_field (off := 0) (o' := 0) rfl rfl rfl (by kernel_rfl) rfl) ?_
  refine AL_p (x_load1 rfl rfl rfl (by kernel_rfl) rfl) ?_
  refine AL_p (y_append_sl 105 false (.inl rfl) rfl rfl rfl rfl rfl rfl (by kernel_rfl) (by simp only [List.length_append, List.length_nil]; omega)) ?_
  refine AL_p (x_assign rfl rfl) ?_
  refine AL_nild (by kernel_rfl) ?_
  refine AW_seq ?_
  refine AW_shut 105 6 rfl rfl ?_
  refine AW_region ?_
  refine AL_p (x_build (zs := [.slice none 0 0]) (places := [(0, 1)]) rfl (by kernel_rfl) rfl rfl rfl rfl rfl) ?_
  refine AL_p (x_alloc (z := .agg #[.slice none 0 0]) 106 rfl (by kernel_rfl) rfl rfl rfl rfl) ?_
  refine AL_p (x_store (n := 1) rfl rfl rfl rfl (by kernel_rfl) rfl rfl rfl) ?_
  refine AL_nil ?_
  refine AW_seq ?_
  refine AW_seq ?_
  refine AW_slot (t := 6) (y := .one (.sl changeE (a.changes ++ b.changes))) rfl (by rw [List.nil_append]) ?_
  refine AW_region ?_
  refine AL_p (x_move rfl rfl) ?_
  refine AL_p (x_len (E := 65) (n := 5) rfl rfl (by kernel_rfl)) ?_
  refine AL_p (x_move rfl rfl) ?_
  refine AL_nil ?_
  refine AW_block ?_
  refine AW_adopt (T := 84) (e := namedE) 107 106 0 rfl rfl rfl rfl rfl ?_
  refine AW_loop2 (ι := {q : Nat // q ≤ (a.changes ++ b.changes).length}) (fun p => [(35, .one (.c (.int .i64 ((p.1) : Int))))]) (fun p => [(107, some (.arr 84 namedE (namesTo ((a.changes ++ b.changes).take (p.1))) true))]) [2, 3, 4, 7, 33, 34] [100, 101, 102, 106] (fun p => (a.changes ++ b.changes).length - (p.1)) ⟨0, by omega⟩ (rn []) ?_ ?_
  exact ⟨by (repeat refine ⟨⟨_, rfl, by first | exact VLe.rf | exact vle_int (by dsimp only; omega)⟩, ?_⟩); exact trivial, by (repeat refine ⟨⟨_, rfl, by first | exact BLe.rf | exact BLe.box AllC.rf | exact BLe.arr (by first | rfl | exact hse)⟩, ?_⟩); exact trivial, by repeat (first | exact trivial | refine ⟨⟨rfl, by first | (left; intro h; cases h) | (right; rfl), by first | exact (fun _ h => ⟨_, h⟩) | exact (fun _ _ => ⟨_, rfl⟩) | (intro _ h; cases h)⟩, ?_⟩), rfl⟩
  rintro ⟨k, hinv⟩
  dsimp only
  have hk : k ≤ (a.changes ++ b.changes).length := hinv
  refine AW_seq ?_
  refine AW_region ?_
  refine AL_b (x_lss rfl rfl rfl) (fun b36 h36 => ?_)
  refine AL_nil ?_
  refine AW_seq ?_
  cases b36
  rotate_left
  · try simp only [tdy] at h36
    have hse := names_more (l := (a.changes ++ b.changes)) (k := k) (by omega)
    refine AW_condT rfl ?_
    refine AW_skip ?_
    refine AW_seq ?_
    refine AW_block ?_
    refine AW_seq ?_
    refine AW_region ?_
    refine AL_p (x_index (E := 65) (n := 5) rfl rfl rfl (by kernel_rfl) rfl (k := k) (by omega) (by omega)) ?_
    refine AL_p (x_eloadW (n := 5) rfl rfl (by kernel_rfl) rfl) ?_
    refine AL_p (x_alloc (z := .agg #[.string ⟨#[]⟩, .int .i64 0, .slice none 0 0, .int .i64 0, .slice none 0 0]) 108 rfl (by kernel_rfl) rfl rfl rfl rfl) ?_
    refine AL_p (x_store (n := 5) rfl rfl rfl rfl (by kernel_rfl) rfl rfl rfl) ?_
    refine AL_nil ?_
    refine AW_region ?_
    refine AL_p (x_loadN (n := 1) rfl rfl rfl (by kernel_rfl) rfl rfl) ?_
    refine AL_p (x_field (off := 0) (o' := 0) rfl rfl rfl (by kernel_rfl) rfl) ?_
    refine AL_p (x_load1 rfl rfl rfl (by kernel_rfl) rfl) ?_
    refine AL_p (x_field (off := 1) (o' := 1) rfl rfl rfl (by kernel_rfl) rfl) ?_
    refine AL_p (x_field (off := 0) (o' := 1) rfl rfl rfl (by kernel_rfl) rfl) ?_
    refine AL_p (x_load1 rfl rfl rfl (by kernel_rfl) rfl) ?_
    refine AL_p (x_build (zs := [.int .i64 0, .slice none 0 0]) (places := [(0, 1), (1, 1)]) rfl (by kernel_rfl) rfl rfl rfl rfl rfl) ?_
    refine AL_p (x_callR rfl rfl rfl (l12Set_c (namesTo ((a.changes ++ b.changes).take k)) ((a.changes ++ b.changes)[k]'(by omega)).name ⟨((a.changes ++ b.changes)[k]'(by omega)).plus.arity, []⟩ (names_le k (by omega)) (names_sm ha hb k) (smallNil _) 109) rfl ⟨V1Le.rf, V1Le.rf, V1Le.agg ⟨CLe.rf, CLe.nil, trivial⟩, trivial⟩ rfl rfl rfl rfl rfl) ?_
    refine AL_p (x_store (n := 1) rfl rfl rfl rfl (by kernel_rfl) rfl rfl rfl) ?_
    refine AL_nil ?_
    refine AW_region ?_
    refine AL_p (x_add rfl rfl rfl (IntWalk.i64_in _ (by omega))) ?_
    refine AL_p (x_move rfl rfl) ?_
    refine AL_nil ?_
    refine ⟨⟨k + 1, by omega⟩, rn [(107, 109)], ?_, by dsimp only; omega⟩
    exact ⟨by (repeat refine ⟨⟨_, rfl, by first | exact VLe.rf | exact vle_int (by dsimp only; omega)⟩, ?_⟩); exact trivial, by (repeat refine ⟨⟨_, rfl, by first | exact BLe.rf | exact BLe.box AllC.rf | exact BLe.arr (by first | rfl | exact hse)⟩, ?_⟩); exact trivial, by repeat (first | exact trivial | refine ⟨⟨rfl, by first | (left; intro h; cases h) | (right; rfl), by first | exact (fun _ h => ⟨_, h⟩) | exact (fun _ _ => ⟨_, rfl⟩) | (intro _ h; cases h)⟩, ?_⟩), rfl⟩
  try simp only [tdy] at h36
  rw [List.take_of_length_le (l := (a.changes ++ b.changes)) (i := k) (by omega)]
  refine AW_condF rfl ?_
  refine AW_exit (BQ_hit ?_)
  refine AW_seq ?_
  refine AW_shutB 107 106 0 rfl rfl rfl rfl ?_
  refine AW_region ?_
  refine AL_p (x_build (zs := [.slice none 0 0]) (places := [(0, 1)]) rfl (by kernel_rfl) rfl rfl rfl rfl rfl) ?_
  refine AL_p (x_alloc (z := .agg #[.slice none 0 0]) 110 rfl (by kernel_rfl) rfl rfl rfl rfl) ?_
  refine AL_p (x_store (n := 1) rfl rfl rfl rfl (by kernel_rfl) rfl rfl rfl) ?_
  refine AL_nil ?_
  refine AW_seq ?_
  refine AW_seq ?_
  refine AW_region ?_
  refine AL_p (x_field (off := 0) (o' := 0) rfl rfl rfl (by kernel_rfl) rfl) ?_
  refine AL_p (x_load1 rfl rfl rfl (by kernel_rfl) rfl) ?_
  refine AL_p (x_len (E := 84) (n := 3) rfl rfl (by kernel_rfl)) ?_
  refine AL_p (x_move rfl rfl) ?_
  refine AL_nil ?_
  refine AW_block ?_
  refine AW_adopt (T := 65) (e := changeE) 111 110 0 rfl rfl rfl rfl rfl ?_
  refine AW_shallow 111 rfl ?_
  refine AW_loop2 (ι := {q : Nat // q ≤ (namesTo (a.changes ++ b.changes)).length ∧ ThenTo a b q}) (fun p => [(52, .one (.c (.int .i64 ((p.1) : Int))))]) (fun p => [(111, some (.arr 65 changeE (filtTo someRows (thenSums a b) (p.1)) false))]) [2, 3, 4, 10, 50, 51] [100, 101, 102, 106, 110] (fun p => (namesTo (a.changes ++ b.changes)).length - (p.1)) ⟨0, ⟨by omega, .zero⟩⟩ (rn []) ?_ ?_
  exact ⟨by (repeat refine ⟨⟨_, rfl, by first | exact VLe.rf | exact vle_int (by dsimp only; omega)⟩, ?_⟩); exact trivial, by (repeat refine ⟨⟨_, rfl, by first | exact BLe.rf | exact BLe.box AllC.rf | exact BLe.arr (by first | rfl | exact hso)⟩, ?_⟩); exact trivial, by repeat (first | exact trivial | refine ⟨⟨rfl, by first | (left; intro h; cases h) | (right; rfl), by first | exact (fun _ h => ⟨_, h⟩) | exact (fun _ _ => ⟨_, rfl⟩) | (intro _ h; cases h)⟩, ?_⟩), rfl⟩
  rintro ⟨k, hinv⟩
  dsimp only
  obtain ⟨hk, hT⟩ := hinv
  have hk : k ≤ (namesTo (a.changes ++ b.changes)).length := hk
  have hT : ThenTo a b k := hT
  refine AW_seq ?_
  refine AW_region ?_
  refine AL_b (x_lss rfl rfl rfl) (fun b53 h53 => ?_)
  refine AL_nil ?_
  refine AW_seq ?_
  cases b53
  · try simp only [tdy] at h53
    rw [sums_all (a := a) (b := b) (k := k) (by omega)]
    refine AW_condF rfl ?_
    refine AW_exit (BQ_hit ?_)
    refine AW_seq ?_
    refine AW_seq ?_
    refine AW_shutB 111 110 0 rfl rfl rfl rfl ?_
    refine AW_region ?_
    refine AL_p (x_loadN (n := 1) rfl rfl rfl (by kernel_rfl) rfl rfl) ?_
    refine AL_b (x_call0 rfl rfl rfl (deltaOkS_c _ (by first | exact ha | exact hb | exact sums_small ha hb hA hB)) rfl rfl) (fun b139 h139 => ?_)
    refine AL_p (x_not rfl rfl) ?_
    refine AL_nil ?_
    cases b139
    · try simp only [tdy] at h139
      have hno := then_not h139
      refine AW_condT rfl ?_
      refine AW_seq ?_
      refine AW_region ?_
      refine AL_p (x_build (zs := [.slice none 0 0]) (places := [(0, 1)]) rfl (by kernel_rfl) rfl rfl rfl rfl rfl) ?_
      refine AL_p (x_store (n := 1) rfl rfl rfl rfl (by kernel_rfl) rfl rfl rfl) ?_
      refine AL_p (x_assign rfl rfl) ?_
      refine AL_nil ?_
      refine AW_ret ?_
      exact ⟨rn [(9, 102)], ⟨⟨⟨_, rfl, VLe.rf⟩, ⟨_, rfl, by first | (refine vle_bool ?_; rw [hno]; done) | exact VLe.rf⟩, trivial⟩, ⟨⟨_, rfl, by first | (refine ble_eq ?_; rw [hno]; done) | (refine ble_eq ?_; rw [hno]; rfl) | (refine BLe.box ?_; rw [hno]; exact ⟨CLe.nil, trivial⟩)⟩, trivial⟩, trivial, rfl⟩⟩
    try simp only [tdy] at h139
    have hno := then_ok hA hB (fun j hj => hT j hj (by omega)) h139
    refine AW_condF rfl ?_
    refine AW_skip ?_
    refine AW_seq ?_
    refine AW_region ?_
    refine AL_p (x_loadN (n := 1) rfl rfl rfl (by kernel_rfl) rfl rfl) ?_
    refine AL_p (x_store (n := 1) rfl rfl rfl rfl (by kernel_rfl) rfl rfl rfl) ?_
    refine AL_p (x_assign rfl rfl) ?_
    refine AL_nil ?_
    refine AW_ret ?_
    exact ⟨rn [(9, 102)], ⟨⟨⟨_, rfl, VLe.rf⟩, ⟨_, rfl, by first | (refine vle_bool ?_; rw [hno]; done) | exact VLe.rf⟩, trivial⟩, ⟨⟨_, rfl, by first | (refine ble_eq ?_; rw [hno]; done) | (refine ble_eq ?_; rw [hno]; rfl) | (refine BLe.box ?_; rw [hno]; exact ⟨CLe.nil, trivial⟩)⟩, trivial⟩, trivial, rfl⟩⟩
  try simp only [tdy] at h53
  have hkn : k < (namesTo (a.changes ++ b.changes)).length := by omega
  have hk2 : k < (thenAll a b).length := by rw [← names_length hA hB]; exact hkn
  have hnm := then_name ha hb hk2
  have sx := changeOf_small ha _ hnm ((thenAll a b)[k]'hk2).plus.arity
  have sy := changeOf_small hb _ hnm ((thenAll a b)[k]'hk2).plus.arity
  have cx := changeOf_in hA ((thenAll a b)[k]'hk2).name ((thenAll a b)[k]'hk2).plus.arity
  have cy := changeOf_in hB ((thenAll a b)[k]'hk2).name ((thenAll a b)[k]'hk2).plus.arity
  have hpl := plusOf_len cx cy
  have hpv := plusOf_vals cx cy
  have hps := plusOf_small sx sy
  have hcs := cnt_sum cx cy
  obtain ⟨e1, e2, e3⟩ := names_at hA hB hkn hk2
  have c62 := changeOfS_c a ((namesTo (a.changes ++ b.changes))[k]'hkn).name ((namesTo (a.changes ++ b.changes))[k]'hkn).rel.arity ha.1
  rw [e2] at c62
  have c69 := changeOfS_c b ((namesTo (a.changes ++ b.changes))[k]'hkn).name ((namesTo (a.changes ++ b.changes))[k]'hkn).rel.arity hb.1
  rw [e3] at c69
  refine AW_condT rfl ?_
  refine AW_skip ?_
  refine AW_seq ?_
  refine AW_block ?_
  refine AW_seq ?_
  refine AW_region ?_
  refine AL_p (x_index (E := 84) (n := 3) rfl rfl rfl (by kernel_rfl) rfl (k := k) (by omega) (by omega)) ?_
  refine AL_p (x_eloadW (n := 3) rfl rfl (by kernel_rfl) rfl) ?_
  refine AL_p (x_alloc (z := .agg #[.string ⟨#[]⟩, .int .i64 0, .slice none 0 0]) 112 rfl (by kernel_rfl) rfl rfl rfl rfl) ?_
  refine AL_p (x_store (n := 3) rfl rfl rfl rfl (by kernel_rfl) rfl rfl rfl) ?_
  refine AL_nil ?_
  refine AW_seq ?_
  refine AW_region ?_
  refine AL_p (x_loadN (n := 1) rfl rfl rfl (by kernel_rfl) rfl rfl) ?_
  refine AL_p (x_field (off := 0) (o' := 0) rfl rfl rfl (by kernel_rfl) rfl) ?_
  refine AL_p (x_load1 rfl rfl rfl (by kernel_rfl) rfl) ?_
  refine AL_p (x_field (off := 1) (o' := 1) rfl rfl rfl (by kernel_rfl) rfl) ?_
  refine AL_p (x_field (off := 0) (o' := 1) rfl rfl rfl (by kernel_rfl) rfl) ?_
  refine AL_p (x_load1 rfl rfl rfl (by kernel_rfl) rfl) ?_
  refine AL_p (x_call0 rfl rfl rfl c62 rfl rfl) ?_
  refine AL_p (x_alloc (z := .agg #[.string ⟨#[]⟩, .int .i64 0, .slice none 0 0, .int .i64 0, .slice none 0 0]) 113 rfl (by kernel_rfl) rfl rfl rfl rfl) ?_
  refine AL_p (x_store (n := 5) rfl rfl rfl rfl (by kernel_rfl) rfl rfl rfl) ?_
  refine AL_nil ?_
  refine AW_seq ?_
  refine AW_region ?_
  refine AL_p (x_loadN (n := 1) rfl rfl rfl (by kernel_rfl) rfl rfl) ?_
  refine AL_p (x_field (off := 0) (o' := 0) rfl rfl rfl (by kernel_rfl) rfl) ?_
  refine AL_p (x_load1 rfl rfl rfl (by kernel_rfl) rfl) ?_
  refine AL_p (x_field (off := 1) (o' := 1) rfl rfl rfl (by kernel_rfl) rfl) ?_
  refine AL_p (x_field (off := 0) (o' := 1) rfl rfl rfl (by kernel_rfl) rfl) ?_
  refine AL_p (x_load1 rfl rfl rfl (by kernel_rfl) rfl) ?_
  refine AL_p (x_call0 rfl rfl rfl c69 rfl rfl) ?_
  refine AL_p (x_alloc (z := .agg #[.string ⟨#[]⟩, .int .i64 0, .slice none 0 0, .int .i64 0, .slice none 0 0]) 114 rfl (by kernel_rfl) rfl rfl rfl rfl) ?_
  refine AL_p (x_store (n := 5) rfl rfl rfl rfl (by kernel_rfl) rfl rfl rfl) ?_
  refine AL_nil ?_
  refine AW_seq ?_
  refine AW_seq ?_
  refine AW_region ?_
  refine AL_p (x_field (off := 1) (o' := 1) rfl rfl rfl (by kernel_rfl) rfl) ?_
  refine AL_p (x_field (off := 0) (o' := 1) rfl rfl rfl (by kernel_rfl) rfl) ?_
  refine AL_p (x_load1 rfl rfl rfl (by kernel_rfl) rfl) ?_
  refine AL_p (x_field (off := 1) (o' := 1) rfl rfl rfl (by kernel_rfl) rfl) ?_
  refine AL_p (x_field (off := 0) (o' := 1) rfl rfl rfl (by kernel_rfl) rfl) ?_
  refine AL_p (x_load1 rfl rfl rfl (by kernel_rfl) rfl) ?_
  refine AL_b (x_neq rfl rfl rfl) (fun b76 h76 => ?_)
  refine AL_p (x_move rfl rfl) ?_
  cases b76
  rotate_left
  · try simp only [tdy] at h76
    have hno := then_bad hk2 (sumOk_ar (by omega))
    refine AL_o rfl rfl rfl rfl ?_
    refine AL_o rfl rfl rfl rfl ?_
    refine AL_o rfl rfl rfl rfl ?_
    refine AL_o rfl rfl rfl rfl ?_
    refine AL_o rfl rfl rfl rfl ?_
    refine AL_o rfl rfl rfl rfl ?_
    refine AL_p (x_pickT rfl rfl rfl) ?_
    refine AL_p (x_move rfl rfl) ?_
    refine AL_o rfl rfl rfl rfl ?_
    refine AL_o rfl rfl rfl rfl ?_
    refine AL_o rfl rfl rfl rfl ?_
    refine AL_o rfl rfl rfl rfl ?_
    refine AL_o rfl rfl rfl rfl ?_
    refine AL_o rfl rfl rfl rfl ?_
    refine AL_p (x_pickT rfl rfl rfl) ?_
    refine AL_nil ?_
    refine AW_condT rfl ?_
    refine AW_seq ?_
    refine AW_region ?_
    refine AL_p (x_build (zs := [.slice none 0 0]) (places := [(0, 1)]) rfl (by kernel_rfl) rfl rfl rfl rfl rfl) ?_
    refine AL_p (x_store (n := 1) rfl rfl rfl rfl (by kernel_rfl) rfl rfl rfl) ?_
    refine AL_p (x_assign rfl rfl) ?_
    refine AL_nil ?_
    refine AW_ret (BQ_ret (BQ_ret ?_))
    exact ⟨rn [(9, 102)], ⟨⟨⟨_, rfl, VLe.rf⟩, ⟨_, rfl, by first | (refine vle_bool ?_; rw [hno]; done) | exact VLe.rf⟩, trivial⟩, ⟨⟨_, rfl, by first | (refine ble_eq ?_; rw [hno]; done) | (refine ble_eq ?_; rw [hno]; rfl) | (refine BLe.box ?_; rw [hno]; exact ⟨CLe.nil, trivial⟩)⟩, trivial⟩, trivial, rfl⟩⟩
  try simp only [tdy] at h76
  refine AL_g rfl rfl (x_field (off := 1) (o' := 1) rfl rfl rfl (by kernel_rfl) rfl) ?_
  refine AL_g rfl rfl (x_loadN (n := 2) rfl rfl rfl (by kernel_rfl) rfl rfl) ?_
  refine AL_g rfl rfl (x_field (off := 1) (o' := 1) rfl rfl rfl (by kernel_rfl) rfl) ?_
  refine AL_g rfl rfl (x_loadN (n := 2) rfl rfl rfl (by kernel_rfl) rfl rfl) ?_
  refine AL_gb rfl rfl (x_call0 rfl rfl rfl (apartS_c (changeOf a ((thenAll a b)[k]'hk2).name ((thenAll a b)[k]'hk2).plus.arity).plus (changeOf b ((thenAll a b)[k]'hk2).name ((thenAll a b)[k]'hk2).plus.arity).plus sx.2.1 sy.2.1) rfl rfl) (fun b82 h82 => ?_)
  refine AL_g rfl rfl (x_not rfl rfl) ?_
  refine AL_p (x_pickF rfl rfl rfl) ?_
  refine AL_p (x_move rfl rfl) ?_
  cases b82
  · try simp only [tdy] at h82
    have hno := then_bad hk2 (sumOk_p h82)
    refine AL_o rfl rfl rfl rfl ?_
    refine AL_o rfl rfl rfl rfl ?_
    refine AL_o rfl rfl rfl rfl ?_
    refine AL_o rfl rfl rfl rfl ?_
    refine AL_o rfl rfl rfl rfl ?_
    refine AL_o rfl rfl rfl rfl ?_
    refine AL_p (x_pickT rfl rfl rfl) ?_
    refine AL_nil ?_
    refine AW_condT rfl ?_
    refine AW_seq ?_
    refine AW_region ?_
    refine AL_p (x_build (zs := [.slice none 0 0]) (places := [(0, 1)]) rfl (by kernel_rfl) rfl rfl rfl rfl rfl) ?_
    refine AL_p (x_store (n := 1) rfl rfl rfl rfl (by kernel_rfl) rfl rfl rfl) ?_
    refine AL_p (x_assign rfl rfl) ?_
    refine AL_nil ?_
    refine AW_ret (BQ_ret (BQ_ret ?_))
    exact ⟨rn [(9, 102)], ⟨⟨⟨_, rfl, VLe.rf⟩, ⟨_, rfl, by first | (refine vle_bool ?_; rw [hno]; done) | exact VLe.rf⟩, trivial⟩, ⟨⟨_, rfl, by first | (refine ble_eq ?_; rw [hno]; done) | (refine ble_eq ?_; rw [hno]; rfl) | (refine BLe.box ?_; rw [hno]; exact ⟨CLe.nil, trivial⟩)⟩, trivial⟩, trivial, rfl⟩⟩
  try simp only [tdy] at h82
  refine AL_g rfl rfl (x_field (off := 3) (o' := 3) rfl rfl rfl (by kernel_rfl) rfl) ?_
  refine AL_g rfl rfl (x_loadN (n := 2) rfl rfl rfl (by kernel_rfl) rfl rfl) ?_
  refine AL_g rfl rfl (x_field (off := 3) (o' := 3) rfl rfl rfl (by kernel_rfl) rfl) ?_
  refine AL_g rfl rfl (x_loadN (n := 2) rfl rfl rfl (by kernel_rfl) rfl rfl) ?_
  refine AL_gb rfl rfl (x_call0 rfl rfl rfl (apartS_c (changeOf a ((thenAll a b)[k]'hk2).name ((thenAll a b)[k]'hk2).plus.arity).minus (changeOf b ((thenAll a b)[k]'hk2).name ((thenAll a b)[k]'hk2).plus.arity).minus sx.2.2 sy.2.2) rfl rfl) (fun b90 h90 => ?_)
  refine AL_g rfl rfl (x_not rfl rfl) ?_
  refine AL_p (x_pickF rfl rfl rfl) ?_
  refine AL_nil ?_
  cases b90
  · try simp only [tdy] at h90
    have hno := then_bad hk2 (sumOk_m h90)
    refine AW_condT rfl ?_
    refine AW_seq ?_
    refine AW_region ?_
    refine AL_p (x_build (zs := [.slice none 0 0]) (places := [(0, 1)]) rfl (by kernel_rfl) rfl rfl rfl rfl rfl) ?_
    refine AL_p (x_store (n := 1) rfl rfl rfl rfl (by kernel_rfl) rfl rfl rfl) ?_
    refine AL_p (x_assign rfl rfl) ?_
    refine AL_nil ?_
    refine AW_ret (BQ_ret (BQ_ret ?_))
    exact ⟨rn [(9, 102)], ⟨⟨⟨_, rfl, VLe.rf⟩, ⟨_, rfl, by first | (refine vle_bool ?_; rw [hno]; done) | exact VLe.rf⟩, trivial⟩, ⟨⟨_, rfl, by first | (refine ble_eq ?_; rw [hno]; done) | (refine ble_eq ?_; rw [hno]; rfl) | (refine BLe.box ?_; rw [hno]; exact ⟨CLe.nil, trivial⟩)⟩, trivial⟩, trivial, rfl⟩⟩
  try simp only [tdy] at h90
  have hok := sumOk_yes (x := (changeOf a ((thenAll a b)[k]'hk2).name ((thenAll a b)[k]'hk2).plus.arity)) (y := (changeOf b ((thenAll a b)[k]'hk2).name ((thenAll a b)[k]'hk2).plus.arity)) (by omega) h82 h90
  have hsi := spec_is (x := (changeOf a ((thenAll a b)[k]'hk2).name ((thenAll a b)[k]'hk2).plus.arity)) (y := (changeOf b ((thenAll a b)[k]'hk2).name ((thenAll a b)[k]'hk2).plus.arity)) e1 (changeOf_arity hA _ _)
  refine AW_condF rfl ?_
  refine AW_skip ?_
  refine AW_seq ?_
  refine AW_region ?_
  refine AL_p (x_field (off := 0) (o' := 0) rfl rfl rfl (by kernel_rfl) rfl) ?_
  refine AL_p (x_load1 rfl rfl rfl (by kernel_rfl) rfl) ?_
  refine AL_p (x_build (zs := [.string ⟨#[]⟩, .int .i64 0, .slice none 0 0, .int .i64 0, .slice none 0 0]) (places := [(0, 1), (1, 2), (3, 2)]) rfl (by kernel_rfl) rfl rfl rfl rfl rfl) ?_
  refine AL_p (x_alloc (z := .agg #[.string ⟨#[]⟩, .int .i64 0, .slice none 0 0, .int .i64 0, .slice none 0 0]) 115 rfl (by kernel_rfl) rfl rfl rfl rfl) ?_
  refine AL_p (x_store (n := 5) rfl rfl rfl rfl (by kernel_rfl) rfl rfl rfl) ?_
  refine AL_nil ?_
  refine AW_seq ?_
  refine AW_draw rfl ?_
  refine AL_p (x_field (off := 1) (o' := 1) rfl rfl rfl (by kernel_rfl) rfl) ?_
  refine AL_p (x_loadN (n := 2) rfl rfl rfl (by kernel_rfl) rfl rfl) ?_
  refine AL_p (x_field (off := 3) (o' := 3) rfl rfl rfl (by kernel_rfl) rfl) ?_
  refine AL_p (x_loadN (n := 2) rfl rfl rfl (by kernel_rfl) rfl rfl) ?_
  refine AL_p (x_call0 rfl rfl rfl (siftF_c (changeOf a ((thenAll a b)[k]'hk2).name ((thenAll a b)[k]'hk2).plus.arity).plus (changeOf b ((thenAll a b)[k]'hk2).name ((thenAll a b)[k]'hk2).plus.arity).minus sx.2.1 sy.2.2) rfl rfl) ?_
  refine AL_p (x_field (off := 1) (o' := 1) rfl rfl rfl (by kernel_rfl) rfl) ?_
  refine AL_p (x_loadN (n := 2) rfl rfl rfl (by kernel_rfl) rfl rfl) ?_
  refine AL_p (x_field (off := 3) (o' := 3) rfl rfl rfl (by kernel_rfl) rfl) ?_
  refine AL_p (x_loadN (n := 2) rfl rfl rfl (by kernel_rfl) rfl rfl) ?_
  refine AL_p (x_call0 rfl rfl rfl (siftF_c (changeOf b ((thenAll a b)[k]'hk2).name ((thenAll a b)[k]'hk2).plus.arity).plus (changeOf a ((thenAll a b)[k]'hk2).name ((thenAll a b)[k]'hk2).plus.arity).minus sy.2.1 sx.2.2) rfl rfl) ?_
  refine AL_p (x_call0 rfl rfl rfl (sumS_c ⟨(changeOf a ((thenAll a b)[k]'hk2).name ((thenAll a b)[k]'hk2).plus.arity).plus.arity, (keepOf (changeOf a ((thenAll a b)[k]'hk2).name ((thenAll a b)[k]'hk2).plus.arity).plus (changeOf b ((thenAll a b)[k]'hk2).name ((thenAll a b)[k]'hk2).plus.arity).minus)⟩ ⟨(changeOf b ((thenAll a b)[k]'hk2).name ((thenAll a b)[k]'hk2).plus.arity).plus.arity, (keepOf (changeOf b ((thenAll a b)[k]'hk2).name ((thenAll a b)[k]'hk2).plus.arity).plus (changeOf a ((thenAll a b)[k]'hk2).name ((thenAll a b)[k]'hk2).plus.arity).minus)⟩ (keepOf_small sx.2.1) (keepOf_small sy.2.1) (keepOf_sorted cx.2.2.1 _) (fun r hr => hpv.1 r (List.mem_append_right _ hr)) (by have := hpl.1; simp only [plusOf, lessOf, List.length_append] at this; dsimp only; omega)) rfl rfl) ?_
  refine AL_p (x_field (off := 1) (o' := 1) rfl rfl rfl (by kernel_rfl) rfl) ?_
  refine AL_p (x_store (n := 2) rfl rfl rfl rfl (by kernel_rfl) rfl rfl rfl) ?_
  refine AL_nild (by kernel_rfl) ?_
  refine AW_seq ?_
  refine AW_draw rfl ?_
  refine AL_p (x_field (off := 3) (o' := 3) rfl rfl rfl (by kernel_rfl) rfl) ?_
  refine AL_p (x_loadN (n := 2) rfl rfl rfl (by kernel_rfl) rfl rfl) ?_
  refine AL_p (x_field (off := 1) (o' := 1) rfl rfl rfl (by kernel_rfl) rfl) ?_
  refine AL_p (x_loadN (n := 2) rfl rfl rfl (by kernel_rfl) rfl rfl) ?_
  refine AL_p (x_call0 rfl rfl rfl (siftF_c (changeOf a ((thenAll a b)[k]'hk2).name ((thenAll a b)[k]'hk2).plus.arity).minus (changeOf b ((thenAll a b)[k]'hk2).name ((thenAll a b)[k]'hk2).plus.arity).plus sx.2.2 sy.2.1) rfl rfl) ?_
  refine AL_p (x_field (off := 3) (o' := 3) rfl rfl rfl (by kernel_rfl) rfl) ?_
  refine AL_p (x_loadN (n := 2) rfl rfl rfl (by kernel_rfl) rfl rfl) ?_
  refine AL_p (x_field (off := 1) (o' := 1) rfl rfl rfl (by kernel_rfl) rfl) ?_
  refine AL_p (x_loadN (n := 2) rfl rfl rfl (by kernel_rfl) rfl rfl) ?_
  refine AL_p (x_call0 rfl rfl rfl (siftF_c (changeOf b ((thenAll a b)[k]'hk2).name ((thenAll a b)[k]'hk2).plus.arity).minus (changeOf a ((thenAll a b)[k]'hk2).name ((thenAll a b)[k]'hk2).plus.arity).plus sy.2.2 sx.2.1) rfl rfl) ?_
  refine AL_p (x_call0 rfl rfl rfl (sumS_c ⟨(changeOf a ((thenAll a b)[k]'hk2).name ((thenAll a b)[k]'hk2).plus.arity).minus.arity, (keepOf (changeOf a ((thenAll a b)[k]'hk2).name ((thenAll a b)[k]'hk2).plus.arity).minus (changeOf b ((thenAll a b)[k]'hk2).name ((thenAll a b)[k]'hk2).plus.arity).plus)⟩ ⟨(changeOf b ((thenAll a b)[k]'hk2).name ((thenAll a b)[k]'hk2).plus.arity).minus.arity, (keepOf (changeOf b ((thenAll a b)[k]'hk2).name ((thenAll a b)[k]'hk2).plus.arity).minus (changeOf a ((thenAll a b)[k]'hk2).name ((thenAll a b)[k]'hk2).plus.arity).plus)⟩ (keepOf_small sx.2.2) (keepOf_small sy.2.2) (keepOf_sorted cx.2.2.2 _) (fun r hr => hpv.2 r (List.mem_append_right _ hr)) (by have := hpl.2; simp only [plusOf, lessOf, List.length_append] at this; dsimp only; omega)) rfl rfl) ?_
  refine AL_p (x_field (off := 3) (o' := 3) rfl rfl rfl (by kernel_rfl) rfl) ?_
  refine AL_p (x_store (n := 2) rfl rfl rfl rfl (by kernel_rfl) rfl rfl rfl) ?_
  refine AL_nild (by kernel_rfl) ?_
  refine AW_seq ?_
  refine AW_region ?_
  refine AL_p (x_field (off := 1) (o' := 1) rfl rfl rfl (by kernel_rfl) rfl) ?_
  refine AL_p (x_field (off := 1) (o' := 2) rfl rfl rfl (by kernel_rfl) rfl) ?_
  refine AL_p (x_load1 rfl rfl rfl (by kernel_rfl) rfl) ?_
  refine AL_p (x_len (E := 72) (n := 1) rfl rfl (by kernel_rfl)) ?_
  refine AL_p (x_field (off := 3) (o' := 3) rfl rfl rfl (by kernel_rfl) rfl) ?_
  refine AL_p (x_field (off := 1) (o' := 4) rfl rfl rfl (by kernel_rfl) rfl) ?_
  refine AL_p (x_load1 rfl rfl rfl (by kernel_rfl) rfl) ?_
  refine AL_p (x_len (E := 72) (n := 1) rfl rfl (by kernel_rfl)) ?_
  refine AL_p (x_add rfl rfl rfl (IntWalk.i64_in _ (by have h1 := hcs; simp only [plusOf, lessOf] at h1; dsimp only; omega))) ?_
  refine AL_b (x_gtr rfl rfl rfl) (fun b130 h130 => ?_)
  refine AL_nil ?_
  cases b130
  · try simp only [tdy] at h130
    have hso := sums_no hk2 hsi (by dsimp only; omega)
    refine AW_condF rfl ?_
    refine AW_skip ?_
    refine AW_region ?_
    refine AL_p (x_add rfl rfl rfl (IntWalk.i64_in _ (by omega))) ?_
    refine AL_p (x_move rfl rfl) ?_
    refine AL_nil ?_
    refine ⟨⟨k + 1, ⟨by omega, hT.succ hk2 hok⟩⟩, rn [], ?_, by dsimp only; omega⟩
    exact ⟨by (repeat refine ⟨⟨_, rfl, by first | exact VLe.rf | exact vle_int (by dsimp only; omega)⟩, ?_⟩); exact trivial, by (repeat refine ⟨⟨_, rfl, by first | exact BLe.rf | exact BLe.box AllC.rf | exact BLe.arr (by first | rfl | exact hso)⟩, ?_⟩); exact trivial, by repeat (first | exact trivial | refine ⟨⟨rfl, by first | (left; intro h; cases h) | (right; rfl), by first | exact (fun _ h => ⟨_, h⟩) | exact (fun _ _ => ⟨_, rfl⟩) | (intro _ h; cases h)⟩, ?_⟩), rfl⟩
  try simp only [tdy] at h130
  have hso := sums_yes hk2 hsi (by dsimp only; omega)
  refine AW_condT rfl ?_
  refine AW_region ?_
  refine AL_p (x_field (off := 0) (o' := 0) rfl rfl rfl (by kernel_rfl) rfl) ?_
  refine AL_p (x_load1 rfl rfl rfl (by kernel_rfl) rfl) ?_
  refine AL_p (x_loadN (n := 5) rfl rfl rfl (by kernel_rfl) rfl rfl) ?_
  refine AL_p (y_bslice (E := 65) (e := changeE) [.tmp 133] ([(⟨((namesTo (a.changes ++ b.changes))[k]'hkn).name, ⟨(changeOf a ((thenAll a b)[k]'hk2).name ((thenAll a b)[k]'hk2).plus.arity).plus.arity, sortRows ((keepOf (changeOf a ((thenAll a b)[k]'hk2).name ((thenAll a b)[k]'hk2).plus.arity).plus (changeOf b ((thenAll a b)[k]'hk2).name ((thenAll a b)[k]'hk2).plus.arity).minus) ++ (keepOf (changeOf b ((thenAll a b)[k]'hk2).name ((thenAll a b)[k]'hk2).plus.arity).plus (changeOf a ((thenAll a b)[k]'hk2).name ((thenAll a b)[k]'hk2).plus.arity).minus))⟩, ⟨(changeOf a ((thenAll a b)[k]'hk2).name ((thenAll a b)[k]'hk2).plus.arity).minus.arity, sortRows ((keepOf (changeOf a ((thenAll a b)[k]'hk2).name ((thenAll a b)[k]'hk2).plus.arity).minus (changeOf b ((thenAll a b)[k]'hk2).name ((thenAll a b)[k]'hk2).plus.arity).plus) ++ (keepOf (changeOf b ((thenAll a b)[k]'hk2).name ((thenAll a b)[k]'hk2).plus.arity).minus (changeOf a ((thenAll a b)[k]'hk2).name ((thenAll a b)[k]'hk2).plus.arity).plus))⟩⟩ : Changet)]) 116 rfl rfl rfl rfl rfl rfl rfl rfl FitL.rf rfl rfl rfl rfl rfl rfl (by kernel_rfl)) ?_
  refine AL_p (y_append 117 rfl rfl rfl rfl rfl rfl rfl rfl (by kernel_rfl) (by have h1 := filtTo_len (p := someRows) (rows := thenSums a b) (k := k); rw [thenSums_len] at h1; simp only [List.length_cons, List.length_nil]; omega)) ?_
  refine AL_p (x_field (off := 0) (o' := 0) rfl rfl rfl (by kernel_rfl) rfl) ?_
  refine AL_p (x_store (n := 1) rfl rfl rfl rfl (by kernel_rfl) rfl rfl rfl) ?_
  refine AL_nil ?_
  refine AW_region ?_
  refine AL_p (x_add rfl rfl rfl (IntWalk.i64_in _ (by omega))) ?_
  refine AL_p (x_move rfl rfl) ?_
  refine AL_nil ?_
  refine ⟨⟨k + 1, ⟨by omega, hT.succ hk2 hok⟩⟩, rn [(111, 117)], ?_, by dsimp only; omega⟩
  exact ⟨by (repeat refine ⟨⟨_, rfl, by first | exact VLe.rf | exact vle_int (by dsimp only; omega)⟩, ?_⟩); exact trivial, by (repeat refine ⟨⟨_, rfl, by first | exact BLe.rf | exact BLe.box AllC.rf | exact BLe.arr (by first | rfl | exact hso)⟩, ?_⟩); exact trivial, by repeat (first | exact trivial | refine ⟨⟨rfl, by first | (left; intro h; cases h) | (right; rfl), by first | exact (fun _ h => ⟨_, h⟩) | exact (fun _ _ => ⟨_, rfl⟩) | (intro _ h; cases h)⟩, ?_⟩), rfl⟩
end Go.Proofs.YtibhoanjglfaoaaGreat

/- The walk of FnExactDeltaThen (printed by walk.py) -/
namespace Go.Proofs.YtibhoanjglfaoaaGreat
open Go.RowKit
set_option linter.unusedVariables false
set_option linter.unusedSimpArgs false
set_option maxRecDepth 100000

theorem frz0 (x : Deltat) (s : smallDelta x) : AC Tryz.prog 11 [.agg (deltaC x)] [] (.agg (deltaC x)) [] := AC.frz (toDelta_c x s 0) rfl (by intro k hk; simpa [AVal.ids, Cell.ids] using hk)
theorem frz1 (x : Deltat) (s : smallDelta x) : AC Tryz.prog 11 [.agg (deltaC x)] [] (.agg (deltaC x)) [] := AC.frz (toDelta_c x s 0) rfl (by intro k hk; simpa [AVal.ids, Cell.ids] using hk)
set_option maxHeartbeats 4000000 in
theorem lawFnExactDeltaThen.walk (w : World) (c0 : Array Value) (x0 : Deltat) (b0 : List Nat) (h0 : deltaE.rep w c0.toList x0 b0) (c1 : Array Value) (x1 : Deltat) (b1 : List Nat) (h1 : deltaE.rep w c1.toList x1 b1) :
    Calls Tryz.prog 4 #[.agg c0, .agg c1] w fun e w' => e = .returned (.bool true) ∧ Below w.heap.size w w' := by
  refine AM_law (r := 4) Tryz.func4 rfl Tryz.ntmps4 rfl Tryz.results4 w _ (args := [.agg (deltaC x0), .agg (deltaC x1)]) ⟨arg_agg h0, arg_agg h1, trivial⟩ (fun B => ?_)
  refine AM_seq ?_
  refine AM_region ?_
  refine AL_p (x_box 100 rfl rfl rfl rfl rfl rfl rfl) ?_
  refine AL_p (x_box 101 rfl rfl rfl rfl rfl rfl rfl) ?_
  refine AL_p (x_assign rfl rfl) ?_
  refine AL_nil ?_
  refine AM_seq ?_
  refine AM_region ?_
  refine AL_p (x_assign rfl rfl) ?_
  refine AL_nil ?_
  refine AM_seq ?_
  refine AM_region ?_
  refine AL_p (x_loadN (n := 1) rfl rfl rfl (by kernel_rfl) rfl rfl) ?_
  refine AL_p (x_move rfl rfl) ?_
  refine AL_p (x_call0 rfl rfl rfl (szDelta_c _ _ (by omega) (by omega)) rfl rfl) ?_
  refine AL_p (x_assign rfl rfl) ?_
  refine AL_nil ?_
  refine AM_seq ?_
  refine AM_seq ?_
  refine AM_region ?_
  refine AL_p (x_move rfl rfl) ?_
  refine AL_b (x_lss rfl rfl rfl) (fun b21 h21 => ?_)
  refine AL_nil ?_
  cases b21
  rotate_left
  · try simp only [tdy] at h21
    refine AM_condT rfl ?_
    refine AM_seq ?_
    refine AM_region ?_
    refine AL_p (x_assign rfl rfl) ?_
    refine AL_nil ?_
    refine AM_ret ?_
    exact rfl
  try simp only [tdy] at h21
  have f21 := (szR_nonneg h21).1
  have e21 := (szR_nonneg h21).2
  refine AM_condF rfl ?_
  refine AM_skip ?_
  refine AM_seq ?_
  refine AM_region ?_
  refine AL_p (x_loadN (n := 1) rfl rfl rfl (by kernel_rfl) rfl rfl) ?_
  refine AL_p (x_move rfl rfl) ?_
  refine AL_p (x_call0 rfl rfl rfl (szDelta_c _ _ (by omega) (by omega)) rfl rfl) ?_
  refine AL_p (x_assign rfl rfl) ?_
  refine AL_nil ?_
  refine AM_seq ?_
  refine AM_seq ?_
  refine AM_region ?_
  refine AL_p (x_move rfl rfl) ?_
  refine AL_b (x_lss rfl rfl rfl) (fun b26 h26 => ?_)
  refine AL_nil ?_
  cases b26
  rotate_left
  · try simp only [tdy] at h26
    refine AM_condT rfl ?_
    refine AM_seq ?_
    refine AM_region ?_
    refine AL_p (x_assign rfl rfl) ?_
    refine AL_nil ?_
    refine AM_ret ?_
    exact rfl
  try simp only [tdy] at h26
  have f26 := (szR_nonneg h26).1
  have e26 := (szR_nonneg h26).2
  have t0 : totDelta x0 ≤ 1048576 := by omega
  have t1 : totDelta x1 ≤ 1048576 := by omega
  have s0 := totDelta_small t0
  have s1 := totDelta_small t1
  refine AM_condF rfl ?_
  refine AM_skip ?_
  refine AM_seq ?_
  refine AM_draw rfl ?_
  refine AL_p (x_loadN (n := 1) rfl rfl rfl (by kernel_rfl) rfl rfl) ?_
  refine AL_p (x_call0 rfl rfl rfl (frz0 x0 s0) rfl rfl) ?_
  refine AL_p (x_loadN (n := 1) rfl rfl rfl (by kernel_rfl) rfl rfl) ?_
  refine AL_p (x_call0 rfl rfl rfl (frz1 x1 s1) rfl rfl) ?_
  refine AL_p (x_call0 rfl rfl rfl (deltaThenS_c x0 x1 s0 s1) rfl rfl) ?_
  refine AL_p (x_move rfl rfl) ?_
  refine AL_p (x_extract rfl rfl rfl) ?_
  refine AL_p (x_extract rfl rfl rfl) ?_
  refine AL_p (x_alloc (z := .agg #[.slice none 0 0]) 102 rfl (by kernel_rfl) rfl rfl rfl rfl) ?_
  refine AL_p (x_store (n := 1) rfl rfl rfl rfl (by kernel_rfl) rfl rfl rfl) ?_
  refine AL_p (x_assign rfl rfl) ?_
  refine AL_nild (by kernel_rfl) ?_
  refine AM_raise (fun B' => [(2, .one (.epo B' deltaE (x0) 0)), (3, .one (.epo B' deltaE (x1) 0)), (6, .one (.epo B' deltaE ((deltaThen x0 x1).1) 0)), (7, .one (.c _))]) (fun B' => ⟨⟨_, rfl, .box (f := deltaC) rfl rfl rfl FitL.rf⟩, ⟨_, rfl, .box (f := deltaC) rfl rfl rfl FitL.rf⟩, ⟨_, rfl, .box (f := deltaC) rfl rfl rfl FitL.rf⟩, ⟨_, rfl, .c⟩, trivial⟩) (fun B' => ?_)
  refine AM_seq ?_
  refine AM_region ?_
  refine AL_p (x_pload (f := deltaC) (n := 1) rfl rfl (by kernel_rfl) rfl rfl) ?_
  refine AL_p (x_callR rfl rfl rfl (toDelta_c x0 s0 103) rfl AllV.rf rfl rfl rfl rfl rfl) ?_
  refine AL_p (x_alloc (z := .agg #[.slice none 0 0]) 104 rfl (by kernel_rfl) rfl rfl rfl rfl) ?_
  refine AL_p (x_store (n := 1) rfl rfl rfl rfl (by kernel_rfl) rfl rfl rfl) ?_
  refine AL_nil ?_
  refine AM_seq ?_
  refine AM_region ?_
  refine AL_p (x_pload (f := deltaC) (n := 1) rfl rfl (by kernel_rfl) rfl rfl) ?_
  refine AL_p (x_callR rfl rfl rfl (toDelta_c x1 s1 105) rfl AllV.rf rfl rfl rfl rfl rfl) ?_
  refine AL_p (x_alloc (z := .agg #[.slice none 0 0]) 106 rfl (by kernel_rfl) rfl rfl rfl rfl) ?_
  refine AL_p (x_store (n := 1) rfl rfl rfl rfl (by kernel_rfl) rfl rfl rfl) ?_
  refine AL_nil ?_
  refine AM_seq ?_
  refine AM_region ?_
  refine AL_p (x_loadN (n := 1) rfl rfl rfl (by kernel_rfl) rfl rfl) ?_
  refine AL_p (x_loadN (n := 1) rfl rfl rfl (by kernel_rfl) rfl rfl) ?_
  refine AL_p (x_callR rfl rfl rfl (deltaThenI_c x0 x1 s0 s1 107) rfl AllV.rf rfl rfl rfl rfl rfl) ?_
  refine AL_p (x_move rfl rfl) ?_
  refine AL_p (x_extract rfl rfl rfl) ?_
  refine AL_p (x_extract rfl rfl rfl) ?_
  refine AL_p (x_alloc (z := .agg #[.slice none 0 0]) 108 rfl (by kernel_rfl) rfl rfl rfl rfl) ?_
  refine AL_p (x_store (n := 1) rfl rfl rfl rfl (by kernel_rfl) rfl rfl rfl) ?_
  refine AL_p (x_assign rfl rfl) ?_
  refine AL_nil ?_
  refine AM_seq ?_
  refine AM_seq ?_
  refine AM_region ?_
  refine AL_p (x_loadN (n := 1) rfl rfl rfl (by kernel_rfl) rfl rfl) ?_
  refine AL_p (x_pload (f := deltaC) (n := 1) rfl rfl (by kernel_rfl) rfl rfl) ?_
  refine AL_p (x_callR rfl rfl rfl (eqDelta_c ((deltaThen x0 x1).1)) rfl AllV.rf rfl rfl rfl rfl rfl) ?_
  refine AL_p (x_not rfl rfl) ?_
  refine AL_p (x_move rfl rfl) ?_
  refine AL_g rfl rfl (x_move rfl rfl) ?_
  refine AL_g rfl rfl (x_move rfl rfl) ?_
  refine AL_gb rfl rfl (x_bneq rfl rfl rfl (by kernel_rfl)) (fun b52 h52 => ?_)
  refine AL_p (x_pickF rfl rfl rfl) ?_
  refine AL_nil ?_
  cases b52
  rotate_left
  · exfalso; first | (simp [ba_beq_self] at h52; done) | (simp at h52; omega)
  try simp only [tdy] at h52
  refine AM_condF rfl ?_
  refine AM_skip ?_
  refine AM_seq ?_
  refine AM_seq ?_
  refine AM_draw rfl ?_
  refine AL_p (x_loadN (n := 1) rfl rfl rfl (by kernel_rfl) rfl rfl) ?_
  refine AL_p (x_pload (f := deltaC) (n := 1) rfl rfl (by kernel_rfl) rfl rfl) ?_
  refine AL_p (x_callR rfl rfl rfl (toDelta_c x0 s0 109) rfl AllV.rf rfl rfl rfl rfl rfl) ?_
  refine AL_p (x_callR rfl rfl rfl (eqDelta_c (x0)) rfl AllV.rf rfl rfl rfl rfl rfl) ?_
  refine AL_p (x_not rfl rfl) ?_
  refine AL_nild (by kernel_rfl) ?_
  refine AM_condF rfl ?_
  refine AM_skip ?_
  refine AM_seq ?_
  refine AM_seq ?_
  refine AM_draw rfl ?_
  refine AL_p (x_loadN (n := 1) rfl rfl rfl (by kernel_rfl) rfl rfl) ?_
  refine AL_p (x_pload (f := deltaC) (n := 1) rfl rfl (by kernel_rfl) rfl rfl) ?_
  refine AL_p (x_callR rfl rfl rfl (toDelta_c x1 s1 110) rfl AllV.rf rfl rfl rfl rfl rfl) ?_
  refine AL_p (x_callR rfl rfl rfl (eqDelta_c (x1)) rfl AllV.rf rfl rfl rfl rfl rfl) ?_
  refine AL_p (x_not rfl rfl) ?_
  refine AL_nild (by kernel_rfl) ?_
  refine AM_condF rfl ?_
  refine AM_skip ?_
  refine AM_seq ?_
  refine AM_region ?_
  refine AL_p (x_assign rfl rfl) ?_
  refine AL_nil ?_
  refine AM_seq ?_
  refine AM_regionM ?_
  refine LM_p (x_loadN (n := 1) rfl rfl rfl (by kernel_rfl) rfl rfl) ?_
  refine LM_p (x_move rfl rfl) ?_
  have n0 : cntDDelta (x0) ≤ 1152921504606846976 := cntDelta_le t0
  have v0 := markDDelta_cnt (x0) (1)
  refine LM_markA (F := deltaC) (z := x0) (z' := (markDDelta x0 (1)).1) [(2, _), (3, _), (6, _), (7, _), (9, _), (10, _), (11, _), (12, _)] [(106, some _), (108, some _), (105, some _), (107, some _)] rfl rfl rfl rfl ⟨_, _, Tryz.func16, rfl, rfl⟩ (fun w cs bs h hF => markDDelta_any cs _ bs _ 0 w h hF (by omega) (by omega)) rfl rfl FitL.rf (wf64 (by omega) (by omega)) ⟨⟨rfl, rfl⟩, ⟨rfl, rfl⟩, ⟨rfl, rfl⟩, ⟨rfl, trivial⟩, ⟨rfl, trivial⟩, ⟨rfl, trivial⟩, ⟨rfl, trivial⟩, ⟨rfl, trivial⟩, trivial⟩ ⟨⟨rfl, ⟨rfl, trivial⟩⟩, ⟨rfl, ⟨rfl, trivial⟩⟩, ⟨rfl, rfl, rfl⟩, ⟨rfl, rfl, rfl⟩, trivial⟩ ?_
  refine LM_p (x_assign rfl rfl) ?_
  refine LM_nil ?_
  refine AM_seq ?_
  refine AM_regionM ?_
  refine LM_p (x_loadN (n := 1) rfl rfl rfl (by kernel_rfl) rfl rfl) ?_
  refine LM_p (x_move rfl rfl) ?_
  have n1 : cntDDelta (x1) ≤ 1152921504606846976 := cntDelta_le t1
  have v1 := markDDelta_cnt (x1) ((markDDelta x0 (1)).2)
  refine LM_markA (F := deltaC) (z := x1) (z' := (markDDelta x1 ((markDDelta x0 (1)).2)).1) [(2, _), (3, _), (6, _), (7, _), (10, _), (11, _), (12, _)] [(108, some _), (107, some _)] rfl rfl rfl rfl ⟨_, _, Tryz.func16, rfl, rfl⟩ (fun w cs bs h hF => markDDelta_any cs _ bs _ 0 w h hF (by omega) (by omega)) rfl rfl FitL.rf (wf64 (by omega) (by omega)) ⟨⟨rfl, rfl⟩, ⟨rfl, rfl⟩, ⟨rfl, rfl⟩, ⟨rfl, trivial⟩, ⟨rfl, trivial⟩, ⟨rfl, trivial⟩, ⟨rfl, trivial⟩, trivial⟩ ⟨⟨rfl, ⟨rfl, trivial⟩⟩, ⟨rfl, rfl, rfl⟩, trivial⟩ ?_
  refine LM_p (x_assign rfl rfl) ?_
  refine LM_nil ?_
  refine AM_seq ?_
  refine AM_seq ?_
  refine AM_region ?_
  refine AL_p (x_move rfl rfl) ?_
  refine AL_b (x_lss rfl rfl rfl) (fun b71 h71 => ?_)
  refine AL_p (x_move rfl rfl) ?_
  cases b71
  rotate_left
  · exfalso; first | (simp [ba_beq_self] at h71; done) | (simp at h71; omega)
  try simp only [tdy] at h71
  refine AL_g rfl rfl (x_loadN (n := 1) rfl rfl rfl (by kernel_rfl) rfl rfl) ?_
  refine AL_g rfl rfl (x_pload (f := deltaC) (n := 1) rfl rfl (by kernel_rfl) rfl rfl) ?_
  refine AL_g rfl rfl (x_callR rfl rfl rfl (eqDelta_c ((deltaThen x0 x1).1)) rfl AllV.rf rfl rfl rfl rfl rfl) ?_
  refine AL_g rfl rfl (x_not rfl rfl) ?_
  refine AL_p (x_pickF rfl rfl rfl) ?_
  refine AL_p (x_move rfl rfl) ?_
  refine AL_g rfl rfl (x_move rfl rfl) ?_
  refine AL_g rfl rfl (x_move rfl rfl) ?_
  refine AL_gb rfl rfl (x_bneq rfl rfl rfl (by kernel_rfl)) (fun b81 h81 => ?_)
  refine AL_p (x_pickF rfl rfl rfl) ?_
  refine AL_nil ?_
  cases b81
  rotate_left
  · exfalso; first | (simp [ba_beq_self] at h81; done) | (simp at h81; omega)
  try simp only [tdy] at h81
  refine AM_condF rfl ?_
  refine AM_skip ?_
  refine AM_seq ?_
  refine AM_region ?_
  refine AL_p (x_assign rfl rfl) ?_
  refine AL_nil ?_
  refine AM_seq ?_
  refine AM_regionM ?_
  refine LM_p (x_loadN (n := 1) rfl rfl rfl (by kernel_rfl) rfl rfl) ?_
  refine LM_p (x_move rfl rfl) ?_
  have n2 : cntDDelta ((deltaThen x0 x1).1) ≤ 1152921504606846976 := deltaThen_cnt s0 s1
  have v2 := markDDelta_cnt ((deltaThen x0 x1).1) (1)
  refine LM_markAK (F := deltaC) (z := (deltaThen x0 x1).1) (z' := (markDDelta (deltaThen x0 x1).1 (1)).1) 10 108 (fun B' => [(2, .one (.epo B' deltaE (x0) 0)), (3, .one (.epo B' deltaE (x1) 0)), (6, .one (.epo B' deltaE ((deltaThen x0 x1).1) 0)), (7, .one (.c _)), (13, .one (.c _))]) rfl rfl rfl rfl rfl rfl rfl rfl ⟨_, _, Tryz.func16, rfl, rfl⟩ (fun w cs bs h hF => markDDelta_any cs _ bs _ 0 w h hF (by omega) (by omega)) rfl rfl FitL.rf (wf64 (by omega) (by omega)) (fun B' => ⟨⟨_, rfl, .epo⟩, ⟨_, rfl, .epo⟩, ⟨_, rfl, .epo⟩, ⟨_, rfl, .c⟩, ⟨_, rfl, .c⟩, trivial⟩) (fun B' => ?_)
  refine LM_p (x_assign rfl rfl) ?_
  refine LM_nil ?_
  refine AM_seq ?_
  refine AM_region ?_
  refine AL_p (x_assign rfl rfl) ?_
  refine AL_nil ?_
  refine AM_seq ?_
  refine AM_region ?_
  refine AL_p (x_pload (f := deltaC) (n := 1) rfl rfl (by kernel_rfl) rfl rfl) ?_
  refine AL_p (x_move rfl rfl) ?_
  refine AL_p (x_callR rfl rfl rfl (heldDDelta_c ((deltaThen x0 x1).1) (1) (by omega) (by omega)) rfl AllV.rf rfl rfl rfl rfl rfl) ?_
  refine AL_p (x_assign rfl rfl) ?_
  refine AL_nil ?_
  refine AM_seq ?_
  refine AM_seq ?_
  refine AM_region ?_
  refine AL_p (x_move rfl rfl) ?_
  refine AL_b (x_lss rfl rfl rfl) (fun b90 h90 => ?_)
  refine AL_nil ?_
  cases b90
  rotate_left
  · exfalso; first | (simp [ba_beq_self] at h90; done) | (simp at h90; omega)
  try simp only [tdy] at h90
  refine AM_condF rfl ?_
  refine AM_skip ?_
  refine AM_seq ?_
  refine AM_seq ?_
  refine AM_region ?_
  refine AL_p (x_move rfl rfl) ?_
  refine AL_p (x_move rfl rfl) ?_
  refine AL_b (x_neq rfl rfl rfl) (fun b93 h93 => ?_)
  refine AL_nil ?_
  cases b93
  rotate_left
  · exfalso; first | (simp [ba_beq_self] at h93; done) | (simp at h93; omega)
  try simp only [tdy] at h93
  refine AM_condF rfl ?_
  refine AM_skip ?_
  refine AM_seq ?_
  refine AM_draw rfl ?_
  refine AL_p (x_pload (f := deltaC) (n := 1) rfl rfl (by kernel_rfl) rfl rfl) ?_
  refine AL_p (x_callR rfl rfl rfl (toDelta_c x0 s0 111) rfl AllV.rf rfl rfl rfl rfl rfl) ?_
  refine AL_p (x_pload (f := deltaC) (n := 1) rfl rfl (by kernel_rfl) rfl rfl) ?_
  refine AL_p (x_callR rfl rfl rfl (toDelta_c x1 s1 112) rfl AllV.rf rfl rfl rfl rfl rfl) ?_
  refine AL_p (x_callR rfl rfl rfl (deltaThenI_c x0 x1 s0 s1 113) rfl AllV.rf rfl rfl rfl rfl rfl) ?_
  refine AL_p (x_move rfl rfl) ?_
  refine AL_p (x_extract rfl rfl rfl) ?_
  refine AL_p (x_extract rfl rfl rfl) ?_
  refine AL_p (x_alloc (z := .agg #[.slice none 0 0]) 114 rfl (by kernel_rfl) rfl rfl rfl rfl) ?_
  refine AL_p (x_store (n := 1) rfl rfl rfl rfl (by kernel_rfl) rfl rfl rfl) ?_
  refine AL_p (x_assign rfl rfl) ?_
  refine AL_nild (by kernel_rfl) ?_
  refine AM_seq ?_
  refine AM_seq ?_
  refine AM_region ?_
  refine AL_p (x_loadN (n := 1) rfl rfl rfl (by kernel_rfl) rfl rfl) ?_
  refine AL_p (x_pload (f := deltaC) (n := 1) rfl rfl (by kernel_rfl) rfl rfl) ?_
  refine AL_p (x_callR rfl rfl rfl (eqDelta_c ((deltaThen x0 x1).1)) rfl AllV.rf rfl rfl rfl rfl rfl) ?_
  refine AL_p (x_not rfl rfl) ?_
  refine AL_p (x_move rfl rfl) ?_
  refine AL_g rfl rfl (x_move rfl rfl) ?_
  refine AL_g rfl rfl (x_move rfl rfl) ?_
  refine AL_gb rfl rfl (x_bneq rfl rfl rfl (by kernel_rfl)) (fun b109 h109 => ?_)
  refine AL_p (x_pickF rfl rfl rfl) ?_
  refine AL_nil ?_
  cases b109
  rotate_left
  · exfalso; first | (simp [ba_beq_self] at h109; done) | (simp at h109; omega)
  try simp only [tdy] at h109
  refine AM_condF rfl ?_
  refine AM_skip ?_
  refine AM_seq ?_
  refine AM_region ?_
  refine AL_p (x_assign rfl rfl) ?_
  refine AL_nil ?_
  refine AM_seq ?_
  refine AM_region ?_
  refine AL_p (x_pload (f := deltaC) (n := 1) rfl rfl (by kernel_rfl) rfl rfl) ?_
  refine AL_p (x_move rfl rfl) ?_
  refine AL_p (x_callR rfl rfl rfl (heldDDelta_c ((deltaThen x0 x1).1) (1) (by omega) (by omega)) rfl AllV.rf rfl rfl rfl rfl rfl) ?_
  refine AL_p (x_assign rfl rfl) ?_
  refine AL_nil ?_
  refine AM_seq ?_
  refine AM_seq ?_
  refine AM_region ?_
  refine AL_p (x_move rfl rfl) ?_
  refine AL_b (x_lss rfl rfl rfl) (fun b115 h115 => ?_)
  refine AL_nil ?_
  cases b115
  rotate_left
  · exfalso; first | (simp [ba_beq_self] at h115; done) | (simp at h115; omega)
  try simp only [tdy] at h115
  refine AM_condF rfl ?_
  refine AM_skip ?_
  refine AM_seq ?_
  refine AM_seq ?_
  refine AM_region ?_
  refine AL_p (x_move rfl rfl) ?_
  refine AL_p (x_move rfl rfl) ?_
  refine AL_b (x_neq rfl rfl rfl) (fun b118 h118 => ?_)
  refine AL_nil ?_
  cases b118
  rotate_left
  · exfalso; first | (simp [ba_beq_self] at h118; done) | (simp at h118; omega)
  try simp only [tdy] at h118
  refine AM_condF rfl ?_
  refine AM_skip ?_
  refine AM_seq ?_
  refine AM_region ?_
  refine AL_p (x_assign rfl rfl) ?_
  refine AL_nil ?_
  refine AM_ret ?_
  exact rfl
end Go.Proofs.YtibhoanjglfaoaaGreat

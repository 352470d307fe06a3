/- Lemmas of the walks, part 5. -/
import Derived.Test.YtfdpigafekohgaaK4
/- Messages that are drawn (printed by walk.py) -/
namespace Go.Proofs.Ytfdpigafekohgaa
open Go.RowKit
set_option linter.unusedVariables false
set_option linter.unusedSimpArgs false
set_option maxRecDepth 100000

set_option maxHeartbeats 4000000 in
theorem fullS_c (f : Int) (h0 : 0 ≤ f) (h1 : f < 8) : AC Try.prog 154 [.one (.c (.int .i64 f))] [] (.one (.c (.int .i64 (topOf f - 1)))) [] := by
  refine AC_body1 Try.func154 rfl rfl Try.ntmps154 rfl Try.results154 ?_
  refine AW_seq ?_
  refine AW_region ?_
  refine AL_p (x_assign rfl rfl) ?_
  refine AL_nil ?_
  refine AW_seq ?_
  refine AW_region ?_
  refine AL_p (x_move rfl rfl) ?_
  refine AL_p (x_call0 rfl rfl rfl (fbS_c _) rfl rfl) ?_
  refine AL_p (x_quo rfl rfl rfl (by decide) (bitsOf_quo f)) ?_
  refine AL_p (x_call0 rfl rfl rfl (pow_c _ (by have := bitsOf_le f; omega) (by have := bitsOf_le f; omega)) rfl rfl) ?_
  refine AL_p (x_sub rfl rfl rfl (r := topOf f - 1) (by have := topOf_bound f; rw [topOf_pow h0 h1]; exact IntWalk.i64_in _ (by omega))) ?_
  refine AL_p (x_assign rfl rfl) ?_
  refine AL_nil ?_
  refine AW_ret ?_
  exact ⟨rn [], ⟨⟨⟨_, rfl, vle_int (rfl)⟩, trivial⟩, trivial, trivial, rfl⟩⟩

set_option maxHeartbeats 4000000 in
theorem head_x (b : List Int) (c : Cur) (hb : b.length ≤ 1048576) : AX Try.prog 122 [.one (.ptr 200 0)] [(200, some (curB b c))] (ι := List Int × Cur) (fun i => i.1.length = 8) (fun i => .agg [.own 300]) (fun i => [(200, some (curB b i.2)), (300, some (.arr 3 (intE .i64) i.1 true))]) := by
  refine AX_bodyC (n := 1) (k := 9) (cs := fun (i : List Int × Cur) => [.own 300]) (T := fun (_ : List Int × Cur) => [(2, .one (.ptr 9 0))]) (Lf := fun (i : List Int × Cur) => ((9, some (.box [.own 300])) :: [(200, some (curB b i.2)), (300, some (.arr 3 (intE .i64) i.1 true))])) (L' := fun (i : List Int × Cur) => [(200, some (curB b i.2)), (300, some (.arr 3 (intE .i64) i.1 true))]) Try.func122 rfl rfl Try.ntmps122 rfl Try.results122 (fun _ => rfl) (fun _ => rfl) (by kernel_rfl) (fun _ => rfl) (fun _ => rfl) (fun (_ : List Int × Cur) => ⟨trivial, (by repeat (first | exact trivial | refine ⟨⟨_, rfl, BLe.rf⟩, ?_⟩)), (by repeat (first | exact trivial | refine ⟨⟨rfl, by first | (left; intro h; cases h) | (right; rfl), by first | exact (fun _ h => ⟨_, h⟩) | exact (fun _ _ => ⟨_, rfl⟩)⟩, ?_⟩)), rfl⟩) ?_
  refine AW_seq ?_
  refine AW_regionN ?_
  refine AN_p (x_alloc (z := .agg #[.slice none 0 0]) 100 rfl (by kernel_rfl) rfl rfl rfl rfl) ?_
  refine AN_nil ?_
  refine AW_seq ?_
  refine AW_regionN ?_
  refine AN_p (x_move rfl rfl) ?_
  have d6 := dBelow_lt b c (n := 4) (by decide)
  refine AN_p (x_call (ks := []) (L := [(200, some _)]) (L' := [(200, some _)]) rfl rfl rfl (below_c b c hb 4) rfl AllV.rf (caught_of rfl) rfl rfl rfl ⟨rfl, trivial⟩ rfl) ?_
  refine AN_p (x_add rfl rfl rfl (IntWalk.i64_in _ (by omega))) ?_
  refine AN_p (x_move rfl rfl) ?_
  have d9 := dBelow_lt b (dBelow b c 4).2 (n := 5) (by decide)
  refine AN_p (x_call (ks := []) (L := [(200, some _)]) (L' := [(200, some _)]) rfl rfl rfl (below_c b (dBelow b c 4).2 hb 5) rfl AllV.rf (caught_of rfl) rfl rfl rfl ⟨rfl, trivial⟩ rfl) ?_
  refine AN_p (x_move rfl rfl) ?_
  have d11 := dBelow_lt b (dBelow b (dBelow b c 4).2 5).2 (n := 5) (by decide)
  refine AN_p (x_call (ks := []) (L := [(200, some _)]) (L' := [(200, some _)]) rfl rfl rfl (below_c b (dBelow b (dBelow b c 4).2 5).2 hb 5) rfl AllV.rf (caught_of rfl) rfl rfl rfl ⟨rfl, trivial⟩ rfl) ?_
  refine AN_p (x_move rfl rfl) ?_
  have d13 := dBelow_lt b (dBelow b (dBelow b (dBelow b c 4).2 5).2 5).2 (n := 3) (by decide)
  refine AN_p (x_call (ks := []) (L := [(200, some _)]) (L' := [(200, some _)]) rfl rfl rfl (below_c b (dBelow b (dBelow b (dBelow b c 4).2 5).2 5).2 hb 3) rfl AllV.rf (caught_of rfl) rfl rfl rfl ⟨rfl, trivial⟩ rfl) ?_
  refine AN_p (x_move rfl rfl) ?_
  have d15 := dBelow_lt b (dBelow b (dBelow b (dBelow b (dBelow b c 4).2 5).2 5).2 3).2 (n := 4) (by decide)
  refine AN_p (x_call (ks := []) (L := [(200, some _)]) (L' := [(200, some _)]) rfl rfl rfl (below_c b (dBelow b (dBelow b (dBelow b (dBelow b c 4).2 5).2 5).2 3).2 hb 4) rfl AllV.rf (caught_of rfl) rfl rfl rfl ⟨rfl, trivial⟩ rfl) ?_
  refine AN_p (x_move rfl rfl) ?_
  have d17 := dBelow_lt b (dBelow b (dBelow b (dBelow b (dBelow b (dBelow b c 4).2 5).2 5).2 3).2 4).2 (n := 4) (by decide)
  refine AN_p (x_call (ks := []) (L := [(200, some _)]) (L' := [(200, some _)]) rfl rfl rfl (below_c b (dBelow b (dBelow b (dBelow b (dBelow b (dBelow b c 4).2 5).2 5).2 3).2 4).2 hb 4) rfl AllV.rf (caught_of rfl) rfl rfl rfl ⟨rfl, trivial⟩ rfl) ?_
  refine AN_p (y_bslice (E := 3) (e := (intE .i64)) [.tmp 7, .tmp 9, .tmp 11, .const (.int .i64 (2048)), .tmp 13, .tmp 15, .tmp 17, .const (.int .i64 (17))] ([1 + (dBelow b c 4).1, (dBelow b (dBelow b c 4).2 5).1, (dBelow b (dBelow b (dBelow b c 4).2 5).2 5).1, 2048, (dBelow b (dBelow b (dBelow b (dBelow b c 4).2 5).2 5).2 3).1, (dBelow b (dBelow b (dBelow b (dBelow b (dBelow b c 4).2 5).2 5).2 3).2 4).1, (dBelow b (dBelow b (dBelow b (dBelow b (dBelow b (dBelow b c 4).2 5).2 5).2 3).2 4).2 4).1, 17]) 101 rfl rfl rfl rfl rfl rfl rfl rfl FitL.rf rfl rfl rfl rfl rfl rfl (by kernel_rfl)) ?_
  refine AN_p (x_build (zs := [.slice none 0 0]) (places := [(0, 1)]) rfl (by kernel_rfl) rfl rfl rfl rfl rfl) ?_
  refine AN_p (x_alloc (z := .agg #[.slice none 0 0]) 102 rfl (by kernel_rfl) rfl rfl rfl rfl) ?_
  refine AN_p (x_store (n := 1) rfl rfl rfl rfl (by kernel_rfl) rfl rfl rfl) ?_
  refine AN_nil ?_
  refine AW_seq ?_
  refine AW_seq ?_
  refine AW_regionN ?_
  refine AN_p (x_move rfl rfl) ?_
  have d21 := dBelow_lt b (dBelow b (dBelow b (dBelow b (dBelow b (dBelow b (dBelow b c 4).2 5).2 5).2 3).2 4).2 4).2 (n := 4) (by decide)
  refine AN_p (x_call (ks := []) (L := [(200, some _)]) (L' := [(200, some _)]) rfl rfl rfl (below_c b (dBelow b (dBelow b (dBelow b (dBelow b (dBelow b (dBelow b c 4).2 5).2 5).2 3).2 4).2 4).2 hb 4) rfl AllV.rf (caught_of rfl) rfl rfl rfl ⟨rfl, trivial⟩ rfl) ?_
  refine AN_b (x_eql rfl rfl rfl) (fun b22 h22 => ?_)
  refine AN_nil ?_
  cases b22
  · try simp only [tdy] at h22
    refine AW_condF rfl ?_
    refine AW_skip ?_
    refine AW_seq ?_
    refine AW_regionN ?_
    refine AN_p (x_loadN (n := 1) rfl rfl rfl (by kernel_rfl) rfl rfl) ?_
    refine AN_p (x_store (n := 1) rfl rfl rfl rfl (by kernel_rfl) rfl rfl rfl) ?_
    refine AN_nil ?_
    refine AW_ret ?_
    refine ⟨⟨_, _⟩, ?_, rn [(9, 100), (300, 101)], by exact ⟨⟨⟨_, rfl, VLe.rf⟩, trivial⟩, ⟨⟨_, rfl, by first | exact BLe.rf | exact BLe.box (by repeat (first | exact trivial | refine ⟨by first | exact CLe.rf | exact CLe.nil, ?_⟩))⟩, ⟨_, rfl, BLe.rf⟩, ⟨_, rfl, BLe.rf⟩, trivial⟩, by repeat (first | exact trivial | refine ⟨⟨rfl, by first | (left; intro h; cases h) | (right; rfl), by first | exact (fun _ h => ⟨_, h⟩) | exact (fun _ _ => ⟨_, rfl⟩)⟩, ?_⟩), rfl⟩⟩
    simp
  try simp only [tdy] at h22
  refine AW_condT rfl ?_
  refine AW_seq ?_
  refine AW_regionN ?_
  refine AN_p (x_move rfl rfl) ?_
  have d24 := dBelow_lt b (dBelow b (dBelow b (dBelow b (dBelow b (dBelow b (dBelow b (dBelow b c 4).2 5).2 5).2 3).2 4).2 4).2 4).2 (n := 8) (by decide)
  refine AN_p (x_call (ks := []) (L := [(200, some _)]) (L' := [(200, some _)]) rfl rfl rfl (below_c b (dBelow b (dBelow b (dBelow b (dBelow b (dBelow b (dBelow b (dBelow b c 4).2 5).2 5).2 3).2 4).2 4).2 4).2 hb 8) rfl AllV.rf (caught_of rfl) rfl rfl rfl ⟨rfl, trivial⟩ rfl) ?_
  refine AN_p (x_assign rfl rfl) ?_
  refine AN_nil ?_
  refine AW_draw rfl ?_
  refine AL_p (x_field (off := 0) (o' := 0) rfl rfl rfl (by kernel_rfl) rfl) ?_
  refine AL_p (x_load1 rfl rfl rfl (by kernel_rfl) rfl) ?_
  refine AL_p (x_move rfl rfl) ?_
  refine AL_p (x_move rfl rfl) ?_
  refine AL_p (x_call0 rfl rfl rfl (fbS_c _) rfl rfl) ?_
  refine AL_p (x_quo rfl rfl rfl (by decide) (bitsOf_quo _)) ?_
  refine AL_p (x_call0 rfl rfl rfl (pow_c (bitsOf (dBelow b (dBelow b (dBelow b (dBelow b (dBelow b (dBelow b (dBelow b (dBelow b c 4).2 5).2 5).2 3).2 4).2 4).2 4).2 8).1 / 8) (by have := bitsOf_le (dBelow b (dBelow b (dBelow b (dBelow b (dBelow b (dBelow b (dBelow b (dBelow b c 4).2 5).2 5).2 3).2 4).2 4).2 4).2 8).1; omega) (by have := bitsOf_le (dBelow b (dBelow b (dBelow b (dBelow b (dBelow b (dBelow b (dBelow b (dBelow b c 4).2 5).2 5).2 3).2 4).2 4).2 4).2 8).1; omega)) rfl rfl) ?_
  refine AL_p (x_sub rfl rfl rfl (r := w64 _) rfl) ?_
  refine AL_p (x_move rfl rfl) ?_
  have d34 := dBelow_lt b (dBelow b (dBelow b (dBelow b (dBelow b (dBelow b (dBelow b (dBelow b (dBelow b c 4).2 5).2 5).2 3).2 4).2 4).2 4).2 8).2 (n := 2) (by decide)
  refine AL_p (x_call (ks := []) (L := [(200, some _)]) (L' := [(200, some _)]) rfl rfl rfl (below_c b (dBelow b (dBelow b (dBelow b (dBelow b (dBelow b (dBelow b (dBelow b (dBelow b c 4).2 5).2 5).2 3).2 4).2 4).2 4).2 8).2 hb 2) rfl AllV.rf (caught_of rfl) rfl rfl rfl ⟨rfl, trivial⟩ rfl) ?_
  refine AL_p (x_sub rfl rfl rfl (r := w64 _) rfl) ?_
  refine AL_p (x_oindex (n := 1) rfl rfl rfl rfl (by kernel_rfl) rfl (k := (dBelow b (dBelow b (dBelow b (dBelow b (dBelow b (dBelow b (dBelow b (dBelow b c 4).2 5).2 5).2 3).2 4).2 4).2 4).2 8).1.toNat) (by omega) (by first | omega | (simp only [List.length_set]; omega) | (simp; omega))) ?_
  refine AL_p (x_ostore (_) rfl rfl rfl rfl (by kernel_rfl) rfl rfl rfl rfl FitL.rf rfl rfl (by first | omega | (rw [filledTo_len (by omega)]; omega) | (simp; omega))) ?_
  refine AL_nild (by kernel_rfl) ?_
  refine AW_seq ?_
  refine AW_regionN ?_
  refine AN_p (x_loadN (n := 1) rfl rfl rfl (by kernel_rfl) rfl rfl) ?_
  refine AN_p (x_store (n := 1) rfl rfl rfl rfl (by kernel_rfl) rfl rfl rfl) ?_
  refine AN_nil ?_
  refine AW_ret ?_
  refine ⟨⟨_, _⟩, ?_, rn [(9, 100), (300, 101)], by exact ⟨⟨⟨_, rfl, VLe.rf⟩, trivial⟩, ⟨⟨_, rfl, by first | exact BLe.rf | exact BLe.box (by repeat (first | exact trivial | refine ⟨by first | exact CLe.rf | exact CLe.nil, ?_⟩))⟩, ⟨_, rfl, BLe.rf⟩, ⟨_, rfl, BLe.rf⟩, trivial⟩, by repeat (first | exact trivial | refine ⟨⟨rfl, by first | (left; intro h; cases h) | (right; rfl), by first | exact (fun _ h => ⟨_, h⟩) | exact (fun _ _ => ⟨_, rfl⟩)⟩, ?_⟩), rfl⟩⟩
  simp

set_option maxHeartbeats 4000000 in
theorem match_x (b : List Int) (c : Cur) (hb : b.length ≤ 1048576) : AX Try.prog 145 [.one (.ptr 200 0)] [(200, some (curB b c))] (ι := (List Int × List Int) × Cur) (fun i => i.1.1.length = 8 ∧ i.1.2.length = 8) (fun i => .agg [.own 301, .own 302]) (fun i => [(200, some (curB b i.2)), (301, some (.arr 3 (intE .i64) i.1.1 true)), (302, some (.arr 3 (intE .i64) i.1.2 true))]) := by
  refine AX_bodyC (n := 2) (k := 9) (cs := fun (i : (List Int × List Int) × Cur) => [.own 301, .own 302]) (T := fun (_ : (List Int × List Int) × Cur) => [(2, .one (.ptr 9 0))]) (Lf := fun (i : (List Int × List Int) × Cur) => ((9, some (.box [.own 301, .own 302])) :: [(200, some (curB b i.2)), (301, some (.arr 3 (intE .i64) i.1.1 true)), (302, some (.arr 3 (intE .i64) i.1.2 true))])) (L' := fun (i : (List Int × List Int) × Cur) => [(200, some (curB b i.2)), (301, some (.arr 3 (intE .i64) i.1.1 true)), (302, some (.arr 3 (intE .i64) i.1.2 true))]) Try.func145 rfl rfl Try.ntmps145 rfl Try.results145 (fun _ => rfl) (fun _ => rfl) (by kernel_rfl) (fun _ => rfl) (fun _ => rfl) (fun (_ : (List Int × List Int) × Cur) => ⟨trivial, (by repeat (first | exact trivial | refine ⟨⟨_, rfl, BLe.rf⟩, ?_⟩)), (by repeat (first | exact trivial | refine ⟨⟨rfl, by first | (left; intro h; cases h) | (right; rfl), by first | exact (fun _ h => ⟨_, h⟩) | exact (fun _ _ => ⟨_, rfl⟩)⟩, ?_⟩)), rfl⟩) ?_
  refine AW_seq ?_
  refine AW_regionN ?_
  refine AN_p (x_alloc (z := .agg #[.slice none 0 0, .slice none 0 0]) 100 rfl (by kernel_rfl) rfl rfl rfl rfl) ?_
  refine AN_nil ?_
  refine AW_seq ?_
  refine AW_regionN ?_
  refine AN_p (x_callR rfl rfl rfl (AC.renum (res := .agg [.own 101, .own 102]) (L := [(101, some (.arr 3 (intE .i64) (List.replicate 8 0) true)), (102, some (.arr 3 (intE .i64) (List.replicate 8 0) true))]) (r := rn [(101, 0), (102, 1)]) matchAll_c ⟨⟨_, rfl, BLe.rf⟩, ⟨_, rfl, BLe.rf⟩, trivial⟩ rfl) rfl AllV.rf rfl rfl rfl rfl rfl) ?_
  refine AN_p (x_alloc (z := .agg #[.slice none 0 0, .slice none 0 0]) 103 rfl (by kernel_rfl) rfl rfl rfl rfl) ?_
  refine AN_p (x_store (n := 2) rfl rfl rfl rfl (by kernel_rfl) rfl rfl rfl) ?_
  refine AN_nil ?_
  refine AW_seq ?_
  refine AW_regionN ?_
  refine AN_p (x_move rfl rfl) ?_
  refine AN_x (L := [(200, some (curB b c))]) rfl rfl rfl (head_x b c hb) rfl rfl (fun _ => rfl) (fun _ => rfl) ⟨rfl, trivial⟩ (fun _ => rfl) ?_
  rintro ⟨x10, c10⟩ g10
  dsimp only at g10 ⊢
  refine AN_p (x_alloc (z := .agg #[.slice none 0 0]) 104 rfl (by kernel_rfl) rfl rfl rfl rfl) ?_
  refine AN_p (x_store (n := 1) rfl rfl rfl rfl (by kernel_rfl) rfl rfl rfl) ?_
  refine AN_nil ?_
  refine AW_seq ?_
  refine AW_seq ?_
  refine AW_regionN ?_
  refine AN_p (x_move rfl rfl) ?_
  have d12 := dBelow_lt b c10 (n := 4) (by decide)
  refine AN_p (x_call (ks := []) (L := [(200, some _)]) (L' := [(200, some _)]) rfl rfl rfl (below_c b c10 hb 4) rfl AllV.rf (caught_of rfl) rfl rfl rfl ⟨rfl, trivial⟩ rfl) ?_
  refine AN_p (x_assign rfl rfl) ?_
  refine AN_nil ?_
  refine AW_block ?_
  refine AW_loop2 (ι := {q : Int × List Int × List Int × Cur // (q.2.1).length = 8 ∧ (q.2.2.1).length = 8 ∧ (q.1) ≤ 4}) (fun p => [(5, .one (.c (.int .i64 (p.1.1))))]) (fun p => [(101, some (.arr 3 (intE .i64) (p.1.2.1) true)), (102, some (.arr 3 (intE .i64) (p.1.2.2.1) true)), (200, some (curB b (p.1.2.2.2)))]) [0, 2, 3, 4] [100, 103, 104, 300] (fun p => (p.1.1).toNat) ⟨⟨(dBelow b c10 4).1, List.replicate 8 0, List.replicate 8 0, (dBelow b c10 4).2⟩, ⟨by simp, by simp, by dsimp only; omega⟩⟩ (rn []) ?_ ?_
  exact ⟨by (repeat refine ⟨⟨_, rfl, by first | exact VLe.rf | exact vle_int (by dsimp only; omega)⟩, ?_⟩); exact trivial, by (repeat refine ⟨⟨_, rfl, by first | exact BLe.rf | exact BLe.box AllC.rf | exact BLe.arr (by exact rfl)⟩, ?_⟩); exact trivial, by repeat (first | exact trivial | refine ⟨⟨rfl, by first | (left; intro h; cases h) | (right; rfl), by first | exact (fun _ h => ⟨_, h⟩) | exact (fun _ _ => ⟨_, rfl⟩)⟩, ?_⟩), rfl⟩
  rintro ⟨⟨n, vs, ms, cc⟩, hinv⟩
  dsimp only
  obtain ⟨hv, hm, hn⟩ := hinv
  have hv : vs.length = 8 := hv
  have hm : ms.length = 8 := hm
  have hn : n ≤ 4 := hn
  refine AW_seq ?_
  refine AW_seq ?_
  refine AW_regionN ?_
  refine AN_p (x_move rfl rfl) ?_
  refine AN_b (x_gtr rfl rfl rfl) (fun b14 h14 => ?_)
  refine AN_nil ?_
  cases b14
  · try simp only [tdy] at h14
    refine AW_condF rfl ?_
    refine AW_exit (BQ_hit ?_)
    refine AW_seq ?_
    refine AW_regionN ?_
    refine AN_p (x_loadN (n := 2) rfl rfl rfl (by kernel_rfl) rfl rfl) ?_
    refine AN_p (x_store (n := 2) rfl rfl rfl rfl (by kernel_rfl) rfl rfl rfl) ?_
    refine AN_nil ?_
    refine AW_ret ?_
    refine ⟨⟨⟨_, _⟩, _⟩, ?_, rn [(9, 100), (301, 101), (302, 102)], by exact ⟨⟨⟨_, rfl, VLe.rf⟩, trivial⟩, ⟨⟨_, rfl, by first | exact BLe.rf | exact BLe.box (by repeat (first | exact trivial | refine ⟨by first | exact CLe.rf | exact CLe.nil, ?_⟩))⟩, ⟨_, rfl, BLe.rf⟩, ⟨_, rfl, BLe.rf⟩, ⟨_, rfl, BLe.rf⟩, trivial⟩, by repeat (first | exact trivial | refine ⟨⟨rfl, by first | (left; intro h; cases h) | (right; rfl), by first | exact (fun _ h => ⟨_, h⟩) | exact (fun _ _ => ⟨_, rfl⟩)⟩, ?_⟩), rfl⟩⟩
    exact ⟨by first | assumption | (dsimp only; omega), by first | assumption | (dsimp only; omega)⟩
  try simp only [tdy] at h14
  refine AW_condT rfl ?_
  refine AW_skip ?_
  refine AW_seq ?_
  refine AW_block ?_
  refine AW_seq ?_
  refine AW_regionN ?_
  refine AN_p (x_move rfl rfl) ?_
  have d18 := dBelow_lt b cc (n := 8) (by decide)
  refine AN_p (x_call (ks := []) (L := [(200, some _)]) (L' := [(200, some _)]) rfl rfl rfl (below_c b cc hb 8) rfl AllV.rf (caught_of rfl) rfl rfl rfl ⟨rfl, trivial⟩ rfl) ?_
  refine AN_p (x_assign rfl rfl) ?_
  refine AN_nil ?_
  refine AW_seq ?_
  refine AW_seq ?_
  refine AW_regionN ?_
  refine AN_p (x_move rfl rfl) ?_
  have d20 := dBelow_lt b (dBelow b cc 8).2 (n := 4) (by decide)
  refine AN_p (x_call (ks := []) (L := [(200, some _)]) (L' := [(200, some _)]) rfl rfl rfl (below_c b (dBelow b cc 8).2 hb 4) rfl AllV.rf (caught_of rfl) rfl rfl rfl ⟨rfl, trivial⟩ rfl) ?_
  refine AN_b (x_eql rfl rfl rfl) (fun b21 h21 => ?_)
  refine AN_nil ?_
  cases b21
  · try simp only [tdy] at h21
    refine AW_condF rfl ?_
    refine AW_skip ?_
    refine AW_seq ?_
    refine AW_draw rfl ?_
    refine AL_p (x_field (off := 1) (o' := 1) rfl rfl rfl (by kernel_rfl) rfl) ?_
    refine AL_p (x_load1 rfl rfl rfl (by kernel_rfl) rfl) ?_
    refine AL_p (x_move rfl rfl) ?_
    refine AL_p (x_move rfl rfl) ?_
    refine AL_p (x_call0 rfl rfl rfl (fullS_c (dBelow b cc 8).1 (by omega) (by omega)) rfl rfl) ?_
    refine AL_p (x_oindex (n := 1) rfl rfl rfl rfl (by kernel_rfl) rfl (k := (dBelow b cc 8).1.toNat) (by omega) (by first | omega | (simp only [List.length_set]; omega) | (simp; omega))) ?_
    refine AL_p (x_ostore (_) rfl rfl rfl rfl (by kernel_rfl) rfl rfl rfl rfl FitL.rf rfl rfl (by first | omega | (rw [filledTo_len (by omega)]; omega) | (simp; omega))) ?_
    refine AL_nild (by kernel_rfl) ?_
    refine AW_seq ?_
    refine AW_regionN ?_
    refine AN_p (x_move rfl rfl) ?_
    have d32 := dBelow_lt b (dBelow b (dBelow b cc 8).2 4).2 (n := 6) (by decide)
    refine AN_p (x_call (ks := []) (L := [(200, some _)]) (L' := [(200, some _)]) rfl rfl rfl (below_c b (dBelow b (dBelow b cc 8).2 4).2 hb 6) rfl AllV.rf (caught_of rfl) rfl rfl rfl ⟨rfl, trivial⟩ rfl) ?_
    refine AN_p (x_assign rfl rfl) ?_
    refine AN_nil ?_
    refine AW_seq ?_
    refine AW_seq ?_
    refine AW_regionN ?_
    refine AN_p (x_move rfl rfl) ?_
    refine AN_b (x_eql rfl rfl rfl) (fun b34 h34 => ?_)
    refine AN_nil ?_
    cases b34
    · try simp only [tdy] at h34
      refine AW_condF rfl ?_
      refine AW_skip ?_
      refine AW_seq ?_
      refine AW_seq ?_
      refine AW_regionN ?_
      refine AN_p (x_move rfl rfl) ?_
      refine AN_b (x_eql rfl rfl rfl) (fun b48 h48 => ?_)
      refine AN_nil ?_
      cases b48
      · try simp only [tdy] at h48
        refine AW_condF rfl ?_
        refine AW_skip ?_
        refine AW_draw rfl ?_
        refine AL_p (x_field (off := 0) (o' := 0) rfl rfl rfl (by kernel_rfl) rfl) ?_
        refine AL_p (x_load1 rfl rfl rfl (by kernel_rfl) rfl) ?_
        refine AL_p (x_move rfl rfl) ?_
        refine AL_p (x_field (off := 0) (o' := 0) rfl rfl rfl (by kernel_rfl) rfl) ?_
        refine AL_p (x_load1 rfl rfl rfl (by kernel_rfl) rfl) ?_
        refine AL_p (x_move rfl rfl) ?_
        refine AL_p (x_oindex (n := 1) rfl rfl rfl rfl (by kernel_rfl) rfl (k := (dBelow b cc 8).1.toNat) (by omega) (by first | omega | (simp only [List.length_set]; omega) | (simp; omega))) ?_
        refine AL_p (x_oload1 rfl rfl rfl (by kernel_rfl) (by first | omega | (simp only [List.length_set]; omega) | (simp; omega)) rfl) ?_
        refine AL_p (x_field (off := 1) (o' := 1) rfl rfl rfl (by kernel_rfl) rfl) ?_
        refine AL_p (x_load1 rfl rfl rfl (by kernel_rfl) rfl) ?_
        refine AL_p (x_move rfl rfl) ?_
        refine AL_p (x_oindex (n := 1) rfl rfl rfl rfl (by kernel_rfl) rfl (k := (dBelow b cc 8).1.toNat) (by omega) (by first | omega | (simp only [List.length_set]; omega) | (simp; omega))) ?_
        refine AL_p (x_oload1 rfl rfl rfl (by kernel_rfl) (by first | omega | (simp only [List.length_set]; omega) | (simp; omega)) rfl) ?_
        refine AL_p (x_and rfl rfl rfl ) ?_
        refine AL_p (x_oindex (n := 1) rfl rfl rfl rfl (by kernel_rfl) rfl (k := (dBelow b cc 8).1.toNat) (by omega) (by first | omega | (simp only [List.length_set]; omega) | (simp; omega))) ?_
        refine AL_p (x_ostore (_) rfl rfl rfl rfl (by kernel_rfl) rfl rfl rfl rfl FitL.rf rfl rfl (by first | omega | (rw [filledTo_len (by omega)]; omega) | (simp; omega))) ?_
        refine AL_nild (by kernel_rfl) ?_
        refine AW_regionN ?_
        refine AN_p (x_move rfl rfl) ?_
        refine AN_p (x_sub rfl rfl rfl (IntWalk.i64_in _ (by omega))) ?_
        refine AN_p (x_assign rfl rfl) ?_
        refine AN_nil ?_
        refine ⟨⟨⟨_, _, _, _⟩, ?_⟩, rn [], by exact ⟨by (repeat refine ⟨⟨_, rfl, by first | exact VLe.rf | exact vle_int (by dsimp only; omega)⟩, ?_⟩); exact trivial, by (repeat refine ⟨⟨_, rfl, by first | exact BLe.rf | exact BLe.box AllC.rf | exact BLe.arr (by exact rfl)⟩, ?_⟩); exact trivial, by repeat (first | exact trivial | refine ⟨⟨rfl, by first | (left; intro h; cases h) | (right; rfl), by first | exact (fun _ h => ⟨_, h⟩) | exact (fun _ _ => ⟨_, rfl⟩)⟩, ?_⟩), rfl⟩, by dsimp only; omega⟩
        exact ⟨by simp only [List.length_set]; omega, by simp only [List.length_set]; omega, by dsimp only; omega⟩
      try simp only [tdy] at h48
      refine AW_condT rfl ?_
      refine AW_draw rfl ?_
      refine AL_p (x_field (off := 1) (o' := 1) rfl rfl rfl (by kernel_rfl) rfl) ?_
      refine AL_p (x_load1 rfl rfl rfl (by kernel_rfl) rfl) ?_
      refine AL_p (x_move rfl rfl) ?_
      refine AL_p (x_move rfl rfl) ?_
      have d53 := dBelow_lt b (dBelow b (dBelow b (dBelow b cc 8).2 4).2 6).2 (n := 3) (by decide)
      refine AL_p (x_call (ks := []) (L := [(200, some _)]) (L' := [(200, some _)]) rfl rfl rfl (below_c b (dBelow b (dBelow b (dBelow b cc 8).2 4).2 6).2 hb 3) rfl AllV.rf (caught_of rfl) rfl rfl rfl ⟨rfl, trivial⟩ rfl) ?_
      refine AL_p (x_shl rfl rfl rfl (by omega) rfl) ?_
      refine AL_p (x_oindex (n := 1) rfl rfl rfl rfl (by kernel_rfl) rfl (k := (dBelow b cc 8).1.toNat) (by omega) (by first | omega | (simp only [List.length_set]; omega) | (simp; omega))) ?_
      refine AL_p (x_ostore (_) rfl rfl rfl rfl (by kernel_rfl) rfl rfl rfl rfl FitL.rf rfl rfl (by first | omega | (rw [filledTo_len (by omega)]; omega) | (simp; omega))) ?_
      refine AL_nild (by kernel_rfl) ?_
      refine AW_draw rfl ?_
      refine AL_p (x_field (off := 0) (o' := 0) rfl rfl rfl (by kernel_rfl) rfl) ?_
      refine AL_p (x_load1 rfl rfl rfl (by kernel_rfl) rfl) ?_
      refine AL_p (x_move rfl rfl) ?_
      refine AL_p (x_field (off := 0) (o' := 0) rfl rfl rfl (by kernel_rfl) rfl) ?_
      refine AL_p (x_load1 rfl rfl rfl (by kernel_rfl) rfl) ?_
      refine AL_p (x_move rfl rfl) ?_
      refine AL_p (x_oindex (n := 1) rfl rfl rfl rfl (by kernel_rfl) rfl (k := (dBelow b cc 8).1.toNat) (by omega) (by first | omega | (simp only [List.length_set]; omega) | (simp; omega))) ?_
      refine AL_p (x_oload1 rfl rfl rfl (by kernel_rfl) (by first | omega | (simp only [List.length_set]; omega) | (simp; omega)) rfl) ?_
      refine AL_p (x_field (off := 1) (o' := 1) rfl rfl rfl (by kernel_rfl) rfl) ?_
      refine AL_p (x_load1 rfl rfl rfl (by kernel_rfl) rfl) ?_
      refine AL_p (x_move rfl rfl) ?_
      refine AL_p (x_oindex (n := 1) rfl rfl rfl rfl (by kernel_rfl) rfl (k := (dBelow b cc 8).1.toNat) (by omega) (by first | omega | (simp only [List.length_set]; omega) | (simp; omega))) ?_
      refine AL_p (x_oload1 rfl rfl rfl (by kernel_rfl) (by first | omega | (simp only [List.length_set]; omega) | (simp; omega)) rfl) ?_
      refine AL_p (x_and rfl rfl rfl ) ?_
      refine AL_p (x_oindex (n := 1) rfl rfl rfl rfl (by kernel_rfl) rfl (k := (dBelow b cc 8).1.toNat) (by omega) (by first | omega | (simp only [List.length_set]; omega) | (simp; omega))) ?_
      refine AL_p (x_ostore (_) rfl rfl rfl rfl (by kernel_rfl) rfl rfl rfl rfl FitL.rf rfl rfl (by first | omega | (rw [filledTo_len (by omega)]; omega) | (simp; omega))) ?_
      refine AL_nild (by kernel_rfl) ?_
      refine AW_regionN ?_
      refine AN_p (x_move rfl rfl) ?_
      refine AN_p (x_sub rfl rfl rfl (IntWalk.i64_in _ (by omega))) ?_
      refine AN_p (x_assign rfl rfl) ?_
      refine AN_nil ?_
      refine ⟨⟨⟨_, _, _, _⟩, ?_⟩, rn [], by exact ⟨by (repeat refine ⟨⟨_, rfl, by first | exact VLe.rf | exact vle_int (by dsimp only; omega)⟩, ?_⟩); exact trivial, by (repeat refine ⟨⟨_, rfl, by first | exact BLe.rf | exact BLe.box AllC.rf | exact BLe.arr (by exact rfl)⟩, ?_⟩); exact trivial, by repeat (first | exact trivial | refine ⟨⟨rfl, by first | (left; intro h; cases h) | (right; rfl), by first | exact (fun _ h => ⟨_, h⟩) | exact (fun _ _ => ⟨_, rfl⟩)⟩, ?_⟩), rfl⟩, by dsimp only; omega⟩
      exact ⟨by simp only [List.length_set]; omega, by simp only [List.length_set]; omega, by dsimp only; omega⟩
    try simp only [tdy] at h34
    refine AW_condT rfl ?_
    refine AW_draw rfl ?_
    refine AL_p (x_field (off := 1) (o' := 1) rfl rfl rfl (by kernel_rfl) rfl) ?_
    refine AL_p (x_load1 rfl rfl rfl (by kernel_rfl) rfl) ?_
    refine AL_p (x_move rfl rfl) ?_
    refine AL_p (x_field (off := 1) (o' := 1) rfl rfl rfl (by kernel_rfl) rfl) ?_
    refine AL_p (x_load1 rfl rfl rfl (by kernel_rfl) rfl) ?_
    refine AL_p (x_move rfl rfl) ?_
    refine AL_p (x_oindex (n := 1) rfl rfl rfl rfl (by kernel_rfl) rfl (k := (dBelow b cc 8).1.toNat) (by omega) (by first | omega | (simp only [List.length_set]; omega) | (simp; omega))) ?_
    refine AL_p (x_oload1 rfl rfl rfl (by kernel_rfl) (by first | omega | (simp only [List.length_set]; omega) | (simp; omega)) rfl) ?_
    refine AL_p (x_move rfl rfl) ?_
    have d44 := dBelow_lt b (dBelow b (dBelow b (dBelow b cc 8).2 4).2 6).2 (n := 8) (by decide)
    refine AL_p (x_call (ks := []) (L := [(200, some _)]) (L' := [(200, some _)]) rfl rfl rfl (below_c b (dBelow b (dBelow b (dBelow b cc 8).2 4).2 6).2 hb 8) rfl AllV.rf (caught_of rfl) rfl rfl rfl ⟨rfl, trivial⟩ rfl) ?_
    refine AL_p (x_sub rfl rfl rfl (r := w64 _) rfl) ?_
    refine AL_p (x_oindex (n := 1) rfl rfl rfl rfl (by kernel_rfl) rfl (k := (dBelow b cc 8).1.toNat) (by omega) (by first | omega | (simp only [List.length_set]; omega) | (simp; omega))) ?_
    refine AL_p (x_ostore (_) rfl rfl rfl rfl (by kernel_rfl) rfl rfl rfl rfl FitL.rf rfl rfl (by first | omega | (rw [filledTo_len (by omega)]; omega) | (simp; omega))) ?_
    refine AL_nild (by kernel_rfl) ?_
    refine AW_seq ?_
    refine AW_seq ?_
    refine AW_regionN ?_
    refine AN_p (x_move rfl rfl) ?_
    refine AN_b (x_eql rfl rfl rfl) (fun b48 h48 => ?_)
    refine AN_nil ?_
    cases b48
    · try simp only [tdy] at h48
      refine AW_condF rfl ?_
      refine AW_skip ?_
      refine AW_draw rfl ?_
      refine AL_p (x_field (off := 0) (o' := 0) rfl rfl rfl (by kernel_rfl) rfl) ?_
      refine AL_p (x_load1 rfl rfl rfl (by kernel_rfl) rfl) ?_
      refine AL_p (x_move rfl rfl) ?_
      refine AL_p (x_field (off := 0) (o' := 0) rfl rfl rfl (by kernel_rfl) rfl) ?_
      refine AL_p (x_load1 rfl rfl rfl (by kernel_rfl) rfl) ?_
      refine AL_p (x_move rfl rfl) ?_
      refine AL_p (x_oindex (n := 1) rfl rfl rfl rfl (by kernel_rfl) rfl (k := (dBelow b cc 8).1.toNat) (by omega) (by first | omega | (simp only [List.length_set]; omega) | (simp; omega))) ?_
      refine AL_p (x_oload1 rfl rfl rfl (by kernel_rfl) (by first | omega | (simp only [List.length_set]; omega) | (simp; omega)) rfl) ?_
      refine AL_p (x_field (off := 1) (o' := 1) rfl rfl rfl (by kernel_rfl) rfl) ?_
      refine AL_p (x_load1 rfl rfl rfl (by kernel_rfl) rfl) ?_
      refine AL_p (x_move rfl rfl) ?_
      refine AL_p (x_oindex (n := 1) rfl rfl rfl rfl (by kernel_rfl) rfl (k := (dBelow b cc 8).1.toNat) (by omega) (by first | omega | (simp only [List.length_set]; omega) | (simp; omega))) ?_
      refine AL_p (x_oload1 rfl rfl rfl (by kernel_rfl) (by first | omega | (simp only [List.length_set]; omega) | (simp; omega)) rfl) ?_
      refine AL_p (x_and rfl rfl rfl ) ?_
      refine AL_p (x_oindex (n := 1) rfl rfl rfl rfl (by kernel_rfl) rfl (k := (dBelow b cc 8).1.toNat) (by omega) (by first | omega | (simp only [List.length_set]; omega) | (simp; omega))) ?_
      refine AL_p (x_ostore (_) rfl rfl rfl rfl (by kernel_rfl) rfl rfl rfl rfl FitL.rf rfl rfl (by first | omega | (rw [filledTo_len (by omega)]; omega) | (simp; omega))) ?_
      refine AL_nild (by kernel_rfl) ?_
      refine AW_regionN ?_
      refine AN_p (x_move rfl rfl) ?_
      refine AN_p (x_sub rfl rfl rfl (IntWalk.i64_in _ (by omega))) ?_
      refine AN_p (x_assign rfl rfl) ?_
      refine AN_nil ?_
      refine ⟨⟨⟨_, _, _, _⟩, ?_⟩, rn [], by exact ⟨by (repeat refine ⟨⟨_, rfl, by first | exact VLe.rf | exact vle_int (by dsimp only; omega)⟩, ?_⟩); exact trivial, by (repeat refine ⟨⟨_, rfl, by first | exact BLe.rf | exact BLe.box AllC.rf | exact BLe.arr (by exact rfl)⟩, ?_⟩); exact trivial, by repeat (first | exact trivial | refine ⟨⟨rfl, by first | (left; intro h; cases h) | (right; rfl), by first | exact (fun _ h => ⟨_, h⟩) | exact (fun _ _ => ⟨_, rfl⟩)⟩, ?_⟩), rfl⟩, by dsimp only; omega⟩
      exact ⟨by simp only [List.length_set]; omega, by simp only [List.length_set]; omega, by dsimp only; omega⟩
    try simp only [tdy] at h48
    refine AW_condT rfl ?_
    refine AW_draw rfl ?_
    refine AL_p (x_field (off := 1) (o' := 1) rfl rfl rfl (by kernel_rfl) rfl) ?_
    refine AL_p (x_load1 rfl rfl rfl (by kernel_rfl) rfl) ?_
    refine AL_p (x_move rfl rfl) ?_
    refine AL_p (x_move rfl rfl) ?_
    have d53 := dBelow_lt b (dBelow b (dBelow b (dBelow b (dBelow b cc 8).2 4).2 6).2 8).2 (n := 3) (by decide)
    refine AL_p (x_call (ks := []) (L := [(200, some _)]) (L' := [(200, some _)]) rfl rfl rfl (below_c b (dBelow b (dBelow b (dBelow b (dBelow b cc 8).2 4).2 6).2 8).2 hb 3) rfl AllV.rf (caught_of rfl) rfl rfl rfl ⟨rfl, trivial⟩ rfl) ?_
    refine AL_p (x_shl rfl rfl rfl (by omega) rfl) ?_
    refine AL_p (x_oindex (n := 1) rfl rfl rfl rfl (by kernel_rfl) rfl (k := (dBelow b cc 8).1.toNat) (by omega) (by first | omega | (simp only [List.length_set]; omega) | (simp; omega))) ?_
    refine AL_p (x_ostore (_) rfl rfl rfl rfl (by kernel_rfl) rfl rfl rfl rfl FitL.rf rfl rfl (by first | omega | (rw [filledTo_len (by omega)]; omega) | (simp; omega))) ?_
    refine AL_nild (by kernel_rfl) ?_
    refine AW_draw rfl ?_
    refine AL_p (x_field (off := 0) (o' := 0) rfl rfl rfl (by kernel_rfl) rfl) ?_
    refine AL_p (x_load1 rfl rfl rfl (by kernel_rfl) rfl) ?_
    refine AL_p (x_move rfl rfl) ?_
    refine AL_p (x_field (off := 0) (o' := 0) rfl rfl rfl (by kernel_rfl) rfl) ?_
    refine AL_p (x_load1 rfl rfl rfl (by kernel_rfl) rfl) ?_
    refine AL_p (x_move rfl rfl) ?_
    refine AL_p (x_oindex (n := 1) rfl rfl rfl rfl (by kernel_rfl) rfl (k := (dBelow b cc 8).1.toNat) (by omega) (by first | omega | (simp only [List.length_set]; omega) | (simp; omega))) ?_
    refine AL_p (x_oload1 rfl rfl rfl (by kernel_rfl) (by first | omega | (simp only [List.length_set]; omega) | (simp; omega)) rfl) ?_
    refine AL_p (x_field (off := 1) (o' := 1) rfl rfl rfl (by kernel_rfl) rfl) ?_
    refine AL_p (x_load1 rfl rfl rfl (by kernel_rfl) rfl) ?_
    refine AL_p (x_move rfl rfl) ?_
    refine AL_p (x_oindex (n := 1) rfl rfl rfl rfl (by kernel_rfl) rfl (k := (dBelow b cc 8).1.toNat) (by omega) (by first | omega | (simp only [List.length_set]; omega) | (simp; omega))) ?_
    refine AL_p (x_oload1 rfl rfl rfl (by kernel_rfl) (by first | omega | (simp only [List.length_set]; omega) | (simp; omega)) rfl) ?_
    refine AL_p (x_and rfl rfl rfl ) ?_
    refine AL_p (x_oindex (n := 1) rfl rfl rfl rfl (by kernel_rfl) rfl (k := (dBelow b cc 8).1.toNat) (by omega) (by first | omega | (simp only [List.length_set]; omega) | (simp; omega))) ?_
    refine AL_p (x_ostore (_) rfl rfl rfl rfl (by kernel_rfl) rfl rfl rfl rfl FitL.rf rfl rfl (by first | omega | (rw [filledTo_len (by omega)]; omega) | (simp; omega))) ?_
    refine AL_nild (by kernel_rfl) ?_
    refine AW_regionN ?_
    refine AN_p (x_move rfl rfl) ?_
    refine AN_p (x_sub rfl rfl rfl (IntWalk.i64_in _ (by omega))) ?_
    refine AN_p (x_assign rfl rfl) ?_
    refine AN_nil ?_
    refine ⟨⟨⟨_, _, _, _⟩, ?_⟩, rn [], by exact ⟨by (repeat refine ⟨⟨_, rfl, by first | exact VLe.rf | exact vle_int (by dsimp only; omega)⟩, ?_⟩); exact trivial, by (repeat refine ⟨⟨_, rfl, by first | exact BLe.rf | exact BLe.box AllC.rf | exact BLe.arr (by exact rfl)⟩, ?_⟩); exact trivial, by repeat (first | exact trivial | refine ⟨⟨rfl, by first | (left; intro h; cases h) | (right; rfl), by first | exact (fun _ h => ⟨_, h⟩) | exact (fun _ _ => ⟨_, rfl⟩)⟩, ?_⟩), rfl⟩, by dsimp only; omega⟩
    exact ⟨by simp only [List.length_set]; omega, by simp only [List.length_set]; omega, by dsimp only; omega⟩
  try simp only [tdy] at h21
  refine AW_condT rfl ?_
  refine AW_regionN ?_
  refine AN_p (x_move rfl rfl) ?_
  have d23 := dBelow_lt b (dBelow b (dBelow b cc 8).2 4).2 (n := 2) (by decide)
  refine AN_p (x_call (ks := []) (L := [(200, some _)]) (L' := [(200, some _)]) rfl rfl rfl (below_c b (dBelow b (dBelow b cc 8).2 4).2 hb 2) rfl AllV.rf (caught_of rfl) rfl rfl rfl ⟨rfl, trivial⟩ rfl) ?_
  refine AN_p (x_add rfl rfl rfl (IntWalk.i64_in _ (by omega))) ?_
  refine AN_p (x_assign rfl rfl) ?_
  refine AN_nil ?_
  refine AW_seq ?_
  refine AW_draw rfl ?_
  refine AL_p (x_field (off := 1) (o' := 1) rfl rfl rfl (by kernel_rfl) rfl) ?_
  refine AL_p (x_load1 rfl rfl rfl (by kernel_rfl) rfl) ?_
  refine AL_p (x_move rfl rfl) ?_
  refine AL_p (x_move rfl rfl) ?_
  refine AL_p (x_call0 rfl rfl rfl (fullS_c (1 + (dBelow b (dBelow b (dBelow b cc 8).2 4).2 2).1) (by omega) (by omega)) rfl rfl) ?_
  refine AL_p (x_oindex (n := 1) rfl rfl rfl rfl (by kernel_rfl) rfl (k := (1 + (dBelow b (dBelow b (dBelow b cc 8).2 4).2 2).1).toNat) (by omega) (by first | omega | (simp only [List.length_set]; omega) | (simp; omega))) ?_
  refine AL_p (x_ostore (_) rfl rfl rfl rfl (by kernel_rfl) rfl rfl rfl rfl FitL.rf rfl rfl (by first | omega | (rw [filledTo_len (by omega)]; omega) | (simp; omega))) ?_
  refine AL_nild (by kernel_rfl) ?_
  refine AW_seq ?_
  refine AW_regionN ?_
  refine AN_p (x_move rfl rfl) ?_
  have d32 := dBelow_lt b (dBelow b (dBelow b (dBelow b cc 8).2 4).2 2).2 (n := 6) (by decide)
  refine AN_p (x_call (ks := []) (L := [(200, some _)]) (L' := [(200, some _)]) rfl rfl rfl (below_c b (dBelow b (dBelow b (dBelow b cc 8).2 4).2 2).2 hb 6) rfl AllV.rf (caught_of rfl) rfl rfl rfl ⟨rfl, trivial⟩ rfl) ?_
  refine AN_p (x_assign rfl rfl) ?_
  refine AN_nil ?_
  refine AW_seq ?_
  refine AW_seq ?_
  refine AW_regionN ?_
  refine AN_p (x_move rfl rfl) ?_
  refine AN_b (x_eql rfl rfl rfl) (fun b34 h34 => ?_)
  refine AN_nil ?_
  cases b34
  · try simp only [tdy] at h34
    refine AW_condF rfl ?_
    refine AW_skip ?_
    refine AW_seq ?_
    refine AW_seq ?_
    refine AW_regionN ?_
    refine AN_p (x_move rfl rfl) ?_
    refine AN_b (x_eql rfl rfl rfl) (fun b48 h48 => ?_)
    refine AN_nil ?_
    cases b48
    · try simp only [tdy] at h48
      refine AW_condF rfl ?_
      refine AW_skip ?_
      refine AW_draw rfl ?_
      refine AL_p (x_field (off := 0) (o' := 0) rfl rfl rfl (by kernel_rfl) rfl) ?_
      refine AL_p (x_load1 rfl rfl rfl (by kernel_rfl) rfl) ?_
      refine AL_p (x_move rfl rfl) ?_
      refine AL_p (x_field (off := 0) (o' := 0) rfl rfl rfl (by kernel_rfl) rfl) ?_
      refine AL_p (x_load1 rfl rfl rfl (by kernel_rfl) rfl) ?_
      refine AL_p (x_move rfl rfl) ?_
      refine AL_p (x_oindex (n := 1) rfl rfl rfl rfl (by kernel_rfl) rfl (k := (1 + (dBelow b (dBelow b (dBelow b cc 8).2 4).2 2).1).toNat) (by omega) (by first | omega | (simp only [List.length_set]; omega) | (simp; omega))) ?_
      refine AL_p (x_oload1 rfl rfl rfl (by kernel_rfl) (by first | omega | (simp only [List.length_set]; omega) | (simp; omega)) rfl) ?_
      refine AL_p (x_field (off := 1) (o' := 1) rfl rfl rfl (by kernel_rfl) rfl) ?_
      refine AL_p (x_load1 rfl rfl rfl (by kernel_rfl) rfl) ?_
      refine AL_p (x_move rfl rfl) ?_
      refine AL_p (x_oindex (n := 1) rfl rfl rfl rfl (by kernel_rfl) rfl (k := (1 + (dBelow b (dBelow b (dBelow b cc 8).2 4).2 2).1).toNat) (by omega) (by first | omega | (simp only [List.length_set]; omega) | (simp; omega))) ?_
      refine AL_p (x_oload1 rfl rfl rfl (by kernel_rfl) (by first | omega | (simp only [List.length_set]; omega) | (simp; omega)) rfl) ?_
      refine AL_p (x_and rfl rfl rfl ) ?_
      refine AL_p (x_oindex (n := 1) rfl rfl rfl rfl (by kernel_rfl) rfl (k := (1 + (dBelow b (dBelow b (dBelow b cc 8).2 4).2 2).1).toNat) (by omega) (by first | omega | (simp only [List.length_set]; omega) | (simp; omega))) ?_
      refine AL_p (x_ostore (_) rfl rfl rfl rfl (by kernel_rfl) rfl rfl rfl rfl FitL.rf rfl rfl (by first | omega | (rw [filledTo_len (by omega)]; omega) | (simp; omega))) ?_
      refine AL_nild (by kernel_rfl) ?_
      refine AW_regionN ?_
      refine AN_p (x_move rfl rfl) ?_
      refine AN_p (x_sub rfl rfl rfl (IntWalk.i64_in _ (by omega))) ?_
      refine AN_p (x_assign rfl rfl) ?_
      refine AN_nil ?_
      refine ⟨⟨⟨_, _, _, _⟩, ?_⟩, rn [], by exact ⟨by (repeat refine ⟨⟨_, rfl, by first | exact VLe.rf | exact vle_int (by dsimp only; omega)⟩, ?_⟩); exact trivial, by (repeat refine ⟨⟨_, rfl, by first | exact BLe.rf | exact BLe.box AllC.rf | exact BLe.arr (by exact rfl)⟩, ?_⟩); exact trivial, by repeat (first | exact trivial | refine ⟨⟨rfl, by first | (left; intro h; cases h) | (right; rfl), by first | exact (fun _ h => ⟨_, h⟩) | exact (fun _ _ => ⟨_, rfl⟩)⟩, ?_⟩), rfl⟩, by dsimp only; omega⟩
      exact ⟨by simp only [List.length_set]; omega, by simp only [List.length_set]; omega, by dsimp only; omega⟩
    try simp only [tdy] at h48
    refine AW_condT rfl ?_
    refine AW_draw rfl ?_
    refine AL_p (x_field (off := 1) (o' := 1) rfl rfl rfl (by kernel_rfl) rfl) ?_
    refine AL_p (x_load1 rfl rfl rfl (by kernel_rfl) rfl) ?_
    refine AL_p (x_move rfl rfl) ?_
    refine AL_p (x_move rfl rfl) ?_
    have d53 := dBelow_lt b (dBelow b (dBelow b (dBelow b (dBelow b cc 8).2 4).2 2).2 6).2 (n := 3) (by decide)
    refine AL_p (x_call (ks := []) (L := [(200, some _)]) (L' := [(200, some _)]) rfl rfl rfl (below_c b (dBelow b (dBelow b (dBelow b (dBelow b cc 8).2 4).2 2).2 6).2 hb 3) rfl AllV.rf (caught_of rfl) rfl rfl rfl ⟨rfl, trivial⟩ rfl) ?_
    refine AL_p (x_shl rfl rfl rfl (by omega) rfl) ?_
    refine AL_p (x_oindex (n := 1) rfl rfl rfl rfl (by kernel_rfl) rfl (k := (1 + (dBelow b (dBelow b (dBelow b cc 8).2 4).2 2).1).toNat) (by omega) (by first | omega | (simp only [List.length_set]; omega) | (simp; omega))) ?_
    refine AL_p (x_ostore (_) rfl rfl rfl rfl (by kernel_rfl) rfl rfl rfl rfl FitL.rf rfl rfl (by first | omega | (rw [filledTo_len (by omega)]; omega) | (simp; omega))) ?_
    refine AL_nild (by kernel_rfl) ?_
    refine AW_draw rfl ?_
    refine AL_p (x_field (off := 0) (o' := 0) rfl rfl rfl (by kernel_rfl) rfl) ?_
    refine AL_p (x_load1 rfl rfl rfl (by kernel_rfl) rfl) ?_
    refine AL_p (x_move rfl rfl) ?_
    refine AL_p (x_field (off := 0) (o' := 0) rfl rfl rfl (by kernel_rfl) rfl) ?_
    refine AL_p (x_load1 rfl rfl rfl (by kernel_rfl) rfl) ?_
    refine AL_p (x_move rfl rfl) ?_
    refine AL_p (x_oindex (n := 1) rfl rfl rfl rfl (by kernel_rfl) rfl (k := (1 + (dBelow b (dBelow b (dBelow b cc 8).2 4).2 2).1).toNat) (by omega) (by first | omega | (simp only [List.length_set]; omega) | (simp; omega))) ?_
    refine AL_p (x_oload1 rfl rfl rfl (by kernel_rfl) (by first | omega | (simp only [List.length_set]; omega) | (simp; omega)) rfl) ?_
    refine AL_p (x_field (off := 1) (o' := 1) rfl rfl rfl (by kernel_rfl) rfl) ?_
    refine AL_p (x_load1 rfl rfl rfl (by kernel_rfl) rfl) ?_
    refine AL_p (x_move rfl rfl) ?_
    refine AL_p (x_oindex (n := 1) rfl rfl rfl rfl (by kernel_rfl) rfl (k := (1 + (dBelow b (dBelow b (dBelow b cc 8).2 4).2 2).1).toNat) (by omega) (by first | omega | (simp only [List.length_set]; omega) | (simp; omega))) ?_
    refine AL_p (x_oload1 rfl rfl rfl (by kernel_rfl) (by first | omega | (simp only [List.length_set]; omega) | (simp; omega)) rfl) ?_
    refine AL_p (x_and rfl rfl rfl ) ?_
    refine AL_p (x_oindex (n := 1) rfl rfl rfl rfl (by kernel_rfl) rfl (k := (1 + (dBelow b (dBelow b (dBelow b cc 8).2 4).2 2).1).toNat) (by omega) (by first | omega | (simp only [List.length_set]; omega) | (simp; omega))) ?_
    refine AL_p (x_ostore (_) rfl rfl rfl rfl (by kernel_rfl) rfl rfl rfl rfl FitL.rf rfl rfl (by first | omega | (rw [filledTo_len (by omega)]; omega) | (simp; omega))) ?_
    refine AL_nild (by kernel_rfl) ?_
    refine AW_regionN ?_
    refine AN_p (x_move rfl rfl) ?_
    refine AN_p (x_sub rfl rfl rfl (IntWalk.i64_in _ (by omega))) ?_
    refine AN_p (x_assign rfl rfl) ?_
    refine AN_nil ?_
    refine ⟨⟨⟨_, _, _, _⟩, ?_⟩, rn [], by exact ⟨by (repeat refine ⟨⟨_, rfl, by first | exact VLe.rf | exact vle_int (by dsimp only; omega)⟩, ?_⟩); exact trivial, by (repeat refine ⟨⟨_, rfl, by first | exact BLe.rf | exact BLe.box AllC.rf | exact BLe.arr (by exact rfl)⟩, ?_⟩); exact trivial, by repeat (first | exact trivial | refine ⟨⟨rfl, by first | (left; intro h; cases h) | (right; rfl), by first | exact (fun _ h => ⟨_, h⟩) | exact (fun _ _ => ⟨_, rfl⟩)⟩, ?_⟩), rfl⟩, by dsimp only; omega⟩
    exact ⟨by simp only [List.length_set]; omega, by simp only [List.length_set]; omega, by dsimp only; omega⟩
  try simp only [tdy] at h34
  refine AW_condT rfl ?_
  refine AW_draw rfl ?_
  refine AL_p (x_field (off := 1) (o' := 1) rfl rfl rfl (by kernel_rfl) rfl) ?_
  refine AL_p (x_load1 rfl rfl rfl (by kernel_rfl) rfl) ?_
  refine AL_p (x_move rfl rfl) ?_
  refine AL_p (x_field (off := 1) (o' := 1) rfl rfl rfl (by kernel_rfl) rfl) ?_
  refine AL_p (x_load1 rfl rfl rfl (by kernel_rfl) rfl) ?_
  refine AL_p (x_move rfl rfl) ?_
  refine AL_p (x_oindex (n := 1) rfl rfl rfl rfl (by kernel_rfl) rfl (k := (1 + (dBelow b (dBelow b (dBelow b cc 8).2 4).2 2).1).toNat) (by omega) (by first | omega | (simp only [List.length_set]; omega) | (simp; omega))) ?_
  refine AL_p (x_oload1 rfl rfl rfl (by kernel_rfl) (by first | omega | (simp only [List.length_set]; omega) | (simp; omega)) rfl) ?_
  refine AL_p (x_move rfl rfl) ?_
  have d44 := dBelow_lt b (dBelow b (dBelow b (dBelow b (dBelow b cc 8).2 4).2 2).2 6).2 (n := 8) (by decide)
  refine AL_p (x_call (ks := []) (L := [(200, some _)]) (L' := [(200, some _)]) rfl rfl rfl (below_c b (dBelow b (dBelow b (dBelow b (dBelow b cc 8).2 4).2 2).2 6).2 hb 8) rfl AllV.rf (caught_of rfl) rfl rfl rfl ⟨rfl, trivial⟩ rfl) ?_
  refine AL_p (x_sub rfl rfl rfl (r := w64 _) rfl) ?_
  refine AL_p (x_oindex (n := 1) rfl rfl rfl rfl (by kernel_rfl) rfl (k := (1 + (dBelow b (dBelow b (dBelow b cc 8).2 4).2 2).1).toNat) (by omega) (by first | omega | (simp only [List.length_set]; omega) | (simp; omega))) ?_
  refine AL_p (x_ostore (_) rfl rfl rfl rfl (by kernel_rfl) rfl rfl rfl rfl FitL.rf rfl rfl (by first | omega | (rw [filledTo_len (by omega)]; omega) | (simp; omega))) ?_
  refine AL_nild (by kernel_rfl) ?_
  refine AW_seq ?_
  refine AW_seq ?_
  refine AW_regionN ?_
  refine AN_p (x_move rfl rfl) ?_
  refine AN_b (x_eql rfl rfl rfl) (fun b48 h48 => ?_)
  refine AN_nil ?_
  cases b48
  · try simp only [tdy] at h48
    refine AW_condF rfl ?_
    refine AW_skip ?_
    refine AW_draw rfl ?_
    refine AL_p (x_field (off := 0) (o' := 0) rfl rfl rfl (by kernel_rfl) rfl) ?_
    refine AL_p (x_load1 rfl rfl rfl (by kernel_rfl) rfl) ?_
    refine AL_p (x_move rfl rfl) ?_
    refine AL_p (x_field (off := 0) (o' := 0) rfl rfl rfl (by kernel_rfl) rfl) ?_
    refine AL_p (x_load1 rfl rfl rfl (by kernel_rfl) rfl) ?_
    refine AL_p (x_move rfl rfl) ?_
    refine AL_p (x_oindex (n := 1) rfl rfl rfl rfl (by kernel_rfl) rfl (k := (1 + (dBelow b (dBelow b (dBelow b cc 8).2 4).2 2).1).toNat) (by omega) (by first | omega | (simp only [List.length_set]; omega) | (simp; omega))) ?_
    refine AL_p (x_oload1 rfl rfl rfl (by kernel_rfl) (by first | omega | (simp only [List.length_set]; omega) | (simp; omega)) rfl) ?_
    refine AL_p (x_field (off := 1) (o' := 1) rfl rfl rfl (by kernel_rfl) rfl) ?_
    refine AL_p (x_load1 rfl rfl rfl (by kernel_rfl) rfl) ?_
    refine AL_p (x_move rfl rfl) ?_
    refine AL_p (x_oindex (n := 1) rfl rfl rfl rfl (by kernel_rfl) rfl (k := (1 + (dBelow b (dBelow b (dBelow b cc 8).2 4).2 2).1).toNat) (by omega) (by first | omega | (simp only [List.length_set]; omega) | (simp; omega))) ?_
    refine AL_p (x_oload1 rfl rfl rfl (by kernel_rfl) (by first | omega | (simp only [List.length_set]; omega) | (simp; omega)) rfl) ?_
    refine AL_p (x_and rfl rfl rfl ) ?_
    refine AL_p (x_oindex (n := 1) rfl rfl rfl rfl (by kernel_rfl) rfl (k := (1 + (dBelow b (dBelow b (dBelow b cc 8).2 4).2 2).1).toNat) (by omega) (by first | omega | (simp only [List.length_set]; omega) | (simp; omega))) ?_
    refine AL_p (x_ostore (_) rfl rfl rfl rfl (by kernel_rfl) rfl rfl rfl rfl FitL.rf rfl rfl (by first | omega | (rw [filledTo_len (by omega)]; omega) | (simp; omega))) ?_
    refine AL_nild (by kernel_rfl) ?_
    refine AW_regionN ?_
    refine AN_p (x_move rfl rfl) ?_
    refine AN_p (x_sub rfl rfl rfl (IntWalk.i64_in _ (by omega))) ?_
    refine AN_p (x_assign rfl rfl) ?_
    refine AN_nil ?_
    refine ⟨⟨⟨_, _, _, _⟩, ?_⟩, rn [], by exact ⟨by (repeat refine ⟨⟨_, rfl, by first | exact VLe.rf | exact vle_int (by dsimp only; omega)⟩, ?_⟩); exact trivial, by (repeat refine ⟨⟨_, rfl, by first | exact BLe.rf | exact BLe.box AllC.rf | exact BLe.arr (by exact rfl)⟩, ?_⟩); exact trivial, by repeat (first | exact trivial | refine ⟨⟨rfl, by first | (left; intro h; cases h) | (right; rfl), by first | exact (fun _ h => ⟨_, h⟩) | exact (fun _ _ => ⟨_, rfl⟩)⟩, ?_⟩), rfl⟩, by dsimp only; omega⟩
    exact ⟨by simp only [List.length_set]; omega, by simp only [List.length_set]; omega, by dsimp only; omega⟩
  try simp only [tdy] at h48
  refine AW_condT rfl ?_
  refine AW_draw rfl ?_
  refine AL_p (x_field (off := 1) (o' := 1) rfl rfl rfl (by kernel_rfl) rfl) ?_
  refine AL_p (x_load1 rfl rfl rfl (by kernel_rfl) rfl) ?_
  refine AL_p (x_move rfl rfl) ?_
  refine AL_p (x_move rfl rfl) ?_
  have d53 := dBelow_lt b (dBelow b (dBelow b (dBelow b (dBelow b (dBelow b cc 8).2 4).2 2).2 6).2 8).2 (n := 3) (by decide)
  refine AL_p (x_call (ks := []) (L := [(200, some _)]) (L' := [(200, some _)]) rfl rfl rfl (below_c b (dBelow b (dBelow b (dBelow b (dBelow b (dBelow b cc 8).2 4).2 2).2 6).2 8).2 hb 3) rfl AllV.rf (caught_of rfl) rfl rfl rfl ⟨rfl, trivial⟩ rfl) ?_
  refine AL_p (x_shl rfl rfl rfl (by omega) rfl) ?_
  refine AL_p (x_oindex (n := 1) rfl rfl rfl rfl (by kernel_rfl) rfl (k := (1 + (dBelow b (dBelow b (dBelow b cc 8).2 4).2 2).1).toNat) (by omega) (by first | omega | (simp only [List.length_set]; omega) | (simp; omega))) ?_
  refine AL_p (x_ostore (_) rfl rfl rfl rfl (by kernel_rfl) rfl rfl rfl rfl FitL.rf rfl rfl (by first | omega | (rw [filledTo_len (by omega)]; omega) | (simp; omega))) ?_
  refine AL_nild (by kernel_rfl) ?_
  refine AW_draw rfl ?_
  refine AL_p (x_field (off := 0) (o' := 0) rfl rfl rfl (by kernel_rfl) rfl) ?_
  refine AL_p (x_load1 rfl rfl rfl (by kernel_rfl) rfl) ?_
  refine AL_p (x_move rfl rfl) ?_
  refine AL_p (x_field (off := 0) (o' := 0) rfl rfl rfl (by kernel_rfl) rfl) ?_
  refine AL_p (x_load1 rfl rfl rfl (by kernel_rfl) rfl) ?_
  refine AL_p (x_move rfl rfl) ?_
  refine AL_p (x_oindex (n := 1) rfl rfl rfl rfl (by kernel_rfl) rfl (k := (1 + (dBelow b (dBelow b (dBelow b cc 8).2 4).2 2).1).toNat) (by omega) (by first | omega | (simp only [List.length_set]; omega) | (simp; omega))) ?_
  refine AL_p (x_oload1 rfl rfl rfl (by kernel_rfl) (by first | omega | (simp only [List.length_set]; omega) | (simp; omega)) rfl) ?_
  refine AL_p (x_field (off := 1) (o' := 1) rfl rfl rfl (by kernel_rfl) rfl) ?_
  refine AL_p (x_load1 rfl rfl rfl (by kernel_rfl) rfl) ?_
  refine AL_p (x_move rfl rfl) ?_
  refine AL_p (x_oindex (n := 1) rfl rfl rfl rfl (by kernel_rfl) rfl (k := (1 + (dBelow b (dBelow b (dBelow b cc 8).2 4).2 2).1).toNat) (by omega) (by first | omega | (simp only [List.length_set]; omega) | (simp; omega))) ?_
  refine AL_p (x_oload1 rfl rfl rfl (by kernel_rfl) (by first | omega | (simp only [List.length_set]; omega) | (simp; omega)) rfl) ?_
  refine AL_p (x_and rfl rfl rfl ) ?_
  refine AL_p (x_oindex (n := 1) rfl rfl rfl rfl (by kernel_rfl) rfl (k := (1 + (dBelow b (dBelow b (dBelow b cc 8).2 4).2 2).1).toNat) (by omega) (by first | omega | (simp only [List.length_set]; omega) | (simp; omega))) ?_
  refine AL_p (x_ostore (_) rfl rfl rfl rfl (by kernel_rfl) rfl rfl rfl rfl FitL.rf rfl rfl (by first | omega | (rw [filledTo_len (by omega)]; omega) | (simp; omega))) ?_
  refine AL_nild (by kernel_rfl) ?_
  refine AW_regionN ?_
  refine AN_p (x_move rfl rfl) ?_
  refine AN_p (x_sub rfl rfl rfl (IntWalk.i64_in _ (by omega))) ?_
  refine AN_p (x_assign rfl rfl) ?_
  refine AN_nil ?_
  refine ⟨⟨⟨_, _, _, _⟩, ?_⟩, rn [], by exact ⟨by (repeat refine ⟨⟨_, rfl, by first | exact VLe.rf | exact vle_int (by dsimp only; omega)⟩, ?_⟩); exact trivial, by (repeat refine ⟨⟨_, rfl, by first | exact BLe.rf | exact BLe.box AllC.rf | exact BLe.arr (by exact rfl)⟩, ?_⟩); exact trivial, by repeat (first | exact trivial | refine ⟨⟨rfl, by first | (left; intro h; cases h) | (right; rfl), by first | exact (fun _ h => ⟨_, h⟩) | exact (fun _ _ => ⟨_, rfl⟩)⟩, ?_⟩), rfl⟩, by dsimp only; omega⟩
  exact ⟨by simp only [List.length_set]; omega, by simp only [List.length_set]; omega, by dsimp only; omega⟩

set_option maxHeartbeats 4000000 in
theorem acts_x (b : List Int) (c : Cur) (hb : b.length ≤ 1048576) : AX Try.prog 146 [.one (.ptr 200 0)] [(200, some (curB b c))] (ι := List Actt × Cur) (fun i => i.1.length ≤ 13) (fun i => .one (.own 303)) (fun i => [(200, some (curB b i.2)), (303, some (.arr 114 actE i.1 true))]) := by
  refine AX_body1 (x := fun (i : List Actt × Cur) => .one (.own 303)) (L' := fun (i : List Actt × Cur) => [(200, some (curB b i.2)), (303, some (.arr 114 actE i.1 true))]) Try.func146 rfl rfl Try.ntmps146 rfl Try.results146 ?_
  refine AW_seq ?_
  refine AW_regionN ?_
  refine AN_p (x_assign rfl rfl) ?_
  refine AN_nil ?_
  refine AW_seq ?_
  refine AW_regionN ?_
  refine AN_p (y_bslice0 (E := 114) (e := actE) 100 rfl rfl rfl (by kernel_rfl)) ?_
  refine AN_p (x_assign rfl rfl) ?_
  refine AN_nil ?_
  refine AW_seq ?_
  refine AW_seq ?_
  refine AW_regionN ?_
  refine AN_p (x_move rfl rfl) ?_
  have d9 := dBelow_lt b c (n := 5) (by decide)
  refine AN_p (x_call (ks := []) (L := [(200, some _)]) (L' := [(200, some _)]) rfl rfl rfl (below_c b c hb 5) rfl AllV.rf (caught_of rfl) rfl rfl rfl ⟨rfl, trivial⟩ rfl) ?_
  refine AN_p (x_assign rfl rfl) ?_
  refine AN_nil ?_
  refine AW_block ?_
  refine AW_loop2 (ι := {q : Int × List Actt × Cur // ((q.2.1).length : Int) + max (q.1) 0 ≤ 4}) (fun p => [(3, .one (.own 100)), (4, .one (.c (.int .i64 (p.1.1))))]) (fun p => [(100, some (.arr 114 actE (p.1.2.1) true)), (200, some (curB b (p.1.2.2)))]) [0] [] (fun p => (p.1.1).toNat) ⟨⟨(dBelow b c 5).1, [], (dBelow b c 5).2⟩, (by simp; omega)⟩ (rn []) ?_ ?_
  exact ⟨by (repeat refine ⟨⟨_, rfl, by first | exact VLe.rf | exact vle_int (by dsimp only; omega)⟩, ?_⟩); exact trivial, by (repeat refine ⟨⟨_, rfl, by first | exact BLe.rf | exact BLe.box AllC.rf | exact BLe.arr (by exact rfl)⟩, ?_⟩); exact trivial, by repeat (first | exact trivial | refine ⟨⟨rfl, by first | (left; intro h; cases h) | (right; rfl), by first | exact (fun _ h => ⟨_, h⟩) | exact (fun _ _ => ⟨_, rfl⟩)⟩, ?_⟩), rfl⟩
  rintro ⟨⟨n, l, cc⟩, hinv⟩
  dsimp only
  have hl : (l.length : Int) + max n 0 ≤ 4 := hinv
  refine AW_seq ?_
  refine AW_seq ?_
  refine AW_regionN ?_
  refine AN_p (x_move rfl rfl) ?_
  refine AN_b (x_gtr rfl rfl rfl) (fun b11 h11 => ?_)
  refine AN_nil ?_
  cases b11
  · try simp only [tdy] at h11
    refine AW_condF rfl ?_
    refine AW_exit (BQ_hit ?_)
    refine AW_seq ?_
    refine AW_seq ?_
    refine AW_regionN ?_
    refine AN_p (x_move rfl rfl) ?_
    have d39 := dBelow_lt b cc (n := 25) (by decide)
    refine AN_p (x_call (ks := []) (L := [(200, some _)]) (L' := [(200, some _)]) rfl rfl rfl (below_c b cc hb 25) rfl AllV.rf (caught_of rfl) rfl rfl rfl ⟨rfl, trivial⟩ rfl) ?_
    refine AN_b (x_eql rfl rfl rfl) (fun b40 h40 => ?_)
    refine AN_nil ?_
    cases b40
    · try simp only [tdy] at h40
      refine AW_condF rfl ?_
      refine AW_skip ?_
      refine AW_seq ?_
      refine AW_regionN ?_
      refine AN_p (x_move rfl rfl) ?_
      refine AN_p (x_assign rfl rfl) ?_
      refine AN_nil ?_
      refine AW_ret ?_
      refine ⟨⟨_, _⟩, ?_, rn [(303, 100)], by exact ⟨⟨⟨_, rfl, VLe.rf⟩, trivial⟩, ⟨⟨_, rfl, BLe.rf⟩, ⟨_, rfl, BLe.rf⟩, trivial⟩, by repeat (first | exact trivial | refine ⟨⟨rfl, by first | (left; intro h; cases h) | (right; rfl), by first | exact (fun _ h => ⟨_, h⟩) | exact (fun _ _ => ⟨_, rfl⟩)⟩, ?_⟩), rfl⟩⟩
      dsimp only; omega
    try simp only [tdy] at h40
    refine AW_condT rfl ?_
    refine AW_block ?_
    refine AW_loop2 (ι := {q : List Actt × Cur // (q.1).length ≤ 13}) (fun p => [(3, .one (.own 100))]) (fun p => [(100, some (.arr 114 actE (p.1.1) true)), (200, some (curB b (p.1.2)))]) [0] [] (fun p => 14 - (p.1.1).length) ⟨⟨l, (dBelow b cc 25).2⟩, (by dsimp only; omega)⟩ (rn []) ?_ ?_
    exact ⟨by (repeat refine ⟨⟨_, rfl, by first | exact VLe.rf | exact vle_int (by dsimp only; omega)⟩, ?_⟩); exact trivial, by (repeat refine ⟨⟨_, rfl, by first | exact BLe.rf | exact BLe.box AllC.rf | exact BLe.arr (by exact rfl)⟩, ?_⟩); exact trivial, by repeat (first | exact trivial | refine ⟨⟨rfl, by first | (left; intro h; cases h) | (right; rfl), by first | exact (fun _ h => ⟨_, h⟩) | exact (fun _ _ => ⟨_, rfl⟩)⟩, ?_⟩), rfl⟩
    rintro ⟨⟨l, cc⟩, hinv⟩
    dsimp only
    have hl : l.length ≤ 13 := hinv
    refine AW_seq ?_
    refine AW_seq ?_
    refine AW_regionN ?_
    refine AN_p (x_move rfl rfl) ?_
    refine AN_p (x_olen (E := 114) (n := 3) rfl rfl rfl (by kernel_rfl)) ?_
    refine AN_p (x_move rfl rfl) ?_
    have d44 := dBelow_lt b cc (n := 2) (by decide)
    refine AN_p (x_call (ks := []) (L := [(200, some _)]) (L' := [(200, some _)]) rfl rfl rfl (below_c b cc hb 2) rfl AllV.rf (caught_of rfl) rfl rfl rfl ⟨rfl, trivial⟩ rfl) ?_
    refine AN_p (x_add rfl rfl rfl (IntWalk.i64_in _ (by omega))) ?_
    refine AN_b (x_lss rfl rfl rfl) (fun b46 h46 => ?_)
    refine AN_nil ?_
    cases b46
    · try simp only [tdy] at h46
      refine AW_condF rfl ?_
      refine AW_exit (BQ_hit ?_)
      refine AW_seq ?_
      refine AW_regionN ?_
      refine AN_p (x_move rfl rfl) ?_
      refine AN_p (x_assign rfl rfl) ?_
      refine AN_nil ?_
      refine AW_ret ?_
      refine ⟨⟨_, _⟩, ?_, rn [(303, 100)], by exact ⟨⟨⟨_, rfl, VLe.rf⟩, trivial⟩, ⟨⟨_, rfl, BLe.rf⟩, ⟨_, rfl, BLe.rf⟩, trivial⟩, by repeat (first | exact trivial | refine ⟨⟨rfl, by first | (left; intro h; cases h) | (right; rfl), by first | exact (fun _ h => ⟨_, h⟩) | exact (fun _ _ => ⟨_, rfl⟩)⟩, ?_⟩), rfl⟩⟩
      dsimp only; omega
    try simp only [tdy] at h46
    refine AW_condT rfl ?_
    refine AW_skip ?_
    refine AW_block ?_
    refine AW_regionN ?_
    refine AN_p (x_move rfl rfl) ?_
    refine AN_p (x_build (zs := [.int .i64 0, .int .i64 0, .int .i64 0]) (places := [(0, 1), (1, 1), (2, 1)]) rfl (by kernel_rfl) rfl rfl rfl rfl rfl) ?_
    refine AN_p (y_bslice (E := 114) (e := actE) [.tmp 48] ([⟨2, 0, 0⟩]) 104 rfl rfl rfl rfl rfl rfl rfl rfl FitL.rf rfl rfl rfl rfl rfl rfl (by kernel_rfl)) ?_
    refine AN_p (y_append 105 rfl rfl rfl rfl rfl rfl rfl rfl (by kernel_rfl) (by simp; omega)) ?_
    refine AN_p (x_assign rfl rfl) ?_
    refine AN_nil ?_
    refine ⟨⟨⟨_, _⟩, ?_⟩, rn [(100, 105)], by exact ⟨by (repeat refine ⟨⟨_, rfl, by first | exact VLe.rf | exact vle_int (by dsimp only; omega)⟩, ?_⟩); exact trivial, by (repeat refine ⟨⟨_, rfl, by first | exact BLe.rf | exact BLe.box AllC.rf | exact BLe.arr (by exact rfl)⟩, ?_⟩); exact trivial, by repeat (first | exact trivial | refine ⟨⟨rfl, by first | (left; intro h; cases h) | (right; rfl), by first | exact (fun _ h => ⟨_, h⟩) | exact (fun _ _ => ⟨_, rfl⟩)⟩, ?_⟩), rfl⟩, by simp; omega⟩
    simp; omega
  try simp only [tdy] at h11
  refine AW_condT rfl ?_
  refine AW_skip ?_
  refine AW_seq ?_
  refine AW_block ?_
  refine AW_seq ?_
  refine AW_regionN ?_
  refine AN_p (x_move rfl rfl) ?_
  have d15 := dBelow_lt b cc (n := 5) (by decide)
  refine AN_p (x_call (ks := []) (L := [(200, some _)]) (L' := [(200, some _)]) rfl rfl rfl (below_c b cc hb 5) rfl AllV.rf (caught_of rfl) rfl rfl rfl ⟨rfl, trivial⟩ rfl) ?_
  refine AN_p (x_add rfl rfl rfl (IntWalk.i64_in _ (by omega))) ?_
  refine AN_p (x_assign rfl rfl) ?_
  refine AN_nil ?_
  refine AW_seq ?_
  refine AW_regionN ?_
  refine AN_p (x_move rfl rfl) ?_
  refine AN_p (x_build (zs := [.int .i64 0, .int .i64 0, .int .i64 0]) (places := [(0, 1), (1, 1), (2, 1)]) rfl (by kernel_rfl) rfl rfl rfl rfl rfl) ?_
  refine AN_p (x_alloc (z := .agg #[.int .i64 0, .int .i64 0, .int .i64 0]) 101 rfl (by kernel_rfl) rfl rfl rfl rfl) ?_
  refine AN_p (x_store (n := 3) rfl rfl rfl rfl (by kernel_rfl) rfl rfl rfl) ?_
  refine AN_nil ?_
  refine AW_seq ?_
  refine AW_seq ?_
  refine AW_regionN ?_
  refine AN_p (x_move rfl rfl) ?_
  refine AN_b (x_eql rfl rfl rfl) (fun b20 h20 => ?_)
  refine AN_nil ?_
  cases b20
  · try simp only [tdy] at h20
    refine AW_condF rfl ?_
    refine AW_skip ?_
    refine AW_seq ?_
    refine AW_seq ?_
    refine AW_regionN ?_
    refine AN_p (x_move rfl rfl) ?_
    refine AN_b (x_eql rfl rfl rfl) (fun b26 h26 => ?_)
    refine AN_nil ?_
    cases b26
    · try simp only [tdy] at h26
      refine AW_condF rfl ?_
      refine AW_skip ?_
      refine AW_regionN ?_
      refine AN_p (x_move rfl rfl) ?_
      refine AN_p (x_loadN (n := 3) rfl rfl rfl (by kernel_rfl) rfl rfl) ?_
      refine AN_p (y_bslice (E := 114) (e := actE) [.tmp 35] ([⟨_, _, _⟩]) 102 rfl rfl rfl rfl rfl rfl rfl rfl FitL.rf rfl rfl rfl rfl rfl rfl (by kernel_rfl)) ?_
      refine AN_p (y_append 103 rfl rfl rfl rfl rfl rfl rfl rfl (by kernel_rfl) (by simp; omega)) ?_
      refine AN_p (x_assign rfl rfl) ?_
      refine AN_nil ?_
      refine AW_regionN ?_
      refine AN_p (x_move rfl rfl) ?_
      refine AN_p (x_sub rfl rfl rfl (IntWalk.i64_in _ (by omega))) ?_
      refine AN_p (x_assign rfl rfl) ?_
      refine AN_nil ?_
      refine ⟨⟨⟨_, _, _⟩, ?_⟩, rn [(100, 103)], by exact ⟨by (repeat refine ⟨⟨_, rfl, by first | exact VLe.rf | exact vle_int (by dsimp only; omega)⟩, ?_⟩); exact trivial, by (repeat refine ⟨⟨_, rfl, by first | exact BLe.rf | exact BLe.box AllC.rf | exact BLe.arr (by exact rfl)⟩, ?_⟩); exact trivial, by repeat (first | exact trivial | refine ⟨⟨rfl, by first | (left; intro h; cases h) | (right; rfl), by first | exact (fun _ h => ⟨_, h⟩) | exact (fun _ _ => ⟨_, rfl⟩)⟩, ?_⟩), rfl⟩, by dsimp only; omega⟩
      simp; omega
    try simp only [tdy] at h26
    refine AW_condT rfl ?_
    refine AW_seq ?_
    refine AW_regionN ?_
    refine AN_p (x_move rfl rfl) ?_
    have d28 := dBelow_lt b (dBelow b cc 5).2 (n := 2) (by decide)
    refine AN_p (x_call (ks := []) (L := [(200, some _)]) (L' := [(200, some _)]) rfl rfl rfl (below_c b (dBelow b cc 5).2 hb 2) rfl AllV.rf (caught_of rfl) rfl rfl rfl ⟨rfl, trivial⟩ rfl) ?_
    refine AN_p (x_add rfl rfl rfl (IntWalk.i64_in _ (by omega))) ?_
    refine AN_p (x_field (off := 1) (o' := 1) rfl rfl rfl (by kernel_rfl) rfl) ?_
    refine AN_p (x_store (n := 1) rfl rfl rfl rfl (by kernel_rfl) rfl rfl rfl) ?_
    refine AN_nil ?_
    refine AW_regionN ?_
    refine AN_p (x_move rfl rfl) ?_
    refine AN_p (x_call (ks := []) (L := [(200, some _)]) (L' := [(200, some _)]) rfl rfl rfl (num6_c b (dBelow b (dBelow b cc 5).2 2).2 hb) rfl AllV.rf (caught_of rfl) rfl rfl rfl ⟨rfl, trivial⟩ rfl) ?_
    refine AN_p (x_field (off := 2) (o' := 2) rfl rfl rfl (by kernel_rfl) rfl) ?_
    refine AN_p (x_store (n := 1) rfl rfl rfl rfl (by kernel_rfl) rfl rfl rfl) ?_
    refine AN_nil ?_
    refine AW_regionN ?_
    refine AN_p (x_move rfl rfl) ?_
    refine AN_p (x_loadN (n := 3) rfl rfl rfl (by kernel_rfl) rfl rfl) ?_
    refine AN_p (y_bslice (E := 114) (e := actE) [.tmp 35] ([⟨_, _, _⟩]) 102 rfl rfl rfl rfl rfl rfl rfl rfl FitL.rf rfl rfl rfl rfl rfl rfl (by kernel_rfl)) ?_
    refine AN_p (y_append 103 rfl rfl rfl rfl rfl rfl rfl rfl (by kernel_rfl) (by simp; omega)) ?_
    refine AN_p (x_assign rfl rfl) ?_
    refine AN_nil ?_
    refine AW_regionN ?_
    refine AN_p (x_move rfl rfl) ?_
    refine AN_p (x_sub rfl rfl rfl (IntWalk.i64_in _ (by omega))) ?_
    refine AN_p (x_assign rfl rfl) ?_
    refine AN_nil ?_
    refine ⟨⟨⟨_, _, _⟩, ?_⟩, rn [(100, 103)], by exact ⟨by (repeat refine ⟨⟨_, rfl, by first | exact VLe.rf | exact vle_int (by dsimp only; omega)⟩, ?_⟩); exact trivial, by (repeat refine ⟨⟨_, rfl, by first | exact BLe.rf | exact BLe.box AllC.rf | exact BLe.arr (by exact rfl)⟩, ?_⟩); exact trivial, by repeat (first | exact trivial | refine ⟨⟨rfl, by first | (left; intro h; cases h) | (right; rfl), by first | exact (fun _ h => ⟨_, h⟩) | exact (fun _ _ => ⟨_, rfl⟩)⟩, ?_⟩), rfl⟩, by dsimp only; omega⟩
    simp; omega
  try simp only [tdy] at h20
  refine AW_condT rfl ?_
  refine AW_regionN ?_
  refine AN_p (x_move rfl rfl) ?_
  have d22 := dBelow_lt b (dBelow b cc 5).2 (n := 5) (by decide)
  refine AN_p (x_call (ks := []) (L := [(200, some _)]) (L' := [(200, some _)]) rfl rfl rfl (below_c b (dBelow b cc 5).2 hb 5) rfl AllV.rf (caught_of rfl) rfl rfl rfl ⟨rfl, trivial⟩ rfl) ?_
  refine AN_p (x_add rfl rfl rfl (IntWalk.i64_in _ (by omega))) ?_
  refine AN_p (x_field (off := 1) (o' := 1) rfl rfl rfl (by kernel_rfl) rfl) ?_
  refine AN_p (x_store (n := 1) rfl rfl rfl rfl (by kernel_rfl) rfl rfl rfl) ?_
  refine AN_nil ?_
  refine AW_seq ?_
  refine AW_seq ?_
  refine AW_regionN ?_
  refine AN_p (x_move rfl rfl) ?_
  refine AN_b (x_eql rfl rfl rfl) (fun b26 h26 => ?_)
  refine AN_nil ?_
  cases b26
  · try simp only [tdy] at h26
    refine AW_condF rfl ?_
    refine AW_skip ?_
    refine AW_regionN ?_
    refine AN_p (x_move rfl rfl) ?_
    refine AN_p (x_loadN (n := 3) rfl rfl rfl (by kernel_rfl) rfl rfl) ?_
    refine AN_p (y_bslice (E := 114) (e := actE) [.tmp 35] ([⟨_, _, _⟩]) 102 rfl rfl rfl rfl rfl rfl rfl rfl FitL.rf rfl rfl rfl rfl rfl rfl (by kernel_rfl)) ?_
    refine AN_p (y_append 103 rfl rfl rfl rfl rfl rfl rfl rfl (by kernel_rfl) (by simp; omega)) ?_
    refine AN_p (x_assign rfl rfl) ?_
    refine AN_nil ?_
    refine AW_regionN ?_
    refine AN_p (x_move rfl rfl) ?_
    refine AN_p (x_sub rfl rfl rfl (IntWalk.i64_in _ (by omega))) ?_
    refine AN_p (x_assign rfl rfl) ?_
    refine AN_nil ?_
    refine ⟨⟨⟨_, _, _⟩, ?_⟩, rn [(100, 103)], by exact ⟨by (repeat refine ⟨⟨_, rfl, by first | exact VLe.rf | exact vle_int (by dsimp only; omega)⟩, ?_⟩); exact trivial, by (repeat refine ⟨⟨_, rfl, by first | exact BLe.rf | exact BLe.box AllC.rf | exact BLe.arr (by exact rfl)⟩, ?_⟩); exact trivial, by repeat (first | exact trivial | refine ⟨⟨rfl, by first | (left; intro h; cases h) | (right; rfl), by first | exact (fun _ h => ⟨_, h⟩) | exact (fun _ _ => ⟨_, rfl⟩)⟩, ?_⟩), rfl⟩, by dsimp only; omega⟩
    simp; omega
  try simp only [tdy] at h26
  refine AW_condT rfl ?_
  refine AW_seq ?_
  refine AW_regionN ?_
  refine AN_p (x_move rfl rfl) ?_
  have d28 := dBelow_lt b (dBelow b (dBelow b cc 5).2 5).2 (n := 2) (by decide)
  refine AN_p (x_call (ks := []) (L := [(200, some _)]) (L' := [(200, some _)]) rfl rfl rfl (below_c b (dBelow b (dBelow b cc 5).2 5).2 hb 2) rfl AllV.rf (caught_of rfl) rfl rfl rfl ⟨rfl, trivial⟩ rfl) ?_
  refine AN_p (x_add rfl rfl rfl (IntWalk.i64_in _ (by omega))) ?_
  refine AN_p (x_field (off := 1) (o' := 1) rfl rfl rfl (by kernel_rfl) rfl) ?_
  refine AN_p (x_store (n := 1) rfl rfl rfl rfl (by kernel_rfl) rfl rfl rfl) ?_
  refine AN_nil ?_
  refine AW_regionN ?_
  refine AN_p (x_move rfl rfl) ?_
  refine AN_p (x_call (ks := []) (L := [(200, some _)]) (L' := [(200, some _)]) rfl rfl rfl (num6_c b (dBelow b (dBelow b (dBelow b cc 5).2 5).2 2).2 hb) rfl AllV.rf (caught_of rfl) rfl rfl rfl ⟨rfl, trivial⟩ rfl) ?_
  refine AN_p (x_field (off := 2) (o' := 2) rfl rfl rfl (by kernel_rfl) rfl) ?_
  refine AN_p (x_store (n := 1) rfl rfl rfl rfl (by kernel_rfl) rfl rfl rfl) ?_
  refine AN_nil ?_
  refine AW_regionN ?_
  refine AN_p (x_move rfl rfl) ?_
  refine AN_p (x_loadN (n := 3) rfl rfl rfl (by kernel_rfl) rfl rfl) ?_
  refine AN_p (y_bslice (E := 114) (e := actE) [.tmp 35] ([⟨_, _, _⟩]) 102 rfl rfl rfl rfl rfl rfl rfl rfl FitL.rf rfl rfl rfl rfl rfl rfl (by kernel_rfl)) ?_
  refine AN_p (y_append 103 rfl rfl rfl rfl rfl rfl rfl rfl (by kernel_rfl) (by simp; omega)) ?_
  refine AN_p (x_assign rfl rfl) ?_
  refine AN_nil ?_
  refine AW_regionN ?_
  refine AN_p (x_move rfl rfl) ?_
  refine AN_p (x_sub rfl rfl rfl (IntWalk.i64_in _ (by omega))) ?_
  refine AN_p (x_assign rfl rfl) ?_
  refine AN_nil ?_
  refine ⟨⟨⟨_, _, _⟩, ?_⟩, rn [(100, 103)], by exact ⟨by (repeat refine ⟨⟨_, rfl, by first | exact VLe.rf | exact vle_int (by dsimp only; omega)⟩, ?_⟩); exact trivial, by (repeat refine ⟨⟨_, rfl, by first | exact BLe.rf | exact BLe.box AllC.rf | exact BLe.arr (by exact rfl)⟩, ?_⟩); exact trivial, by repeat (first | exact trivial | refine ⟨⟨rfl, by first | (left; intro h; cases h) | (right; rfl), by first | exact (fun _ h => ⟨_, h⟩) | exact (fun _ _ => ⟨_, rfl⟩)⟩, ?_⟩), rfl⟩, by dsimp only; omega⟩
  simp; omega

set_option maxHeartbeats 4000000 in
theorem entry_x (b : List Int) (c : Cur) (hb : b.length ≤ 1048576) : AX Try.prog 121 [.one (.ptr 200 0)] [(200, some (curB b c))] (ι := (Int × Int × (List Int × List Int) × List Actt × Int) × Cur) (fun i => i.1.2.2.1.1.length = 8 ∧ i.1.2.2.1.2.length = 8 ∧ i.1.2.2.2.1.length ≤ 13) (fun i => .agg [.c (.int .i64 i.1.1), .c (.int .i64 i.1.2.1), .sl (intE .i64) i.1.2.2.1.1, .sl (intE .i64) i.1.2.2.1.2, .sl actE i.1.2.2.2.1, .c (.int .i64 i.1.2.2.2.2)]) (fun i => [(200, some (curB b i.2))]) := by
  refine AX_bodyC (n := 6) (k := 9) (cs := fun (i : (Int × Int × (List Int × List Int) × List Actt × Int) × Cur) => [.c (.int .i64 i.1.1), .c (.int .i64 i.1.2.1), .sl (intE .i64) i.1.2.2.1.1, .sl (intE .i64) i.1.2.2.1.2, .sl actE i.1.2.2.2.1, .c (.int .i64 i.1.2.2.2.2)]) (T := fun (_ : (Int × Int × (List Int × List Int) × List Actt × Int) × Cur) => [(2, .one (.ptr 9 0))]) (Lf := fun (i : (Int × Int × (List Int × List Int) × List Actt × Int) × Cur) => ((9, some (.box [.c (.int .i64 i.1.1), .c (.int .i64 i.1.2.1), .sl (intE .i64) i.1.2.2.1.1, .sl (intE .i64) i.1.2.2.1.2, .sl actE i.1.2.2.2.1, .c (.int .i64 i.1.2.2.2.2)])) :: [(200, some (curB b i.2))])) (L' := fun (i : (Int × Int × (List Int × List Int) × List Actt × Int) × Cur) => [(200, some (curB b i.2))]) Try.func121 rfl rfl Try.ntmps121 rfl Try.results121 (fun _ => rfl) (fun _ => rfl) (by kernel_rfl) (fun _ => rfl) (fun _ => rfl) (fun (_ : (Int × Int × (List Int × List Int) × List Actt × Int) × Cur) => ⟨trivial, (by repeat (first | exact trivial | refine ⟨⟨_, rfl, BLe.rf⟩, ?_⟩)), (by repeat (first | exact trivial | refine ⟨⟨rfl, by first | (left; intro h; cases h) | (right; rfl), by first | exact (fun _ h => ⟨_, h⟩) | exact (fun _ _ => ⟨_, rfl⟩)⟩, ?_⟩)), rfl⟩) ?_
  refine AW_seq ?_
  refine AW_regionN ?_
  refine AN_p (x_alloc (z := .agg #[.int .i64 0, .int .i64 0, .slice none 0 0, .slice none 0 0, .slice none 0 0, .int .i64 0]) 100 rfl (by kernel_rfl) rfl rfl rfl rfl) ?_
  refine AN_nil ?_
  refine AW_seq ?_
  refine AW_regionN ?_
  refine AN_p (x_move rfl rfl) ?_
  have d5 := dBelow_lt b c (n := 3) (by decide)
  refine AN_p (x_call (ks := []) (L := [(200, some _)]) (L' := [(200, some _)]) rfl rfl rfl (below_c b c hb 3) rfl AllV.rf (caught_of rfl) rfl rfl rfl ⟨rfl, trivial⟩ rfl) ?_
  refine AN_p (x_move rfl rfl) ?_
  have d7 := dBelow_lt b (dBelow b c 3).2 (n := 4) (by decide)
  refine AN_p (x_call (ks := []) (L := [(200, some _)]) (L' := [(200, some _)]) rfl rfl rfl (below_c b (dBelow b c 3).2 hb 4) rfl AllV.rf (caught_of rfl) rfl rfl rfl ⟨rfl, trivial⟩ rfl) ?_
  refine AN_p (x_move rfl rfl) ?_
  refine AN_x (L := [(200, some (curB b (dBelow b (dBelow b c 3).2 4).2))]) rfl rfl rfl (match_x b (dBelow b (dBelow b c 3).2 4).2 hb) rfl rfl (fun _ => rfl) (fun _ => rfl) ⟨rfl, trivial⟩ (fun _ => rfl) ?_
  rintro ⟨x9, c9⟩ g9
  dsimp only at g9 ⊢
  refine AN_p (x_move rfl rfl) ?_
  refine AN_x (L := [(200, some (curB b c9))]) rfl rfl rfl (acts_x b c9 hb) rfl rfl (fun _ => rfl) (fun _ => rfl) ⟨rfl, trivial⟩ (fun _ => rfl) ?_
  rintro ⟨y11, c11⟩ g11
  dsimp only at g11 ⊢
  refine AN_p (x_move rfl rfl) ?_
  have d13 := dBelow_lt b c11 (n := 3) (by decide)
  refine AN_p (x_call (ks := []) (L := [(200, some _)]) (L' := [(200, some _)]) rfl rfl rfl (below_c b c11 hb 3) rfl AllV.rf (caught_of rfl) rfl rfl rfl ⟨rfl, trivial⟩ rfl) ?_
  refine AN_p (x_build (zs := [.int .i64 0, .int .i64 0, .slice none 0 0, .slice none 0 0, .slice none 0 0, .int .i64 0]) (places := [(0, 1), (1, 1), (2, 2), (4, 1), (5, 1)]) rfl (by kernel_rfl) rfl rfl rfl rfl rfl) ?_
  refine AN_p (x_alloc (z := .agg #[.int .i64 0, .int .i64 0, .slice none 0 0, .slice none 0 0, .slice none 0 0, .int .i64 0]) 101 rfl (by kernel_rfl) rfl rfl rfl rfl) ?_
  refine AN_p (x_store (n := 6) rfl rfl rfl rfl (by kernel_rfl) rfl rfl rfl) ?_
  refine AN_nil ?_
  refine AW_seq ?_
  refine AW_seq ?_
  refine AW_shutB 303 101 4 rfl rfl rfl rfl ?_
  refine AW_regionN ?_
  refine AN_p (x_field (off := 4) (o' := 4) rfl rfl rfl (by kernel_rfl) rfl) ?_
  refine AN_p (x_load1 rfl rfl rfl (by kernel_rfl) rfl) ?_
  refine AN_p (x_len (E := 114) (n := 3) rfl rfl (by kernel_rfl)) ?_
  refine AN_b (x_gtr rfl rfl rfl) (fun b18 h18 => ?_)
  refine AN_nil ?_
  cases b18
  · try simp only [tdy] at h18
    refine AW_condF rfl ?_
    refine AW_skip ?_
    refine AW_seq ?_
    refine AW_seq ?_
    refine AW_regionN ?_
    refine AN_p (x_move rfl rfl) ?_
    have d21 := dBelow_lt b (dBelow b c11 3).2 (n := 9) (by decide)
    refine AN_p (x_call (ks := []) (L := [(200, some _)]) (L' := [(200, some _)]) rfl rfl rfl (below_c b (dBelow b c11 3).2 hb 9) rfl AllV.rf (caught_of rfl) rfl rfl rfl ⟨rfl, trivial⟩ rfl) ?_
    refine AN_b (x_eql rfl rfl rfl) (fun b22 h22 => ?_)
    refine AN_nil ?_
    cases b22
    · try simp only [tdy] at h22
      refine AW_condF rfl ?_
      refine AW_skip ?_
      refine AW_seq ?_
      refine AW_regionN ?_
      refine AN_p (x_loadN (n := 6) rfl rfl rfl (by kernel_rfl) rfl rfl) ?_
      refine AN_p (x_store (n := 6) rfl rfl rfl rfl (by kernel_rfl) rfl rfl rfl) ?_
      refine AN_nil ?_
      refine AW_shutB 301 100 2 rfl rfl rfl rfl ?_
      refine AW_shutB 302 100 3 rfl rfl rfl rfl ?_
      refine AW_ret ?_
      refine ⟨⟨⟨_, _, ⟨_, _⟩, _, _⟩, _⟩, ?_, rn [(9, 100)], by exact ⟨⟨⟨_, rfl, VLe.rf⟩, trivial⟩, ⟨⟨_, rfl, by first | exact BLe.rf | exact BLe.box (by repeat (first | exact trivial | refine ⟨by first | exact CLe.rf | exact CLe.nil, ?_⟩))⟩, ⟨_, rfl, BLe.rf⟩, trivial⟩, by repeat (first | exact trivial | refine ⟨⟨rfl, by first | (left; intro h; cases h) | (right; rfl), by first | exact (fun _ h => ⟨_, h⟩) | exact (fun _ _ => ⟨_, rfl⟩)⟩, ?_⟩), rfl⟩⟩
      exact ⟨g9.1, g9.2, by first | exact g11 | exact Nat.zero_le _⟩
    try simp only [tdy] at h22
    refine AW_condT rfl ?_
    refine AW_seq ?_
    refine AW_regionN ?_
    refine AN_p (x_move rfl rfl) ?_
    have d24 := dBelow_lt b (dBelow b (dBelow b c11 3).2 9).2 (n := 2) (by decide)
    refine AN_p (x_call (ks := []) (L := [(200, some _)]) (L' := [(200, some _)]) rfl rfl rfl (below_c b (dBelow b (dBelow b c11 3).2 9).2 hb 2) rfl AllV.rf (caught_of rfl) rfl rfl rfl ⟨rfl, trivial⟩ rfl) ?_
    refine AN_p (x_sub rfl rfl rfl (IntWalk.i64_in _ (by omega))) ?_
    refine AN_p (x_field (off := 5) (o' := 5) rfl rfl rfl (by kernel_rfl) rfl) ?_
    refine AN_p (x_store (n := 1) rfl rfl rfl rfl (by kernel_rfl) rfl rfl rfl) ?_
    refine AN_nil ?_
    refine AW_regionN ?_
    refine AN_p (x_field (off := 1) (o' := 1) rfl rfl rfl (by kernel_rfl) rfl) ?_
    refine AN_p (x_store (n := 1) rfl rfl rfl rfl (by kernel_rfl) rfl rfl rfl) ?_
    refine AN_nil ?_
    refine AW_seq ?_
    refine AW_regionN ?_
    refine AN_p (x_loadN (n := 6) rfl rfl rfl (by kernel_rfl) rfl rfl) ?_
    refine AN_p (x_store (n := 6) rfl rfl rfl rfl (by kernel_rfl) rfl rfl rfl) ?_
    refine AN_nil ?_
    refine AW_shutB 301 100 2 rfl rfl rfl rfl ?_
    refine AW_shutB 302 100 3 rfl rfl rfl rfl ?_
    refine AW_ret ?_
    refine ⟨⟨⟨_, _, ⟨_, _⟩, _, _⟩, _⟩, ?_, rn [(9, 100)], by exact ⟨⟨⟨_, rfl, VLe.rf⟩, trivial⟩, ⟨⟨_, rfl, by first | exact BLe.rf | exact BLe.box (by repeat (first | exact trivial | refine ⟨by first | exact CLe.rf | exact CLe.nil, ?_⟩))⟩, ⟨_, rfl, BLe.rf⟩, trivial⟩, by repeat (first | exact trivial | refine ⟨⟨rfl, by first | (left; intro h; cases h) | (right; rfl), by first | exact (fun _ h => ⟨_, h⟩) | exact (fun _ _ => ⟨_, rfl⟩)⟩, ?_⟩), rfl⟩⟩
    exact ⟨g9.1, g9.2, by first | exact g11 | exact Nat.zero_le _⟩
  try simp only [tdy] at h18
  refine AW_condT rfl ?_
  refine AW_regionN ?_
  refine AN_p (x_field (off := 4) (o' := 4) rfl rfl rfl (by kernel_rfl) rfl) ?_
  refine AN_p (x_store (n := 1) rfl rfl rfl rfl (by kernel_rfl) rfl rfl rfl) ?_
  refine AN_nil ?_
  refine AW_seq ?_
  refine AW_seq ?_
  refine AW_regionN ?_
  refine AN_p (x_move rfl rfl) ?_
  have d21 := dBelow_lt b (dBelow b c11 3).2 (n := 9) (by decide)
  refine AN_p (x_call (ks := []) (L := [(200, some _)]) (L' := [(200, some _)]) rfl rfl rfl (below_c b (dBelow b c11 3).2 hb 9) rfl AllV.rf (caught_of rfl) rfl rfl rfl ⟨rfl, trivial⟩ rfl) ?_
  refine AN_b (x_eql rfl rfl rfl) (fun b22 h22 => ?_)
  refine AN_nil ?_
  cases b22
  · try simp only [tdy] at h22
    refine AW_condF rfl ?_
    refine AW_skip ?_
    refine AW_seq ?_
    refine AW_regionN ?_
    refine AN_p (x_loadN (n := 6) rfl rfl rfl (by kernel_rfl) rfl rfl) ?_
    refine AN_p (x_store (n := 6) rfl rfl rfl rfl (by kernel_rfl) rfl rfl rfl) ?_
    refine AN_nil ?_
    refine AW_shutB 301 100 2 rfl rfl rfl rfl ?_
    refine AW_shutB 302 100 3 rfl rfl rfl rfl ?_
    refine AW_ret ?_
    refine ⟨⟨⟨_, _, ⟨_, _⟩, _, _⟩, _⟩, ?_, rn [(9, 100)], by exact ⟨⟨⟨_, rfl, VLe.rf⟩, trivial⟩, ⟨⟨_, rfl, by first | exact BLe.rf | exact BLe.box (by repeat (first | exact trivial | refine ⟨by first | exact CLe.rf | exact CLe.nil, ?_⟩))⟩, ⟨_, rfl, BLe.rf⟩, trivial⟩, by repeat (first | exact trivial | refine ⟨⟨rfl, by first | (left; intro h; cases h) | (right; rfl), by first | exact (fun _ h => ⟨_, h⟩) | exact (fun _ _ => ⟨_, rfl⟩)⟩, ?_⟩), rfl⟩⟩
    exact ⟨g9.1, g9.2, by first | exact g11 | exact Nat.zero_le _⟩
  try simp only [tdy] at h22
  refine AW_condT rfl ?_
  refine AW_seq ?_
  refine AW_regionN ?_
  refine AN_p (x_move rfl rfl) ?_
  have d24 := dBelow_lt b (dBelow b (dBelow b c11 3).2 9).2 (n := 2) (by decide)
  refine AN_p (x_call (ks := []) (L := [(200, some _)]) (L' := [(200, some _)]) rfl rfl rfl (below_c b (dBelow b (dBelow b c11 3).2 9).2 hb 2) rfl AllV.rf (caught_of rfl) rfl rfl rfl ⟨rfl, trivial⟩ rfl) ?_
  refine AN_p (x_sub rfl rfl rfl (IntWalk.i64_in _ (by omega))) ?_
  refine AN_p (x_field (off := 5) (o' := 5) rfl rfl rfl (by kernel_rfl) rfl) ?_
  refine AN_p (x_store (n := 1) rfl rfl rfl rfl (by kernel_rfl) rfl rfl rfl) ?_
  refine AN_nil ?_
  refine AW_regionN ?_
  refine AN_p (x_field (off := 1) (o' := 1) rfl rfl rfl (by kernel_rfl) rfl) ?_
  refine AN_p (x_store (n := 1) rfl rfl rfl rfl (by kernel_rfl) rfl rfl rfl) ?_
  refine AN_nil ?_
  refine AW_seq ?_
  refine AW_regionN ?_
  refine AN_p (x_loadN (n := 6) rfl rfl rfl (by kernel_rfl) rfl rfl) ?_
  refine AN_p (x_store (n := 6) rfl rfl rfl rfl (by kernel_rfl) rfl rfl rfl) ?_
  refine AN_nil ?_
  refine AW_shutB 301 100 2 rfl rfl rfl rfl ?_
  refine AW_shutB 302 100 3 rfl rfl rfl rfl ?_
  refine AW_ret ?_
  refine ⟨⟨⟨_, _, ⟨_, _⟩, _, _⟩, _⟩, ?_, rn [(9, 100)], by exact ⟨⟨⟨_, rfl, VLe.rf⟩, trivial⟩, ⟨⟨_, rfl, by first | exact BLe.rf | exact BLe.box (by repeat (first | exact trivial | refine ⟨by first | exact CLe.rf | exact CLe.nil, ?_⟩))⟩, ⟨_, rfl, BLe.rf⟩, trivial⟩, by repeat (first | exact trivial | refine ⟨⟨rfl, by first | (left; intro h; cases h) | (right; rfl), by first | exact (fun _ h => ⟨_, h⟩) | exact (fun _ _ => ⟨_, rfl⟩)⟩, ?_⟩), rfl⟩⟩
  exact ⟨g9.1, g9.2, by first | exact g11 | exact Nat.zero_le _⟩

set_option maxHeartbeats 4000000 in
theorem msg_x (b : List Int) (c : Cur) (hb : b.length ≤ 1048576) : AX Try.prog 60 [.one (.ptr 200 0)] [(200, some (curB b c))] (ι := Msgt × Cur) (fun i => smallMsg i.1) (fun i => .agg (msgC i.1)) (fun i => [(200, some (curB b i.2))]) := by
  refine AX_bodyC (n := 10) (k := 9) (cs := fun (i : Msgt × Cur) => (msgC i.1)) (T := fun (_ : Msgt × Cur) => [(2, .one (.ptr 9 0))]) (Lf := fun (i : Msgt × Cur) => ((9, some (.box (msgC i.1))) :: [(200, some (curB b i.2))])) (L' := fun (i : Msgt × Cur) => [(200, some (curB b i.2))]) Try.func60 rfl rfl Try.ntmps60 rfl Try.results60 (fun _ => rfl) (fun _ => rfl) (by kernel_rfl) (fun _ => rfl) (fun _ => rfl) (fun (_ : Msgt × Cur) => ⟨trivial, (by repeat (first | exact trivial | refine ⟨⟨_, rfl, BLe.rf⟩, ?_⟩)), (by repeat (first | exact trivial | refine ⟨⟨rfl, by first | (left; intro h; cases h) | (right; rfl), by first | exact (fun _ h => ⟨_, h⟩) | exact (fun _ _ => ⟨_, rfl⟩)⟩, ?_⟩)), rfl⟩) ?_
  refine AW_seq ?_
  refine AW_regionN ?_
  refine AN_p (x_alloc (z := .agg #[.int .i64 0, .int .i64 0, .int .i64 0, .int .i64 0, .int .i64 0, .slice none 0 0, .slice none 0 0, .slice none 0 0, .bool false, .slice none 0 0]) 100 rfl (by kernel_rfl) rfl rfl rfl rfl) ?_
  refine AN_nil ?_
  refine AW_seq ?_
  refine AW_regionN ?_
  refine AN_p (x_move rfl rfl) ?_
  have d6 := dBelow_lt b c (n := 6) (by decide)
  refine AN_p (x_call (ks := []) (L := [(200, some _)]) (L' := [(200, some _)]) rfl rfl rfl (below_c b c hb 6) rfl AllV.rf (caught_of rfl) rfl rfl rfl ⟨rfl, trivial⟩ rfl) ?_
  refine AN_p (x_add rfl rfl rfl (IntWalk.i64_in _ (by omega))) ?_
  refine AN_p (x_move rfl rfl) ?_
  have d9 := dBelow_lt b (dBelow b c 6).2 (n := 4) (by decide)
  refine AN_p (x_call (ks := []) (L := [(200, some _)]) (L' := [(200, some _)]) rfl rfl rfl (below_c b (dBelow b c 6).2 hb 4) rfl AllV.rf (caught_of rfl) rfl rfl rfl ⟨rfl, trivial⟩ rfl) ?_
  refine AN_p (x_move rfl rfl) ?_
  have d11 := dBelow_lt b (dBelow b (dBelow b c 6).2 4).2 (n := 9) (by decide)
  refine AN_p (x_call (ks := []) (L := [(200, some _)]) (L' := [(200, some _)]) rfl rfl rfl (below_c b (dBelow b (dBelow b c 6).2 4).2 hb 9) rfl AllV.rf (caught_of rfl) rfl rfl rfl ⟨rfl, trivial⟩ rfl) ?_
  refine AN_p (x_build (zs := [.int .i64 0, .int .i64 0, .int .i64 0, .int .i64 0, .int .i64 0, .slice none 0 0, .slice none 0 0, .slice none 0 0, .bool false, .slice none 0 0]) (places := [(0, 1), (1, 1), (2, 1), (3, 1), (4, 1), (5, 2), (7, 1), (8, 1), (9, 1)]) rfl (by kernel_rfl) rfl rfl rfl rfl rfl) ?_
  refine AN_p (x_alloc (z := .agg #[.int .i64 0, .int .i64 0, .int .i64 0, .int .i64 0, .int .i64 0, .slice none 0 0, .slice none 0 0, .slice none 0 0, .bool false, .slice none 0 0]) 101 rfl (by kernel_rfl) rfl rfl rfl rfl) ?_
  refine AN_p (x_store (n := 10) rfl rfl rfl rfl (by kernel_rfl) rfl rfl rfl) ?_
  refine AN_nil ?_
  refine AW_seq ?_
  refine AW_seq ?_
  refine AW_regionN ?_
  refine AN_p (x_move rfl rfl) ?_
  have d14 := dBelow_lt b (dBelow b (dBelow b (dBelow b c 6).2 4).2 9).2 (n := 3) (by decide)
  refine AN_p (x_call (ks := []) (L := [(200, some _)]) (L' := [(200, some _)]) rfl rfl rfl (below_c b (dBelow b (dBelow b (dBelow b c 6).2 4).2 9).2 hb 3) rfl AllV.rf (caught_of rfl) rfl rfl rfl ⟨rfl, trivial⟩ rfl) ?_
  refine AN_b (x_eql rfl rfl rfl) (fun b15 h15 => ?_)
  refine AN_nil ?_
  cases b15
  · try simp only [tdy] at h15
    refine AW_condF rfl ?_
    refine AW_skip ?_
    refine AW_seq ?_
    refine AW_seq ?_
    refine AW_regionN ?_
    refine AN_p (x_move rfl rfl) ?_
    have d18 := dBelow_lt b (dBelow b (dBelow b (dBelow b (dBelow b c 6).2 4).2 9).2 3).2 (n := 9) (by decide)
    refine AN_p (x_call (ks := []) (L := [(200, some _)]) (L' := [(200, some _)]) rfl rfl rfl (below_c b (dBelow b (dBelow b (dBelow b (dBelow b c 6).2 4).2 9).2 3).2 hb 9) rfl AllV.rf (caught_of rfl) rfl rfl rfl ⟨rfl, trivial⟩ rfl) ?_
    refine AN_b (x_eql rfl rfl rfl) (fun b19 h19 => ?_)
    refine AN_nil ?_
    cases b19
    · try simp only [tdy] at h19
      refine AW_condF rfl ?_
      refine AW_skip ?_
      refine AW_seq ?_
      refine AW_seq ?_
      refine AW_regionN ?_
      refine AN_p (x_field (off := 0) (o' := 0) rfl rfl rfl (by kernel_rfl) rfl) ?_
      refine AN_p (x_load1 rfl rfl rfl (by kernel_rfl) rfl) ?_
      refine AN_b (x_eql rfl rfl rfl) (fun b24 h24 => ?_)
      refine AN_nil ?_
      cases b24
      · try simp only [tdy] at h24
        refine AW_condF rfl ?_
        refine AW_skip ?_
        refine AW_seq ?_
        refine AW_seq ?_
        refine AW_regionN ?_
        refine AN_p (x_field (off := 0) (o' := 0) rfl rfl rfl (by kernel_rfl) rfl) ?_
        refine AN_p (x_load1 rfl rfl rfl (by kernel_rfl) rfl) ?_
        refine AN_b (x_eql rfl rfl rfl) (fun b41 h41 => ?_)
        refine AN_nil ?_
        cases b41
        · try simp only [tdy] at h41
          refine AW_condF rfl ?_
          refine AW_skip ?_
          refine AW_seq ?_
          refine AW_seq ?_
          refine AW_regionN ?_
          refine AN_p (x_field (off := 0) (o' := 0) rfl rfl rfl (by kernel_rfl) rfl) ?_
          refine AN_p (x_load1 rfl rfl rfl (by kernel_rfl) rfl) ?_
          refine AN_b (x_eql rfl rfl rfl) (fun b47 h47 => ?_)
          refine AN_nil ?_
          cases b47
          · try simp only [tdy] at h47
            refine AW_condF rfl ?_
            refine AW_skip ?_
            refine AW_seq ?_
            refine AW_regionN ?_
            refine AN_p (x_loadN (n := 10) rfl rfl rfl (by kernel_rfl) rfl rfl) ?_
            refine AN_p (x_store (n := 10) rfl rfl rfl rfl (by kernel_rfl) rfl rfl rfl) ?_
            refine AN_nil ?_
            refine AW_ret ?_
            refine ⟨⟨⟨_, _, _, _, _, ⟨_, _⟩, _, _, ⟨_⟩⟩, _⟩, ?_, rn [(9, 100)], by exact ⟨⟨⟨_, rfl, VLe.rf⟩, trivial⟩, ⟨⟨_, rfl, by first | exact BLe.rf | exact BLe.box (by repeat (first | exact trivial | refine ⟨by first | exact CLe.rf | exact CLe.nil, ?_⟩))⟩, ⟨_, rfl, BLe.rf⟩, trivial⟩, by repeat (first | exact trivial | refine ⟨⟨rfl, by first | (left; intro h; cases h) | (right; rfl), by first | exact (fun _ h => ⟨_, h⟩) | exact (fun _ _ => ⟨_, rfl⟩)⟩, ?_⟩), rfl⟩⟩
            refine ⟨⟨?_, ?_⟩, ⟨?_, fun _ _ => trivial⟩, ?_⟩
            all_goals (try unfold smallHead)
            all_goals (try dsimp only)
            all_goals first | omega | exact Nat.zero_le _ | (simp only [List.length_nil]; omega)
          try simp only [tdy] at h47
          refine AW_condT rfl ?_
          refine AW_seq ?_
          refine AW_regionN ?_
          refine AN_p (x_move rfl rfl) ?_
          have d49 := dBelow_lt b (dBelow b (dBelow b (dBelow b (dBelow b (dBelow b c 6).2 4).2 9).2 3).2 9).2 (n := 2) (by decide)
          refine AN_p (x_call (ks := []) (L := [(200, some _)]) (L' := [(200, some _)]) rfl rfl rfl (below_c b (dBelow b (dBelow b (dBelow b (dBelow b (dBelow b c 6).2 4).2 9).2 3).2 9).2 hb 2) rfl AllV.rf (caught_of rfl) rfl rfl rfl ⟨rfl, trivial⟩ rfl) ?_
          refine AN_b (x_eql rfl rfl rfl) (fun b50 h50 => ?_)
          refine AN_p (x_field (off := 8) (o' := 8) rfl rfl rfl (by kernel_rfl) rfl) ?_
          refine AN_p (x_store (n := 1) rfl rfl rfl rfl (by kernel_rfl) rfl rfl rfl) ?_
          refine AN_nil ?_
          refine AW_regionN ?_
          refine AN_p (x_move rfl rfl) ?_
          refine AN_x (L := [(200, some (curB b (dBelow b (dBelow b (dBelow b (dBelow b (dBelow b (dBelow b c 6).2 4).2 9).2 3).2 9).2 2).2))]) rfl rfl rfl (head_x b (dBelow b (dBelow b (dBelow b (dBelow b (dBelow b (dBelow b c 6).2 4).2 9).2 3).2 9).2 2).2 hb) rfl rfl (fun _ => rfl) (fun _ => rfl) ⟨rfl, trivial⟩ (fun _ => rfl) ?_
          rintro ⟨y53, c53⟩ g53
          dsimp only at g53 ⊢
          refine AN_p (x_field (off := 9) (o' := 9) rfl rfl rfl (by kernel_rfl) rfl) ?_
          refine AN_p (x_store (n := 1) rfl rfl rfl rfl (by kernel_rfl) rfl rfl rfl) ?_
          refine AN_nil ?_
          refine AW_seq ?_
          refine AW_regionN ?_
          refine AN_p (x_loadN (n := 10) rfl rfl rfl (by kernel_rfl) rfl rfl) ?_
          refine AN_p (x_store (n := 10) rfl rfl rfl rfl (by kernel_rfl) rfl rfl rfl) ?_
          refine AN_nil ?_
          refine AW_shutB 300 100 9 rfl rfl rfl rfl ?_
          refine AW_ret ?_
          refine ⟨⟨⟨_, _, _, _, _, ⟨_, _⟩, _, _, ⟨_⟩⟩, _⟩, ?_, rn [(9, 100)], by exact ⟨⟨⟨_, rfl, VLe.rf⟩, trivial⟩, ⟨⟨_, rfl, by first | exact BLe.rf | exact BLe.box (by repeat (first | exact trivial | refine ⟨by first | exact CLe.rf | exact CLe.nil, ?_⟩))⟩, ⟨_, rfl, BLe.rf⟩, trivial⟩, by repeat (first | exact trivial | refine ⟨⟨rfl, by first | (left; intro h; cases h) | (right; rfl), by first | exact (fun _ h => ⟨_, h⟩) | exact (fun _ _ => ⟨_, rfl⟩)⟩, ?_⟩), rfl⟩⟩
          refine ⟨⟨?_, ?_⟩, ⟨?_, fun _ _ => trivial⟩, ?_⟩
          all_goals (try unfold smallHead)
          all_goals (try dsimp only)
          all_goals first | omega | exact Nat.zero_le _ | (simp only [List.length_nil]; omega)
        try simp only [tdy] at h41
        refine AW_condT rfl ?_
        refine AW_regionN ?_
        refine AN_p (x_move rfl rfl) ?_
        have d43 := dBelow_lt b (dBelow b (dBelow b (dBelow b (dBelow b (dBelow b c 6).2 4).2 9).2 3).2 9).2 (n := 5) (by decide)
        refine AN_p (x_call (ks := []) (L := [(200, some _)]) (L' := [(200, some _)]) rfl rfl rfl (below_c b (dBelow b (dBelow b (dBelow b (dBelow b (dBelow b c 6).2 4).2 9).2 3).2 9).2 hb 5) rfl AllV.rf (caught_of rfl) rfl rfl rfl ⟨rfl, trivial⟩ rfl) ?_
        refine AN_p (x_field (off := 3) (o' := 3) rfl rfl rfl (by kernel_rfl) rfl) ?_
        refine AN_p (x_store (n := 1) rfl rfl rfl rfl (by kernel_rfl) rfl rfl rfl) ?_
        refine AN_nil ?_
        refine AW_seq ?_
        refine AW_seq ?_
        refine AW_regionN ?_
        refine AN_p (x_field (off := 0) (o' := 0) rfl rfl rfl (by kernel_rfl) rfl) ?_
        refine AN_p (x_load1 rfl rfl rfl (by kernel_rfl) rfl) ?_
        refine AN_b (x_eql rfl rfl rfl) (fun b47 h47 => ?_)
        refine AN_nil ?_
        cases b47
        · try simp only [tdy] at h47
          refine AW_condF rfl ?_
          refine AW_skip ?_
          refine AW_seq ?_
          refine AW_regionN ?_
          refine AN_p (x_loadN (n := 10) rfl rfl rfl (by kernel_rfl) rfl rfl) ?_
          refine AN_p (x_store (n := 10) rfl rfl rfl rfl (by kernel_rfl) rfl rfl rfl) ?_
          refine AN_nil ?_
          refine AW_ret ?_
          refine ⟨⟨⟨_, _, _, _, _, ⟨_, _⟩, _, _, ⟨_⟩⟩, _⟩, ?_, rn [(9, 100)], by exact ⟨⟨⟨_, rfl, VLe.rf⟩, trivial⟩, ⟨⟨_, rfl, by first | exact BLe.rf | exact BLe.box (by repeat (first | exact trivial | refine ⟨by first | exact CLe.rf | exact CLe.nil, ?_⟩))⟩, ⟨_, rfl, BLe.rf⟩, trivial⟩, by repeat (first | exact trivial | refine ⟨⟨rfl, by first | (left; intro h; cases h) | (right; rfl), by first | exact (fun _ h => ⟨_, h⟩) | exact (fun _ _ => ⟨_, rfl⟩)⟩, ?_⟩), rfl⟩⟩
          refine ⟨⟨?_, ?_⟩, ⟨?_, fun _ _ => trivial⟩, ?_⟩
          all_goals (try unfold smallHead)
          all_goals (try dsimp only)
          all_goals first | omega | exact Nat.zero_le _ | (simp only [List.length_nil]; omega)
        try simp only [tdy] at h47
        refine AW_condT rfl ?_
        refine AW_seq ?_
        refine AW_regionN ?_
        refine AN_p (x_move rfl rfl) ?_
        have d49 := dBelow_lt b (dBelow b (dBelow b (dBelow b (dBelow b (dBelow b (dBelow b c 6).2 4).2 9).2 3).2 9).2 5).2 (n := 2) (by decide)
        refine AN_p (x_call (ks := []) (L := [(200, some _)]) (L' := [(200, some _)]) rfl rfl rfl (below_c b (dBelow b (dBelow b (dBelow b (dBelow b (dBelow b (dBelow b c 6).2 4).2 9).2 3).2 9).2 5).2 hb 2) rfl AllV.rf (caught_of rfl) rfl rfl rfl ⟨rfl, trivial⟩ rfl) ?_
        refine AN_b (x_eql rfl rfl rfl) (fun b50 h50 => ?_)
        refine AN_p (x_field (off := 8) (o' := 8) rfl rfl rfl (by kernel_rfl) rfl) ?_
        refine AN_p (x_store (n := 1) rfl rfl rfl rfl (by kernel_rfl) rfl rfl rfl) ?_
        refine AN_nil ?_
        refine AW_regionN ?_
        refine AN_p (x_move rfl rfl) ?_
        refine AN_x (L := [(200, some (curB b (dBelow b (dBelow b (dBelow b (dBelow b (dBelow b (dBelow b (dBelow b c 6).2 4).2 9).2 3).2 9).2 5).2 2).2))]) rfl rfl rfl (head_x b (dBelow b (dBelow b (dBelow b (dBelow b (dBelow b (dBelow b (dBelow b c 6).2 4).2 9).2 3).2 9).2 5).2 2).2 hb) rfl rfl (fun _ => rfl) (fun _ => rfl) ⟨rfl, trivial⟩ (fun _ => rfl) ?_
        rintro ⟨y53, c53⟩ g53
        dsimp only at g53 ⊢
        refine AN_p (x_field (off := 9) (o' := 9) rfl rfl rfl (by kernel_rfl) rfl) ?_
        refine AN_p (x_store (n := 1) rfl rfl rfl rfl (by kernel_rfl) rfl rfl rfl) ?_
        refine AN_nil ?_
        refine AW_seq ?_
        refine AW_regionN ?_
        refine AN_p (x_loadN (n := 10) rfl rfl rfl (by kernel_rfl) rfl rfl) ?_
        refine AN_p (x_store (n := 10) rfl rfl rfl rfl (by kernel_rfl) rfl rfl rfl) ?_
        refine AN_nil ?_
        refine AW_shutB 300 100 9 rfl rfl rfl rfl ?_
        refine AW_ret ?_
        refine ⟨⟨⟨_, _, _, _, _, ⟨_, _⟩, _, _, ⟨_⟩⟩, _⟩, ?_, rn [(9, 100)], by exact ⟨⟨⟨_, rfl, VLe.rf⟩, trivial⟩, ⟨⟨_, rfl, by first | exact BLe.rf | exact BLe.box (by repeat (first | exact trivial | refine ⟨by first | exact CLe.rf | exact CLe.nil, ?_⟩))⟩, ⟨_, rfl, BLe.rf⟩, trivial⟩, by repeat (first | exact trivial | refine ⟨⟨rfl, by first | (left; intro h; cases h) | (right; rfl), by first | exact (fun _ h => ⟨_, h⟩) | exact (fun _ _ => ⟨_, rfl⟩)⟩, ?_⟩), rfl⟩⟩
        refine ⟨⟨?_, ?_⟩, ⟨?_, fun _ _ => trivial⟩, ?_⟩
        all_goals (try unfold smallHead)
        all_goals (try dsimp only)
        all_goals first | omega | exact Nat.zero_le _ | (simp only [List.length_nil]; omega)
      try simp only [tdy] at h24
      refine AW_condT rfl ?_
      refine AW_seq ?_
      refine AW_regionN ?_
      refine AN_p (x_move rfl rfl) ?_
      refine AN_x (L := [(200, some (curB b (dBelow b (dBelow b (dBelow b (dBelow b (dBelow b c 6).2 4).2 9).2 3).2 9).2))]) rfl rfl rfl (entry_x b (dBelow b (dBelow b (dBelow b (dBelow b (dBelow b c 6).2 4).2 9).2 3).2 9).2 hb) rfl rfl (fun _ => rfl) (fun _ => rfl) ⟨rfl, trivial⟩ (fun _ => rfl) ?_
      rintro ⟨x26, c26⟩ g26
      dsimp only at g26 ⊢
      obtain ⟨ga, gb, gc⟩ := g26
      obtain ⟨e1, e2, ⟨mv, mm⟩, ac, e3⟩ := x26
      dsimp only at ga gb gc ⊢
      refine AN_p (x_alloc (z := .agg #[.int .i64 0, .int .i64 0, .slice none 0 0, .slice none 0 0, .slice none 0 0, .int .i64 0]) 102 rfl (by kernel_rfl) rfl rfl rfl rfl) ?_
      refine AN_p (x_store (n := 6) rfl rfl rfl rfl (by kernel_rfl) rfl rfl rfl) ?_
      refine AN_nil ?_
      refine AW_seq ?_
      refine AW_regionN ?_
      refine AN_p (x_field (off := 0) (o' := 0) rfl rfl rfl (by kernel_rfl) rfl) ?_
      refine AN_p (x_load1 rfl rfl rfl (by kernel_rfl) rfl) ?_
      refine AN_p (x_field (off := 3) (o' := 3) rfl rfl rfl (by kernel_rfl) rfl) ?_
      refine AN_p (x_store (n := 1) rfl rfl rfl rfl (by kernel_rfl) rfl rfl rfl) ?_
      refine AN_nil ?_
      refine AW_seq ?_
      refine AW_regionN ?_
      refine AN_p (x_field (off := 1) (o' := 1) rfl rfl rfl (by kernel_rfl) rfl) ?_
      refine AN_p (x_load1 rfl rfl rfl (by kernel_rfl) rfl) ?_
      refine AN_p (x_field (off := 4) (o' := 4) rfl rfl rfl (by kernel_rfl) rfl) ?_
      refine AN_p (x_store (n := 1) rfl rfl rfl rfl (by kernel_rfl) rfl rfl rfl) ?_
      refine AN_nil ?_
      refine AW_seq ?_
      refine AW_regionN ?_
      refine AN_p (x_field (off := 2) (o' := 2) rfl rfl rfl (by kernel_rfl) rfl) ?_
      refine AN_p (x_loadN (n := 2) rfl rfl rfl (by kernel_rfl) rfl rfl) ?_
      refine AN_p (x_field (off := 5) (o' := 5) rfl rfl rfl (by kernel_rfl) rfl) ?_
      refine AN_p (x_store (n := 2) rfl rfl rfl rfl (by kernel_rfl) rfl rfl rfl) ?_
      refine AN_nil ?_
      refine AW_regionN ?_
      refine AN_p (x_field (off := 4) (o' := 4) rfl rfl rfl (by kernel_rfl) rfl) ?_
      refine AN_p (x_load1 rfl rfl rfl (by kernel_rfl) rfl) ?_
      refine AN_p (x_field (off := 7) (o' := 7) rfl rfl rfl (by kernel_rfl) rfl) ?_
      refine AN_p (x_store (n := 1) rfl rfl rfl rfl (by kernel_rfl) rfl rfl rfl) ?_
      refine AN_nil ?_
      refine AW_seq ?_
      refine AW_seq ?_
      refine AW_regionN ?_
      refine AN_p (x_field (off := 0) (o' := 0) rfl rfl rfl (by kernel_rfl) rfl) ?_
      refine AN_p (x_load1 rfl rfl rfl (by kernel_rfl) rfl) ?_
      refine AN_b (x_eql rfl rfl rfl) (fun b41 h41 => ?_)
      refine AN_nil ?_
      cases b41
      · try simp only [tdy] at h41
        refine AW_condF rfl ?_
        refine AW_skip ?_
        refine AW_seq ?_
        refine AW_seq ?_
        refine AW_regionN ?_
        refine AN_p (x_field (off := 0) (o' := 0) rfl rfl rfl (by kernel_rfl) rfl) ?_
        refine AN_p (x_load1 rfl rfl rfl (by kernel_rfl) rfl) ?_
        refine AN_b (x_eql rfl rfl rfl) (fun b47 h47 => ?_)
        refine AN_nil ?_
        cases b47
        · try simp only [tdy] at h47
          refine AW_condF rfl ?_
          refine AW_skip ?_
          refine AW_seq ?_
          refine AW_regionN ?_
          refine AN_p (x_loadN (n := 10) rfl rfl rfl (by kernel_rfl) rfl rfl) ?_
          refine AN_p (x_store (n := 10) rfl rfl rfl rfl (by kernel_rfl) rfl rfl rfl) ?_
          refine AN_nil ?_
          refine AW_ret ?_
          refine ⟨⟨⟨_, _, _, _, _, ⟨_, _⟩, _, _, ⟨_⟩⟩, _⟩, ?_, rn [(9, 100)], by exact ⟨⟨⟨_, rfl, VLe.rf⟩, trivial⟩, ⟨⟨_, rfl, by first | exact BLe.rf | exact BLe.box (by repeat (first | exact trivial | refine ⟨by first | exact CLe.rf | exact CLe.nil, ?_⟩))⟩, ⟨_, rfl, BLe.rf⟩, trivial⟩, by repeat (first | exact trivial | refine ⟨⟨rfl, by first | (left; intro h; cases h) | (right; rfl), by first | exact (fun _ h => ⟨_, h⟩) | exact (fun _ _ => ⟨_, rfl⟩)⟩, ?_⟩), rfl⟩⟩
          refine ⟨⟨?_, ?_⟩, ⟨?_, fun _ _ => trivial⟩, ?_⟩
          all_goals (try unfold smallHead)
          all_goals (try dsimp only)
          all_goals first | omega | exact Nat.zero_le _ | (simp only [List.length_nil]; omega)
        try simp only [tdy] at h47
        refine AW_condT rfl ?_
        refine AW_seq ?_
        refine AW_regionN ?_
        refine AN_p (x_move rfl rfl) ?_
        have d49 := dBelow_lt b c26 (n := 2) (by decide)
        refine AN_p (x_call (ks := []) (L := [(200, some _)]) (L' := [(200, some _)]) rfl rfl rfl (below_c b c26 hb 2) rfl AllV.rf (caught_of rfl) rfl rfl rfl ⟨rfl, trivial⟩ rfl) ?_
        refine AN_b (x_eql rfl rfl rfl) (fun b50 h50 => ?_)
        refine AN_p (x_field (off := 8) (o' := 8) rfl rfl rfl (by kernel_rfl) rfl) ?_
        refine AN_p (x_store (n := 1) rfl rfl rfl rfl (by kernel_rfl) rfl rfl rfl) ?_
        refine AN_nil ?_
        refine AW_regionN ?_
        refine AN_p (x_move rfl rfl) ?_
        refine AN_x (L := [(200, some (curB b (dBelow b c26 2).2))]) rfl rfl rfl (head_x b (dBelow b c26 2).2 hb) rfl rfl (fun _ => rfl) (fun _ => rfl) ⟨rfl, trivial⟩ (fun _ => rfl) ?_
        rintro ⟨y53, c53⟩ g53
        dsimp only at g53 ⊢
        refine AN_p (x_field (off := 9) (o' := 9) rfl rfl rfl (by kernel_rfl) rfl) ?_
        refine AN_p (x_store (n := 1) rfl rfl rfl rfl (by kernel_rfl) rfl rfl rfl) ?_
        refine AN_nil ?_
        refine AW_seq ?_
        refine AW_regionN ?_
        refine AN_p (x_loadN (n := 10) rfl rfl rfl (by kernel_rfl) rfl rfl) ?_
        refine AN_p (x_store (n := 10) rfl rfl rfl rfl (by kernel_rfl) rfl rfl rfl) ?_
        refine AN_nil ?_
        refine AW_shutB 300 100 9 rfl rfl rfl rfl ?_
        refine AW_ret ?_
        refine ⟨⟨⟨_, _, _, _, _, ⟨_, _⟩, _, _, ⟨_⟩⟩, _⟩, ?_, rn [(9, 100)], by exact ⟨⟨⟨_, rfl, VLe.rf⟩, trivial⟩, ⟨⟨_, rfl, by first | exact BLe.rf | exact BLe.box (by repeat (first | exact trivial | refine ⟨by first | exact CLe.rf | exact CLe.nil, ?_⟩))⟩, ⟨_, rfl, BLe.rf⟩, trivial⟩, by repeat (first | exact trivial | refine ⟨⟨rfl, by first | (left; intro h; cases h) | (right; rfl), by first | exact (fun _ h => ⟨_, h⟩) | exact (fun _ _ => ⟨_, rfl⟩)⟩, ?_⟩), rfl⟩⟩
        refine ⟨⟨?_, ?_⟩, ⟨?_, fun _ _ => trivial⟩, ?_⟩
        all_goals (try unfold smallHead)
        all_goals (try dsimp only)
        all_goals first | omega | exact Nat.zero_le _ | (simp only [List.length_nil]; omega)
      try simp only [tdy] at h41
      refine AW_condT rfl ?_
      refine AW_regionN ?_
      refine AN_p (x_move rfl rfl) ?_
      have d43 := dBelow_lt b c26 (n := 5) (by decide)
      refine AN_p (x_call (ks := []) (L := [(200, some _)]) (L' := [(200, some _)]) rfl rfl rfl (below_c b c26 hb 5) rfl AllV.rf (caught_of rfl) rfl rfl rfl ⟨rfl, trivial⟩ rfl) ?_
      refine AN_p (x_field (off := 3) (o' := 3) rfl rfl rfl (by kernel_rfl) rfl) ?_
      refine AN_p (x_store (n := 1) rfl rfl rfl rfl (by kernel_rfl) rfl rfl rfl) ?_
      refine AN_nil ?_
      refine AW_seq ?_
      refine AW_seq ?_
      refine AW_regionN ?_
      refine AN_p (x_field (off := 0) (o' := 0) rfl rfl rfl (by kernel_rfl) rfl) ?_
      refine AN_p (x_load1 rfl rfl rfl (by kernel_rfl) rfl) ?_
      refine AN_b (x_eql rfl rfl rfl) (fun b47 h47 => ?_)
      refine AN_nil ?_
      cases b47
      · try simp only [tdy] at h47
        refine AW_condF rfl ?_
        refine AW_skip ?_
        refine AW_seq ?_
        refine AW_regionN ?_
        refine AN_p (x_loadN (n := 10) rfl rfl rfl (by kernel_rfl) rfl rfl) ?_
        refine AN_p (x_store (n := 10) rfl rfl rfl rfl (by kernel_rfl) rfl rfl rfl) ?_
        refine AN_nil ?_
        refine AW_ret ?_
        refine ⟨⟨⟨_, _, _, _, _, ⟨_, _⟩, _, _, ⟨_⟩⟩, _⟩, ?_, rn [(9, 100)], by exact ⟨⟨⟨_, rfl, VLe.rf⟩, trivial⟩, ⟨⟨_, rfl, by first | exact BLe.rf | exact BLe.box (by repeat (first | exact trivial | refine ⟨by first | exact CLe.rf | exact CLe.nil, ?_⟩))⟩, ⟨_, rfl, BLe.rf⟩, trivial⟩, by repeat (first | exact trivial | refine ⟨⟨rfl, by first | (left; intro h; cases h) | (right; rfl), by first | exact (fun _ h => ⟨_, h⟩) | exact (fun _ _ => ⟨_, rfl⟩)⟩, ?_⟩), rfl⟩⟩
        refine ⟨⟨?_, ?_⟩, ⟨?_, fun _ _ => trivial⟩, ?_⟩
        all_goals (try unfold smallHead)
        all_goals (try dsimp only)
        all_goals first | omega | exact Nat.zero_le _ | (simp only [List.length_nil]; omega)
      try simp only [tdy] at h47
      refine AW_condT rfl ?_
      refine AW_seq ?_
      refine AW_regionN ?_
      refine AN_p (x_move rfl rfl) ?_
      have d49 := dBelow_lt b (dBelow b c26 5).2 (n := 2) (by decide)
      refine AN_p (x_call (ks := []) (L := [(200, some _)]) (L' := [(200, some _)]) rfl rfl rfl (below_c b (dBelow b c26 5).2 hb 2) rfl AllV.rf (caught_of rfl) rfl rfl rfl ⟨rfl, trivial⟩ rfl) ?_
      refine AN_b (x_eql rfl rfl rfl) (fun b50 h50 => ?_)
      refine AN_p (x_field (off := 8) (o' := 8) rfl rfl rfl (by kernel_rfl) rfl) ?_
      refine AN_p (x_store (n := 1) rfl rfl rfl rfl (by kernel_rfl) rfl rfl rfl) ?_
      refine AN_nil ?_
      refine AW_regionN ?_
      refine AN_p (x_move rfl rfl) ?_
      refine AN_x (L := [(200, some (curB b (dBelow b (dBelow b c26 5).2 2).2))]) rfl rfl rfl (head_x b (dBelow b (dBelow b c26 5).2 2).2 hb) rfl rfl (fun _ => rfl) (fun _ => rfl) ⟨rfl, trivial⟩ (fun _ => rfl) ?_
      rintro ⟨y53, c53⟩ g53
      dsimp only at g53 ⊢
      refine AN_p (x_field (off := 9) (o' := 9) rfl rfl rfl (by kernel_rfl) rfl) ?_
      refine AN_p (x_store (n := 1) rfl rfl rfl rfl (by kernel_rfl) rfl rfl rfl) ?_
      refine AN_nil ?_
      refine AW_seq ?_
      refine AW_regionN ?_
      refine AN_p (x_loadN (n := 10) rfl rfl rfl (by kernel_rfl) rfl rfl) ?_
      refine AN_p (x_store (n := 10) rfl rfl rfl rfl (by kernel_rfl) rfl rfl rfl) ?_
      refine AN_nil ?_
      refine AW_shutB 300 100 9 rfl rfl rfl rfl ?_
      refine AW_ret ?_
      refine ⟨⟨⟨_, _, _, _, _, ⟨_, _⟩, _, _, ⟨_⟩⟩, _⟩, ?_, rn [(9, 100)], by exact ⟨⟨⟨_, rfl, VLe.rf⟩, trivial⟩, ⟨⟨_, rfl, by first | exact BLe.rf | exact BLe.box (by repeat (first | exact trivial | refine ⟨by first | exact CLe.rf | exact CLe.nil, ?_⟩))⟩, ⟨_, rfl, BLe.rf⟩, trivial⟩, by repeat (first | exact trivial | refine ⟨⟨rfl, by first | (left; intro h; cases h) | (right; rfl), by first | exact (fun _ h => ⟨_, h⟩) | exact (fun _ _ => ⟨_, rfl⟩)⟩, ?_⟩), rfl⟩⟩
      refine ⟨⟨?_, ?_⟩, ⟨?_, fun _ _ => trivial⟩, ?_⟩
      all_goals (try unfold smallHead)
      all_goals (try dsimp only)
      all_goals first | omega | exact Nat.zero_le _ | (simp only [List.length_nil]; omega)
    try simp only [tdy] at h19
    refine AW_condT rfl ?_
    refine AW_seq ?_
    refine AW_regionN ?_
    refine AN_p (x_field (off := 1) (o' := 1) rfl rfl rfl (by kernel_rfl) rfl) ?_
    refine AN_p (x_store (n := 1) rfl rfl rfl rfl (by kernel_rfl) rfl rfl rfl) ?_
    refine AN_nil ?_
    refine AW_regionN ?_
    refine AN_p (x_field (off := 2) (o' := 2) rfl rfl rfl (by kernel_rfl) rfl) ?_
    refine AN_p (x_store (n := 1) rfl rfl rfl rfl (by kernel_rfl) rfl rfl rfl) ?_
    refine AN_nil ?_
    refine AW_seq ?_
    refine AW_seq ?_
    refine AW_regionN ?_
    refine AN_p (x_field (off := 0) (o' := 0) rfl rfl rfl (by kernel_rfl) rfl) ?_
    refine AN_p (x_load1 rfl rfl rfl (by kernel_rfl) rfl) ?_
    refine AN_b (x_eql rfl rfl rfl) (fun b24 h24 => ?_)
    refine AN_nil ?_
    cases b24
    · try simp only [tdy] at h24
      refine AW_condF rfl ?_
      refine AW_skip ?_
      refine AW_seq ?_
      refine AW_seq ?_
      refine AW_regionN ?_
      refine AN_p (x_field (off := 0) (o' := 0) rfl rfl rfl (by kernel_rfl) rfl) ?_
      refine AN_p (x_load1 rfl rfl rfl (by kernel_rfl) rfl) ?_
      refine AN_b (x_eql rfl rfl rfl) (fun b41 h41 => ?_)
      refine AN_nil ?_
      cases b41
      · try simp only [tdy] at h41
        refine AW_condF rfl ?_
        refine AW_skip ?_
        refine AW_seq ?_
        refine AW_seq ?_
        refine AW_regionN ?_
        refine AN_p (x_field (off := 0) (o' := 0) rfl rfl rfl (by kernel_rfl) rfl) ?_
        refine AN_p (x_load1 rfl rfl rfl (by kernel_rfl) rfl) ?_
        refine AN_b (x_eql rfl rfl rfl) (fun b47 h47 => ?_)
        refine AN_nil ?_
        cases b47
        · try simp only [tdy] at h47
          refine AW_condF rfl ?_
          refine AW_skip ?_
          refine AW_seq ?_
          refine AW_regionN ?_
          refine AN_p (x_loadN (n := 10) rfl rfl rfl (by kernel_rfl) rfl rfl) ?_
          refine AN_p (x_store (n := 10) rfl rfl rfl rfl (by kernel_rfl) rfl rfl rfl) ?_
          refine AN_nil ?_
          refine AW_ret ?_
          refine ⟨⟨⟨_, _, _, _, _, ⟨_, _⟩, _, _, ⟨_⟩⟩, _⟩, ?_, rn [(9, 100)], by exact ⟨⟨⟨_, rfl, VLe.rf⟩, trivial⟩, ⟨⟨_, rfl, by first | exact BLe.rf | exact BLe.box (by repeat (first | exact trivial | refine ⟨by first | exact CLe.rf | exact CLe.nil, ?_⟩))⟩, ⟨_, rfl, BLe.rf⟩, trivial⟩, by repeat (first | exact trivial | refine ⟨⟨rfl, by first | (left; intro h; cases h) | (right; rfl), by first | exact (fun _ h => ⟨_, h⟩) | exact (fun _ _ => ⟨_, rfl⟩)⟩, ?_⟩), rfl⟩⟩
          refine ⟨⟨?_, ?_⟩, ⟨?_, fun _ _ => trivial⟩, ?_⟩
          all_goals (try unfold smallHead)
          all_goals (try dsimp only)
          all_goals first | omega | exact Nat.zero_le _ | (simp only [List.length_nil]; omega)
        try simp only [tdy] at h47
        refine AW_condT rfl ?_
        refine AW_seq ?_
        refine AW_regionN ?_
        refine AN_p (x_move rfl rfl) ?_
        have d49 := dBelow_lt b (dBelow b (dBelow b (dBelow b (dBelow b (dBelow b c 6).2 4).2 9).2 3).2 9).2 (n := 2) (by decide)
        refine AN_p (x_call (ks := []) (L := [(200, some _)]) (L' := [(200, some _)]) rfl rfl rfl (below_c b (dBelow b (dBelow b (dBelow b (dBelow b (dBelow b c 6).2 4).2 9).2 3).2 9).2 hb 2) rfl AllV.rf (caught_of rfl) rfl rfl rfl ⟨rfl, trivial⟩ rfl) ?_
        refine AN_b (x_eql rfl rfl rfl) (fun b50 h50 => ?_)
        refine AN_p (x_field (off := 8) (o' := 8) rfl rfl rfl (by kernel_rfl) rfl) ?_
        refine AN_p (x_store (n := 1) rfl rfl rfl rfl (by kernel_rfl) rfl rfl rfl) ?_
        refine AN_nil ?_
        refine AW_regionN ?_
        refine AN_p (x_move rfl rfl) ?_
        refine AN_x (L := [(200, some (curB b (dBelow b (dBelow b (dBelow b (dBelow b (dBelow b (dBelow b c 6).2 4).2 9).2 3).2 9).2 2).2))]) rfl rfl rfl (head_x b (dBelow b (dBelow b (dBelow b (dBelow b (dBelow b (dBelow b c 6).2 4).2 9).2 3).2 9).2 2).2 hb) rfl rfl (fun _ => rfl) (fun _ => rfl) ⟨rfl, trivial⟩ (fun _ => rfl) ?_
        rintro ⟨y53, c53⟩ g53
        dsimp only at g53 ⊢
        refine AN_p (x_field (off := 9) (o' := 9) rfl rfl rfl (by kernel_rfl) rfl) ?_
        refine AN_p (x_store (n := 1) rfl rfl rfl rfl (by kernel_rfl) rfl rfl rfl) ?_
        refine AN_nil ?_
        refine AW_seq ?_
        refine AW_regionN ?_
        refine AN_p (x_loadN (n := 10) rfl rfl rfl (by kernel_rfl) rfl rfl) ?_
        refine AN_p (x_store (n := 10) rfl rfl rfl rfl (by kernel_rfl) rfl rfl rfl) ?_
        refine AN_nil ?_
        refine AW_shutB 300 100 9 rfl rfl rfl rfl ?_
        refine AW_ret ?_
        refine ⟨⟨⟨_, _, _, _, _, ⟨_, _⟩, _, _, ⟨_⟩⟩, _⟩, ?_, rn [(9, 100)], by exact ⟨⟨⟨_, rfl, VLe.rf⟩, trivial⟩, ⟨⟨_, rfl, by first | exact BLe.rf | exact BLe.box (by repeat (first | exact trivial | refine ⟨by first | exact CLe.rf | exact CLe.nil, ?_⟩))⟩, ⟨_, rfl, BLe.rf⟩, trivial⟩, by repeat (first | exact trivial | refine ⟨⟨rfl, by first | (left; intro h; cases h) | (right; rfl), by first | exact (fun _ h => ⟨_, h⟩) | exact (fun _ _ => ⟨_, rfl⟩)⟩, ?_⟩), rfl⟩⟩
        refine ⟨⟨?_, ?_⟩, ⟨?_, fun _ _ => trivial⟩, ?_⟩
        all_goals (try unfold smallHead)
        all_goals (try dsimp only)
        all_goals first | omega | exact Nat.zero_le _ | (simp only [List.length_nil]; omega)
      try simp only [tdy] at h41
      refine AW_condT rfl ?_
      refine AW_regionN ?_
      refine AN_p (x_move rfl rfl) ?_
      have d43 := dBelow_lt b (dBelow b (dBelow b (dBelow b (dBelow b (dBelow b c 6).2 4).2 9).2 3).2 9).2 (n := 5) (by decide)
      refine AN_p (x_call (ks := []) (L := [(200, some _)]) (L' := [(200, some _)]) rfl rfl rfl (below_c b (dBelow b (dBelow b (dBelow b (dBelow b (dBelow b c 6).2 4).2 9).2 3).2 9).2 hb 5) rfl AllV.rf (caught_of rfl) rfl rfl rfl ⟨rfl, trivial⟩ rfl) ?_
      refine AN_p (x_field (off := 3) (o' := 3) rfl rfl rfl (by kernel_rfl) rfl) ?_
      refine AN_p (x_store (n := 1) rfl rfl rfl rfl (by kernel_rfl) rfl rfl rfl) ?_
      refine AN_nil ?_
      refine AW_seq ?_
      refine AW_seq ?_
      refine AW_regionN ?_
      refine AN_p (x_field (off := 0) (o' := 0) rfl rfl rfl (by kernel_rfl) rfl) ?_
      refine AN_p (x_load1 rfl rfl rfl (by kernel_rfl) rfl) ?_
      refine AN_b (x_eql rfl rfl rfl) (fun b47 h47 => ?_)
      refine AN_nil ?_
      cases b47
      · try simp only [tdy] at h47
        refine AW_condF rfl ?_
        refine AW_skip ?_
        refine AW_seq ?_
        refine AW_regionN ?_
        refine AN_p (x_loadN (n := 10) rfl rfl rfl (by kernel_rfl) rfl rfl) ?_
        refine AN_p (x_store (n := 10) rfl rfl rfl rfl (by kernel_rfl) rfl rfl rfl) ?_
        refine AN_nil ?_
        refine AW_ret ?_
        refine ⟨⟨⟨_, _, _, _, _, ⟨_, _⟩, _, _, ⟨_⟩⟩, _⟩, ?_, rn [(9, 100)], by exact ⟨⟨⟨_, rfl, VLe.rf⟩, trivial⟩, ⟨⟨_, rfl, by first | exact BLe.rf | exact BLe.box (by repeat (first | exact trivial | refine ⟨by first | exact CLe.rf | exact CLe.nil, ?_⟩))⟩, ⟨_, rfl, BLe.rf⟩, trivial⟩, by repeat (first | exact trivial | refine ⟨⟨rfl, by first | (left; intro h; cases h) | (right; rfl), by first | exact (fun _ h => ⟨_, h⟩) | exact (fun _ _ => ⟨_, rfl⟩)⟩, ?_⟩), rfl⟩⟩
        refine ⟨⟨?_, ?_⟩, ⟨?_, fun _ _ => trivial⟩, ?_⟩
        all_goals (try unfold smallHead)
        all_goals (try dsimp only)
        all_goals first | omega | exact Nat.zero_le _ | (simp only [List.length_nil]; omega)
      try simp only [tdy] at h47
      refine AW_condT rfl ?_
      refine AW_seq ?_
      refine AW_regionN ?_
      refine AN_p (x_move rfl rfl) ?_
      have d49 := dBelow_lt b (dBelow b (dBelow b (dBelow b (dBelow b (dBelow b (dBelow b c 6).2 4).2 9).2 3).2 9).2 5).2 (n := 2) (by decide)
      refine AN_p (x_call (ks := []) (L := [(200, some _)]) (L' := [(200, some _)]) rfl rfl rfl (below_c b (dBelow b (dBelow b (dBelow b (dBelow b (dBelow b (dBelow b c 6).2 4).2 9).2 3).2 9).2 5).2 hb 2) rfl AllV.rf (caught_of rfl) rfl rfl rfl ⟨rfl, trivial⟩ rfl) ?_
      refine AN_b (x_eql rfl rfl rfl) (fun b50 h50 => ?_)
      refine AN_p (x_field (off := 8) (o' := 8) rfl rfl rfl (by kernel_rfl) rfl) ?_
      refine AN_p (x_store (n := 1) rfl rfl rfl rfl (by kernel_rfl) rfl rfl rfl) ?_
      refine AN_nil ?_
      refine AW_regionN ?_
      refine AN_p (x_move rfl rfl) ?_
      refine AN_x (L := [(200, some (curB b (dBelow b (dBelow b (dBelow b (dBelow b (dBelow b (dBelow b (dBelow b c 6).2 4).2 9).2 3).2 9).2 5).2 2).2))]) rfl rfl rfl (head_x b (dBelow b (dBelow b (dBelow b (dBelow b (dBelow b (dBelow b (dBelow b c 6).2 4).2 9).2 3).2 9).2 5).2 2).2 hb) rfl rfl (fun _ => rfl) (fun _ => rfl) ⟨rfl, trivial⟩ (fun _ => rfl) ?_
      rintro ⟨y53, c53⟩ g53
      dsimp only at g53 ⊢
      refine AN_p (x_field (off := 9) (o' := 9) rfl rfl rfl (by kernel_rfl) rfl) ?_
      refine AN_p (x_store (n := 1) rfl rfl rfl rfl (by kernel_rfl) rfl rfl rfl) ?_
      refine AN_nil ?_
      refine AW_seq ?_
      refine AW_regionN ?_
      refine AN_p (x_loadN (n := 10) rfl rfl rfl (by kernel_rfl) rfl rfl) ?_
      refine AN_p (x_store (n := 10) rfl rfl rfl rfl (by kernel_rfl) rfl rfl rfl) ?_
      refine AN_nil ?_
      refine AW_shutB 300 100 9 rfl rfl rfl rfl ?_
      refine AW_ret ?_
      refine ⟨⟨⟨_, _, _, _, _, ⟨_, _⟩, _, _, ⟨_⟩⟩, _⟩, ?_, rn [(9, 100)], by exact ⟨⟨⟨_, rfl, VLe.rf⟩, trivial⟩, ⟨⟨_, rfl, by first | exact BLe.rf | exact BLe.box (by repeat (first | exact trivial | refine ⟨by first | exact CLe.rf | exact CLe.nil, ?_⟩))⟩, ⟨_, rfl, BLe.rf⟩, trivial⟩, by repeat (first | exact trivial | refine ⟨⟨rfl, by first | (left; intro h; cases h) | (right; rfl), by first | exact (fun _ h => ⟨_, h⟩) | exact (fun _ _ => ⟨_, rfl⟩)⟩, ?_⟩), rfl⟩⟩
      refine ⟨⟨?_, ?_⟩, ⟨?_, fun _ _ => trivial⟩, ?_⟩
      all_goals (try unfold smallHead)
      all_goals (try dsimp only)
      all_goals first | omega | exact Nat.zero_le _ | (simp only [List.length_nil]; omega)
    try simp only [tdy] at h24
    refine AW_condT rfl ?_
    refine AW_seq ?_
    refine AW_regionN ?_
    refine AN_p (x_move rfl rfl) ?_
    refine AN_x (L := [(200, some (curB b (dBelow b (dBelow b (dBelow b (dBelow b (dBelow b c 6).2 4).2 9).2 3).2 9).2))]) rfl rfl rfl (entry_x b (dBelow b (dBelow b (dBelow b (dBelow b (dBelow b c 6).2 4).2 9).2 3).2 9).2 hb) rfl rfl (fun _ => rfl) (fun _ => rfl) ⟨rfl, trivial⟩ (fun _ => rfl) ?_
    rintro ⟨x26, c26⟩ g26
    dsimp only at g26 ⊢
    obtain ⟨ga, gb, gc⟩ := g26
    obtain ⟨e1, e2, ⟨mv, mm⟩, ac, e3⟩ := x26
    dsimp only at ga gb gc ⊢
    refine AN_p (x_alloc (z := .agg #[.int .i64 0, .int .i64 0, .slice none 0 0, .slice none 0 0, .slice none 0 0, .int .i64 0]) 102 rfl (by kernel_rfl) rfl rfl rfl rfl) ?_
    refine AN_p (x_store (n := 6) rfl rfl rfl rfl (by kernel_rfl) rfl rfl rfl) ?_
    refine AN_nil ?_
    refine AW_seq ?_
    refine AW_regionN ?_
    refine AN_p (x_field (off := 0) (o' := 0) rfl rfl rfl (by kernel_rfl) rfl) ?_
    refine AN_p (x_load1 rfl rfl rfl (by kernel_rfl) rfl) ?_
    refine AN_p (x_field (off := 3) (o' := 3) rfl rfl rfl (by kernel_rfl) rfl) ?_
    refine AN_p (x_store (n := 1) rfl rfl rfl rfl (by kernel_rfl) rfl rfl rfl) ?_
    refine AN_nil ?_
    refine AW_seq ?_
    refine AW_regionN ?_
    refine AN_p (x_field (off := 1) (o' := 1) rfl rfl rfl (by kernel_rfl) rfl) ?_
    refine AN_p (x_load1 rfl rfl rfl (by kernel_rfl) rfl) ?_
    refine AN_p (x_field (off := 4) (o' := 4) rfl rfl rfl (by kernel_rfl) rfl) ?_
    refine AN_p (x_store (n := 1) rfl rfl rfl rfl (by kernel_rfl) rfl rfl rfl) ?_
    refine AN_nil ?_
    refine AW_seq ?_
    refine AW_regionN ?_
    refine AN_p (x_field (off := 2) (o' := 2) rfl rfl rfl (by kernel_rfl) rfl) ?_
    refine AN_p (x_loadN (n := 2) rfl rfl rfl (by kernel_rfl) rfl rfl) ?_
    refine AN_p (x_field (off := 5) (o' := 5) rfl rfl rfl (by kernel_rfl) rfl) ?_
    refine AN_p (x_store (n := 2) rfl rfl rfl rfl (by kernel_rfl) rfl rfl rfl) ?_
    refine AN_nil ?_
    refine AW_regionN ?_
    refine AN_p (x_field (off := 4) (o' := 4) rfl rfl rfl (by kernel_rfl) rfl) ?_
    refine AN_p (x_load1 rfl rfl rfl (by kernel_rfl) rfl) ?_
    refine AN_p (x_field (off := 7) (o' := 7) rfl rfl rfl (by kernel_rfl) rfl) ?_
    refine AN_p (x_store (n := 1) rfl rfl rfl rfl (by kernel_rfl) rfl rfl rfl) ?_
    refine AN_nil ?_
    refine AW_seq ?_
    refine AW_seq ?_
    refine AW_regionN ?_
    refine AN_p (x_field (off := 0) (o' := 0) rfl rfl rfl (by kernel_rfl) rfl) ?_
    refine AN_p (x_load1 rfl rfl rfl (by kernel_rfl) rfl) ?_
    refine AN_b (x_eql rfl rfl rfl) (fun b41 h41 => ?_)
    refine AN_nil ?_
    cases b41
    · try simp only [tdy] at h41
      refine AW_condF rfl ?_
      refine AW_skip ?_
      refine AW_seq ?_
      refine AW_seq ?_
      refine AW_regionN ?_
      refine AN_p (x_field (off := 0) (o' := 0) rfl rfl rfl (by kernel_rfl) rfl) ?_
      refine AN_p (x_load1 rfl rfl rfl (by kernel_rfl) rfl) ?_
      refine AN_b (x_eql rfl rfl rfl) (fun b47 h47 => ?_)
      refine AN_nil ?_
      cases b47
      · try simp only [tdy] at h47
        refine AW_condF rfl ?_
        refine AW_skip ?_
        refine AW_seq ?_
        refine AW_regionN ?_
        refine AN_p (x_loadN (n := 10) rfl rfl rfl (by kernel_rfl) rfl rfl) ?_
        refine AN_p (x_store (n := 10) rfl rfl rfl rfl (by kernel_rfl) rfl rfl rfl) ?_
        refine AN_nil ?_
        refine AW_ret ?_
        refine ⟨⟨⟨_, _, _, _, _, ⟨_, _⟩, _, _, ⟨_⟩⟩, _⟩, ?_, rn [(9, 100)], by exact ⟨⟨⟨_, rfl, VLe.rf⟩, trivial⟩, ⟨⟨_, rfl, by first | exact BLe.rf | exact BLe.box (by repeat (first | exact trivial | refine ⟨by first | exact CLe.rf | exact CLe.nil, ?_⟩))⟩, ⟨_, rfl, BLe.rf⟩, trivial⟩, by repeat (first | exact trivial | refine ⟨⟨rfl, by first | (left; intro h; cases h) | (right; rfl), by first | exact (fun _ h => ⟨_, h⟩) | exact (fun _ _ => ⟨_, rfl⟩)⟩, ?_⟩), rfl⟩⟩
        refine ⟨⟨?_, ?_⟩, ⟨?_, fun _ _ => trivial⟩, ?_⟩
        all_goals (try unfold smallHead)
        all_goals (try dsimp only)
        all_goals first | omega | exact Nat.zero_le _ | (simp only [List.length_nil]; omega)
      try simp only [tdy] at h47
      refine AW_condT rfl ?_
      refine AW_seq ?_
      refine AW_regionN ?_
      refine AN_p (x_move rfl rfl) ?_
      have d49 := dBelow_lt b c26 (n := 2) (by decide)
      refine AN_p (x_call (ks := []) (L := [(200, some _)]) (L' := [(200, some _)]) rfl rfl rfl (below_c b c26 hb 2) rfl AllV.rf (caught_of rfl) rfl rfl rfl ⟨rfl, trivial⟩ rfl) ?_
      refine AN_b (x_eql rfl rfl rfl) (fun b50 h50 => ?_)
      refine AN_p (x_field (off := 8) (o' := 8) rfl rfl rfl (by kernel_rfl) rfl) ?_
      refine AN_p (x_store (n := 1) rfl rfl rfl rfl (by kernel_rfl) rfl rfl rfl) ?_
      refine AN_nil ?_
      refine AW_regionN ?_
      refine AN_p (x_move rfl rfl) ?_
      refine AN_x (L := [(200, some (curB b (dBelow b c26 2).2))]) rfl rfl rfl (head_x b (dBelow b c26 2).2 hb) rfl rfl (fun _ => rfl) (fun _ => rfl) ⟨rfl, trivial⟩ (fun _ => rfl) ?_
      rintro ⟨y53, c53⟩ g53
      dsimp only at g53 ⊢
      refine AN_p (x_field (off := 9) (o' := 9) rfl rfl rfl (by kernel_rfl) rfl) ?_
      refine AN_p (x_store (n := 1) rfl rfl rfl rfl (by kernel_rfl) rfl rfl rfl) ?_
      refine AN_nil ?_
      refine AW_seq ?_
      refine AW_regionN ?_
      refine AN_p (x_loadN (n := 10) rfl rfl rfl (by kernel_rfl) rfl rfl) ?_
      refine AN_p (x_store (n := 10) rfl rfl rfl rfl (by kernel_rfl) rfl rfl rfl) ?_
      refine AN_nil ?_
      refine AW_shutB 300 100 9 rfl rfl rfl rfl ?_
      refine AW_ret ?_
      refine ⟨⟨⟨_, _, _, _, _, ⟨_, _⟩, _, _, ⟨_⟩⟩, _⟩, ?_, rn [(9, 100)], by exact ⟨⟨⟨_, rfl, VLe.rf⟩, trivial⟩, ⟨⟨_, rfl, by first | exact BLe.rf | exact BLe.box (by repeat (first | exact trivial | refine ⟨by first | exact CLe.rf | exact CLe.nil, ?_⟩))⟩, ⟨_, rfl, BLe.rf⟩, trivial⟩, by repeat (first | exact trivial | refine ⟨⟨rfl, by first | (left; intro h; cases h) | (right; rfl), by first | exact (fun _ h => ⟨_, h⟩) | exact (fun _ _ => ⟨_, rfl⟩)⟩, ?_⟩), rfl⟩⟩
      refine ⟨⟨?_, ?_⟩, ⟨?_, fun _ _ => trivial⟩, ?_⟩
      all_goals (try unfold smallHead)
      all_goals (try dsimp only)
      all_goals first | omega | exact Nat.zero_le _ | (simp only [List.length_nil]; omega)
    try simp only [tdy] at h41
    refine AW_condT rfl ?_
    refine AW_regionN ?_
    refine AN_p (x_move rfl rfl) ?_
    have d43 := dBelow_lt b c26 (n := 5) (by decide)
    refine AN_p (x_call (ks := []) (L := [(200, some _)]) (L' := [(200, some _)]) rfl rfl rfl (below_c b c26 hb 5) rfl AllV.rf (caught_of rfl) rfl rfl rfl ⟨rfl, trivial⟩ rfl) ?_
    refine AN_p (x_field (off := 3) (o' := 3) rfl rfl rfl (by kernel_rfl) rfl) ?_
    refine AN_p (x_store (n := 1) rfl rfl rfl rfl (by kernel_rfl) rfl rfl rfl) ?_
    refine AN_nil ?_
    refine AW_seq ?_
    refine AW_seq ?_
    refine AW_regionN ?_
    refine AN_p (x_field (off := 0) (o' := 0) rfl rfl rfl (by kernel_rfl) rfl) ?_
    refine AN_p (x_load1 rfl rfl rfl (by kernel_rfl) rfl) ?_
    refine AN_b (x_eql rfl rfl rfl) (fun b47 h47 => ?_)
    refine AN_nil ?_
    cases b47
    · try simp only [tdy] at h47
      refine AW_condF rfl ?_
      refine AW_skip ?_
      refine AW_seq ?_
      refine AW_regionN ?_
      refine AN_p (x_loadN (n := 10) rfl rfl rfl (by kernel_rfl) rfl rfl) ?_
      refine AN_p (x_store (n := 10) rfl rfl rfl rfl (by kernel_rfl) rfl rfl rfl) ?_
      refine AN_nil ?_
      refine AW_ret ?_
      refine ⟨⟨⟨_, _, _, _, _, ⟨_, _⟩, _, _, ⟨_⟩⟩, _⟩, ?_, rn [(9, 100)], by exact ⟨⟨⟨_, rfl, VLe.rf⟩, trivial⟩, ⟨⟨_, rfl, by first | exact BLe.rf | exact BLe.box (by repeat (first | exact trivial | refine ⟨by first | exact CLe.rf | exact CLe.nil, ?_⟩))⟩, ⟨_, rfl, BLe.rf⟩, trivial⟩, by repeat (first | exact trivial | refine ⟨⟨rfl, by first | (left; intro h; cases h) | (right; rfl), by first | exact (fun _ h => ⟨_, h⟩) | exact (fun _ _ => ⟨_, rfl⟩)⟩, ?_⟩), rfl⟩⟩
      refine ⟨⟨?_, ?_⟩, ⟨?_, fun _ _ => trivial⟩, ?_⟩
      all_goals (try unfold smallHead)
      all_goals (try dsimp only)
      all_goals first | omega | exact Nat.zero_le _ | (simp only [List.length_nil]; omega)
    try simp only [tdy] at h47
    refine AW_condT rfl ?_
    refine AW_seq ?_
    refine AW_regionN ?_
    refine AN_p (x_move rfl rfl) ?_
    have d49 := dBelow_lt b (dBelow b c26 5).2 (n := 2) (by decide)
    refine AN_p (x_call (ks := []) (L := [(200, some _)]) (L' := [(200, some _)]) rfl rfl rfl (below_c b (dBelow b c26 5).2 hb 2) rfl AllV.rf (caught_of rfl) rfl rfl rfl ⟨rfl, trivial⟩ rfl) ?_
    refine AN_b (x_eql rfl rfl rfl) (fun b50 h50 => ?_)
    refine AN_p (x_field (off := 8) (o' := 8) rfl rfl rfl (by kernel_rfl) rfl) ?_
    refine AN_p (x_store (n := 1) rfl rfl rfl rfl (by kernel_rfl) rfl rfl rfl) ?_
    refine AN_nil ?_
    refine AW_regionN ?_
    refine AN_p (x_move rfl rfl) ?_
    refine AN_x (L := [(200, some (curB b (dBelow b (dBelow b c26 5).2 2).2))]) rfl rfl rfl (head_x b (dBelow b (dBelow b c26 5).2 2).2 hb) rfl rfl (fun _ => rfl) (fun _ => rfl) ⟨rfl, trivial⟩ (fun _ => rfl) ?_
    rintro ⟨y53, c53⟩ g53
    dsimp only at g53 ⊢
    refine AN_p (x_field (off := 9) (o' := 9) rfl rfl rfl (by kernel_rfl) rfl) ?_
    refine AN_p (x_store (n := 1) rfl rfl rfl rfl (by kernel_rfl) rfl rfl rfl) ?_
    refine AN_nil ?_
    refine AW_seq ?_
    refine AW_regionN ?_
    refine AN_p (x_loadN (n := 10) rfl rfl rfl (by kernel_rfl) rfl rfl) ?_
    refine AN_p (x_store (n := 10) rfl rfl rfl rfl (by kernel_rfl) rfl rfl rfl) ?_
    refine AN_nil ?_
    refine AW_shutB 300 100 9 rfl rfl rfl rfl ?_
    refine AW_ret ?_
    refine ⟨⟨⟨_, _, _, _, _, ⟨_, _⟩, _, _, ⟨_⟩⟩, _⟩, ?_, rn [(9, 100)], by exact ⟨⟨⟨_, rfl, VLe.rf⟩, trivial⟩, ⟨⟨_, rfl, by first | exact BLe.rf | exact BLe.box (by repeat (first | exact trivial | refine ⟨by first | exact CLe.rf | exact CLe.nil, ?_⟩))⟩, ⟨_, rfl, BLe.rf⟩, trivial⟩, by repeat (first | exact trivial | refine ⟨⟨rfl, by first | (left; intro h; cases h) | (right; rfl), by first | exact (fun _ h => ⟨_, h⟩) | exact (fun _ _ => ⟨_, rfl⟩)⟩, ?_⟩), rfl⟩⟩
    refine ⟨⟨?_, ?_⟩, ⟨?_, fun _ _ => trivial⟩, ?_⟩
    all_goals (try unfold smallHead)
    all_goals (try dsimp only)
    all_goals first | omega | exact Nat.zero_le _ | (simp only [List.length_nil]; omega)
  try simp only [tdy] at h15
  refine AW_condT rfl ?_
  refine AW_regionN ?_
  refine AN_p (x_field (off := 0) (o' := 0) rfl rfl rfl (by kernel_rfl) rfl) ?_
  refine AN_p (x_store (n := 1) rfl rfl rfl rfl (by kernel_rfl) rfl rfl rfl) ?_
  refine AN_nil ?_
  refine AW_seq ?_
  refine AW_seq ?_
  refine AW_regionN ?_
  refine AN_p (x_move rfl rfl) ?_
  have d18 := dBelow_lt b (dBelow b (dBelow b (dBelow b (dBelow b c 6).2 4).2 9).2 3).2 (n := 9) (by decide)
  refine AN_p (x_call (ks := []) (L := [(200, some _)]) (L' := [(200, some _)]) rfl rfl rfl (below_c b (dBelow b (dBelow b (dBelow b (dBelow b c 6).2 4).2 9).2 3).2 hb 9) rfl AllV.rf (caught_of rfl) rfl rfl rfl ⟨rfl, trivial⟩ rfl) ?_
  refine AN_b (x_eql rfl rfl rfl) (fun b19 h19 => ?_)
  refine AN_nil ?_
  cases b19
  · try simp only [tdy] at h19
    refine AW_condF rfl ?_
    refine AW_skip ?_
    refine AW_seq ?_
    refine AW_seq ?_
    refine AW_regionN ?_
    refine AN_p (x_field (off := 0) (o' := 0) rfl rfl rfl (by kernel_rfl) rfl) ?_
    refine AN_p (x_load1 rfl rfl rfl (by kernel_rfl) rfl) ?_
    refine AN_b (x_eql rfl rfl rfl) (fun b24 h24 => ?_)
    refine AN_nil ?_
    cases b24
    · try simp only [tdy] at h24
      refine AW_condF rfl ?_
      refine AW_skip ?_
      refine AW_seq ?_
      refine AW_seq ?_
      refine AW_regionN ?_
      refine AN_p (x_field (off := 0) (o' := 0) rfl rfl rfl (by kernel_rfl) rfl) ?_
      refine AN_p (x_load1 rfl rfl rfl (by kernel_rfl) rfl) ?_
      refine AN_b (x_eql rfl rfl rfl) (fun b41 h41 => ?_)
      refine AN_nil ?_
      cases b41
      · try simp only [tdy] at h41
        refine AW_condF rfl ?_
        refine AW_skip ?_
        refine AW_seq ?_
        refine AW_seq ?_
        refine AW_regionN ?_
        refine AN_p (x_field (off := 0) (o' := 0) rfl rfl rfl (by kernel_rfl) rfl) ?_
        refine AN_p (x_load1 rfl rfl rfl (by kernel_rfl) rfl) ?_
        refine AN_b (x_eql rfl rfl rfl) (fun b47 h47 => ?_)
        refine AN_nil ?_
        cases b47
        · try simp only [tdy] at h47
          refine AW_condF rfl ?_
          refine AW_skip ?_
          refine AW_seq ?_
          refine AW_regionN ?_
          refine AN_p (x_loadN (n := 10) rfl rfl rfl (by kernel_rfl) rfl rfl) ?_
          refine AN_p (x_store (n := 10) rfl rfl rfl rfl (by kernel_rfl) rfl rfl rfl) ?_
          refine AN_nil ?_
          refine AW_ret ?_
          refine ⟨⟨⟨_, _, _, _, _, ⟨_, _⟩, _, _, ⟨_⟩⟩, _⟩, ?_, rn [(9, 100)], by exact ⟨⟨⟨_, rfl, VLe.rf⟩, trivial⟩, ⟨⟨_, rfl, by first | exact BLe.rf | exact BLe.box (by repeat (first | exact trivial | refine ⟨by first | exact CLe.rf | exact CLe.nil, ?_⟩))⟩, ⟨_, rfl, BLe.rf⟩, trivial⟩, by repeat (first | exact trivial | refine ⟨⟨rfl, by first | (left; intro h; cases h) | (right; rfl), by first | exact (fun _ h => ⟨_, h⟩) | exact (fun _ _ => ⟨_, rfl⟩)⟩, ?_⟩), rfl⟩⟩
          refine ⟨⟨?_, ?_⟩, ⟨?_, fun _ _ => trivial⟩, ?_⟩
          all_goals (try unfold smallHead)
          all_goals (try dsimp only)
          all_goals first | omega | exact Nat.zero_le _ | (simp only [List.length_nil]; omega)
        try simp only [tdy] at h47
        refine AW_condT rfl ?_
        refine AW_seq ?_
        refine AW_regionN ?_
        refine AN_p (x_move rfl rfl) ?_
        have d49 := dBelow_lt b (dBelow b (dBelow b (dBelow b (dBelow b (dBelow b c 6).2 4).2 9).2 3).2 9).2 (n := 2) (by decide)
        refine AN_p (x_call (ks := []) (L := [(200, some _)]) (L' := [(200, some _)]) rfl rfl rfl (below_c b (dBelow b (dBelow b (dBelow b (dBelow b (dBelow b c 6).2 4).2 9).2 3).2 9).2 hb 2) rfl AllV.rf (caught_of rfl) rfl rfl rfl ⟨rfl, trivial⟩ rfl) ?_
        refine AN_b (x_eql rfl rfl rfl) (fun b50 h50 => ?_)
        refine AN_p (x_field (off := 8) (o' := 8) rfl rfl rfl (by kernel_rfl) rfl) ?_
        refine AN_p (x_store (n := 1) rfl rfl rfl rfl (by kernel_rfl) rfl rfl rfl) ?_
        refine AN_nil ?_
        refine AW_regionN ?_
        refine AN_p (x_move rfl rfl) ?_
        refine AN_x (L := [(200, some (curB b (dBelow b (dBelow b (dBelow b (dBelow b (dBelow b (dBelow b c 6).2 4).2 9).2 3).2 9).2 2).2))]) rfl rfl rfl (head_x b (dBelow b (dBelow b (dBelow b (dBelow b (dBelow b (dBelow b c 6).2 4).2 9).2 3).2 9).2 2).2 hb) rfl rfl (fun _ => rfl) (fun _ => rfl) ⟨rfl, trivial⟩ (fun _ => rfl) ?_
        rintro ⟨y53, c53⟩ g53
        dsimp only at g53 ⊢
        refine AN_p (x_field (off := 9) (o' := 9) rfl rfl rfl (by kernel_rfl) rfl) ?_
        refine AN_p (x_store (n := 1) rfl rfl rfl rfl (by kernel_rfl) rfl rfl rfl) ?_
        refine AN_nil ?_
        refine AW_seq ?_
        refine AW_regionN ?_
        refine AN_p (x_loadN (n := 10) rfl rfl rfl (by kernel_rfl) rfl rfl) ?_
        refine AN_p (x_store (n := 10) rfl rfl rfl rfl (by kernel_rfl) rfl rfl rfl) ?_
        refine AN_nil ?_
        refine AW_shutB 300 100 9 rfl rfl rfl rfl ?_
        refine AW_ret ?_
        refine ⟨⟨⟨_, _, _, _, _, ⟨_, _⟩, _, _, ⟨_⟩⟩, _⟩, ?_, rn [(9, 100)], by exact ⟨⟨⟨_, rfl, VLe.rf⟩, trivial⟩, ⟨⟨_, rfl, by first | exact BLe.rf | exact BLe.box (by repeat (first | exact trivial | refine ⟨by first | exact CLe.rf | exact CLe.nil, ?_⟩))⟩, ⟨_, rfl, BLe.rf⟩, trivial⟩, by repeat (first | exact trivial | refine ⟨⟨rfl, by first | (left; intro h; cases h) | (right; rfl), by first | exact (fun _ h => ⟨_, h⟩) | exact (fun _ _ => ⟨_, rfl⟩)⟩, ?_⟩), rfl⟩⟩
        refine ⟨⟨?_, ?_⟩, ⟨?_, fun _ _ => trivial⟩, ?_⟩
        all_goals (try unfold smallHead)
        all_goals (try dsimp only)
        all_goals first | omega | exact Nat.zero_le _ | (simp only [List.length_nil]; omega)
      try simp only [tdy] at h41
      refine AW_condT rfl ?_
      refine AW_regionN ?_
      refine AN_p (x_move rfl rfl) ?_
      have d43 := dBelow_lt b (dBelow b (dBelow b (dBelow b (dBelow b (dBelow b c 6).2 4).2 9).2 3).2 9).2 (n := 5) (by decide)
      refine AN_p (x_call (ks := []) (L := [(200, some _)]) (L' := [(200, some _)]) rfl rfl rfl (below_c b (dBelow b (dBelow b (dBelow b (dBelow b (dBelow b c 6).2 4).2 9).2 3).2 9).2 hb 5) rfl AllV.rf (caught_of rfl) rfl rfl rfl ⟨rfl, trivial⟩ rfl) ?_
      refine AN_p (x_field (off := 3) (o' := 3) rfl rfl rfl (by kernel_rfl) rfl) ?_
      refine AN_p (x_store (n := 1) rfl rfl rfl rfl (by kernel_rfl) rfl rfl rfl) ?_
      refine AN_nil ?_
      refine AW_seq ?_
      refine AW_seq ?_
      refine AW_regionN ?_
      refine AN_p (x_field (off := 0) (o' := 0) rfl rfl rfl (by kernel_rfl) rfl) ?_
      refine AN_p (x_load1 rfl rfl rfl (by kernel_rfl) rfl) ?_
      refine AN_b (x_eql rfl rfl rfl) (fun b47 h47 => ?_)
      refine AN_nil ?_
      cases b47
      · try simp only [tdy] at h47
        refine AW_condF rfl ?_
        refine AW_skip ?_
        refine AW_seq ?_
        refine AW_regionN ?_
        refine AN_p (x_loadN (n := 10) rfl rfl rfl (by kernel_rfl) rfl rfl) ?_
        refine AN_p (x_store (n := 10) rfl rfl rfl rfl (by kernel_rfl) rfl rfl rfl) ?_
        refine AN_nil ?_
        refine AW_ret ?_
        refine ⟨⟨⟨_, _, _, _, _, ⟨_, _⟩, _, _, ⟨_⟩⟩, _⟩, ?_, rn [(9, 100)], by exact ⟨⟨⟨_, rfl, VLe.rf⟩, trivial⟩, ⟨⟨_, rfl, by first | exact BLe.rf | exact BLe.box (by repeat (first | exact trivial | refine ⟨by first | exact CLe.rf | exact CLe.nil, ?_⟩))⟩, ⟨_, rfl, BLe.rf⟩, trivial⟩, by repeat (first | exact trivial | refine ⟨⟨rfl, by first | (left; intro h; cases h) | (right; rfl), by first | exact (fun _ h => ⟨_, h⟩) | exact (fun _ _ => ⟨_, rfl⟩)⟩, ?_⟩), rfl⟩⟩
        refine ⟨⟨?_, ?_⟩, ⟨?_, fun _ _ => trivial⟩, ?_⟩
        all_goals (try unfold smallHead)
        all_goals (try dsimp only)
        all_goals first | omega | exact Nat.zero_le _ | (simp only [List.length_nil]; omega)
      try simp only [tdy] at h47
      refine AW_condT rfl ?_
      refine AW_seq ?_
      refine AW_regionN ?_
      refine AN_p (x_move rfl rfl) ?_
      have d49 := dBelow_lt b (dBelow b (dBelow b (dBelow b (dBelow b (dBelow b (dBelow b c 6).2 4).2 9).2 3).2 9).2 5).2 (n := 2) (by decide)
      refine AN_p (x_call (ks := []) (L := [(200, some _)]) (L' := [(200, some _)]) rfl rfl rfl (below_c b (dBelow b (dBelow b (dBelow b (dBelow b (dBelow b (dBelow b c 6).2 4).2 9).2 3).2 9).2 5).2 hb 2) rfl AllV.rf (caught_of rfl) rfl rfl rfl ⟨rfl, trivial⟩ rfl) ?_
      refine AN_b (x_eql rfl rfl rfl) (fun b50 h50 => ?_)
      refine AN_p (x_field (off := 8) (o' := 8) rfl rfl rfl (by kernel_rfl) rfl) ?_
      refine AN_p (x_store (n := 1) rfl rfl rfl rfl (by kernel_rfl) rfl rfl rfl) ?_
      refine AN_nil ?_
      refine AW_regionN ?_
      refine AN_p (x_move rfl rfl) ?_
      refine AN_x (L := [(200, some (curB b (dBelow b (dBelow b (dBelow b (dBelow b (dBelow b (dBelow b (dBelow b c 6).2 4).2 9).2 3).2 9).2 5).2 2).2))]) rfl rfl rfl (head_x b (dBelow b (dBelow b (dBelow b (dBelow b (dBelow b (dBelow b (dBelow b c 6).2 4).2 9).2 3).2 9).2 5).2 2).2 hb) rfl rfl (fun _ => rfl) (fun _ => rfl) ⟨rfl, trivial⟩ (fun _ => rfl) ?_
      rintro ⟨y53, c53⟩ g53
      dsimp only at g53 ⊢
      refine AN_p (x_field (off := 9) (o' := 9) rfl rfl rfl (by kernel_rfl) rfl) ?_
      refine AN_p (x_store (n := 1) rfl rfl rfl rfl (by kernel_rfl) rfl rfl rfl) ?_
      refine AN_nil ?_
      refine AW_seq ?_
      refine AW_regionN ?_
      refine AN_p (x_loadN (n := 10) rfl rfl rfl (by kernel_rfl) rfl rfl) ?_
      refine AN_p (x_store (n := 10) rfl rfl rfl rfl (by kernel_rfl) rfl rfl rfl) ?_
      refine AN_nil ?_
      refine AW_shutB 300 100 9 rfl rfl rfl rfl ?_
      refine AW_ret ?_
      refine ⟨⟨⟨_, _, _, _, _, ⟨_, _⟩, _, _, ⟨_⟩⟩, _⟩, ?_, rn [(9, 100)], by exact ⟨⟨⟨_, rfl, VLe.rf⟩, trivial⟩, ⟨⟨_, rfl, by first | exact BLe.rf | exact BLe.box (by repeat (first | exact trivial | refine ⟨by first | exact CLe.rf | exact CLe.nil, ?_⟩))⟩, ⟨_, rfl, BLe.rf⟩, trivial⟩, by repeat (first | exact trivial | refine ⟨⟨rfl, by first | (left; intro h; cases h) | (right; rfl), by first | exact (fun _ h => ⟨_, h⟩) | exact (fun _ _ => ⟨_, rfl⟩)⟩, ?_⟩), rfl⟩⟩
      refine ⟨⟨?_, ?_⟩, ⟨?_, fun _ _ => trivial⟩, ?_⟩
      all_goals (try unfold smallHead)
      all_goals (try dsimp only)
      all_goals first | omega | exact Nat.zero_le _ | (simp only [List.length_nil]; omega)
    try simp only [tdy] at h24
    refine AW_condT rfl ?_
    refine AW_seq ?_
    refine AW_regionN ?_
    refine AN_p (x_move rfl rfl) ?_
    refine AN_x (L := [(200, some (curB b (dBelow b (dBelow b (dBelow b (dBelow b (dBelow b c 6).2 4).2 9).2 3).2 9).2))]) rfl rfl rfl (entry_x b (dBelow b (dBelow b (dBelow b (dBelow b (dBelow b c 6).2 4).2 9).2 3).2 9).2 hb) rfl rfl (fun _ => rfl) (fun _ => rfl) ⟨rfl, trivial⟩ (fun _ => rfl) ?_
    rintro ⟨x26, c26⟩ g26
    dsimp only at g26 ⊢
    obtain ⟨ga, gb, gc⟩ := g26
    obtain ⟨e1, e2, ⟨mv, mm⟩, ac, e3⟩ := x26
    dsimp only at ga gb gc ⊢
    refine AN_p (x_alloc (z := .agg #[.int .i64 0, .int .i64 0, .slice none 0 0, .slice none 0 0, .slice none 0 0, .int .i64 0]) 102 rfl (by kernel_rfl) rfl rfl rfl rfl) ?_
    refine AN_p (x_store (n := 6) rfl rfl rfl rfl (by kernel_rfl) rfl rfl rfl) ?_
    refine AN_nil ?_
    refine AW_seq ?_
    refine AW_regionN ?_
    refine AN_p (x_field (off := 0) (o' := 0) rfl rfl rfl (by kernel_rfl) rfl) ?_
    refine AN_p (x_load1 rfl rfl rfl (by kernel_rfl) rfl) ?_
    refine AN_p (x_field (off := 3) (o' := 3) rfl rfl rfl (by kernel_rfl) rfl) ?_
    refine AN_p (x_store (n := 1) rfl rfl rfl rfl (by kernel_rfl) rfl rfl rfl) ?_
    refine AN_nil ?_
    refine AW_seq ?_
    refine AW_regionN ?_
    refine AN_p (x_field (off := 1) (o' := 1) rfl rfl rfl (by kernel_rfl) rfl) ?_
    refine AN_p (x_load1 rfl rfl rfl (by kernel_rfl) rfl) ?_
    refine AN_p (x_field (off := 4) (o' := 4) rfl rfl rfl (by kernel_rfl) rfl) ?_
    refine AN_p (x_store (n := 1) rfl rfl rfl rfl (by kernel_rfl) rfl rfl rfl) ?_
    refine AN_nil ?_
    refine AW_seq ?_
    refine AW_regionN ?_
    refine AN_p (x_field (off := 2) (o' := 2) rfl rfl rfl (by kernel_rfl) rfl) ?_
    refine AN_p (x_loadN (n := 2) rfl rfl rfl (by kernel_rfl) rfl rfl) ?_
    refine AN_p (x_field (off := 5) (o' := 5) rfl rfl rfl (by kernel_rfl) rfl) ?_
    refine AN_p (x_store (n := 2) rfl rfl rfl rfl (by kernel_rfl) rfl rfl rfl) ?_
    refine AN_nil ?_
    refine AW_regionN ?_
    refine AN_p (x_field (off := 4) (o' := 4) rfl rfl rfl (by kernel_rfl) rfl) ?_
    refine AN_p (x_load1 rfl rfl rfl (by kernel_rfl) rfl) ?_
    refine AN_p (x_field (off := 7) (o' := 7) rfl rfl rfl (by kernel_rfl) rfl) ?_
    refine AN_p (x_store (n := 1) rfl rfl rfl rfl (by kernel_rfl) rfl rfl rfl) ?_
    refine AN_nil ?_
    refine AW_seq ?_
    refine AW_seq ?_
    refine AW_regionN ?_
    refine AN_p (x_field (off := 0) (o' := 0) rfl rfl rfl (by kernel_rfl) rfl) ?_
    refine AN_p (x_load1 rfl rfl rfl (by kernel_rfl) rfl) ?_
    refine AN_b (x_eql rfl rfl rfl) (fun b41 h41 => ?_)
    refine AN_nil ?_
    cases b41
    · try simp only [tdy] at h41
      refine AW_condF rfl ?_
      refine AW_skip ?_
      refine AW_seq ?_
      refine AW_seq ?_
      refine AW_regionN ?_
      refine AN_p (x_field (off := 0) (o' := 0) rfl rfl rfl (by kernel_rfl) rfl) ?_
      refine AN_p (x_load1 rfl rfl rfl (by kernel_rfl) rfl) ?_
      refine AN_b (x_eql rfl rfl rfl) (fun b47 h47 => ?_)
      refine AN_nil ?_
      cases b47
      · try simp only [tdy] at h47
        refine AW_condF rfl ?_
        refine AW_skip ?_
        refine AW_seq ?_
        refine AW_regionN ?_
        refine AN_p (x_loadN (n := 10) rfl rfl rfl (by kernel_rfl) rfl rfl) ?_
        refine AN_p (x_store (n := 10) rfl rfl rfl rfl (by kernel_rfl) rfl rfl rfl) ?_
        refine AN_nil ?_
        refine AW_ret ?_
        refine ⟨⟨⟨_, _, _, _, _, ⟨_, _⟩, _, _, ⟨_⟩⟩, _⟩, ?_, rn [(9, 100)], by exact ⟨⟨⟨_, rfl, VLe.rf⟩, trivial⟩, ⟨⟨_, rfl, by first | exact BLe.rf | exact BLe.box (by repeat (first | exact trivial | refine ⟨by first | exact CLe.rf | exact CLe.nil, ?_⟩))⟩, ⟨_, rfl, BLe.rf⟩, trivial⟩, by repeat (first | exact trivial | refine ⟨⟨rfl, by first | (left; intro h; cases h) | (right; rfl), by first | exact (fun _ h => ⟨_, h⟩) | exact (fun _ _ => ⟨_, rfl⟩)⟩, ?_⟩), rfl⟩⟩
        refine ⟨⟨?_, ?_⟩, ⟨?_, fun _ _ => trivial⟩, ?_⟩
        all_goals (try unfold smallHead)
        all_goals (try dsimp only)
        all_goals first | omega | exact Nat.zero_le _ | (simp only [List.length_nil]; omega)
      try simp only [tdy] at h47
      refine AW_condT rfl ?_
      refine AW_seq ?_
      refine AW_regionN ?_
      refine AN_p (x_move rfl rfl) ?_
      have d49 := dBelow_lt b c26 (n := 2) (by decide)
      refine AN_p (x_call (ks := []) (L := [(200, some _)]) (L' := [(200, some _)]) rfl rfl rfl (below_c b c26 hb 2) rfl AllV.rf (caught_of rfl) rfl rfl rfl ⟨rfl, trivial⟩ rfl) ?_
      refine AN_b (x_eql rfl rfl rfl) (fun b50 h50 => ?_)
      refine AN_p (x_field (off := 8) (o' := 8) rfl rfl rfl (by kernel_rfl) rfl) ?_
      refine AN_p (x_store (n := 1) rfl rfl rfl rfl (by kernel_rfl) rfl rfl rfl) ?_
      refine AN_nil ?_
      refine AW_regionN ?_
      refine AN_p (x_move rfl rfl) ?_
      refine AN_x (L := [(200, some (curB b (dBelow b c26 2).2))]) rfl rfl rfl (head_x b (dBelow b c26 2).2 hb) rfl rfl (fun _ => rfl) (fun _ => rfl) ⟨rfl, trivial⟩ (fun _ => rfl) ?_
      rintro ⟨y53, c53⟩ g53
      dsimp only at g53 ⊢
      refine AN_p (x_field (off := 9) (o' := 9) rfl rfl rfl (by kernel_rfl) rfl) ?_
      refine AN_p (x_store (n := 1) rfl rfl rfl rfl (by kernel_rfl) rfl rfl rfl) ?_
      refine AN_nil ?_
      refine AW_seq ?_
      refine AW_regionN ?_
      refine AN_p (x_loadN (n := 10) rfl rfl rfl (by kernel_rfl) rfl rfl) ?_
      refine AN_p (x_store (n := 10) rfl rfl rfl rfl (by kernel_rfl) rfl rfl rfl) ?_
      refine AN_nil ?_
      refine AW_shutB 300 100 9 rfl rfl rfl rfl ?_
      refine AW_ret ?_
      refine ⟨⟨⟨_, _, _, _, _, ⟨_, _⟩, _, _, ⟨_⟩⟩, _⟩, ?_, rn [(9, 100)], by exact ⟨⟨⟨_, rfl, VLe.rf⟩, trivial⟩, ⟨⟨_, rfl, by first | exact BLe.rf | exact BLe.box (by repeat (first | exact trivial | refine ⟨by first | exact CLe.rf | exact CLe.nil, ?_⟩))⟩, ⟨_, rfl, BLe.rf⟩, trivial⟩, by repeat (first | exact trivial | refine ⟨⟨rfl, by first | (left; intro h; cases h) | (right; rfl), by first | exact (fun _ h => ⟨_, h⟩) | exact (fun _ _ => ⟨_, rfl⟩)⟩, ?_⟩), rfl⟩⟩
      refine ⟨⟨?_, ?_⟩, ⟨?_, fun _ _ => trivial⟩, ?_⟩
      all_goals (try unfold smallHead)
      all_goals (try dsimp only)
      all_goals first | omega | exact Nat.zero_le _ | (simp only [List.length_nil]; omega)
    try simp only [tdy] at h41
    refine AW_condT rfl ?_
    refine AW_regionN ?_
    refine AN_p (x_move rfl rfl) ?_
    have d43 := dBelow_lt b c26 (n := 5) (by decide)
    refine AN_p (x_call (ks := []) (L := [(200, some _)]) (L' := [(200, some _)]) rfl rfl rfl (below_c b c26 hb 5) rfl AllV.rf (caught_of rfl) rfl rfl rfl ⟨rfl, trivial⟩ rfl) ?_
    refine AN_p (x_field (off := 3) (o' := 3) rfl rfl rfl (by kernel_rfl) rfl) ?_
    refine AN_p (x_store (n := 1) rfl rfl rfl rfl (by kernel_rfl) rfl rfl rfl) ?_
    refine AN_nil ?_
    refine AW_seq ?_
    refine AW_seq ?_
    refine AW_regionN ?_
    refine AN_p (x_field (off := 0) (o' := 0) rfl rfl rfl (by kernel_rfl) rfl) ?_
    refine AN_p (x_load1 rfl rfl rfl (by kernel_rfl) rfl) ?_
    refine AN_b (x_eql rfl rfl rfl) (fun b47 h47 => ?_)
    refine AN_nil ?_
    cases b47
    · try simp only [tdy] at h47
      refine AW_condF rfl ?_
      refine AW_skip ?_
      refine AW_seq ?_
      refine AW_regionN ?_
      refine AN_p (x_loadN (n := 10) rfl rfl rfl (by kernel_rfl) rfl rfl) ?_
      refine AN_p (x_store (n := 10) rfl rfl rfl rfl (by kernel_rfl) rfl rfl rfl) ?_
      refine AN_nil ?_
      refine AW_ret ?_
      refine ⟨⟨⟨_, _, _, _, _, ⟨_, _⟩, _, _, ⟨_⟩⟩, _⟩, ?_, rn [(9, 100)], by exact ⟨⟨⟨_, rfl, VLe.rf⟩, trivial⟩, ⟨⟨_, rfl, by first | exact BLe.rf | exact BLe.box (by repeat (first | exact trivial | refine ⟨by first | exact CLe.rf | exact CLe.nil, ?_⟩))⟩, ⟨_, rfl, BLe.rf⟩, trivial⟩, by repeat (first | exact trivial | refine ⟨⟨rfl, by first | (left; intro h; cases h) | (right; rfl), by first | exact (fun _ h => ⟨_, h⟩) | exact (fun _ _ => ⟨_, rfl⟩)⟩, ?_⟩), rfl⟩⟩
      refine ⟨⟨?_, ?_⟩, ⟨?_, fun _ _ => trivial⟩, ?_⟩
      all_goals (try unfold smallHead)
      all_goals (try dsimp only)
      all_goals first | omega | exact Nat.zero_le _ | (simp only [List.length_nil]; omega)
    try simp only [tdy] at h47
    refine AW_condT rfl ?_
    refine AW_seq ?_
    refine AW_regionN ?_
    refine AN_p (x_move rfl rfl) ?_
    have d49 := dBelow_lt b (dBelow b c26 5).2 (n := 2) (by decide)
    refine AN_p (x_call (ks := []) (L := [(200, some _)]) (L' := [(200, some _)]) rfl rfl rfl (below_c b (dBelow b c26 5).2 hb 2) rfl AllV.rf (caught_of rfl) rfl rfl rfl ⟨rfl, trivial⟩ rfl) ?_
    refine AN_b (x_eql rfl rfl rfl) (fun b50 h50 => ?_)
    refine AN_p (x_field (off := 8) (o' := 8) rfl rfl rfl (by kernel_rfl) rfl) ?_
    refine AN_p (x_store (n := 1) rfl rfl rfl rfl (by kernel_rfl) rfl rfl rfl) ?_
    refine AN_nil ?_
    refine AW_regionN ?_
    refine AN_p (x_move rfl rfl) ?_
    refine AN_x (L := [(200, some (curB b (dBelow b (dBelow b c26 5).2 2).2))]) rfl rfl rfl (head_x b (dBelow b (dBelow b c26 5).2 2).2 hb) rfl rfl (fun _ => rfl) (fun _ => rfl) ⟨rfl, trivial⟩ (fun _ => rfl) ?_
    rintro ⟨y53, c53⟩ g53
    dsimp only at g53 ⊢
    refine AN_p (x_field (off := 9) (o' := 9) rfl rfl rfl (by kernel_rfl) rfl) ?_
    refine AN_p (x_store (n := 1) rfl rfl rfl rfl (by kernel_rfl) rfl rfl rfl) ?_
    refine AN_nil ?_
    refine AW_seq ?_
    refine AW_regionN ?_
    refine AN_p (x_loadN (n := 10) rfl rfl rfl (by kernel_rfl) rfl rfl) ?_
    refine AN_p (x_store (n := 10) rfl rfl rfl rfl (by kernel_rfl) rfl rfl rfl) ?_
    refine AN_nil ?_
    refine AW_shutB 300 100 9 rfl rfl rfl rfl ?_
    refine AW_ret ?_
    refine ⟨⟨⟨_, _, _, _, _, ⟨_, _⟩, _, _, ⟨_⟩⟩, _⟩, ?_, rn [(9, 100)], by exact ⟨⟨⟨_, rfl, VLe.rf⟩, trivial⟩, ⟨⟨_, rfl, by first | exact BLe.rf | exact BLe.box (by repeat (first | exact trivial | refine ⟨by first | exact CLe.rf | exact CLe.nil, ?_⟩))⟩, ⟨_, rfl, BLe.rf⟩, trivial⟩, by repeat (first | exact trivial | refine ⟨⟨rfl, by first | (left; intro h; cases h) | (right; rfl), by first | exact (fun _ h => ⟨_, h⟩) | exact (fun _ _ => ⟨_, rfl⟩)⟩, ?_⟩), rfl⟩⟩
    refine ⟨⟨?_, ?_⟩, ⟨?_, fun _ _ => trivial⟩, ?_⟩
    all_goals (try unfold smallHead)
    all_goals (try dsimp only)
    all_goals first | omega | exact Nat.zero_le _ | (simp only [List.length_nil]; omega)
  try simp only [tdy] at h19
  refine AW_condT rfl ?_
  refine AW_seq ?_
  refine AW_regionN ?_
  refine AN_p (x_field (off := 1) (o' := 1) rfl rfl rfl (by kernel_rfl) rfl) ?_
  refine AN_p (x_store (n := 1) rfl rfl rfl rfl (by kernel_rfl) rfl rfl rfl) ?_
  refine AN_nil ?_
  refine AW_regionN ?_
  refine AN_p (x_field (off := 2) (o' := 2) rfl rfl rfl (by kernel_rfl) rfl) ?_
  refine AN_p (x_store (n := 1) rfl rfl rfl rfl (by kernel_rfl) rfl rfl rfl) ?_
  refine AN_nil ?_
  refine AW_seq ?_
  refine AW_seq ?_
  refine AW_regionN ?_
  refine AN_p (x_field (off := 0) (o' := 0) rfl rfl rfl (by kernel_rfl) rfl) ?_
  refine AN_p (x_load1 rfl rfl rfl (by kernel_rfl) rfl) ?_
  refine AN_b (x_eql rfl rfl rfl) (fun b24 h24 => ?_)
  refine AN_nil ?_
  cases b24
  · try simp only [tdy] at h24
    refine AW_condF rfl ?_
    refine AW_skip ?_
    refine AW_seq ?_
    refine AW_seq ?_
    refine AW_regionN ?_
    refine AN_p (x_field (off := 0) (o' := 0) rfl rfl rfl (by kernel_rfl) rfl) ?_
    refine AN_p (x_load1 rfl rfl rfl (by kernel_rfl) rfl) ?_
    refine AN_b (x_eql rfl rfl rfl) (fun b41 h41 => ?_)
    refine AN_nil ?_
    cases b41
    · try simp only [tdy] at h41
      refine AW_condF rfl ?_
      refine AW_skip ?_
      refine AW_seq ?_
      refine AW_seq ?_
      refine AW_regionN ?_
      refine AN_p (x_field (off := 0) (o' := 0) rfl rfl rfl (by kernel_rfl) rfl) ?_
      refine AN_p (x_load1 rfl rfl rfl (by kernel_rfl) rfl) ?_
      refine AN_b (x_eql rfl rfl rfl) (fun b47 h47 => ?_)
      refine AN_nil ?_
      cases b47
      · try simp only [tdy] at h47
        refine AW_condF rfl ?_
        refine AW_skip ?_
        refine AW_seq ?_
        refine AW_regionN ?_
        refine AN_p (x_loadN (n := 10) rfl rfl rfl (by kernel_rfl) rfl rfl) ?_
        refine AN_p (x_store (n := 10) rfl rfl rfl rfl (by kernel_rfl) rfl rfl rfl) ?_
        refine AN_nil ?_
        refine AW_ret ?_
        refine ⟨⟨⟨_, _, _, _, _, ⟨_, _⟩, _, _, ⟨_⟩⟩, _⟩, ?_, rn [(9, 100)], by exact ⟨⟨⟨_, rfl, VLe.rf⟩, trivial⟩, ⟨⟨_, rfl, by first | exact BLe.rf | exact BLe.box (by repeat (first | exact trivial | refine ⟨by first | exact CLe.rf | exact CLe.nil, ?_⟩))⟩, ⟨_, rfl, BLe.rf⟩, trivial⟩, by repeat (first | exact trivial | refine ⟨⟨rfl, by first | (left; intro h; cases h) | (right; rfl), by first | exact (fun _ h => ⟨_, h⟩) | exact (fun _ _ => ⟨_, rfl⟩)⟩, ?_⟩), rfl⟩⟩
        refine ⟨⟨?_, ?_⟩, ⟨?_, fun _ _ => trivial⟩, ?_⟩
        all_goals (try unfold smallHead)
        all_goals (try dsimp only)
        all_goals first | omega | exact Nat.zero_le _ | (simp only [List.length_nil]; omega)
      try simp only [tdy] at h47
      refine AW_condT rfl ?_
      refine AW_seq ?_
      refine AW_regionN ?_
      refine AN_p (x_move rfl rfl) ?_
      have d49 := dBelow_lt b (dBelow b (dBelow b (dBelow b (dBelow b (dBelow b c 6).2 4).2 9).2 3).2 9).2 (n := 2) (by decide)
      refine AN_p (x_call (ks := []) (L := [(200, some _)]) (L' := [(200, some _)]) rfl rfl rfl (below_c b (dBelow b (dBelow b (dBelow b (dBelow b (dBelow b c 6).2 4).2 9).2 3).2 9).2 hb 2) rfl AllV.rf (caught_of rfl) rfl rfl rfl ⟨rfl, trivial⟩ rfl) ?_
      refine AN_b (x_eql rfl rfl rfl) (fun b50 h50 => ?_)
      refine AN_p (x_field (off := 8) (o' := 8) rfl rfl rfl (by kernel_rfl) rfl) ?_
      refine AN_p (x_store (n := 1) rfl rfl rfl rfl (by kernel_rfl) rfl rfl rfl) ?_
      refine AN_nil ?_
      refine AW_regionN ?_
      refine AN_p (x_move rfl rfl) ?_
      refine AN_x (L := [(200, some (curB b (dBelow b (dBelow b (dBelow b (dBelow b (dBelow b (dBelow b c 6).2 4).2 9).2 3).2 9).2 2).2))]) rfl rfl rfl (head_x b (dBelow b (dBelow b (dBelow b (dBelow b (dBelow b (dBelow b c 6).2 4).2 9).2 3).2 9).2 2).2 hb) rfl rfl (fun _ => rfl) (fun _ => rfl) ⟨rfl, trivial⟩ (fun _ => rfl) ?_
      rintro ⟨y53, c53⟩ g53
      dsimp only at g53 ⊢
      refine AN_p (x_field (off := 9) (o' := 9) rfl rfl rfl (by kernel_rfl) rfl) ?_
      refine AN_p (x_store (n := 1) rfl rfl rfl rfl (by kernel_rfl) rfl rfl rfl) ?_
      refine AN_nil ?_
      refine AW_seq ?_
      refine AW_regionN ?_
      refine AN_p (x_loadN (n := 10) rfl rfl rfl (by kernel_rfl) rfl rfl) ?_
      refine AN_p (x_store (n := 10) rfl rfl rfl rfl (by kernel_rfl) rfl rfl rfl) ?_
      refine AN_nil ?_
      refine AW_shutB 300 100 9 rfl rfl rfl rfl ?_
      refine AW_ret ?_
      refine ⟨⟨⟨_, _, _, _, _, ⟨_, _⟩, _, _, ⟨_⟩⟩, _⟩, ?_, rn [(9, 100)], by exact ⟨⟨⟨_, rfl, VLe.rf⟩, trivial⟩, ⟨⟨_, rfl, by first | exact BLe.rf | exact BLe.box (by repeat (first | exact trivial | refine ⟨by first | exact CLe.rf | exact CLe.nil, ?_⟩))⟩, ⟨_, rfl, BLe.rf⟩, trivial⟩, by repeat (first | exact trivial | refine ⟨⟨rfl, by first | (left; intro h; cases h) | (right; rfl), by first | exact (fun _ h => ⟨_, h⟩) | exact (fun _ _ => ⟨_, rfl⟩)⟩, ?_⟩), rfl⟩⟩
      refine ⟨⟨?_, ?_⟩, ⟨?_, fun _ _ => trivial⟩, ?_⟩
      all_goals (try unfold smallHead)
      all_goals (try dsimp only)
      all_goals first | omega | exact Nat.zero_le _ | (simp only [List.length_nil]; omega)
    try simp only [tdy] at h41
    refine AW_condT rfl ?_
    refine AW_regionN ?_
    refine AN_p (x_move rfl rfl) ?_
    have d43 := dBelow_lt b (dBelow b (dBelow b (dBelow b (dBelow b (dBelow b c 6).2 4).2 9).2 3).2 9).2 (n := 5) (by decide)
    refine AN_p (x_call (ks := []) (L := [(200, some _)]) (L' := [(200, some _)]) rfl rfl rfl (below_c b (dBelow b (dBelow b (dBelow b (dBelow b (dBelow b c 6).2 4).2 9).2 3).2 9).2 hb 5) rfl AllV.rf (caught_of rfl) rfl rfl rfl ⟨rfl, trivial⟩ rfl) ?_
    refine AN_p (x_field (off := 3) (o' := 3) rfl rfl rfl (by kernel_rfl) rfl) ?_
    refine AN_p (x_store (n := 1) rfl rfl rfl rfl (by kernel_rfl) rfl rfl rfl) ?_
    refine AN_nil ?_
    refine AW_seq ?_
    refine AW_seq ?_
    refine AW_regionN ?_
    refine AN_p (x_field (off := 0) (o' := 0) rfl rfl rfl (by kernel_rfl) rfl) ?_
    refine AN_p (x_load1 rfl rfl rfl (by kernel_rfl) rfl) ?_
    refine AN_b (x_eql rfl rfl rfl) (fun b47 h47 => ?_)
    refine AN_nil ?_
    cases b47
    · try simp only [tdy] at h47
      refine AW_condF rfl ?_
      refine AW_skip ?_
      refine AW_seq ?_
      refine AW_regionN ?_
      refine AN_p (x_loadN (n := 10) rfl rfl rfl (by kernel_rfl) rfl rfl) ?_
      refine AN_p (x_store (n := 10) rfl rfl rfl rfl (by kernel_rfl) rfl rfl rfl) ?_
      refine AN_nil ?_
      refine AW_ret ?_
      refine ⟨⟨⟨_, _, _, _, _, ⟨_, _⟩, _, _, ⟨_⟩⟩, _⟩, ?_, rn [(9, 100)], by exact ⟨⟨⟨_, rfl, VLe.rf⟩, trivial⟩, ⟨⟨_, rfl, by first | exact BLe.rf | exact BLe.box (by repeat (first | exact trivial | refine ⟨by first | exact CLe.rf | exact CLe.nil, ?_⟩))⟩, ⟨_, rfl, BLe.rf⟩, trivial⟩, by repeat (first | exact trivial | refine ⟨⟨rfl, by first | (left; intro h; cases h) | (right; rfl), by first | exact (fun _ h => ⟨_, h⟩) | exact (fun _ _ => ⟨_, rfl⟩)⟩, ?_⟩), rfl⟩⟩
      refine ⟨⟨?_, ?_⟩, ⟨?_, fun _ _ => trivial⟩, ?_⟩
      all_goals (try unfold smallHead)
      all_goals (try dsimp only)
      all_goals first | omega | exact Nat.zero_le _ | (simp only [List.length_nil]; omega)
    try simp only [tdy] at h47
    refine AW_condT rfl ?_
    refine AW_seq ?_
    refine AW_regionN ?_
    refine AN_p (x_move rfl rfl) ?_
    have d49 := dBelow_lt b (dBelow b (dBelow b (dBelow b (dBelow b (dBelow b (dBelow b c 6).2 4).2 9).2 3).2 9).2 5).2 (n := 2) (by decide)
    refine AN_p (x_call (ks := []) (L := [(200, some _)]) (L' := [(200, some _)]) rfl rfl rfl (below_c b (dBelow b (dBelow b (dBelow b (dBelow b (dBelow b (dBelow b c 6).2 4).2 9).2 3).2 9).2 5).2 hb 2) rfl AllV.rf (caught_of rfl) rfl rfl rfl ⟨rfl, trivial⟩ rfl) ?_
    refine AN_b (x_eql rfl rfl rfl) (fun b50 h50 => ?_)
    refine AN_p (x_field (off := 8) (o' := 8) rfl rfl rfl (by kernel_rfl) rfl) ?_
    refine AN_p (x_store (n := 1) rfl rfl rfl rfl (by kernel_rfl) rfl rfl rfl) ?_
    refine AN_nil ?_
    refine AW_regionN ?_
    refine AN_p (x_move rfl rfl) ?_
    refine AN_x (L := [(200, some (curB b (dBelow b (dBelow b (dBelow b (dBelow b (dBelow b (dBelow b (dBelow b c 6).2 4).2 9).2 3).2 9).2 5).2 2).2))]) rfl rfl rfl (head_x b (dBelow b (dBelow b (dBelow b (dBelow b (dBelow b (dBelow b (dBelow b c 6).2 4).2 9).2 3).2 9).2 5).2 2).2 hb) rfl rfl (fun _ => rfl) (fun _ => rfl) ⟨rfl, trivial⟩ (fun _ => rfl) ?_
    rintro ⟨y53, c53⟩ g53
    dsimp only at g53 ⊢
    refine AN_p (x_field (off := 9) (o' := 9) rfl rfl rfl (by kernel_rfl) rfl) ?_
    refine AN_p (x_store (n := 1) rfl rfl rfl rfl (by kernel_rfl) rfl rfl rfl) ?_
    refine AN_nil ?_
    refine AW_seq ?_
    refine AW_regionN ?_
    refine AN_p (x_loadN (n := 10) rfl rfl rfl (by kernel_rfl) rfl rfl) ?_
    refine AN_p (x_store (n := 10) rfl rfl rfl rfl (by kernel_rfl) rfl rfl rfl) ?_
    refine AN_nil ?_
    refine AW_shutB 300 100 9 rfl rfl rfl rfl ?_
    refine AW_ret ?_
    refine ⟨⟨⟨_, _, _, _, _, ⟨_, _⟩, _, _, ⟨_⟩⟩, _⟩, ?_, rn [(9, 100)], by exact ⟨⟨⟨_, rfl, VLe.rf⟩, trivial⟩, ⟨⟨_, rfl, by first | exact BLe.rf | exact BLe.box (by repeat (first | exact trivial | refine ⟨by first | exact CLe.rf | exact CLe.nil, ?_⟩))⟩, ⟨_, rfl, BLe.rf⟩, trivial⟩, by repeat (first | exact trivial | refine ⟨⟨rfl, by first | (left; intro h; cases h) | (right; rfl), by first | exact (fun _ h => ⟨_, h⟩) | exact (fun _ _ => ⟨_, rfl⟩)⟩, ?_⟩), rfl⟩⟩
    refine ⟨⟨?_, ?_⟩, ⟨?_, fun _ _ => trivial⟩, ?_⟩
    all_goals (try unfold smallHead)
    all_goals (try dsimp only)
    all_goals first | omega | exact Nat.zero_le _ | (simp only [List.length_nil]; omega)
  try simp only [tdy] at h24
  refine AW_condT rfl ?_
  refine AW_seq ?_
  refine AW_regionN ?_
  refine AN_p (x_move rfl rfl) ?_
  refine AN_x (L := [(200, some (curB b (dBelow b (dBelow b (dBelow b (dBelow b (dBelow b c 6).2 4).2 9).2 3).2 9).2))]) rfl rfl rfl (entry_x b (dBelow b (dBelow b (dBelow b (dBelow b (dBelow b c 6).2 4).2 9).2 3).2 9).2 hb) rfl rfl (fun _ => rfl) (fun _ => rfl) ⟨rfl, trivial⟩ (fun _ => rfl) ?_
  rintro ⟨x26, c26⟩ g26
  dsimp only at g26 ⊢
  obtain ⟨ga, gb, gc⟩ := g26
  obtain ⟨e1, e2, ⟨mv, mm⟩, ac, e3⟩ := x26
  dsimp only at ga gb gc ⊢
  refine AN_p (x_alloc (z := .agg #[.int .i64 0, .int .i64 0, .slice none 0 0, .slice none 0 0, .slice none 0 0, .int .i64 0]) 102 rfl (by kernel_rfl) rfl rfl rfl rfl) ?_
  refine AN_p (x_store (n := 6) rfl rfl rfl rfl (by kernel_rfl) rfl rfl rfl) ?_
  refine AN_nil ?_
  refine AW_seq ?_
  refine AW_regionN ?_
  refine AN_p (x_field (off := 0) (o' := 0) rfl rfl rfl (by kernel_rfl) rfl) ?_
  refine AN_p (x_load1 rfl rfl rfl (by kernel_rfl) rfl) ?_
  refine AN_p (x_field (off := 3) (o' := 3) rfl rfl rfl (by kernel_rfl) rfl) ?_
  refine AN_p (x_store (n := 1) rfl rfl rfl rfl (by kernel_rfl) rfl rfl rfl) ?_
  refine AN_nil ?_
  refine AW_seq ?_
  refine AW_regionN ?_
  refine AN_p (x_field (off := 1) (o' := 1) rfl rfl rfl (by kernel_rfl) rfl) ?_
  refine AN_p (x_load1 rfl rfl rfl (by kernel_rfl) rfl) ?_
  refine AN_p (x_field (off := 4) (o' := 4) rfl rfl rfl (by kernel_rfl) rfl) ?_
  refine AN_p (x_store (n := 1) rfl rfl rfl rfl (by kernel_rfl) rfl rfl rfl) ?_
  refine AN_nil ?_
  refine AW_seq ?_
  refine AW_regionN ?_
  refine AN_p (x_field (off := 2) (o' := 2) rfl rfl rfl (by kernel_rfl) rfl) ?_
  refine AN_p (x_loadN (n := 2) rfl rfl rfl (by kernel_rfl) rfl rfl) ?_
  refine AN_p (x_field (off := 5) (o' := 5) rfl rfl rfl (by kernel_rfl) rfl) ?_
  refine AN_p (x_store (n := 2) rfl rfl rfl rfl (by kernel_rfl) rfl rfl rfl) ?_
  refine AN_nil ?_
  refine AW_regionN ?_
  refine AN_p (x_field (off := 4) (o' := 4) rfl rfl rfl (by kernel_rfl) rfl) ?_
  refine AN_p (x_load1 rfl rfl rfl (by kernel_rfl) rfl) ?_
  refine AN_p (x_field (off := 7) (o' := 7) rfl rfl rfl (by kernel_rfl) rfl) ?_
  refine AN_p (x_store (n := 1) rfl rfl rfl rfl (by kernel_rfl) rfl rfl rfl) ?_
  refine AN_nil ?_
  refine AW_seq ?_
  refine AW_seq ?_
  refine AW_regionN ?_
  refine AN_p (x_field (off := 0) (o' := 0) rfl rfl rfl (by kernel_rfl) rfl) ?_
  refine AN_p (x_load1 rfl rfl rfl (by kernel_rfl) rfl) ?_
  refine AN_b (x_eql rfl rfl rfl) (fun b41 h41 => ?_)
  refine AN_nil ?_
  cases b41
  · try simp only [tdy] at h41
    refine AW_condF rfl ?_
    refine AW_skip ?_
    refine AW_seq ?_
    refine AW_seq ?_
    refine AW_regionN ?_
    refine AN_p (x_field (off := 0) (o' := 0) rfl rfl rfl (by kernel_rfl) rfl) ?_
    refine AN_p (x_load1 rfl rfl rfl (by kernel_rfl) rfl) ?_
    refine AN_b (x_eql rfl rfl rfl) (fun b47 h47 => ?_)
    refine AN_nil ?_
    cases b47
    · try simp only [tdy] at h47
      refine AW_condF rfl ?_
      refine AW_skip ?_
      refine AW_seq ?_
      refine AW_regionN ?_
      refine AN_p (x_loadN (n := 10) rfl rfl rfl (by kernel_rfl) rfl rfl) ?_
      refine AN_p (x_store (n := 10) rfl rfl rfl rfl (by kernel_rfl) rfl rfl rfl) ?_
      refine AN_nil ?_
      refine AW_ret ?_
      refine ⟨⟨⟨_, _, _, _, _, ⟨_, _⟩, _, _, ⟨_⟩⟩, _⟩, ?_, rn [(9, 100)], by exact ⟨⟨⟨_, rfl, VLe.rf⟩, trivial⟩, ⟨⟨_, rfl, by first | exact BLe.rf | exact BLe.box (by repeat (first | exact trivial | refine ⟨by first | exact CLe.rf | exact CLe.nil, ?_⟩))⟩, ⟨_, rfl, BLe.rf⟩, trivial⟩, by repeat (first | exact trivial | refine ⟨⟨rfl, by first | (left; intro h; cases h) | (right; rfl), by first | exact (fun _ h => ⟨_, h⟩) | exact (fun _ _ => ⟨_, rfl⟩)⟩, ?_⟩), rfl⟩⟩
      refine ⟨⟨?_, ?_⟩, ⟨?_, fun _ _ => trivial⟩, ?_⟩
      all_goals (try unfold smallHead)
      all_goals (try dsimp only)
      all_goals first | omega | exact Nat.zero_le _ | (simp only [List.length_nil]; omega)
    try simp only [tdy] at h47
    refine AW_condT rfl ?_
    refine AW_seq ?_
    refine AW_regionN ?_
    refine AN_p (x_move rfl rfl) ?_
    have d49 := dBelow_lt b c26 (n := 2) (by decide)
    refine AN_p (x_call (ks := []) (L := [(200, some _)]) (L' := [(200, some _)]) rfl rfl rfl (below_c b c26 hb 2) rfl AllV.rf (caught_of rfl) rfl rfl rfl ⟨rfl, trivial⟩ rfl) ?_
    refine AN_b (x_eql rfl rfl rfl) (fun b50 h50 => ?_)
    refine AN_p (x_field (off := 8) (o' := 8) rfl rfl rfl (by kernel_rfl) rfl) ?_
    refine AN_p (x_store (n := 1) rfl rfl rfl rfl (by kernel_rfl) rfl rfl rfl) ?_
    refine AN_nil ?_
    refine AW_regionN ?_
    refine AN_p (x_move rfl rfl) ?_
    refine AN_x (L := [(200, some (curB b (dBelow b c26 2).2))]) rfl rfl rfl (head_x b (dBelow b c26 2).2 hb) rfl rfl (fun _ => rfl) (fun _ => rfl) ⟨rfl, trivial⟩ (fun _ => rfl) ?_
    rintro ⟨y53, c53⟩ g53
    dsimp only at g53 ⊢
    refine AN_p (x_field (off := 9) (o' := 9) rfl rfl rfl (by kernel_rfl) rfl) ?_
    refine AN_p (x_store (n := 1) rfl rfl rfl rfl (by kernel_rfl) rfl rfl rfl) ?_
    refine AN_nil ?_
    refine AW_seq ?_
    refine AW_regionN ?_
    refine AN_p (x_loadN (n := 10) rfl rfl rfl (by kernel_rfl) rfl rfl) ?_
    refine AN_p (x_store (n := 10) rfl rfl rfl rfl (by kernel_rfl) rfl rfl rfl) ?_
    refine AN_nil ?_
    refine AW_shutB 300 100 9 rfl rfl rfl rfl ?_
    refine AW_ret ?_
    refine ⟨⟨⟨_, _, _, _, _, ⟨_, _⟩, _, _, ⟨_⟩⟩, _⟩, ?_, rn [(9, 100)], by exact ⟨⟨⟨_, rfl, VLe.rf⟩, trivial⟩, ⟨⟨_, rfl, by first | exact BLe.rf | exact BLe.box (by repeat (first | exact trivial | refine ⟨by first | exact CLe.rf | exact CLe.nil, ?_⟩))⟩, ⟨_, rfl, BLe.rf⟩, trivial⟩, by repeat (first | exact trivial | refine ⟨⟨rfl, by first | (left; intro h; cases h) | (right; rfl), by first | exact (fun _ h => ⟨_, h⟩) | exact (fun _ _ => ⟨_, rfl⟩)⟩, ?_⟩), rfl⟩⟩
    refine ⟨⟨?_, ?_⟩, ⟨?_, fun _ _ => trivial⟩, ?_⟩
    all_goals (try unfold smallHead)
    all_goals (try dsimp only)
    all_goals first | omega | exact Nat.zero_le _ | (simp only [List.length_nil]; omega)
  try simp only [tdy] at h41
  refine AW_condT rfl ?_
  refine AW_regionN ?_
  refine AN_p (x_move rfl rfl) ?_
  have d43 := dBelow_lt b c26 (n := 5) (by decide)
  refine AN_p (x_call (ks := []) (L := [(200, some _)]) (L' := [(200, some _)]) rfl rfl rfl (below_c b c26 hb 5) rfl AllV.rf (caught_of rfl) rfl rfl rfl ⟨rfl, trivial⟩ rfl) ?_
  refine AN_p (x_field (off := 3) (o' := 3) rfl rfl rfl (by kernel_rfl) rfl) ?_
  refine AN_p (x_store (n := 1) rfl rfl rfl rfl (by kernel_rfl) rfl rfl rfl) ?_
  refine AN_nil ?_
  refine AW_seq ?_
  refine AW_seq ?_
  refine AW_regionN ?_
  refine AN_p (x_field (off := 0) (o' := 0) rfl rfl rfl (by kernel_rfl) rfl) ?_
  refine AN_p (x_load1 rfl rfl rfl (by kernel_rfl) rfl) ?_
  refine AN_b (x_eql rfl rfl rfl) (fun b47 h47 => ?_)
  refine AN_nil ?_
  cases b47
  · try simp only [tdy] at h47
    refine AW_condF rfl ?_
    refine AW_skip ?_
    refine AW_seq ?_
    refine AW_regionN ?_
    refine AN_p (x_loadN (n := 10) rfl rfl rfl (by kernel_rfl) rfl rfl) ?_
    refine AN_p (x_store (n := 10) rfl rfl rfl rfl (by kernel_rfl) rfl rfl rfl) ?_
    refine AN_nil ?_
    refine AW_ret ?_
    refine ⟨⟨⟨_, _, _, _, _, ⟨_, _⟩, _, _, ⟨_⟩⟩, _⟩, ?_, rn [(9, 100)], by exact ⟨⟨⟨_, rfl, VLe.rf⟩, trivial⟩, ⟨⟨_, rfl, by first | exact BLe.rf | exact BLe.box (by repeat (first | exact trivial | refine ⟨by first | exact CLe.rf | exact CLe.nil, ?_⟩))⟩, ⟨_, rfl, BLe.rf⟩, trivial⟩, by repeat (first | exact trivial | refine ⟨⟨rfl, by first | (left; intro h; cases h) | (right; rfl), by first | exact (fun _ h => ⟨_, h⟩) | exact (fun _ _ => ⟨_, rfl⟩)⟩, ?_⟩), rfl⟩⟩
    refine ⟨⟨?_, ?_⟩, ⟨?_, fun _ _ => trivial⟩, ?_⟩
    all_goals (try unfold smallHead)
    all_goals (try dsimp only)
    all_goals first | omega | exact Nat.zero_le _ | (simp only [List.length_nil]; omega)
  try simp only [tdy] at h47
  refine AW_condT rfl ?_
  refine AW_seq ?_
  refine AW_regionN ?_
  refine AN_p (x_move rfl rfl) ?_
  have d49 := dBelow_lt b (dBelow b c26 5).2 (n := 2) (by decide)
  refine AN_p (x_call (ks := []) (L := [(200, some _)]) (L' := [(200, some _)]) rfl rfl rfl (below_c b (dBelow b c26 5).2 hb 2) rfl AllV.rf (caught_of rfl) rfl rfl rfl ⟨rfl, trivial⟩ rfl) ?_
  refine AN_b (x_eql rfl rfl rfl) (fun b50 h50 => ?_)
  refine AN_p (x_field (off := 8) (o' := 8) rfl rfl rfl (by kernel_rfl) rfl) ?_
  refine AN_p (x_store (n := 1) rfl rfl rfl rfl (by kernel_rfl) rfl rfl rfl) ?_
  refine AN_nil ?_
  refine AW_regionN ?_
  refine AN_p (x_move rfl rfl) ?_
  refine AN_x (L := [(200, some (curB b (dBelow b (dBelow b c26 5).2 2).2))]) rfl rfl rfl (head_x b (dBelow b (dBelow b c26 5).2 2).2 hb) rfl rfl (fun _ => rfl) (fun _ => rfl) ⟨rfl, trivial⟩ (fun _ => rfl) ?_
  rintro ⟨y53, c53⟩ g53
  dsimp only at g53 ⊢
  refine AN_p (x_field (off := 9) (o' := 9) rfl rfl rfl (by kernel_rfl) rfl) ?_
  refine AN_p (x_store (n := 1) rfl rfl rfl rfl (by kernel_rfl) rfl rfl rfl) ?_
  refine AN_nil ?_
  refine AW_seq ?_
  refine AW_regionN ?_
  refine AN_p (x_loadN (n := 10) rfl rfl rfl (by kernel_rfl) rfl rfl) ?_
  refine AN_p (x_store (n := 10) rfl rfl rfl rfl (by kernel_rfl) rfl rfl rfl) ?_
  refine AN_nil ?_
  refine AW_shutB 300 100 9 rfl rfl rfl rfl ?_
  refine AW_ret ?_
  refine ⟨⟨⟨_, _, _, _, _, ⟨_, _⟩, _, _, ⟨_⟩⟩, _⟩, ?_, rn [(9, 100)], by exact ⟨⟨⟨_, rfl, VLe.rf⟩, trivial⟩, ⟨⟨_, rfl, by first | exact BLe.rf | exact BLe.box (by repeat (first | exact trivial | refine ⟨by first | exact CLe.rf | exact CLe.nil, ?_⟩))⟩, ⟨_, rfl, BLe.rf⟩, trivial⟩, by repeat (first | exact trivial | refine ⟨⟨rfl, by first | (left; intro h; cases h) | (right; rfl), by first | exact (fun _ h => ⟨_, h⟩) | exact (fun _ _ => ⟨_, rfl⟩)⟩, ?_⟩), rfl⟩⟩
  refine ⟨⟨?_, ?_⟩, ⟨?_, fun _ _ => trivial⟩, ?_⟩
  all_goals (try unfold smallHead)
  all_goals (try dsimp only)
  all_goals first | omega | exact Nat.zero_le _ | (simp only [List.length_nil]; omega)

end Go.Proofs.Ytfdpigafekohgaa

/- The laws' marks: MarkE (printed by genmark.py) -/
namespace Go.Proofs.Ytfdpigafekohgaa
open Go.RowKit
set_option linter.unusedVariables false
set_option linter.unusedSimpArgs false
set_option maxRecDepth 100000

end Go.Proofs.Ytfdpigafekohgaa

/- Sizes of data (printed by mktot.py) -/
namespace Go.Proofs.Ytfdpigafekohgaa
open Go.RowKit
set_option linter.unusedVariables false

end Go.Proofs.Ytfdpigafekohgaa

/- How much a message's marks count. -/
namespace Go.Proofs.Ytfdpigafekohgaa
open Go.RowKit
set_option linter.unusedVariables false

theorem msgBytes_len (m : Msgt) : (msgBytes m).1.length ≤ 300 := by
  unfold msgBytes
  split
  · rename_i h
    have := bodyB_len h
    simp only [wholeB, List.length_append, List.length_cons, List.length_nil, putB_len]; omega
  · simp
end Go.Proofs.Ytfdpigafekohgaa

/- Messages that are drawn (printed by walk.py) -/
namespace Go.Proofs.Ytfdpigafekohgaa
open Go.RowKit
set_option linter.unusedVariables false
set_option linter.unusedSimpArgs false
set_option maxRecDepth 100000

set_option maxHeartbeats 4000000 in
theorem drawCut_x (b : List Int) (hb : b.length ≤ 1048576) : AX Try.prog 21 [.one (.sl (intE .u8) b)] [] (ι := List Int × List Int) (fun i => i.1.length ≤ 400 ∧ i.2.length ≤ 1000) (fun i => .tup [.one (.sl (intE .u8) i.1), .one (.sl (intE .u8) i.2)]) (fun i => []) := by
  refine AX_body2 (x1 := fun (i : List Int × List Int) => .one (.sl (intE .u8) i.1)) (x2 := fun (i : List Int × List Int) => .one (.sl (intE .u8) i.2)) (L' := fun (i : List Int × List Int) => []) Try.func21 rfl rfl Try.ntmps21 rfl Try.results21 rfl (fun _ => rfl) (fun _ => rfl) ?_
  refine AW_seq ?_
  refine AW_regionN ?_
  refine AN_p (x_assign rfl rfl) ?_
  refine AN_p (x_assign rfl rfl) ?_
  refine AN_nil ?_
  refine AW_seq ?_
  refine AW_regionN ?_
  refine AN_p (x_move rfl rfl) ?_
  refine AN_p (x_call1 rfl rfl rfl (new_c b hb) rfl rfl rfl rfl) ?_
  refine AN_p (x_assign rfl rfl) ?_
  refine AN_nil ?_
  refine AW_seq ?_
  refine AW_regionN ?_
  refine AN_p (y_bslice0 (E := 5) (e := (intE .u8)) 100 rfl rfl rfl (by kernel_rfl)) ?_
  refine AN_p (x_assign rfl rfl) ?_
  refine AN_nil ?_
  refine AW_seq ?_
  refine AW_seq ?_
  refine AW_regionN ?_
  refine AN_p (x_move rfl rfl) ?_
  have d15 := dBelow_lt b (dNew b) (n := 4) (by decide)
  refine AN_p (x_call (ks := []) (L := [(200, some _)]) (L' := [(200, some _)]) rfl rfl rfl (below_c b (dNew b) hb 4) rfl AllV.rf (caught_of rfl) rfl rfl rfl ⟨rfl, trivial⟩ rfl) ?_
  refine AN_p (x_assign rfl rfl) ?_
  refine AN_nil ?_
  refine AW_block ?_
  refine AW_loop2 (ι := {q : Int × List Int × Cur // ((q.2.1).length : Int) + 300 * max (q.1) 0 ≤ 900}) (fun p => [(5, .one (.own 100)), (6, .one (.c (.int .i64 (p.1.1))))]) (fun p => [(100, some (.arr 5 (intE .u8) (p.1.2.1) true)), (200, some (curB b (p.1.2.2)))]) [4] [] (fun p => (p.1.1).toNat) ⟨⟨(dBelow b (dNew b) 4).1, [], (dBelow b (dNew b) 4).2⟩, (by simp; omega)⟩ (rn []) ?_ ?_
  exact ⟨by (repeat refine ⟨⟨_, rfl, by first | exact VLe.rf | exact vle_int (by dsimp only; omega)⟩, ?_⟩); exact trivial, by (repeat refine ⟨⟨_, rfl, by first | exact BLe.rf | exact BLe.box AllC.rf | exact BLe.arr (by exact rfl)⟩, ?_⟩); exact trivial, by repeat (first | exact trivial | refine ⟨⟨rfl, by first | (left; intro h; cases h) | (right; rfl), by first | exact (fun _ h => ⟨_, h⟩) | exact (fun _ _ => ⟨_, rfl⟩)⟩, ?_⟩), rfl⟩
  rintro ⟨⟨n, l, cq⟩, hinv⟩
  dsimp only
  have hl : (l.length : Int) + 300 * max n 0 ≤ 900 := hinv
  refine AW_seq ?_
  refine AW_seq ?_
  refine AW_regionN ?_
  refine AN_p (x_move rfl rfl) ?_
  refine AN_b (x_gtr rfl rfl rfl) (fun b17 h17 => ?_)
  refine AN_nil ?_
  cases b17
  rotate_left
  · try simp only [tdy] at h17
    refine AW_condT rfl ?_
    refine AW_skip ?_
    refine AW_seq ?_
    refine AW_block ?_
    refine AW_seq ?_
    refine AW_regionN ?_
    refine AN_p (x_move rfl rfl) ?_
    refine AN_x (L := [(200, some (curB b cq))]) rfl rfl rfl (msg_x b cq hb) rfl rfl (fun _ => rfl) (fun _ => rfl) ⟨rfl, trivial⟩ (fun _ => rfl) ?_
    rintro ⟨x22, c22⟩ g22
    try dsimp only at g22
    try dsimp only
    refine AN_p (x_call1 rfl rfl rfl (msgBytesS_c x22 101) rfl rfl rfl rfl) ?_
    refine AN_p (x_move rfl rfl) ?_
    refine AN_p (x_extract rfl rfl rfl) ?_
    refine AN_b (x_extract rfl rfl rfl) (fun b25 h25 => ?_)
    refine AN_p (x_assign rfl rfl) ?_
    refine AN_p (x_assign rfl rfl) ?_
    refine AN_nil ?_
    refine AW_regionN ?_
    refine AN_p (x_move rfl rfl) ?_
    refine AN_p (x_move rfl rfl) ?_
    refine AN_p (y_append 102 rfl rfl rfl rfl rfl rfl rfl rfl (by kernel_rfl) (by have := msgBytes_len x22; simp; omega)) ?_
    refine AN_p (x_assign rfl rfl) ?_
    refine AN_nil ?_
    refine AW_regionN ?_
    refine AN_p (x_move rfl rfl) ?_
    refine AN_p (x_sub rfl rfl rfl (IntWalk.i64_in _ (by omega))) ?_
    refine AN_p (x_assign rfl rfl) ?_
    refine AN_nil ?_
    refine ⟨⟨⟨_, _, _⟩, ?_⟩, rn [(100, 102)], by exact ⟨by (repeat refine ⟨⟨_, rfl, by first | exact VLe.rf | exact vle_int (by dsimp only; omega)⟩, ?_⟩); exact trivial, by (repeat refine ⟨⟨_, rfl, by first | exact BLe.rf | exact BLe.box AllC.rf | exact BLe.arr (by exact rfl)⟩, ?_⟩); exact trivial, by repeat (first | exact trivial | refine ⟨⟨rfl, by first | (left; intro h; cases h) | (right; rfl), by first | exact (fun _ h => ⟨_, h⟩) | exact (fun _ _ => ⟨_, rfl⟩)⟩, ?_⟩), rfl⟩, by dsimp only; omega⟩
    have := msgBytes_len x22; simp; omega
  try simp only [tdy] at h17
  refine AW_condF rfl ?_
  refine AW_exit (BQ_hit ?_)
  refine AW_seq ?_
  refine AW_regionN ?_
  refine AN_p (x_move rfl rfl) ?_
  refine AN_p (x_move rfl rfl) ?_
  refine AN_p (x_olen (E := 5) (n := 1) rfl rfl rfl (by kernel_rfl)) ?_
  refine AN_p (x_add rfl rfl rfl (IntWalk.i64_in _ (by omega))) ?_
  have d33 := dBelow_lt b cq (n := ((l.length : Int) + 1)) (by omega)
  refine AN_p (x_call (ks := []) (L := [(200, some _)]) (L' := [(200, some _)]) rfl rfl rfl (below_c b cq hb ((l.length : Int) + 1)) rfl AllV.rf (caught_of rfl) rfl rfl rfl ⟨rfl, trivial⟩ rfl) ?_
  refine AN_p (x_assign rfl rfl) ?_
  refine AN_nil ?_
  refine AW_seq ?_
  refine AW_seq ?_
  refine AW_regionN ?_
  refine AN_p (x_move rfl rfl) ?_
  refine AN_b (x_gtr rfl rfl rfl) (fun b35 h35 => ?_)
  refine AN_nil ?_
  cases b35
  · try simp only [tdy] at h35
    refine AW_condF rfl ?_
    refine AW_skip ?_
    refine AW_seq ?_
    refine AW_regionN ?_
    refine AN_p (x_move rfl rfl) ?_
    have d37 := dBelow_lt b (dBelow b cq ((l.length : Int) + 1)).2 (n := 9) (by decide)
    refine AN_p (x_call (ks := []) (L := [(200, some _)]) (L' := [(200, some _)]) rfl rfl rfl (below_c b (dBelow b cq ((l.length : Int) + 1)).2 hb 9) rfl AllV.rf (caught_of rfl) rfl rfl rfl ⟨rfl, trivial⟩ rfl) ?_
    refine AN_p (x_assign rfl rfl) ?_
    refine AN_nil ?_
    refine AW_seq ?_
    refine AW_seq ?_
    refine AW_regionN ?_
    refine AN_p (x_move rfl rfl) ?_
    refine AN_b (x_eql rfl rfl rfl) (fun b39 h39 => ?_)
    refine AN_p (x_move rfl rfl) ?_
    cases b39
    · try simp only [tdy] at h39
      refine AN_o rfl rfl rfl rfl ?_
      refine AN_o rfl rfl rfl rfl ?_
      refine AN_o rfl rfl rfl rfl ?_
      refine AN_p (x_pickF rfl rfl rfl) ?_
      refine AN_nil ?_
      refine AW_condF rfl ?_
      refine AW_skip ?_
      refine AW_seq ?_
      refine AW_seq ?_
      refine AW_regionN ?_
      refine AN_p (x_move rfl rfl) ?_
      refine AN_b (x_eql rfl rfl rfl) (fun b51 h51 => ?_)
      refine AN_nil ?_
      cases b51
      · try simp only [tdy] at h51
        refine AW_condF rfl ?_
        refine AW_skip ?_
        refine AW_seq ?_
        refine AW_seq ?_
        refine AW_regionN ?_
        refine AN_p (x_move rfl rfl) ?_
        refine AN_b (x_eql rfl rfl rfl) (fun b62 h62 => ?_)
        refine AN_nil ?_
        cases b62
        rotate_left
        · try simp only [tdy] at h62
          refine AW_condT rfl ?_
          refine AW_seq ?_
          refine AW_regionN ?_
          refine AN_p (x_move rfl rfl) ?_
          have d64 := dBelow_lt b (dBelow b (dBelow b cq ((l.length : Int) + 1)).2 9).2 (n := 2) (by decide)
          refine AN_p (x_call (ks := []) (L := [(200, some _)]) (L' := [(200, some _)]) rfl rfl rfl (below_c b (dBelow b (dBelow b cq ((l.length : Int) + 1)).2 9).2 hb 2) rfl AllV.rf (caught_of rfl) rfl rfl rfl ⟨rfl, trivial⟩ rfl) ?_
          refine AN_p (x_add rfl rfl rfl (r := ((300 + (dBelow b (dBelow b (dBelow b cq ((l.length : Int) + 1)).2 9).2 2).1).toNat : Int)) (by rw [Int.toNat_of_nonneg (by omega)]; exact IntWalk.i64_in _ (by omega))) ?_
          refine AN_p (x_make (T := 22) (E := 5) (e := (intE .u8)) (0) (z := .int .u8 0) 105 rfl rfl rfl (by kernel_rfl) rfl FitL.rf rfl rfl (by kernel_rfl) (by omega)) ?_
          refine AN_p (x_move rfl rfl) ?_
          refine AN_p (x_assign rfl rfl) ?_
          refine AN_p (x_assign rfl rfl) ?_
          refine AN_nil ?_
          refine AW_shut 105 2 rfl rfl ?_
          refine AW_shut 100 3 rfl rfl ?_
          refine AW_ret ?_
          refine ⟨⟨_, _⟩, ?_, rn [], by exact ⟨⟨⟨_, rfl, VLe.rf⟩, ⟨_, rfl, VLe.rf⟩, trivial⟩, trivial, by repeat (first | exact trivial | refine ⟨⟨rfl, by first | (left; intro h; cases h) | (right; rfl), by first | exact (fun _ h => ⟨_, h⟩) | exact (fun _ _ => ⟨_, rfl⟩)⟩, ?_⟩), rfl⟩⟩
          exact ⟨by first | omega | (simp; omega), by first | omega | (simp; omega)⟩
        try simp only [tdy] at h62
        refine AW_condF rfl ?_
        refine AW_skip ?_
        refine AW_seq ?_
        refine AW_shut 100 5 rfl rfl ?_
        refine AW_draw rfl ?_
        refine AL_p (x_move rfl rfl) ?_
        refine AL_p (x_move rfl rfl) ?_
        refine AL_p (x_slice (E := 5) (n := 1) rfl rfl (by kernel_rfl) rfl .no (.yes (l := (dBelow b cq ((l.length : Int) + 1)).1.toNat) rfl (by first | rfl | omega)) (by omega) (by first | omega | (simp only [List.length_set]; omega) | (simp; omega)) rfl) ?_
        refine AL_p (x_move rfl rfl) ?_
        refine AL_p (x_move rfl rfl) ?_
        refine AL_p (x_slice (E := 5) (n := 1) rfl rfl (by kernel_rfl) rfl (.yes (l := (dBelow b cq ((l.length : Int) + 1)).1.toNat) rfl (by first | rfl | omega)) .no (by first | omega | (simp only [List.length_set]; omega) | (simp; omega)) (by first | exact Nat.le_refl _ | omega) part_drop) ?_
        refine AL_p (x_assign rfl rfl) ?_
        refine AL_p (x_assign rfl rfl) ?_
        refine AL_nild (by kernel_rfl) ?_
        refine AW_ret ?_
        refine ⟨⟨_, _⟩, ?_, rn [], by exact ⟨⟨⟨_, rfl, VLe.rf⟩, ⟨_, rfl, VLe.rf⟩, trivial⟩, trivial, by repeat (first | exact trivial | refine ⟨⟨rfl, by first | (left; intro h; cases h) | (right; rfl), by first | exact (fun _ h => ⟨_, h⟩) | exact (fun _ _ => ⟨_, rfl⟩)⟩, ?_⟩), rfl⟩⟩
        exact ⟨by first | omega | (simp; omega), by first | omega | (simp; omega)⟩
      try simp only [tdy] at h51
      refine AW_condT rfl ?_
      refine AW_regionN ?_
      refine AN_p (x_move rfl rfl) ?_
      refine AN_p (x_move rfl rfl) ?_
      have d54 := dBelow_lt b (dBelow b (dBelow b cq ((l.length : Int) + 1)).2 9).2 (n := 3) (by decide)
      refine AN_p (x_call (ks := []) (L := [(200, some _)]) (L' := [(200, some _)]) rfl rfl rfl (below_c b (dBelow b (dBelow b cq ((l.length : Int) + 1)).2 9).2 hb 3) rfl AllV.rf (caught_of rfl) rfl rfl rfl ⟨rfl, trivial⟩ rfl) ?_
      refine AN_p (x_conv (k' := .u8) rfl rfl (by kernel_rfl) rfl) ?_
      refine AN_p (x_move rfl rfl) ?_
      refine AN_p (x_call (ks := []) (L := [(200, some _)]) (L' := [(200, some _)]) rfl rfl rfl (byte_c b (dBelow b (dBelow b (dBelow b cq ((l.length : Int) + 1)).2 9).2 3).2 hb) rfl AllV.rf (caught_of rfl) rfl rfl rfl ⟨rfl, trivial⟩ rfl) ?_
      refine AN_p (x_conv (k' := .u8) rfl rfl (by kernel_rfl) rfl) ?_
      refine AN_p (y_bslice (E := 5) (e := (intE .u8)) [.const (.int .u8 (1)), .const (.int .u8 (2)), .tmp 55, .tmp 58, .const (.int .u8 (7))] ([_, _, _, _, _]) 103 rfl rfl rfl rfl rfl rfl rfl rfl FitL.rf rfl rfl rfl rfl rfl rfl (by kernel_rfl)) ?_
      refine AN_p (y_append 104 rfl rfl rfl rfl rfl rfl rfl rfl (by kernel_rfl) (by simp; omega)) ?_
      refine AN_p (x_assign rfl rfl) ?_
      refine AN_nil ?_
      refine AW_seq ?_
      refine AW_seq ?_
      refine AW_regionN ?_
      refine AN_p (x_move rfl rfl) ?_
      refine AN_b (x_eql rfl rfl rfl) (fun b62 h62 => ?_)
      refine AN_nil ?_
      cases b62
      rotate_left
      · try simp only [tdy] at h62
        refine AW_condT rfl ?_
        refine AW_seq ?_
        refine AW_regionN ?_
        refine AN_p (x_move rfl rfl) ?_
        have d64 := dBelow_lt b (dByte b (dBelow b (dBelow b (dBelow b cq ((l.length : Int) + 1)).2 9).2 3).2).2 (n := 2) (by decide)
        refine AN_p (x_call (ks := []) (L := [(200, some _)]) (L' := [(200, some _)]) rfl rfl rfl (below_c b (dByte b (dBelow b (dBelow b (dBelow b cq ((l.length : Int) + 1)).2 9).2 3).2).2 hb 2) rfl AllV.rf (caught_of rfl) rfl rfl rfl ⟨rfl, trivial⟩ rfl) ?_
        refine AN_p (x_add rfl rfl rfl (r := ((300 + (dBelow b (dByte b (dBelow b (dBelow b (dBelow b cq ((l.length : Int) + 1)).2 9).2 3).2).2 2).1).toNat : Int)) (by rw [Int.toNat_of_nonneg (by omega)]; exact IntWalk.i64_in _ (by omega))) ?_
        refine AN_p (x_make (T := 22) (E := 5) (e := (intE .u8)) (0) (z := .int .u8 0) 105 rfl rfl rfl (by kernel_rfl) rfl FitL.rf rfl rfl (by kernel_rfl) (by omega)) ?_
        refine AN_p (x_move rfl rfl) ?_
        refine AN_p (x_assign rfl rfl) ?_
        refine AN_p (x_assign rfl rfl) ?_
        refine AN_nil ?_
        refine AW_shut 105 2 rfl rfl ?_
        refine AW_shut 104 3 rfl rfl ?_
        refine AW_ret ?_
        refine ⟨⟨_, _⟩, ?_, rn [], by exact ⟨⟨⟨_, rfl, VLe.rf⟩, ⟨_, rfl, VLe.rf⟩, trivial⟩, trivial, by repeat (first | exact trivial | refine ⟨⟨rfl, by first | (left; intro h; cases h) | (right; rfl), by first | exact (fun _ h => ⟨_, h⟩) | exact (fun _ _ => ⟨_, rfl⟩)⟩, ?_⟩), rfl⟩⟩
        exact ⟨by first | omega | (simp; omega), by first | omega | (simp; omega)⟩
      try simp only [tdy] at h62
      refine AW_condF rfl ?_
      refine AW_skip ?_
      refine AW_seq ?_
      refine AW_shut 104 5 rfl rfl ?_
      refine AW_draw rfl ?_
      refine AL_p (x_move rfl rfl) ?_
      refine AL_p (x_move rfl rfl) ?_
      refine AL_p (x_slice (E := 5) (n := 1) rfl rfl (by kernel_rfl) rfl .no (.yes (l := (dBelow b cq ((l.length : Int) + 1)).1.toNat) rfl (by first | rfl | omega)) (by omega) (by first | omega | (simp only [List.length_set]; omega) | (simp; omega)) rfl) ?_
      refine AL_p (x_move rfl rfl) ?_
      refine AL_p (x_move rfl rfl) ?_
      refine AL_p (x_slice (E := 5) (n := 1) rfl rfl (by kernel_rfl) rfl (.yes (l := (dBelow b cq ((l.length : Int) + 1)).1.toNat) rfl (by first | rfl | omega)) .no (by first | omega | (simp only [List.length_set]; omega) | (simp; omega)) (by first | exact Nat.le_refl _ | omega) part_drop) ?_
      refine AL_p (x_assign rfl rfl) ?_
      refine AL_p (x_assign rfl rfl) ?_
      refine AL_nild (by kernel_rfl) ?_
      refine AW_ret ?_
      refine ⟨⟨_, _⟩, ?_, rn [], by exact ⟨⟨⟨_, rfl, VLe.rf⟩, ⟨_, rfl, VLe.rf⟩, trivial⟩, trivial, by repeat (first | exact trivial | refine ⟨⟨rfl, by first | (left; intro h; cases h) | (right; rfl), by first | exact (fun _ h => ⟨_, h⟩) | exact (fun _ _ => ⟨_, rfl⟩)⟩, ?_⟩), rfl⟩⟩
      exact ⟨by first | omega | (simp; omega), by first | omega | (simp; omega)⟩
    try simp only [tdy] at h39
    refine AN_g rfl rfl (x_move rfl rfl) ?_
    refine AN_g rfl rfl (x_olen (E := 5) (n := 1) rfl rfl rfl (by kernel_rfl)) ?_
    refine AN_gb rfl rfl (x_gtr rfl rfl rfl) (fun b43 h43 => ?_)
    refine AN_p (x_pickT rfl rfl rfl) ?_
    refine AN_nil ?_
    cases b43
    · try simp only [tdy] at h43
      refine AW_condF rfl ?_
      refine AW_skip ?_
      refine AW_seq ?_
      refine AW_seq ?_
      refine AW_regionN ?_
      refine AN_p (x_move rfl rfl) ?_
      refine AN_b (x_eql rfl rfl rfl) (fun b51 h51 => ?_)
      refine AN_nil ?_
      cases b51
      · try simp only [tdy] at h51
        refine AW_condF rfl ?_
        refine AW_skip ?_
        refine AW_seq ?_
        refine AW_seq ?_
        refine AW_regionN ?_
        refine AN_p (x_move rfl rfl) ?_
        refine AN_b (x_eql rfl rfl rfl) (fun b62 h62 => ?_)
        refine AN_nil ?_
        cases b62
        rotate_left
        · try simp only [tdy] at h62
          refine AW_condT rfl ?_
          refine AW_seq ?_
          refine AW_regionN ?_
          refine AN_p (x_move rfl rfl) ?_
          have d64 := dBelow_lt b (dBelow b (dBelow b cq ((l.length : Int) + 1)).2 9).2 (n := 2) (by decide)
          refine AN_p (x_call (ks := []) (L := [(200, some _)]) (L' := [(200, some _)]) rfl rfl rfl (below_c b (dBelow b (dBelow b cq ((l.length : Int) + 1)).2 9).2 hb 2) rfl AllV.rf (caught_of rfl) rfl rfl rfl ⟨rfl, trivial⟩ rfl) ?_
          refine AN_p (x_add rfl rfl rfl (r := ((300 + (dBelow b (dBelow b (dBelow b cq ((l.length : Int) + 1)).2 9).2 2).1).toNat : Int)) (by rw [Int.toNat_of_nonneg (by omega)]; exact IntWalk.i64_in _ (by omega))) ?_
          refine AN_p (x_make (T := 22) (E := 5) (e := (intE .u8)) (0) (z := .int .u8 0) 105 rfl rfl rfl (by kernel_rfl) rfl FitL.rf rfl rfl (by kernel_rfl) (by omega)) ?_
          refine AN_p (x_move rfl rfl) ?_
          refine AN_p (x_assign rfl rfl) ?_
          refine AN_p (x_assign rfl rfl) ?_
          refine AN_nil ?_
          refine AW_shut 105 2 rfl rfl ?_
          refine AW_shut 100 3 rfl rfl ?_
          refine AW_ret ?_
          refine ⟨⟨_, _⟩, ?_, rn [], by exact ⟨⟨⟨_, rfl, VLe.rf⟩, ⟨_, rfl, VLe.rf⟩, trivial⟩, trivial, by repeat (first | exact trivial | refine ⟨⟨rfl, by first | (left; intro h; cases h) | (right; rfl), by first | exact (fun _ h => ⟨_, h⟩) | exact (fun _ _ => ⟨_, rfl⟩)⟩, ?_⟩), rfl⟩⟩
          exact ⟨by first | omega | (simp; omega), by first | omega | (simp; omega)⟩
        try simp only [tdy] at h62
        refine AW_condF rfl ?_
        refine AW_skip ?_
        refine AW_seq ?_
        refine AW_shut 100 5 rfl rfl ?_
        refine AW_draw rfl ?_
        refine AL_p (x_move rfl rfl) ?_
        refine AL_p (x_move rfl rfl) ?_
        refine AL_p (x_slice (E := 5) (n := 1) rfl rfl (by kernel_rfl) rfl .no (.yes (l := (dBelow b cq ((l.length : Int) + 1)).1.toNat) rfl (by first | rfl | omega)) (by omega) (by first | omega | (simp only [List.length_set]; omega) | (simp; omega)) rfl) ?_
        refine AL_p (x_move rfl rfl) ?_
        refine AL_p (x_move rfl rfl) ?_
        refine AL_p (x_slice (E := 5) (n := 1) rfl rfl (by kernel_rfl) rfl (.yes (l := (dBelow b cq ((l.length : Int) + 1)).1.toNat) rfl (by first | rfl | omega)) .no (by first | omega | (simp only [List.length_set]; omega) | (simp; omega)) (by first | exact Nat.le_refl _ | omega) part_drop) ?_
        refine AL_p (x_assign rfl rfl) ?_
        refine AL_p (x_assign rfl rfl) ?_
        refine AL_nild (by kernel_rfl) ?_
        refine AW_ret ?_
        refine ⟨⟨_, _⟩, ?_, rn [], by exact ⟨⟨⟨_, rfl, VLe.rf⟩, ⟨_, rfl, VLe.rf⟩, trivial⟩, trivial, by repeat (first | exact trivial | refine ⟨⟨rfl, by first | (left; intro h; cases h) | (right; rfl), by first | exact (fun _ h => ⟨_, h⟩) | exact (fun _ _ => ⟨_, rfl⟩)⟩, ?_⟩), rfl⟩⟩
        exact ⟨by first | omega | (simp; omega), by first | omega | (simp; omega)⟩
      try simp only [tdy] at h51
      refine AW_condT rfl ?_
      refine AW_regionN ?_
      refine AN_p (x_move rfl rfl) ?_
      refine AN_p (x_move rfl rfl) ?_
      have d54 := dBelow_lt b (dBelow b (dBelow b cq ((l.length : Int) + 1)).2 9).2 (n := 3) (by decide)
      refine AN_p (x_call (ks := []) (L := [(200, some _)]) (L' := [(200, some _)]) rfl rfl rfl (below_c b (dBelow b (dBelow b cq ((l.length : Int) + 1)).2 9).2 hb 3) rfl AllV.rf (caught_of rfl) rfl rfl rfl ⟨rfl, trivial⟩ rfl) ?_
      refine AN_p (x_conv (k' := .u8) rfl rfl (by kernel_rfl) rfl) ?_
      refine AN_p (x_move rfl rfl) ?_
      refine AN_p (x_call (ks := []) (L := [(200, some _)]) (L' := [(200, some _)]) rfl rfl rfl (byte_c b (dBelow b (dBelow b (dBelow b cq ((l.length : Int) + 1)).2 9).2 3).2 hb) rfl AllV.rf (caught_of rfl) rfl rfl rfl ⟨rfl, trivial⟩ rfl) ?_
      refine AN_p (x_conv (k' := .u8) rfl rfl (by kernel_rfl) rfl) ?_
      refine AN_p (y_bslice (E := 5) (e := (intE .u8)) [.const (.int .u8 (1)), .const (.int .u8 (2)), .tmp 55, .tmp 58, .const (.int .u8 (7))] ([_, _, _, _, _]) 103 rfl rfl rfl rfl rfl rfl rfl rfl FitL.rf rfl rfl rfl rfl rfl rfl (by kernel_rfl)) ?_
      refine AN_p (y_append 104 rfl rfl rfl rfl rfl rfl rfl rfl (by kernel_rfl) (by simp; omega)) ?_
      refine AN_p (x_assign rfl rfl) ?_
      refine AN_nil ?_
      refine AW_seq ?_
      refine AW_seq ?_
      refine AW_regionN ?_
      refine AN_p (x_move rfl rfl) ?_
      refine AN_b (x_eql rfl rfl rfl) (fun b62 h62 => ?_)
      refine AN_nil ?_
      cases b62
      rotate_left
      · try simp only [tdy] at h62
        refine AW_condT rfl ?_
        refine AW_seq ?_
        refine AW_regionN ?_
        refine AN_p (x_move rfl rfl) ?_
        have d64 := dBelow_lt b (dByte b (dBelow b (dBelow b (dBelow b cq ((l.length : Int) + 1)).2 9).2 3).2).2 (n := 2) (by decide)
        refine AN_p (x_call (ks := []) (L := [(200, some _)]) (L' := [(200, some _)]) rfl rfl rfl (below_c b (dByte b (dBelow b (dBelow b (dBelow b cq ((l.length : Int) + 1)).2 9).2 3).2).2 hb 2) rfl AllV.rf (caught_of rfl) rfl rfl rfl ⟨rfl, trivial⟩ rfl) ?_
        refine AN_p (x_add rfl rfl rfl (r := ((300 + (dBelow b (dByte b (dBelow b (dBelow b (dBelow b cq ((l.length : Int) + 1)).2 9).2 3).2).2 2).1).toNat : Int)) (by rw [Int.toNat_of_nonneg (by omega)]; exact IntWalk.i64_in _ (by omega))) ?_
        refine AN_p (x_make (T := 22) (E := 5) (e := (intE .u8)) (0) (z := .int .u8 0) 105 rfl rfl rfl (by kernel_rfl) rfl FitL.rf rfl rfl (by kernel_rfl) (by omega)) ?_
        refine AN_p (x_move rfl rfl) ?_
        refine AN_p (x_assign rfl rfl) ?_
        refine AN_p (x_assign rfl rfl) ?_
        refine AN_nil ?_
        refine AW_shut 105 2 rfl rfl ?_
        refine AW_shut 104 3 rfl rfl ?_
        refine AW_ret ?_
        refine ⟨⟨_, _⟩, ?_, rn [], by exact ⟨⟨⟨_, rfl, VLe.rf⟩, ⟨_, rfl, VLe.rf⟩, trivial⟩, trivial, by repeat (first | exact trivial | refine ⟨⟨rfl, by first | (left; intro h; cases h) | (right; rfl), by first | exact (fun _ h => ⟨_, h⟩) | exact (fun _ _ => ⟨_, rfl⟩)⟩, ?_⟩), rfl⟩⟩
        exact ⟨by first | omega | (simp; omega), by first | omega | (simp; omega)⟩
      try simp only [tdy] at h62
      refine AW_condF rfl ?_
      refine AW_skip ?_
      refine AW_seq ?_
      refine AW_shut 104 5 rfl rfl ?_
      refine AW_draw rfl ?_
      refine AL_p (x_move rfl rfl) ?_
      refine AL_p (x_move rfl rfl) ?_
      refine AL_p (x_slice (E := 5) (n := 1) rfl rfl (by kernel_rfl) rfl .no (.yes (l := (dBelow b cq ((l.length : Int) + 1)).1.toNat) rfl (by first | rfl | omega)) (by omega) (by first | omega | (simp only [List.length_set]; omega) | (simp; omega)) rfl) ?_
      refine AL_p (x_move rfl rfl) ?_
      refine AL_p (x_move rfl rfl) ?_
      refine AL_p (x_slice (E := 5) (n := 1) rfl rfl (by kernel_rfl) rfl (.yes (l := (dBelow b cq ((l.length : Int) + 1)).1.toNat) rfl (by first | rfl | omega)) .no (by first | omega | (simp only [List.length_set]; omega) | (simp; omega)) (by first | exact Nat.le_refl _ | omega) part_drop) ?_
      refine AL_p (x_assign rfl rfl) ?_
      refine AL_p (x_assign rfl rfl) ?_
      refine AL_nild (by kernel_rfl) ?_
      refine AW_ret ?_
      refine ⟨⟨_, _⟩, ?_, rn [], by exact ⟨⟨⟨_, rfl, VLe.rf⟩, ⟨_, rfl, VLe.rf⟩, trivial⟩, trivial, by repeat (first | exact trivial | refine ⟨⟨rfl, by first | (left; intro h; cases h) | (right; rfl), by first | exact (fun _ h => ⟨_, h⟩) | exact (fun _ _ => ⟨_, rfl⟩)⟩, ?_⟩), rfl⟩⟩
      exact ⟨by first | omega | (simp; omega), by first | omega | (simp; omega)⟩
    try simp only [tdy] at h43
    refine AW_condT rfl ?_
    refine AW_regionN ?_
    refine AN_p (x_move rfl rfl) ?_
    refine AN_p (x_move rfl rfl) ?_
    refine AN_p (x_call (ks := []) (L := [(200, some _)]) (L' := [(200, some _)]) rfl rfl rfl (byte_c b (dBelow b (dBelow b cq ((l.length : Int) + 1)).2 9).2 hb) rfl AllV.rf (caught_of rfl) rfl rfl rfl ⟨rfl, trivial⟩ rfl) ?_
    refine AN_p (x_conv (k' := .u8) rfl rfl (by kernel_rfl) rfl) ?_
    refine AN_p (x_oindex (n := 1) rfl rfl rfl rfl (by kernel_rfl) rfl (k := 3) rfl (by omega)) ?_
    refine AN_p (x_ostore (_) rfl rfl rfl rfl (by kernel_rfl) rfl rfl rfl rfl FitL.rf rfl rfl (by first | omega | (rw [filledTo_len (by omega)]; omega) | (simp; omega))) ?_
    refine AN_nil ?_
    refine AW_seq ?_
    refine AW_seq ?_
    refine AW_regionN ?_
    refine AN_p (x_move rfl rfl) ?_
    refine AN_b (x_eql rfl rfl rfl) (fun b51 h51 => ?_)
    refine AN_nil ?_
    cases b51
    · try simp only [tdy] at h51
      refine AW_condF rfl ?_
      refine AW_skip ?_
      refine AW_seq ?_
      refine AW_seq ?_
      refine AW_regionN ?_
      refine AN_p (x_move rfl rfl) ?_
      refine AN_b (x_eql rfl rfl rfl) (fun b62 h62 => ?_)
      refine AN_nil ?_
      cases b62
      rotate_left
      · try simp only [tdy] at h62
        refine AW_condT rfl ?_
        refine AW_seq ?_
        refine AW_regionN ?_
        refine AN_p (x_move rfl rfl) ?_
        have d64 := dBelow_lt b (dByte b (dBelow b (dBelow b cq ((l.length : Int) + 1)).2 9).2).2 (n := 2) (by decide)
        refine AN_p (x_call (ks := []) (L := [(200, some _)]) (L' := [(200, some _)]) rfl rfl rfl (below_c b (dByte b (dBelow b (dBelow b cq ((l.length : Int) + 1)).2 9).2).2 hb 2) rfl AllV.rf (caught_of rfl) rfl rfl rfl ⟨rfl, trivial⟩ rfl) ?_
        refine AN_p (x_add rfl rfl rfl (r := ((300 + (dBelow b (dByte b (dBelow b (dBelow b cq ((l.length : Int) + 1)).2 9).2).2 2).1).toNat : Int)) (by rw [Int.toNat_of_nonneg (by omega)]; exact IntWalk.i64_in _ (by omega))) ?_
        refine AN_p (x_make (T := 22) (E := 5) (e := (intE .u8)) (0) (z := .int .u8 0) 105 rfl rfl rfl (by kernel_rfl) rfl FitL.rf rfl rfl (by kernel_rfl) (by omega)) ?_
        refine AN_p (x_move rfl rfl) ?_
        refine AN_p (x_assign rfl rfl) ?_
        refine AN_p (x_assign rfl rfl) ?_
        refine AN_nil ?_
        refine AW_shut 105 2 rfl rfl ?_
        refine AW_shut 100 3 rfl rfl ?_
        refine AW_ret ?_
        refine ⟨⟨_, _⟩, ?_, rn [], by exact ⟨⟨⟨_, rfl, VLe.rf⟩, ⟨_, rfl, VLe.rf⟩, trivial⟩, trivial, by repeat (first | exact trivial | refine ⟨⟨rfl, by first | (left; intro h; cases h) | (right; rfl), by first | exact (fun _ h => ⟨_, h⟩) | exact (fun _ _ => ⟨_, rfl⟩)⟩, ?_⟩), rfl⟩⟩
        exact ⟨by first | omega | (simp; omega), by first | omega | (simp; omega)⟩
      try simp only [tdy] at h62
      refine AW_condF rfl ?_
      refine AW_skip ?_
      refine AW_seq ?_
      refine AW_shut 100 5 rfl rfl ?_
      refine AW_draw rfl ?_
      refine AL_p (x_move rfl rfl) ?_
      refine AL_p (x_move rfl rfl) ?_
      refine AL_p (x_slice (E := 5) (n := 1) rfl rfl (by kernel_rfl) rfl .no (.yes (l := (dBelow b cq ((l.length : Int) + 1)).1.toNat) rfl (by first | rfl | omega)) (by omega) (by first | omega | (simp only [List.length_set]; omega) | (simp; omega)) rfl) ?_
      refine AL_p (x_move rfl rfl) ?_
      refine AL_p (x_move rfl rfl) ?_
      refine AL_p (x_slice (E := 5) (n := 1) rfl rfl (by kernel_rfl) rfl (.yes (l := (dBelow b cq ((l.length : Int) + 1)).1.toNat) rfl (by first | rfl | omega)) .no (by first | omega | (simp only [List.length_set]; omega) | (simp; omega)) (by first | exact Nat.le_refl _ | omega) part_drop) ?_
      refine AL_p (x_assign rfl rfl) ?_
      refine AL_p (x_assign rfl rfl) ?_
      refine AL_nild (by kernel_rfl) ?_
      refine AW_ret ?_
      refine ⟨⟨_, _⟩, ?_, rn [], by exact ⟨⟨⟨_, rfl, VLe.rf⟩, ⟨_, rfl, VLe.rf⟩, trivial⟩, trivial, by repeat (first | exact trivial | refine ⟨⟨rfl, by first | (left; intro h; cases h) | (right; rfl), by first | exact (fun _ h => ⟨_, h⟩) | exact (fun _ _ => ⟨_, rfl⟩)⟩, ?_⟩), rfl⟩⟩
      exact ⟨by first | omega | (simp; omega), by first | omega | (simp; omega)⟩
    try simp only [tdy] at h51
    refine AW_condT rfl ?_
    refine AW_regionN ?_
    refine AN_p (x_move rfl rfl) ?_
    refine AN_p (x_move rfl rfl) ?_
    have d54 := dBelow_lt b (dByte b (dBelow b (dBelow b cq ((l.length : Int) + 1)).2 9).2).2 (n := 3) (by decide)
    refine AN_p (x_call (ks := []) (L := [(200, some _)]) (L' := [(200, some _)]) rfl rfl rfl (below_c b (dByte b (dBelow b (dBelow b cq ((l.length : Int) + 1)).2 9).2).2 hb 3) rfl AllV.rf (caught_of rfl) rfl rfl rfl ⟨rfl, trivial⟩ rfl) ?_
    refine AN_p (x_conv (k' := .u8) rfl rfl (by kernel_rfl) rfl) ?_
    refine AN_p (x_move rfl rfl) ?_
    refine AN_p (x_call (ks := []) (L := [(200, some _)]) (L' := [(200, some _)]) rfl rfl rfl (byte_c b (dBelow b (dByte b (dBelow b (dBelow b cq ((l.length : Int) + 1)).2 9).2).2 3).2 hb) rfl AllV.rf (caught_of rfl) rfl rfl rfl ⟨rfl, trivial⟩ rfl) ?_
    refine AN_p (x_conv (k' := .u8) rfl rfl (by kernel_rfl) rfl) ?_
    refine AN_p (y_bslice (E := 5) (e := (intE .u8)) [.const (.int .u8 (1)), .const (.int .u8 (2)), .tmp 55, .tmp 58, .const (.int .u8 (7))] ([_, _, _, _, _]) 103 rfl rfl rfl rfl rfl rfl rfl rfl FitL.rf rfl rfl rfl rfl rfl rfl (by kernel_rfl)) ?_
    refine AN_p (y_append 104 rfl rfl rfl rfl rfl rfl rfl rfl (by kernel_rfl) (by simp; omega)) ?_
    refine AN_p (x_assign rfl rfl) ?_
    refine AN_nil ?_
    refine AW_seq ?_
    refine AW_seq ?_
    refine AW_regionN ?_
    refine AN_p (x_move rfl rfl) ?_
    refine AN_b (x_eql rfl rfl rfl) (fun b62 h62 => ?_)
    refine AN_nil ?_
    cases b62
    rotate_left
    · try simp only [tdy] at h62
      refine AW_condT rfl ?_
      refine AW_seq ?_
      refine AW_regionN ?_
      refine AN_p (x_move rfl rfl) ?_
      have d64 := dBelow_lt b (dByte b (dBelow b (dByte b (dBelow b (dBelow b cq ((l.length : Int) + 1)).2 9).2).2 3).2).2 (n := 2) (by decide)
      refine AN_p (x_call (ks := []) (L := [(200, some _)]) (L' := [(200, some _)]) rfl rfl rfl (below_c b (dByte b (dBelow b (dByte b (dBelow b (dBelow b cq ((l.length : Int) + 1)).2 9).2).2 3).2).2 hb 2) rfl AllV.rf (caught_of rfl) rfl rfl rfl ⟨rfl, trivial⟩ rfl) ?_
      refine AN_p (x_add rfl rfl rfl (r := ((300 + (dBelow b (dByte b (dBelow b (dByte b (dBelow b (dBelow b cq ((l.length : Int) + 1)).2 9).2).2 3).2).2 2).1).toNat : Int)) (by rw [Int.toNat_of_nonneg (by omega)]; exact IntWalk.i64_in _ (by omega))) ?_
      refine AN_p (x_make (T := 22) (E := 5) (e := (intE .u8)) (0) (z := .int .u8 0) 105 rfl rfl rfl (by kernel_rfl) rfl FitL.rf rfl rfl (by kernel_rfl) (by omega)) ?_
      refine AN_p (x_move rfl rfl) ?_
      refine AN_p (x_assign rfl rfl) ?_
      refine AN_p (x_assign rfl rfl) ?_
      refine AN_nil ?_
      refine AW_shut 105 2 rfl rfl ?_
      refine AW_shut 104 3 rfl rfl ?_
      refine AW_ret ?_
      refine ⟨⟨_, _⟩, ?_, rn [], by exact ⟨⟨⟨_, rfl, VLe.rf⟩, ⟨_, rfl, VLe.rf⟩, trivial⟩, trivial, by repeat (first | exact trivial | refine ⟨⟨rfl, by first | (left; intro h; cases h) | (right; rfl), by first | exact (fun _ h => ⟨_, h⟩) | exact (fun _ _ => ⟨_, rfl⟩)⟩, ?_⟩), rfl⟩⟩
      exact ⟨by first | omega | (simp; omega), by first | omega | (simp; omega)⟩
    try simp only [tdy] at h62
    refine AW_condF rfl ?_
    refine AW_skip ?_
    refine AW_seq ?_
    refine AW_shut 104 5 rfl rfl ?_
    refine AW_draw rfl ?_
    refine AL_p (x_move rfl rfl) ?_
    refine AL_p (x_move rfl rfl) ?_
    refine AL_p (x_slice (E := 5) (n := 1) rfl rfl (by kernel_rfl) rfl .no (.yes (l := (dBelow b cq ((l.length : Int) + 1)).1.toNat) rfl (by first | rfl | omega)) (by omega) (by first | omega | (simp only [List.length_set]; omega) | (simp; omega)) rfl) ?_
    refine AL_p (x_move rfl rfl) ?_
    refine AL_p (x_move rfl rfl) ?_
    refine AL_p (x_slice (E := 5) (n := 1) rfl rfl (by kernel_rfl) rfl (.yes (l := (dBelow b cq ((l.length : Int) + 1)).1.toNat) rfl (by first | rfl | omega)) .no (by first | omega | (simp only [List.length_set]; omega) | (simp; omega)) (by first | exact Nat.le_refl _ | omega) part_drop) ?_
    refine AL_p (x_assign rfl rfl) ?_
    refine AL_p (x_assign rfl rfl) ?_
    refine AL_nild (by kernel_rfl) ?_
    refine AW_ret ?_
    refine ⟨⟨_, _⟩, ?_, rn [], by exact ⟨⟨⟨_, rfl, VLe.rf⟩, ⟨_, rfl, VLe.rf⟩, trivial⟩, trivial, by repeat (first | exact trivial | refine ⟨⟨rfl, by first | (left; intro h; cases h) | (right; rfl), by first | exact (fun _ h => ⟨_, h⟩) | exact (fun _ _ => ⟨_, rfl⟩)⟩, ?_⟩), rfl⟩⟩
    exact ⟨by first | omega | (simp; omega), by first | omega | (simp; omega)⟩
  try simp only [tdy] at h35
  refine AW_condT rfl ?_
  refine AW_regionN ?_
  refine AN_p (x_assign rfl rfl) ?_
  refine AN_nil ?_
  refine AW_seq ?_
  refine AW_regionN ?_
  refine AN_p (x_move rfl rfl) ?_
  have d37 := dBelow_lt b (dBelow b cq ((l.length : Int) + 1)).2 (n := 9) (by decide)
  refine AN_p (x_call (ks := []) (L := [(200, some _)]) (L' := [(200, some _)]) rfl rfl rfl (below_c b (dBelow b cq ((l.length : Int) + 1)).2 hb 9) rfl AllV.rf (caught_of rfl) rfl rfl rfl ⟨rfl, trivial⟩ rfl) ?_
  refine AN_p (x_assign rfl rfl) ?_
  refine AN_nil ?_
  refine AW_seq ?_
  refine AW_seq ?_
  refine AW_regionN ?_
  refine AN_p (x_move rfl rfl) ?_
  refine AN_b (x_eql rfl rfl rfl) (fun b39 h39 => ?_)
  refine AN_p (x_move rfl rfl) ?_
  cases b39
  · try simp only [tdy] at h39
    refine AN_o rfl rfl rfl rfl ?_
    refine AN_o rfl rfl rfl rfl ?_
    refine AN_o rfl rfl rfl rfl ?_
    refine AN_p (x_pickF rfl rfl rfl) ?_
    refine AN_nil ?_
    refine AW_condF rfl ?_
    refine AW_skip ?_
    refine AW_seq ?_
    refine AW_seq ?_
    refine AW_regionN ?_
    refine AN_p (x_move rfl rfl) ?_
    refine AN_b (x_eql rfl rfl rfl) (fun b51 h51 => ?_)
    refine AN_nil ?_
    cases b51
    · try simp only [tdy] at h51
      refine AW_condF rfl ?_
      refine AW_skip ?_
      refine AW_seq ?_
      refine AW_seq ?_
      refine AW_regionN ?_
      refine AN_p (x_move rfl rfl) ?_
      refine AN_b (x_eql rfl rfl rfl) (fun b62 h62 => ?_)
      refine AN_nil ?_
      cases b62
      rotate_left
      · try simp only [tdy] at h62
        refine AW_condT rfl ?_
        refine AW_seq ?_
        refine AW_regionN ?_
        refine AN_p (x_move rfl rfl) ?_
        have d64 := dBelow_lt b (dBelow b (dBelow b cq ((l.length : Int) + 1)).2 9).2 (n := 2) (by decide)
        refine AN_p (x_call (ks := []) (L := [(200, some _)]) (L' := [(200, some _)]) rfl rfl rfl (below_c b (dBelow b (dBelow b cq ((l.length : Int) + 1)).2 9).2 hb 2) rfl AllV.rf (caught_of rfl) rfl rfl rfl ⟨rfl, trivial⟩ rfl) ?_
        refine AN_p (x_add rfl rfl rfl (r := ((300 + (dBelow b (dBelow b (dBelow b cq ((l.length : Int) + 1)).2 9).2 2).1).toNat : Int)) (by rw [Int.toNat_of_nonneg (by omega)]; exact IntWalk.i64_in _ (by omega))) ?_
        refine AN_p (x_make (T := 22) (E := 5) (e := (intE .u8)) (0) (z := .int .u8 0) 105 rfl rfl rfl (by kernel_rfl) rfl FitL.rf rfl rfl (by kernel_rfl) (by omega)) ?_
        refine AN_p (x_move rfl rfl) ?_
        refine AN_p (x_assign rfl rfl) ?_
        refine AN_p (x_assign rfl rfl) ?_
        refine AN_nil ?_
        refine AW_shut 105 2 rfl rfl ?_
        refine AW_shut 100 3 rfl rfl ?_
        refine AW_ret ?_
        refine ⟨⟨_, _⟩, ?_, rn [], by exact ⟨⟨⟨_, rfl, VLe.rf⟩, ⟨_, rfl, VLe.rf⟩, trivial⟩, trivial, by repeat (first | exact trivial | refine ⟨⟨rfl, by first | (left; intro h; cases h) | (right; rfl), by first | exact (fun _ h => ⟨_, h⟩) | exact (fun _ _ => ⟨_, rfl⟩)⟩, ?_⟩), rfl⟩⟩
        exact ⟨by first | omega | (simp; omega), by first | omega | (simp; omega)⟩
      try simp only [tdy] at h62
      refine AW_condF rfl ?_
      refine AW_skip ?_
      refine AW_seq ?_
      refine AW_shut 100 5 rfl rfl ?_
      refine AW_draw rfl ?_
      refine AL_p (x_move rfl rfl) ?_
      refine AL_p (x_move rfl rfl) ?_
      refine AL_p (x_slice (E := 5) (n := 1) rfl rfl (by kernel_rfl) rfl .no (.yes (l := 200) rfl (by first | rfl | omega)) (by omega) (by first | omega | (simp only [List.length_set]; omega) | (simp; omega)) rfl) ?_
      refine AL_p (x_move rfl rfl) ?_
      refine AL_p (x_move rfl rfl) ?_
      refine AL_p (x_slice (E := 5) (n := 1) rfl rfl (by kernel_rfl) rfl (.yes (l := 200) rfl (by first | rfl | omega)) .no (by first | omega | (simp only [List.length_set]; omega) | (simp; omega)) (by first | exact Nat.le_refl _ | omega) part_drop) ?_
      refine AL_p (x_assign rfl rfl) ?_
      refine AL_p (x_assign rfl rfl) ?_
      refine AL_nild (by kernel_rfl) ?_
      refine AW_ret ?_
      refine ⟨⟨_, _⟩, ?_, rn [], by exact ⟨⟨⟨_, rfl, VLe.rf⟩, ⟨_, rfl, VLe.rf⟩, trivial⟩, trivial, by repeat (first | exact trivial | refine ⟨⟨rfl, by first | (left; intro h; cases h) | (right; rfl), by first | exact (fun _ h => ⟨_, h⟩) | exact (fun _ _ => ⟨_, rfl⟩)⟩, ?_⟩), rfl⟩⟩
      exact ⟨by first | omega | (simp; omega), by first | omega | (simp; omega)⟩
    try simp only [tdy] at h51
    refine AW_condT rfl ?_
    refine AW_regionN ?_
    refine AN_p (x_move rfl rfl) ?_
    refine AN_p (x_move rfl rfl) ?_
    have d54 := dBelow_lt b (dBelow b (dBelow b cq ((l.length : Int) + 1)).2 9).2 (n := 3) (by decide)
    refine AN_p (x_call (ks := []) (L := [(200, some _)]) (L' := [(200, some _)]) rfl rfl rfl (below_c b (dBelow b (dBelow b cq ((l.length : Int) + 1)).2 9).2 hb 3) rfl AllV.rf (caught_of rfl) rfl rfl rfl ⟨rfl, trivial⟩ rfl) ?_
    refine AN_p (x_conv (k' := .u8) rfl rfl (by kernel_rfl) rfl) ?_
    refine AN_p (x_move rfl rfl) ?_
    refine AN_p (x_call (ks := []) (L := [(200, some _)]) (L' := [(200, some _)]) rfl rfl rfl (byte_c b (dBelow b (dBelow b (dBelow b cq ((l.length : Int) + 1)).2 9).2 3).2 hb) rfl AllV.rf (caught_of rfl) rfl rfl rfl ⟨rfl, trivial⟩ rfl) ?_
    refine AN_p (x_conv (k' := .u8) rfl rfl (by kernel_rfl) rfl) ?_
    refine AN_p (y_bslice (E := 5) (e := (intE .u8)) [.const (.int .u8 (1)), .const (.int .u8 (2)), .tmp 55, .tmp 58, .const (.int .u8 (7))] ([_, _, _, _, _]) 103 rfl rfl rfl rfl rfl rfl rfl rfl FitL.rf rfl rfl rfl rfl rfl rfl (by kernel_rfl)) ?_
    refine AN_p (y_append 104 rfl rfl rfl rfl rfl rfl rfl rfl (by kernel_rfl) (by simp; omega)) ?_
    refine AN_p (x_assign rfl rfl) ?_
    refine AN_nil ?_
    refine AW_seq ?_
    refine AW_seq ?_
    refine AW_regionN ?_
    refine AN_p (x_move rfl rfl) ?_
    refine AN_b (x_eql rfl rfl rfl) (fun b62 h62 => ?_)
    refine AN_nil ?_
    cases b62
    rotate_left
    · try simp only [tdy] at h62
      refine AW_condT rfl ?_
      refine AW_seq ?_
      refine AW_regionN ?_
      refine AN_p (x_move rfl rfl) ?_
      have d64 := dBelow_lt b (dByte b (dBelow b (dBelow b (dBelow b cq ((l.length : Int) + 1)).2 9).2 3).2).2 (n := 2) (by decide)
      refine AN_p (x_call (ks := []) (L := [(200, some _)]) (L' := [(200, some _)]) rfl rfl rfl (below_c b (dByte b (dBelow b (dBelow b (dBelow b cq ((l.length : Int) + 1)).2 9).2 3).2).2 hb 2) rfl AllV.rf (caught_of rfl) rfl rfl rfl ⟨rfl, trivial⟩ rfl) ?_
      refine AN_p (x_add rfl rfl rfl (r := ((300 + (dBelow b (dByte b (dBelow b (dBelow b (dBelow b cq ((l.length : Int) + 1)).2 9).2 3).2).2 2).1).toNat : Int)) (by rw [Int.toNat_of_nonneg (by omega)]; exact IntWalk.i64_in _ (by omega))) ?_
      refine AN_p (x_make (T := 22) (E := 5) (e := (intE .u8)) (0) (z := .int .u8 0) 105 rfl rfl rfl (by kernel_rfl) rfl FitL.rf rfl rfl (by kernel_rfl) (by omega)) ?_
      refine AN_p (x_move rfl rfl) ?_
      refine AN_p (x_assign rfl rfl) ?_
      refine AN_p (x_assign rfl rfl) ?_
      refine AN_nil ?_
      refine AW_shut 105 2 rfl rfl ?_
      refine AW_shut 104 3 rfl rfl ?_
      refine AW_ret ?_
      refine ⟨⟨_, _⟩, ?_, rn [], by exact ⟨⟨⟨_, rfl, VLe.rf⟩, ⟨_, rfl, VLe.rf⟩, trivial⟩, trivial, by repeat (first | exact trivial | refine ⟨⟨rfl, by first | (left; intro h; cases h) | (right; rfl), by first | exact (fun _ h => ⟨_, h⟩) | exact (fun _ _ => ⟨_, rfl⟩)⟩, ?_⟩), rfl⟩⟩
      exact ⟨by first | omega | (simp; omega), by first | omega | (simp; omega)⟩
    try simp only [tdy] at h62
    refine AW_condF rfl ?_
    refine AW_skip ?_
    refine AW_seq ?_
    refine AW_shut 104 5 rfl rfl ?_
    refine AW_draw rfl ?_
    refine AL_p (x_move rfl rfl) ?_
    refine AL_p (x_move rfl rfl) ?_
    refine AL_p (x_slice (E := 5) (n := 1) rfl rfl (by kernel_rfl) rfl .no (.yes (l := 200) rfl (by first | rfl | omega)) (by omega) (by first | omega | (simp only [List.length_set]; omega) | (simp; omega)) rfl) ?_
    refine AL_p (x_move rfl rfl) ?_
    refine AL_p (x_move rfl rfl) ?_
    refine AL_p (x_slice (E := 5) (n := 1) rfl rfl (by kernel_rfl) rfl (.yes (l := 200) rfl (by first | rfl | omega)) .no (by first | omega | (simp only [List.length_set]; omega) | (simp; omega)) (by first | exact Nat.le_refl _ | omega) part_drop) ?_
    refine AL_p (x_assign rfl rfl) ?_
    refine AL_p (x_assign rfl rfl) ?_
    refine AL_nild (by kernel_rfl) ?_
    refine AW_ret ?_
    refine ⟨⟨_, _⟩, ?_, rn [], by exact ⟨⟨⟨_, rfl, VLe.rf⟩, ⟨_, rfl, VLe.rf⟩, trivial⟩, trivial, by repeat (first | exact trivial | refine ⟨⟨rfl, by first | (left; intro h; cases h) | (right; rfl), by first | exact (fun _ h => ⟨_, h⟩) | exact (fun _ _ => ⟨_, rfl⟩)⟩, ?_⟩), rfl⟩⟩
    exact ⟨by first | omega | (simp; omega), by first | omega | (simp; omega)⟩
  try simp only [tdy] at h39
  refine AN_g rfl rfl (x_move rfl rfl) ?_
  refine AN_g rfl rfl (x_olen (E := 5) (n := 1) rfl rfl rfl (by kernel_rfl)) ?_
  refine AN_gb rfl rfl (x_gtr rfl rfl rfl) (fun b43 h43 => ?_)
  refine AN_p (x_pickT rfl rfl rfl) ?_
  refine AN_nil ?_
  cases b43
  · try simp only [tdy] at h43
    refine AW_condF rfl ?_
    refine AW_skip ?_
    refine AW_seq ?_
    refine AW_seq ?_
    refine AW_regionN ?_
    refine AN_p (x_move rfl rfl) ?_
    refine AN_b (x_eql rfl rfl rfl) (fun b51 h51 => ?_)
    refine AN_nil ?_
    cases b51
    · try simp only [tdy] at h51
      refine AW_condF rfl ?_
      refine AW_skip ?_
      refine AW_seq ?_
      refine AW_seq ?_
      refine AW_regionN ?_
      refine AN_p (x_move rfl rfl) ?_
      refine AN_b (x_eql rfl rfl rfl) (fun b62 h62 => ?_)
      refine AN_nil ?_
      cases b62
      rotate_left
      · try simp only [tdy] at h62
        refine AW_condT rfl ?_
        refine AW_seq ?_
        refine AW_regionN ?_
        refine AN_p (x_move rfl rfl) ?_
        have d64 := dBelow_lt b (dBelow b (dBelow b cq ((l.length : Int) + 1)).2 9).2 (n := 2) (by decide)
        refine AN_p (x_call (ks := []) (L := [(200, some _)]) (L' := [(200, some _)]) rfl rfl rfl (below_c b (dBelow b (dBelow b cq ((l.length : Int) + 1)).2 9).2 hb 2) rfl AllV.rf (caught_of rfl) rfl rfl rfl ⟨rfl, trivial⟩ rfl) ?_
        refine AN_p (x_add rfl rfl rfl (r := ((300 + (dBelow b (dBelow b (dBelow b cq ((l.length : Int) + 1)).2 9).2 2).1).toNat : Int)) (by rw [Int.toNat_of_nonneg (by omega)]; exact IntWalk.i64_in _ (by omega))) ?_
        refine AN_p (x_make (T := 22) (E := 5) (e := (intE .u8)) (0) (z := .int .u8 0) 105 rfl rfl rfl (by kernel_rfl) rfl FitL.rf rfl rfl (by kernel_rfl) (by omega)) ?_
        refine AN_p (x_move rfl rfl) ?_
        refine AN_p (x_assign rfl rfl) ?_
        refine AN_p (x_assign rfl rfl) ?_
        refine AN_nil ?_
        refine AW_shut 105 2 rfl rfl ?_
        refine AW_shut 100 3 rfl rfl ?_
        refine AW_ret ?_
        refine ⟨⟨_, _⟩, ?_, rn [], by exact ⟨⟨⟨_, rfl, VLe.rf⟩, ⟨_, rfl, VLe.rf⟩, trivial⟩, trivial, by repeat (first | exact trivial | refine ⟨⟨rfl, by first | (left; intro h; cases h) | (right; rfl), by first | exact (fun _ h => ⟨_, h⟩) | exact (fun _ _ => ⟨_, rfl⟩)⟩, ?_⟩), rfl⟩⟩
        exact ⟨by first | omega | (simp; omega), by first | omega | (simp; omega)⟩
      try simp only [tdy] at h62
      refine AW_condF rfl ?_
      refine AW_skip ?_
      refine AW_seq ?_
      refine AW_shut 100 5 rfl rfl ?_
      refine AW_draw rfl ?_
      refine AL_p (x_move rfl rfl) ?_
      refine AL_p (x_move rfl rfl) ?_
      refine AL_p (x_slice (E := 5) (n := 1) rfl rfl (by kernel_rfl) rfl .no (.yes (l := 200) rfl (by first | rfl | omega)) (by omega) (by first | omega | (simp only [List.length_set]; omega) | (simp; omega)) rfl) ?_
      refine AL_p (x_move rfl rfl) ?_
      refine AL_p (x_move rfl rfl) ?_
      refine AL_p (x_slice (E := 5) (n := 1) rfl rfl (by kernel_rfl) rfl (.yes (l := 200) rfl (by first | rfl | omega)) .no (by first | omega | (simp only [List.length_set]; omega) | (simp; omega)) (by first | exact Nat.le_refl _ | omega) part_drop) ?_
      refine AL_p (x_assign rfl rfl) ?_
      refine AL_p (x_assign rfl rfl) ?_
      refine AL_nild (by kernel_rfl) ?_
      refine AW_ret ?_
      refine ⟨⟨_, _⟩, ?_, rn [], by exact ⟨⟨⟨_, rfl, VLe.rf⟩, ⟨_, rfl, VLe.rf⟩, trivial⟩, trivial, by repeat (first | exact trivial | refine ⟨⟨rfl, by first | (left; intro h; cases h) | (right; rfl), by first | exact (fun _ h => ⟨_, h⟩) | exact (fun _ _ => ⟨_, rfl⟩)⟩, ?_⟩), rfl⟩⟩
      exact ⟨by first | omega | (simp; omega), by first | omega | (simp; omega)⟩
    try simp only [tdy] at h51
    refine AW_condT rfl ?_
    refine AW_regionN ?_
    refine AN_p (x_move rfl rfl) ?_
    refine AN_p (x_move rfl rfl) ?_
    have d54 := dBelow_lt b (dBelow b (dBelow b cq ((l.length : Int) + 1)).2 9).2 (n := 3) (by decide)
    refine AN_p (x_call (ks := []) (L := [(200, some _)]) (L' := [(200, some _)]) rfl rfl rfl (below_c b (dBelow b (dBelow b cq ((l.length : Int) + 1)).2 9).2 hb 3) rfl AllV.rf (caught_of rfl) rfl rfl rfl ⟨rfl, trivial⟩ rfl) ?_
    refine AN_p (x_conv (k' := .u8) rfl rfl (by kernel_rfl) rfl) ?_
    refine AN_p (x_move rfl rfl) ?_
    refine AN_p (x_call (ks := []) (L := [(200, some _)]) (L' := [(200, some _)]) rfl rfl rfl (byte_c b (dBelow b (dBelow b (dBelow b cq ((l.length : Int) + 1)).2 9).2 3).2 hb) rfl AllV.rf (caught_of rfl) rfl rfl rfl ⟨rfl, trivial⟩ rfl) ?_
    refine AN_p (x_conv (k' := .u8) rfl rfl (by kernel_rfl) rfl) ?_
    refine AN_p (y_bslice (E := 5) (e := (intE .u8)) [.const (.int .u8 (1)), .const (.int .u8 (2)), .tmp 55, .tmp 58, .const (.int .u8 (7))] ([_, _, _, _, _]) 103 rfl rfl rfl rfl rfl rfl rfl rfl FitL.rf rfl rfl rfl rfl rfl rfl (by kernel_rfl)) ?_
    refine AN_p (y_append 104 rfl rfl rfl rfl rfl rfl rfl rfl (by kernel_rfl) (by simp; omega)) ?_
    refine AN_p (x_assign rfl rfl) ?_
    refine AN_nil ?_
    refine AW_seq ?_
    refine AW_seq ?_
    refine AW_regionN ?_
    refine AN_p (x_move rfl rfl) ?_
    refine AN_b (x_eql rfl rfl rfl) (fun b62 h62 => ?_)
    refine AN_nil ?_
    cases b62
    rotate_left
    · try simp only [tdy] at h62
      refine AW_condT rfl ?_
      refine AW_seq ?_
      refine AW_regionN ?_
      refine AN_p (x_move rfl rfl) ?_
      have d64 := dBelow_lt b (dByte b (dBelow b (dBelow b (dBelow b cq ((l.length : Int) + 1)).2 9).2 3).2).2 (n := 2) (by decide)
      refine AN_p (x_call (ks := []) (L := [(200, some _)]) (L' := [(200, some _)]) rfl rfl rfl (below_c b (dByte b (dBelow b (dBelow b (dBelow b cq ((l.length : Int) + 1)).2 9).2 3).2).2 hb 2) rfl AllV.rf (caught_of rfl) rfl rfl rfl ⟨rfl, trivial⟩ rfl) ?_
      refine AN_p (x_add rfl rfl rfl (r := ((300 + (dBelow b (dByte b (dBelow b (dBelow b (dBelow b cq ((l.length : Int) + 1)).2 9).2 3).2).2 2).1).toNat : Int)) (by rw [Int.toNat_of_nonneg (by omega)]; exact IntWalk.i64_in _ (by omega))) ?_
      refine AN_p (x_make (T := 22) (E := 5) (e := (intE .u8)) (0) (z := .int .u8 0) 105 rfl rfl rfl (by kernel_rfl) rfl FitL.rf rfl rfl (by kernel_rfl) (by omega)) ?_
      refine AN_p (x_move rfl rfl) ?_
      refine AN_p (x_assign rfl rfl) ?_
      refine AN_p (x_assign rfl rfl) ?_
      refine AN_nil ?_
      refine AW_shut 105 2 rfl rfl ?_
      refine AW_shut 104 3 rfl rfl ?_
      refine AW_ret ?_
      refine ⟨⟨_, _⟩, ?_, rn [], by exact ⟨⟨⟨_, rfl, VLe.rf⟩, ⟨_, rfl, VLe.rf⟩, trivial⟩, trivial, by repeat (first | exact trivial | refine ⟨⟨rfl, by first | (left; intro h; cases h) | (right; rfl), by first | exact (fun _ h => ⟨_, h⟩) | exact (fun _ _ => ⟨_, rfl⟩)⟩, ?_⟩), rfl⟩⟩
      exact ⟨by first | omega | (simp; omega), by first | omega | (simp; omega)⟩
    try simp only [tdy] at h62
    refine AW_condF rfl ?_
    refine AW_skip ?_
    refine AW_seq ?_
    refine AW_shut 104 5 rfl rfl ?_
    refine AW_draw rfl ?_
    refine AL_p (x_move rfl rfl) ?_
    refine AL_p (x_move rfl rfl) ?_
    refine AL_p (x_slice (E := 5) (n := 1) rfl rfl (by kernel_rfl) rfl .no (.yes (l := 200) rfl (by first | rfl | omega)) (by omega) (by first | omega | (simp only [List.length_set]; omega) | (simp; omega)) rfl) ?_
    refine AL_p (x_move rfl rfl) ?_
    refine AL_p (x_move rfl rfl) ?_
    refine AL_p (x_slice (E := 5) (n := 1) rfl rfl (by kernel_rfl) rfl (.yes (l := 200) rfl (by first | rfl | omega)) .no (by first | omega | (simp only [List.length_set]; omega) | (simp; omega)) (by first | exact Nat.le_refl _ | omega) part_drop) ?_
    refine AL_p (x_assign rfl rfl) ?_
    refine AL_p (x_assign rfl rfl) ?_
    refine AL_nild (by kernel_rfl) ?_
    refine AW_ret ?_
    refine ⟨⟨_, _⟩, ?_, rn [], by exact ⟨⟨⟨_, rfl, VLe.rf⟩, ⟨_, rfl, VLe.rf⟩, trivial⟩, trivial, by repeat (first | exact trivial | refine ⟨⟨rfl, by first | (left; intro h; cases h) | (right; rfl), by first | exact (fun _ h => ⟨_, h⟩) | exact (fun _ _ => ⟨_, rfl⟩)⟩, ?_⟩), rfl⟩⟩
    exact ⟨by first | omega | (simp; omega), by first | omega | (simp; omega)⟩
  try simp only [tdy] at h43
  refine AW_condT rfl ?_
  refine AW_regionN ?_
  refine AN_p (x_move rfl rfl) ?_
  refine AN_p (x_move rfl rfl) ?_
  refine AN_p (x_call (ks := []) (L := [(200, some _)]) (L' := [(200, some _)]) rfl rfl rfl (byte_c b (dBelow b (dBelow b cq ((l.length : Int) + 1)).2 9).2 hb) rfl AllV.rf (caught_of rfl) rfl rfl rfl ⟨rfl, trivial⟩ rfl) ?_
  refine AN_p (x_conv (k' := .u8) rfl rfl (by kernel_rfl) rfl) ?_
  refine AN_p (x_oindex (n := 1) rfl rfl rfl rfl (by kernel_rfl) rfl (k := 3) rfl (by omega)) ?_
  refine AN_p (x_ostore (_) rfl rfl rfl rfl (by kernel_rfl) rfl rfl rfl rfl FitL.rf rfl rfl (by first | omega | (rw [filledTo_len (by omega)]; omega) | (simp; omega))) ?_
  refine AN_nil ?_
  refine AW_seq ?_
  refine AW_seq ?_
  refine AW_regionN ?_
  refine AN_p (x_move rfl rfl) ?_
  refine AN_b (x_eql rfl rfl rfl) (fun b51 h51 => ?_)
  refine AN_nil ?_
  cases b51
  · try simp only [tdy] at h51
    refine AW_condF rfl ?_
    refine AW_skip ?_
    refine AW_seq ?_
    refine AW_seq ?_
    refine AW_regionN ?_
    refine AN_p (x_move rfl rfl) ?_
    refine AN_b (x_eql rfl rfl rfl) (fun b62 h62 => ?_)
    refine AN_nil ?_
    cases b62
    rotate_left
    · try simp only [tdy] at h62
      refine AW_condT rfl ?_
      refine AW_seq ?_
      refine AW_regionN ?_
      refine AN_p (x_move rfl rfl) ?_
      have d64 := dBelow_lt b (dByte b (dBelow b (dBelow b cq ((l.length : Int) + 1)).2 9).2).2 (n := 2) (by decide)
      refine AN_p (x_call (ks := []) (L := [(200, some _)]) (L' := [(200, some _)]) rfl rfl rfl (below_c b (dByte b (dBelow b (dBelow b cq ((l.length : Int) + 1)).2 9).2).2 hb 2) rfl AllV.rf (caught_of rfl) rfl rfl rfl ⟨rfl, trivial⟩ rfl) ?_
      refine AN_p (x_add rfl rfl rfl (r := ((300 + (dBelow b (dByte b (dBelow b (dBelow b cq ((l.length : Int) + 1)).2 9).2).2 2).1).toNat : Int)) (by rw [Int.toNat_of_nonneg (by omega)]; exact IntWalk.i64_in _ (by omega))) ?_
      refine AN_p (x_make (T := 22) (E := 5) (e := (intE .u8)) (0) (z := .int .u8 0) 105 rfl rfl rfl (by kernel_rfl) rfl FitL.rf rfl rfl (by kernel_rfl) (by omega)) ?_
      refine AN_p (x_move rfl rfl) ?_
      refine AN_p (x_assign rfl rfl) ?_
      refine AN_p (x_assign rfl rfl) ?_
      refine AN_nil ?_
      refine AW_shut 105 2 rfl rfl ?_
      refine AW_shut 100 3 rfl rfl ?_
      refine AW_ret ?_
      refine ⟨⟨_, _⟩, ?_, rn [], by exact ⟨⟨⟨_, rfl, VLe.rf⟩, ⟨_, rfl, VLe.rf⟩, trivial⟩, trivial, by repeat (first | exact trivial | refine ⟨⟨rfl, by first | (left; intro h; cases h) | (right; rfl), by first | exact (fun _ h => ⟨_, h⟩) | exact (fun _ _ => ⟨_, rfl⟩)⟩, ?_⟩), rfl⟩⟩
      exact ⟨by first | omega | (simp; omega), by first | omega | (simp; omega)⟩
    try simp only [tdy] at h62
    refine AW_condF rfl ?_
    refine AW_skip ?_
    refine AW_seq ?_
    refine AW_shut 100 5 rfl rfl ?_
    refine AW_draw rfl ?_
    refine AL_p (x_move rfl rfl) ?_
    refine AL_p (x_move rfl rfl) ?_
    refine AL_p (x_slice (E := 5) (n := 1) rfl rfl (by kernel_rfl) rfl .no (.yes (l := 200) rfl (by first | rfl | omega)) (by omega) (by first | omega | (simp only [List.length_set]; omega) | (simp; omega)) rfl) ?_
    refine AL_p (x_move rfl rfl) ?_
    refine AL_p (x_move rfl rfl) ?_
    refine AL_p (x_slice (E := 5) (n := 1) rfl rfl (by kernel_rfl) rfl (.yes (l := 200) rfl (by first | rfl | omega)) .no (by first | omega | (simp only [List.length_set]; omega) | (simp; omega)) (by first | exact Nat.le_refl _ | omega) part_drop) ?_
    refine AL_p (x_assign rfl rfl) ?_
    refine AL_p (x_assign rfl rfl) ?_
    refine AL_nild (by kernel_rfl) ?_
    refine AW_ret ?_
    refine ⟨⟨_, _⟩, ?_, rn [], by exact ⟨⟨⟨_, rfl, VLe.rf⟩, ⟨_, rfl, VLe.rf⟩, trivial⟩, trivial, by repeat (first | exact trivial | refine ⟨⟨rfl, by first | (left; intro h; cases h) | (right; rfl), by first | exact (fun _ h => ⟨_, h⟩) | exact (fun _ _ => ⟨_, rfl⟩)⟩, ?_⟩), rfl⟩⟩
    exact ⟨by first | omega | (simp; omega), by first | omega | (simp; omega)⟩
  try simp only [tdy] at h51
  refine AW_condT rfl ?_
  refine AW_regionN ?_
  refine AN_p (x_move rfl rfl) ?_
  refine AN_p (x_move rfl rfl) ?_
  have d54 := dBelow_lt b (dByte b (dBelow b (dBelow b cq ((l.length : Int) + 1)).2 9).2).2 (n := 3) (by decide)
  refine AN_p (x_call (ks := []) (L := [(200, some _)]) (L' := [(200, some _)]) rfl rfl rfl (below_c b (dByte b (dBelow b (dBelow b cq ((l.length : Int) + 1)).2 9).2).2 hb 3) rfl AllV.rf (caught_of rfl) rfl rfl rfl ⟨rfl, trivial⟩ rfl) ?_
  refine AN_p (x_conv (k' := .u8) rfl rfl (by kernel_rfl) rfl) ?_
  refine AN_p (x_move rfl rfl) ?_
  refine AN_p (x_call (ks := []) (L := [(200, some _)]) (L' := [(200, some _)]) rfl rfl rfl (byte_c b (dBelow b (dByte b (dBelow b (dBelow b cq ((l.length : Int) + 1)).2 9).2).2 3).2 hb) rfl AllV.rf (caught_of rfl) rfl rfl rfl ⟨rfl, trivial⟩ rfl) ?_
  refine AN_p (x_conv (k' := .u8) rfl rfl (by kernel_rfl) rfl) ?_
  refine AN_p (y_bslice (E := 5) (e := (intE .u8)) [.const (.int .u8 (1)), .const (.int .u8 (2)), .tmp 55, .tmp 58, .const (.int .u8 (7))] ([_, _, _, _, _]) 103 rfl rfl rfl rfl rfl rfl rfl rfl FitL.rf rfl rfl rfl rfl rfl rfl (by kernel_rfl)) ?_
  refine AN_p (y_append 104 rfl rfl rfl rfl rfl rfl rfl rfl (by kernel_rfl) (by simp; omega)) ?_
  refine AN_p (x_assign rfl rfl) ?_
  refine AN_nil ?_
  refine AW_seq ?_
  refine AW_seq ?_
  refine AW_regionN ?_
  refine AN_p (x_move rfl rfl) ?_
  refine AN_b (x_eql rfl rfl rfl) (fun b62 h62 => ?_)
  refine AN_nil ?_
  cases b62
  rotate_left
  · try simp only [tdy] at h62
    refine AW_condT rfl ?_
    refine AW_seq ?_
    refine AW_regionN ?_
    refine AN_p (x_move rfl rfl) ?_
    have d64 := dBelow_lt b (dByte b (dBelow b (dByte b (dBelow b (dBelow b cq ((l.length : Int) + 1)).2 9).2).2 3).2).2 (n := 2) (by decide)
    refine AN_p (x_call (ks := []) (L := [(200, some _)]) (L' := [(200, some _)]) rfl rfl rfl (below_c b (dByte b (dBelow b (dByte b (dBelow b (dBelow b cq ((l.length : Int) + 1)).2 9).2).2 3).2).2 hb 2) rfl AllV.rf (caught_of rfl) rfl rfl rfl ⟨rfl, trivial⟩ rfl) ?_
    refine AN_p (x_add rfl rfl rfl (r := ((300 + (dBelow b (dByte b (dBelow b (dByte b (dBelow b (dBelow b cq ((l.length : Int) + 1)).2 9).2).2 3).2).2 2).1).toNat : Int)) (by rw [Int.toNat_of_nonneg (by omega)]; exact IntWalk.i64_in _ (by omega))) ?_
    refine AN_p (x_make (T := 22) (E := 5) (e := (intE .u8)) (0) (z := .int .u8 0) 105 rfl rfl rfl (by kernel_rfl) rfl FitL.rf rfl rfl (by kernel_rfl) (by omega)) ?_
    refine AN_p (x_move rfl rfl) ?_
    refine AN_p (x_assign rfl rfl) ?_
    refine AN_p (x_assign rfl rfl) ?_
    refine AN_nil ?_
    refine AW_shut 105 2 rfl rfl ?_
    refine AW_shut 104 3 rfl rfl ?_
    refine AW_ret ?_
    refine ⟨⟨_, _⟩, ?_, rn [], by exact ⟨⟨⟨_, rfl, VLe.rf⟩, ⟨_, rfl, VLe.rf⟩, trivial⟩, trivial, by repeat (first | exact trivial | refine ⟨⟨rfl, by first | (left; intro h; cases h) | (right; rfl), by first | exact (fun _ h => ⟨_, h⟩) | exact (fun _ _ => ⟨_, rfl⟩)⟩, ?_⟩), rfl⟩⟩
    exact ⟨by first | omega | (simp; omega), by first | omega | (simp; omega)⟩
  try simp only [tdy] at h62
  refine AW_condF rfl ?_
  refine AW_skip ?_
  refine AW_seq ?_
  refine AW_shut 104 5 rfl rfl ?_
  refine AW_draw rfl ?_
  refine AL_p (x_move rfl rfl) ?_
  refine AL_p (x_move rfl rfl) ?_
  refine AL_p (x_slice (E := 5) (n := 1) rfl rfl (by kernel_rfl) rfl .no (.yes (l := 200) rfl (by first | rfl | omega)) (by omega) (by first | omega | (simp only [List.length_set]; omega) | (simp; omega)) rfl) ?_
  refine AL_p (x_move rfl rfl) ?_
  refine AL_p (x_move rfl rfl) ?_
  refine AL_p (x_slice (E := 5) (n := 1) rfl rfl (by kernel_rfl) rfl (.yes (l := 200) rfl (by first | rfl | omega)) .no (by first | omega | (simp only [List.length_set]; omega) | (simp; omega)) (by first | exact Nat.le_refl _ | omega) part_drop) ?_
  refine AL_p (x_assign rfl rfl) ?_
  refine AL_p (x_assign rfl rfl) ?_
  refine AL_nild (by kernel_rfl) ?_
  refine AW_ret ?_
  refine ⟨⟨_, _⟩, ?_, rn [], by exact ⟨⟨⟨_, rfl, VLe.rf⟩, ⟨_, rfl, VLe.rf⟩, trivial⟩, trivial, by repeat (first | exact trivial | refine ⟨⟨rfl, by first | (left; intro h; cases h) | (right; rfl), by first | exact (fun _ h => ⟨_, h⟩) | exact (fun _ _ => ⟨_, rfl⟩)⟩, ?_⟩), rfl⟩⟩
  exact ⟨by first | omega | (simp; omega), by first | omega | (simp; omega)⟩
end Go.Proofs.Ytfdpigafekohgaa

/- Parts of a stream of messages, in plain words. -/
namespace Go.Proofs.Ytfdpigafekohgaa
open Go.RowKit
set_option linter.unusedVariables false

structure Partt where
  b : List Int
def partE : Enc Partt := isoE (pairE (sliceE (intE .u8)) unitE) (fun x => (x.b, ()))
def partC (x : Partt) : List Cell := [.sl (intE .u8) x.b]
instance : CellsOf partE partC := cellsIso (e := (pairE (sliceE (intE .u8)) unitE)) (fun x : Partt => (x.b, ()))
def cutN (r : List Int) : Int := bign ((r.drop 2).take 2)
def cutRun : Nat → List Int → List Partt → (List Partt × List Int) × Bool
  | 0, r, ps => ((ps, r), true)
  | f + 1, r, ps => if r.length < 4 then ((ps, r), true) else if cutN r < 12 ∨ 300 < cutN r then (([], []), false) else if (r.length : Int) < cutN r then ((ps, r), true) else cutRun f (r.drop (cutN r).toNat) (ps ++ [⟨r.take (cutN r).toNat⟩])
def cut (hold piece : List Int) : (List Partt × List Int) × Bool := if 300 < hold.length ∨ 60000 < piece.length then (([], []), false) else cutRun (hold ++ piece).length (hold ++ piece) []
theorem cut_no {hold piece : List Int} (h : 300 < (hold.length : Int) ∨ 60000 < (piece.length : Int)) : cut hold piece = (([], []), false) := if_pos (by omega)
theorem cut_ok {hold piece : List Int} (h : ¬ 300 < (hold.length : Int)) (h2 : ¬ 60000 < (piece.length : Int)) : cut hold piece = cutRun (hold ++ piece).length (hold ++ piece) [] := if_neg (by omega)
section
variable {f : Nat} {r : List Int} {ps : List Partt}
theorem cutRun_short (h : (r.length : Int) < 4) : cutRun f r ps = ((ps, r), true) := by
  cases f with
  | zero => rfl
  | succ f => exact if_pos (by omega)
theorem cutRun_bad (hf : r.length ≤ f) (hl : 4 ≤ (r.length : Int)) (h : cutN r < 12 ∨ 300 < cutN r) : cutRun f r ps = (([], []), false) := by
  cases f with
  | zero => omega
  | succ f => unfold cutRun; rw [if_neg (by omega), if_pos h]
theorem cutRun_stop (hf : r.length ≤ f) (hl : 4 ≤ (r.length : Int)) (h1 : 12 ≤ cutN r) (h2 : cutN r ≤ 300) (h : (r.length : Int) < cutN r) : cutRun f r ps = ((ps, r), true) := by
  cases f with
  | zero => omega
  | succ f => unfold cutRun; rw [if_neg (by omega), if_neg (by omega), if_pos h]
theorem cutRun_more (hf : r.length ≤ f) (hl : 4 ≤ (r.length : Int)) (h1 : 12 ≤ cutN r) (h2 : cutN r ≤ 300) (h : cutN r ≤ (r.length : Int)) : cutRun f r ps = cutRun (f - 1) (r.drop (cutN r).toNat) (ps ++ [⟨r.take (cutN r).toNat⟩]) := by
  cases f with
  | zero => omega
  | succ f => conv => lhs; unfold cutRun
              rw [if_neg (by omega), if_neg (by omega), if_neg (by omega)]; rfl
theorem getS_cut (h : 4 ≤ (r.length : Int)) : getS r 2 2 = cutN r := by
  unfold getS cutN
  rw [if_pos (by omega)]; rfl
end
end Go.Proofs.Ytfdpigafekohgaa

/- Parts (printed by walk.py) -/
namespace Go.Proofs.Ytfdpigafekohgaa
open Go.RowKit
set_option linter.unusedVariables false
set_option linter.unusedSimpArgs false
set_option maxRecDepth 100000

set_option maxHeartbeats 4000000 in
theorem cloneB_c0 (r : List Int) (hl : r.length ≤ 1048576) : AC Try.prog 55 [.one (.sl (intE .u8) r)] [] (.one (.own 0)) [(0, some (.arr 5 (intE .u8) r true))] := by
  refine AC_body1 Try.func55 rfl rfl Try.ntmps55 rfl Try.results55 ?_
  refine AW_split 0 rfl (fun hx => ?_) ?_
  · subst hx
    refine AW_seq ?_
    refine AW_region ?_
    refine AL_p (x_assign rfl rfl) ?_
    refine AL_nil ?_
    refine AW_seq ?_
    refine AW_seq ?_
    refine AW_region ?_
    refine AL_p (x_move rfl rfl) ?_
    refine AL_p (x_nilnil rfl rfl rfl (E := 5) (n := 1) (by kernel_rfl)) ?_
    refine AL_nil ?_
    refine AW_condT rfl ?_
    refine AW_seq ?_
    refine AW_region ?_
    refine AL_p (x_assign rfl rfl) ?_
    refine AL_nil ?_
    refine AW_adoptT (T := 5) (e := (intE .u8)) 100 2 rfl rfl rfl ?_
    refine AW_ret ?_
    exact ⟨rn [(0, 100)], ⟨⟨⟨_, rfl, VLe.rf⟩, trivial⟩, ⟨⟨_, rfl, BLe.rf⟩, trivial⟩, trivial, rfl⟩⟩
  · refine AW_seq ?_
    refine AW_region ?_
    refine AL_p (x_assign rfl rfl) ?_
    refine AL_nil ?_
    refine AW_seq ?_
    refine AW_seq ?_
    refine AW_region ?_
    refine AL_p (x_move rfl rfl) ?_
    refine AL_p (x_snnil rfl rfl rfl (E := 5) (n := 1) (by kernel_rfl)) ?_
    refine AL_nil ?_
    refine AW_condF rfl ?_
    refine AW_skip ?_
    refine AW_seq ?_
    refine AW_region ?_
    refine AL_p (y_bslice0 (E := 5) (e := (intE .u8)) 101 rfl rfl rfl (by kernel_rfl)) ?_
    refine AL_p (x_move_sn rfl rfl) ?_
    refine AL_p (y_append_sl 102 true (.inr intE_nofp) rfl rfl rfl rfl rfl rfl (by kernel_rfl) (by simp; omega)) ?_
    refine AL_p (x_assign rfl rfl) ?_
    refine AL_nil ?_
    refine AW_ret ?_
    exact ⟨rn [(0, 102)], ⟨⟨⟨_, rfl, VLe.rf⟩, trivial⟩, ⟨⟨_, rfl, BLe.rf⟩, trivial⟩, trivial, rfl⟩⟩
theorem cloneB_c (r : List Int) (hl : r.length ≤ 1048576) (k : Nat) : AC Try.prog 55 [.one (.sl (intE .u8) r)] [] (.one (.own k)) [(k, some (.arr 5 (intE .u8) r true))] := AC.at (cloneB_c0 r hl) k

set_option maxHeartbeats 4000000 in
theorem cutI_c (hold piece : List Int) : AC Try.prog 14 [.one (.sl (intE .u8) hold), .one (.sl (intE .u8) piece)] [] (.tup [.one (.own 0), .one (.own 1), .one (.c (.bool (cut hold piece).2))]) [(0, some (.arr 34 partE (cut hold piece).1.1 true)), (1, some (.arr 5 (intE .u8) (cut hold piece).1.2 true))] := by
  refine AC_body3 Try.func14 rfl rfl Try.ntmps14 rfl Try.results14 rfl rfl rfl rfl rfl rfl ?_
  refine AW_slmax 0 rfl (fun hm0 => ?_)
  refine AW_slmax 1 rfl (fun hm1 => ?_)
  refine AW_seq ?_
  refine AW_region ?_
  refine AL_p (x_assign rfl rfl) ?_
  refine AL_p (x_assign rfl rfl) ?_
  refine AL_p (x_assign rfl rfl) ?_
  refine AL_nil ?_
  refine AW_seq ?_
  refine AW_seq ?_
  refine AW_region ?_
  refine AL_p (x_move rfl rfl) ?_
  refine AL_p (x_len (E := 5) (n := 1) rfl rfl (by kernel_rfl)) ?_
  refine AL_b (x_gtr rfl rfl rfl) (fun b12 h12 => ?_)
  refine AL_p (x_move rfl rfl) ?_
  cases b12
  rotate_left
  · try simp only [tdy] at h12
    have hno := cut_no (hold := hold) (piece := piece) (.inl (by omega))
    refine AL_o rfl rfl rfl rfl ?_
    refine AL_o rfl rfl rfl rfl ?_
    refine AL_o rfl rfl rfl rfl ?_
    refine AL_p (x_pickT rfl rfl rfl) ?_
    refine AL_nil ?_
    refine AW_condT rfl ?_
    refine AW_seq ?_
    refine AW_region ?_
    refine AL_p (x_assign rfl rfl) ?_
    refine AL_p (x_assign rfl rfl) ?_
    refine AL_p (x_assign rfl rfl) ?_
    refine AL_nil ?_
    refine AW_adoptT (T := 34) (e := partE) 100 4 rfl rfl rfl ?_
    refine AW_adoptT (T := 5) (e := (intE .u8)) 101 5 rfl rfl rfl ?_
    refine AW_ret ?_
    exact ⟨rn [(0, 100), (1, 101)], ⟨⟨⟨_, rfl, VLe.rf⟩, ⟨_, rfl, VLe.rf⟩, ⟨_, rfl, by refine vle_bool ?_; rw [hno]⟩, trivial⟩, ⟨⟨_, rfl, by refine BLe.arr ?_; rw [hno]⟩, ⟨_, rfl, by refine BLe.arr ?_; rw [hno]⟩, trivial⟩, trivial, rfl⟩⟩
  try simp only [tdy] at h12
  refine AL_g rfl rfl (x_move rfl rfl) ?_
  refine AL_g rfl rfl (x_len (E := 5) (n := 1) rfl rfl (by kernel_rfl)) ?_
  refine AL_gb rfl rfl (x_gtr rfl rfl rfl) (fun b16 h16 => ?_)
  refine AL_p (x_pickF rfl rfl rfl) ?_
  refine AL_nil ?_
  cases b16
  rotate_left
  · try simp only [tdy] at h16
    have hno := cut_no (hold := hold) (piece := piece) (.inr (by omega))
    refine AW_condT rfl ?_
    refine AW_seq ?_
    refine AW_region ?_
    refine AL_p (x_assign rfl rfl) ?_
    refine AL_p (x_assign rfl rfl) ?_
    refine AL_p (x_assign rfl rfl) ?_
    refine AL_nil ?_
    refine AW_adoptT (T := 34) (e := partE) 100 4 rfl rfl rfl ?_
    refine AW_adoptT (T := 5) (e := (intE .u8)) 101 5 rfl rfl rfl ?_
    refine AW_ret ?_
    exact ⟨rn [(0, 100), (1, 101)], ⟨⟨⟨_, rfl, VLe.rf⟩, ⟨_, rfl, VLe.rf⟩, ⟨_, rfl, by refine vle_bool ?_; rw [hno]⟩, trivial⟩, ⟨⟨_, rfl, by refine BLe.arr ?_; rw [hno]⟩, ⟨_, rfl, by refine BLe.arr ?_; rw [hno]⟩, trivial⟩, trivial, rfl⟩⟩
  try simp only [tdy] at h16
  have hno0 := cut_ok (hold := hold) (piece := piece) (by omega) (by omega)
  refine AW_condF rfl ?_
  refine AW_skip ?_
  refine AW_seq ?_
  refine AW_region ?_
  refine AL_p (x_move rfl rfl) ?_
  refine AL_p (x_call1 rfl rfl rfl (cloneB_c hold (by omega) 102) rfl rfl rfl rfl) ?_
  refine AL_p (x_move rfl rfl) ?_
  refine AL_p (y_append_sl 103 true (.inr intE_nofp) rfl rfl rfl rfl rfl rfl (by kernel_rfl) (by omega)) ?_
  refine AL_p (x_assign rfl rfl) ?_
  refine AL_nil ?_
  refine AW_seq ?_
  refine AW_region ?_
  refine AL_p (y_bslice0 (E := 34) (e := partE) 104 rfl rfl rfl (by kernel_rfl)) ?_
  refine AL_p (x_assign rfl rfl) ?_
  refine AL_nil ?_
  refine AW_seq ?_
  refine AW_block ?_
  refine AW_shut 103 7 rfl rfl ?_
  refine AW_loop2 (ι := {q : Nat × List Int × List Partt // ((cut hold piece = cutRun (q.1) (q.2.1) (q.2.2) ∧ (q.2.1).length ≤ (q.1)) ∧ (q.2.1).length ≤ 60300) ∧ (q.2.2).length + (q.2.1).length ≤ 60300}) (fun p => [(7, .one (.sl (intE .u8) (p.1.2.1))), (8, .one (.own 104))]) (fun p => [(104, some (.arr 34 partE (p.1.2.2) true))]) [] [] (fun p => (p.1.2.1).length) ⟨⟨(hold ++ piece).length, hold ++ piece, []⟩, ⟨⟨⟨hno0, Nat.le_refl _⟩, by simp only [List.length_append]; omega⟩, by simp only [List.length_append, List.length_nil]; omega⟩⟩ (rn []) ?_ ?_
  exact ⟨by (repeat refine ⟨⟨_, rfl, by first | exact VLe.rf | exact vle_int (by dsimp only; omega)⟩, ?_⟩); exact trivial, by (repeat refine ⟨⟨_, rfl, by first | exact BLe.rf | exact BLe.box AllC.rf | exact BLe.arr (by exact rfl)⟩, ?_⟩); exact trivial, by repeat (first | exact trivial | refine ⟨⟨rfl, by first | (left; intro h; cases h) | (right; rfl), by first | exact (fun _ h => ⟨_, h⟩) | exact (fun _ _ => ⟨_, rfl⟩)⟩, ?_⟩), rfl⟩
  rintro ⟨⟨f, r, ps⟩, hinv⟩
  dsimp only
  obtain ⟨⟨⟨hrun, hf⟩, hr⟩, hp⟩ := hinv
  have hrun : cut hold piece = cutRun f r ps := hrun
  have hf : r.length ≤ f := hf
  have hr : r.length ≤ 60300 := hr
  have hp : ps.length + r.length ≤ 60300 := hp
  refine AW_seq ?_
  refine AW_seq ?_
  refine AW_region ?_
  refine AL_p (x_move rfl rfl) ?_
  refine AL_p (x_len (E := 5) (n := 1) rfl rfl (by kernel_rfl)) ?_
  refine AL_b (x_geq rfl rfl rfl) (fun b25 h25 => ?_)
  refine AL_nil ?_
  cases b25
  · try simp only [tdy] at h25
    have hno := hrun.trans (cutRun_short (by omega))
    refine AW_condF rfl ?_
    refine AW_exit (BQ_hit ?_)
    refine AW_seq ?_
    refine AW_region ?_
    refine AL_p (x_move rfl rfl) ?_
    refine AL_p (x_move rfl rfl) ?_
    refine AL_p (x_call1 rfl rfl rfl (cloneB_c r (by omega) 105) rfl rfl rfl rfl) ?_
    refine AL_p (x_assign rfl rfl) ?_
    refine AL_p (x_assign rfl rfl) ?_
    refine AL_p (x_assign rfl rfl) ?_
    refine AL_nil ?_
    refine AW_ret ?_
    exact ⟨rn [(0, 104), (1, 105)], ⟨⟨⟨_, rfl, VLe.rf⟩, ⟨_, rfl, VLe.rf⟩, ⟨_, rfl, by refine vle_bool ?_; rw [hno]⟩, trivial⟩, ⟨⟨_, rfl, by refine BLe.arr ?_; rw [hno]⟩, ⟨_, rfl, by refine BLe.arr ?_; rw [hno]⟩, trivial⟩, trivial, rfl⟩⟩
  try simp only [tdy] at h25
  have hcn : bign ((r.drop 2).take 2) = cutN r := rfl
  refine AW_condT rfl ?_
  refine AW_skip ?_
  refine AW_block ?_
  refine AW_seq ?_
  refine AW_region ?_
  refine AL_p (x_move rfl rfl) ?_
  refine AL_p (x_slice (E := 5) (n := 1) rfl rfl (by kernel_rfl) rfl (.yes (l := 2) rfl (by omega)) (.yes (l := 4) rfl (by omega)) (by omega) (by first | exact Nat.le_refl _ | omega) (show _ = (r.drop 2).take 2 from rfl)) ?_
  refine AL_p (x_call0 rfl rfl rfl (getI_c ((r.drop 2).take 2) (by simp; omega)) rfl rfl) ?_
  refine AL_p (x_assign rfl rfl) ?_
  refine AL_nil ?_
  refine AW_seq ?_
  refine AW_seq ?_
  refine AW_region ?_
  refine AL_p (x_move rfl rfl) ?_
  refine AL_b (x_lss rfl rfl rfl) (fun b30 h30 => ?_)
  refine AL_p (x_move rfl rfl) ?_
  cases b30
  rotate_left
  · try simp only [tdy] at h30
    have hno := hrun.trans (cutRun_bad hf (by omega) (.inl (by omega)))
    refine AL_o rfl rfl rfl rfl ?_
    refine AL_o rfl rfl rfl rfl ?_
    refine AL_p (x_pickT rfl rfl rfl) ?_
    refine AL_nil ?_
    refine AW_condT rfl ?_
    refine AW_seq ?_
    refine AW_region ?_
    refine AL_p (x_assign rfl rfl) ?_
    refine AL_p (x_assign rfl rfl) ?_
    refine AL_p (x_assign rfl rfl) ?_
    refine AL_nil ?_
    refine AW_adoptT (T := 34) (e := partE) 100 4 rfl rfl rfl ?_
    refine AW_adoptT (T := 5) (e := (intE .u8)) 101 5 rfl rfl rfl ?_
    refine AW_ret (BQ_ret (BQ_ret ?_))
    exact ⟨rn [(0, 100), (1, 101)], ⟨⟨⟨_, rfl, VLe.rf⟩, ⟨_, rfl, VLe.rf⟩, ⟨_, rfl, by refine vle_bool ?_; rw [hno]⟩, trivial⟩, ⟨⟨_, rfl, by refine BLe.arr ?_; rw [hno]⟩, ⟨_, rfl, by refine BLe.arr ?_; rw [hno]⟩, trivial⟩, trivial, rfl⟩⟩
  try simp only [tdy] at h30
  refine AL_g rfl rfl (x_move rfl rfl) ?_
  refine AL_gb rfl rfl (x_gtr rfl rfl rfl) (fun b33 h33 => ?_)
  refine AL_p (x_pickF rfl rfl rfl) ?_
  refine AL_nil ?_
  cases b33
  rotate_left
  · try simp only [tdy] at h33
    have hno := hrun.trans (cutRun_bad hf (by omega) (.inr (by omega)))
    refine AW_condT rfl ?_
    refine AW_seq ?_
    refine AW_region ?_
    refine AL_p (x_assign rfl rfl) ?_
    refine AL_p (x_assign rfl rfl) ?_
    refine AL_p (x_assign rfl rfl) ?_
    refine AL_nil ?_
    refine AW_adoptT (T := 34) (e := partE) 100 4 rfl rfl rfl ?_
    refine AW_adoptT (T := 5) (e := (intE .u8)) 101 5 rfl rfl rfl ?_
    refine AW_ret (BQ_ret (BQ_ret ?_))
    exact ⟨rn [(0, 100), (1, 101)], ⟨⟨⟨_, rfl, VLe.rf⟩, ⟨_, rfl, VLe.rf⟩, ⟨_, rfl, by refine vle_bool ?_; rw [hno]⟩, trivial⟩, ⟨⟨_, rfl, by refine BLe.arr ?_; rw [hno]⟩, ⟨_, rfl, by refine BLe.arr ?_; rw [hno]⟩, trivial⟩, trivial, rfl⟩⟩
  try simp only [tdy] at h33
  refine AW_condF rfl ?_
  refine AW_skip ?_
  refine AW_seq ?_
  refine AW_seq ?_
  refine AW_region ?_
  refine AL_p (x_move rfl rfl) ?_
  refine AL_p (x_move rfl rfl) ?_
  refine AL_p (x_len (E := 5) (n := 1) rfl rfl (by kernel_rfl)) ?_
  refine AL_b (x_gtr rfl rfl rfl) (fun b38 h38 => ?_)
  refine AL_nil ?_
  cases b38
  rotate_left
  · try simp only [tdy] at h38
    have hno := hrun.trans (cutRun_stop hf (by omega) (by omega) (by omega) (by omega))
    refine AW_condT rfl ?_
    refine AW_exit (BQ_miss rfl (BQ_hit ?_))
    refine AW_seq ?_
    refine AW_region ?_
    refine AL_p (x_move rfl rfl) ?_
    refine AL_p (x_move rfl rfl) ?_
    refine AL_p (x_call1 rfl rfl rfl (cloneB_c r (by omega) 105) rfl rfl rfl rfl) ?_
    refine AL_p (x_assign rfl rfl) ?_
    refine AL_p (x_assign rfl rfl) ?_
    refine AL_p (x_assign rfl rfl) ?_
    refine AL_nil ?_
    refine AW_ret ?_
    exact ⟨rn [(0, 104), (1, 105)], ⟨⟨⟨_, rfl, VLe.rf⟩, ⟨_, rfl, VLe.rf⟩, ⟨_, rfl, by refine vle_bool ?_; rw [hno]⟩, trivial⟩, ⟨⟨_, rfl, by refine BLe.arr ?_; rw [hno]⟩, ⟨_, rfl, by refine BLe.arr ?_; rw [hno]⟩, trivial⟩, trivial, rfl⟩⟩
  try simp only [tdy] at h38
  have hmore := cutRun_more (ps := ps) hf (by omega) (by omega) (by omega) (by omega)
  refine AW_condF rfl ?_
  refine AW_skip ?_
  refine AW_seq ?_
  refine AW_region ?_
  refine AL_p (x_move rfl rfl) ?_
  refine AL_p (x_move rfl rfl) ?_
  refine AL_p (x_move rfl rfl) ?_
  refine AL_p (x_slice (E := 5) (n := 1) rfl rfl (by kernel_rfl) rfl .no (.yes (l := (cutN r).toNat) rfl (by omega)) (by omega) (by first | exact Nat.le_refl _ | omega) (show _ = r.take (cutN r).toNat from rfl)) ?_
  refine AL_p (x_call1 rfl rfl rfl (cloneB_c (r.take (cutN r).toNat) (by simp; omega) 106) rfl rfl rfl rfl) ?_
  refine AL_p (x_build (zs := [.slice none 0 0]) (places := [(0, 1)]) rfl (by kernel_rfl) rfl rfl rfl rfl rfl) ?_
  refine AL_p (y_bslice (E := 34) (e := partE) [.tmp 44] ([⟨r.take (cutN r).toNat⟩]) 107 rfl rfl rfl rfl rfl rfl rfl rfl FitL.rf rfl rfl rfl rfl rfl rfl (by kernel_rfl)) ?_
  refine AL_p (y_append 108 rfl rfl rfl rfl rfl rfl rfl rfl (by kernel_rfl) (by simp only [List.length_cons, List.length_nil]; omega)) ?_
  refine AL_p (x_assign rfl rfl) ?_
  refine AL_nil ?_
  refine AW_region ?_
  refine AL_p (x_move rfl rfl) ?_
  refine AL_p (x_move rfl rfl) ?_
  refine AL_p (x_slice (E := 5) (n := 1) rfl rfl (by kernel_rfl) rfl (.yes (l := (cutN r).toNat) rfl (by omega)) .no (by omega) (by first | exact Nat.le_refl _ | omega) part_drop) ?_
  refine AL_p (x_assign rfl rfl) ?_
  refine AL_nil ?_
  refine ⟨⟨⟨f - 1, r.drop (cutN r).toNat, ps ++ [⟨r.take (cutN r).toNat⟩]⟩, ⟨⟨⟨hrun.trans hmore, by simp only [List.length_drop]; omega⟩, by simp only [List.length_drop]; omega⟩, by simp only [List.length_drop, List.length_append, List.length_cons, List.length_nil]; omega⟩⟩, rn [(104, 108)], ?_, by dsimp only; simp only [List.length_drop]; omega⟩
  exact ⟨by (repeat refine ⟨⟨_, rfl, by first | exact VLe.rf | exact vle_int (by dsimp only; omega)⟩, ?_⟩); exact trivial, by (repeat refine ⟨⟨_, rfl, by first | exact BLe.rf | exact BLe.box AllC.rf | exact BLe.arr (by exact rfl)⟩, ?_⟩); exact trivial, by repeat (first | exact trivial | refine ⟨⟨rfl, by first | (left; intro h; cases h) | (right; rfl), by first | exact (fun _ h => ⟨_, h⟩) | exact (fun _ _ => ⟨_, rfl⟩)⟩, ?_⟩), rfl⟩

set_option maxHeartbeats 4000000 in
theorem cutS_c (hold piece : List Int) : AC Try.prog 12 [.one (.sl (intE .u8) hold), .one (.sl (intE .u8) piece)] [] (.tup [.one (.own 0), .one (.own 1), .one (.c (.bool (cut hold piece).2))]) [(0, some (.arr 34 partE (cut hold piece).1.1 true)), (1, some (.arr 5 (intE .u8) (cut hold piece).1.2 true))] := by
  refine AC_body3 Try.func12 rfl rfl Try.ntmps12 rfl Try.results12 rfl rfl rfl rfl rfl rfl ?_
  refine AW_slmax 0 rfl (fun hm0 => ?_)
  refine AW_slmax 1 rfl (fun hm1 => ?_)
  refine AW_seq ?_
  refine AW_region ?_
  refine AL_p (x_assign rfl rfl) ?_
  refine AL_p (x_assign rfl rfl) ?_
  refine AL_p (x_assign rfl rfl) ?_
  refine AL_nil ?_
  refine AW_seq ?_
  refine AW_seq ?_
  refine AW_region ?_
  refine AL_p (x_move rfl rfl) ?_
  refine AL_p (x_len (E := 5) (n := 1) rfl rfl (by kernel_rfl)) ?_
  refine AL_b (x_gtr rfl rfl rfl) (fun b13 h13 => ?_)
  refine AL_p (x_move rfl rfl) ?_
  cases b13
  rotate_left
  · try simp only [tdy] at h13
    have hno := cut_no (hold := hold) (piece := piece) (.inl (by omega))
    refine AL_o rfl rfl rfl rfl ?_
    refine AL_o rfl rfl rfl rfl ?_
    refine AL_o rfl rfl rfl rfl ?_
    refine AL_p (x_pickT rfl rfl rfl) ?_
    refine AL_nil ?_
    refine AW_condT rfl ?_
    refine AW_seq ?_
    refine AW_region ?_
    refine AL_p (x_assign rfl rfl) ?_
    refine AL_p (x_assign rfl rfl) ?_
    refine AL_p (x_assign rfl rfl) ?_
    refine AL_nil ?_
    refine AW_adoptT (T := 34) (e := partE) 100 4 rfl rfl rfl ?_
    refine AW_adoptT (T := 5) (e := (intE .u8)) 101 5 rfl rfl rfl ?_
    refine AW_ret ?_
    exact ⟨rn [(0, 100), (1, 101)], ⟨⟨⟨_, rfl, VLe.rf⟩, ⟨_, rfl, VLe.rf⟩, ⟨_, rfl, by refine vle_bool ?_; rw [hno]⟩, trivial⟩, ⟨⟨_, rfl, by refine BLe.arr ?_; rw [hno]⟩, ⟨_, rfl, by refine BLe.arr ?_; rw [hno]⟩, trivial⟩, trivial, rfl⟩⟩
  try simp only [tdy] at h13
  refine AL_g rfl rfl (x_move rfl rfl) ?_
  refine AL_g rfl rfl (x_len (E := 5) (n := 1) rfl rfl (by kernel_rfl)) ?_
  refine AL_gb rfl rfl (x_gtr rfl rfl rfl) (fun b17 h17 => ?_)
  refine AL_p (x_pickF rfl rfl rfl) ?_
  refine AL_nil ?_
  cases b17
  rotate_left
  · try simp only [tdy] at h17
    have hno := cut_no (hold := hold) (piece := piece) (.inr (by omega))
    refine AW_condT rfl ?_
    refine AW_seq ?_
    refine AW_region ?_
    refine AL_p (x_assign rfl rfl) ?_
    refine AL_p (x_assign rfl rfl) ?_
    refine AL_p (x_assign rfl rfl) ?_
    refine AL_nil ?_
    refine AW_adoptT (T := 34) (e := partE) 100 4 rfl rfl rfl ?_
    refine AW_adoptT (T := 5) (e := (intE .u8)) 101 5 rfl rfl rfl ?_
    refine AW_ret ?_
    exact ⟨rn [(0, 100), (1, 101)], ⟨⟨⟨_, rfl, VLe.rf⟩, ⟨_, rfl, VLe.rf⟩, ⟨_, rfl, by refine vle_bool ?_; rw [hno]⟩, trivial⟩, ⟨⟨_, rfl, by refine BLe.arr ?_; rw [hno]⟩, ⟨_, rfl, by refine BLe.arr ?_; rw [hno]⟩, trivial⟩, trivial, rfl⟩⟩
  try simp only [tdy] at h17
  have hno0 := cut_ok (hold := hold) (piece := piece) (by omega) (by omega)
  refine AW_condF rfl ?_
  refine AW_skip ?_
  refine AW_seq ?_
  refine AW_region ?_
  refine AL_p (y_bslice0 (E := 5) (e := (intE .u8)) 102 rfl rfl rfl (by kernel_rfl)) ?_
  refine AL_p (x_move rfl rfl) ?_
  refine AL_p (y_append_sl 103 true (.inr intE_nofp) rfl rfl rfl rfl rfl rfl (by kernel_rfl) (by simp only [List.length_nil]; omega)) ?_
  refine AL_p (x_move rfl rfl) ?_
  refine AL_p (y_append_sl 104 true (.inr intE_nofp) rfl rfl rfl rfl rfl rfl (by kernel_rfl) (by simp only [List.length_append, List.length_nil]; omega)) ?_
  refine AL_p (x_assign rfl rfl) ?_
  refine AL_nil ?_
  refine AW_seq ?_
  refine AW_region ?_
  refine AL_p (y_bslice0 (E := 34) (e := partE) 105 rfl rfl rfl (by kernel_rfl)) ?_
  refine AL_p (x_assign rfl rfl) ?_
  refine AL_nil ?_
  refine AW_seq ?_
  refine AW_block ?_
  refine AW_loop2 (ι := {q : Nat × List Int × List Partt // ((cut hold piece = cutRun (q.1) (q.2.1) (q.2.2) ∧ (q.2.1).length ≤ (q.1)) ∧ (q.2.1).length ≤ 60300) ∧ (q.2.2).length + (q.2.1).length ≤ 60300}) (fun p => [(7, .one (.own 104)), (8, .one (.own 105))]) (fun p => [(104, some (.arr 5 (intE .u8) (p.1.2.1) true)), (105, some (.arr 34 partE (p.1.2.2) true))]) [] [] (fun p => (p.1.2.1).length) ⟨⟨(hold ++ piece).length, hold ++ piece, []⟩, ⟨⟨⟨hno0, Nat.le_refl _⟩, by simp only [List.length_append]; omega⟩, by simp only [List.length_append, List.length_nil]; omega⟩⟩ (rn []) ?_ ?_
  exact ⟨by (repeat refine ⟨⟨_, rfl, by first | exact VLe.rf | exact vle_int (by dsimp only; omega)⟩, ?_⟩); exact trivial, by (repeat refine ⟨⟨_, rfl, by first | exact BLe.rf | exact BLe.box AllC.rf | exact BLe.arr (by first | rfl | exact List.nil_append _ | (rw [List.nil_append]))⟩, ?_⟩); exact trivial, by repeat (first | exact trivial | refine ⟨⟨rfl, by first | (left; intro h; cases h) | (right; rfl), by first | exact (fun _ h => ⟨_, h⟩) | exact (fun _ _ => ⟨_, rfl⟩)⟩, ?_⟩), rfl⟩
  rintro ⟨⟨f, r, ps⟩, hinv⟩
  dsimp only
  obtain ⟨⟨⟨hrun, hf⟩, hr⟩, hp⟩ := hinv
  have hrun : cut hold piece = cutRun f r ps := hrun
  have hf : r.length ≤ f := hf
  have hr : r.length ≤ 60300 := hr
  have hp : ps.length + r.length ≤ 60300 := hp
  refine AW_seq ?_
  refine AW_seq ?_
  refine AW_region ?_
  refine AL_p (x_move rfl rfl) ?_
  refine AL_p (x_olen (E := 5) (n := 1) rfl rfl rfl (by kernel_rfl)) ?_
  refine AL_b (x_geq rfl rfl rfl) (fun b27 h27 => ?_)
  refine AL_nil ?_
  cases b27
  · try simp only [tdy] at h27
    have hno := hrun.trans (cutRun_short (by omega))
    refine AW_condF rfl ?_
    refine AW_exit (BQ_hit ?_)
    refine AW_seq ?_
    refine AW_region ?_
    refine AL_p (x_move rfl rfl) ?_
    refine AL_p (x_move rfl rfl) ?_
    refine AL_p (x_assign rfl rfl) ?_
    refine AL_p (x_assign rfl rfl) ?_
    refine AL_p (x_assign rfl rfl) ?_
    refine AL_nil ?_
    refine AW_ret ?_
    exact ⟨rn [(0, 105), (1, 104)], ⟨⟨⟨_, rfl, VLe.rf⟩, ⟨_, rfl, VLe.rf⟩, ⟨_, rfl, by refine vle_bool ?_; rw [hno]⟩, trivial⟩, ⟨⟨_, rfl, by refine BLe.arr ?_; rw [hno]⟩, ⟨_, rfl, by refine BLe.arr ?_; rw [hno]⟩, trivial⟩, trivial, rfl⟩⟩
  try simp only [tdy] at h27
  have hg := getS_cut (r := r) (by omega)
  refine AW_condT rfl ?_
  refine AW_skip ?_
  refine AW_block ?_
  refine AW_seq ?_
  refine AW_region ?_
  refine AL_p (x_move rfl rfl) ?_
  refine AL_p (x_callR rfl rfl rfl (getS_c r 2 2 (by omega) (by omega) (by omega) (by omega)) rfl AllV.rf rfl rfl rfl rfl rfl) ?_
  refine AL_p (x_move rfl rfl) ?_
  refine AL_p (x_extract rfl rfl rfl) ?_
  refine AL_p (x_extract rfl rfl rfl) ?_
  refine AL_p (x_assign rfl rfl) ?_
  refine AL_p (x_assign rfl rfl) ?_
  refine AL_nil ?_
  refine AW_seq ?_
  refine AW_seq ?_
  refine AW_region ?_
  refine AL_p (x_move rfl rfl) ?_
  refine AL_b (x_lss rfl rfl rfl) (fun b34 h34 => ?_)
  refine AL_p (x_move rfl rfl) ?_
  cases b34
  rotate_left
  · try simp only [tdy] at h34
    have hno := hrun.trans (cutRun_bad hf (by omega) (.inl (by omega)))
    refine AL_o rfl rfl rfl rfl ?_
    refine AL_o rfl rfl rfl rfl ?_
    refine AL_p (x_pickT rfl rfl rfl) ?_
    refine AL_nil ?_
    refine AW_condT rfl ?_
    refine AW_seq ?_
    refine AW_region ?_
    refine AL_p (x_assign rfl rfl) ?_
    refine AL_p (x_assign rfl rfl) ?_
    refine AL_p (x_assign rfl rfl) ?_
    refine AL_nil ?_
    refine AW_adoptT (T := 34) (e := partE) 100 4 rfl rfl rfl ?_
    refine AW_adoptT (T := 5) (e := (intE .u8)) 101 5 rfl rfl rfl ?_
    refine AW_ret (BQ_ret (BQ_ret ?_))
    exact ⟨rn [(0, 100), (1, 101)], ⟨⟨⟨_, rfl, VLe.rf⟩, ⟨_, rfl, VLe.rf⟩, ⟨_, rfl, by refine vle_bool ?_; rw [hno]⟩, trivial⟩, ⟨⟨_, rfl, by refine BLe.arr ?_; rw [hno]⟩, ⟨_, rfl, by refine BLe.arr ?_; rw [hno]⟩, trivial⟩, trivial, rfl⟩⟩
  try simp only [tdy] at h34
  refine AL_g rfl rfl (x_move rfl rfl) ?_
  refine AL_gb rfl rfl (x_gtr rfl rfl rfl) (fun b37 h37 => ?_)
  refine AL_p (x_pickF rfl rfl rfl) ?_
  refine AL_nil ?_
  cases b37
  rotate_left
  · try simp only [tdy] at h37
    have hno := hrun.trans (cutRun_bad hf (by omega) (.inr (by omega)))
    refine AW_condT rfl ?_
    refine AW_seq ?_
    refine AW_region ?_
    refine AL_p (x_assign rfl rfl) ?_
    refine AL_p (x_assign rfl rfl) ?_
    refine AL_p (x_assign rfl rfl) ?_
    refine AL_nil ?_
    refine AW_adoptT (T := 34) (e := partE) 100 4 rfl rfl rfl ?_
    refine AW_adoptT (T := 5) (e := (intE .u8)) 101 5 rfl rfl rfl ?_
    refine AW_ret (BQ_ret (BQ_ret ?_))
    exact ⟨rn [(0, 100), (1, 101)], ⟨⟨⟨_, rfl, VLe.rf⟩, ⟨_, rfl, VLe.rf⟩, ⟨_, rfl, by refine vle_bool ?_; rw [hno]⟩, trivial⟩, ⟨⟨_, rfl, by refine BLe.arr ?_; rw [hno]⟩, ⟨_, rfl, by refine BLe.arr ?_; rw [hno]⟩, trivial⟩, trivial, rfl⟩⟩
  try simp only [tdy] at h37
  refine AW_condF rfl ?_
  refine AW_skip ?_
  refine AW_seq ?_
  refine AW_seq ?_
  refine AW_region ?_
  refine AL_p (x_move rfl rfl) ?_
  refine AL_p (x_olen (E := 5) (n := 1) rfl rfl rfl (by kernel_rfl)) ?_
  refine AL_p (x_move rfl rfl) ?_
  refine AL_b (x_lss rfl rfl rfl) (fun b42 h42 => ?_)
  refine AL_nil ?_
  cases b42
  rotate_left
  · try simp only [tdy] at h42
    have hno := hrun.trans (cutRun_stop hf (by omega) (by omega) (by omega) (by omega))
    refine AW_condT rfl ?_
    refine AW_exit (BQ_miss rfl (BQ_hit ?_))
    refine AW_seq ?_
    refine AW_region ?_
    refine AL_p (x_move rfl rfl) ?_
    refine AL_p (x_move rfl rfl) ?_
    refine AL_p (x_assign rfl rfl) ?_
    refine AL_p (x_assign rfl rfl) ?_
    refine AL_p (x_assign rfl rfl) ?_
    refine AL_nil ?_
    refine AW_ret ?_
    exact ⟨rn [(0, 105), (1, 104)], ⟨⟨⟨_, rfl, VLe.rf⟩, ⟨_, rfl, VLe.rf⟩, ⟨_, rfl, by refine vle_bool ?_; rw [hno]⟩, trivial⟩, ⟨⟨_, rfl, by refine BLe.arr ?_; rw [hno]⟩, ⟨_, rfl, by refine BLe.arr ?_; rw [hno]⟩, trivial⟩, trivial, rfl⟩⟩
  try simp only [tdy] at h42
  have hmore := cutRun_more (ps := ps) hf (by omega) (by omega) (by omega) (by omega)
  refine AW_condF rfl ?_
  refine AW_skip ?_
  refine AW_seq ?_
  refine AW_shut 104 7 rfl rfl ?_
  refine AW_region ?_
  refine AL_p (x_move rfl rfl) ?_
  refine AL_p (y_bslice0 (E := 5) (e := (intE .u8)) 106 rfl rfl rfl (by kernel_rfl)) ?_
  refine AL_p (x_move rfl rfl) ?_
  refine AL_p (x_move rfl rfl) ?_
  refine AL_p (x_slice (E := 5) (n := 1) rfl rfl (by kernel_rfl) rfl .no (.yes (l := (cutN r).toNat) rfl (by omega)) (by omega) (by first | exact Nat.le_refl _ | omega) (show _ = r.take (cutN r).toNat from rfl)) ?_
  refine AL_p (y_append_sl 107 true (.inr intE_nofp) rfl rfl rfl rfl rfl rfl (by kernel_rfl) (by simp only [List.length_take, List.length_nil]; omega)) ?_
  refine AL_p (x_build (zs := [.slice none 0 0]) (places := [(0, 1)]) rfl (by kernel_rfl) rfl rfl rfl rfl rfl) ?_
  refine AL_p (y_bslice (E := 34) (e := partE) [.tmp 49] ([⟨[] ++ r.take (cutN r).toNat⟩]) 108 rfl rfl rfl rfl rfl rfl rfl rfl FitL.rf rfl rfl rfl rfl rfl rfl (by kernel_rfl)) ?_
  refine AL_p (y_append 109 rfl rfl rfl rfl rfl rfl rfl rfl (by kernel_rfl) (by simp only [List.length_cons, List.length_nil]; omega)) ?_
  refine AL_p (x_assign rfl rfl) ?_
  refine AL_nil ?_
  refine AW_region ?_
  refine AL_p (y_bslice0 (E := 5) (e := (intE .u8)) 110 rfl rfl rfl (by kernel_rfl)) ?_
  refine AL_p (x_move rfl rfl) ?_
  refine AL_p (x_move rfl rfl) ?_
  refine AL_p (x_slice (E := 5) (n := 1) rfl rfl (by kernel_rfl) rfl (.yes (l := (cutN r).toNat) rfl (by omega)) .no (by omega) (by first | exact Nat.le_refl _ | omega) part_drop) ?_
  refine AL_p (y_append_sl 111 true (.inr intE_nofp) rfl rfl rfl rfl rfl rfl (by kernel_rfl) (by simp only [List.length_drop, List.length_nil]; omega)) ?_
  refine AL_p (x_assign rfl rfl) ?_
  refine AL_nil ?_
  refine ⟨⟨⟨f - 1, r.drop (cutN r).toNat, ps ++ [⟨r.take (cutN r).toNat⟩]⟩, ⟨⟨⟨hrun.trans hmore, by simp only [List.length_drop]; omega⟩, by simp only [List.length_drop]; omega⟩, by simp only [List.length_drop, List.length_append, List.length_cons, List.length_nil]; omega⟩⟩, rn [(104, 111), (105, 109)], ?_, by dsimp only; simp only [List.length_drop]; omega⟩
  exact ⟨by (repeat refine ⟨⟨_, rfl, by first | exact VLe.rf | exact vle_int (by dsimp only; omega)⟩, ?_⟩); exact trivial, by (repeat refine ⟨⟨_, rfl, by first | exact BLe.rf | exact BLe.box AllC.rf | exact BLe.arr (by first | rfl | exact List.nil_append _ | (rw [List.nil_append]))⟩, ?_⟩); exact trivial, by repeat (first | exact trivial | refine ⟨⟨rfl, by first | (left; intro h; cases h) | (right; rfl), by first | exact (fun _ h => ⟨_, h⟩) | exact (fun _ _ => ⟨_, rfl⟩)⟩, ?_⟩), rfl⟩
end Go.Proofs.Ytfdpigafekohgaa

/- Parts of a stream that comes in two pieces, in plain words. -/
namespace Go.Proofs.Ytfdpigafekohgaa
open Go.RowKit
set_option linter.unusedVariables false

/-- More steps than bytes change nothing. -/
theorem cutRun_fuel : ∀ {f g : Nat} {r : List Int} {ps : List Partt}, r.length ≤ f → r.length ≤ g → cutRun f r ps = cutRun g r ps
  | 0, g, r, ps, hf, hg => by rw [cutRun_short (f := g) (by omega)]; rfl
  | f + 1, 0, r, ps, hf, hg => by rw [cutRun_short (f := f + 1) (by omega)]; rfl
  | f + 1, g + 1, r, ps, hf, hg => by
    by_cases h1 : r.length < 4
    · rw [cutRun_short (by omega), cutRun_short (by omega)]
    · by_cases h2 : cutN r < 12 ∨ 300 < cutN r
      · rw [cutRun_bad hf (by omega) h2, cutRun_bad hg (by omega) h2]
      · by_cases h3 : (r.length : Int) < cutN r
        · rw [cutRun_stop hf (by omega) (by omega) (by omega) h3, cutRun_stop hg (by omega) (by omega) (by omega) h3]
        · rw [cutRun_more hf (by omega) (by omega) (by omega) (by omega), cutRun_more hg (by omega) (by omega) (by omega) (by omega)]
          exact cutRun_fuel (by simp only [List.length_drop]; omega) (by simp only [List.length_drop]; omega)
/-- What was cut before stands ahead. -/
theorem cutRun_acc : ∀ {f : Nat} {r : List Int} {ps : List Partt}, r.length ≤ f → (cutRun f r ps).2 = (cutRun f r []).2 ∧ ((cutRun f r []).2 = true → (cutRun f r ps).1 = (ps ++ (cutRun f r []).1.1, (cutRun f r []).1.2))
  | 0, r, ps, hf => by
    rw [cutRun_short (by omega), cutRun_short (by omega)]
    exact ⟨rfl, fun _ => by simp⟩
  | f + 1, r, ps, hf => by
    by_cases h1 : r.length < 4
    · rw [cutRun_short (by omega), cutRun_short (by omega)]
      exact ⟨rfl, fun _ => by simp⟩
    · by_cases h2 : cutN r < 12 ∨ 300 < cutN r
      · rw [cutRun_bad hf (by omega) h2, cutRun_bad hf (by omega) h2]
        exact ⟨rfl, fun h => by cases h⟩
      · by_cases h3 : (r.length : Int) < cutN r
        · rw [cutRun_stop hf (by omega) (by omega) (by omega) h3, cutRun_stop hf (by omega) (by omega) (by omega) h3]
          exact ⟨rfl, fun _ => by simp⟩
        · rw [cutRun_more hf (by omega) (by omega) (by omega) (by omega), cutRun_more hf (by omega) (by omega) (by omega) (by omega)]
          have hl : (r.drop (cutN r).toNat).length ≤ f := by simp only [List.length_drop]; omega
          show (cutRun f _ _).2 = (cutRun f _ _).2 ∧ ((cutRun f _ _).2 = true → (cutRun f _ _).1 = _)
          obtain ⟨a1, a2⟩ := cutRun_acc (ps := ps ++ [⟨r.take (cutN r).toNat⟩]) hl
          obtain ⟨b1, b2⟩ := cutRun_acc (ps := [] ++ [⟨r.take (cutN r).toNat⟩]) hl
          refine ⟨a1.trans b1.symm, fun h => ?_⟩
          have h0 := b1.symm.trans h
          rw [a2 h0]
          show _ = (ps ++ (cutRun f _ _).1.1, (cutRun f _ _).1.2)
          rw [b2 h0]
          simp
theorem cutN_app {h p : List Int} (hl : 4 ≤ h.length) : cutN (h ++ p) = cutN h := by
  unfold cutN
  rw [List.drop_append_of_le_length (by omega), List.take_append_of_le_length (by simp; omega)]
/-- A first piece is cut, then the rest with the second. -/
theorem cutRun_join : ∀ {f : Nat} {h p : List Int} {ps : List Partt}, h.length ≤ f →
    ((cutRun f h ps).2 = false → (cutRun (f + p.length) (h ++ p) ps).2 = false) ∧
    ((cutRun f h ps).2 = true → (cutRun f h ps).1.2.length ≤ h.length ∧ cutRun (f + p.length) (h ++ p) ps = cutRun (f + p.length) ((cutRun f h ps).1.2 ++ p) (cutRun f h ps).1.1)
  | 0, h, p, ps, hf => by
    rw [cutRun_short (r := h) (by omega)]
    exact ⟨(fun e => by cases e), fun _ => ⟨Nat.le_refl _, rfl⟩⟩
  | f + 1, h, p, ps, hf => by
    by_cases h1 : h.length < 4
    · rw [cutRun_short (r := h) (by omega)]
      exact ⟨(fun e => by cases e), fun _ => ⟨Nat.le_refl _, rfl⟩⟩
    · have e0 := cutN_app (p := p) (h := h) (by omega)
      have hL : (h ++ p).length ≤ f + 1 + p.length := by simp only [List.length_append]; omega
      have hA : ((h ++ p).length : Int) = h.length + p.length := by simp
      by_cases h2 : cutN h < 12 ∨ 300 < cutN h
      · rw [cutRun_bad hf (by omega) h2]
        refine ⟨fun _ => ?_, fun e => by cases e⟩
        rw [cutRun_bad hL (by omega) (by rw [e0]; exact h2)]
      · by_cases h3 : (h.length : Int) < cutN h
        · rw [cutRun_stop hf (by omega) (by omega) (by omega) h3]
          exact ⟨(fun e => by cases e), fun _ => ⟨Nat.le_refl _, rfl⟩⟩
        · have hm := cutRun_more (f := f + 1) (ps := ps) hf (by omega) (by omega) (by omega) (by omega)
          have hm2 := cutRun_more (f := f + 1 + p.length) (r := h ++ p) (ps := ps) hL (by omega) (by omega) (by omega) (by omega)
          have hd : (h ++ p).drop (cutN (h ++ p)).toNat = h.drop (cutN h).toNat ++ p := by rw [e0, List.drop_append_of_le_length (by omega)]
          have ht : (h ++ p).take (cutN (h ++ p)).toNat = h.take (cutN h).toNat := by rw [e0, List.take_append_of_le_length (by omega)]
          rw [hd, ht, show f + 1 + p.length - 1 = f + p.length by omega] at hm2
          have hl : (h.drop (cutN h).toNat).length ≤ f := by simp only [List.length_drop]; omega
          obtain ⟨i1, i2⟩ := cutRun_join (p := p) (ps := ps ++ [⟨h.take (cutN h).toNat⟩]) hl
          rw [hm, hm2, show f + 1 - 1 = f by omega]
          refine ⟨i1, fun e => ?_⟩
          obtain ⟨j1, j2⟩ := i2 e
          have j3 : (cutRun f (h.drop (cutN h).toNat) (ps ++ [⟨h.take (cutN h).toNat⟩])).1.2.length ≤ f := Nat.le_trans j1 hl
          refine ⟨Nat.le_trans j1 (by simp only [List.length_drop]; omega), j2.trans (cutRun_fuel (by simp only [List.length_append]; omega) (by simp only [List.length_append]; omega))⟩
theorem cutRun_len : ∀ {f : Nat} {r : List Int} {ps : List Partt}, r.length ≤ f → (cutRun f r ps).1.1.length ≤ ps.length + r.length
  | 0, r, ps, hf => by
    rw [cutRun_short (by omega)]
    show ps.length ≤ _; omega
  | f + 1, r, ps, hf => by
    by_cases h1 : r.length < 4
    · rw [cutRun_short (by omega)]
      show ps.length ≤ _; omega
    · by_cases h2 : cutN r < 12 ∨ 300 < cutN r
      · rw [cutRun_bad hf (by omega) h2]
        exact Nat.zero_le _
      · by_cases h3 : (r.length : Int) < cutN r
        · rw [cutRun_stop hf (by omega) (by omega) (by omega) h3]
          show ps.length ≤ _; omega
        · rw [cutRun_more hf (by omega) (by omega) (by omega) (by omega)]
          refine Nat.le_trans (cutRun_len (f := f) (by simp only [List.length_drop]; omega)) ?_
          simp only [List.length_append, List.length_drop, List.length_cons, List.length_nil]
          omega
theorem cut_len (h p : List Int) : (cut h p).1.1.length ≤ 60300 := by
  unfold cut
  split
  · exact Nat.zero_le _
  · have := cutRun_len (ps := []) (Nat.le_refl (h ++ p).length)
    simp only [List.length_append, List.length_nil] at this ⊢
    omega
theorem part_left {a b w : List Partt} (h : w = a ++ b) {k : Nat} (hk : k < a.length) (hw : k < w.length) : w[k] = a[k] := by subst h; exact List.getElem_append_left hk
theorem part_right {a b w : List Partt} (h : w = a ++ b) {k : Nat} (hk : ¬ k < a.length) (hw : k < w.length) (hb : k - a.length < b.length) : w[k] = b[k - a.length] := by subst h; exact List.getElem_append_right (by omega)
section
variable {h p : List Int}
theorem cut_nil (hl : h.length ≤ 60000) : cut [] h = cutRun h.length h [] := by
  rw [cut_ok (by simp) (by omega)]; rfl
theorem cut_keep (hl : h.length ≤ 300) (hp : p.length ≤ 50000) : (cut [] h).2 = true → (cut [] h).1.2.length ≤ 300 ∧ cut (cut [] h).1.2 p = cutRun (h.length + p.length) ((cut [] h).1.2 ++ p) [] := fun e => by
  rw [cut_nil (h := h) (by omega)] at e ⊢
  have j1 := ((cutRun_join (p := p) (ps := []) (Nat.le_refl h.length)).2 e).1
  refine ⟨by omega, ?_⟩
  rw [cut_ok (by omega) (by omega)]
  exact cutRun_fuel (Nat.le_refl _) (by simp only [List.length_append]; omega)
/-- In one piece it is not right: neither in two. -/
theorem cut_two_no (hl : h.length ≤ 300) (hp : p.length ≤ 50000) (e : (cut [] (h ++ p)).2 = false) (e2 : (cut [] h).2 = true) : (cut (cut [] h).1.2 p).2 = false := by
  obtain ⟨k1, k2⟩ := cut_keep hl hp e2
  rw [k2]
  rw [cut_nil (h := h ++ p) (by simp only [List.length_append]; omega)] at e
  rw [cut_nil (h := h) (by omega)] at e2 ⊢
  have j := (cutRun_join (p := p) (ps := []) (Nat.le_refl h.length)).2 e2
  rw [List.length_append, j.2] at e
  rw [← e]
  exact ((cutRun_acc (by simp only [List.length_append]; omega)).1).symm
theorem cut_two (hl : h.length ≤ 300) (hp : p.length ≤ 50000) (e : (cut [] (h ++ p)).2 = true) : (cut [] h).2 = true ∧ (cut (cut [] h).1.2 p).2 = true ∧ (cut [] (h ++ p)).1 = ((cut [] h).1.1 ++ (cut (cut [] h).1.2 p).1.1, (cut (cut [] h).1.2 p).1.2) := by
  have f1 : (cut [] h).2 = true := by
    cases q : (cut [] h).2
    · rw [cut_nil (h := h) (by omega)] at q
      rw [cut_nil (h := h ++ p) (by simp only [List.length_append]; omega)] at e
      have := (cutRun_join (p := p) (ps := []) (Nat.le_refl h.length)).1 q
      rw [List.length_append, this] at e
      cases e
    · rfl
  obtain ⟨k1, k2⟩ := cut_keep hl hp f1
  rw [k2]
  rw [cut_nil (h := h ++ p) (by simp only [List.length_append]; omega)] at e ⊢
  rw [cut_nil (h := h) (by omega)] at f1 k1 ⊢
  have j := (cutRun_join (p := p) (ps := []) (Nat.le_refl h.length)).2 f1
  rw [List.length_append, j.2] at e ⊢
  obtain ⟨a1, a2⟩ := cutRun_acc (f := h.length + p.length) (r := (cutRun h.length h []).1.2 ++ p) (ps := (cutRun h.length h []).1.1) (by simp only [List.length_append]; omega)
  have e2 := a1.symm.trans e
  exact ⟨f1, e2, a2 e2⟩
end
end Go.Proofs.Ytfdpigafekohgaa

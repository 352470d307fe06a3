/- Lemmas of the walks, part 4. -/
import Derived.Test.YtfdpigafekohgaaV3
import Derived.Deep.RegionHeld3
/- Entries that are drawn (printed by walk.py) -/
namespace Go.Proofs.Ytfdpigafekohgaa
open Go.RowKit
set_option linter.unusedVariables false
set_option linter.unusedSimpArgs false
set_option maxRecDepth 100000

set_option maxHeartbeats 4000000 in
theorem matchAll_c  : AC Try.prog 79 [] [] (.agg [.own 0, .own 1]) [(0, some (.arr 3 (intE .i64) (List.replicate 8 0) true)), (1, some (.arr 3 (intE .i64) (List.replicate 8 0) true))] := by
  refine AC_bodyC (n := 2) (k := 9) (T := [(0, .one (.ptr 9 0))]) (Lf := ((9, some (.box [.own 0, .own 1])) :: [(0, some (.arr 3 (intE .i64) (List.replicate 8 0) true)), (1, some (.arr 3 (intE .i64) (List.replicate 8 0) true))])) Try.func79 rfl rfl Try.ntmps79 rfl Try.results79 rfl rfl (by kernel_rfl) rfl rfl ⟨trivial, (by repeat (first | exact trivial | refine ⟨⟨_, rfl, BLe.rf⟩, ?_⟩)), (by repeat (first | exact trivial | refine ⟨⟨rfl, by first | (left; intro h; cases h) | (right; rfl), by first | exact (fun _ h => ⟨_, h⟩) | exact (fun _ _ => ⟨_, rfl⟩) | (intro _ h; cases h)⟩, ?_⟩)), rfl⟩ ?_
  refine AW_seq ?_
  refine AW_region ?_
  refine AL_p (x_alloc (z := .agg #[.slice none 0 0, .slice none 0 0]) 100 rfl (by kernel_rfl) rfl rfl rfl rfl) ?_
  refine AL_nil ?_
  refine AW_seq ?_
  refine AW_draw rfl ?_
  refine AL_p (x_make (T := 36) (E := 3) (e := (intE .i64)) (0) (z := .int .i64 0) 101 rfl rfl rfl (by kernel_rfl) rfl FitL.rf rfl rfl (by kernel_rfl) (by decide)) ?_
  refine AL_p (x_make (T := 36) (E := 3) (e := (intE .i64)) (0) (z := .int .i64 0) 102 rfl rfl rfl (by kernel_rfl) rfl FitL.rf rfl rfl (by kernel_rfl) (by decide)) ?_
  refine AL_p (x_build (zs := [.slice none 0 0, .slice none 0 0]) (places := [(0, 1), (1, 1)]) rfl (by kernel_rfl) rfl rfl rfl rfl rfl) ?_
  refine AL_p (x_store (n := 2) rfl rfl rfl rfl (by kernel_rfl) rfl rfl rfl) ?_
  refine AL_nild (by kernel_rfl) ?_
  refine AW_ret ?_
  exact ⟨rn [(9, 100), (0, 101), (1, 102)], ⟨⟨⟨_, rfl, VLe.rf⟩, trivial⟩, ⟨⟨_, rfl, by first | exact BLe.rf | (subst_vars; exact BLe.rf)⟩, ⟨_, rfl, BLe.rf⟩, ⟨_, rfl, BLe.rf⟩, trivial⟩, trivial, rfl⟩⟩

set_option maxHeartbeats 4000000 in
theorem fullS_c (f : Int) (h0 : 0 ≤ f) (h1 : f < 8) : AC Try.prog 154 [.one (.c (.int .i64 f))] [] (.one (.c (.int .i64 (topOf f - 1)))) [] := by
  refine AC_body1 Try.func154 rfl rfl Try.ntmps154 rfl Try.results154 ?_
  refine AW_seq ?_
  refine AW_region ?_
  refine AL_p (x_assign rfl rfl) ?_
  refine AL_nil ?_
  refine AW_seq ?_
  refine AW_region ?_
  refine AL_p (x_move rfl rfl) ?_
  refine AL_p (x_call0 rfl rfl rfl (fbS_c _) rfl rfl) ?_
  refine AL_p (x_quo rfl rfl rfl (by decide) (bitsOf_quo f)) ?_
  refine AL_p (x_call0 rfl rfl rfl (pow_c _ (by have := bitsOf_le f; omega) (by have := bitsOf_le f; omega)) rfl rfl) ?_
  refine AL_p (x_sub rfl rfl rfl (r := topOf f - 1) (by have := topOf_bound f; rw [topOf_pow h0 h1]; exact IntWalk.i64_in _ (by omega))) ?_
  refine AL_p (x_assign rfl rfl) ?_
  refine AL_nil ?_
  refine AW_ret ?_
  exact ⟨rn [], ⟨⟨⟨_, rfl, vle_int (rfl)⟩, trivial⟩, trivial, trivial, rfl⟩⟩

set_option maxHeartbeats 4000000 in
theorem head_x (b : List Int) (c : Cur) (hb : b.length ≤ 1048576) : AX Try.prog 122 [.one (.ptr 200 0)] [(200, some (curB b c))] (ι := List Int × Cur) (fun i => i.1.length = 8) (fun i => .agg [.own 300]) (fun i => [(200, some (curB b i.2)), (300, some (.arr 3 (intE .i64) i.1 true))]) := by
  refine AX_bodyC (n := 1) (k := 9) (cs := fun (i : List Int × Cur) => [.own 300]) (T := fun (_ : List Int × Cur) => [(2, .one (.ptr 9 0))]) (Lf := fun (i : List Int × Cur) => ((9, some (.box [.own 300])) :: [(200, some (curB b i.2)), (300, some (.arr 3 (intE .i64) i.1 true))])) (L' := fun (i : List Int × Cur) => [(200, some (curB b i.2)), (300, some (.arr 3 (intE .i64) i.1 true))]) Try.func122 rfl rfl Try.ntmps122 rfl Try.results122 (fun _ => rfl) (fun _ => rfl) (by kernel_rfl) (fun _ => rfl) (fun _ => rfl) (fun (_ : List Int × Cur) => ⟨trivial, (by repeat (first | exact trivial | refine ⟨⟨_, rfl, BLe.rf⟩, ?_⟩)), (by repeat (first | exact trivial | refine ⟨⟨rfl, by first | (left; intro h; cases h) | (right; rfl), by first | exact (fun _ h => ⟨_, h⟩) | exact (fun _ _ => ⟨_, rfl⟩) | (intro _ h; cases h)⟩, ?_⟩)), rfl⟩) ?_
  refine AW_seq ?_
  refine AW_regionN ?_
  refine AN_p (x_alloc (z := .agg #[.slice none 0 0]) 100 rfl (by kernel_rfl) rfl rfl rfl rfl) ?_
  refine AN_nil ?_
  refine AW_seq ?_
  refine AW_regionN ?_
  refine AN_p (x_move rfl rfl) ?_
  have d6 := dBelow_lt b c (n := 4) (by decide)
  refine AN_p (x_call (ks := []) (L := [(200, some _)]) (L' := [(200, some _)]) rfl rfl rfl (below_c b c hb 4) rfl AllV.rf (caught_of rfl) rfl rfl rfl ⟨rfl, trivial⟩ rfl) ?_
  refine AN_p (x_add rfl rfl rfl (IntWalk.i64_in _ (by omega))) ?_
  refine AN_p (x_move rfl rfl) ?_
  have d9 := dBelow_lt b (dBelow b c 4).2 (n := 5) (by decide)
  refine AN_p (x_call (ks := []) (L := [(200, some _)]) (L' := [(200, some _)]) rfl rfl rfl (below_c b (dBelow b c 4).2 hb 5) rfl AllV.rf (caught_of rfl) rfl rfl rfl ⟨rfl, trivial⟩ rfl) ?_
  refine AN_p (x_move rfl rfl) ?_
  have d11 := dBelow_lt b (dBelow b (dBelow b c 4).2 5).2 (n := 5) (by decide)
  refine AN_p (x_call (ks := []) (L := [(200, some _)]) (L' := [(200, some _)]) rfl rfl rfl (below_c b (dBelow b (dBelow b c 4).2 5).2 hb 5) rfl AllV.rf (caught_of rfl) rfl rfl rfl ⟨rfl, trivial⟩ rfl) ?_
  refine AN_p (x_move rfl rfl) ?_
  have d13 := dBelow_lt b (dBelow b (dBelow b (dBelow b c 4).2 5).2 5).2 (n := 3) (by decide)
  refine AN_p (x_call (ks := []) (L := [(200, some _)]) (L' := [(200, some _)]) rfl rfl rfl (below_c b (dBelow b (dBelow b (dBelow b c 4).2 5).2 5).2 hb 3) rfl AllV.rf (caught_of rfl) rfl rfl rfl ⟨rfl, trivial⟩ rfl) ?_
  refine AN_p (x_move rfl rfl) ?_
  have d15 := dBelow_lt b (dBelow b (dBelow b (dBelow b (dBelow b c 4).2 5).2 5).2 3).2 (n := 4) (by decide)
  refine AN_p (x_call (ks := []) (L := [(200, some _)]) (L' := [(200, some _)]) rfl rfl rfl (below_c b (dBelow b (dBelow b (dBelow b (dBelow b c 4).2 5).2 5).2 3).2 hb 4) rfl AllV.rf (caught_of rfl) rfl rfl rfl ⟨rfl, trivial⟩ rfl) ?_
  refine AN_p (x_move rfl rfl) ?_
  have d17 := dBelow_lt b (dBelow b (dBelow b (dBelow b (dBelow b (dBelow b c 4).2 5).2 5).2 3).2 4).2 (n := 4) (by decide)
  refine AN_p (x_call (ks := []) (L := [(200, some _)]) (L' := [(200, some _)]) rfl rfl rfl (below_c b (dBelow b (dBelow b (dBelow b (dBelow b (dBelow b c 4).2 5).2 5).2 3).2 4).2 hb 4) rfl AllV.rf (caught_of rfl) rfl rfl rfl ⟨rfl, trivial⟩ rfl) ?_
  refine AN_p (y_bslice (E := 3) (e := (intE .i64)) [.tmp 7, .tmp 9, .tmp 11, .const (.int .i64 (2048)), .tmp 13, .tmp 15, .tmp 17, .const (.int .i64 (17))] ([1 + (dBelow b c 4).1, (dBelow b (dBelow b c 4).2 5).1, (dBelow b (dBelow b (dBelow b c 4).2 5).2 5).1, 2048, (dBelow b (dBelow b (dBelow b (dBelow b c 4).2 5).2 5).2 3).1, (dBelow b (dBelow b (dBelow b (dBelow b (dBelow b c 4).2 5).2 5).2 3).2 4).1, (dBelow b (dBelow b (dBelow b (dBelow b (dBelow b (dBelow b c 4).2 5).2 5).2 3).2 4).2 4).1, 17]) 101 rfl rfl rfl rfl rfl rfl rfl rfl FitL.rf rfl rfl rfl rfl rfl rfl (by kernel_rfl)) ?_
  refine AN_p (x_build (zs := [.slice none 0 0]) (places := [(0, 1)]) rfl (by kernel_rfl) rfl rfl rfl rfl rfl) ?_
  refine AN_p (x_alloc (z := .agg #[.slice none 0 0]) 102 rfl (by kernel_rfl) rfl rfl rfl rfl) ?_
  refine AN_p (x_store (n := 1) rfl rfl rfl rfl (by kernel_rfl) rfl rfl rfl) ?_
  refine AN_nil ?_
  refine AW_seq ?_
  refine AW_seq ?_
  refine AW_regionN ?_
  refine AN_p (x_move rfl rfl) ?_
  have d21 := dBelow_lt b (dBelow b (dBelow b (dBelow b (dBelow b (dBelow b (dBelow b c 4).2 5).2 5).2 3).2 4).2 4).2 (n := 4) (by decide)
  refine AN_p (x_call (ks := []) (L := [(200, some _)]) (L' := [(200, some _)]) rfl rfl rfl (below_c b (dBelow b (dBelow b (dBelow b (dBelow b (dBelow b (dBelow b c 4).2 5).2 5).2 3).2 4).2 4).2 hb 4) rfl AllV.rf (caught_of rfl) rfl rfl rfl ⟨rfl, trivial⟩ rfl) ?_
  refine AN_b (x_eql rfl rfl rfl) (fun b22 h22 => ?_)
  refine AN_nil ?_
  cases b22
  · try simp only [tdy] at h22
    refine AW_condF rfl ?_
    refine AW_skip ?_
    refine AW_seq ?_
    refine AW_regionN ?_
    refine AN_p (x_loadN (n := 1) rfl rfl rfl (by kernel_rfl) rfl rfl) ?_
    refine AN_p (x_store (n := 1) rfl rfl rfl rfl (by kernel_rfl) rfl rfl rfl) ?_
    refine AN_nil ?_
    refine AW_ret ?_
    refine ⟨⟨_, _⟩, ?_, rn [(9, 100), (300, 101)], by exact ⟨⟨⟨_, rfl, VLe.rf⟩, trivial⟩, ⟨⟨_, rfl, by first | exact BLe.rf | exact BLe.box (by repeat (first | exact trivial | refine ⟨by first | exact CLe.rf | exact CLe.nil, ?_⟩))⟩, ⟨_, rfl, BLe.rf⟩, ⟨_, rfl, BLe.rf⟩, trivial⟩, by repeat (first | exact trivial | refine ⟨⟨rfl, by first | (left; intro h; cases h) | (right; rfl), by first | exact (fun _ h => ⟨_, h⟩) | exact (fun _ _ => ⟨_, rfl⟩) | (intro _ h; cases h)⟩, ?_⟩), rfl⟩⟩
    simp
  try simp only [tdy] at h22
  refine AW_condT rfl ?_
  refine AW_seq ?_
  refine AW_regionN ?_
  refine AN_p (x_move rfl rfl) ?_
  have d24 := dBelow_lt b (dBelow b (dBelow b (dBelow b (dBelow b (dBelow b (dBelow b (dBelow b c 4).2 5).2 5).2 3).2 4).2 4).2 4).2 (n := 8) (by decide)
  refine AN_p (x_call (ks := []) (L := [(200, some _)]) (L' := [(200, some _)]) rfl rfl rfl (below_c b (dBelow b (dBelow b (dBelow b (dBelow b (dBelow b (dBelow b (dBelow b c 4).2 5).2 5).2 3).2 4).2 4).2 4).2 hb 8) rfl AllV.rf (caught_of rfl) rfl rfl rfl ⟨rfl, trivial⟩ rfl) ?_
  refine AN_p (x_assign rfl rfl) ?_
  refine AN_nil ?_
  refine AW_draw rfl ?_
  refine AL_p (x_field (off := 0) (o' := 0) rfl rfl rfl (by kernel_rfl) rfl) ?_
  refine AL_p (x_load1 rfl rfl rfl (by kernel_rfl) rfl) ?_
  refine AL_p (x_move rfl rfl) ?_
  refine AL_p (x_move rfl rfl) ?_
  refine AL_p (x_call0 rfl rfl rfl (fbS_c _) rfl rfl) ?_
  refine AL_p (x_quo rfl rfl rfl (by decide) (bitsOf_quo _)) ?_
  refine AL_p (x_call0 rfl rfl rfl (pow_c (bitsOf (dBelow b (dBelow b (dBelow b (dBelow b (dBelow b (dBelow b (dBelow b (dBelow b c 4).2 5).2 5).2 3).2 4).2 4).2 4).2 8).1 / 8) (by have := bitsOf_le (dBelow b (dBelow b (dBelow b (dBelow b (dBelow b (dBelow b (dBelow b (dBelow b c 4).2 5).2 5).2 3).2 4).2 4).2 4).2 8).1; omega) (by have := bitsOf_le (dBelow b (dBelow b (dBelow b (dBelow b (dBelow b (dBelow b (dBelow b (dBelow b c 4).2 5).2 5).2 3).2 4).2 4).2 4).2 8).1; omega)) rfl rfl) ?_
  refine AL_p (x_sub rfl rfl rfl (r := w64 _) rfl) ?_
  refine AL_p (x_move rfl rfl) ?_
  have d34 := dBelow_lt b (dBelow b (dBelow b (dBelow b (dBelow b (dBelow b (dBelow b (dBelow b (dBelow b c 4).2 5).2 5).2 3).2 4).2 4).2 4).2 8).2 (n := 2) (by decide)
  refine AL_p (x_call (ks := []) (L := [(200, some _)]) (L' := [(200, some _)]) rfl rfl rfl (below_c b (dBelow b (dBelow b (dBelow b (dBelow b (dBelow b (dBelow b (dBelow b (dBelow b c 4).2 5).2 5).2 3).2 4).2 4).2 4).2 8).2 hb 2) rfl AllV.rf (caught_of rfl) rfl rfl rfl ⟨rfl, trivial⟩ rfl) ?_
  refine AL_p (x_sub rfl rfl rfl (r := w64 _) rfl) ?_
  refine AL_p (x_oindex (n := 1) rfl rfl rfl rfl (by kernel_rfl) rfl (k := (dBelow b (dBelow b (dBelow b (dBelow b (dBelow b (dBelow b (dBelow b (dBelow b c 4).2 5).2 5).2 3).2 4).2 4).2 4).2 8).1.toNat) (by omega) (by first | omega | (simp only [List.length_set]; omega) | (simp; omega))) ?_
  refine AL_p (x_ostore (_) rfl rfl rfl rfl (by kernel_rfl) rfl rfl rfl rfl FitL.rf rfl rfl (by first | omega | (rw [filledTo_len (by omega)]; omega) | (simp; omega))) ?_
  refine AL_nild (by kernel_rfl) ?_
  refine AW_seq ?_
  refine AW_regionN ?_
  refine AN_p (x_loadN (n := 1) rfl rfl rfl (by kernel_rfl) rfl rfl) ?_
  refine AN_p (x_store (n := 1) rfl rfl rfl rfl (by kernel_rfl) rfl rfl rfl) ?_
  refine AN_nil ?_
  refine AW_ret ?_
  refine ⟨⟨_, _⟩, ?_, rn [(9, 100), (300, 101)], by exact ⟨⟨⟨_, rfl, VLe.rf⟩, trivial⟩, ⟨⟨_, rfl, by first | exact BLe.rf | exact BLe.box (by repeat (first | exact trivial | refine ⟨by first | exact CLe.rf | exact CLe.nil, ?_⟩))⟩, ⟨_, rfl, BLe.rf⟩, ⟨_, rfl, BLe.rf⟩, trivial⟩, by repeat (first | exact trivial | refine ⟨⟨rfl, by first | (left; intro h; cases h) | (right; rfl), by first | exact (fun _ h => ⟨_, h⟩) | exact (fun _ _ => ⟨_, rfl⟩) | (intro _ h; cases h)⟩, ?_⟩), rfl⟩⟩
  simp

set_option maxHeartbeats 4000000 in
theorem match_x (b : List Int) (c : Cur) (hb : b.length ≤ 1048576) : AX Try.prog 145 [.one (.ptr 200 0)] [(200, some (curB b c))] (ι := (List Int × List Int) × Cur) (fun i => i.1.1.length = 8 ∧ i.1.2.length = 8) (fun i => .agg [.own 301, .own 302]) (fun i => [(200, some (curB b i.2)), (301, some (.arr 3 (intE .i64) i.1.1 true)), (302, some (.arr 3 (intE .i64) i.1.2 true))]) := by
  refine AX_bodyC (n := 2) (k := 9) (cs := fun (i : (List Int × List Int) × Cur) => [.own 301, .own 302]) (T := fun (_ : (List Int × List Int) × Cur) => [(2, .one (.ptr 9 0))]) (Lf := fun (i : (List Int × List Int) × Cur) => ((9, some (.box [.own 301, .own 302])) :: [(200, some (curB b i.2)), (301, some (.arr 3 (intE .i64) i.1.1 true)), (302, some (.arr 3 (intE .i64) i.1.2 true))])) (L' := fun (i : (List Int × List Int) × Cur) => [(200, some (curB b i.2)), (301, some (.arr 3 (intE .i64) i.1.1 true)), (302, some (.arr 3 (intE .i64) i.1.2 true))]) Try.func145 rfl rfl Try.ntmps145 rfl Try.results145 (fun _ => rfl) (fun _ => rfl) (by kernel_rfl) (fun _ => rfl) (fun _ => rfl) (fun (_ : (List Int × List Int) × Cur) => ⟨trivial, (by repeat (first | exact trivial | refine ⟨⟨_, rfl, BLe.rf⟩, ?_⟩)), (by repeat (first | exact trivial | refine ⟨⟨rfl, by first | (left; intro h; cases h) | (right; rfl), by first | exact (fun _ h => ⟨_, h⟩) | exact (fun _ _ => ⟨_, rfl⟩) | (intro _ h; cases h)⟩, ?_⟩)), rfl⟩) ?_
  refine AW_seq ?_
  refine AW_regionN ?_
  refine AN_p (x_alloc (z := .agg #[.slice none 0 0, .slice none 0 0]) 100 rfl (by kernel_rfl) rfl rfl rfl rfl) ?_
  refine AN_nil ?_
  refine AW_seq ?_
  refine AW_regionN ?_
  refine AN_p (x_callR rfl rfl rfl (AC.renum (res := .agg [.own 101, .own 102]) (L := [(101, some (.arr 3 (intE .i64) (List.replicate 8 0) true)), (102, some (.arr 3 (intE .i64) (List.replicate 8 0) true))]) (r := rn [(101, 0), (102, 1)]) matchAll_c ⟨⟨_, rfl, BLe.rf⟩, ⟨_, rfl, BLe.rf⟩, trivial⟩ rfl) rfl AllV.rf rfl rfl rfl rfl rfl) ?_
  refine AN_p (x_alloc (z := .agg #[.slice none 0 0, .slice none 0 0]) 103 rfl (by kernel_rfl) rfl rfl rfl rfl) ?_
  refine AN_p (x_store (n := 2) rfl rfl rfl rfl (by kernel_rfl) rfl rfl rfl) ?_
  refine AN_nil ?_
  refine AW_seq ?_
  refine AW_regionN ?_
  refine AN_p (x_move rfl rfl) ?_
  refine AN_x (L := [(200, some (curB b c))]) rfl rfl rfl (head_x b c hb) rfl rfl (fun _ => rfl) (fun _ => rfl) ⟨rfl, trivial⟩ (fun _ => rfl) ?_
  rintro ⟨x10, c10⟩ g10
  try dsimp only at g10
  try dsimp only
  refine AN_p (x_alloc (z := .agg #[.slice none 0 0]) 104 rfl (by kernel_rfl) rfl rfl rfl rfl) ?_
  refine AN_p (x_store (n := 1) rfl rfl rfl rfl (by kernel_rfl) rfl rfl rfl) ?_
  refine AN_nil ?_
  refine AW_seq ?_
  refine AW_seq ?_
  refine AW_regionN ?_
  refine AN_p (x_move rfl rfl) ?_
  have d12 := dBelow_lt b c10 (n := 4) (by decide)
  refine AN_p (x_call (ks := []) (L := [(200, some _)]) (L' := [(200, some _)]) rfl rfl rfl (below_c b c10 hb 4) rfl AllV.rf (caught_of rfl) rfl rfl rfl ⟨rfl, trivial⟩ rfl) ?_
  refine AN_p (x_assign rfl rfl) ?_
  refine AN_nil ?_
  refine AW_block ?_
  refine AW_loop2 (ι := {q : Int × List Int × List Int × Cur // (q.2.1).length = 8 ∧ (q.2.2.1).length = 8 ∧ (q.1) ≤ 4}) (fun p => [(5, .one (.c (.int .i64 (p.1.1))))]) (fun p => [(101, some (.arr 3 (intE .i64) (p.1.2.1) true)), (102, some (.arr 3 (intE .i64) (p.1.2.2.1) true)), (200, some (curB b (p.1.2.2.2)))]) [0, 2, 3, 4] [100, 103, 104, 300] (fun p => (p.1.1).toNat) ⟨⟨(dBelow b c10 4).1, List.replicate 8 0, List.replicate 8 0, (dBelow b c10 4).2⟩, ⟨by simp, by simp, by dsimp only; omega⟩⟩ (rn []) ?_ ?_
  exact ⟨by (repeat refine ⟨⟨_, rfl, by first | exact VLe.rf | exact vle_int (by dsimp only; omega)⟩, ?_⟩); exact trivial, by (repeat refine ⟨⟨_, rfl, by first | exact BLe.rf | exact BLe.box AllC.rf | exact BLe.arr (by exact rfl)⟩, ?_⟩); exact trivial, by repeat (first | exact trivial | refine ⟨⟨rfl, by first | (left; intro h; cases h) | (right; rfl), by first | exact (fun _ h => ⟨_, h⟩) | exact (fun _ _ => ⟨_, rfl⟩) | (intro _ h; cases h)⟩, ?_⟩), rfl⟩
  rintro ⟨⟨n, vs, ms, cc⟩, hinv⟩
  dsimp only
  obtain ⟨hv, hm, hn⟩ := hinv
  have hv : vs.length = 8 := hv
  have hm : ms.length = 8 := hm
  have hn : n ≤ 4 := hn
  refine AW_seq ?_
  refine AW_seq ?_
  refine AW_regionN ?_
  refine AN_p (x_move rfl rfl) ?_
  refine AN_b (x_gtr rfl rfl rfl) (fun b14 h14 => ?_)
  refine AN_nil ?_
  cases b14
  · try simp only [tdy] at h14
    refine AW_condF rfl ?_
    refine AW_exit (BQ_hit ?_)
    refine AW_seq ?_
    refine AW_regionN ?_
    refine AN_p (x_loadN (n := 2) rfl rfl rfl (by kernel_rfl) rfl rfl) ?_
    refine AN_p (x_store (n := 2) rfl rfl rfl rfl (by kernel_rfl) rfl rfl rfl) ?_
    refine AN_nil ?_
    refine AW_ret ?_
    refine ⟨⟨⟨_, _⟩, _⟩, ?_, rn [(9, 100), (301, 101), (302, 102)], by exact ⟨⟨⟨_, rfl, VLe.rf⟩, trivial⟩, ⟨⟨_, rfl, by first | exact BLe.rf | exact BLe.box (by repeat (first | exact trivial | refine ⟨by first | exact CLe.rf | exact CLe.nil, ?_⟩))⟩, ⟨_, rfl, BLe.rf⟩, ⟨_, rfl, BLe.rf⟩, ⟨_, rfl, BLe.rf⟩, trivial⟩, by repeat (first | exact trivial | refine ⟨⟨rfl, by first | (left; intro h; cases h) | (right; rfl), by first | exact (fun _ h => ⟨_, h⟩) | exact (fun _ _ => ⟨_, rfl⟩) | (intro _ h; cases h)⟩, ?_⟩), rfl⟩⟩
    exact ⟨by first | assumption | (dsimp only; omega), by first | assumption | (dsimp only; omega)⟩
  try simp only [tdy] at h14
  refine AW_condT rfl ?_
  refine AW_skip ?_
  refine AW_seq ?_
  refine AW_block ?_
  refine AW_seq ?_
  refine AW_regionN ?_
  refine AN_p (x_move rfl rfl) ?_
  have d18 := dBelow_lt b cc (n := 8) (by decide)
  refine AN_p (x_call (ks := []) (L := [(200, some _)]) (L' := [(200, some _)]) rfl rfl rfl (below_c b cc hb 8) rfl AllV.rf (caught_of rfl) rfl rfl rfl ⟨rfl, trivial⟩ rfl) ?_
  refine AN_p (x_assign rfl rfl) ?_
  refine AN_nil ?_
  refine AW_seq ?_
  refine AW_seq ?_
  refine AW_regionN ?_
  refine AN_p (x_move rfl rfl) ?_
  have d20 := dBelow_lt b (dBelow b cc 8).2 (n := 4) (by decide)
  refine AN_p (x_call (ks := []) (L := [(200, some _)]) (L' := [(200, some _)]) rfl rfl rfl (below_c b (dBelow b cc 8).2 hb 4) rfl AllV.rf (caught_of rfl) rfl rfl rfl ⟨rfl, trivial⟩ rfl) ?_
  refine AN_b (x_eql rfl rfl rfl) (fun b21 h21 => ?_)
  refine AN_nil ?_
  cases b21
  · try simp only [tdy] at h21
    refine AW_condF rfl ?_
    refine AW_skip ?_
    refine AW_seq ?_
    refine AW_draw rfl ?_
    refine AL_p (x_field (off := 1) (o' := 1) rfl rfl rfl (by kernel_rfl) rfl) ?_
    refine AL_p (x_load1 rfl rfl rfl (by kernel_rfl) rfl) ?_
    refine AL_p (x_move rfl rfl) ?_
    refine AL_p (x_move rfl rfl) ?_
    refine AL_p (x_call0 rfl rfl rfl (fullS_c (dBelow b cc 8).1 (by omega) (by omega)) rfl rfl) ?_
    refine AL_p (x_oindex (n := 1) rfl rfl rfl rfl (by kernel_rfl) rfl (k := (dBelow b cc 8).1.toNat) (by omega) (by first | omega | (simp only [List.length_set]; omega) | (simp; omega))) ?_
    refine AL_p (x_ostore (_) rfl rfl rfl rfl (by kernel_rfl) rfl rfl rfl rfl FitL.rf rfl rfl (by first | omega | (rw [filledTo_len (by omega)]; omega) | (simp; omega))) ?_
    refine AL_nild (by kernel_rfl) ?_
    refine AW_seq ?_
    refine AW_regionN ?_
    refine AN_p (x_move rfl rfl) ?_
    have d32 := dBelow_lt b (dBelow b (dBelow b cc 8).2 4).2 (n := 6) (by decide)
    refine AN_p (x_call (ks := []) (L := [(200, some _)]) (L' := [(200, some _)]) rfl rfl rfl (below_c b (dBelow b (dBelow b cc 8).2 4).2 hb 6) rfl AllV.rf (caught_of rfl) rfl rfl rfl ⟨rfl, trivial⟩ rfl) ?_
    refine AN_p (x_assign rfl rfl) ?_
    refine AN_nil ?_
    refine AW_seq ?_
    refine AW_seq ?_
    refine AW_regionN ?_
    refine AN_p (x_move rfl rfl) ?_
    refine AN_b (x_eql rfl rfl rfl) (fun b34 h34 => ?_)
    refine AN_nil ?_
    cases b34
    · try simp only [tdy] at h34
      refine AW_condF rfl ?_
      refine AW_skip ?_
      refine AW_seq ?_
      refine AW_seq ?_
      refine AW_regionN ?_
      refine AN_p (x_move rfl rfl) ?_
      refine AN_b (x_eql rfl rfl rfl) (fun b48 h48 => ?_)
      refine AN_nil ?_
      cases b48
      · try simp only [tdy] at h48
        refine AW_condF rfl ?_
        refine AW_skip ?_
        refine AW_draw rfl ?_
        refine AL_p (x_field (off := 0) (o' := 0) rfl rfl rfl (by kernel_rfl) rfl) ?_
        refine AL_p (x_load1 rfl rfl rfl (by kernel_rfl) rfl) ?_
        refine AL_p (x_move rfl rfl) ?_
        refine AL_p (x_field (off := 0) (o' := 0) rfl rfl rfl (by kernel_rfl) rfl) ?_
        refine AL_p (x_load1 rfl rfl rfl (by kernel_rfl) rfl) ?_
        refine AL_p (x_move rfl rfl) ?_
        refine AL_p (x_oindex (n := 1) rfl rfl rfl rfl (by kernel_rfl) rfl (k := (dBelow b cc 8).1.toNat) (by omega) (by first | omega | (simp only [List.length_set]; omega) | (simp; omega))) ?_
        refine AL_p (x_oload1 rfl rfl rfl (by kernel_rfl) (by first | omega | (simp only [List.length_set]; omega) | (simp; omega)) rfl) ?_
        refine AL_p (x_field (off := 1) (o' := 1) rfl rfl rfl (by kernel_rfl) rfl) ?_
        refine AL_p (x_load1 rfl rfl rfl (by kernel_rfl) rfl) ?_
        refine AL_p (x_move rfl rfl) ?_
        refine AL_p (x_oindex (n := 1) rfl rfl rfl rfl (by kernel_rfl) rfl (k := (dBelow b cc 8).1.toNat) (by omega) (by first | omega | (simp only [List.length_set]; omega) | (simp; omega))) ?_
        refine AL_p (x_oload1 rfl rfl rfl (by kernel_rfl) (by first | omega | (simp only [List.length_set]; omega) | (simp; omega)) rfl) ?_
        refine AL_p (x_and rfl rfl rfl ) ?_
        refine AL_p (x_oindex (n := 1) rfl rfl rfl rfl (by kernel_rfl) rfl (k := (dBelow b cc 8).1.toNat) (by omega) (by first | omega | (simp only [List.length_set]; omega) | (simp; omega))) ?_
        refine AL_p (x_ostore (_) rfl rfl rfl rfl (by kernel_rfl) rfl rfl rfl rfl FitL.rf rfl rfl (by first | omega | (rw [filledTo_len (by omega)]; omega) | (simp; omega))) ?_
        refine AL_nild (by kernel_rfl) ?_
        refine AW_regionN ?_
        refine AN_p (x_move rfl rfl) ?_
        refine AN_p (x_sub rfl rfl rfl (IntWalk.i64_in _ (by omega))) ?_
        refine AN_p (x_assign rfl rfl) ?_
        refine AN_nil ?_
        refine ⟨⟨⟨_, _, _, _⟩, ?_⟩, rn [], by exact ⟨by (repeat refine ⟨⟨_, rfl, by first | exact VLe.rf | exact vle_int (by dsimp only; omega)⟩, ?_⟩); exact trivial, by (repeat refine ⟨⟨_, rfl, by first | exact BLe.rf | exact BLe.box AllC.rf | exact BLe.arr (by exact rfl)⟩, ?_⟩); exact trivial, by repeat (first | exact trivial | refine ⟨⟨rfl, by first | (left; intro h; cases h) | (right; rfl), by first | exact (fun _ h => ⟨_, h⟩) | exact (fun _ _ => ⟨_, rfl⟩) | (intro _ h; cases h)⟩, ?_⟩), rfl⟩, by dsimp only; omega⟩
        exact ⟨by simp only [List.length_set]; omega, by simp only [List.length_set]; omega, by dsimp only; omega⟩
      try simp only [tdy] at h48
      refine AW_condT rfl ?_
      refine AW_draw rfl ?_
      refine AL_p (x_field (off := 1) (o' := 1) rfl rfl rfl (by kernel_rfl) rfl) ?_
      refine AL_p (x_load1 rfl rfl rfl (by kernel_rfl) rfl) ?_
      refine AL_p (x_move rfl rfl) ?_
      refine AL_p (x_move rfl rfl) ?_
      have d53 := dBelow_lt b (dBelow b (dBelow b (dBelow b cc 8).2 4).2 6).2 (n := 3) (by decide)
      refine AL_p (x_call (ks := []) (L := [(200, some _)]) (L' := [(200, some _)]) rfl rfl rfl (below_c b (dBelow b (dBelow b (dBelow b cc 8).2 4).2 6).2 hb 3) rfl AllV.rf (caught_of rfl) rfl rfl rfl ⟨rfl, trivial⟩ rfl) ?_
      refine AL_p (x_shl rfl rfl rfl (by omega) rfl) ?_
      refine AL_p (x_oindex (n := 1) rfl rfl rfl rfl (by kernel_rfl) rfl (k := (dBelow b cc 8).1.toNat) (by omega) (by first | omega | (simp only [List.length_set]; omega) | (simp; omega))) ?_
      refine AL_p (x_ostore (_) rfl rfl rfl rfl (by kernel_rfl) rfl rfl rfl rfl FitL.rf rfl rfl (by first | omega | (rw [filledTo_len (by omega)]; omega) | (simp; omega))) ?_
      refine AL_nild (by kernel_rfl) ?_
      refine AW_draw rfl ?_
      refine AL_p (x_field (off := 0) (o' := 0) rfl rfl rfl (by kernel_rfl) rfl) ?_
      refine AL_p (x_load1 rfl rfl rfl (by kernel_rfl) rfl) ?_
      refine AL_p (x_move rfl rfl) ?_
      refine AL_p (x_field (off := 0) (o' := 0) rfl rfl rfl (by kernel_rfl) rfl) ?_
      refine AL_p (x_load1 rfl rfl rfl (by kernel_rfl) rfl) ?_
      refine AL_p (x_move rfl rfl) ?_
      refine AL_p (x_oindex (n := 1) rfl rfl rfl rfl (by kernel_rfl) rfl (k := (dBelow b cc 8).1.toNat) (by omega) (by first | omega | (simp only [List.length_set]; omega) | (simp; omega))) ?_
      refine AL_p (x_oload1 rfl rfl rfl (by kernel_rfl) (by first | omega | (simp only [List.length_set]; omega) | (simp; omega)) rfl) ?_
      refine AL_p (x_field (off := 1) (o' := 1) rfl rfl rfl (by kernel_rfl) rfl) ?_
      refine AL_p (x_load1 rfl rfl rfl (by kernel_rfl) rfl) ?_
      refine AL_p (x_move rfl rfl) ?_
      refine AL_p (x_oindex (n := 1) rfl rfl rfl rfl (by kernel_rfl) rfl (k := (dBelow b cc 8).1.toNat) (by omega) (by first | omega | (simp only [List.length_set]; omega) | (simp; omega))) ?_
      refine AL_p (x_oload1 rfl rfl rfl (by kernel_rfl) (by first | omega | (simp only [List.length_set]; omega) | (simp; omega)) rfl) ?_
      refine AL_p (x_and rfl rfl rfl ) ?_
      refine AL_p (x_oindex (n := 1) rfl rfl rfl rfl (by kernel_rfl) rfl (k := (dBelow b cc 8).1.toNat) (by omega) (by first | omega | (simp only [List.length_set]; omega) | (simp; omega))) ?_
      refine AL_p (x_ostore (_) rfl rfl rfl rfl (by kernel_rfl) rfl rfl rfl rfl FitL.rf rfl rfl (by first | omega | (rw [filledTo_len (by omega)]; omega) | (simp; omega))) ?_
      refine AL_nild (by kernel_rfl) ?_
      refine AW_regionN ?_
      refine AN_p (x_move rfl rfl) ?_
      refine AN_p (x_sub rfl rfl rfl (IntWalk.i64_in _ (by omega))) ?_
      refine AN_p (x_assign rfl rfl) ?_
      refine AN_nil ?_
      refine ⟨⟨⟨_, _, _, _⟩, ?_⟩, rn [], by exact ⟨by (repeat refine ⟨⟨_, rfl, by first | exact VLe.rf | exact vle_int (by dsimp only; omega)⟩, ?_⟩); exact trivial, by (repeat refine ⟨⟨_, rfl, by first | exact BLe.rf | exact BLe.box AllC.rf | exact BLe.arr (by exact rfl)⟩, ?_⟩); exact trivial, by repeat (first | exact trivial | refine ⟨⟨rfl, by first | (left; intro h; cases h) | (right; rfl), by first | exact (fun _ h => ⟨_, h⟩) | exact (fun _ _ => ⟨_, rfl⟩) | (intro _ h; cases h)⟩, ?_⟩), rfl⟩, by dsimp only; omega⟩
      exact ⟨by simp only [List.length_set]; omega, by simp only [List.length_set]; omega, by dsimp only; omega⟩
    try simp only [tdy] at h34
    refine AW_condT rfl ?_
    refine AW_draw rfl ?_
    refine AL_p (x_field (off := 1) (o' := 1) rfl rfl rfl (by kernel_rfl) rfl) ?_
    refine AL_p (x_load1 rfl rfl rfl (by kernel_rfl) rfl) ?_
    refine AL_p (x_move rfl rfl) ?_
    refine AL_p (x_field (off := 1) (o' := 1) rfl rfl rfl (by kernel_rfl) rfl) ?_
    refine AL_p (x_load1 rfl rfl rfl (by kernel_rfl) rfl) ?_
    refine AL_p (x_move rfl rfl) ?_
    refine AL_p (x_oindex (n := 1) rfl rfl rfl rfl (by kernel_rfl) rfl (k := (dBelow b cc 8).1.toNat) (by omega) (by first | omega | (simp only [List.length_set]; omega) | (simp; omega))) ?_
    refine AL_p (x_oload1 rfl rfl rfl (by kernel_rfl) (by first | omega | (simp only [List.length_set]; omega) | (simp; omega)) rfl) ?_
    refine AL_p (x_move rfl rfl) ?_
    have d44 := dBelow_lt b (dBelow b (dBelow b (dBelow b cc 8).2 4).2 6).2 (n := 8) (by decide)
    refine AL_p (x_call (ks := []) (L := [(200, some _)]) (L' := [(200, some _)]) rfl rfl rfl (below_c b (dBelow b (dBelow b (dBelow b cc 8).2 4).2 6).2 hb 8) rfl AllV.rf (caught_of rfl) rfl rfl rfl ⟨rfl, trivial⟩ rfl) ?_
    refine AL_p (x_sub rfl rfl rfl (r := w64 _) rfl) ?_
    refine AL_p (x_oindex (n := 1) rfl rfl rfl rfl (by kernel_rfl) rfl (k := (dBelow b cc 8).1.toNat) (by omega) (by first | omega | (simp only [List.length_set]; omega) | (simp; omega))) ?_
    refine AL_p (x_ostore (_) rfl rfl rfl rfl (by kernel_rfl) rfl rfl rfl rfl FitL.rf rfl rfl (by first | omega | (rw [filledTo_len (by omega)]; omega) | (simp; omega))) ?_
    refine AL_nild (by kernel_rfl) ?_
    refine AW_seq ?_
    refine AW_seq ?_
    refine AW_regionN ?_
    refine AN_p (x_move rfl rfl) ?_
    refine AN_b (x_eql rfl rfl rfl) (fun b48 h48 => ?_)
    refine AN_nil ?_
    cases b48
    · try simp only [tdy] at h48
      refine AW_condF rfl ?_
      refine AW_skip ?_
      refine AW_draw rfl ?_
      refine AL_p (x_field (off := 0) (o' := 0) rfl rfl rfl (by kernel_rfl) rfl) ?_
      refine AL_p (x_load1 rfl rfl rfl (by kernel_rfl) rfl) ?_
      refine AL_p (x_move rfl rfl) ?_
      refine AL_p (x_field (off := 0) (o' := 0) rfl rfl rfl (by kernel_rfl) rfl) ?_
      refine AL_p (x_load1 rfl rfl rfl (by kernel_rfl) rfl) ?_
      refine AL_p (x_move rfl rfl) ?_
      refine AL_p (x_oindex (n := 1) rfl rfl rfl rfl (by kernel_rfl) rfl (k := (dBelow b cc 8).1.toNat) (by omega) (by first | omega | (simp only [List.length_set]; omega) | (simp; omega))) ?_
      refine AL_p (x_oload1 rfl rfl rfl (by kernel_rfl) (by first | omega | (simp only [List.length_set]; omega) | (simp; omega)) rfl) ?_
      refine AL_p (x_field (off := 1) (o' := 1) rfl rfl rfl (by kernel_rfl) rfl) ?_
      refine AL_p (x_load1 rfl rfl rfl (by kernel_rfl) rfl) ?_
      refine AL_p (x_move rfl rfl) ?_
      refine AL_p (x_oindex (n := 1) rfl rfl rfl rfl (by kernel_rfl) rfl (k := (dBelow b cc 8).1.toNat) (by omega) (by first | omega | (simp only [List.length_set]; omega) | (simp; omega))) ?_
      refine AL_p (x_oload1 rfl rfl rfl (by kernel_rfl) (by first | omega | (simp only [List.length_set]; omega) | (simp; omega)) rfl) ?_
      refine AL_p (x_and rfl rfl rfl ) ?_
      refine AL_p (x_oindex (n := 1) rfl rfl rfl rfl (by kernel_rfl) rfl (k := (dBelow b cc 8).1.toNat) (by omega) (by first | omega | (simp only [List.length_set]; omega) | (simp; omega))) ?_
      refine AL_p (x_ostore (_) rfl rfl rfl rfl (by kernel_rfl) rfl rfl rfl rfl FitL.rf rfl rfl (by first | omega | (rw [filledTo_len (by omega)]; omega) | (simp; omega))) ?_
      refine AL_nild (by kernel_rfl) ?_
      refine AW_regionN ?_
      refine AN_p (x_move rfl rfl) ?_
      refine AN_p (x_sub rfl rfl rfl (IntWalk.i64_in _ (by omega))) ?_
      refine AN_p (x_assign rfl rfl) ?_
      refine AN_nil ?_
      refine ⟨⟨⟨_, _, _, _⟩, ?_⟩, rn [], by exact ⟨by (repeat refine ⟨⟨_, rfl, by first | exact VLe.rf | exact vle_int (by dsimp only; omega)⟩, ?_⟩); exact trivial, by (repeat refine ⟨⟨_, rfl, by first | exact BLe.rf | exact BLe.box AllC.rf | exact BLe.arr (by exact rfl)⟩, ?_⟩); exact trivial, by repeat (first | exact trivial | refine ⟨⟨rfl, by first | (left; intro h; cases h) | (right; rfl), by first | exact (fun _ h => ⟨_, h⟩) | exact (fun _ _ => ⟨_, rfl⟩) | (intro _ h; cases h)⟩, ?_⟩), rfl⟩, by dsimp only; omega⟩
      exact ⟨by simp only [List.length_set]; omega, by simp only [List.length_set]; omega, by dsimp only; omega⟩
    try simp only [tdy] at h48
    refine AW_condT rfl ?_
    refine AW_draw rfl ?_
    refine AL_p (x_field (off := 1) (o' := 1) rfl rfl rfl (by kernel_rfl) rfl) ?_
    refine AL_p (x_load1 rfl rfl rfl (by kernel_rfl) rfl) ?_
    refine AL_p (x_move rfl rfl) ?_
    refine AL_p (x_move rfl rfl) ?_
    have d53 := dBelow_lt b (dBelow b (dBelow b (dBelow b (dBelow b cc 8).2 4).2 6).2 8).2 (n := 3) (by decide)
    refine AL_p (x_call (ks := []) (L := [(200, some _)]) (L' := [(200, some _)]) rfl rfl rfl (below_c b (dBelow b (dBelow b (dBelow b (dBelow b cc 8).2 4).2 6).2 8).2 hb 3) rfl AllV.rf (caught_of rfl) rfl rfl rfl ⟨rfl, trivial⟩ rfl) ?_
    refine AL_p (x_shl rfl rfl rfl (by omega) rfl) ?_
    refine AL_p (x_oindex (n := 1) rfl rfl rfl rfl (by kernel_rfl) rfl (k := (dBelow b cc 8).1.toNat) (by omega) (by first | omega | (simp only [List.length_set]; omega) | (simp; omega))) ?_
    refine AL_p (x_ostore (_) rfl rfl rfl rfl (by kernel_rfl) rfl rfl rfl rfl FitL.rf rfl rfl (by first | omega | (rw [filledTo_len (by omega)]; omega) | (simp; omega))) ?_
    refine AL_nild (by kernel_rfl) ?_
    refine AW_draw rfl ?_
    refine AL_p (x_field (off := 0) (o' := 0) rfl rfl rfl (by kernel_rfl) rfl) ?_
    refine AL_p (x_load1 rfl rfl rfl (by kernel_rfl) rfl) ?_
    refine AL_p (x_move rfl rfl) ?_
    refine AL_p (x_field (off := 0) (o' := 0) rfl rfl rfl (by kernel_rfl) rfl) ?_
    refine AL_p (x_load1 rfl rfl rfl (by kernel_rfl) rfl) ?_
    refine AL_p (x_move rfl rfl) ?_
    refine AL_p (x_oindex (n := 1) rfl rfl rfl rfl (by kernel_rfl) rfl (k := (dBelow b cc 8).1.toNat) (by omega) (by first | omega | (simp only [List.length_set]; omega) | (simp; omega))) ?_
    refine AL_p (x_oload1 rfl rfl rfl (by kernel_rfl) (by first | omega | (simp only [List.length_set]; omega) | (simp; omega)) rfl) ?_
    refine AL_p (x_field (off := 1) (o' := 1) rfl rfl rfl (by kernel_rfl) rfl) ?_
    refine AL_p (x_load1 rfl rfl rfl (by kernel_rfl) rfl) ?_
    refine AL_p (x_move rfl rfl) ?_
    refine AL_p (x_oindex (n := 1) rfl rfl rfl rfl (by kernel_rfl) rfl (k := (dBelow b cc 8).1.toNat) (by omega) (by first | omega | (simp only [List.length_set]; omega) | (simp; omega))) ?_
    refine AL_p (x_oload1 rfl rfl rfl (by kernel_rfl) (by first | omega | (simp only [List.length_set]; omega) | (simp; omega)) rfl) ?_
    refine AL_p (x_and rfl rfl rfl ) ?_
    refine AL_p (x_oindex (n := 1) rfl rfl rfl rfl (by kernel_rfl) rfl (k := (dBelow b cc 8).1.toNat) (by omega) (by first | omega | (simp only [List.length_set]; omega) | (simp; omega))) ?_
    refine AL_p (x_ostore (_) rfl rfl rfl rfl (by kernel_rfl) rfl rfl rfl rfl FitL.rf rfl rfl (by first | omega | (rw [filledTo_len (by omega)]; omega) | (simp; omega))) ?_
    refine AL_nild (by kernel_rfl) ?_
    refine AW_regionN ?_
    refine AN_p (x_move rfl rfl) ?_
    refine AN_p (x_sub rfl rfl rfl (IntWalk.i64_in _ (by omega))) ?_
    refine AN_p (x_assign rfl rfl) ?_
    refine AN_nil ?_
    refine ⟨⟨⟨_, _, _, _⟩, ?_⟩, rn [], by exact ⟨by (repeat refine ⟨⟨_, rfl, by first | exact VLe.rf | exact vle_int (by dsimp only; omega)⟩, ?_⟩); exact trivial, by (repeat refine ⟨⟨_, rfl, by first | exact BLe.rf | exact BLe.box AllC.rf | exact BLe.arr (by exact rfl)⟩, ?_⟩); exact trivial, by repeat (first | exact trivial | refine ⟨⟨rfl, by first | (left; intro h; cases h) | (right; rfl), by first | exact (fun _ h => ⟨_, h⟩) | exact (fun _ _ => ⟨_, rfl⟩) | (intro _ h; cases h)⟩, ?_⟩), rfl⟩, by dsimp only; omega⟩
    exact ⟨by simp only [List.length_set]; omega, by simp only [List.length_set]; omega, by dsimp only; omega⟩
  try simp only [tdy] at h21
  refine AW_condT rfl ?_
  refine AW_regionN ?_
  refine AN_p (x_move rfl rfl) ?_
  have d23 := dBelow_lt b (dBelow b (dBelow b cc 8).2 4).2 (n := 2) (by decide)
  refine AN_p (x_call (ks := []) (L := [(200, some _)]) (L' := [(200, some _)]) rfl rfl rfl (below_c b (dBelow b (dBelow b cc 8).2 4).2 hb 2) rfl AllV.rf (caught_of rfl) rfl rfl rfl ⟨rfl, trivial⟩ rfl) ?_
  refine AN_p (x_add rfl rfl rfl (IntWalk.i64_in _ (by omega))) ?_
  refine AN_p (x_assign rfl rfl) ?_
  refine AN_nil ?_
  refine AW_seq ?_
  refine AW_draw rfl ?_
  refine AL_p (x_field (off := 1) (o' := 1) rfl rfl rfl (by kernel_rfl) rfl) ?_
  refine AL_p (x_load1 rfl rfl rfl (by kernel_rfl) rfl) ?_
  refine AL_p (x_move rfl rfl) ?_
  refine AL_p (x_move rfl rfl) ?_
  refine AL_p (x_call0 rfl rfl rfl (fullS_c (1 + (dBelow b (dBelow b (dBelow b cc 8).2 4).2 2).1) (by omega) (by omega)) rfl rfl) ?_
  refine AL_p (x_oindex (n := 1) rfl rfl rfl rfl (by kernel_rfl) rfl (k := (1 + (dBelow b (dBelow b (dBelow b cc 8).2 4).2 2).1).toNat) (by omega) (by first | omega | (simp only [List.length_set]; omega) | (simp; omega))) ?_
  refine AL_p (x_ostore (_) rfl rfl rfl rfl (by kernel_rfl) rfl rfl rfl rfl FitL.rf rfl rfl (by first | omega | (rw [filledTo_len (by omega)]; omega) | (simp; omega))) ?_
  refine AL_nild (by kernel_rfl) ?_
  refine AW_seq ?_
  refine AW_regionN ?_
  refine AN_p (x_move rfl rfl) ?_
  have d32 := dBelow_lt b (dBelow b (dBelow b (dBelow b cc 8).2 4).2 2).2 (n := 6) (by decide)
  refine AN_p (x_call (ks := []) (L := [(200, some _)]) (L' := [(200, some _)]) rfl rfl rfl (below_c b (dBelow b (dBelow b (dBelow b cc 8).2 4).2 2).2 hb 6) rfl AllV.rf (caught_of rfl) rfl rfl rfl ⟨rfl, trivial⟩ rfl) ?_
  refine AN_p (x_assign rfl rfl) ?_
  refine AN_nil ?_
  refine AW_seq ?_
  refine AW_seq ?_
  refine AW_regionN ?_
  refine AN_p (x_move rfl rfl) ?_
  refine AN_b (x_eql rfl rfl rfl) (fun b34 h34 => ?_)
  refine AN_nil ?_
  cases b34
  · try simp only [tdy] at h34
    refine AW_condF rfl ?_
    refine AW_skip ?_
    refine AW_seq ?_
    refine AW_seq ?_
    refine AW_regionN ?_
    refine AN_p (x_move rfl rfl) ?_
    refine AN_b (x_eql rfl rfl rfl) (fun b48 h48 => ?_)
    refine AN_nil ?_
    cases b48
    · try simp only [tdy] at h48
      refine AW_condF rfl ?_
      refine AW_skip ?_
      refine AW_draw rfl ?_
      refine AL_p (x_field (off := 0) (o' := 0) rfl rfl rfl (by kernel_rfl) rfl) ?_
      refine AL_p (x_load1 rfl rfl rfl (by kernel_rfl) rfl) ?_
      refine AL_p (x_move rfl rfl) ?_
      refine AL_p (x_field (off := 0) (o' := 0) rfl rfl rfl (by kernel_rfl) rfl) ?_
      refine AL_p (x_load1 rfl rfl rfl (by kernel_rfl) rfl) ?_
      refine AL_p (x_move rfl rfl) ?_
      refine AL_p (x_oindex (n := 1) rfl rfl rfl rfl (by kernel_rfl) rfl (k := (1 + (dBelow b (dBelow b (dBelow b cc 8).2 4).2 2).1).toNat) (by omega) (by first | omega | (simp only [List.length_set]; omega) | (simp; omega))) ?_
      refine AL_p (x_oload1 rfl rfl rfl (by kernel_rfl) (by first | omega | (simp only [List.length_set]; omega) | (simp; omega)) rfl) ?_
      refine AL_p (x_field (off := 1) (o' := 1) rfl rfl rfl (by kernel_rfl) rfl) ?_
      refine AL_p (x_load1 rfl rfl rfl (by kernel_rfl) rfl) ?_
      refine AL_p (x_move rfl rfl) ?_
      refine AL_p (x_oindex (n := 1) rfl rfl rfl rfl (by kernel_rfl) rfl (k := (1 + (dBelow b (dBelow b (dBelow b cc 8).2 4).2 2).1).toNat) (by omega) (by first | omega | (simp only [List.length_set]; omega) | (simp; omega))) ?_
      refine AL_p (x_oload1 rfl rfl rfl (by kernel_rfl) (by first | omega | (simp only [List.length_set]; omega) | (simp; omega)) rfl) ?_
      refine AL_p (x_and rfl rfl rfl ) ?_
      refine AL_p (x_oindex (n := 1) rfl rfl rfl rfl (by kernel_rfl) rfl (k := (1 + (dBelow b (dBelow b (dBelow b cc 8).2 4).2 2).1).toNat) (by omega) (by first | omega | (simp only [List.length_set]; omega) | (simp; omega))) ?_
      refine AL_p (x_ostore (_) rfl rfl rfl rfl (by kernel_rfl) rfl rfl rfl rfl FitL.rf rfl rfl (by first | omega | (rw [filledTo_len (by omega)]; omega) | (simp; omega))) ?_
      refine AL_nild (by kernel_rfl) ?_
      refine AW_regionN ?_
      refine AN_p (x_move rfl rfl) ?_
      refine AN_p (x_sub rfl rfl rfl (IntWalk.i64_in _ (by omega))) ?_
      refine AN_p (x_assign rfl rfl) ?_
      refine AN_nil ?_
      refine ⟨⟨⟨_, _, _, _⟩, ?_⟩, rn [], by exact ⟨by (repeat refine ⟨⟨_, rfl, by first | exact VLe.rf | exact vle_int (by dsimp only; omega)⟩, ?_⟩); exact trivial, by (repeat refine ⟨⟨_, rfl, by first | exact BLe.rf | exact BLe.box AllC.rf | exact BLe.arr (by exact rfl)⟩, ?_⟩); exact trivial, by repeat (first | exact trivial | refine ⟨⟨rfl, by first | (left; intro h; cases h) | (right; rfl), by first | exact (fun _ h => ⟨_, h⟩) | exact (fun _ _ => ⟨_, rfl⟩) | (intro _ h; cases h)⟩, ?_⟩), rfl⟩, by dsimp only; omega⟩
      exact ⟨by simp only [List.length_set]; omega, by simp only [List.length_set]; omega, by dsimp only; omega⟩
    try simp only [tdy] at h48
    refine AW_condT rfl ?_
    refine AW_draw rfl ?_
    refine AL_p (x_field (off := 1) (o' := 1) rfl rfl rfl (by kernel_rfl) rfl) ?_
    refine AL_p (x_load1 rfl rfl rfl (by kernel_rfl) rfl) ?_
    refine AL_p (x_move rfl rfl) ?_
    refine AL_p (x_move rfl rfl) ?_
    have d53 := dBelow_lt b (dBelow b (dBelow b (dBelow b (dBelow b cc 8).2 4).2 2).2 6).2 (n := 3) (by decide)
    refine AL_p (x_call (ks := []) (L := [(200, some _)]) (L' := [(200, some _)]) rfl rfl rfl (below_c b (dBelow b (dBelow b (dBelow b (dBelow b cc 8).2 4).2 2).2 6).2 hb 3) rfl AllV.rf (caught_of rfl) rfl rfl rfl ⟨rfl, trivial⟩ rfl) ?_
    refine AL_p (x_shl rfl rfl rfl (by omega) rfl) ?_
    refine AL_p (x_oindex (n := 1) rfl rfl rfl rfl (by kernel_rfl) rfl (k := (1 + (dBelow b (dBelow b (dBelow b cc 8).2 4).2 2).1).toNat) (by omega) (by first | omega | (simp only [List.length_set]; omega) | (simp; omega))) ?_
    refine AL_p (x_ostore (_) rfl rfl rfl rfl (by kernel_rfl) rfl rfl rfl rfl FitL.rf rfl rfl (by first | omega | (rw [filledTo_len (by omega)]; omega) | (simp; omega))) ?_
    refine AL_nild (by kernel_rfl) ?_
    refine AW_draw rfl ?_
    refine AL_p (x_field (off := 0) (o' := 0) rfl rfl rfl (by kernel_rfl) rfl) ?_
    refine AL_p (x_load1 rfl rfl rfl (by kernel_rfl) rfl) ?_
    refine AL_p (x_move rfl rfl) ?_
    refine AL_p (x_field (off := 0) (o' := 0) rfl rfl rfl (by kernel_rfl) rfl) ?_
    refine AL_p (x_load1 rfl rfl rfl (by kernel_rfl) rfl) ?_
    refine AL_p (x_move rfl rfl) ?_
    refine AL_p (x_oindex (n := 1) rfl rfl rfl rfl (by kernel_rfl) rfl (k := (1 + (dBelow b (dBelow b (dBelow b cc 8).2 4).2 2).1).toNat) (by omega) (by first | omega | (simp only [List.length_set]; omega) | (simp; omega))) ?_
    refine AL_p (x_oload1 rfl rfl rfl (by kernel_rfl) (by first | omega | (simp only [List.length_set]; omega) | (simp; omega)) rfl) ?_
    refine AL_p (x_field (off := 1) (o' := 1) rfl rfl rfl (by kernel_rfl) rfl) ?_
    refine AL_p (x_load1 rfl rfl rfl (by kernel_rfl) rfl) ?_
    refine AL_p (x_move rfl rfl) ?_
    refine AL_p (x_oindex (n := 1) rfl rfl rfl rfl (by kernel_rfl) rfl (k := (1 + (dBelow b (dBelow b (dBelow b cc 8).2 4).2 2).1).toNat) (by omega) (by first | omega | (simp only [List.length_set]; omega) | (simp; omega))) ?_
    refine AL_p (x_oload1 rfl rfl rfl (by kernel_rfl) (by first | omega | (simp only [List.length_set]; omega) | (simp; omega)) rfl) ?_
    refine AL_p (x_and rfl rfl rfl ) ?_
    refine AL_p (x_oindex (n := 1) rfl rfl rfl rfl (by kernel_rfl) rfl (k := (1 + (dBelow b (dBelow b (dBelow b cc 8).2 4).2 2).1).toNat) (by omega) (by first | omega | (simp only [List.length_set]; omega) | (simp; omega))) ?_
    refine AL_p (x_ostore (_) rfl rfl rfl rfl (by kernel_rfl) rfl rfl rfl rfl FitL.rf rfl rfl (by first | omega | (rw [filledTo_len (by omega)]; omega) | (simp; omega))) ?_
    refine AL_nild (by kernel_rfl) ?_
    refine AW_regionN ?_
    refine AN_p (x_move rfl rfl) ?_
    refine AN_p (x_sub rfl rfl rfl (IntWalk.i64_in _ (by omega))) ?_
    refine AN_p (x_assign rfl rfl) ?_
    refine AN_nil ?_
    refine ⟨⟨⟨_, _, _, _⟩, ?_⟩, rn [], by exact ⟨by (repeat refine ⟨⟨_, rfl, by first | exact VLe.rf | exact vle_int (by dsimp only; omega)⟩, ?_⟩); exact trivial, by (repeat refine ⟨⟨_, rfl, by first | exact BLe.rf | exact BLe.box AllC.rf | exact BLe.arr (by exact rfl)⟩, ?_⟩); exact trivial, by repeat (first | exact trivial | refine ⟨⟨rfl, by first | (left; intro h; cases h) | (right; rfl), by first | exact (fun _ h => ⟨_, h⟩) | exact (fun _ _ => ⟨_, rfl⟩) | (intro _ h; cases h)⟩, ?_⟩), rfl⟩, by dsimp only; omega⟩
    exact ⟨by simp only [List.length_set]; omega, by simp only [List.length_set]; omega, by dsimp only; omega⟩
  try simp only [tdy] at h34
  refine AW_condT rfl ?_
  refine AW_draw rfl ?_
  refine AL_p (x_field (off := 1) (o' := 1) rfl rfl rfl (by kernel_rfl) rfl) ?_
  refine AL_p (x_load1 rfl rfl rfl (by kernel_rfl) rfl) ?_
  refine AL_p (x_move rfl rfl) ?_
  refine AL_p (x_field (off := 1) (o' := 1) rfl rfl rfl (by kernel_rfl) rfl) ?_
  refine AL_p (x_load1 rfl rfl rfl (by kernel_rfl) rfl) ?_
  refine AL_p (x_move rfl rfl) ?_
  refine AL_p (x_oindex (n := 1) rfl rfl rfl rfl (by kernel_rfl) rfl (k := (1 + (dBelow b (dBelow b (dBelow b cc 8).2 4).2 2).1).toNat) (by omega) (by first | omega | (simp only [List.length_set]; omega) | (simp; omega))) ?_
  refine AL_p (x_oload1 rfl rfl rfl (by kernel_rfl) (by first | omega | (simp only [List.length_set]; omega) | (simp; omega)) rfl) ?_
  refine AL_p (x_move rfl rfl) ?_
  have d44 := dBelow_lt b (dBelow b (dBelow b (dBelow b (dBelow b cc 8).2 4).2 2).2 6).2 (n := 8) (by decide)
  refine AL_p (x_call (ks := []) (L := [(200, some _)]) (L' := [(200, some _)]) rfl rfl rfl (below_c b (dBelow b (dBelow b (dBelow b (dBelow b cc 8).2 4).2 2).2 6).2 hb 8) rfl AllV.rf (caught_of rfl) rfl rfl rfl ⟨rfl, trivial⟩ rfl) ?_
  refine AL_p (x_sub rfl rfl rfl (r := w64 _) rfl) ?_
  refine AL_p (x_oindex (n := 1) rfl rfl rfl rfl (by kernel_rfl) rfl (k := (1 + (dBelow b (dBelow b (dBelow b cc 8).2 4).2 2).1).toNat) (by omega) (by first | omega | (simp only [List.length_set]; omega) | (simp; omega))) ?_
  refine AL_p (x_ostore (_) rfl rfl rfl rfl (by kernel_rfl) rfl rfl rfl rfl FitL.rf rfl rfl (by first | omega | (rw [filledTo_len (by omega)]; omega) | (simp; omega))) ?_
  refine AL_nild (by kernel_rfl) ?_
  refine AW_seq ?_
  refine AW_seq ?_
  refine AW_regionN ?_
  refine AN_p (x_move rfl rfl) ?_
  refine AN_b (x_eql rfl rfl rfl) (fun b48 h48 => ?_)
  refine AN_nil ?_
  cases b48
  · try simp only [tdy] at h48
    refine AW_condF rfl ?_
    refine AW_skip ?_
    refine AW_draw rfl ?_
    refine AL_p (x_field (off := 0) (o' := 0) rfl rfl rfl (by kernel_rfl) rfl) ?_
    refine AL_p (x_load1 rfl rfl rfl (by kernel_rfl) rfl) ?_
    refine AL_p (x_move rfl rfl) ?_
    refine AL_p (x_field (off := 0) (o' := 0) rfl rfl rfl (by kernel_rfl) rfl) ?_
    refine AL_p (x_load1 rfl rfl rfl (by kernel_rfl) rfl) ?_
    refine AL_p (x_move rfl rfl) ?_
    refine AL_p (x_oindex (n := 1) rfl rfl rfl rfl (by kernel_rfl) rfl (k := (1 + (dBelow b (dBelow b (dBelow b cc 8).2 4).2 2).1).toNat) (by omega) (by first | omega | (simp only [List.length_set]; omega) | (simp; omega))) ?_
    refine AL_p (x_oload1 rfl rfl rfl (by kernel_rfl) (by first | omega | (simp only [List.length_set]; omega) | (simp; omega)) rfl) ?_
    refine AL_p (x_field (off := 1) (o' := 1) rfl rfl rfl (by kernel_rfl) rfl) ?_
    refine AL_p (x_load1 rfl rfl rfl (by kernel_rfl) rfl) ?_
    refine AL_p (x_move rfl rfl) ?_
    refine AL_p (x_oindex (n := 1) rfl rfl rfl rfl (by kernel_rfl) rfl (k := (1 + (dBelow b (dBelow b (dBelow b cc 8).2 4).2 2).1).toNat) (by omega) (by first | omega | (simp only [List.length_set]; omega) | (simp; omega))) ?_
    refine AL_p (x_oload1 rfl rfl rfl (by kernel_rfl) (by first | omega | (simp only [List.length_set]; omega) | (simp; omega)) rfl) ?_
    refine AL_p (x_and rfl rfl rfl ) ?_
    refine AL_p (x_oindex (n := 1) rfl rfl rfl rfl (by kernel_rfl) rfl (k := (1 + (dBelow b (dBelow b (dBelow b cc 8).2 4).2 2).1).toNat) (by omega) (by first | omega | (simp only [List.length_set]; omega) | (simp; omega))) ?_
    refine AL_p (x_ostore (_) rfl rfl rfl rfl (by kernel_rfl) rfl rfl rfl rfl FitL.rf rfl rfl (by first | omega | (rw [filledTo_len (by omega)]; omega) | (simp; omega))) ?_
    refine AL_nild (by kernel_rfl) ?_
    refine AW_regionN ?_
    refine AN_p (x_move rfl rfl) ?_
    refine AN_p (x_sub rfl rfl rfl (IntWalk.i64_in _ (by omega))) ?_
    refine AN_p (x_assign rfl rfl) ?_
    refine AN_nil ?_
    refine ⟨⟨⟨_, _, _, _⟩, ?_⟩, rn [], by exact ⟨by (repeat refine ⟨⟨_, rfl, by first | exact VLe.rf | exact vle_int (by dsimp only; omega)⟩, ?_⟩); exact trivial, by (repeat refine ⟨⟨_, rfl, by first | exact BLe.rf | exact BLe.box AllC.rf | exact BLe.arr (by exact rfl)⟩, ?_⟩); exact trivial, by repeat (first | exact trivial | refine ⟨⟨rfl, by first | (left; intro h; cases h) | (right; rfl), by first | exact (fun _ h => ⟨_, h⟩) | exact (fun _ _ => ⟨_, rfl⟩) | (intro _ h; cases h)⟩, ?_⟩), rfl⟩, by dsimp only; omega⟩
    exact ⟨by simp only [List.length_set]; omega, by simp only [List.length_set]; omega, by dsimp only; omega⟩
  try simp only [tdy] at h48
  refine AW_condT rfl ?_
  refine AW_draw rfl ?_
  refine AL_p (x_field (off := 1) (o' := 1) rfl rfl rfl (by kernel_rfl) rfl) ?_
  refine AL_p (x_load1 rfl rfl rfl (by kernel_rfl) rfl) ?_
  refine AL_p (x_move rfl rfl) ?_
  refine AL_p (x_move rfl rfl) ?_
  have d53 := dBelow_lt b (dBelow b (dBelow b (dBelow b (dBelow b (dBelow b cc 8).2 4).2 2).2 6).2 8).2 (n := 3) (by decide)
  refine AL_p (x_call (ks := []) (L := [(200, some _)]) (L' := [(200, some _)]) rfl rfl rfl (below_c b (dBelow b (dBelow b (dBelow b (dBelow b (dBelow b cc 8).2 4).2 2).2 6).2 8).2 hb 3) rfl AllV.rf (caught_of rfl) rfl rfl rfl ⟨rfl, trivial⟩ rfl) ?_
  refine AL_p (x_shl rfl rfl rfl (by omega) rfl) ?_
  refine AL_p (x_oindex (n := 1) rfl rfl rfl rfl (by kernel_rfl) rfl (k := (1 + (dBelow b (dBelow b (dBelow b cc 8).2 4).2 2).1).toNat) (by omega) (by first | omega | (simp only [List.length_set]; omega) | (simp; omega))) ?_
  refine AL_p (x_ostore (_) rfl rfl rfl rfl (by kernel_rfl) rfl rfl rfl rfl FitL.rf rfl rfl (by first | omega | (rw [filledTo_len (by omega)]; omega) | (simp; omega))) ?_
  refine AL_nild (by kernel_rfl) ?_
  refine AW_draw rfl ?_
  refine AL_p (x_field (off := 0) (o' := 0) rfl rfl rfl (by kernel_rfl) rfl) ?_
  refine AL_p (x_load1 rfl rfl rfl (by kernel_rfl) rfl) ?_
  refine AL_p (x_move rfl rfl) ?_
  refine AL_p (x_field (off := 0) (o' := 0) rfl rfl rfl (by kernel_rfl) rfl) ?_
  refine AL_p (x_load1 rfl rfl rfl (by kernel_rfl) rfl) ?_
  refine AL_p (x_move rfl rfl) ?_
  refine AL_p (x_oindex (n := 1) rfl rfl rfl rfl (by kernel_rfl) rfl (k := (1 + (dBelow b (dBelow b (dBelow b cc 8).2 4).2 2).1).toNat) (by omega) (by first | omega | (simp only [List.length_set]; omega) | (simp; omega))) ?_
  refine AL_p (x_oload1 rfl rfl rfl (by kernel_rfl) (by first | omega | (simp only [List.length_set]; omega) | (simp; omega)) rfl) ?_
  refine AL_p (x_field (off := 1) (o' := 1) rfl rfl rfl (by kernel_rfl) rfl) ?_
  refine AL_p (x_load1 rfl rfl rfl (by kernel_rfl) rfl) ?_
  refine AL_p (x_move rfl rfl) ?_
  refine AL_p (x_oindex (n := 1) rfl rfl rfl rfl (by kernel_rfl) rfl (k := (1 + (dBelow b (dBelow b (dBelow b cc 8).2 4).2 2).1).toNat) (by omega) (by first | omega | (simp only [List.length_set]; omega) | (simp; omega))) ?_
  refine AL_p (x_oload1 rfl rfl rfl (by kernel_rfl) (by first | omega | (simp only [List.length_set]; omega) | (simp; omega)) rfl) ?_
  refine AL_p (x_and rfl rfl rfl ) ?_
  refine AL_p (x_oindex (n := 1) rfl rfl rfl rfl (by kernel_rfl) rfl (k := (1 + (dBelow b (dBelow b (dBelow b cc 8).2 4).2 2).1).toNat) (by omega) (by first | omega | (simp only [List.length_set]; omega) | (simp; omega))) ?_
  refine AL_p (x_ostore (_) rfl rfl rfl rfl (by kernel_rfl) rfl rfl rfl rfl FitL.rf rfl rfl (by first | omega | (rw [filledTo_len (by omega)]; omega) | (simp; omega))) ?_
  refine AL_nild (by kernel_rfl) ?_
  refine AW_regionN ?_
  refine AN_p (x_move rfl rfl) ?_
  refine AN_p (x_sub rfl rfl rfl (IntWalk.i64_in _ (by omega))) ?_
  refine AN_p (x_assign rfl rfl) ?_
  refine AN_nil ?_
  refine ⟨⟨⟨_, _, _, _⟩, ?_⟩, rn [], by exact ⟨by (repeat refine ⟨⟨_, rfl, by first | exact VLe.rf | exact vle_int (by dsimp only; omega)⟩, ?_⟩); exact trivial, by (repeat refine ⟨⟨_, rfl, by first | exact BLe.rf | exact BLe.box AllC.rf | exact BLe.arr (by exact rfl)⟩, ?_⟩); exact trivial, by repeat (first | exact trivial | refine ⟨⟨rfl, by first | (left; intro h; cases h) | (right; rfl), by first | exact (fun _ h => ⟨_, h⟩) | exact (fun _ _ => ⟨_, rfl⟩) | (intro _ h; cases h)⟩, ?_⟩), rfl⟩, by dsimp only; omega⟩
  exact ⟨by simp only [List.length_set]; omega, by simp only [List.length_set]; omega, by dsimp only; omega⟩

set_option maxHeartbeats 4000000 in
theorem anyMatch_x (b : List Int) (c : Cur) (hb : b.length ≤ 1048576) : AX Try.prog 134 [.one (.ptr 200 0)] [(200, some (curB b c))] (ι := (List Int × List Int) × Cur) (fun i => i.1.1.length ≤ 9 ∧ i.1.2.length ≤ 9) (fun i => .agg [.sl (intE .i64) i.1.1, .sl (intE .i64) i.1.2]) (fun i => [(200, some (curB b i.2))]) := by
  refine AX_bodyC (n := 2) (k := 9) (cs := fun (i : (List Int × List Int) × Cur) => [.sl (intE .i64) i.1.1, .sl (intE .i64) i.1.2]) (T := fun (_ : (List Int × List Int) × Cur) => [(2, .one (.ptr 9 0))]) (Lf := fun (i : (List Int × List Int) × Cur) => ((9, some (.box [.sl (intE .i64) i.1.1, .sl (intE .i64) i.1.2])) :: [(200, some (curB b i.2))])) (L' := fun (i : (List Int × List Int) × Cur) => [(200, some (curB b i.2))]) Try.func134 rfl rfl Try.ntmps134 rfl Try.results134 (fun _ => rfl) (fun _ => rfl) (by kernel_rfl) (fun _ => rfl) (fun _ => rfl) (fun (_ : (List Int × List Int) × Cur) => ⟨trivial, (by repeat (first | exact trivial | refine ⟨⟨_, rfl, BLe.rf⟩, ?_⟩)), (by repeat (first | exact trivial | refine ⟨⟨rfl, by first | (left; intro h; cases h) | (right; rfl), by first | exact (fun _ h => ⟨_, h⟩) | exact (fun _ _ => ⟨_, rfl⟩) | (intro _ h; cases h)⟩, ?_⟩)), rfl⟩) ?_
  refine AW_seq ?_
  refine AW_regionN ?_
  refine AN_p (x_alloc (z := .agg #[.slice none 0 0, .slice none 0 0]) 100 rfl (by kernel_rfl) rfl rfl rfl rfl) ?_
  refine AN_nil ?_
  refine AW_seq ?_
  refine AW_regionN ?_
  refine AN_p (x_move rfl rfl) ?_
  refine AN_x (L := [(200, some (curB b c))]) rfl rfl rfl (match_x b c hb) rfl rfl (fun _ => rfl) (fun _ => rfl) ⟨rfl, trivial⟩ (fun _ => rfl) ?_
  rintro ⟨x7, c7⟩ g7
  try dsimp only at g7
  try dsimp only
  obtain ⟨ga7, gb7⟩ := g7
  obtain ⟨xv, xm⟩ := x7
  dsimp only at ga7 gb7 ⊢
  refine AN_p (x_alloc (z := .agg #[.slice none 0 0, .slice none 0 0]) 101 rfl (by kernel_rfl) rfl rfl rfl rfl) ?_
  refine AN_p (x_store (n := 2) rfl rfl rfl rfl (by kernel_rfl) rfl rfl rfl) ?_
  refine AN_nil ?_
  refine AW_seq ?_
  refine AW_regionN ?_
  refine AN_p (x_move rfl rfl) ?_
  have d9 := dBelow_lt b c7 (n := 8) (by decide)
  refine AN_p (x_call (ks := []) (L := [(200, some _)]) (L' := [(200, some _)]) rfl rfl rfl (below_c b c7 hb 8) rfl AllV.rf (caught_of rfl) rfl rfl rfl ⟨rfl, trivial⟩ rfl) ?_
  refine AN_p (x_assign rfl rfl) ?_
  refine AN_nil ?_
  refine AW_seq ?_
  refine AW_regionN ?_
  refine AN_p (x_move rfl rfl) ?_
  have d11 := dBelow_lt b (dBelow b c7 8).2 (n := 16) (by decide)
  refine AN_p (x_call (ks := []) (L := [(200, some _)]) (L' := [(200, some _)]) rfl rfl rfl (below_c b (dBelow b c7 8).2 hb 16) rfl AllV.rf (caught_of rfl) rfl rfl rfl ⟨rfl, trivial⟩ rfl) ?_
  refine AN_p (x_assign rfl rfl) ?_
  refine AN_nil ?_
  refine AW_seq ?_
  refine AW_seq ?_
  refine AW_regionN ?_
  refine AN_p (x_move rfl rfl) ?_
  refine AN_b (x_eql rfl rfl rfl) (fun b13 h13 => ?_)
  refine AN_nil ?_
  cases b13
  rotate_left
  · try simp only [tdy] at h13
    refine AW_condT rfl ?_
    refine AW_draw rfl ?_
    refine AL_p (x_field (off := 1) (o' := 1) rfl rfl rfl (by kernel_rfl) rfl) ?_
    refine AL_p (x_load1 rfl rfl rfl (by kernel_rfl) rfl) ?_
    refine AL_p (x_move rfl rfl) ?_
    refine AL_p (x_move rfl rfl) ?_
    refine AL_p (x_call (ks := []) (L := [(200, some _)]) (L' := [(200, some _)]) rfl rfl rfl (raw_c b (dBelow b (dBelow b c7 8).2 16).2 hb) rfl AllV.rf (caught_of rfl) rfl rfl rfl ⟨rfl, trivial⟩ rfl) ?_
    refine AL_p (x_oindex (n := 1) rfl rfl rfl rfl (by kernel_rfl) rfl (k := (dBelow b c7 8).1.toNat) (by omega) (by first | omega | (simp only [List.length_set]; omega) | (simp; omega))) ?_
    refine AL_p (x_ostore (_) rfl rfl rfl rfl (by kernel_rfl) rfl rfl rfl rfl FitL.rf rfl rfl (by first | omega | (rw [filledTo_len (by omega)]; omega) | (simp; omega))) ?_
    refine AL_nild (by kernel_rfl) ?_
    refine AW_seq ?_
    refine AW_seq ?_
    refine AW_regionN ?_
    refine AN_p (x_move rfl rfl) ?_
    refine AN_b (x_eql rfl rfl rfl) (fun b21 h21 => ?_)
    refine AN_nil ?_
    cases b21
    rotate_left
    · exfalso; simp at h21; omega
    try simp only [tdy] at h21
    refine AW_condF rfl ?_
    refine AW_skip ?_
    refine AW_seq ?_
    refine AW_seq ?_
    refine AW_regionN ?_
    refine AN_p (x_move rfl rfl) ?_
    refine AN_b (x_eql rfl rfl rfl) (fun b29 h29 => ?_)
    refine AN_nil ?_
    cases b29
    rotate_left
    · exfalso; simp at h29; omega
    try simp only [tdy] at h29
    refine AW_condF rfl ?_
    refine AW_skip ?_
    refine AW_seq ?_
    refine AW_seq ?_
    refine AW_regionN ?_
    refine AN_p (x_move rfl rfl) ?_
    refine AN_b (x_eql rfl rfl rfl) (fun b36 h36 => ?_)
    refine AN_nil ?_
    cases b36
    rotate_left
    · exfalso; simp at h36; omega
    try simp only [tdy] at h36
    refine AW_condF rfl ?_
    refine AW_skip ?_
    refine AW_seq ?_
    refine AW_regionN ?_
    refine AN_p (x_loadN (n := 2) rfl rfl rfl (by kernel_rfl) rfl rfl) ?_
    refine AN_p (x_store (n := 2) rfl rfl rfl rfl (by kernel_rfl) rfl rfl rfl) ?_
    refine AN_nil ?_
    refine AW_shutB 301 100 0 rfl rfl rfl rfl ?_
    refine AW_shutB 302 100 1 rfl rfl rfl rfl ?_
    refine AW_ret ?_
    refine ⟨⟨⟨_, _⟩, _⟩, ?_, rn [(9, 100)], by exact ⟨⟨⟨_, rfl, VLe.rf⟩, trivial⟩, ⟨⟨_, rfl, by first | exact BLe.rf | exact BLe.box (by repeat (first | exact trivial | refine ⟨by first | exact CLe.rf | exact CLe.nil, ?_⟩))⟩, ⟨_, rfl, BLe.rf⟩, trivial⟩, by repeat (first | exact trivial | refine ⟨⟨rfl, by first | (left; intro h; cases h) | (right; rfl), by first | exact (fun _ h => ⟨_, h⟩) | exact (fun _ _ => ⟨_, rfl⟩) | (intro _ h; cases h)⟩, ?_⟩), rfl⟩⟩
    exact ⟨by first | (dsimp only; omega) | (simp; omega), by first | (dsimp only; omega) | (simp; omega)⟩
  try simp only [tdy] at h13
  refine AW_condF rfl ?_
  refine AW_skip ?_
  refine AW_seq ?_
  refine AW_seq ?_
  refine AW_regionN ?_
  refine AN_p (x_move rfl rfl) ?_
  refine AN_b (x_eql rfl rfl rfl) (fun b21 h21 => ?_)
  refine AN_nil ?_
  cases b21
  rotate_left
  · try simp only [tdy] at h21
    refine AW_condT rfl ?_
    refine AW_draw rfl ?_
    refine AL_p (x_field (off := 0) (o' := 0) rfl rfl rfl (by kernel_rfl) rfl) ?_
    refine AL_p (x_load1 rfl rfl rfl (by kernel_rfl) rfl) ?_
    refine AL_p (x_move rfl rfl) ?_
    refine AL_p (x_move rfl rfl) ?_
    refine AL_p (x_call (ks := []) (L := [(200, some _)]) (L' := [(200, some _)]) rfl rfl rfl (raw_c b (dBelow b (dBelow b c7 8).2 16).2 hb) rfl AllV.rf (caught_of rfl) rfl rfl rfl ⟨rfl, trivial⟩ rfl) ?_
    refine AL_p (x_oindex (n := 1) rfl rfl rfl rfl (by kernel_rfl) rfl (k := (dBelow b c7 8).1.toNat) (by omega) (by first | omega | (simp only [List.length_set]; omega) | (simp; omega))) ?_
    refine AL_p (x_ostore (_) rfl rfl rfl rfl (by kernel_rfl) rfl rfl rfl rfl FitL.rf rfl rfl (by first | omega | (rw [filledTo_len (by omega)]; omega) | (simp; omega))) ?_
    refine AL_nild (by kernel_rfl) ?_
    refine AW_seq ?_
    refine AW_seq ?_
    refine AW_regionN ?_
    refine AN_p (x_move rfl rfl) ?_
    refine AN_b (x_eql rfl rfl rfl) (fun b29 h29 => ?_)
    refine AN_nil ?_
    cases b29
    rotate_left
    · exfalso; simp at h29; omega
    try simp only [tdy] at h29
    refine AW_condF rfl ?_
    refine AW_skip ?_
    refine AW_seq ?_
    refine AW_seq ?_
    refine AW_regionN ?_
    refine AN_p (x_move rfl rfl) ?_
    refine AN_b (x_eql rfl rfl rfl) (fun b36 h36 => ?_)
    refine AN_nil ?_
    cases b36
    rotate_left
    · exfalso; simp at h36; omega
    try simp only [tdy] at h36
    refine AW_condF rfl ?_
    refine AW_skip ?_
    refine AW_seq ?_
    refine AW_regionN ?_
    refine AN_p (x_loadN (n := 2) rfl rfl rfl (by kernel_rfl) rfl rfl) ?_
    refine AN_p (x_store (n := 2) rfl rfl rfl rfl (by kernel_rfl) rfl rfl rfl) ?_
    refine AN_nil ?_
    refine AW_shutB 301 100 0 rfl rfl rfl rfl ?_
    refine AW_shutB 302 100 1 rfl rfl rfl rfl ?_
    refine AW_ret ?_
    refine ⟨⟨⟨_, _⟩, _⟩, ?_, rn [(9, 100)], by exact ⟨⟨⟨_, rfl, VLe.rf⟩, trivial⟩, ⟨⟨_, rfl, by first | exact BLe.rf | exact BLe.box (by repeat (first | exact trivial | refine ⟨by first | exact CLe.rf | exact CLe.nil, ?_⟩))⟩, ⟨_, rfl, BLe.rf⟩, trivial⟩, by repeat (first | exact trivial | refine ⟨⟨rfl, by first | (left; intro h; cases h) | (right; rfl), by first | exact (fun _ h => ⟨_, h⟩) | exact (fun _ _ => ⟨_, rfl⟩) | (intro _ h; cases h)⟩, ?_⟩), rfl⟩⟩
    exact ⟨by first | (dsimp only; omega) | (simp; omega), by first | (dsimp only; omega) | (simp; omega)⟩
  try simp only [tdy] at h21
  refine AW_condF rfl ?_
  refine AW_skip ?_
  refine AW_seq ?_
  refine AW_seq ?_
  refine AW_regionN ?_
  refine AN_p (x_move rfl rfl) ?_
  refine AN_b (x_eql rfl rfl rfl) (fun b29 h29 => ?_)
  refine AN_nil ?_
  cases b29
  rotate_left
  · try simp only [tdy] at h29
    refine AW_condT rfl ?_
    refine AW_shutB 301 101 0 rfl rfl rfl rfl ?_
    refine AW_regionN ?_
    refine AN_p (x_field (off := 0) (o' := 0) rfl rfl rfl (by kernel_rfl) rfl) ?_
    refine AN_p (x_load1 rfl rfl rfl (by kernel_rfl) rfl) ?_
    refine AN_p (x_move rfl rfl) ?_
    refine AN_p (x_slice (E := 3) (n := 1) rfl rfl (by kernel_rfl) rfl .no (.yes (l := (dBelow b c7 8).1.toNat) rfl (by omega)) (by omega) (by first | exact Nat.le_refl _ | omega) rfl) ?_
    refine AN_p (x_field (off := 0) (o' := 0) rfl rfl rfl (by kernel_rfl) rfl) ?_
    refine AN_p (x_store (n := 1) rfl rfl rfl rfl (by kernel_rfl) rfl rfl rfl) ?_
    refine AN_nil ?_
    refine AW_seq ?_
    refine AW_seq ?_
    refine AW_regionN ?_
    refine AN_p (x_move rfl rfl) ?_
    refine AN_b (x_eql rfl rfl rfl) (fun b36 h36 => ?_)
    refine AN_nil ?_
    cases b36
    rotate_left
    · exfalso; simp at h36; omega
    try simp only [tdy] at h36
    refine AW_condF rfl ?_
    refine AW_skip ?_
    refine AW_seq ?_
    refine AW_regionN ?_
    refine AN_p (x_loadN (n := 2) rfl rfl rfl (by kernel_rfl) rfl rfl) ?_
    refine AN_p (x_store (n := 2) rfl rfl rfl rfl (by kernel_rfl) rfl rfl rfl) ?_
    refine AN_nil ?_
    refine AW_shutB 302 100 1 rfl rfl rfl rfl ?_
    refine AW_ret ?_
    refine ⟨⟨⟨_, _⟩, _⟩, ?_, rn [(9, 100)], by exact ⟨⟨⟨_, rfl, VLe.rf⟩, trivial⟩, ⟨⟨_, rfl, by first | exact BLe.rf | exact BLe.box (by repeat (first | exact trivial | refine ⟨by first | exact CLe.rf | exact CLe.nil, ?_⟩))⟩, ⟨_, rfl, BLe.rf⟩, trivial⟩, by repeat (first | exact trivial | refine ⟨⟨rfl, by first | (left; intro h; cases h) | (right; rfl), by first | exact (fun _ h => ⟨_, h⟩) | exact (fun _ _ => ⟨_, rfl⟩) | (intro _ h; cases h)⟩, ?_⟩), rfl⟩⟩
    exact ⟨by first | (dsimp only; omega) | (simp; omega), by first | (dsimp only; omega) | (simp; omega)⟩
  try simp only [tdy] at h29
  refine AW_condF rfl ?_
  refine AW_skip ?_
  refine AW_seq ?_
  refine AW_seq ?_
  refine AW_regionN ?_
  refine AN_p (x_move rfl rfl) ?_
  refine AN_b (x_eql rfl rfl rfl) (fun b36 h36 => ?_)
  refine AN_nil ?_
  cases b36
  · try simp only [tdy] at h36
    refine AW_condF rfl ?_
    refine AW_skip ?_
    refine AW_seq ?_
    refine AW_regionN ?_
    refine AN_p (x_loadN (n := 2) rfl rfl rfl (by kernel_rfl) rfl rfl) ?_
    refine AN_p (x_store (n := 2) rfl rfl rfl rfl (by kernel_rfl) rfl rfl rfl) ?_
    refine AN_nil ?_
    refine AW_shutB 301 100 0 rfl rfl rfl rfl ?_
    refine AW_shutB 302 100 1 rfl rfl rfl rfl ?_
    refine AW_ret ?_
    refine ⟨⟨⟨_, _⟩, _⟩, ?_, rn [(9, 100)], by exact ⟨⟨⟨_, rfl, VLe.rf⟩, trivial⟩, ⟨⟨_, rfl, by first | exact BLe.rf | exact BLe.box (by repeat (first | exact trivial | refine ⟨by first | exact CLe.rf | exact CLe.nil, ?_⟩))⟩, ⟨_, rfl, BLe.rf⟩, trivial⟩, by repeat (first | exact trivial | refine ⟨⟨rfl, by first | (left; intro h; cases h) | (right; rfl), by first | exact (fun _ h => ⟨_, h⟩) | exact (fun _ _ => ⟨_, rfl⟩) | (intro _ h; cases h)⟩, ?_⟩), rfl⟩⟩
    exact ⟨by first | (dsimp only; omega) | (simp; omega), by first | (dsimp only; omega) | (simp; omega)⟩
  try simp only [tdy] at h36
  refine AW_condT rfl ?_
  refine AW_regionN ?_
  refine AN_p (x_field (off := 1) (o' := 1) rfl rfl rfl (by kernel_rfl) rfl) ?_
  refine AN_p (x_load1 rfl rfl rfl (by kernel_rfl) rfl) ?_
  refine AN_p (y_bslice (E := 3) (e := (intE .i64)) [.const (.int .i64 (0))] ([0]) 102 rfl rfl rfl rfl rfl rfl rfl rfl FitL.rf rfl rfl rfl rfl rfl rfl (by kernel_rfl)) ?_
  refine AN_p (y_append 103 rfl rfl rfl rfl rfl rfl rfl rfl (by kernel_rfl) (by simp; omega)) ?_
  refine AN_p (x_field (off := 1) (o' := 1) rfl rfl rfl (by kernel_rfl) rfl) ?_
  refine AN_p (x_store (n := 1) rfl rfl rfl rfl (by kernel_rfl) rfl rfl rfl) ?_
  refine AN_nil ?_
  refine AW_seq ?_
  refine AW_regionN ?_
  refine AN_p (x_loadN (n := 2) rfl rfl rfl (by kernel_rfl) rfl rfl) ?_
  refine AN_p (x_store (n := 2) rfl rfl rfl rfl (by kernel_rfl) rfl rfl rfl) ?_
  refine AN_nil ?_
  refine AW_shutB 301 100 0 rfl rfl rfl rfl ?_
  refine AW_shutB 103 100 1 rfl rfl rfl rfl ?_
  refine AW_ret ?_
  refine ⟨⟨⟨_, _⟩, _⟩, ?_, rn [(9, 100)], by exact ⟨⟨⟨_, rfl, VLe.rf⟩, trivial⟩, ⟨⟨_, rfl, by first | exact BLe.rf | exact BLe.box (by repeat (first | exact trivial | refine ⟨by first | exact CLe.rf | exact CLe.nil, ?_⟩))⟩, ⟨_, rfl, BLe.rf⟩, trivial⟩, by repeat (first | exact trivial | refine ⟨⟨rfl, by first | (left; intro h; cases h) | (right; rfl), by first | exact (fun _ h => ⟨_, h⟩) | exact (fun _ _ => ⟨_, rfl⟩) | (intro _ h; cases h)⟩, ?_⟩), rfl⟩⟩
  exact ⟨by first | (dsimp only; omega) | (simp; omega), by first | (dsimp only; omega) | (simp; omega)⟩

set_option maxHeartbeats 4000000 in
theorem acts_x (b : List Int) (c : Cur) (hb : b.length ≤ 1048576) : AX Try.prog 146 [.one (.ptr 200 0)] [(200, some (curB b c))] (ι := List Actt × Cur) (fun i => i.1.length ≤ 13) (fun i => .one (.own 303)) (fun i => [(200, some (curB b i.2)), (303, some (.arr 114 actE i.1 true))]) := by
  refine AX_body1 (x := fun (i : List Actt × Cur) => .one (.own 303)) (L' := fun (i : List Actt × Cur) => [(200, some (curB b i.2)), (303, some (.arr 114 actE i.1 true))]) Try.func146 rfl rfl Try.ntmps146 rfl Try.results146 ?_
  refine AW_seq ?_
  refine AW_regionN ?_
  refine AN_p (x_assign rfl rfl) ?_
  refine AN_nil ?_
  refine AW_seq ?_
  refine AW_regionN ?_
  refine AN_p (y_bslice0 (E := 114) (e := actE) 100 rfl rfl rfl (by kernel_rfl)) ?_
  refine AN_p (x_assign rfl rfl) ?_
  refine AN_nil ?_
  refine AW_seq ?_
  refine AW_seq ?_
  refine AW_regionN ?_
  refine AN_p (x_move rfl rfl) ?_
  have d9 := dBelow_lt b c (n := 5) (by decide)
  refine AN_p (x_call (ks := []) (L := [(200, some _)]) (L' := [(200, some _)]) rfl rfl rfl (below_c b c hb 5) rfl AllV.rf (caught_of rfl) rfl rfl rfl ⟨rfl, trivial⟩ rfl) ?_
  refine AN_p (x_assign rfl rfl) ?_
  refine AN_nil ?_
  refine AW_block ?_
  refine AW_loop2 (ι := {q : Int × List Actt × Cur // ((q.2.1).length : Int) + max (q.1) 0 ≤ 4}) (fun p => [(3, .one (.own 100)), (4, .one (.c (.int .i64 (p.1.1))))]) (fun p => [(100, some (.arr 114 actE (p.1.2.1) true)), (200, some (curB b (p.1.2.2)))]) [0] [] (fun p => (p.1.1).toNat) ⟨⟨(dBelow b c 5).1, [], (dBelow b c 5).2⟩, (by simp; omega)⟩ (rn []) ?_ ?_
  exact ⟨by (repeat refine ⟨⟨_, rfl, by first | exact VLe.rf | exact vle_int (by dsimp only; omega)⟩, ?_⟩); exact trivial, by (repeat refine ⟨⟨_, rfl, by first | exact BLe.rf | exact BLe.box AllC.rf | exact BLe.arr (by exact rfl)⟩, ?_⟩); exact trivial, by repeat (first | exact trivial | refine ⟨⟨rfl, by first | (left; intro h; cases h) | (right; rfl), by first | exact (fun _ h => ⟨_, h⟩) | exact (fun _ _ => ⟨_, rfl⟩) | (intro _ h; cases h)⟩, ?_⟩), rfl⟩
  rintro ⟨⟨n, l, cc⟩, hinv⟩
  dsimp only
  have hl : (l.length : Int) + max n 0 ≤ 4 := hinv
  refine AW_seq ?_
  refine AW_seq ?_
  refine AW_regionN ?_
  refine AN_p (x_move rfl rfl) ?_
  refine AN_b (x_gtr rfl rfl rfl) (fun b11 h11 => ?_)
  refine AN_nil ?_
  cases b11
  · try simp only [tdy] at h11
    refine AW_condF rfl ?_
    refine AW_exit (BQ_hit ?_)
    refine AW_seq ?_
    refine AW_seq ?_
    refine AW_regionN ?_
    refine AN_p (x_move rfl rfl) ?_
    have d39 := dBelow_lt b cc (n := 25) (by decide)
    refine AN_p (x_call (ks := []) (L := [(200, some _)]) (L' := [(200, some _)]) rfl rfl rfl (below_c b cc hb 25) rfl AllV.rf (caught_of rfl) rfl rfl rfl ⟨rfl, trivial⟩ rfl) ?_
    refine AN_b (x_eql rfl rfl rfl) (fun b40 h40 => ?_)
    refine AN_nil ?_
    cases b40
    · try simp only [tdy] at h40
      refine AW_condF rfl ?_
      refine AW_skip ?_
      refine AW_seq ?_
      refine AW_regionN ?_
      refine AN_p (x_move rfl rfl) ?_
      refine AN_p (x_assign rfl rfl) ?_
      refine AN_nil ?_
      refine AW_ret ?_
      refine ⟨⟨_, _⟩, ?_, rn [(303, 100)], by exact ⟨⟨⟨_, rfl, VLe.rf⟩, trivial⟩, ⟨⟨_, rfl, BLe.rf⟩, ⟨_, rfl, BLe.rf⟩, trivial⟩, by repeat (first | exact trivial | refine ⟨⟨rfl, by first | (left; intro h; cases h) | (right; rfl), by first | exact (fun _ h => ⟨_, h⟩) | exact (fun _ _ => ⟨_, rfl⟩) | (intro _ h; cases h)⟩, ?_⟩), rfl⟩⟩
      dsimp only; omega
    try simp only [tdy] at h40
    refine AW_condT rfl ?_
    refine AW_block ?_
    refine AW_loop2 (ι := {q : List Actt × Cur // (q.1).length ≤ 13}) (fun p => [(3, .one (.own 100))]) (fun p => [(100, some (.arr 114 actE (p.1.1) true)), (200, some (curB b (p.1.2)))]) [0] [] (fun p => 14 - (p.1.1).length) ⟨⟨l, (dBelow b cc 25).2⟩, (by dsimp only; omega)⟩ (rn []) ?_ ?_
    exact ⟨by (repeat refine ⟨⟨_, rfl, by first | exact VLe.rf | exact vle_int (by dsimp only; omega)⟩, ?_⟩); exact trivial, by (repeat refine ⟨⟨_, rfl, by first | exact BLe.rf | exact BLe.box AllC.rf | exact BLe.arr (by exact rfl)⟩, ?_⟩); exact trivial, by repeat (first | exact trivial | refine ⟨⟨rfl, by first | (left; intro h; cases h) | (right; rfl), by first | exact (fun _ h => ⟨_, h⟩) | exact (fun _ _ => ⟨_, rfl⟩) | (intro _ h; cases h)⟩, ?_⟩), rfl⟩
    rintro ⟨⟨l, cc⟩, hinv⟩
    dsimp only
    have hl : l.length ≤ 13 := hinv
    refine AW_seq ?_
    refine AW_seq ?_
    refine AW_regionN ?_
    refine AN_p (x_move rfl rfl) ?_
    refine AN_p (x_olen (E := 114) (n := 3) rfl rfl rfl (by kernel_rfl)) ?_
    refine AN_p (x_move rfl rfl) ?_
    have d44 := dBelow_lt b cc (n := 2) (by decide)
    refine AN_p (x_call (ks := []) (L := [(200, some _)]) (L' := [(200, some _)]) rfl rfl rfl (below_c b cc hb 2) rfl AllV.rf (caught_of rfl) rfl rfl rfl ⟨rfl, trivial⟩ rfl) ?_
    refine AN_p (x_add rfl rfl rfl (IntWalk.i64_in _ (by omega))) ?_
    refine AN_b (x_lss rfl rfl rfl) (fun b46 h46 => ?_)
    refine AN_nil ?_
    cases b46
    · try simp only [tdy] at h46
      refine AW_condF rfl ?_
      refine AW_exit (BQ_hit ?_)
      refine AW_seq ?_
      refine AW_regionN ?_
      refine AN_p (x_move rfl rfl) ?_
      refine AN_p (x_assign rfl rfl) ?_
      refine AN_nil ?_
      refine AW_ret ?_
      refine ⟨⟨_, _⟩, ?_, rn [(303, 100)], by exact ⟨⟨⟨_, rfl, VLe.rf⟩, trivial⟩, ⟨⟨_, rfl, BLe.rf⟩, ⟨_, rfl, BLe.rf⟩, trivial⟩, by repeat (first | exact trivial | refine ⟨⟨rfl, by first | (left; intro h; cases h) | (right; rfl), by first | exact (fun _ h => ⟨_, h⟩) | exact (fun _ _ => ⟨_, rfl⟩) | (intro _ h; cases h)⟩, ?_⟩), rfl⟩⟩
      dsimp only; omega
    try simp only [tdy] at h46
    refine AW_condT rfl ?_
    refine AW_skip ?_
    refine AW_block ?_
    refine AW_regionN ?_
    refine AN_p (x_move rfl rfl) ?_
    refine AN_p (x_build (zs := [.int .i64 0, .int .i64 0, .int .i64 0]) (places := [(0, 1), (1, 1), (2, 1)]) rfl (by kernel_rfl) rfl rfl rfl rfl rfl) ?_
    refine AN_p (y_bslice (E := 114) (e := actE) [.tmp 48] ([⟨2, 0, 0⟩]) 104 rfl rfl rfl rfl rfl rfl rfl rfl FitL.rf rfl rfl rfl rfl rfl rfl (by kernel_rfl)) ?_
    refine AN_p (y_append 105 rfl rfl rfl rfl rfl rfl rfl rfl (by kernel_rfl) (by simp; omega)) ?_
    refine AN_p (x_assign rfl rfl) ?_
    refine AN_nil ?_
    refine ⟨⟨⟨_, _⟩, ?_⟩, rn [(100, 105)], by exact ⟨by (repeat refine ⟨⟨_, rfl, by first | exact VLe.rf | exact vle_int (by dsimp only; omega)⟩, ?_⟩); exact trivial, by (repeat refine ⟨⟨_, rfl, by first | exact BLe.rf | exact BLe.box AllC.rf | exact BLe.arr (by exact rfl)⟩, ?_⟩); exact trivial, by repeat (first | exact trivial | refine ⟨⟨rfl, by first | (left; intro h; cases h) | (right; rfl), by first | exact (fun _ h => ⟨_, h⟩) | exact (fun _ _ => ⟨_, rfl⟩) | (intro _ h; cases h)⟩, ?_⟩), rfl⟩, by simp; omega⟩
    simp; omega
  try simp only [tdy] at h11
  refine AW_condT rfl ?_
  refine AW_skip ?_
  refine AW_seq ?_
  refine AW_block ?_
  refine AW_seq ?_
  refine AW_regionN ?_
  refine AN_p (x_move rfl rfl) ?_
  have d15 := dBelow_lt b cc (n := 5) (by decide)
  refine AN_p (x_call (ks := []) (L := [(200, some _)]) (L' := [(200, some _)]) rfl rfl rfl (below_c b cc hb 5) rfl AllV.rf (caught_of rfl) rfl rfl rfl ⟨rfl, trivial⟩ rfl) ?_
  refine AN_p (x_add rfl rfl rfl (IntWalk.i64_in _ (by omega))) ?_
  refine AN_p (x_assign rfl rfl) ?_
  refine AN_nil ?_
  refine AW_seq ?_
  refine AW_regionN ?_
  refine AN_p (x_move rfl rfl) ?_
  refine AN_p (x_build (zs := [.int .i64 0, .int .i64 0, .int .i64 0]) (places := [(0, 1), (1, 1), (2, 1)]) rfl (by kernel_rfl) rfl rfl rfl rfl rfl) ?_
  refine AN_p (x_alloc (z := .agg #[.int .i64 0, .int .i64 0, .int .i64 0]) 101 rfl (by kernel_rfl) rfl rfl rfl rfl) ?_
  refine AN_p (x_store (n := 3) rfl rfl rfl rfl (by kernel_rfl) rfl rfl rfl) ?_
  refine AN_nil ?_
  refine AW_seq ?_
  refine AW_seq ?_
  refine AW_regionN ?_
  refine AN_p (x_move rfl rfl) ?_
  refine AN_b (x_eql rfl rfl rfl) (fun b20 h20 => ?_)
  refine AN_nil ?_
  cases b20
  · try simp only [tdy] at h20
    refine AW_condF rfl ?_
    refine AW_skip ?_
    refine AW_seq ?_
    refine AW_seq ?_
    refine AW_regionN ?_
    refine AN_p (x_move rfl rfl) ?_
    refine AN_b (x_eql rfl rfl rfl) (fun b26 h26 => ?_)
    refine AN_nil ?_
    cases b26
    · try simp only [tdy] at h26
      refine AW_condF rfl ?_
      refine AW_skip ?_
      refine AW_regionN ?_
      refine AN_p (x_move rfl rfl) ?_
      refine AN_p (x_loadN (n := 3) rfl rfl rfl (by kernel_rfl) rfl rfl) ?_
      refine AN_p (y_bslice (E := 114) (e := actE) [.tmp 35] ([⟨_, _, _⟩]) 102 rfl rfl rfl rfl rfl rfl rfl rfl FitL.rf rfl rfl rfl rfl rfl rfl (by kernel_rfl)) ?_
      refine AN_p (y_append 103 rfl rfl rfl rfl rfl rfl rfl rfl (by kernel_rfl) (by simp; omega)) ?_
      refine AN_p (x_assign rfl rfl) ?_
      refine AN_nil ?_
      refine AW_regionN ?_
      refine AN_p (x_move rfl rfl) ?_
      refine AN_p (x_sub rfl rfl rfl (IntWalk.i64_in _ (by omega))) ?_
      refine AN_p (x_assign rfl rfl) ?_
      refine AN_nil ?_
      refine ⟨⟨⟨_, _, _⟩, ?_⟩, rn [(100, 103)], by exact ⟨by (repeat refine ⟨⟨_, rfl, by first | exact VLe.rf | exact vle_int (by dsimp only; omega)⟩, ?_⟩); exact trivial, by (repeat refine ⟨⟨_, rfl, by first | exact BLe.rf | exact BLe.box AllC.rf | exact BLe.arr (by exact rfl)⟩, ?_⟩); exact trivial, by repeat (first | exact trivial | refine ⟨⟨rfl, by first | (left; intro h; cases h) | (right; rfl), by first | exact (fun _ h => ⟨_, h⟩) | exact (fun _ _ => ⟨_, rfl⟩) | (intro _ h; cases h)⟩, ?_⟩), rfl⟩, by dsimp only; omega⟩
      simp; omega
    try simp only [tdy] at h26
    refine AW_condT rfl ?_
    refine AW_seq ?_
    refine AW_regionN ?_
    refine AN_p (x_move rfl rfl) ?_
    have d28 := dBelow_lt b (dBelow b cc 5).2 (n := 2) (by decide)
    refine AN_p (x_call (ks := []) (L := [(200, some _)]) (L' := [(200, some _)]) rfl rfl rfl (below_c b (dBelow b cc 5).2 hb 2) rfl AllV.rf (caught_of rfl) rfl rfl rfl ⟨rfl, trivial⟩ rfl) ?_
    refine AN_p (x_add rfl rfl rfl (IntWalk.i64_in _ (by omega))) ?_
    refine AN_p (x_field (off := 1) (o' := 1) rfl rfl rfl (by kernel_rfl) rfl) ?_
    refine AN_p (x_store (n := 1) rfl rfl rfl rfl (by kernel_rfl) rfl rfl rfl) ?_
    refine AN_nil ?_
    refine AW_regionN ?_
    refine AN_p (x_move rfl rfl) ?_
    refine AN_p (x_call (ks := []) (L := [(200, some _)]) (L' := [(200, some _)]) rfl rfl rfl (num6_c b (dBelow b (dBelow b cc 5).2 2).2 hb) rfl AllV.rf (caught_of rfl) rfl rfl rfl ⟨rfl, trivial⟩ rfl) ?_
    refine AN_p (x_field (off := 2) (o' := 2) rfl rfl rfl (by kernel_rfl) rfl) ?_
    refine AN_p (x_store (n := 1) rfl rfl rfl rfl (by kernel_rfl) rfl rfl rfl) ?_
    refine AN_nil ?_
    refine AW_regionN ?_
    refine AN_p (x_move rfl rfl) ?_
    refine AN_p (x_loadN (n := 3) rfl rfl rfl (by kernel_rfl) rfl rfl) ?_
    refine AN_p (y_bslice (E := 114) (e := actE) [.tmp 35] ([⟨_, _, _⟩]) 102 rfl rfl rfl rfl rfl rfl rfl rfl FitL.rf rfl rfl rfl rfl rfl rfl (by kernel_rfl)) ?_
    refine AN_p (y_append 103 rfl rfl rfl rfl rfl rfl rfl rfl (by kernel_rfl) (by simp; omega)) ?_
    refine AN_p (x_assign rfl rfl) ?_
    refine AN_nil ?_
    refine AW_regionN ?_
    refine AN_p (x_move rfl rfl) ?_
    refine AN_p (x_sub rfl rfl rfl (IntWalk.i64_in _ (by omega))) ?_
    refine AN_p (x_assign rfl rfl) ?_
    refine AN_nil ?_
    refine ⟨⟨⟨_, _, _⟩, ?_⟩, rn [(100, 103)], by exact ⟨by (repeat refine ⟨⟨_, rfl, by first | exact VLe.rf | exact vle_int (by dsimp only; omega)⟩, ?_⟩); exact trivial, by (repeat refine ⟨⟨_, rfl, by first | exact BLe.rf | exact BLe.box AllC.rf | exact BLe.arr (by exact rfl)⟩, ?_⟩); exact trivial, by repeat (first | exact trivial | refine ⟨⟨rfl, by first | (left; intro h; cases h) | (right; rfl), by first | exact (fun _ h => ⟨_, h⟩) | exact (fun _ _ => ⟨_, rfl⟩) | (intro _ h; cases h)⟩, ?_⟩), rfl⟩, by dsimp only; omega⟩
    simp; omega
  try simp only [tdy] at h20
  refine AW_condT rfl ?_
  refine AW_regionN ?_
  refine AN_p (x_move rfl rfl) ?_
  have d22 := dBelow_lt b (dBelow b cc 5).2 (n := 5) (by decide)
  refine AN_p (x_call (ks := []) (L := [(200, some _)]) (L' := [(200, some _)]) rfl rfl rfl (below_c b (dBelow b cc 5).2 hb 5) rfl AllV.rf (caught_of rfl) rfl rfl rfl ⟨rfl, trivial⟩ rfl) ?_
  refine AN_p (x_add rfl rfl rfl (IntWalk.i64_in _ (by omega))) ?_
  refine AN_p (x_field (off := 1) (o' := 1) rfl rfl rfl (by kernel_rfl) rfl) ?_
  refine AN_p (x_store (n := 1) rfl rfl rfl rfl (by kernel_rfl) rfl rfl rfl) ?_
  refine AN_nil ?_
  refine AW_seq ?_
  refine AW_seq ?_
  refine AW_regionN ?_
  refine AN_p (x_move rfl rfl) ?_
  refine AN_b (x_eql rfl rfl rfl) (fun b26 h26 => ?_)
  refine AN_nil ?_
  cases b26
  · try simp only [tdy] at h26
    refine AW_condF rfl ?_
    refine AW_skip ?_
    refine AW_regionN ?_
    refine AN_p (x_move rfl rfl) ?_
    refine AN_p (x_loadN (n := 3) rfl rfl rfl (by kernel_rfl) rfl rfl) ?_
    refine AN_p (y_bslice (E := 114) (e := actE) [.tmp 35] ([⟨_, _, _⟩]) 102 rfl rfl rfl rfl rfl rfl rfl rfl FitL.rf rfl rfl rfl rfl rfl rfl (by kernel_rfl)) ?_
    refine AN_p (y_append 103 rfl rfl rfl rfl rfl rfl rfl rfl (by kernel_rfl) (by simp; omega)) ?_
    refine AN_p (x_assign rfl rfl) ?_
    refine AN_nil ?_
    refine AW_regionN ?_
    refine AN_p (x_move rfl rfl) ?_
    refine AN_p (x_sub rfl rfl rfl (IntWalk.i64_in _ (by omega))) ?_
    refine AN_p (x_assign rfl rfl) ?_
    refine AN_nil ?_
    refine ⟨⟨⟨_, _, _⟩, ?_⟩, rn [(100, 103)], by exact ⟨by (repeat refine ⟨⟨_, rfl, by first | exact VLe.rf | exact vle_int (by dsimp only; omega)⟩, ?_⟩); exact trivial, by (repeat refine ⟨⟨_, rfl, by first | exact BLe.rf | exact BLe.box AllC.rf | exact BLe.arr (by exact rfl)⟩, ?_⟩); exact trivial, by repeat (first | exact trivial | refine ⟨⟨rfl, by first | (left; intro h; cases h) | (right; rfl), by first | exact (fun _ h => ⟨_, h⟩) | exact (fun _ _ => ⟨_, rfl⟩) | (intro _ h; cases h)⟩, ?_⟩), rfl⟩, by dsimp only; omega⟩
    simp; omega
  try simp only [tdy] at h26
  refine AW_condT rfl ?_
  refine AW_seq ?_
  refine AW_regionN ?_
  refine AN_p (x_move rfl rfl) ?_
  have d28 := dBelow_lt b (dBelow b (dBelow b cc 5).2 5).2 (n := 2) (by decide)
  refine AN_p (x_call (ks := []) (L := [(200, some _)]) (L' := [(200, some _)]) rfl rfl rfl (below_c b (dBelow b (dBelow b cc 5).2 5).2 hb 2) rfl AllV.rf (caught_of rfl) rfl rfl rfl ⟨rfl, trivial⟩ rfl) ?_
  refine AN_p (x_add rfl rfl rfl (IntWalk.i64_in _ (by omega))) ?_
  refine AN_p (x_field (off := 1) (o' := 1) rfl rfl rfl (by kernel_rfl) rfl) ?_
  refine AN_p (x_store (n := 1) rfl rfl rfl rfl (by kernel_rfl) rfl rfl rfl) ?_
  refine AN_nil ?_
  refine AW_regionN ?_
  refine AN_p (x_move rfl rfl) ?_
  refine AN_p (x_call (ks := []) (L := [(200, some _)]) (L' := [(200, some _)]) rfl rfl rfl (num6_c b (dBelow b (dBelow b (dBelow b cc 5).2 5).2 2).2 hb) rfl AllV.rf (caught_of rfl) rfl rfl rfl ⟨rfl, trivial⟩ rfl) ?_
  refine AN_p (x_field (off := 2) (o' := 2) rfl rfl rfl (by kernel_rfl) rfl) ?_
  refine AN_p (x_store (n := 1) rfl rfl rfl rfl (by kernel_rfl) rfl rfl rfl) ?_
  refine AN_nil ?_
  refine AW_regionN ?_
  refine AN_p (x_move rfl rfl) ?_
  refine AN_p (x_loadN (n := 3) rfl rfl rfl (by kernel_rfl) rfl rfl) ?_
  refine AN_p (y_bslice (E := 114) (e := actE) [.tmp 35] ([⟨_, _, _⟩]) 102 rfl rfl rfl rfl rfl rfl rfl rfl FitL.rf rfl rfl rfl rfl rfl rfl (by kernel_rfl)) ?_
  refine AN_p (y_append 103 rfl rfl rfl rfl rfl rfl rfl rfl (by kernel_rfl) (by simp; omega)) ?_
  refine AN_p (x_assign rfl rfl) ?_
  refine AN_nil ?_
  refine AW_regionN ?_
  refine AN_p (x_move rfl rfl) ?_
  refine AN_p (x_sub rfl rfl rfl (IntWalk.i64_in _ (by omega))) ?_
  refine AN_p (x_assign rfl rfl) ?_
  refine AN_nil ?_
  refine ⟨⟨⟨_, _, _⟩, ?_⟩, rn [(100, 103)], by exact ⟨by (repeat refine ⟨⟨_, rfl, by first | exact VLe.rf | exact vle_int (by dsimp only; omega)⟩, ?_⟩); exact trivial, by (repeat refine ⟨⟨_, rfl, by first | exact BLe.rf | exact BLe.box AllC.rf | exact BLe.arr (by exact rfl)⟩, ?_⟩); exact trivial, by repeat (first | exact trivial | refine ⟨⟨rfl, by first | (left; intro h; cases h) | (right; rfl), by first | exact (fun _ h => ⟨_, h⟩) | exact (fun _ _ => ⟨_, rfl⟩) | (intro _ h; cases h)⟩, ?_⟩), rfl⟩, by dsimp only; omega⟩
  simp; omega

set_option maxHeartbeats 4000000 in
theorem anyActs_x (b : List Int) (c : Cur) (hb : b.length ≤ 1048576) : AX Try.prog 133 [.one (.ptr 200 0)] [(200, some (curB b c))] (ι := List Actt × Cur) (fun i => i.1.length ≤ 13) (fun i => .one (.sl actE i.1)) (fun i => [(200, some (curB b i.2))]) := by
  refine AX_body1 (x := fun (i : List Actt × Cur) => .one (.sl actE i.1)) (L' := fun (i : List Actt × Cur) => [(200, some (curB b i.2))]) Try.func133 rfl rfl Try.ntmps133 rfl Try.results133 ?_
  refine AW_seq ?_
  refine AW_regionN ?_
  refine AN_p (x_assign rfl rfl) ?_
  refine AN_nil ?_
  refine AW_seq ?_
  refine AW_regionN ?_
  refine AN_p (x_move rfl rfl) ?_
  refine AN_x (L := [(200, some (curB b c))]) rfl rfl rfl (acts_x b c hb) rfl rfl (fun _ => rfl) (fun _ => rfl) ⟨rfl, trivial⟩ (fun _ => rfl) ?_
  rintro ⟨x8, c8⟩ g8
  try dsimp only at g8
  try dsimp only
  refine AN_p (x_assign rfl rfl) ?_
  refine AN_nil ?_
  refine AW_seq ?_
  refine AW_seq ?_
  refine AW_regionN ?_
  refine AN_p (x_move rfl rfl) ?_
  refine AN_p (x_olen (E := 114) (n := 3) rfl rfl rfl (by kernel_rfl)) ?_
  refine AN_b (x_gtr rfl rfl rfl) (fun b11 h11 => ?_)
  refine AN_p (x_move rfl rfl) ?_
  cases b11
  · try simp only [tdy] at h11
    refine AN_o rfl rfl rfl rfl ?_
    refine AN_o rfl rfl rfl rfl ?_
    refine AN_o rfl rfl rfl rfl ?_
    refine AN_p (x_pickF rfl rfl rfl) ?_
    refine AN_nil ?_
    refine AW_condF rfl ?_
    refine AW_skip ?_
    refine AW_seq ?_
    refine AW_regionN ?_
    refine AN_p (x_move rfl rfl) ?_
    refine AN_p (x_assign rfl rfl) ?_
    refine AN_nil ?_
    refine AW_shut 303 2 rfl rfl ?_
    refine AW_ret ?_
    refine ⟨⟨_, _⟩, ?_, rn [], by exact ⟨⟨⟨_, rfl, VLe.rf⟩, trivial⟩, ⟨⟨_, rfl, BLe.rf⟩, trivial⟩, by repeat (first | exact trivial | refine ⟨⟨rfl, by first | (left; intro h; cases h) | (right; rfl), by first | exact (fun _ h => ⟨_, h⟩) | exact (fun _ _ => ⟨_, rfl⟩) | (intro _ h; cases h)⟩, ?_⟩), rfl⟩⟩
    first | (dsimp only; omega) | (simp; omega)
  try simp only [tdy] at h11
  refine AN_g rfl rfl (x_move rfl rfl) ?_
  have d14 := dBelow_lt b c8 (n := 5) (by decide)
  refine AN_g rfl rfl (x_call (ks := []) (L := [(200, some _)]) (L' := [(200, some _)]) rfl rfl rfl (below_c b c8 hb 5) rfl AllV.rf (caught_of rfl) rfl rfl rfl ⟨rfl, trivial⟩ rfl) ?_
  refine AN_gb rfl rfl (x_eql rfl rfl rfl) (fun b15 h15 => ?_)
  refine AN_p (x_pickT rfl rfl rfl) ?_
  refine AN_nil ?_
  cases b15
  · try simp only [tdy] at h15
    refine AW_condF rfl ?_
    refine AW_skip ?_
    refine AW_seq ?_
    refine AW_regionN ?_
    refine AN_p (x_move rfl rfl) ?_
    refine AN_p (x_assign rfl rfl) ?_
    refine AN_nil ?_
    refine AW_shut 303 2 rfl rfl ?_
    refine AW_ret ?_
    refine ⟨⟨_, _⟩, ?_, rn [], by exact ⟨⟨⟨_, rfl, VLe.rf⟩, trivial⟩, ⟨⟨_, rfl, BLe.rf⟩, trivial⟩, by repeat (first | exact trivial | refine ⟨⟨rfl, by first | (left; intro h; cases h) | (right; rfl), by first | exact (fun _ h => ⟨_, h⟩) | exact (fun _ _ => ⟨_, rfl⟩) | (intro _ h; cases h)⟩, ?_⟩), rfl⟩⟩
    first | (dsimp only; omega) | (simp; omega)
  try simp only [tdy] at h15
  refine AW_condT rfl ?_
  refine AW_seq ?_
  refine AW_regionN ?_
  refine AN_p (x_move rfl rfl) ?_
  refine AN_p (x_move rfl rfl) ?_
  refine AN_p (x_olen (E := 114) (n := 3) rfl rfl rfl (by kernel_rfl)) ?_
  have d20 := dBelow_lt b (dBelow b c8 5).2 (n := (x8.length : Int)) (by omega)
  refine AN_p (x_call (ks := []) (L := [(200, some _)]) (L' := [(200, some _)]) rfl rfl rfl (below_c b (dBelow b c8 5).2 hb (x8.length : Int)) rfl AllV.rf (caught_of rfl) rfl rfl rfl ⟨rfl, trivial⟩ rfl) ?_
  refine AN_p (x_assign rfl rfl) ?_
  refine AN_nil ?_
  refine AW_seq ?_
  refine AW_regionN ?_
  refine AN_p (x_move rfl rfl) ?_
  have d22 := dBelow_lt b (dBelow b (dBelow b c8 5).2 (x8.length : Int)).2 (n := 3) (by decide)
  refine AN_p (x_call (ks := []) (L := [(200, some _)]) (L' := [(200, some _)]) rfl rfl rfl (below_c b (dBelow b (dBelow b c8 5).2 (x8.length : Int)).2 hb 3) rfl AllV.rf (caught_of rfl) rfl rfl rfl ⟨rfl, trivial⟩ rfl) ?_
  refine AN_p (x_assign rfl rfl) ?_
  refine AN_nil ?_
  refine AW_seq ?_
  refine AW_regionN ?_
  refine AN_p (x_move rfl rfl) ?_
  refine AN_p (x_move rfl rfl) ?_
  refine AN_p (x_oindex (n := 3) rfl rfl rfl rfl (by kernel_rfl) rfl (k := (dBelow b (dBelow b c8 5).2 (x8.length : Int)).1.toNat) (by omega) (by omega)) ?_
  refine AN_p (x_oloadN (n := 3) rfl rfl rfl (by kernel_rfl) (by omega) rfl rfl) ?_
  refine AN_p (x_alloc (z := .agg #[.int .i64 0, .int .i64 0, .int .i64 0]) 100 rfl (by kernel_rfl) rfl rfl rfl rfl) ?_
  refine AN_p (x_store (n := 3) rfl rfl rfl rfl (by kernel_rfl) rfl rfl rfl) ?_
  refine AN_nil ?_
  refine AW_seq ?_
  refine AW_seq ?_
  refine AW_regionN ?_
  refine AN_p (x_move rfl rfl) ?_
  refine AN_b (x_eql rfl rfl rfl) (fun b28 h28 => ?_)
  refine AN_nil ?_
  cases b28
  rotate_left
  · try simp only [tdy] at h28
    refine AW_condT rfl ?_
    refine AW_regionN ?_
    refine AN_p (x_move rfl rfl) ?_
    have d30 := dBelow_lt b (dBelow b (dBelow b (dBelow b c8 5).2 (x8.length : Int)).2 3).2 (n := 8) (by decide)
    refine AN_p (x_call (ks := []) (L := [(200, some _)]) (L' := [(200, some _)]) rfl rfl rfl (below_c b (dBelow b (dBelow b (dBelow b c8 5).2 (x8.length : Int)).2 3).2 hb 8) rfl AllV.rf (caught_of rfl) rfl rfl rfl ⟨rfl, trivial⟩ rfl) ?_
    refine AN_p (x_sub rfl rfl rfl (IntWalk.i64_in _ (by omega))) ?_
    refine AN_p (x_field (off := 0) (o' := 0) rfl rfl rfl (by kernel_rfl) rfl) ?_
    refine AN_p (x_store (n := 1) rfl rfl rfl rfl (by kernel_rfl) rfl rfl rfl) ?_
    refine AN_nil ?_
    refine AW_regionN ?_
    refine AN_p (x_move rfl rfl) ?_
    refine AN_p (x_move rfl rfl) ?_
    refine AN_p (x_loadN (n := 3) rfl rfl rfl (by kernel_rfl) rfl rfl) ?_
    refine AN_p (x_oindex (n := 3) rfl rfl rfl rfl (by kernel_rfl) rfl (k := (dBelow b (dBelow b c8 5).2 (x8.length : Int)).1.toNat) (by omega) (by omega)) ?_
    refine AN_p (x_ostore (⟨(dBelow b (dBelow b (dBelow b (dBelow b c8 5).2 (x8.length : Int)).2 3).2 8).1 - 1, (x8[(dBelow b (dBelow b c8 5).2 (x8.length : Int)).1.toNat]'(by omega)).a, (x8[(dBelow b (dBelow b c8 5).2 (x8.length : Int)).1.toNat]'(by omega)).b⟩) rfl rfl rfl rfl (by kernel_rfl) rfl rfl rfl rfl FitL.rf rfl rfl (by first | omega | (rw [filledTo_len (by omega)]; omega) | (simp; omega))) ?_
    refine AN_nil ?_
    refine AW_seq ?_
    refine AW_regionN ?_
    refine AN_p (x_move rfl rfl) ?_
    refine AN_p (x_assign rfl rfl) ?_
    refine AN_nil ?_
    refine AW_shut 303 2 rfl rfl ?_
    refine AW_ret ?_
    refine ⟨⟨_, _⟩, ?_, rn [], by exact ⟨⟨⟨_, rfl, VLe.rf⟩, trivial⟩, ⟨⟨_, rfl, BLe.rf⟩, trivial⟩, by repeat (first | exact trivial | refine ⟨⟨rfl, by first | (left; intro h; cases h) | (right; rfl), by first | exact (fun _ h => ⟨_, h⟩) | exact (fun _ _ => ⟨_, rfl⟩) | (intro _ h; cases h)⟩, ?_⟩), rfl⟩⟩
    first | (dsimp only; omega) | (simp; omega)
  try simp only [tdy] at h28
  refine AW_condF rfl ?_
  refine AW_seq ?_
  refine AW_regionN ?_
  refine AN_p (x_move rfl rfl) ?_
  refine AN_b (x_eql rfl rfl rfl) (fun b34 h34 => ?_)
  refine AN_nil ?_
  cases b34
  · try simp only [tdy] at h34
    refine AW_condF rfl ?_
    refine AW_regionN ?_
    refine AN_p (x_move rfl rfl) ?_
    refine AN_p (x_call (ks := []) (L := [(200, some _)]) (L' := [(200, some _)]) rfl rfl rfl (raw_c b (dBelow b (dBelow b (dBelow b c8 5).2 (x8.length : Int)).2 3).2 hb) rfl AllV.rf (caught_of rfl) rfl rfl rfl ⟨rfl, trivial⟩ rfl) ?_
    refine AN_p (x_field (off := 2) (o' := 2) rfl rfl rfl (by kernel_rfl) rfl) ?_
    refine AN_p (x_store (n := 1) rfl rfl rfl rfl (by kernel_rfl) rfl rfl rfl) ?_
    refine AN_nil ?_
    refine AW_regionN ?_
    refine AN_p (x_move rfl rfl) ?_
    refine AN_p (x_move rfl rfl) ?_
    refine AN_p (x_loadN (n := 3) rfl rfl rfl (by kernel_rfl) rfl rfl) ?_
    refine AN_p (x_oindex (n := 3) rfl rfl rfl rfl (by kernel_rfl) rfl (k := (dBelow b (dBelow b c8 5).2 (x8.length : Int)).1.toNat) (by omega) (by omega)) ?_
    refine AN_p (x_ostore (⟨(x8[(dBelow b (dBelow b c8 5).2 (x8.length : Int)).1.toNat]'(by omega)).kind, (x8[(dBelow b (dBelow b c8 5).2 (x8.length : Int)).1.toNat]'(by omega)).a, (dRaw b (dBelow b (dBelow b (dBelow b c8 5).2 (x8.length : Int)).2 3).2).1⟩) rfl rfl rfl rfl (by kernel_rfl) rfl rfl rfl rfl FitL.rf rfl rfl (by first | omega | (rw [filledTo_len (by omega)]; omega) | (simp; omega))) ?_
    refine AN_nil ?_
    refine AW_seq ?_
    refine AW_regionN ?_
    refine AN_p (x_move rfl rfl) ?_
    refine AN_p (x_assign rfl rfl) ?_
    refine AN_nil ?_
    refine AW_shut 303 2 rfl rfl ?_
    refine AW_ret ?_
    refine ⟨⟨_, _⟩, ?_, rn [], by exact ⟨⟨⟨_, rfl, VLe.rf⟩, trivial⟩, ⟨⟨_, rfl, BLe.rf⟩, trivial⟩, by repeat (first | exact trivial | refine ⟨⟨rfl, by first | (left; intro h; cases h) | (right; rfl), by first | exact (fun _ h => ⟨_, h⟩) | exact (fun _ _ => ⟨_, rfl⟩) | (intro _ h; cases h)⟩, ?_⟩), rfl⟩⟩
    first | (dsimp only; omega) | (simp; omega)
  try simp only [tdy] at h34
  refine AW_condT rfl ?_
  refine AW_regionN ?_
  refine AN_p (x_move rfl rfl) ?_
  refine AN_p (x_call (ks := []) (L := [(200, some _)]) (L' := [(200, some _)]) rfl rfl rfl (raw_c b (dBelow b (dBelow b (dBelow b c8 5).2 (x8.length : Int)).2 3).2 hb) rfl AllV.rf (caught_of rfl) rfl rfl rfl ⟨rfl, trivial⟩ rfl) ?_
  refine AN_p (y_bslice (E := 3) (e := (intE .i64)) [.const (.int .i64 (0)), .const (.int .i64 (255)), .const (.int .i64 (256)), .tmp 36] ([0, 255, 256, (dRaw b (dBelow b (dBelow b (dBelow b c8 5).2 (x8.length : Int)).2 3).2).1]) 101 rfl rfl rfl rfl rfl rfl rfl rfl FitL.rf rfl rfl rfl rfl rfl rfl (by kernel_rfl)) ?_
  refine AN_p (x_move rfl rfl) ?_
  have d39 := dBelow_lt b (dRaw b (dBelow b (dBelow b (dBelow b c8 5).2 (x8.length : Int)).2 3).2).2 (n := 4) (by decide)
  refine AN_p (x_call (ks := []) (L := [(200, some _)]) (L' := [(200, some _)]) rfl rfl rfl (below_c b (dRaw b (dBelow b (dBelow b (dBelow b c8 5).2 (x8.length : Int)).2 3).2).2 hb 4) rfl AllV.rf (caught_of rfl) rfl rfl rfl ⟨rfl, trivial⟩ rfl) ?_
  refine AN_p (x_oindex (n := 1) rfl rfl rfl rfl (by kernel_rfl) rfl (k := (dBelow b (dRaw b (dBelow b (dBelow b (dBelow b c8 5).2 (x8.length : Int)).2 3).2).2 4).1.toNat) (by omega) (by simp; omega)) ?_
  refine AN_p (x_oload1 rfl rfl rfl (by kernel_rfl) (by simp; omega) rfl) ?_
  refine AN_p (x_field (off := 1) (o' := 1) rfl rfl rfl (by kernel_rfl) rfl) ?_
  refine AN_p (x_store (n := 1) rfl rfl rfl rfl (by kernel_rfl) rfl rfl rfl) ?_
  refine AN_nil ?_
  refine AW_regionN ?_
  refine AN_p (x_move rfl rfl) ?_
  refine AN_p (x_move rfl rfl) ?_
  refine AN_p (x_loadN (n := 3) rfl rfl rfl (by kernel_rfl) rfl rfl) ?_
  refine AN_p (x_oindex (n := 3) rfl rfl rfl rfl (by kernel_rfl) rfl (k := (dBelow b (dBelow b c8 5).2 (x8.length : Int)).1.toNat) (by omega) (by omega)) ?_
  refine AN_p (x_ostore (⟨(x8[(dBelow b (dBelow b c8 5).2 (x8.length : Int)).1.toNat]'(by omega)).kind, [0, 255, 256, (dRaw b (dBelow b (dBelow b (dBelow b c8 5).2 (x8.length : Int)).2 3).2).1][(dBelow b (dRaw b (dBelow b (dBelow b (dBelow b c8 5).2 (x8.length : Int)).2 3).2).2 4).1.toNat]'(by simp; omega), (x8[(dBelow b (dBelow b c8 5).2 (x8.length : Int)).1.toNat]'(by omega)).b⟩) rfl rfl rfl rfl (by kernel_rfl) rfl rfl rfl rfl FitL.rf rfl rfl (by first | omega | (rw [filledTo_len (by omega)]; omega) | (simp; omega))) ?_
  refine AN_nil ?_
  refine AW_seq ?_
  refine AW_regionN ?_
  refine AN_p (x_move rfl rfl) ?_
  refine AN_p (x_assign rfl rfl) ?_
  refine AN_nil ?_
  refine AW_shut 303 2 rfl rfl ?_
  refine AW_ret ?_
  refine ⟨⟨_, _⟩, ?_, rn [], by exact ⟨⟨⟨_, rfl, VLe.rf⟩, trivial⟩, ⟨⟨_, rfl, BLe.rf⟩, trivial⟩, by repeat (first | exact trivial | refine ⟨⟨rfl, by first | (left; intro h; cases h) | (right; rfl), by first | exact (fun _ h => ⟨_, h⟩) | exact (fun _ _ => ⟨_, rfl⟩) | (intro _ h; cases h)⟩, ?_⟩), rfl⟩⟩
  first | (dsimp only; omega) | (simp; omega)

set_option maxHeartbeats 4000000 in
theorem entry_x (b : List Int) (c : Cur) (hb : b.length ≤ 1048576) : AX Try.prog 121 [.one (.ptr 200 0)] [(200, some (curB b c))] (ι := (Int × Int × (List Int × List Int) × List Actt × Int) × Cur) (fun i => i.1.2.2.1.1.length = 8 ∧ i.1.2.2.1.2.length = 8 ∧ i.1.2.2.2.1.length ≤ 13) (fun i => .agg [.c (.int .i64 i.1.1), .c (.int .i64 i.1.2.1), .sl (intE .i64) i.1.2.2.1.1, .sl (intE .i64) i.1.2.2.1.2, .sl actE i.1.2.2.2.1, .c (.int .i64 i.1.2.2.2.2)]) (fun i => [(200, some (curB b i.2))]) := by
  refine AX_bodyC (n := 6) (k := 9) (cs := fun (i : (Int × Int × (List Int × List Int) × List Actt × Int) × Cur) => [.c (.int .i64 i.1.1), .c (.int .i64 i.1.2.1), .sl (intE .i64) i.1.2.2.1.1, .sl (intE .i64) i.1.2.2.1.2, .sl actE i.1.2.2.2.1, .c (.int .i64 i.1.2.2.2.2)]) (T := fun (_ : (Int × Int × (List Int × List Int) × List Actt × Int) × Cur) => [(2, .one (.ptr 9 0))]) (Lf := fun (i : (Int × Int × (List Int × List Int) × List Actt × Int) × Cur) => ((9, some (.box [.c (.int .i64 i.1.1), .c (.int .i64 i.1.2.1), .sl (intE .i64) i.1.2.2.1.1, .sl (intE .i64) i.1.2.2.1.2, .sl actE i.1.2.2.2.1, .c (.int .i64 i.1.2.2.2.2)])) :: [(200, some (curB b i.2))])) (L' := fun (i : (Int × Int × (List Int × List Int) × List Actt × Int) × Cur) => [(200, some (curB b i.2))]) Try.func121 rfl rfl Try.ntmps121 rfl Try.results121 (fun _ => rfl) (fun _ => rfl) (by kernel_rfl) (fun _ => rfl) (fun _ => rfl) (fun (_ : (Int × Int × (List Int × List Int) × List Actt × Int) × Cur) => ⟨trivial, (by repeat (first | exact trivial | refine ⟨⟨_, rfl, BLe.rf⟩, ?_⟩)), (by repeat (first | exact trivial | refine ⟨⟨rfl, by first | (left; intro h; cases h) | (right; rfl), by first | exact (fun _ h => ⟨_, h⟩) | exact (fun _ _ => ⟨_, rfl⟩) | (intro _ h; cases h)⟩, ?_⟩)), rfl⟩) ?_
  refine AW_seq ?_
  refine AW_regionN ?_
  refine AN_p (x_alloc (z := .agg #[.int .i64 0, .int .i64 0, .slice none 0 0, .slice none 0 0, .slice none 0 0, .int .i64 0]) 100 rfl (by kernel_rfl) rfl rfl rfl rfl) ?_
  refine AN_nil ?_
  refine AW_seq ?_
  refine AW_regionN ?_
  refine AN_p (x_move rfl rfl) ?_
  have d5 := dBelow_lt b c (n := 3) (by decide)
  refine AN_p (x_call (ks := []) (L := [(200, some _)]) (L' := [(200, some _)]) rfl rfl rfl (below_c b c hb 3) rfl AllV.rf (caught_of rfl) rfl rfl rfl ⟨rfl, trivial⟩ rfl) ?_
  refine AN_p (x_move rfl rfl) ?_
  have d7 := dBelow_lt b (dBelow b c 3).2 (n := 4) (by decide)
  refine AN_p (x_call (ks := []) (L := [(200, some _)]) (L' := [(200, some _)]) rfl rfl rfl (below_c b (dBelow b c 3).2 hb 4) rfl AllV.rf (caught_of rfl) rfl rfl rfl ⟨rfl, trivial⟩ rfl) ?_
  refine AN_p (x_move rfl rfl) ?_
  refine AN_x (L := [(200, some (curB b (dBelow b (dBelow b c 3).2 4).2))]) rfl rfl rfl (match_x b (dBelow b (dBelow b c 3).2 4).2 hb) rfl rfl (fun _ => rfl) (fun _ => rfl) ⟨rfl, trivial⟩ (fun _ => rfl) ?_
  rintro ⟨x9, c9⟩ g9
  try dsimp only at g9
  try dsimp only
  refine AN_p (x_move rfl rfl) ?_
  refine AN_x (L := [(200, some (curB b c9))]) rfl rfl rfl (acts_x b c9 hb) rfl rfl (fun _ => rfl) (fun _ => rfl) ⟨rfl, trivial⟩ (fun _ => rfl) ?_
  rintro ⟨y11, c11⟩ g11
  try dsimp only at g11
  try dsimp only
  refine AN_p (x_move rfl rfl) ?_
  have d13 := dBelow_lt b c11 (n := 3) (by decide)
  refine AN_p (x_call (ks := []) (L := [(200, some _)]) (L' := [(200, some _)]) rfl rfl rfl (below_c b c11 hb 3) rfl AllV.rf (caught_of rfl) rfl rfl rfl ⟨rfl, trivial⟩ rfl) ?_
  refine AN_p (x_build (zs := [.int .i64 0, .int .i64 0, .slice none 0 0, .slice none 0 0, .slice none 0 0, .int .i64 0]) (places := [(0, 1), (1, 1), (2, 2), (4, 1), (5, 1)]) rfl (by kernel_rfl) rfl rfl rfl rfl rfl) ?_
  refine AN_p (x_alloc (z := .agg #[.int .i64 0, .int .i64 0, .slice none 0 0, .slice none 0 0, .slice none 0 0, .int .i64 0]) 101 rfl (by kernel_rfl) rfl rfl rfl rfl) ?_
  refine AN_p (x_store (n := 6) rfl rfl rfl rfl (by kernel_rfl) rfl rfl rfl) ?_
  refine AN_nil ?_
  refine AW_seq ?_
  refine AW_seq ?_
  refine AW_shutB 303 101 4 rfl rfl rfl rfl ?_
  refine AW_regionN ?_
  refine AN_p (x_field (off := 4) (o' := 4) rfl rfl rfl (by kernel_rfl) rfl) ?_
  refine AN_p (x_load1 rfl rfl rfl (by kernel_rfl) rfl) ?_
  refine AN_p (x_len (E := 114) (n := 3) rfl rfl (by kernel_rfl)) ?_
  refine AN_b (x_gtr rfl rfl rfl) (fun b18 h18 => ?_)
  refine AN_nil ?_
  cases b18
  · try simp only [tdy] at h18
    refine AW_condF rfl ?_
    refine AW_skip ?_
    refine AW_seq ?_
    refine AW_seq ?_
    refine AW_regionN ?_
    refine AN_p (x_move rfl rfl) ?_
    have d21 := dBelow_lt b (dBelow b c11 3).2 (n := 9) (by decide)
    refine AN_p (x_call (ks := []) (L := [(200, some _)]) (L' := [(200, some _)]) rfl rfl rfl (below_c b (dBelow b c11 3).2 hb 9) rfl AllV.rf (caught_of rfl) rfl rfl rfl ⟨rfl, trivial⟩ rfl) ?_
    refine AN_b (x_eql rfl rfl rfl) (fun b22 h22 => ?_)
    refine AN_nil ?_
    cases b22
    · try simp only [tdy] at h22
      refine AW_condF rfl ?_
      refine AW_skip ?_
      refine AW_seq ?_
      refine AW_regionN ?_
      refine AN_p (x_loadN (n := 6) rfl rfl rfl (by kernel_rfl) rfl rfl) ?_
      refine AN_p (x_store (n := 6) rfl rfl rfl rfl (by kernel_rfl) rfl rfl rfl) ?_
      refine AN_nil ?_
      refine AW_shutB 301 100 2 rfl rfl rfl rfl ?_
      refine AW_shutB 302 100 3 rfl rfl rfl rfl ?_
      refine AW_ret ?_
      refine ⟨⟨⟨_, _, ⟨_, _⟩, _, _⟩, _⟩, ?_, rn [(9, 100)], by exact ⟨⟨⟨_, rfl, VLe.rf⟩, trivial⟩, ⟨⟨_, rfl, by first | exact BLe.rf | exact BLe.box (by repeat (first | exact trivial | refine ⟨by first | exact CLe.rf | exact CLe.nil, ?_⟩))⟩, ⟨_, rfl, BLe.rf⟩, trivial⟩, by repeat (first | exact trivial | refine ⟨⟨rfl, by first | (left; intro h; cases h) | (right; rfl), by first | exact (fun _ h => ⟨_, h⟩) | exact (fun _ _ => ⟨_, rfl⟩) | (intro _ h; cases h)⟩, ?_⟩), rfl⟩⟩
      exact ⟨g9.1, g9.2, by first | exact g11 | exact Nat.zero_le _⟩
    try simp only [tdy] at h22
    refine AW_condT rfl ?_
    refine AW_seq ?_
    refine AW_regionN ?_
    refine AN_p (x_move rfl rfl) ?_
    have d24 := dBelow_lt b (dBelow b (dBelow b c11 3).2 9).2 (n := 2) (by decide)
    refine AN_p (x_call (ks := []) (L := [(200, some _)]) (L' := [(200, some _)]) rfl rfl rfl (below_c b (dBelow b (dBelow b c11 3).2 9).2 hb 2) rfl AllV.rf (caught_of rfl) rfl rfl rfl ⟨rfl, trivial⟩ rfl) ?_
    refine AN_p (x_sub rfl rfl rfl (IntWalk.i64_in _ (by omega))) ?_
    refine AN_p (x_field (off := 5) (o' := 5) rfl rfl rfl (by kernel_rfl) rfl) ?_
    refine AN_p (x_store (n := 1) rfl rfl rfl rfl (by kernel_rfl) rfl rfl rfl) ?_
    refine AN_nil ?_
    refine AW_regionN ?_
    refine AN_p (x_field (off := 1) (o' := 1) rfl rfl rfl (by kernel_rfl) rfl) ?_
    refine AN_p (x_store (n := 1) rfl rfl rfl rfl (by kernel_rfl) rfl rfl rfl) ?_
    refine AN_nil ?_
    refine AW_seq ?_
    refine AW_regionN ?_
    refine AN_p (x_loadN (n := 6) rfl rfl rfl (by kernel_rfl) rfl rfl) ?_
    refine AN_p (x_store (n := 6) rfl rfl rfl rfl (by kernel_rfl) rfl rfl rfl) ?_
    refine AN_nil ?_
    refine AW_shutB 301 100 2 rfl rfl rfl rfl ?_
    refine AW_shutB 302 100 3 rfl rfl rfl rfl ?_
    refine AW_ret ?_
    refine ⟨⟨⟨_, _, ⟨_, _⟩, _, _⟩, _⟩, ?_, rn [(9, 100)], by exact ⟨⟨⟨_, rfl, VLe.rf⟩, trivial⟩, ⟨⟨_, rfl, by first | exact BLe.rf | exact BLe.box (by repeat (first | exact trivial | refine ⟨by first | exact CLe.rf | exact CLe.nil, ?_⟩))⟩, ⟨_, rfl, BLe.rf⟩, trivial⟩, by repeat (first | exact trivial | refine ⟨⟨rfl, by first | (left; intro h; cases h) | (right; rfl), by first | exact (fun _ h => ⟨_, h⟩) | exact (fun _ _ => ⟨_, rfl⟩) | (intro _ h; cases h)⟩, ?_⟩), rfl⟩⟩
    exact ⟨g9.1, g9.2, by first | exact g11 | exact Nat.zero_le _⟩
  try simp only [tdy] at h18
  refine AW_condT rfl ?_
  refine AW_regionN ?_
  refine AN_p (x_field (off := 4) (o' := 4) rfl rfl rfl (by kernel_rfl) rfl) ?_
  refine AN_p (x_store (n := 1) rfl rfl rfl rfl (by kernel_rfl) rfl rfl rfl) ?_
  refine AN_nil ?_
  refine AW_seq ?_
  refine AW_seq ?_
  refine AW_regionN ?_
  refine AN_p (x_move rfl rfl) ?_
  have d21 := dBelow_lt b (dBelow b c11 3).2 (n := 9) (by decide)
  refine AN_p (x_call (ks := []) (L := [(200, some _)]) (L' := [(200, some _)]) rfl rfl rfl (below_c b (dBelow b c11 3).2 hb 9) rfl AllV.rf (caught_of rfl) rfl rfl rfl ⟨rfl, trivial⟩ rfl) ?_
  refine AN_b (x_eql rfl rfl rfl) (fun b22 h22 => ?_)
  refine AN_nil ?_
  cases b22
  · try simp only [tdy] at h22
    refine AW_condF rfl ?_
    refine AW_skip ?_
    refine AW_seq ?_
    refine AW_regionN ?_
    refine AN_p (x_loadN (n := 6) rfl rfl rfl (by kernel_rfl) rfl rfl) ?_
    refine AN_p (x_store (n := 6) rfl rfl rfl rfl (by kernel_rfl) rfl rfl rfl) ?_
    refine AN_nil ?_
    refine AW_shutB 301 100 2 rfl rfl rfl rfl ?_
    refine AW_shutB 302 100 3 rfl rfl rfl rfl ?_
    refine AW_ret ?_
    refine ⟨⟨⟨_, _, ⟨_, _⟩, _, _⟩, _⟩, ?_, rn [(9, 100)], by exact ⟨⟨⟨_, rfl, VLe.rf⟩, trivial⟩, ⟨⟨_, rfl, by first | exact BLe.rf | exact BLe.box (by repeat (first | exact trivial | refine ⟨by first | exact CLe.rf | exact CLe.nil, ?_⟩))⟩, ⟨_, rfl, BLe.rf⟩, trivial⟩, by repeat (first | exact trivial | refine ⟨⟨rfl, by first | (left; intro h; cases h) | (right; rfl), by first | exact (fun _ h => ⟨_, h⟩) | exact (fun _ _ => ⟨_, rfl⟩) | (intro _ h; cases h)⟩, ?_⟩), rfl⟩⟩
    exact ⟨g9.1, g9.2, by first | exact g11 | exact Nat.zero_le _⟩
  try simp only [tdy] at h22
  refine AW_condT rfl ?_
  refine AW_seq ?_
  refine AW_regionN ?_
  refine AN_p (x_move rfl rfl) ?_
  have d24 := dBelow_lt b (dBelow b (dBelow b c11 3).2 9).2 (n := 2) (by decide)
  refine AN_p (x_call (ks := []) (L := [(200, some _)]) (L' := [(200, some _)]) rfl rfl rfl (below_c b (dBelow b (dBelow b c11 3).2 9).2 hb 2) rfl AllV.rf (caught_of rfl) rfl rfl rfl ⟨rfl, trivial⟩ rfl) ?_
  refine AN_p (x_sub rfl rfl rfl (IntWalk.i64_in _ (by omega))) ?_
  refine AN_p (x_field (off := 5) (o' := 5) rfl rfl rfl (by kernel_rfl) rfl) ?_
  refine AN_p (x_store (n := 1) rfl rfl rfl rfl (by kernel_rfl) rfl rfl rfl) ?_
  refine AN_nil ?_
  refine AW_regionN ?_
  refine AN_p (x_field (off := 1) (o' := 1) rfl rfl rfl (by kernel_rfl) rfl) ?_
  refine AN_p (x_store (n := 1) rfl rfl rfl rfl (by kernel_rfl) rfl rfl rfl) ?_
  refine AN_nil ?_
  refine AW_seq ?_
  refine AW_regionN ?_
  refine AN_p (x_loadN (n := 6) rfl rfl rfl (by kernel_rfl) rfl rfl) ?_
  refine AN_p (x_store (n := 6) rfl rfl rfl rfl (by kernel_rfl) rfl rfl rfl) ?_
  refine AN_nil ?_
  refine AW_shutB 301 100 2 rfl rfl rfl rfl ?_
  refine AW_shutB 302 100 3 rfl rfl rfl rfl ?_
  refine AW_ret ?_
  refine ⟨⟨⟨_, _, ⟨_, _⟩, _, _⟩, _⟩, ?_, rn [(9, 100)], by exact ⟨⟨⟨_, rfl, VLe.rf⟩, trivial⟩, ⟨⟨_, rfl, by first | exact BLe.rf | exact BLe.box (by repeat (first | exact trivial | refine ⟨by first | exact CLe.rf | exact CLe.nil, ?_⟩))⟩, ⟨_, rfl, BLe.rf⟩, trivial⟩, by repeat (first | exact trivial | refine ⟨⟨rfl, by first | (left; intro h; cases h) | (right; rfl), by first | exact (fun _ h => ⟨_, h⟩) | exact (fun _ _ => ⟨_, rfl⟩) | (intro _ h; cases h)⟩, ?_⟩), rfl⟩⟩
  exact ⟨g9.1, g9.2, by first | exact g11 | exact Nat.zero_le _⟩
end Go.Proofs.Ytfdpigafekohgaa

/- The laws' own functions: GenT (printed by gen.py) -/
namespace Go.Proofs.Ytfdpigafekohgaa
open Go.RowKit
set_option linter.unusedVariables false
set_option maxRecDepth 100000

structure Entryt where
  epoch : Int
  prio : Int
  mat : Matcht
  acts : List (Actt)
  hits : Int
def entryE : Enc Entryt := isoE (pairE (intE .i64) (pairE (intE .i64) (pairE matchE (pairE (sliceE actE) (pairE (intE .i64) unitE))))) (fun x => (x.epoch, x.prio, x.mat, x.acts, x.hits, ()))
theorem Entry_rep {w : World} {cs : List Value} {x : Entryt} {bs : List Nat} : entryE.rep w cs x bs ↔ ∃ (sa0 : Option Addr) (sn0 sc0 : Nat) (sb0 : List Nat) (sa1 : Option Addr) (sn1 sc1 : Nat) (sb1 : List Nat) (sa2 : Option Addr) (sn2 sc2 : Nat) (sb2 : List Nat), cs = [.int .i64 x.epoch, .int .i64 x.prio, .slice sa0 sn0 sc0, .slice sa1 sn1 sc1, .slice sa2 sn2 sc2, .int .i64 x.hits] ∧ (Lit.int .i64 x.epoch).wf = true ∧ (Lit.int .i64 x.prio).wf = true ∧ SliceRep (intE .i64) w sa0 sn0 sc0 x.mat.v sb0 ∧ SliceRep (intE .i64) w sa1 sn1 sc1 x.mat.m sb1 ∧ SliceRep actE w sa2 sn2 sc2 x.acts sb2 ∧ (Lit.int .i64 x.hits).wf = true ∧ bs = sb0 ++ sb1 ++ sb2 := by
  constructor
  · rintro ⟨c0, r0, d0, q0, rfl, rfl, h0, c1, r1, d1, q1, rfl, rfl, h1, c2, r2, d2, q2, rfl, rfl, h2, c3, r3, d3, q3, rfl, rfl, h3, c4, r4, d4, q4, rfl, rfl, h4, rfl, rfl⟩
    obtain ⟨rfl, f0, rfl⟩ := h0
    obtain ⟨rfl, f1, rfl⟩ := h1
    obtain ⟨va0, vn0, vc0, vb0, va1, vn1, vc1, vb1, rfl, f2_0, f2_1, hbs⟩ := Match_rep.1 h2
    obtain rfl := hbs.symm
    obtain ⟨va2, vn2, vc2, rfl, f3⟩ := h3
    obtain ⟨rfl, f4, rfl⟩ := h4
    exact ⟨_, _, _, _, _, _, _, _, va2, vn2, vc2, _, by simp, f0, f1, f2_0, f2_1, f3, f4, by simp⟩
  · rintro ⟨sa0, sn0, sc0, sb0, sa1, sn1, sc1, sb1, sa2, sn2, sc2, sb2, rfl, f0, f1, f2, f3, f4, f5, hbs⟩
    obtain rfl := hbs.symm
    exact ⟨[.int .i64 x.epoch], [.int .i64 x.prio, .slice sa0 sn0 sc0, .slice sa1 sn1 sc1, .slice sa2 sn2 sc2, .int .i64 x.hits], [], (sb0 ++ sb1) ++ sb2, rfl, by simp, ⟨rfl, f0, rfl⟩, ⟨[.int .i64 x.prio], [.slice sa0 sn0 sc0, .slice sa1 sn1 sc1, .slice sa2 sn2 sc2, .int .i64 x.hits], [], (sb0 ++ sb1) ++ sb2, rfl, by simp, ⟨rfl, f1, rfl⟩, ⟨[.slice sa0 sn0 sc0, .slice sa1 sn1 sc1], [.slice sa2 sn2 sc2, .int .i64 x.hits], (sb0 ++ sb1), sb2, rfl, by simp, Match_rep.2 ⟨sa0, sn0, sc0, sb0, sa1, sn1, sc1, sb1, rfl, f2, f3, rfl⟩, ⟨[.slice sa2 sn2 sc2], [.int .i64 x.hits], sb2, [], rfl, by simp, ⟨sa2, sn2, sc2, rfl, f4⟩, ⟨[.int .i64 x.hits], [], [], [], rfl, by simp, ⟨rfl, f5, rfl⟩, ⟨rfl, rfl⟩⟩⟩⟩⟩⟩
def entryC (x : Entryt) : List Cell := [.c (.int .i64 x.epoch), .c (.int .i64 x.prio), .sl (intE .i64) x.mat.v, .sl (intE .i64) x.mat.m, .sl actE x.acts, .c (.int .i64 x.hits)]
instance : CellsOf entryE entryC := cellsIso (e := (pairE (intE .i64) (pairE (intE .i64) (pairE matchE (pairE (sliceE actE) (pairE (intE .i64) unitE)))))) (fun x : Entryt => (x.epoch, x.prio, x.mat, x.acts, x.hits, ()))
def smallEntry (x : Entryt) : Prop := smallMatch x.mat ∧ (x.acts.length ≤ 1048576 ∧ ∀ y ∈ x.acts, smallAct y)

structure Tablet where
  cap : Int
  entries : List (Entryt)
def tableC (x : Tablet) : List Cell := [.c (.int .i64 x.cap), .sl entryE x.entries]
def smallTable (x : Tablet) : Prop := (x.entries.length ≤ 1048576 ∧ ∀ y ∈ x.entries, smallEntry y)

end Go.Proofs.Ytfdpigafekohgaa

/- Sizes of data (printed by mktot.py) -/
namespace Go.Proofs.Ytfdpigafekohgaa
open Go.RowKit
set_option linter.unusedVariables false

end Go.Proofs.Ytfdpigafekohgaa

/- Sizes of data (printed by mktot.py) -/
namespace Go.Proofs.Ytfdpigafekohgaa
open Go.RowKit
set_option linter.unusedVariables false

end Go.Proofs.Ytfdpigafekohgaa

/- Flow tables in plain words. -/
namespace Go.Proofs.Ytfdpigafekohgaa
open Go.RowKit
set_option linter.unusedVariables false
set_option linter.unusedSimpArgs false

def noEntry : Entryt := ⟨0, 0, ⟨[], []⟩, [], 0⟩
def entryOkB (e : Entryt) : Bool := entryB e.epoch e.prio e.hits e.mat e.acts
def aheadB (a b : Entryt) : Bool := decide (a.epoch < b.epoch ∨ a.epoch = b.epoch ∧ b.prio < a.prio)
def sameMatchB (a b : Matcht) : Bool := matchB a && (matchB b && (decide (a.v = b.v) && decide (a.m = b.m)))
def sameKeyB (a b : Entryt) : Bool := decide (a.epoch = b.epoch) && (decide (a.prio = b.prio) && sameMatchB a.mat b.mat)
def newAt (l : List Entryt) (i : Nat) (h : i < l.length) : Bool := everyB (n := i) fun x hx => !sameKeyB (l[x]'(by omega)) l[i]
def tableAt (l : List Entryt) (i : Nat) (h : i < l.length) : Bool := entryOkB l[i] && ((decide (i = 0) || !aheadB l[i] (l[i - 1]'(by omega))) && newAt l i h)
def tableB (t : Tablet) : Bool := decide (0 ≤ t.cap ∧ t.cap ≤ 400 ∧ (t.entries.length : Int) ≤ t.cap) && everyB (tableAt t.entries)
theorem tableB_cap {t : Tablet} (h : ¬ (0 ≤ t.cap ∧ t.cap ≤ 400 ∧ (t.entries.length : Int) ≤ t.cap)) : tableB t = false := by
  unfold tableB; rw [decide_eq_false h]; rfl
theorem tableB_bad {t : Tablet} {k : Nat} (hk : k < t.entries.length) (h : tableAt t.entries k hk = false) : tableB t = false := by
  unfold tableB; rw [everyB_bad hk h]; simp
theorem tableB_good {t : Tablet} {k : Nat} (h : AllAt (tableAt t.entries) k) (hk : t.entries.length ≤ k) (hc : 0 ≤ t.cap ∧ t.cap ≤ 400 ∧ (t.entries.length : Int) ≤ t.cap) : tableB t = true := by
  unfold tableB; rw [h.all hk, decide_eq_true hc]; rfl
theorem tableB_get {t : Tablet} (h : tableB t = true) : (0 ≤ t.cap ∧ t.cap ≤ 400 ∧ (t.entries.length : Int) ≤ t.cap) ∧ ∀ k (hk : k < t.entries.length), tableAt t.entries k hk = true := by
  simp only [tableB, Bool.and_eq_true, decide_eq_true_eq] at h
  exact ⟨h.1, fun k hk => everyB_get h.2 hk⟩
theorem tableAt_ok {l : List Entryt} {k : Nat} (hk : k < l.length) (h : entryOkB l[k] = false) : tableAt l k hk = false := by simp [tableAt, h]
theorem tableAt_ahead {l : List Entryt} {k : Nat} (hk : k < l.length) (h0 : 0 < k) (h : aheadB l[k] (l[k - 1]'(by omega)) = true) : tableAt l k hk = false := by
  have : ¬ k = 0 := by omega
  simp [tableAt, h, this]
theorem tableAt_key {l : List Entryt} {k j : Nat} (hk : k < l.length) (hj : j < k) (h : sameKeyB (l[j]'(by omega)) l[k] = true) : tableAt l k hk = false := by
  have : newAt l k hk = false := everyB_bad hj (by simp [h])
  simp [tableAt, this]
/-- No key from j on up to i. -/
def NoKey (l : List Entryt) (i j : Nat) : Prop := ∀ x (hx : x < l.length) (hi : i < l.length), j ≤ x → x < i → sameKeyB l[x] l[i] = false
theorem NoKey.start {l : List Entryt} {i : Nat} : NoKey l i i := fun x _ _ h1 h2 => by omega
theorem NoKey.pred {l : List Entryt} {i j : Nat} (h : NoKey l i j) (hj : j - 1 < l.length) (hi : i < l.length) (hs : sameKeyB (l[j - 1]'hj) l[i] = false) : NoKey l i (j - 1) := fun x hx hi' h1 h2 => by
  by_cases e : x = j - 1
  · subst e; exact hs
  · exact h x hx hi' (by omega) h2
theorem tableAt_good {l : List Entryt} {k : Nat} (hk : k < l.length) (h1 : entryOkB l[k] = true) (h2 : 0 < k → aheadB l[k] (l[k - 1]'(by omega)) = false) (h3 : NoKey l k 0) : tableAt l k hk = true := by
  have e : newAt l k hk = true := AllAt.all (k := k) (fun x hx _ => by simp [h3 x (by omega) hk (Nat.zero_le _) hx]) (Nat.le_refl _)
  by_cases h0 : k = 0
  · have h00 : decide (k = 0) = true := decide_eq_true h0
    simp only [tableAt, h00, h1, e, Bool.true_or, Bool.and_self]
  · simp [tableAt, h1, e, h0, h2 (by omega)]
theorem tableAt_not {l : List Entryt} {k : Nat} {hk : k < l.length} (h : tableAt l k hk = true) : entryOkB l[k] = true ∧ (0 < k → aheadB l[k] (l[k - 1]'(by omega)) = false) ∧ NoKey l k 0 := by
  simp only [tableAt, Bool.and_eq_true, Bool.or_eq_true, decide_eq_true_eq, Bool.not_eq_true'] at h
  refine ⟨h.1, fun h0 => h.2.1.resolve_left (by omega), fun x hx hi _ h2 => ?_⟩
  have := everyB_get h.2.2 h2
  simpa using this
theorem ahead_no {a b : Entryt} : aheadB a b = false ↔ b.epoch < a.epoch ∨ b.epoch = a.epoch ∧ a.prio ≤ b.prio := by
  unfold aheadB; rw [decide_eq_false_iff_not]; omega
/-- The entries stand in order. -/
theorem in_order {l : List Entryt} {n : Nat} (h : ∀ k (hk : k < l.length), 0 < k → k < n → aheadB l[k] (l[k - 1]'(by omega)) = false) : ∀ {b a : Nat} (hb : b < l.length) (hab : a ≤ b), b < n → aheadB l[b] (l[a]'(by omega)) = false
  | 0, a, hb, hab, hn => by
    obtain rfl : a = 0 := by omega
    rw [ahead_no]; omega
  | b + 1, a, hb, hab, hn => by
    by_cases e : a = b + 1
    · subst e; rw [ahead_no]; omega
    · have h1 := in_order h (b := b) (a := a) (by omega) (by omega) (by omega)
      have h2 := h (b + 1) hb (by omega) hn
      simp only [Nat.add_sub_cancel] at h2
      rw [ahead_no] at *; omega
theorem key_differs {a b : Entryt} (h : ¬ (a.epoch = b.epoch ∧ a.prio = b.prio)) : sameKeyB a b = false := by
  unfold sameKeyB
  by_cases h1 : a.epoch = b.epoch
  · by_cases h2 : a.prio = b.prio
    · exact absurd ⟨h1, h2⟩ h
    · simp [h2]
  · simp [h1]
/-- Ahead of an entry with another key there is none with this key. -/
theorem NoKey.stop {l : List Entryt} {i j : Nat} (h : NoKey l i j) (hi : i < l.length) (h1 : AllAt (tableAt l) i) (h2 : 0 < i → aheadB l[i] (l[i - 1]'(by omega)) = false) (hj : j ≤ i) (h0 : 0 < j) (hd : ¬ ((l[j - 1]'(by omega)).epoch = l[i].epoch ∧ (l[j - 1]'(by omega)).prio = l[i].prio)) : NoKey l i 0 := fun x hx hi' _ h5 => by
  by_cases hxj : j ≤ x
  · exact h x hx hi' hxj h5
  · have ord : ∀ k (hk : k < l.length), 0 < k → k < i + 1 → aheadB l[k] (l[k - 1]'(by omega)) = false := fun k hk hk0 hki => by
      by_cases e : k = i
      · subst e; exact h2 hk0
      · exact (tableAt_not (h1 k hk (by omega))).2.1 hk0
    have o1 := in_order ord (b := j - 1) (a := x) (by omega) (by omega) (by omega)
    have o2 := in_order ord (b := i) (a := j - 1) hi (by omega) (by omega)
    refine key_differs fun q => hd ?_
    rw [ahead_no] at o1 o2; omega
theorem ahead_key {a b : Entryt} (h : aheadB a b = true) : ¬ (a.epoch = b.epoch ∧ a.prio = b.prio) := by
  unfold aheadB at h; rw [decide_eq_true_eq] at h; omega
theorem actE_nofp : ∀ w cs (y : Actt) b, actE.rep w cs y b → b = [] := fun w cs y b h => (Act_rep.1 h).2.2.2.2
/-! ### Lists of numbers -/
theorem ints_bad {a b : List Int} {k : Nat} (ha : k < a.length) (hb : k < b.length) (h : ¬ a[k] = b[k]) : decide (a = b) = false := by
  rw [decide_eq_false_iff_not]; rintro rfl; exact h rfl
theorem ints_len {a b : List Int} (h : ¬ a.length = b.length) : decide (a = b) = false := by
  rw [decide_eq_false_iff_not]; rintro rfl; exact h rfl
theorem ints_good {a b : List Int} {k : Nat} (h : AllAt (n := a.length) (fun k h => if h' : k < b.length then decide (a[k] = b[k]) else false) k) (hk : a.length ≤ k) (hl : a.length = b.length) : decide (a = b) = true := by
  rw [decide_eq_true_eq]
  refine List.ext_getElem hl fun j h1 h2 => ?_
  have := h j h1 (by omega)
  simp only [h2, dif_pos, decide_eq_true_eq] at this
  exact this
theorem sameMatch_iff {a b : Matcht} : sameMatchB a b = true ↔ matchB a = true ∧ a = b := by
  obtain ⟨v, m⟩ := a; obtain ⟨v2, m2⟩ := b
  simp only [sameMatchB, Bool.and_eq_true, decide_eq_true_eq, Matcht.mk.injEq]
  constructor
  · rintro ⟨h1, _, rfl, rfl⟩; exact ⟨h1, rfl, rfl⟩
  · rintro ⟨h1, rfl, rfl⟩; exact ⟨h1, h1, rfl, rfl⟩
theorem sameMatch_comm (a b : Matcht) : sameMatchB a b = sameMatchB b a := by
  cases h : sameMatchB b a
  · cases h2 : sameMatchB a b
    · rfl
    · obtain ⟨q1, rfl⟩ := sameMatch_iff.1 h2; rw [h2] at h; cases h
  · obtain ⟨q1, rfl⟩ := sameMatch_iff.1 h; exact h
/-! ### An entry put in -/
theorem tableB_max {t : Tablet} (h : tableB t = true) : t.entries.length ≤ 400 := by have := (tableB_get h).1; omega
def keyIdx (l : List Entryt) (e : Entryt) : Int := firstIdx (fun x => sameKeyB x e) l
def posA (l : List Entryt) (e : Entryt) : Nat := if firstIdx (fun x => aheadB e x) l < 0 then l.length else (firstIdx (fun x => aheadB e x) l).toNat
def putEntry (l : List Entryt) (e : Entryt) : List Entryt := l.take (posA l e) ++ [e] ++ l.drop (posA l e)
def tableAdd (t : Tablet) (e : Entryt) : Tablet × Int :=
  if (tableB t && entryOkB e) = true then
    if 0 ≤ keyIdx t.entries e then (⟨t.cap, t.entries.set (keyIdx t.entries e).toNat e⟩, 0)
    else if (t.entries.length : Int) = t.cap then (⟨0, []⟩, 2) else (⟨t.cap, putEntry t.entries e⟩, 0)
  else (⟨0, []⟩, 1)
theorem firstIdx_nn {α : Type} {p : α → Bool} {xs : List α} (h : ¬ firstIdx p xs < 0) : ∃ k : Nat, firstIdx p xs = (k : Int) ∧ k < xs.length := by
  unfold firstIdx at *
  cases e : xs.findIdx? p with
  | none => rw [e] at h; exact absurd (by show (-1 : Int) < 0; omega) h
  | some i => exact ⟨i, rfl, (List.findIdx?_eq_some_iff_findIdx_eq.1 e).1⟩
theorem posA_none {l : List Entryt} {e : Entryt} (h : firstIdx (fun x => aheadB e x) l < 0) : posA l e = l.length := if_pos h
theorem posA_at {l : List Entryt} {e : Entryt} {k : Nat} (h : firstIdx (fun x => aheadB e x) l = (k : Int)) : posA l e = k := by
  unfold posA; rw [h, if_neg (by omega)]; omega
theorem tableAdd_no {t : Tablet} {e : Entryt} (h : (tableB t && entryOkB e) = false) : tableAdd t e = (⟨0, []⟩, 1) := if_neg (by rw [h]; decide)
theorem tableAdd_ok {t : Tablet} {e : Entryt} (h : (tableB t && entryOkB e) = true) : tableAdd t e = if 0 ≤ keyIdx t.entries e then (⟨t.cap, t.entries.set (keyIdx t.entries e).toNat e⟩, 0) else if (t.entries.length : Int) = t.cap then (⟨0, []⟩, 2) else (⟨t.cap, putEntry t.entries e⟩, 0) := if_pos h
theorem tableAdd_set {t : Tablet} {e : Entryt} {k : Nat} (h1 : tableB t = true) (h2 : entryOkB e = true) (h : keyIdx t.entries e = (k : Int)) : tableAdd t e = (⟨t.cap, t.entries.set k e⟩, 0) := by
  rw [tableAdd_ok (by rw [h1, h2]; rfl), h, if_pos (by omega)]; simp
theorem tableAdd_full {t : Tablet} {e : Entryt} (h1 : tableB t = true) (h2 : entryOkB e = true) (h : keyIdx t.entries e < 0) (hc : (t.entries.length : Int) = t.cap) : tableAdd t e = (⟨0, []⟩, 2) := by
  rw [tableAdd_ok (by rw [h1, h2]; rfl), if_neg (by omega), if_pos hc]
theorem tableAdd_put {t : Tablet} {e : Entryt} (h1 : tableB t = true) (h2 : entryOkB e = true) (h : keyIdx t.entries e < 0) (hc : ¬ (t.entries.length : Int) = t.cap) : tableAdd t e = (⟨t.cap, putEntry t.entries e⟩, 0) := by
  rw [tableAdd_ok (by rw [h1, h2]; rfl), if_neg (by omega), if_neg hc]
theorem table_order {t : Tablet} (h : tableB t = true) {b a : Nat} (hb : b < t.entries.length) (hab : a ≤ b) : aheadB t.entries[b] (t.entries[a]'(by omega)) = false :=
  in_order (n := t.entries.length) (fun k hk h0 _ => (tableAt_not ((tableB_get h).2 k hk)).2.1 h0) hb hab hb
theorem filter_split {α : Type} {p : α → Bool} {l : List α} {n : Nat} (hn : n ≤ l.length) (h1 : ∀ k (hk : k < l.length), k < n → p l[k] = false) (h2 : ∀ k (hk : k < l.length), n ≤ k → p l[k] = true) : (l.filter fun x => !p x) = l.take n ∧ l.filter p = l.drop n := by
  have e := List.take_append_drop n l
  have a1 : ∀ x ∈ l.take n, p x = false := fun x hx => by
    obtain ⟨j, hj, rfl⟩ := List.getElem_of_mem hx
    rw [List.length_take] at hj
    rw [List.getElem_take]; exact h1 j (by omega) (by omega)
  have a2 : ∀ x ∈ l.drop n, p x = true := fun x hx => by
    obtain ⟨j, hj, rfl⟩ := List.getElem_of_mem hx
    rw [List.length_drop] at hj
    rw [List.getElem_drop]; exact h2 (n + j) (by omega) (by omega)
  constructor
  · conv => lhs; rw [← e]
    rw [List.filter_append, List.filter_eq_self.2 (fun x hx => by simp [a1 x hx]), List.filter_eq_nil_iff.2 (fun x hx => by simp [a2 x hx]), List.append_nil]
  · conv => lhs; rw [← e]
    rw [List.filter_append, List.filter_eq_nil_iff.2 (fun x hx => by simp [a1 x hx]), List.filter_eq_self.2 (fun x hx => a2 x hx), List.nil_append]
theorem posA_is {t : Tablet} (h : tableB t = true) (e : Entryt) : posA t.entries e ≤ t.entries.length ∧ (t.entries.filter fun x => !aheadB e x) = t.entries.take (posA t.entries e) ∧ t.entries.filter (fun x => aheadB e x) = t.entries.drop (posA t.entries e) := by
  have key : posA t.entries e ≤ t.entries.length ∧ (∀ k (hk : k < t.entries.length), k < posA t.entries e → aheadB e t.entries[k] = false) ∧ ∀ k (hk : k < t.entries.length), posA t.entries e ≤ k → aheadB e t.entries[k] = true := by
    by_cases h0 : firstIdx (fun x => aheadB e x) t.entries < 0
    · rw [posA_none h0]
      refine ⟨Nat.le_refl _, fun k hk _ => ?_, fun k hk hk2 => by omega⟩
      cases hq : aheadB e t.entries[k]
      · rfl
      · have h1 := firstIdx_any (fun x => aheadB e x) t.entries
        have h2 : t.entries.any (fun x => aheadB e x) = true := List.any_eq_true.2 ⟨_, List.getElem_mem hk, hq⟩
        rw [h2, decide_eq_true_eq] at h1; omega
    · obtain ⟨n, hn, hl⟩ := firstIdx_nn h0
      rw [posA_at hn]
      have hf : t.entries.findIdx? (fun x => aheadB e x) = some n := by
        unfold firstIdx at hn
        cases e2 : t.entries.findIdx? (fun x => aheadB e x) with
        | none => rw [e2] at hn; simp only at hn; omega
        | some i => rw [e2] at hn; simp only at hn; congr 1; omega
      obtain ⟨_, hp, hbefore⟩ := List.findIdx?_eq_some_iff_getElem.1 hf
      refine ⟨by omega, fun k hk hkn => ?_, fun k hk hkn => ?_⟩
      · have := hbefore k hkn
        simpa using this
      · have h3 := table_order h hk hkn
        rw [ahead_no] at h3
        unfold aheadB at hp ⊢
        rw [decide_eq_true_eq] at *; omega
  exact ⟨key.1, filter_split key.1 key.2.1 key.2.2⟩
/-! ### Entries taken out -/
def coversAt (a b : Matcht) (f : Nat) : Bool := decide (bitAndNot (a.m.getD f 0) (b.m.getD f 0) = 0) && decide (bitAnd (b.v.getD f 0) (a.m.getD f 0) = a.v.getD f 0)
def coversB (a b : Matcht) : Bool := matchB a && (matchB b && everyB (n := 8) fun f _ => coversAt a b f)
def goneB (m : Matcht) (prio : Int) (strict : Bool) (e : Entryt) : Bool := if strict = true then decide (e.prio = prio) && sameMatchB e.mat m else coversB m e.mat
def tableDelete (t : Tablet) (m : Matcht) (prio : Int) (strict : Bool) : Tablet × Int :=
  if (tableB t && matchB m) = true then (⟨t.cap, t.entries.filter fun e => !goneB m prio strict e⟩, (t.entries.length : Int) - ((t.entries.filter fun e => !goneB m prio strict e).length : Int)) else (⟨0, []⟩, -1)
theorem tableDelete_no {t : Tablet} {m : Matcht} {prio : Int} {strict : Bool} (h : (tableB t && matchB m) = false) : tableDelete t m prio strict = (⟨0, []⟩, -1) := if_neg (by rw [h]; decide)
theorem tableDelete_ok {t : Tablet} {m : Matcht} {prio : Int} {strict : Bool} (h1 : tableB t = true) (h2 : matchB m = true) : tableDelete t m prio strict = (⟨t.cap, t.entries.filter fun e => !goneB m prio strict e⟩, (t.entries.length : Int) - ((t.entries.filter fun e => !goneB m prio strict e).length : Int)) := if_pos (by rw [h1, h2]; rfl)
end Go.Proofs.Ytfdpigafekohgaa

/- Tables that are right (printed by walk.py) -/
namespace Go.Proofs.Ytfdpigafekohgaa
open Go.RowKit
set_option linter.unusedVariables false
set_option linter.unusedSimpArgs false
set_option maxRecDepth 100000

set_option maxHeartbeats 4000000 in
theorem beforeI_c (a b : Entryt) : AC Try.prog 100 [.agg (entryC a), .agg (entryC b)] [] (.one (.c (.bool (aheadB a b)))) [] := by
  refine AC_body1 Try.func100 rfl rfl Try.ntmps100 rfl Try.results100 ?_
  refine AW_seq ?_
  refine AW_region ?_
  refine AL_p (x_box 100 rfl rfl rfl rfl rfl rfl rfl) ?_
  refine AL_p (x_box 101 rfl rfl rfl rfl rfl rfl rfl) ?_
  refine AL_p (x_assign rfl rfl) ?_
  refine AL_nil ?_
  refine AW_seq ?_
  refine AW_region ?_
  refine AL_p (x_field (off := 0) (o' := 0) rfl rfl rfl (by kernel_rfl) rfl) ?_
  refine AL_p (x_load1 rfl rfl rfl (by kernel_rfl) rfl) ?_
  refine AL_p (x_field (off := 0) (o' := 0) rfl rfl rfl (by kernel_rfl) rfl) ?_
  refine AL_p (x_load1 rfl rfl rfl (by kernel_rfl) rfl) ?_
  refine AL_b (x_lss rfl rfl rfl) (fun b9 h9 => ?_)
  refine AL_p (x_move rfl rfl) ?_
  cases b9
  rotate_left
  · try simp only [tdy] at h9
    refine AL_o rfl rfl rfl rfl ?_
    refine AL_o rfl rfl rfl rfl ?_
    refine AL_o rfl rfl rfl rfl ?_
    refine AL_o rfl rfl rfl rfl ?_
    refine AL_o rfl rfl rfl rfl ?_
    refine AL_o rfl rfl rfl rfl ?_
    refine AL_u rfl rfl rfl ?_
    refine AL_u rfl rfl rfl ?_
    refine AL_u rfl rfl rfl ?_
    refine AL_u rfl rfl rfl ?_
    refine AL_u rfl rfl rfl ?_
    refine AL_o rfl rfl rfl rfl ?_
    refine AL_p (x_pickT rfl rfl rfl) ?_
    refine AL_p (x_assign rfl rfl) ?_
    refine AL_nil ?_
    refine AW_ret ?_
    exact ⟨rn [], ⟨⟨⟨_, rfl, vle_bool (by (symm; unfold aheadB; first | (rw [decide_eq_true_eq]; omega) | (rw [decide_eq_false_iff_not]; omega)))⟩, trivial⟩, trivial, trivial, rfl⟩⟩
  try simp only [tdy] at h9
  refine AL_g rfl rfl (x_field (off := 0) (o' := 0) rfl rfl rfl (by kernel_rfl) rfl) ?_
  refine AL_g rfl rfl (x_load1 rfl rfl rfl (by kernel_rfl) rfl) ?_
  refine AL_g rfl rfl (x_field (off := 0) (o' := 0) rfl rfl rfl (by kernel_rfl) rfl) ?_
  refine AL_g rfl rfl (x_load1 rfl rfl rfl (by kernel_rfl) rfl) ?_
  refine AL_gb rfl rfl (x_eql rfl rfl rfl) (fun b15 h15 => ?_)
  refine AL_g rfl rfl (x_move rfl rfl) ?_
  cases b15
  · try simp only [tdy] at h15
    refine AL_o rfl rfl rfl rfl ?_
    refine AL_o rfl rfl rfl rfl ?_
    refine AL_o rfl rfl rfl rfl ?_
    refine AL_o rfl rfl rfl rfl ?_
    refine AL_o rfl rfl rfl rfl ?_
    refine AL_g rfl rfl (x_pickF rfl rfl rfl) ?_
    refine AL_p (x_pickF rfl rfl rfl) ?_
    refine AL_p (x_assign rfl rfl) ?_
    refine AL_nil ?_
    refine AW_ret ?_
    exact ⟨rn [], ⟨⟨⟨_, rfl, vle_bool (by (symm; unfold aheadB; first | (rw [decide_eq_true_eq]; omega) | (rw [decide_eq_false_iff_not]; omega)))⟩, trivial⟩, trivial, trivial, rfl⟩⟩
  try simp only [tdy] at h15
  refine AL_g rfl rfl (x_field (off := 1) (o' := 1) rfl rfl rfl (by kernel_rfl) rfl) ?_
  refine AL_g rfl rfl (x_load1 rfl rfl rfl (by kernel_rfl) rfl) ?_
  refine AL_g rfl rfl (x_field (off := 1) (o' := 1) rfl rfl rfl (by kernel_rfl) rfl) ?_
  refine AL_g rfl rfl (x_load1 rfl rfl rfl (by kernel_rfl) rfl) ?_
  refine AL_gb rfl rfl (x_gtr rfl rfl rfl) (fun b21 h21 => ?_)
  refine AL_g rfl rfl (x_pickT rfl rfl rfl) ?_
  refine AL_p (x_pickF rfl rfl rfl) ?_
  refine AL_p (x_assign rfl rfl) ?_
  refine AL_nil ?_
  refine AW_ret ?_
  cases b21
  rotate_left
  · try simp only [tdy] at h21
    exact ⟨rn [], ⟨⟨⟨_, rfl, vle_bool (by (symm; unfold aheadB; first | (rw [decide_eq_true_eq]; omega) | (rw [decide_eq_false_iff_not]; omega)))⟩, trivial⟩, trivial, trivial, rfl⟩⟩
  try simp only [tdy] at h21
  exact ⟨rn [], ⟨⟨⟨_, rfl, vle_bool (by (symm; unfold aheadB; first | (rw [decide_eq_true_eq]; omega) | (rw [decide_eq_false_iff_not]; omega)))⟩, trivial⟩, trivial, trivial, rfl⟩⟩

set_option maxHeartbeats 4000000 in
theorem aheadS_c (a b : Entryt) : AC Try.prog 92 [.agg (entryC a), .agg (entryC b)] [] (.one (.c (.bool (aheadB a b)))) [] := by
  refine AC_body1 Try.func92 rfl rfl Try.ntmps92 rfl Try.results92 ?_
  refine AW_seq ?_
  refine AW_region ?_
  refine AL_p (x_box 100 rfl rfl rfl rfl rfl rfl rfl) ?_
  refine AL_p (x_box 101 rfl rfl rfl rfl rfl rfl rfl) ?_
  refine AL_p (x_assign rfl rfl) ?_
  refine AL_nil ?_
  refine AW_seq ?_
  refine AW_region ?_
  refine AL_p (x_field (off := 0) (o' := 0) rfl rfl rfl (by kernel_rfl) rfl) ?_
  refine AL_p (x_load1 rfl rfl rfl (by kernel_rfl) rfl) ?_
  refine AL_p (x_field (off := 0) (o' := 0) rfl rfl rfl (by kernel_rfl) rfl) ?_
  refine AL_p (x_load1 rfl rfl rfl (by kernel_rfl) rfl) ?_
  refine AL_b (x_lss rfl rfl rfl) (fun b9 h9 => ?_)
  refine AL_p (x_move rfl rfl) ?_
  cases b9
  rotate_left
  · try simp only [tdy] at h9
    refine AL_o rfl rfl rfl rfl ?_
    refine AL_o rfl rfl rfl rfl ?_
    refine AL_o rfl rfl rfl rfl ?_
    refine AL_o rfl rfl rfl rfl ?_
    refine AL_o rfl rfl rfl rfl ?_
    refine AL_o rfl rfl rfl rfl ?_
    refine AL_u rfl rfl rfl ?_
    refine AL_u rfl rfl rfl ?_
    refine AL_u rfl rfl rfl ?_
    refine AL_u rfl rfl rfl ?_
    refine AL_u rfl rfl rfl ?_
    refine AL_o rfl rfl rfl rfl ?_
    refine AL_p (x_pickT rfl rfl rfl) ?_
    refine AL_p (x_assign rfl rfl) ?_
    refine AL_nil ?_
    refine AW_ret ?_
    exact ⟨rn [], ⟨⟨⟨_, rfl, vle_bool (by (symm; unfold aheadB; first | (rw [decide_eq_true_eq]; omega) | (rw [decide_eq_false_iff_not]; omega)))⟩, trivial⟩, trivial, trivial, rfl⟩⟩
  try simp only [tdy] at h9
  refine AL_g rfl rfl (x_field (off := 0) (o' := 0) rfl rfl rfl (by kernel_rfl) rfl) ?_
  refine AL_g rfl rfl (x_load1 rfl rfl rfl (by kernel_rfl) rfl) ?_
  refine AL_g rfl rfl (x_field (off := 0) (o' := 0) rfl rfl rfl (by kernel_rfl) rfl) ?_
  refine AL_g rfl rfl (x_load1 rfl rfl rfl (by kernel_rfl) rfl) ?_
  refine AL_gb rfl rfl (x_eql rfl rfl rfl) (fun b15 h15 => ?_)
  refine AL_g rfl rfl (x_move rfl rfl) ?_
  cases b15
  · try simp only [tdy] at h15
    refine AL_o rfl rfl rfl rfl ?_
    refine AL_o rfl rfl rfl rfl ?_
    refine AL_o rfl rfl rfl rfl ?_
    refine AL_o rfl rfl rfl rfl ?_
    refine AL_o rfl rfl rfl rfl ?_
    refine AL_g rfl rfl (x_pickF rfl rfl rfl) ?_
    refine AL_p (x_pickF rfl rfl rfl) ?_
    refine AL_p (x_assign rfl rfl) ?_
    refine AL_nil ?_
    refine AW_ret ?_
    exact ⟨rn [], ⟨⟨⟨_, rfl, vle_bool (by (symm; unfold aheadB; first | (rw [decide_eq_true_eq]; omega) | (rw [decide_eq_false_iff_not]; omega)))⟩, trivial⟩, trivial, trivial, rfl⟩⟩
  try simp only [tdy] at h15
  refine AL_g rfl rfl (x_field (off := 1) (o' := 1) rfl rfl rfl (by kernel_rfl) rfl) ?_
  refine AL_g rfl rfl (x_load1 rfl rfl rfl (by kernel_rfl) rfl) ?_
  refine AL_g rfl rfl (x_field (off := 1) (o' := 1) rfl rfl rfl (by kernel_rfl) rfl) ?_
  refine AL_g rfl rfl (x_load1 rfl rfl rfl (by kernel_rfl) rfl) ?_
  refine AL_gb rfl rfl (x_gtr rfl rfl rfl) (fun b21 h21 => ?_)
  refine AL_g rfl rfl (x_pickT rfl rfl rfl) ?_
  refine AL_p (x_pickF rfl rfl rfl) ?_
  refine AL_p (x_assign rfl rfl) ?_
  refine AL_nil ?_
  refine AW_ret ?_
  cases b21
  rotate_left
  · try simp only [tdy] at h21
    exact ⟨rn [], ⟨⟨⟨_, rfl, vle_bool (by (symm; unfold aheadB; first | (rw [decide_eq_true_eq]; omega) | (rw [decide_eq_false_iff_not]; omega)))⟩, trivial⟩, trivial, trivial, rfl⟩⟩
  try simp only [tdy] at h21
  exact ⟨rn [], ⟨⟨⟨_, rfl, vle_bool (by (symm; unfold aheadB; first | (rw [decide_eq_true_eq]; omega) | (rw [decide_eq_false_iff_not]; omega)))⟩, trivial⟩, trivial, trivial, rfl⟩⟩

set_option maxHeartbeats 4000000 in
theorem intsI_c (a b : List Int) : AC Try.prog 143 [.one (.sl (intE .i64) a), .one (.sl (intE .i64) b)] [] (.one (.c (.bool (decide (a = b))))) [] := by
  refine AC_body1 Try.func143 rfl rfl Try.ntmps143 rfl Try.results143 ?_
  refine AW_slmax 0 rfl (fun hm0 => ?_)
  refine AW_slmax 1 rfl (fun hm1 => ?_)
  refine AW_seq ?_
  refine AW_region ?_
  refine AL_p (x_assign rfl rfl) ?_
  refine AL_nil ?_
  refine AW_seq ?_
  refine AW_seq ?_
  refine AW_region ?_
  refine AL_p (x_move rfl rfl) ?_
  refine AL_p (x_len (E := 3) (n := 1) rfl rfl (by kernel_rfl)) ?_
  refine AL_p (x_move rfl rfl) ?_
  refine AL_p (x_len (E := 3) (n := 1) rfl rfl (by kernel_rfl)) ?_
  refine AL_b (x_neq rfl rfl rfl) (fun b10 h10 => ?_)
  refine AL_nil ?_
  cases b10
  rotate_left
  · try simp only [tdy] at h10
    refine AW_condT rfl ?_
    refine AW_seq ?_
    refine AW_region ?_
    refine AL_p (x_assign rfl rfl) ?_
    refine AL_nil ?_
    refine AW_ret ?_
    exact ⟨rn [], ⟨⟨⟨_, rfl, vle_bool (by first | exact (ints_len (by omega)).symm | exact (ints_bad (k := k) (by omega) (by omega) (by omega)).symm | exact (ints_good hA (by omega) (by omega)).symm)⟩, trivial⟩, trivial, trivial, rfl⟩⟩
  try simp only [tdy] at h10
  refine AW_condF rfl ?_
  refine AW_skip ?_
  refine AW_seq ?_
  refine AW_seq ?_
  refine AW_region ?_
  refine AL_p (x_move rfl rfl) ?_
  refine AL_p (x_len (E := 3) (n := 1) rfl rfl (by kernel_rfl)) ?_
  refine AL_p (x_move rfl rfl) ?_
  refine AL_nil ?_
  refine AW_block ?_
  refine AW_loop2 (ι := {q : Nat // q ≤ a.length ∧ AllAt (n := a.length) (fun q h => if h' : q < b.length then decide (a[q] = b[q]) else false) q}) (fun p => [(13, .one (.c (.int .i64 ((p.1) : Int))))]) (fun p => []) [0, 1, 12] [] (fun p => a.length - (p.1)) ⟨0, ⟨by omega, .zero⟩⟩ (rn []) ?_ ?_
  exact ⟨by (repeat refine ⟨⟨_, rfl, by first | exact VLe.rf | exact vle_int (by dsimp only; omega)⟩, ?_⟩); exact trivial, by (repeat refine ⟨⟨_, rfl, by first | exact BLe.rf | exact BLe.box AllC.rf | exact BLe.arr (by exact rfl)⟩, ?_⟩); exact trivial, by repeat (first | exact trivial | refine ⟨⟨rfl, by first | (left; intro h; cases h) | (right; rfl), by first | exact (fun _ h => ⟨_, h⟩) | exact (fun _ _ => ⟨_, rfl⟩)⟩, ?_⟩), rfl⟩
  rintro ⟨k, hinv⟩
  dsimp only
  obtain ⟨hk, hA⟩ := hinv
  have hk : k ≤ a.length := hk
  refine AW_seq ?_
  refine AW_region ?_
  refine AL_b (x_lss rfl rfl rfl) (fun b14 h14 => ?_)
  refine AL_nil ?_
  refine AW_seq ?_
  cases b14
  · try simp only [tdy] at h14
    refine AW_condF rfl ?_
    refine AW_exit (BQ_hit ?_)
    refine AW_seq ?_
    refine AW_region ?_
    refine AL_p (x_assign rfl rfl) ?_
    refine AL_nil ?_
    refine AW_ret ?_
    exact ⟨rn [], ⟨⟨⟨_, rfl, vle_bool (by first | exact (ints_len (by omega)).symm | exact (ints_bad (k := k) (by omega) (by omega) (by omega)).symm | exact (ints_good hA (by omega) (by omega)).symm)⟩, trivial⟩, trivial, trivial, rfl⟩⟩
  try simp only [tdy] at h14
  refine AW_condT rfl ?_
  refine AW_skip ?_
  refine AW_seq ?_
  refine AW_block ?_
  refine AW_seq ?_
  refine AW_region ?_
  refine AL_p (x_move rfl rfl) ?_
  refine AL_p (x_assign rfl rfl) ?_
  refine AL_nil ?_
  refine AW_seq ?_
  refine AW_draw rfl ?_
  refine AL_p (x_move rfl rfl) ?_
  refine AL_p (x_move rfl rfl) ?_
  refine AL_p (x_index (E := 3) (n := 1) rfl rfl rfl (by kernel_rfl) rfl (k := k) (by omega) (by omega)) ?_
  refine AL_p (x_eload1 rfl rfl (by kernel_rfl) rfl) ?_
  refine AL_p (x_move rfl rfl) ?_
  refine AL_p (x_move rfl rfl) ?_
  refine AL_p (x_index (E := 3) (n := 1) rfl rfl rfl (by kernel_rfl) rfl (k := k) (by omega) (by omega)) ?_
  refine AL_p (x_eload1 rfl rfl (by kernel_rfl) rfl) ?_
  refine AL_b (x_neq rfl rfl rfl) (fun b24 h24 => ?_)
  refine AL_nild (by kernel_rfl) ?_
  cases b24
  rotate_left
  · try simp only [tdy] at h24
    refine AW_condT rfl ?_
    refine AW_seq ?_
    refine AW_region ?_
    refine AL_p (x_assign rfl rfl) ?_
    refine AL_nil ?_
    refine AW_ret (BQ_ret (BQ_ret ?_))
    exact ⟨rn [], ⟨⟨⟨_, rfl, vle_bool (by first | exact (ints_len (by omega)).symm | exact (ints_bad (k := k) (by omega) (by omega) (by omega)).symm | exact (ints_good hA (by omega) (by omega)).symm)⟩, trivial⟩, trivial, trivial, rfl⟩⟩
  try simp only [tdy] at h24
  refine AW_condF rfl ?_
  refine AW_skip ?_
  refine AW_region ?_
  refine AL_p (x_add rfl rfl rfl (IntWalk.i64_in _ (by omega))) ?_
  refine AL_p (x_move rfl rfl) ?_
  refine AL_nil ?_
  refine ⟨⟨k + 1, ⟨by omega, hA.succ (by omega) (by rw [dif_pos (by omega), decide_eq_true_eq]; omega)⟩⟩, rn [], ?_, by dsimp only; omega⟩
  exact ⟨by (repeat refine ⟨⟨_, rfl, by first | exact VLe.rf | exact vle_int (by dsimp only; omega)⟩, ?_⟩); exact trivial, by (repeat refine ⟨⟨_, rfl, by first | exact BLe.rf | exact BLe.box AllC.rf | exact BLe.arr (by exact rfl)⟩, ?_⟩); exact trivial, by repeat (first | exact trivial | refine ⟨⟨rfl, by first | (left; intro h; cases h) | (right; rfl), by first | exact (fun _ h => ⟨_, h⟩) | exact (fun _ _ => ⟨_, rfl⟩)⟩, ?_⟩), rfl⟩

set_option maxHeartbeats 4000000 in
theorem intsS_c (a b : List Int) : AC Try.prog 141 [.one (.sl (intE .i64) a), .one (.sl (intE .i64) b)] [] (.one (.c (.bool (decide (a = b))))) [] := by
  refine AC_body1 Try.func141 rfl rfl Try.ntmps141 rfl Try.results141 ?_
  refine AW_slmax 0 rfl (fun hm0 => ?_)
  refine AW_slmax 1 rfl (fun hm1 => ?_)
  refine AW_seq ?_
  refine AW_region ?_
  refine AL_p (x_assign rfl rfl) ?_
  refine AL_nil ?_
  refine AW_seq ?_
  refine AW_seq ?_
  refine AW_region ?_
  refine AL_p (x_move rfl rfl) ?_
  refine AL_p (x_len (E := 3) (n := 1) rfl rfl (by kernel_rfl)) ?_
  refine AL_p (x_move rfl rfl) ?_
  refine AL_p (x_len (E := 3) (n := 1) rfl rfl (by kernel_rfl)) ?_
  refine AL_b (x_neq rfl rfl rfl) (fun b10 h10 => ?_)
  refine AL_nil ?_
  cases b10
  rotate_left
  · try simp only [tdy] at h10
    refine AW_condT rfl ?_
    refine AW_seq ?_
    refine AW_region ?_
    refine AL_p (x_assign rfl rfl) ?_
    refine AL_nil ?_
    refine AW_ret ?_
    exact ⟨rn [], ⟨⟨⟨_, rfl, vle_bool (by first | exact (ints_len (by omega)).symm | exact (ints_bad (k := k) (by omega) (by omega) (by omega)).symm | exact (ints_good hA (by omega) (by omega)).symm)⟩, trivial⟩, trivial, trivial, rfl⟩⟩
  try simp only [tdy] at h10
  refine AW_condF rfl ?_
  refine AW_skip ?_
  refine AW_seq ?_
  refine AW_seq ?_
  refine AW_region ?_
  refine AL_p (x_move rfl rfl) ?_
  refine AL_p (x_len (E := 3) (n := 1) rfl rfl (by kernel_rfl)) ?_
  refine AL_p (x_move rfl rfl) ?_
  refine AL_nil ?_
  refine AW_block ?_
  refine AW_loop2 (ι := {q : Nat // q ≤ a.length ∧ AllAt (n := a.length) (fun q h => if h' : q < b.length then decide (a[q] = b[q]) else false) q}) (fun p => [(13, .one (.c (.int .i64 ((p.1) : Int))))]) (fun p => []) [0, 1, 12] [] (fun p => a.length - (p.1)) ⟨0, ⟨by omega, .zero⟩⟩ (rn []) ?_ ?_
  exact ⟨by (repeat refine ⟨⟨_, rfl, by first | exact VLe.rf | exact vle_int (by dsimp only; omega)⟩, ?_⟩); exact trivial, by (repeat refine ⟨⟨_, rfl, by first | exact BLe.rf | exact BLe.box AllC.rf | exact BLe.arr (by exact rfl)⟩, ?_⟩); exact trivial, by repeat (first | exact trivial | refine ⟨⟨rfl, by first | (left; intro h; cases h) | (right; rfl), by first | exact (fun _ h => ⟨_, h⟩) | exact (fun _ _ => ⟨_, rfl⟩)⟩, ?_⟩), rfl⟩
  rintro ⟨k, hinv⟩
  dsimp only
  obtain ⟨hk, hA⟩ := hinv
  have hk : k ≤ a.length := hk
  refine AW_seq ?_
  refine AW_region ?_
  refine AL_b (x_lss rfl rfl rfl) (fun b14 h14 => ?_)
  refine AL_nil ?_
  refine AW_seq ?_
  cases b14
  · try simp only [tdy] at h14
    refine AW_condF rfl ?_
    refine AW_exit (BQ_hit ?_)
    refine AW_seq ?_
    refine AW_region ?_
    refine AL_p (x_assign rfl rfl) ?_
    refine AL_nil ?_
    refine AW_ret ?_
    exact ⟨rn [], ⟨⟨⟨_, rfl, vle_bool (by first | exact (ints_len (by omega)).symm | exact (ints_bad (k := k) (by omega) (by omega) (by omega)).symm | exact (ints_good hA (by omega) (by omega)).symm)⟩, trivial⟩, trivial, trivial, rfl⟩⟩
  try simp only [tdy] at h14
  refine AW_condT rfl ?_
  refine AW_skip ?_
  refine AW_seq ?_
  refine AW_block ?_
  refine AW_seq ?_
  refine AW_region ?_
  refine AL_p (x_move rfl rfl) ?_
  refine AL_p (x_assign rfl rfl) ?_
  refine AL_nil ?_
  refine AW_seq ?_
  refine AW_draw rfl ?_
  refine AL_p (x_move rfl rfl) ?_
  refine AL_p (x_move rfl rfl) ?_
  refine AL_p (x_index (E := 3) (n := 1) rfl rfl rfl (by kernel_rfl) rfl (k := k) (by omega) (by omega)) ?_
  refine AL_p (x_eload1 rfl rfl (by kernel_rfl) rfl) ?_
  refine AL_p (x_move rfl rfl) ?_
  refine AL_p (x_move rfl rfl) ?_
  refine AL_p (x_index (E := 3) (n := 1) rfl rfl rfl (by kernel_rfl) rfl (k := k) (by omega) (by omega)) ?_
  refine AL_p (x_eload1 rfl rfl (by kernel_rfl) rfl) ?_
  refine AL_b (x_neq rfl rfl rfl) (fun b24 h24 => ?_)
  refine AL_nild (by kernel_rfl) ?_
  cases b24
  rotate_left
  · try simp only [tdy] at h24
    refine AW_condT rfl ?_
    refine AW_seq ?_
    refine AW_region ?_
    refine AL_p (x_assign rfl rfl) ?_
    refine AL_nil ?_
    refine AW_ret (BQ_ret (BQ_ret ?_))
    exact ⟨rn [], ⟨⟨⟨_, rfl, vle_bool (by first | exact (ints_len (by omega)).symm | exact (ints_bad (k := k) (by omega) (by omega) (by omega)).symm | exact (ints_good hA (by omega) (by omega)).symm)⟩, trivial⟩, trivial, trivial, rfl⟩⟩
  try simp only [tdy] at h24
  refine AW_condF rfl ?_
  refine AW_skip ?_
  refine AW_region ?_
  refine AL_p (x_add rfl rfl rfl (IntWalk.i64_in _ (by omega))) ?_
  refine AL_p (x_move rfl rfl) ?_
  refine AL_nil ?_
  refine ⟨⟨k + 1, ⟨by omega, hA.succ (by omega) (by rw [dif_pos (by omega), decide_eq_true_eq]; omega)⟩⟩, rn [], ?_, by dsimp only; omega⟩
  exact ⟨by (repeat refine ⟨⟨_, rfl, by first | exact VLe.rf | exact vle_int (by dsimp only; omega)⟩, ?_⟩); exact trivial, by (repeat refine ⟨⟨_, rfl, by first | exact BLe.rf | exact BLe.box AllC.rf | exact BLe.arr (by exact rfl)⟩, ?_⟩); exact trivial, by repeat (first | exact trivial | refine ⟨⟨rfl, by first | (left; intro h; cases h) | (right; rfl), by first | exact (fun _ h => ⟨_, h⟩) | exact (fun _ _ => ⟨_, rfl⟩)⟩, ?_⟩), rfl⟩

set_option maxHeartbeats 4000000 in
theorem sameMatchI_c (a b : Matcht) : AC Try.prog 113 [.agg (matchC a), .agg (matchC b)] [] (.one (.c (.bool (sameMatchB a b)))) [] := by
  refine AC_body1 Try.func113 rfl rfl Try.ntmps113 rfl Try.results113 ?_
  refine AW_seq ?_
  refine AW_region ?_
  refine AL_p (x_box 100 rfl rfl rfl rfl rfl rfl rfl) ?_
  refine AL_p (x_box 101 rfl rfl rfl rfl rfl rfl rfl) ?_
  refine AL_p (x_assign rfl rfl) ?_
  refine AL_nil ?_
  refine AW_seq ?_
  refine AW_region ?_
  refine AL_p (x_loadN (n := 2) rfl rfl rfl (by kernel_rfl) rfl rfl) ?_
  refine AL_b (x_call0 rfl rfl rfl (matchI_c a) rfl rfl) (fun b6 h6 => ?_)
  refine AL_p (x_move rfl rfl) ?_
  cases b6
  · try simp only [tdy] at h6
    refine AL_o rfl rfl rfl rfl ?_
    refine AL_o rfl rfl rfl rfl ?_
    refine AL_p (x_pickF rfl rfl rfl) ?_
    refine AL_p (x_move rfl rfl) ?_
    refine AL_o rfl rfl rfl rfl ?_
    refine AL_o rfl rfl rfl rfl ?_
    refine AL_o rfl rfl rfl rfl ?_
    refine AL_o rfl rfl rfl rfl ?_
    refine AL_o rfl rfl rfl rfl ?_
    refine AL_p (x_pickF rfl rfl rfl) ?_
    refine AL_p (x_move rfl rfl) ?_
    refine AL_o rfl rfl rfl rfl ?_
    refine AL_o rfl rfl rfl rfl ?_
    refine AL_o rfl rfl rfl rfl ?_
    refine AL_o rfl rfl rfl rfl ?_
    refine AL_o rfl rfl rfl rfl ?_
    refine AL_p (x_pickF rfl rfl rfl) ?_
    refine AL_p (x_assign rfl rfl) ?_
    refine AL_nil ?_
    refine AW_ret ?_
    exact ⟨rn [], ⟨⟨⟨_, rfl, vle_bool (by grind [sameMatchB])⟩, trivial⟩, trivial, trivial, rfl⟩⟩
  try simp only [tdy] at h6
  refine AL_g rfl rfl (x_loadN (n := 2) rfl rfl rfl (by kernel_rfl) rfl rfl) ?_
  refine AL_gb rfl rfl (x_call0 rfl rfl rfl (matchI_c b) rfl rfl) (fun b9 h9 => ?_)
  refine AL_p (x_pickT rfl rfl rfl) ?_
  refine AL_p (x_move rfl rfl) ?_
  cases b9
  · try simp only [tdy] at h9
    refine AL_o rfl rfl rfl rfl ?_
    refine AL_o rfl rfl rfl rfl ?_
    refine AL_o rfl rfl rfl rfl ?_
    refine AL_o rfl rfl rfl rfl ?_
    refine AL_o rfl rfl rfl rfl ?_
    refine AL_p (x_pickF rfl rfl rfl) ?_
    refine AL_p (x_move rfl rfl) ?_
    refine AL_o rfl rfl rfl rfl ?_
    refine AL_o rfl rfl rfl rfl ?_
    refine AL_o rfl rfl rfl rfl ?_
    refine AL_o rfl rfl rfl rfl ?_
    refine AL_o rfl rfl rfl rfl ?_
    refine AL_p (x_pickF rfl rfl rfl) ?_
    refine AL_p (x_assign rfl rfl) ?_
    refine AL_nil ?_
    refine AW_ret ?_
    exact ⟨rn [], ⟨⟨⟨_, rfl, vle_bool (by grind [sameMatchB])⟩, trivial⟩, trivial, trivial, rfl⟩⟩
  try simp only [tdy] at h9
  refine AL_g rfl rfl (x_field (off := 0) (o' := 0) rfl rfl rfl (by kernel_rfl) rfl) ?_
  refine AL_g rfl rfl (x_load1 rfl rfl rfl (by kernel_rfl) rfl) ?_
  refine AL_g rfl rfl (x_field (off := 0) (o' := 0) rfl rfl rfl (by kernel_rfl) rfl) ?_
  refine AL_g rfl rfl (x_load1 rfl rfl rfl (by kernel_rfl) rfl) ?_
  refine AL_gb rfl rfl (x_call0 rfl rfl rfl (intsI_c a.v b.v) rfl rfl) (fun b16 h16 => ?_)
  refine AL_p (x_pickT rfl rfl rfl) ?_
  refine AL_p (x_move rfl rfl) ?_
  cases b16
  · try simp only [tdy] at h16
    refine AL_o rfl rfl rfl rfl ?_
    refine AL_o rfl rfl rfl rfl ?_
    refine AL_o rfl rfl rfl rfl ?_
    refine AL_o rfl rfl rfl rfl ?_
    refine AL_o rfl rfl rfl rfl ?_
    refine AL_p (x_pickF rfl rfl rfl) ?_
    refine AL_p (x_assign rfl rfl) ?_
    refine AL_nil ?_
    refine AW_ret ?_
    exact ⟨rn [], ⟨⟨⟨_, rfl, vle_bool (by grind [sameMatchB])⟩, trivial⟩, trivial, trivial, rfl⟩⟩
  try simp only [tdy] at h16
  refine AL_g rfl rfl (x_field (off := 1) (o' := 1) rfl rfl rfl (by kernel_rfl) rfl) ?_
  refine AL_g rfl rfl (x_load1 rfl rfl rfl (by kernel_rfl) rfl) ?_
  refine AL_g rfl rfl (x_field (off := 1) (o' := 1) rfl rfl rfl (by kernel_rfl) rfl) ?_
  refine AL_g rfl rfl (x_load1 rfl rfl rfl (by kernel_rfl) rfl) ?_
  refine AL_gb rfl rfl (x_call0 rfl rfl rfl (intsI_c a.m b.m) rfl rfl) (fun b23 h23 => ?_)
  refine AL_p (x_pickT rfl rfl rfl) ?_
  refine AL_p (x_assign rfl rfl) ?_
  refine AL_nil ?_
  refine AW_ret ?_
  cases b23
  rotate_left
  · try simp only [tdy] at h23
    exact ⟨rn [], ⟨⟨⟨_, rfl, vle_bool (by grind [sameMatchB])⟩, trivial⟩, trivial, trivial, rfl⟩⟩
  try simp only [tdy] at h23
  exact ⟨rn [], ⟨⟨⟨_, rfl, vle_bool (by grind [sameMatchB])⟩, trivial⟩, trivial, trivial, rfl⟩⟩

set_option maxHeartbeats 4000000 in
theorem sameMatchS_c (a b : Matcht) : AC Try.prog 108 [.agg (matchC a), .agg (matchC b)] [] (.one (.c (.bool (sameMatchB a b)))) [] := by
  refine AC_body1 Try.func108 rfl rfl Try.ntmps108 rfl Try.results108 ?_
  refine AW_seq ?_
  refine AW_region ?_
  refine AL_p (x_box 100 rfl rfl rfl rfl rfl rfl rfl) ?_
  refine AL_p (x_box 101 rfl rfl rfl rfl rfl rfl rfl) ?_
  refine AL_p (x_assign rfl rfl) ?_
  refine AL_nil ?_
  refine AW_seq ?_
  refine AW_region ?_
  refine AL_p (x_loadN (n := 2) rfl rfl rfl (by kernel_rfl) rfl rfl) ?_
  refine AL_b (x_call0 rfl rfl rfl (matchS_c a) rfl rfl) (fun b6 h6 => ?_)
  refine AL_p (x_move rfl rfl) ?_
  cases b6
  · try simp only [tdy] at h6
    refine AL_o rfl rfl rfl rfl ?_
    refine AL_o rfl rfl rfl rfl ?_
    refine AL_p (x_pickF rfl rfl rfl) ?_
    refine AL_p (x_move rfl rfl) ?_
    refine AL_o rfl rfl rfl rfl ?_
    refine AL_o rfl rfl rfl rfl ?_
    refine AL_o rfl rfl rfl rfl ?_
    refine AL_o rfl rfl rfl rfl ?_
    refine AL_o rfl rfl rfl rfl ?_
    refine AL_p (x_pickF rfl rfl rfl) ?_
    refine AL_p (x_move rfl rfl) ?_
    refine AL_o rfl rfl rfl rfl ?_
    refine AL_o rfl rfl rfl rfl ?_
    refine AL_o rfl rfl rfl rfl ?_
    refine AL_o rfl rfl rfl rfl ?_
    refine AL_o rfl rfl rfl rfl ?_
    refine AL_p (x_pickF rfl rfl rfl) ?_
    refine AL_p (x_assign rfl rfl) ?_
    refine AL_nil ?_
    refine AW_ret ?_
    exact ⟨rn [], ⟨⟨⟨_, rfl, vle_bool (by grind [sameMatchB])⟩, trivial⟩, trivial, trivial, rfl⟩⟩
  try simp only [tdy] at h6
  refine AL_g rfl rfl (x_loadN (n := 2) rfl rfl rfl (by kernel_rfl) rfl rfl) ?_
  refine AL_gb rfl rfl (x_call0 rfl rfl rfl (matchS_c b) rfl rfl) (fun b9 h9 => ?_)
  refine AL_p (x_pickT rfl rfl rfl) ?_
  refine AL_p (x_move rfl rfl) ?_
  cases b9
  · try simp only [tdy] at h9
    refine AL_o rfl rfl rfl rfl ?_
    refine AL_o rfl rfl rfl rfl ?_
    refine AL_o rfl rfl rfl rfl ?_
    refine AL_o rfl rfl rfl rfl ?_
    refine AL_o rfl rfl rfl rfl ?_
    refine AL_p (x_pickF rfl rfl rfl) ?_
    refine AL_p (x_move rfl rfl) ?_
    refine AL_o rfl rfl rfl rfl ?_
    refine AL_o rfl rfl rfl rfl ?_
    refine AL_o rfl rfl rfl rfl ?_
    refine AL_o rfl rfl rfl rfl ?_
    refine AL_o rfl rfl rfl rfl ?_
    refine AL_p (x_pickF rfl rfl rfl) ?_
    refine AL_p (x_assign rfl rfl) ?_
    refine AL_nil ?_
    refine AW_ret ?_
    exact ⟨rn [], ⟨⟨⟨_, rfl, vle_bool (by grind [sameMatchB])⟩, trivial⟩, trivial, trivial, rfl⟩⟩
  try simp only [tdy] at h9
  refine AL_g rfl rfl (x_field (off := 0) (o' := 0) rfl rfl rfl (by kernel_rfl) rfl) ?_
  refine AL_g rfl rfl (x_load1 rfl rfl rfl (by kernel_rfl) rfl) ?_
  refine AL_g rfl rfl (x_field (off := 0) (o' := 0) rfl rfl rfl (by kernel_rfl) rfl) ?_
  refine AL_g rfl rfl (x_load1 rfl rfl rfl (by kernel_rfl) rfl) ?_
  refine AL_gb rfl rfl (x_call0 rfl rfl rfl (intsS_c a.v b.v) rfl rfl) (fun b16 h16 => ?_)
  refine AL_p (x_pickT rfl rfl rfl) ?_
  refine AL_p (x_move rfl rfl) ?_
  cases b16
  · try simp only [tdy] at h16
    refine AL_o rfl rfl rfl rfl ?_
    refine AL_o rfl rfl rfl rfl ?_
    refine AL_o rfl rfl rfl rfl ?_
    refine AL_o rfl rfl rfl rfl ?_
    refine AL_o rfl rfl rfl rfl ?_
    refine AL_p (x_pickF rfl rfl rfl) ?_
    refine AL_p (x_assign rfl rfl) ?_
    refine AL_nil ?_
    refine AW_ret ?_
    exact ⟨rn [], ⟨⟨⟨_, rfl, vle_bool (by grind [sameMatchB])⟩, trivial⟩, trivial, trivial, rfl⟩⟩
  try simp only [tdy] at h16
  refine AL_g rfl rfl (x_field (off := 1) (o' := 1) rfl rfl rfl (by kernel_rfl) rfl) ?_
  refine AL_g rfl rfl (x_load1 rfl rfl rfl (by kernel_rfl) rfl) ?_
  refine AL_g rfl rfl (x_field (off := 1) (o' := 1) rfl rfl rfl (by kernel_rfl) rfl) ?_
  refine AL_g rfl rfl (x_load1 rfl rfl rfl (by kernel_rfl) rfl) ?_
  refine AL_gb rfl rfl (x_call0 rfl rfl rfl (intsS_c a.m b.m) rfl rfl) (fun b23 h23 => ?_)
  refine AL_p (x_pickT rfl rfl rfl) ?_
  refine AL_p (x_assign rfl rfl) ?_
  refine AL_nil ?_
  refine AW_ret ?_
  cases b23
  rotate_left
  · try simp only [tdy] at h23
    exact ⟨rn [], ⟨⟨⟨_, rfl, vle_bool (by grind [sameMatchB])⟩, trivial⟩, trivial, trivial, rfl⟩⟩
  try simp only [tdy] at h23
  exact ⟨rn [], ⟨⟨⟨_, rfl, vle_bool (by grind [sameMatchB])⟩, trivial⟩, trivial, trivial, rfl⟩⟩

set_option maxHeartbeats 4000000 in
theorem sameKeyI_c (a b : Entryt) : AC Try.prog 98 [.agg (entryC a), .agg (entryC b)] [] (.one (.c (.bool (sameKeyB a b)))) [] := by
  refine AC_body1 Try.func98 rfl rfl Try.ntmps98 rfl Try.results98 ?_
  refine AW_seq ?_
  refine AW_region ?_
  refine AL_p (x_box 100 rfl rfl rfl rfl rfl rfl rfl) ?_
  refine AL_p (x_box 101 rfl rfl rfl rfl rfl rfl rfl) ?_
  refine AL_p (x_assign rfl rfl) ?_
  refine AL_nil ?_
  refine AW_seq ?_
  refine AW_region ?_
  refine AL_p (x_field (off := 0) (o' := 0) rfl rfl rfl (by kernel_rfl) rfl) ?_
  refine AL_p (x_load1 rfl rfl rfl (by kernel_rfl) rfl) ?_
  refine AL_p (x_field (off := 0) (o' := 0) rfl rfl rfl (by kernel_rfl) rfl) ?_
  refine AL_p (x_load1 rfl rfl rfl (by kernel_rfl) rfl) ?_
  refine AL_b (x_eql rfl rfl rfl) (fun b9 h9 => ?_)
  refine AL_p (x_move rfl rfl) ?_
  cases b9
  · try simp only [tdy] at h9
    refine AL_o rfl rfl rfl rfl ?_
    refine AL_o rfl rfl rfl rfl ?_
    refine AL_o rfl rfl rfl rfl ?_
    refine AL_o rfl rfl rfl rfl ?_
    refine AL_o rfl rfl rfl rfl ?_
    refine AL_p (x_pickF rfl rfl rfl) ?_
    refine AL_p (x_move rfl rfl) ?_
    refine AL_o rfl rfl rfl rfl ?_
    refine AL_o rfl rfl rfl rfl ?_
    refine AL_o rfl rfl rfl rfl ?_
    refine AL_o rfl rfl rfl rfl ?_
    refine AL_o rfl rfl rfl rfl ?_
    refine AL_p (x_pickF rfl rfl rfl) ?_
    refine AL_p (x_assign rfl rfl) ?_
    refine AL_nil ?_
    refine AW_ret ?_
    exact ⟨rn [], ⟨⟨⟨_, rfl, vle_bool (by grind [sameKeyB])⟩, trivial⟩, trivial, trivial, rfl⟩⟩
  try simp only [tdy] at h9
  refine AL_g rfl rfl (x_field (off := 1) (o' := 1) rfl rfl rfl (by kernel_rfl) rfl) ?_
  refine AL_g rfl rfl (x_load1 rfl rfl rfl (by kernel_rfl) rfl) ?_
  refine AL_g rfl rfl (x_field (off := 1) (o' := 1) rfl rfl rfl (by kernel_rfl) rfl) ?_
  refine AL_g rfl rfl (x_load1 rfl rfl rfl (by kernel_rfl) rfl) ?_
  refine AL_gb rfl rfl (x_eql rfl rfl rfl) (fun b15 h15 => ?_)
  refine AL_p (x_pickT rfl rfl rfl) ?_
  refine AL_p (x_move rfl rfl) ?_
  cases b15
  · try simp only [tdy] at h15
    refine AL_o rfl rfl rfl rfl ?_
    refine AL_o rfl rfl rfl rfl ?_
    refine AL_o rfl rfl rfl rfl ?_
    refine AL_o rfl rfl rfl rfl ?_
    refine AL_o rfl rfl rfl rfl ?_
    refine AL_p (x_pickF rfl rfl rfl) ?_
    refine AL_p (x_assign rfl rfl) ?_
    refine AL_nil ?_
    refine AW_ret ?_
    exact ⟨rn [], ⟨⟨⟨_, rfl, vle_bool (by grind [sameKeyB])⟩, trivial⟩, trivial, trivial, rfl⟩⟩
  try simp only [tdy] at h15
  refine AL_g rfl rfl (x_field (off := 2) (o' := 2) rfl rfl rfl (by kernel_rfl) rfl) ?_
  refine AL_g rfl rfl (x_loadN (n := 2) rfl rfl rfl (by kernel_rfl) rfl rfl) ?_
  refine AL_g rfl rfl (x_field (off := 2) (o' := 2) rfl rfl rfl (by kernel_rfl) rfl) ?_
  refine AL_g rfl rfl (x_loadN (n := 2) rfl rfl rfl (by kernel_rfl) rfl rfl) ?_
  refine AL_gb rfl rfl (x_call0 rfl rfl rfl (sameMatchI_c a.mat b.mat) rfl rfl) (fun b22 h22 => ?_)
  refine AL_p (x_pickT rfl rfl rfl) ?_
  refine AL_p (x_assign rfl rfl) ?_
  refine AL_nil ?_
  refine AW_ret ?_
  cases b22
  rotate_left
  · try simp only [tdy] at h22
    exact ⟨rn [], ⟨⟨⟨_, rfl, vle_bool (by grind [sameKeyB])⟩, trivial⟩, trivial, trivial, rfl⟩⟩
  try simp only [tdy] at h22
  exact ⟨rn [], ⟨⟨⟨_, rfl, vle_bool (by grind [sameKeyB])⟩, trivial⟩, trivial, trivial, rfl⟩⟩

set_option maxHeartbeats 4000000 in
theorem sameKeyS_c (a b : Entryt) : AC Try.prog 90 [.agg (entryC a), .agg (entryC b)] [] (.one (.c (.bool (sameKeyB a b)))) [] := by
  refine AC_body1 Try.func90 rfl rfl Try.ntmps90 rfl Try.results90 ?_
  refine AW_seq ?_
  refine AW_region ?_
  refine AL_p (x_box 100 rfl rfl rfl rfl rfl rfl rfl) ?_
  refine AL_p (x_box 101 rfl rfl rfl rfl rfl rfl rfl) ?_
  refine AL_p (x_assign rfl rfl) ?_
  refine AL_nil ?_
  refine AW_seq ?_
  refine AW_region ?_
  refine AL_p (x_field (off := 0) (o' := 0) rfl rfl rfl (by kernel_rfl) rfl) ?_
  refine AL_p (x_load1 rfl rfl rfl (by kernel_rfl) rfl) ?_
  refine AL_p (x_field (off := 0) (o' := 0) rfl rfl rfl (by kernel_rfl) rfl) ?_
  refine AL_p (x_load1 rfl rfl rfl (by kernel_rfl) rfl) ?_
  refine AL_b (x_eql rfl rfl rfl) (fun b9 h9 => ?_)
  refine AL_p (x_move rfl rfl) ?_
  cases b9
  · try simp only [tdy] at h9
    refine AL_o rfl rfl rfl rfl ?_
    refine AL_o rfl rfl rfl rfl ?_
    refine AL_o rfl rfl rfl rfl ?_
    refine AL_o rfl rfl rfl rfl ?_
    refine AL_o rfl rfl rfl rfl ?_
    refine AL_p (x_pickF rfl rfl rfl) ?_
    refine AL_p (x_move rfl rfl) ?_
    refine AL_o rfl rfl rfl rfl ?_
    refine AL_o rfl rfl rfl rfl ?_
    refine AL_o rfl rfl rfl rfl ?_
    refine AL_o rfl rfl rfl rfl ?_
    refine AL_o rfl rfl rfl rfl ?_
    refine AL_p (x_pickF rfl rfl rfl) ?_
    refine AL_p (x_assign rfl rfl) ?_
    refine AL_nil ?_
    refine AW_ret ?_
    exact ⟨rn [], ⟨⟨⟨_, rfl, vle_bool (by grind [sameKeyB])⟩, trivial⟩, trivial, trivial, rfl⟩⟩
  try simp only [tdy] at h9
  refine AL_g rfl rfl (x_field (off := 1) (o' := 1) rfl rfl rfl (by kernel_rfl) rfl) ?_
  refine AL_g rfl rfl (x_load1 rfl rfl rfl (by kernel_rfl) rfl) ?_
  refine AL_g rfl rfl (x_field (off := 1) (o' := 1) rfl rfl rfl (by kernel_rfl) rfl) ?_
  refine AL_g rfl rfl (x_load1 rfl rfl rfl (by kernel_rfl) rfl) ?_
  refine AL_gb rfl rfl (x_eql rfl rfl rfl) (fun b15 h15 => ?_)
  refine AL_p (x_pickT rfl rfl rfl) ?_
  refine AL_p (x_move rfl rfl) ?_
  cases b15
  · try simp only [tdy] at h15
    refine AL_o rfl rfl rfl rfl ?_
    refine AL_o rfl rfl rfl rfl ?_
    refine AL_o rfl rfl rfl rfl ?_
    refine AL_o rfl rfl rfl rfl ?_
    refine AL_o rfl rfl rfl rfl ?_
    refine AL_p (x_pickF rfl rfl rfl) ?_
    refine AL_p (x_assign rfl rfl) ?_
    refine AL_nil ?_
    refine AW_ret ?_
    exact ⟨rn [], ⟨⟨⟨_, rfl, vle_bool (by grind [sameKeyB])⟩, trivial⟩, trivial, trivial, rfl⟩⟩
  try simp only [tdy] at h15
  refine AL_g rfl rfl (x_field (off := 2) (o' := 2) rfl rfl rfl (by kernel_rfl) rfl) ?_
  refine AL_g rfl rfl (x_loadN (n := 2) rfl rfl rfl (by kernel_rfl) rfl rfl) ?_
  refine AL_g rfl rfl (x_field (off := 2) (o' := 2) rfl rfl rfl (by kernel_rfl) rfl) ?_
  refine AL_g rfl rfl (x_loadN (n := 2) rfl rfl rfl (by kernel_rfl) rfl rfl) ?_
  refine AL_gb rfl rfl (x_call0 rfl rfl rfl (sameMatchS_c a.mat b.mat) rfl rfl) (fun b22 h22 => ?_)
  refine AL_p (x_pickT rfl rfl rfl) ?_
  refine AL_p (x_assign rfl rfl) ?_
  refine AL_nil ?_
  refine AW_ret ?_
  cases b22
  rotate_left
  · try simp only [tdy] at h22
    exact ⟨rn [], ⟨⟨⟨_, rfl, vle_bool (by grind [sameKeyB])⟩, trivial⟩, trivial, trivial, rfl⟩⟩
  try simp only [tdy] at h22
  exact ⟨rn [], ⟨⟨⟨_, rfl, vle_bool (by grind [sameKeyB])⟩, trivial⟩, trivial, trivial, rfl⟩⟩

set_option maxHeartbeats 4000000 in
theorem tableOkI_c (t : Tablet) : AC Try.prog 53 [.agg (tableC t)] [] (.one (.c (.bool (tableB t)))) [] := by
  refine AC_body1 Try.func53 rfl rfl Try.ntmps53 rfl Try.results53 ?_
  refine AW_aggmax 0 1 rfl rfl (fun hm0_1 => ?_)
  refine AW_seq ?_
  refine AW_region ?_
  refine AL_p (x_box 100 rfl rfl rfl rfl rfl rfl rfl) ?_
  refine AL_p (x_assign rfl rfl) ?_
  refine AL_nil ?_
  refine AW_seq ?_
  refine AW_seq ?_
  refine AW_region ?_
  refine AL_p (x_field (off := 1) (o' := 1) rfl rfl rfl (by kernel_rfl) rfl) ?_
  refine AL_p (x_load1 rfl rfl rfl (by kernel_rfl) rfl) ?_
  refine AL_p (x_len (E := 74) (n := 6) rfl rfl (by kernel_rfl)) ?_
  refine AL_p (x_move rfl rfl) ?_
  refine AL_nil ?_
  refine AW_block ?_
  refine AW_loop2 (ι := {q : Nat // q ≤ t.entries.length ∧ AllAt (tableAt t.entries) q}) (fun p => [(9, .one (.c (.int .i64 ((p.1) : Int))))]) (fun p => []) [1, 7, 8] [100] (fun p => t.entries.length - (p.1)) ⟨0, ⟨by omega, .zero⟩⟩ (rn []) ?_ ?_
  exact ⟨by (repeat refine ⟨⟨_, rfl, by first | exact VLe.rf | exact vle_int (by dsimp only; omega)⟩, ?_⟩); exact trivial, by (repeat refine ⟨⟨_, rfl, by first | exact BLe.rf | exact BLe.box AllC.rf | exact BLe.arr (by exact rfl)⟩, ?_⟩); exact trivial, by repeat (first | exact trivial | refine ⟨⟨rfl, by first | (left; intro h; cases h) | (right; rfl), by first | exact (fun _ h => ⟨_, h⟩) | exact (fun _ _ => ⟨_, rfl⟩)⟩, ?_⟩), rfl⟩
  rintro ⟨k, hinv⟩
  dsimp only
  obtain ⟨hk, hA⟩ := hinv
  have hk : k ≤ t.entries.length := hk
  refine AW_seq ?_
  refine AW_region ?_
  refine AL_b (x_lss rfl rfl rfl) (fun b10 h10 => ?_)
  refine AL_nil ?_
  refine AW_seq ?_
  cases b10
  · try simp only [tdy] at h10
    refine AW_condF rfl ?_
    refine AW_exit (BQ_hit ?_)
    refine AW_seq ?_
    refine AW_region ?_
    refine AL_p (x_field (off := 0) (o' := 0) rfl rfl rfl (by kernel_rfl) rfl) ?_
    refine AL_p (x_load1 rfl rfl rfl (by kernel_rfl) rfl) ?_
    refine AL_b (x_call0 rfl rfl rfl (upToI_c t.cap 400) rfl rfl) (fun b69 h69 => ?_)
    refine AL_p (x_move rfl rfl) ?_
    cases b69
    · try simp only [tdy] at h69
      refine AL_o rfl rfl rfl rfl ?_
      refine AL_o rfl rfl rfl rfl ?_
      refine AL_o rfl rfl rfl rfl ?_
      refine AL_o rfl rfl rfl rfl ?_
      refine AL_o rfl rfl rfl rfl ?_
      refine AL_o rfl rfl rfl rfl ?_
      refine AL_p (x_pickF rfl rfl rfl) ?_
      refine AL_p (x_assign rfl rfl) ?_
      refine AL_nil ?_
      refine AW_ret ?_
      exact ⟨rn [], ⟨⟨⟨_, rfl, vle_bool (by first | exact (hbad).symm | ((symm; exact tableB_cap (by omega))) | ((symm; exact tableB_good hA (by omega) ⟨by omega, by omega, by omega⟩)) | exact (tableB_cap (by omega)).symm | (grind [upToB, tableB_cap, tableB_good]))⟩, trivial⟩, trivial, trivial, rfl⟩⟩
    try simp only [tdy] at h69
    refine AL_g rfl rfl (x_field (off := 1) (o' := 1) rfl rfl rfl (by kernel_rfl) rfl) ?_
    refine AL_g rfl rfl (x_load1 rfl rfl rfl (by kernel_rfl) rfl) ?_
    refine AL_g rfl rfl (x_len (E := 74) (n := 6) rfl rfl (by kernel_rfl)) ?_
    refine AL_g rfl rfl (x_field (off := 0) (o' := 0) rfl rfl rfl (by kernel_rfl) rfl) ?_
    refine AL_g rfl rfl (x_load1 rfl rfl rfl (by kernel_rfl) rfl) ?_
    refine AL_gb rfl rfl (x_leq rfl rfl rfl) (fun b76 h76 => ?_)
    refine AL_p (x_pickT rfl rfl rfl) ?_
    refine AL_p (x_assign rfl rfl) ?_
    refine AL_nil ?_
    refine AW_ret ?_
    cases b76
    rotate_left
    · try simp only [tdy] at h76
      exact ⟨rn [], ⟨⟨⟨_, rfl, vle_bool (by first | exact (hbad).symm | ((symm; exact tableB_cap (by omega))) | ((symm; exact tableB_good hA (by omega) ⟨by omega, by omega, by omega⟩)) | exact (tableB_cap (by omega)).symm | (grind [upToB, tableB_cap, tableB_good]))⟩, trivial⟩, trivial, trivial, rfl⟩⟩
    try simp only [tdy] at h76
    exact ⟨rn [], ⟨⟨⟨_, rfl, vle_bool (by first | exact (hbad).symm | ((symm; exact tableB_cap (by omega))) | ((symm; exact tableB_good hA (by omega) ⟨by omega, by omega, by omega⟩)) | exact (tableB_cap (by omega)).symm | (grind [upToB, tableB_cap, tableB_good]))⟩, trivial⟩, trivial, trivial, rfl⟩⟩
  try simp only [tdy] at h10
  refine AW_condT rfl ?_
  refine AW_skip ?_
  refine AW_seq ?_
  refine AW_block ?_
  refine AW_seq ?_
  refine AW_region ?_
  refine AL_p (x_move rfl rfl) ?_
  refine AL_p (x_index (E := 74) (n := 6) rfl rfl rfl (by kernel_rfl) rfl (k := k) (by omega) (by omega)) ?_
  refine AL_p (x_eloadW (n := 6) rfl rfl (by kernel_rfl) rfl) ?_
  refine AL_p (x_alloc (z := .agg #[.int .i64 0, .int .i64 0, .slice none 0 0, .slice none 0 0, .slice none 0 0, .int .i64 0]) 101 rfl (by kernel_rfl) rfl rfl rfl rfl) ?_
  refine AL_p (x_assign rfl rfl) ?_
  refine AL_p (x_store (n := 6) rfl rfl rfl rfl (by kernel_rfl) rfl rfl rfl) ?_
  refine AL_nil ?_
  refine AW_seq ?_
  refine AW_seq ?_
  refine AW_draw rfl ?_
  refine AL_p (x_loadN (n := 6) rfl rfl rfl (by kernel_rfl) rfl rfl) ?_
  refine AL_b (x_call0 rfl rfl rfl (entryI_c (t.entries[k]'(by omega)).epoch (t.entries[k]'(by omega)).prio (t.entries[k]'(by omega)).hits (t.entries[k]'(by omega)).mat (t.entries[k]'(by omega)).acts) rfl rfl) (fun b15 h15 => ?_)
  refine AL_p (x_not rfl rfl) ?_
  refine AL_p (x_move rfl rfl) ?_
  cases b15
  · try simp only [tdy] at h15
    have hbad := tableB_bad (t := t) (k := k) (by omega) (tableAt_ok (by omega) h15)
    refine AL_o rfl rfl rfl rfl ?_
    refine AL_o rfl rfl rfl rfl ?_
    refine AL_o rfl rfl rfl rfl ?_
    refine AL_u rfl rfl rfl ?_
    refine AL_u rfl rfl rfl ?_
    refine AL_u rfl rfl rfl ?_
    refine AL_u rfl rfl rfl ?_
    refine AL_u rfl rfl rfl ?_
    refine AL_u rfl rfl rfl ?_
    refine AL_u rfl rfl rfl ?_
    refine AL_u rfl rfl rfl ?_
    refine AL_o rfl rfl rfl rfl ?_
    refine AL_p (x_pickT rfl rfl rfl) ?_
    refine AL_nild (by kernel_rfl) ?_
    refine AW_condT rfl ?_
    refine AW_seq ?_
    refine AW_region ?_
    refine AL_p (x_assign rfl rfl) ?_
    refine AL_nil ?_
    refine AW_ret (BQ_ret (BQ_ret ?_))
    exact ⟨rn [], ⟨⟨⟨_, rfl, vle_bool (by first | exact (hbad).symm | ((symm; exact tableB_cap (by omega))) | ((symm; exact tableB_good hA (by omega) ⟨by omega, by omega, by omega⟩)) | exact (tableB_cap (by omega)).symm | (grind [upToB, tableB_cap, tableB_good]))⟩, trivial⟩, trivial, trivial, rfl⟩⟩
  try simp only [tdy] at h15
  have ho : entryOkB (t.entries[k]'(by omega)) = true := h15
  refine AL_g rfl rfl (x_move rfl rfl) ?_
  refine AL_gb rfl rfl (x_gtr rfl rfl rfl) (fun b19 h19 => ?_)
  refine AL_g rfl rfl (x_move rfl rfl) ?_
  cases b19
  · try simp only [tdy] at h19
    have hp : 0 < k → aheadB (t.entries[k]'(by omega)) (t.entries[k - 1]'(by omega)) = false := fun h0 => by exfalso; omega
    refine AL_o rfl rfl rfl rfl ?_
    refine AL_o rfl rfl rfl rfl ?_
    refine AL_o rfl rfl rfl rfl ?_
    refine AL_o rfl rfl rfl rfl ?_
    refine AL_o rfl rfl rfl rfl ?_
    refine AL_o rfl rfl rfl rfl ?_
    refine AL_o rfl rfl rfl rfl ?_
    refine AL_o rfl rfl rfl rfl ?_
    refine AL_g rfl rfl (x_pickF rfl rfl rfl) ?_
    refine AL_p (x_pickF rfl rfl rfl) ?_
    refine AL_nild (by kernel_rfl) ?_
    refine AW_condF rfl ?_
    refine AW_skip ?_
    refine AW_seq ?_
    refine AW_region ?_
    refine AL_p (x_move rfl rfl) ?_
    refine AL_p (x_sub rfl rfl rfl (IntWalk.i64_in _ (by omega))) ?_
    refine AL_p (x_assign rfl rfl) ?_
    refine AL_nil ?_
    refine AW_block ?_
    refine AW_loop2 (ι := {q : Nat // q ≤ k ∧ NoKey t.entries k q}) (fun p => [(5, .one (.c (.int .i64 (((p.1) : Int) - 1))))]) (fun p => []) [1, 4, 7, 8, 9] [100, 101] (fun p => (p.1)) ⟨k, ⟨by omega, .start⟩⟩ (rn []) ?_ ?_
    exact ⟨by (repeat refine ⟨⟨_, rfl, by first | exact VLe.rf | exact vle_int (by dsimp only; omega)⟩, ?_⟩); exact trivial, by (repeat refine ⟨⟨_, rfl, by first | exact BLe.rf | exact BLe.box AllC.rf | exact BLe.arr (by exact rfl)⟩, ?_⟩); exact trivial, by repeat (first | exact trivial | refine ⟨⟨rfl, by first | (left; intro h; cases h) | (right; rfl), by first | exact (fun _ h => ⟨_, h⟩) | exact (fun _ _ => ⟨_, rfl⟩)⟩, ?_⟩), rfl⟩
    rintro ⟨j, hinv⟩
    dsimp only
    obtain ⟨hj, hN⟩ := hinv
    have hj : j ≤ k := hj
    refine AW_seq ?_
    refine AW_seq ?_
    refine AW_draw rfl ?_
    refine AL_p (x_move rfl rfl) ?_
    refine AL_b (x_geq rfl rfl rfl) (fun b34 h34 => ?_)
    refine AL_p (x_move rfl rfl) ?_
    cases b34
    · try simp only [tdy] at h34
      have e0 : j = 0 := by omega
      have hz : NoKey t.entries k 0 := by rw [← e0]; exact hN
      refine AL_o rfl rfl rfl rfl ?_
      refine AL_o rfl rfl rfl rfl ?_
      refine AL_o rfl rfl rfl rfl ?_
      refine AL_o rfl rfl rfl rfl ?_
      refine AL_o rfl rfl rfl rfl ?_
      refine AL_o rfl rfl rfl rfl ?_
      refine AL_o rfl rfl rfl rfl ?_
      refine AL_o rfl rfl rfl rfl ?_
      refine AL_o rfl rfl rfl rfl ?_
      refine AL_p (x_pickF rfl rfl rfl) ?_
      refine AL_p (x_move rfl rfl) ?_
      refine AL_o rfl rfl rfl rfl ?_
      refine AL_o rfl rfl rfl rfl ?_
      refine AL_o rfl rfl rfl rfl ?_
      refine AL_o rfl rfl rfl rfl ?_
      refine AL_o rfl rfl rfl rfl ?_
      refine AL_o rfl rfl rfl rfl ?_
      refine AL_o rfl rfl rfl rfl ?_
      refine AL_o rfl rfl rfl rfl ?_
      refine AL_o rfl rfl rfl rfl ?_
      refine AL_p (x_pickF rfl rfl rfl) ?_
      refine AL_nild (by kernel_rfl) ?_
      refine AW_condF rfl ?_
      refine AW_exit (BQ_hit ?_)
      refine AW_region ?_
      refine AL_p (x_add rfl rfl rfl (IntWalk.i64_in _ (by omega))) ?_
      refine AL_p (x_move rfl rfl) ?_
      refine AL_nil ?_
      refine ⟨⟨k + 1, ⟨by omega, hA.succ (by omega) (tableAt_good (l := t.entries) (k := k) (by omega) ho hp hz)⟩⟩, rn [], ?_, by dsimp only; omega⟩
      exact ⟨by (repeat refine ⟨⟨_, rfl, by first | exact VLe.rf | exact vle_int (by dsimp only; omega)⟩, ?_⟩); exact trivial, by (repeat refine ⟨⟨_, rfl, by first | exact BLe.rf | exact BLe.box AllC.rf | exact BLe.arr (by exact rfl)⟩, ?_⟩); exact trivial, by repeat (first | exact trivial | refine ⟨⟨rfl, by first | (left; intro h; cases h) | (right; rfl), by first | exact (fun _ h => ⟨_, h⟩) | exact (fun _ _ => ⟨_, rfl⟩)⟩, ?_⟩), rfl⟩
    try simp only [tdy] at h34
    refine AL_g rfl rfl (x_field (off := 1) (o' := 1) rfl rfl rfl (by kernel_rfl) rfl) ?_
    refine AL_g rfl rfl (x_load1 rfl rfl rfl (by kernel_rfl) rfl) ?_
    refine AL_g rfl rfl (x_move rfl rfl) ?_
    refine AL_g rfl rfl (x_index (E := 74) (n := 6) rfl rfl rfl (by kernel_rfl) rfl (k := (j - 1)) (by omega) (by omega)) ?_
    refine AL_g rfl rfl (x_efield (off := 0) (o' := 0) rfl rfl (by kernel_rfl) rfl) ?_
    refine AL_g rfl rfl (x_eload1 rfl rfl (by kernel_rfl) rfl) ?_
    refine AL_g rfl rfl (x_field (off := 0) (o' := 0) rfl rfl rfl (by kernel_rfl) rfl) ?_
    refine AL_g rfl rfl (x_load1 rfl rfl rfl (by kernel_rfl) rfl) ?_
    refine AL_gb rfl rfl (x_eql rfl rfl rfl) (fun b44 h44 => ?_)
    refine AL_p (x_pickT rfl rfl rfl) ?_
    refine AL_p (x_move rfl rfl) ?_
    cases b44
    · try simp only [tdy] at h44
      have hz : NoKey t.entries k 0 := hN.stop (by omega) hA hp hj (by omega) (fun q => h44 q.1)
      refine AL_o rfl rfl rfl rfl ?_
      refine AL_o rfl rfl rfl rfl ?_
      refine AL_o rfl rfl rfl rfl ?_
      refine AL_o rfl rfl rfl rfl ?_
      refine AL_o rfl rfl rfl rfl ?_
      refine AL_o rfl rfl rfl rfl ?_
      refine AL_o rfl rfl rfl rfl ?_
      refine AL_o rfl rfl rfl rfl ?_
      refine AL_o rfl rfl rfl rfl ?_
      refine AL_p (x_pickF rfl rfl rfl) ?_
      refine AL_nild (by kernel_rfl) ?_
      refine AW_condF rfl ?_
      refine AW_exit (BQ_hit ?_)
      refine AW_region ?_
      refine AL_p (x_add rfl rfl rfl (IntWalk.i64_in _ (by omega))) ?_
      refine AL_p (x_move rfl rfl) ?_
      refine AL_nil ?_
      refine ⟨⟨k + 1, ⟨by omega, hA.succ (by omega) (tableAt_good (l := t.entries) (k := k) (by omega) ho hp hz)⟩⟩, rn [], ?_, by dsimp only; omega⟩
      exact ⟨by (repeat refine ⟨⟨_, rfl, by first | exact VLe.rf | exact vle_int (by dsimp only; omega)⟩, ?_⟩); exact trivial, by (repeat refine ⟨⟨_, rfl, by first | exact BLe.rf | exact BLe.box AllC.rf | exact BLe.arr (by exact rfl)⟩, ?_⟩); exact trivial, by repeat (first | exact trivial | refine ⟨⟨rfl, by first | (left; intro h; cases h) | (right; rfl), by first | exact (fun _ h => ⟨_, h⟩) | exact (fun _ _ => ⟨_, rfl⟩)⟩, ?_⟩), rfl⟩
    try simp only [tdy] at h44
    refine AL_g rfl rfl (x_field (off := 1) (o' := 1) rfl rfl rfl (by kernel_rfl) rfl) ?_
    refine AL_g rfl rfl (x_load1 rfl rfl rfl (by kernel_rfl) rfl) ?_
    refine AL_g rfl rfl (x_move rfl rfl) ?_
    refine AL_g rfl rfl (x_index (E := 74) (n := 6) rfl rfl rfl (by kernel_rfl) rfl (k := (j - 1)) (by omega) (by omega)) ?_
    refine AL_g rfl rfl (x_efield (off := 1) (o' := 1) rfl rfl (by kernel_rfl) rfl) ?_
    refine AL_g rfl rfl (x_eload1 rfl rfl (by kernel_rfl) rfl) ?_
    refine AL_g rfl rfl (x_field (off := 1) (o' := 1) rfl rfl rfl (by kernel_rfl) rfl) ?_
    refine AL_g rfl rfl (x_load1 rfl rfl rfl (by kernel_rfl) rfl) ?_
    refine AL_gb rfl rfl (x_eql rfl rfl rfl) (fun b55 h55 => ?_)
    refine AL_p (x_pickT rfl rfl rfl) ?_
    refine AL_nild (by kernel_rfl) ?_
    cases b55
    · try simp only [tdy] at h55
      have hz : NoKey t.entries k 0 := hN.stop (by omega) hA hp hj (by omega) (fun q => h55 q.2)
      refine AW_condF rfl ?_
      refine AW_exit (BQ_hit ?_)
      refine AW_region ?_
      refine AL_p (x_add rfl rfl rfl (IntWalk.i64_in _ (by omega))) ?_
      refine AL_p (x_move rfl rfl) ?_
      refine AL_nil ?_
      refine ⟨⟨k + 1, ⟨by omega, hA.succ (by omega) (tableAt_good (l := t.entries) (k := k) (by omega) ho hp hz)⟩⟩, rn [], ?_, by dsimp only; omega⟩
      exact ⟨by (repeat refine ⟨⟨_, rfl, by first | exact VLe.rf | exact vle_int (by dsimp only; omega)⟩, ?_⟩); exact trivial, by (repeat refine ⟨⟨_, rfl, by first | exact BLe.rf | exact BLe.box AllC.rf | exact BLe.arr (by exact rfl)⟩, ?_⟩); exact trivial, by repeat (first | exact trivial | refine ⟨⟨rfl, by first | (left; intro h; cases h) | (right; rfl), by first | exact (fun _ h => ⟨_, h⟩) | exact (fun _ _ => ⟨_, rfl⟩)⟩, ?_⟩), rfl⟩
    try simp only [tdy] at h55
    refine AW_condT rfl ?_
    refine AW_skip ?_
    refine AW_seq ?_
    refine AW_block ?_
    refine AW_seq ?_
    refine AW_draw rfl ?_
    refine AL_p (x_field (off := 1) (o' := 1) rfl rfl rfl (by kernel_rfl) rfl) ?_
    refine AL_p (x_load1 rfl rfl rfl (by kernel_rfl) rfl) ?_
    refine AL_p (x_move rfl rfl) ?_
    refine AL_p (x_index (E := 74) (n := 6) rfl rfl rfl (by kernel_rfl) rfl (k := (j - 1)) (by omega) (by omega)) ?_
    refine AL_p (x_eloadW (n := 6) rfl rfl (by kernel_rfl) rfl) ?_
    refine AL_p (x_loadN (n := 6) rfl rfl rfl (by kernel_rfl) rfl rfl) ?_
    refine AL_b (x_call0 rfl rfl rfl (sameKeyI_c (t.entries[j - 1]'(by omega)) (t.entries[k]'(by omega))) rfl rfl) (fun b65 h65 => ?_)
    refine AL_nild (by kernel_rfl) ?_
    cases b65
    rotate_left
    · try simp only [tdy] at h65
      have hbad := tableB_bad (t := t) (k := k) (by omega) (tableAt_key (j := j - 1) (by omega) (by omega) h65)
      refine AW_condT rfl ?_
      refine AW_seq ?_
      refine AW_region ?_
      refine AL_p (x_assign rfl rfl) ?_
      refine AL_nil ?_
      refine AW_ret (BQ_ret (BQ_ret (BQ_ret (BQ_ret ?_))))
      exact ⟨rn [], ⟨⟨⟨_, rfl, vle_bool (by first | exact (hbad).symm | ((symm; exact tableB_cap (by omega))) | ((symm; exact tableB_good hA (by omega) ⟨by omega, by omega, by omega⟩)) | exact (tableB_cap (by omega)).symm | (grind [upToB, tableB_cap, tableB_good]))⟩, trivial⟩, trivial, trivial, rfl⟩⟩
    try simp only [tdy] at h65
    have hN2 := hN.pred (by omega) (by omega) h65
    refine AW_condF rfl ?_
    refine AW_skip ?_
    refine AW_region ?_
    refine AL_p (x_move rfl rfl) ?_
    refine AL_p (x_sub rfl rfl rfl (IntWalk.i64_in _ (by omega))) ?_
    refine AL_p (x_assign rfl rfl) ?_
    refine AL_nil ?_
    refine ⟨⟨j - 1, ⟨by omega, hN2⟩⟩, rn [], ?_, by dsimp only; omega⟩
    exact ⟨by (repeat refine ⟨⟨_, rfl, by first | exact VLe.rf | exact vle_int (by dsimp only; omega)⟩, ?_⟩); exact trivial, by (repeat refine ⟨⟨_, rfl, by first | exact BLe.rf | exact BLe.box AllC.rf | exact BLe.arr (by exact rfl)⟩, ?_⟩); exact trivial, by repeat (first | exact trivial | refine ⟨⟨rfl, by first | (left; intro h; cases h) | (right; rfl), by first | exact (fun _ h => ⟨_, h⟩) | exact (fun _ _ => ⟨_, rfl⟩)⟩, ?_⟩), rfl⟩
  try simp only [tdy] at h19
  refine AL_g rfl rfl (x_loadN (n := 6) rfl rfl rfl (by kernel_rfl) rfl rfl) ?_
  refine AL_g rfl rfl (x_field (off := 1) (o' := 1) rfl rfl rfl (by kernel_rfl) rfl) ?_
  refine AL_g rfl rfl (x_load1 rfl rfl rfl (by kernel_rfl) rfl) ?_
  refine AL_g rfl rfl (x_move rfl rfl) ?_
  refine AL_g rfl rfl (x_sub rfl rfl rfl (IntWalk.i64_in _ (by omega))) ?_
  refine AL_g rfl rfl (x_index (E := 74) (n := 6) rfl rfl rfl (by kernel_rfl) rfl (k := (k - 1)) (by omega) (by omega)) ?_
  refine AL_g rfl rfl (x_eloadW (n := 6) rfl rfl (by kernel_rfl) rfl) ?_
  refine AL_gb rfl rfl (x_call0 rfl rfl rfl (beforeI_c (t.entries[k]'(by omega)) (t.entries[k - 1]'(by omega))) rfl rfl) (fun b28 h28 => ?_)
  refine AL_g rfl rfl (x_pickT rfl rfl rfl) ?_
  refine AL_p (x_pickF rfl rfl rfl) ?_
  refine AL_nild (by kernel_rfl) ?_
  cases b28
  rotate_left
  · try simp only [tdy] at h28
    have hbad := tableB_bad (t := t) (k := k) (by omega) (tableAt_ahead (by omega) (by omega) h28)
    refine AW_condT rfl ?_
    refine AW_seq ?_
    refine AW_region ?_
    refine AL_p (x_assign rfl rfl) ?_
    refine AL_nil ?_
    refine AW_ret (BQ_ret (BQ_ret ?_))
    exact ⟨rn [], ⟨⟨⟨_, rfl, vle_bool (by first | exact (hbad).symm | ((symm; exact tableB_cap (by omega))) | ((symm; exact tableB_good hA (by omega) ⟨by omega, by omega, by omega⟩)) | exact (tableB_cap (by omega)).symm | (grind [upToB, tableB_cap, tableB_good]))⟩, trivial⟩, trivial, trivial, rfl⟩⟩
  try simp only [tdy] at h28
  have hp : 0 < k → aheadB (t.entries[k]'(by omega)) (t.entries[k - 1]'(by omega)) = false := fun h0 => h28
  refine AW_condF rfl ?_
  refine AW_skip ?_
  refine AW_seq ?_
  refine AW_region ?_
  refine AL_p (x_move rfl rfl) ?_
  refine AL_p (x_sub rfl rfl rfl (IntWalk.i64_in _ (by omega))) ?_
  refine AL_p (x_assign rfl rfl) ?_
  refine AL_nil ?_
  refine AW_block ?_
  refine AW_loop2 (ι := {q : Nat // q ≤ k ∧ NoKey t.entries k q}) (fun p => [(5, .one (.c (.int .i64 (((p.1) : Int) - 1))))]) (fun p => []) [1, 4, 7, 8, 9] [100, 101] (fun p => (p.1)) ⟨k, ⟨by omega, .start⟩⟩ (rn []) ?_ ?_
  exact ⟨by (repeat refine ⟨⟨_, rfl, by first | exact VLe.rf | exact vle_int (by dsimp only; omega)⟩, ?_⟩); exact trivial, by (repeat refine ⟨⟨_, rfl, by first | exact BLe.rf | exact BLe.box AllC.rf | exact BLe.arr (by exact rfl)⟩, ?_⟩); exact trivial, by repeat (first | exact trivial | refine ⟨⟨rfl, by first | (left; intro h; cases h) | (right; rfl), by first | exact (fun _ h => ⟨_, h⟩) | exact (fun _ _ => ⟨_, rfl⟩)⟩, ?_⟩), rfl⟩
  rintro ⟨j, hinv⟩
  dsimp only
  obtain ⟨hj, hN⟩ := hinv
  have hj : j ≤ k := hj
  refine AW_seq ?_
  refine AW_seq ?_
  refine AW_draw rfl ?_
  refine AL_p (x_move rfl rfl) ?_
  refine AL_b (x_geq rfl rfl rfl) (fun b34 h34 => ?_)
  refine AL_p (x_move rfl rfl) ?_
  cases b34
  · try simp only [tdy] at h34
    have e0 : j = 0 := by omega
    have hz : NoKey t.entries k 0 := by rw [← e0]; exact hN
    refine AL_o rfl rfl rfl rfl ?_
    refine AL_o rfl rfl rfl rfl ?_
    refine AL_o rfl rfl rfl rfl ?_
    refine AL_o rfl rfl rfl rfl ?_
    refine AL_o rfl rfl rfl rfl ?_
    refine AL_o rfl rfl rfl rfl ?_
    refine AL_o rfl rfl rfl rfl ?_
    refine AL_o rfl rfl rfl rfl ?_
    refine AL_o rfl rfl rfl rfl ?_
    refine AL_p (x_pickF rfl rfl rfl) ?_
    refine AL_p (x_move rfl rfl) ?_
    refine AL_o rfl rfl rfl rfl ?_
    refine AL_o rfl rfl rfl rfl ?_
    refine AL_o rfl rfl rfl rfl ?_
    refine AL_o rfl rfl rfl rfl ?_
    refine AL_o rfl rfl rfl rfl ?_
    refine AL_o rfl rfl rfl rfl ?_
    refine AL_o rfl rfl rfl rfl ?_
    refine AL_o rfl rfl rfl rfl ?_
    refine AL_o rfl rfl rfl rfl ?_
    refine AL_p (x_pickF rfl rfl rfl) ?_
    refine AL_nild (by kernel_rfl) ?_
    refine AW_condF rfl ?_
    refine AW_exit (BQ_hit ?_)
    refine AW_region ?_
    refine AL_p (x_add rfl rfl rfl (IntWalk.i64_in _ (by omega))) ?_
    refine AL_p (x_move rfl rfl) ?_
    refine AL_nil ?_
    refine ⟨⟨k + 1, ⟨by omega, hA.succ (by omega) (tableAt_good (l := t.entries) (k := k) (by omega) ho hp hz)⟩⟩, rn [], ?_, by dsimp only; omega⟩
    exact ⟨by (repeat refine ⟨⟨_, rfl, by first | exact VLe.rf | exact vle_int (by dsimp only; omega)⟩, ?_⟩); exact trivial, by (repeat refine ⟨⟨_, rfl, by first | exact BLe.rf | exact BLe.box AllC.rf | exact BLe.arr (by exact rfl)⟩, ?_⟩); exact trivial, by repeat (first | exact trivial | refine ⟨⟨rfl, by first | (left; intro h; cases h) | (right; rfl), by first | exact (fun _ h => ⟨_, h⟩) | exact (fun _ _ => ⟨_, rfl⟩)⟩, ?_⟩), rfl⟩
  try simp only [tdy] at h34
  refine AL_g rfl rfl (x_field (off := 1) (o' := 1) rfl rfl rfl (by kernel_rfl) rfl) ?_
  refine AL_g rfl rfl (x_load1 rfl rfl rfl (by kernel_rfl) rfl) ?_
  refine AL_g rfl rfl (x_move rfl rfl) ?_
  refine AL_g rfl rfl (x_index (E := 74) (n := 6) rfl rfl rfl (by kernel_rfl) rfl (k := (j - 1)) (by omega) (by omega)) ?_
  refine AL_g rfl rfl (x_efield (off := 0) (o' := 0) rfl rfl (by kernel_rfl) rfl) ?_
  refine AL_g rfl rfl (x_eload1 rfl rfl (by kernel_rfl) rfl) ?_
  refine AL_g rfl rfl (x_field (off := 0) (o' := 0) rfl rfl rfl (by kernel_rfl) rfl) ?_
  refine AL_g rfl rfl (x_load1 rfl rfl rfl (by kernel_rfl) rfl) ?_
  refine AL_gb rfl rfl (x_eql rfl rfl rfl) (fun b44 h44 => ?_)
  refine AL_p (x_pickT rfl rfl rfl) ?_
  refine AL_p (x_move rfl rfl) ?_
  cases b44
  · try simp only [tdy] at h44
    have hz : NoKey t.entries k 0 := hN.stop (by omega) hA hp hj (by omega) (fun q => h44 q.1)
    refine AL_o rfl rfl rfl rfl ?_
    refine AL_o rfl rfl rfl rfl ?_
    refine AL_o rfl rfl rfl rfl ?_
    refine AL_o rfl rfl rfl rfl ?_
    refine AL_o rfl rfl rfl rfl ?_
    refine AL_o rfl rfl rfl rfl ?_
    refine AL_o rfl rfl rfl rfl ?_
    refine AL_o rfl rfl rfl rfl ?_
    refine AL_o rfl rfl rfl rfl ?_
    refine AL_p (x_pickF rfl rfl rfl) ?_
    refine AL_nild (by kernel_rfl) ?_
    refine AW_condF rfl ?_
    refine AW_exit (BQ_hit ?_)
    refine AW_region ?_
    refine AL_p (x_add rfl rfl rfl (IntWalk.i64_in _ (by omega))) ?_
    refine AL_p (x_move rfl rfl) ?_
    refine AL_nil ?_
    refine ⟨⟨k + 1, ⟨by omega, hA.succ (by omega) (tableAt_good (l := t.entries) (k := k) (by omega) ho hp hz)⟩⟩, rn [], ?_, by dsimp only; omega⟩
    exact ⟨by (repeat refine ⟨⟨_, rfl, by first | exact VLe.rf | exact vle_int (by dsimp only; omega)⟩, ?_⟩); exact trivial, by (repeat refine ⟨⟨_, rfl, by first | exact BLe.rf | exact BLe.box AllC.rf | exact BLe.arr (by exact rfl)⟩, ?_⟩); exact trivial, by repeat (first | exact trivial | refine ⟨⟨rfl, by first | (left; intro h; cases h) | (right; rfl), by first | exact (fun _ h => ⟨_, h⟩) | exact (fun _ _ => ⟨_, rfl⟩)⟩, ?_⟩), rfl⟩
  try simp only [tdy] at h44
  refine AL_g rfl rfl (x_field (off := 1) (o' := 1) rfl rfl rfl (by kernel_rfl) rfl) ?_
  refine AL_g rfl rfl (x_load1 rfl rfl rfl (by kernel_rfl) rfl) ?_
  refine AL_g rfl rfl (x_move rfl rfl) ?_
  refine AL_g rfl rfl (x_index (E := 74) (n := 6) rfl rfl rfl (by kernel_rfl) rfl (k := (j - 1)) (by omega) (by omega)) ?_
  refine AL_g rfl rfl (x_efield (off := 1) (o' := 1) rfl rfl (by kernel_rfl) rfl) ?_
  refine AL_g rfl rfl (x_eload1 rfl rfl (by kernel_rfl) rfl) ?_
  refine AL_g rfl rfl (x_field (off := 1) (o' := 1) rfl rfl rfl (by kernel_rfl) rfl) ?_
  refine AL_g rfl rfl (x_load1 rfl rfl rfl (by kernel_rfl) rfl) ?_
  refine AL_gb rfl rfl (x_eql rfl rfl rfl) (fun b55 h55 => ?_)
  refine AL_p (x_pickT rfl rfl rfl) ?_
  refine AL_nild (by kernel_rfl) ?_
  cases b55
  · try simp only [tdy] at h55
    have hz : NoKey t.entries k 0 := hN.stop (by omega) hA hp hj (by omega) (fun q => h55 q.2)
    refine AW_condF rfl ?_
    refine AW_exit (BQ_hit ?_)
    refine AW_region ?_
    refine AL_p (x_add rfl rfl rfl (IntWalk.i64_in _ (by omega))) ?_
    refine AL_p (x_move rfl rfl) ?_
    refine AL_nil ?_
    refine ⟨⟨k + 1, ⟨by omega, hA.succ (by omega) (tableAt_good (l := t.entries) (k := k) (by omega) ho hp hz)⟩⟩, rn [], ?_, by dsimp only; omega⟩
    exact ⟨by (repeat refine ⟨⟨_, rfl, by first | exact VLe.rf | exact vle_int (by dsimp only; omega)⟩, ?_⟩); exact trivial, by (repeat refine ⟨⟨_, rfl, by first | exact BLe.rf | exact BLe.box AllC.rf | exact BLe.arr (by exact rfl)⟩, ?_⟩); exact trivial, by repeat (first | exact trivial | refine ⟨⟨rfl, by first | (left; intro h; cases h) | (right; rfl), by first | exact (fun _ h => ⟨_, h⟩) | exact (fun _ _ => ⟨_, rfl⟩)⟩, ?_⟩), rfl⟩
  try simp only [tdy] at h55
  refine AW_condT rfl ?_
  refine AW_skip ?_
  refine AW_seq ?_
  refine AW_block ?_
  refine AW_seq ?_
  refine AW_draw rfl ?_
  refine AL_p (x_field (off := 1) (o' := 1) rfl rfl rfl (by kernel_rfl) rfl) ?_
  refine AL_p (x_load1 rfl rfl rfl (by kernel_rfl) rfl) ?_
  refine AL_p (x_move rfl rfl) ?_
  refine AL_p (x_index (E := 74) (n := 6) rfl rfl rfl (by kernel_rfl) rfl (k := (j - 1)) (by omega) (by omega)) ?_
  refine AL_p (x_eloadW (n := 6) rfl rfl (by kernel_rfl) rfl) ?_
  refine AL_p (x_loadN (n := 6) rfl rfl rfl (by kernel_rfl) rfl rfl) ?_
  refine AL_b (x_call0 rfl rfl rfl (sameKeyI_c (t.entries[j - 1]'(by omega)) (t.entries[k]'(by omega))) rfl rfl) (fun b65 h65 => ?_)
  refine AL_nild (by kernel_rfl) ?_
  cases b65
  rotate_left
  · try simp only [tdy] at h65
    have hbad := tableB_bad (t := t) (k := k) (by omega) (tableAt_key (j := j - 1) (by omega) (by omega) h65)
    refine AW_condT rfl ?_
    refine AW_seq ?_
    refine AW_region ?_
    refine AL_p (x_assign rfl rfl) ?_
    refine AL_nil ?_
    refine AW_ret (BQ_ret (BQ_ret (BQ_ret (BQ_ret ?_))))
    exact ⟨rn [], ⟨⟨⟨_, rfl, vle_bool (by first | exact (hbad).symm | ((symm; exact tableB_cap (by omega))) | ((symm; exact tableB_good hA (by omega) ⟨by omega, by omega, by omega⟩)) | exact (tableB_cap (by omega)).symm | (grind [upToB, tableB_cap, tableB_good]))⟩, trivial⟩, trivial, trivial, rfl⟩⟩
  try simp only [tdy] at h65
  have hN2 := hN.pred (by omega) (by omega) h65
  refine AW_condF rfl ?_
  refine AW_skip ?_
  refine AW_region ?_
  refine AL_p (x_move rfl rfl) ?_
  refine AL_p (x_sub rfl rfl rfl (IntWalk.i64_in _ (by omega))) ?_
  refine AL_p (x_assign rfl rfl) ?_
  refine AL_nil ?_
  refine ⟨⟨j - 1, ⟨by omega, hN2⟩⟩, rn [], ?_, by dsimp only; omega⟩
  exact ⟨by (repeat refine ⟨⟨_, rfl, by first | exact VLe.rf | exact vle_int (by dsimp only; omega)⟩, ?_⟩); exact trivial, by (repeat refine ⟨⟨_, rfl, by first | exact BLe.rf | exact BLe.box AllC.rf | exact BLe.arr (by exact rfl)⟩, ?_⟩); exact trivial, by repeat (first | exact trivial | refine ⟨⟨rfl, by first | (left; intro h; cases h) | (right; rfl), by first | exact (fun _ h => ⟨_, h⟩) | exact (fun _ _ => ⟨_, rfl⟩)⟩, ?_⟩), rfl⟩

set_option maxHeartbeats 4000000 in
theorem tableOkS_c (t : Tablet) : AC Try.prog 88 [.agg (tableC t)] [] (.one (.c (.bool (tableB t)))) [] := by
  refine AC_body1 Try.func88 rfl rfl Try.ntmps88 rfl Try.results88 ?_
  refine AW_aggmax 0 1 rfl rfl (fun hm0_1 => ?_)
  refine AW_seq ?_
  refine AW_region ?_
  refine AL_p (x_box 100 rfl rfl rfl rfl rfl rfl rfl) ?_
  refine AL_p (x_assign rfl rfl) ?_
  refine AL_nil ?_
  refine AW_seq ?_
  refine AW_seq ?_
  refine AW_region ?_
  refine AL_p (x_field (off := 0) (o' := 0) rfl rfl rfl (by kernel_rfl) rfl) ?_
  refine AL_p (x_load1 rfl rfl rfl (by kernel_rfl) rfl) ?_
  refine AL_b (x_lss rfl rfl rfl) (fun b7 h7 => ?_)
  refine AL_p (x_move rfl rfl) ?_
  cases b7
  rotate_left
  · try simp only [tdy] at h7
    refine AL_o rfl rfl rfl rfl ?_
    refine AL_o rfl rfl rfl rfl ?_
    refine AL_o rfl rfl rfl rfl ?_
    refine AL_p (x_pickT rfl rfl rfl) ?_
    refine AL_p (x_move rfl rfl) ?_
    refine AL_o rfl rfl rfl rfl ?_
    refine AL_o rfl rfl rfl rfl ?_
    refine AL_o rfl rfl rfl rfl ?_
    refine AL_o rfl rfl rfl rfl ?_
    refine AL_o rfl rfl rfl rfl ?_
    refine AL_o rfl rfl rfl rfl ?_
    refine AL_p (x_pickT rfl rfl rfl) ?_
    refine AL_nil ?_
    refine AW_condT rfl ?_
    refine AW_seq ?_
    refine AW_region ?_
    refine AL_p (x_assign rfl rfl) ?_
    refine AL_nil ?_
    refine AW_ret ?_
    exact ⟨rn [], ⟨⟨⟨_, rfl, vle_bool (by first | exact (hbad).symm | exact (tableB_cap (by omega)).symm | exact (tableB_good hA (by omega) ⟨by omega, by omega, by omega⟩).symm)⟩, trivial⟩, trivial, trivial, rfl⟩⟩
  try simp only [tdy] at h7
  refine AL_g rfl rfl (x_field (off := 0) (o' := 0) rfl rfl rfl (by kernel_rfl) rfl) ?_
  refine AL_g rfl rfl (x_load1 rfl rfl rfl (by kernel_rfl) rfl) ?_
  refine AL_gb rfl rfl (x_gtr rfl rfl rfl) (fun b11 h11 => ?_)
  refine AL_p (x_pickF rfl rfl rfl) ?_
  refine AL_p (x_move rfl rfl) ?_
  cases b11
  rotate_left
  · try simp only [tdy] at h11
    refine AL_o rfl rfl rfl rfl ?_
    refine AL_o rfl rfl rfl rfl ?_
    refine AL_o rfl rfl rfl rfl ?_
    refine AL_o rfl rfl rfl rfl ?_
    refine AL_o rfl rfl rfl rfl ?_
    refine AL_o rfl rfl rfl rfl ?_
    refine AL_p (x_pickT rfl rfl rfl) ?_
    refine AL_nil ?_
    refine AW_condT rfl ?_
    refine AW_seq ?_
    refine AW_region ?_
    refine AL_p (x_assign rfl rfl) ?_
    refine AL_nil ?_
    refine AW_ret ?_
    exact ⟨rn [], ⟨⟨⟨_, rfl, vle_bool (by first | exact (hbad).symm | exact (tableB_cap (by omega)).symm | exact (tableB_good hA (by omega) ⟨by omega, by omega, by omega⟩).symm)⟩, trivial⟩, trivial, trivial, rfl⟩⟩
  try simp only [tdy] at h11
  refine AL_g rfl rfl (x_field (off := 1) (o' := 1) rfl rfl rfl (by kernel_rfl) rfl) ?_
  refine AL_g rfl rfl (x_load1 rfl rfl rfl (by kernel_rfl) rfl) ?_
  refine AL_g rfl rfl (x_len (E := 74) (n := 6) rfl rfl (by kernel_rfl)) ?_
  refine AL_g rfl rfl (x_field (off := 0) (o' := 0) rfl rfl rfl (by kernel_rfl) rfl) ?_
  refine AL_g rfl rfl (x_load1 rfl rfl rfl (by kernel_rfl) rfl) ?_
  refine AL_gb rfl rfl (x_gtr rfl rfl rfl) (fun b19 h19 => ?_)
  refine AL_p (x_pickF rfl rfl rfl) ?_
  refine AL_nil ?_
  cases b19
  rotate_left
  · try simp only [tdy] at h19
    refine AW_condT rfl ?_
    refine AW_seq ?_
    refine AW_region ?_
    refine AL_p (x_assign rfl rfl) ?_
    refine AL_nil ?_
    refine AW_ret ?_
    exact ⟨rn [], ⟨⟨⟨_, rfl, vle_bool (by first | exact (hbad).symm | exact (tableB_cap (by omega)).symm | exact (tableB_good hA (by omega) ⟨by omega, by omega, by omega⟩).symm)⟩, trivial⟩, trivial, trivial, rfl⟩⟩
  try simp only [tdy] at h19
  refine AW_condF rfl ?_
  refine AW_skip ?_
  refine AW_seq ?_
  refine AW_seq ?_
  refine AW_region ?_
  refine AL_p (x_field (off := 1) (o' := 1) rfl rfl rfl (by kernel_rfl) rfl) ?_
  refine AL_p (x_load1 rfl rfl rfl (by kernel_rfl) rfl) ?_
  refine AL_p (x_len (E := 74) (n := 6) rfl rfl (by kernel_rfl)) ?_
  refine AL_p (x_move rfl rfl) ?_
  refine AL_nil ?_
  refine AW_block ?_
  refine AW_loop2 (ι := {q : Nat // q ≤ t.entries.length ∧ AllAt (tableAt t.entries) q}) (fun p => [(24, .one (.c (.int .i64 ((p.1) : Int))))]) (fun p => []) [1, 23] [100] (fun p => t.entries.length - (p.1)) ⟨0, ⟨by omega, .zero⟩⟩ (rn []) ?_ ?_
  exact ⟨by (repeat refine ⟨⟨_, rfl, by first | exact VLe.rf | exact vle_int (by dsimp only; omega)⟩, ?_⟩); exact trivial, by (repeat refine ⟨⟨_, rfl, by first | exact BLe.rf | exact BLe.box AllC.rf | exact BLe.arr (by exact rfl)⟩, ?_⟩); exact trivial, by repeat (first | exact trivial | refine ⟨⟨rfl, by first | (left; intro h; cases h) | (right; rfl), by first | exact (fun _ h => ⟨_, h⟩) | exact (fun _ _ => ⟨_, rfl⟩)⟩, ?_⟩), rfl⟩
  rintro ⟨k, hinv⟩
  dsimp only
  obtain ⟨hk, hA⟩ := hinv
  have hk : k ≤ t.entries.length := hk
  refine AW_seq ?_
  refine AW_region ?_
  refine AL_b (x_lss rfl rfl rfl) (fun b25 h25 => ?_)
  refine AL_nil ?_
  refine AW_seq ?_
  cases b25
  · try simp only [tdy] at h25
    refine AW_condF rfl ?_
    refine AW_exit (BQ_hit ?_)
    refine AW_seq ?_
    refine AW_region ?_
    refine AL_p (x_assign rfl rfl) ?_
    refine AL_nil ?_
    refine AW_ret ?_
    exact ⟨rn [], ⟨⟨⟨_, rfl, vle_bool (by first | exact (hbad).symm | exact (tableB_cap (by omega)).symm | exact (tableB_good hA (by omega) ⟨by omega, by omega, by omega⟩).symm)⟩, trivial⟩, trivial, trivial, rfl⟩⟩
  try simp only [tdy] at h25
  refine AW_condT rfl ?_
  refine AW_skip ?_
  refine AW_seq ?_
  refine AW_block ?_
  refine AW_seq ?_
  refine AW_region ?_
  refine AL_p (x_move rfl rfl) ?_
  refine AL_p (x_assign rfl rfl) ?_
  refine AL_nil ?_
  refine AW_seq ?_
  refine AW_seq ?_
  refine AW_region ?_
  refine AL_p (x_field (off := 1) (o' := 1) rfl rfl rfl (by kernel_rfl) rfl) ?_
  refine AL_p (x_load1 rfl rfl rfl (by kernel_rfl) rfl) ?_
  refine AL_p (x_move rfl rfl) ?_
  refine AL_p (x_index (E := 74) (n := 6) rfl rfl rfl (by kernel_rfl) rfl (k := k) (by omega) (by omega)) ?_
  refine AL_p (x_eloadW (n := 6) rfl rfl (by kernel_rfl) rfl) ?_
  refine AL_b (x_call0 rfl rfl rfl (entryS_c (t.entries[k]'(by omega)).epoch (t.entries[k]'(by omega)).prio (t.entries[k]'(by omega)).hits (t.entries[k]'(by omega)).mat (t.entries[k]'(by omega)).acts) rfl rfl) (fun b32 h32 => ?_)
  refine AL_p (x_not rfl rfl) ?_
  refine AL_nil ?_
  cases b32
  · try simp only [tdy] at h32
    have hbad := tableB_bad (t := t) (k := k) (by omega) (tableAt_ok (by omega) h32)
    refine AW_condT rfl ?_
    refine AW_seq ?_
    refine AW_region ?_
    refine AL_p (x_assign rfl rfl) ?_
    refine AL_nil ?_
    refine AW_ret (BQ_ret (BQ_ret ?_))
    exact ⟨rn [], ⟨⟨⟨_, rfl, vle_bool (by first | exact (hbad).symm | exact (tableB_cap (by omega)).symm | exact (tableB_good hA (by omega) ⟨by omega, by omega, by omega⟩).symm)⟩, trivial⟩, trivial, trivial, rfl⟩⟩
  try simp only [tdy] at h32
  have ho : entryOkB (t.entries[k]'(by omega)) = true := h32
  refine AW_condF rfl ?_
  refine AW_skip ?_
  refine AW_seq ?_
  refine AW_seq ?_
  refine AW_draw rfl ?_
  refine AL_p (x_move rfl rfl) ?_
  refine AL_b (x_gtr rfl rfl rfl) (fun b35 h35 => ?_)
  refine AL_p (x_move rfl rfl) ?_
  cases b35
  · try simp only [tdy] at h35
    have hp : 0 < k → aheadB (t.entries[k]'(by omega)) (t.entries[k - 1]'(by omega)) = false := fun h0 => by exfalso; omega
    refine AL_o rfl rfl rfl rfl ?_
    refine AL_o rfl rfl rfl rfl ?_
    refine AL_o rfl rfl rfl rfl ?_
    refine AL_o rfl rfl rfl rfl ?_
    refine AL_o rfl rfl rfl rfl ?_
    refine AL_o rfl rfl rfl rfl ?_
    refine AL_o rfl rfl rfl rfl ?_
    refine AL_o rfl rfl rfl rfl ?_
    refine AL_o rfl rfl rfl rfl ?_
    refine AL_o rfl rfl rfl rfl ?_
    refine AL_o rfl rfl rfl rfl ?_
    refine AL_o rfl rfl rfl rfl ?_
    refine AL_p (x_pickF rfl rfl rfl) ?_
    refine AL_nild (by kernel_rfl) ?_
    refine AW_condF rfl ?_
    refine AW_skip ?_
    refine AW_seq ?_
    refine AW_region ?_
    refine AL_p (x_move rfl rfl) ?_
    refine AL_p (x_sub rfl rfl rfl (IntWalk.i64_in _ (by omega))) ?_
    refine AL_p (x_assign rfl rfl) ?_
    refine AL_nil ?_
    refine AW_block ?_
    refine AW_loop2 (ι := {q : Nat // q ≤ k ∧ NoKey t.entries k q}) (fun p => [(4, .one (.c (.int .i64 (((p.1) : Int) - 1))))]) (fun p => []) [1, 3, 23, 24] [100] (fun p => (p.1)) ⟨k, ⟨by omega, .start⟩⟩ (rn []) ?_ ?_
    exact ⟨by (repeat refine ⟨⟨_, rfl, by first | exact VLe.rf | exact vle_int (by dsimp only; omega)⟩, ?_⟩); exact trivial, by (repeat refine ⟨⟨_, rfl, by first | exact BLe.rf | exact BLe.box AllC.rf | exact BLe.arr (by exact rfl)⟩, ?_⟩); exact trivial, by repeat (first | exact trivial | refine ⟨⟨rfl, by first | (left; intro h; cases h) | (right; rfl), by first | exact (fun _ h => ⟨_, h⟩) | exact (fun _ _ => ⟨_, rfl⟩)⟩, ?_⟩), rfl⟩
    rintro ⟨j, hinv⟩
    dsimp only
    obtain ⟨hj, hN⟩ := hinv
    have hj : j ≤ k := hj
    refine AW_seq ?_
    refine AW_seq ?_
    refine AW_draw rfl ?_
    refine AL_p (x_move rfl rfl) ?_
    refine AL_b (x_geq rfl rfl rfl) (fun b53 h53 => ?_)
    refine AL_p (x_move rfl rfl) ?_
    cases b53
    · try simp only [tdy] at h53
      have e0 : j = 0 := by omega
      have hz : NoKey t.entries k 0 := by rw [← e0]; exact hN
      refine AL_o rfl rfl rfl rfl ?_
      refine AL_o rfl rfl rfl rfl ?_
      refine AL_o rfl rfl rfl rfl ?_
      refine AL_o rfl rfl rfl rfl ?_
      refine AL_o rfl rfl rfl rfl ?_
      refine AL_o rfl rfl rfl rfl ?_
      refine AL_o rfl rfl rfl rfl ?_
      refine AL_o rfl rfl rfl rfl ?_
      refine AL_o rfl rfl rfl rfl ?_
      refine AL_o rfl rfl rfl rfl ?_
      refine AL_o rfl rfl rfl rfl ?_
      refine AL_o rfl rfl rfl rfl ?_
      refine AL_p (x_pickF rfl rfl rfl) ?_
      refine AL_nild (by kernel_rfl) ?_
      refine AW_condF rfl ?_
      refine AW_exit (BQ_hit ?_)
      refine AW_region ?_
      refine AL_p (x_add rfl rfl rfl (IntWalk.i64_in _ (by omega))) ?_
      refine AL_p (x_move rfl rfl) ?_
      refine AL_nil ?_
      refine ⟨⟨k + 1, ⟨by omega, hA.succ (by omega) (tableAt_good (l := t.entries) (k := k) (by omega) ho hp hz)⟩⟩, rn [], ?_, by dsimp only; omega⟩
      exact ⟨by (repeat refine ⟨⟨_, rfl, by first | exact VLe.rf | exact vle_int (by dsimp only; omega)⟩, ?_⟩); exact trivial, by (repeat refine ⟨⟨_, rfl, by first | exact BLe.rf | exact BLe.box AllC.rf | exact BLe.arr (by exact rfl)⟩, ?_⟩); exact trivial, by repeat (first | exact trivial | refine ⟨⟨rfl, by first | (left; intro h; cases h) | (right; rfl), by first | exact (fun _ h => ⟨_, h⟩) | exact (fun _ _ => ⟨_, rfl⟩)⟩, ?_⟩), rfl⟩
    try simp only [tdy] at h53
    refine AL_g rfl rfl (x_field (off := 1) (o' := 1) rfl rfl rfl (by kernel_rfl) rfl) ?_
    refine AL_g rfl rfl (x_load1 rfl rfl rfl (by kernel_rfl) rfl) ?_
    refine AL_g rfl rfl (x_move rfl rfl) ?_
    refine AL_g rfl rfl (x_index (E := 74) (n := 6) rfl rfl rfl (by kernel_rfl) rfl (k := (j - 1)) (by omega) (by omega)) ?_
    refine AL_g rfl rfl (x_eloadW (n := 6) rfl rfl (by kernel_rfl) rfl) ?_
    refine AL_g rfl rfl (x_field (off := 1) (o' := 1) rfl rfl rfl (by kernel_rfl) rfl) ?_
    refine AL_g rfl rfl (x_load1 rfl rfl rfl (by kernel_rfl) rfl) ?_
    refine AL_g rfl rfl (x_move rfl rfl) ?_
    refine AL_g rfl rfl (x_index (E := 74) (n := 6) rfl rfl rfl (by kernel_rfl) rfl (k := k) (by omega) (by omega)) ?_
    refine AL_g rfl rfl (x_eloadW (n := 6) rfl rfl (by kernel_rfl) rfl) ?_
    refine AL_gb rfl rfl (x_call0 rfl rfl rfl (aheadS_c (t.entries[j - 1]'(by omega)) (t.entries[k]'(by omega))) rfl rfl) (fun b65 h65 => ?_)
    refine AL_g rfl rfl (x_not rfl rfl) ?_
    refine AL_p (x_pickT rfl rfl rfl) ?_
    refine AL_nild (by kernel_rfl) ?_
    cases b65
    rotate_left
    · try simp only [tdy] at h65
      have hz : NoKey t.entries k 0 := hN.stop (by omega) hA hp hj (by omega) (fun q => ahead_key h65 q)
      refine AW_condF rfl ?_
      refine AW_exit (BQ_hit ?_)
      refine AW_region ?_
      refine AL_p (x_add rfl rfl rfl (IntWalk.i64_in _ (by omega))) ?_
      refine AL_p (x_move rfl rfl) ?_
      refine AL_nil ?_
      refine ⟨⟨k + 1, ⟨by omega, hA.succ (by omega) (tableAt_good (l := t.entries) (k := k) (by omega) ho hp hz)⟩⟩, rn [], ?_, by dsimp only; omega⟩
      exact ⟨by (repeat refine ⟨⟨_, rfl, by first | exact VLe.rf | exact vle_int (by dsimp only; omega)⟩, ?_⟩); exact trivial, by (repeat refine ⟨⟨_, rfl, by first | exact BLe.rf | exact BLe.box AllC.rf | exact BLe.arr (by exact rfl)⟩, ?_⟩); exact trivial, by repeat (first | exact trivial | refine ⟨⟨rfl, by first | (left; intro h; cases h) | (right; rfl), by first | exact (fun _ h => ⟨_, h⟩) | exact (fun _ _ => ⟨_, rfl⟩)⟩, ?_⟩), rfl⟩
    try simp only [tdy] at h65
    refine AW_condT rfl ?_
    refine AW_skip ?_
    refine AW_seq ?_
    refine AW_block ?_
    refine AW_seq ?_
    refine AW_draw rfl ?_
    refine AL_p (x_field (off := 1) (o' := 1) rfl rfl rfl (by kernel_rfl) rfl) ?_
    refine AL_p (x_load1 rfl rfl rfl (by kernel_rfl) rfl) ?_
    refine AL_p (x_move rfl rfl) ?_
    refine AL_p (x_index (E := 74) (n := 6) rfl rfl rfl (by kernel_rfl) rfl (k := (j - 1)) (by omega) (by omega)) ?_
    refine AL_p (x_eloadW (n := 6) rfl rfl (by kernel_rfl) rfl) ?_
    refine AL_p (x_field (off := 1) (o' := 1) rfl rfl rfl (by kernel_rfl) rfl) ?_
    refine AL_p (x_load1 rfl rfl rfl (by kernel_rfl) rfl) ?_
    refine AL_p (x_move rfl rfl) ?_
    refine AL_p (x_index (E := 74) (n := 6) rfl rfl rfl (by kernel_rfl) rfl (k := k) (by omega) (by omega)) ?_
    refine AL_p (x_eloadW (n := 6) rfl rfl (by kernel_rfl) rfl) ?_
    refine AL_b (x_call0 rfl rfl rfl (sameKeyS_c (t.entries[j - 1]'(by omega)) (t.entries[k]'(by omega))) rfl rfl) (fun b80 h80 => ?_)
    refine AL_nild (by kernel_rfl) ?_
    cases b80
    rotate_left
    · try simp only [tdy] at h80
      have hbad := tableB_bad (t := t) (k := k) (by omega) (tableAt_key (j := j - 1) (by omega) (by omega) h80)
      refine AW_condT rfl ?_
      refine AW_seq ?_
      refine AW_region ?_
      refine AL_p (x_assign rfl rfl) ?_
      refine AL_nil ?_
      refine AW_ret (BQ_ret (BQ_ret (BQ_ret (BQ_ret ?_))))
      exact ⟨rn [], ⟨⟨⟨_, rfl, vle_bool (by first | exact (hbad).symm | exact (tableB_cap (by omega)).symm | exact (tableB_good hA (by omega) ⟨by omega, by omega, by omega⟩).symm)⟩, trivial⟩, trivial, trivial, rfl⟩⟩
    try simp only [tdy] at h80
    have hN2 := hN.pred (by omega) (by omega) h80
    refine AW_condF rfl ?_
    refine AW_skip ?_
    refine AW_region ?_
    refine AL_p (x_move rfl rfl) ?_
    refine AL_p (x_sub rfl rfl rfl (IntWalk.i64_in _ (by omega))) ?_
    refine AL_p (x_assign rfl rfl) ?_
    refine AL_nil ?_
    refine ⟨⟨j - 1, ⟨by omega, hN2⟩⟩, rn [], ?_, by dsimp only; omega⟩
    exact ⟨by (repeat refine ⟨⟨_, rfl, by first | exact VLe.rf | exact vle_int (by dsimp only; omega)⟩, ?_⟩); exact trivial, by (repeat refine ⟨⟨_, rfl, by first | exact BLe.rf | exact BLe.box AllC.rf | exact BLe.arr (by exact rfl)⟩, ?_⟩); exact trivial, by repeat (first | exact trivial | refine ⟨⟨rfl, by first | (left; intro h; cases h) | (right; rfl), by first | exact (fun _ h => ⟨_, h⟩) | exact (fun _ _ => ⟨_, rfl⟩)⟩, ?_⟩), rfl⟩
  try simp only [tdy] at h35
  refine AL_g rfl rfl (x_field (off := 1) (o' := 1) rfl rfl rfl (by kernel_rfl) rfl) ?_
  refine AL_g rfl rfl (x_load1 rfl rfl rfl (by kernel_rfl) rfl) ?_
  refine AL_g rfl rfl (x_move rfl rfl) ?_
  refine AL_g rfl rfl (x_index (E := 74) (n := 6) rfl rfl rfl (by kernel_rfl) rfl (k := k) (by omega) (by omega)) ?_
  refine AL_g rfl rfl (x_eloadW (n := 6) rfl rfl (by kernel_rfl) rfl) ?_
  refine AL_g rfl rfl (x_field (off := 1) (o' := 1) rfl rfl rfl (by kernel_rfl) rfl) ?_
  refine AL_g rfl rfl (x_load1 rfl rfl rfl (by kernel_rfl) rfl) ?_
  refine AL_g rfl rfl (x_move rfl rfl) ?_
  refine AL_g rfl rfl (x_sub rfl rfl rfl (IntWalk.i64_in _ (by omega))) ?_
  refine AL_g rfl rfl (x_index (E := 74) (n := 6) rfl rfl rfl (by kernel_rfl) rfl (k := (k - 1)) (by omega) (by omega)) ?_
  refine AL_g rfl rfl (x_eloadW (n := 6) rfl rfl (by kernel_rfl) rfl) ?_
  refine AL_gb rfl rfl (x_call0 rfl rfl rfl (aheadS_c (t.entries[k]'(by omega)) (t.entries[k - 1]'(by omega))) rfl rfl) (fun b48 h48 => ?_)
  refine AL_p (x_pickT rfl rfl rfl) ?_
  refine AL_nild (by kernel_rfl) ?_
  cases b48
  rotate_left
  · try simp only [tdy] at h48
    have hbad := tableB_bad (t := t) (k := k) (by omega) (tableAt_ahead (by omega) (by omega) h48)
    refine AW_condT rfl ?_
    refine AW_seq ?_
    refine AW_region ?_
    refine AL_p (x_assign rfl rfl) ?_
    refine AL_nil ?_
    refine AW_ret (BQ_ret (BQ_ret ?_))
    exact ⟨rn [], ⟨⟨⟨_, rfl, vle_bool (by first | exact (hbad).symm | exact (tableB_cap (by omega)).symm | exact (tableB_good hA (by omega) ⟨by omega, by omega, by omega⟩).symm)⟩, trivial⟩, trivial, trivial, rfl⟩⟩
  try simp only [tdy] at h48
  have hp : 0 < k → aheadB (t.entries[k]'(by omega)) (t.entries[k - 1]'(by omega)) = false := fun h0 => h48
  refine AW_condF rfl ?_
  refine AW_skip ?_
  refine AW_seq ?_
  refine AW_region ?_
  refine AL_p (x_move rfl rfl) ?_
  refine AL_p (x_sub rfl rfl rfl (IntWalk.i64_in _ (by omega))) ?_
  refine AL_p (x_assign rfl rfl) ?_
  refine AL_nil ?_
  refine AW_block ?_
  refine AW_loop2 (ι := {q : Nat // q ≤ k ∧ NoKey t.entries k q}) (fun p => [(4, .one (.c (.int .i64 (((p.1) : Int) - 1))))]) (fun p => []) [1, 3, 23, 24] [100] (fun p => (p.1)) ⟨k, ⟨by omega, .start⟩⟩ (rn []) ?_ ?_
  exact ⟨by (repeat refine ⟨⟨_, rfl, by first | exact VLe.rf | exact vle_int (by dsimp only; omega)⟩, ?_⟩); exact trivial, by (repeat refine ⟨⟨_, rfl, by first | exact BLe.rf | exact BLe.box AllC.rf | exact BLe.arr (by exact rfl)⟩, ?_⟩); exact trivial, by repeat (first | exact trivial | refine ⟨⟨rfl, by first | (left; intro h; cases h) | (right; rfl), by first | exact (fun _ h => ⟨_, h⟩) | exact (fun _ _ => ⟨_, rfl⟩)⟩, ?_⟩), rfl⟩
  rintro ⟨j, hinv⟩
  dsimp only
  obtain ⟨hj, hN⟩ := hinv
  have hj : j ≤ k := hj
  refine AW_seq ?_
  refine AW_seq ?_
  refine AW_draw rfl ?_
  refine AL_p (x_move rfl rfl) ?_
  refine AL_b (x_geq rfl rfl rfl) (fun b53 h53 => ?_)
  refine AL_p (x_move rfl rfl) ?_
  cases b53
  · try simp only [tdy] at h53
    have e0 : j = 0 := by omega
    have hz : NoKey t.entries k 0 := by rw [← e0]; exact hN
    refine AL_o rfl rfl rfl rfl ?_
    refine AL_o rfl rfl rfl rfl ?_
    refine AL_o rfl rfl rfl rfl ?_
    refine AL_o rfl rfl rfl rfl ?_
    refine AL_o rfl rfl rfl rfl ?_
    refine AL_o rfl rfl rfl rfl ?_
    refine AL_o rfl rfl rfl rfl ?_
    refine AL_o rfl rfl rfl rfl ?_
    refine AL_o rfl rfl rfl rfl ?_
    refine AL_o rfl rfl rfl rfl ?_
    refine AL_o rfl rfl rfl rfl ?_
    refine AL_o rfl rfl rfl rfl ?_
    refine AL_p (x_pickF rfl rfl rfl) ?_
    refine AL_nild (by kernel_rfl) ?_
    refine AW_condF rfl ?_
    refine AW_exit (BQ_hit ?_)
    refine AW_region ?_
    refine AL_p (x_add rfl rfl rfl (IntWalk.i64_in _ (by omega))) ?_
    refine AL_p (x_move rfl rfl) ?_
    refine AL_nil ?_
    refine ⟨⟨k + 1, ⟨by omega, hA.succ (by omega) (tableAt_good (l := t.entries) (k := k) (by omega) ho hp hz)⟩⟩, rn [], ?_, by dsimp only; omega⟩
    exact ⟨by (repeat refine ⟨⟨_, rfl, by first | exact VLe.rf | exact vle_int (by dsimp only; omega)⟩, ?_⟩); exact trivial, by (repeat refine ⟨⟨_, rfl, by first | exact BLe.rf | exact BLe.box AllC.rf | exact BLe.arr (by exact rfl)⟩, ?_⟩); exact trivial, by repeat (first | exact trivial | refine ⟨⟨rfl, by first | (left; intro h; cases h) | (right; rfl), by first | exact (fun _ h => ⟨_, h⟩) | exact (fun _ _ => ⟨_, rfl⟩)⟩, ?_⟩), rfl⟩
  try simp only [tdy] at h53
  refine AL_g rfl rfl (x_field (off := 1) (o' := 1) rfl rfl rfl (by kernel_rfl) rfl) ?_
  refine AL_g rfl rfl (x_load1 rfl rfl rfl (by kernel_rfl) rfl) ?_
  refine AL_g rfl rfl (x_move rfl rfl) ?_
  refine AL_g rfl rfl (x_index (E := 74) (n := 6) rfl rfl rfl (by kernel_rfl) rfl (k := (j - 1)) (by omega) (by omega)) ?_
  refine AL_g rfl rfl (x_eloadW (n := 6) rfl rfl (by kernel_rfl) rfl) ?_
  refine AL_g rfl rfl (x_field (off := 1) (o' := 1) rfl rfl rfl (by kernel_rfl) rfl) ?_
  refine AL_g rfl rfl (x_load1 rfl rfl rfl (by kernel_rfl) rfl) ?_
  refine AL_g rfl rfl (x_move rfl rfl) ?_
  refine AL_g rfl rfl (x_index (E := 74) (n := 6) rfl rfl rfl (by kernel_rfl) rfl (k := k) (by omega) (by omega)) ?_
  refine AL_g rfl rfl (x_eloadW (n := 6) rfl rfl (by kernel_rfl) rfl) ?_
  refine AL_gb rfl rfl (x_call0 rfl rfl rfl (aheadS_c (t.entries[j - 1]'(by omega)) (t.entries[k]'(by omega))) rfl rfl) (fun b65 h65 => ?_)
  refine AL_g rfl rfl (x_not rfl rfl) ?_
  refine AL_p (x_pickT rfl rfl rfl) ?_
  refine AL_nild (by kernel_rfl) ?_
  cases b65
  rotate_left
  · try simp only [tdy] at h65
    have hz : NoKey t.entries k 0 := hN.stop (by omega) hA hp hj (by omega) (fun q => ahead_key h65 q)
    refine AW_condF rfl ?_
    refine AW_exit (BQ_hit ?_)
    refine AW_region ?_
    refine AL_p (x_add rfl rfl rfl (IntWalk.i64_in _ (by omega))) ?_
    refine AL_p (x_move rfl rfl) ?_
    refine AL_nil ?_
    refine ⟨⟨k + 1, ⟨by omega, hA.succ (by omega) (tableAt_good (l := t.entries) (k := k) (by omega) ho hp hz)⟩⟩, rn [], ?_, by dsimp only; omega⟩
    exact ⟨by (repeat refine ⟨⟨_, rfl, by first | exact VLe.rf | exact vle_int (by dsimp only; omega)⟩, ?_⟩); exact trivial, by (repeat refine ⟨⟨_, rfl, by first | exact BLe.rf | exact BLe.box AllC.rf | exact BLe.arr (by exact rfl)⟩, ?_⟩); exact trivial, by repeat (first | exact trivial | refine ⟨⟨rfl, by first | (left; intro h; cases h) | (right; rfl), by first | exact (fun _ h => ⟨_, h⟩) | exact (fun _ _ => ⟨_, rfl⟩)⟩, ?_⟩), rfl⟩
  try simp only [tdy] at h65
  refine AW_condT rfl ?_
  refine AW_skip ?_
  refine AW_seq ?_
  refine AW_block ?_
  refine AW_seq ?_
  refine AW_draw rfl ?_
  refine AL_p (x_field (off := 1) (o' := 1) rfl rfl rfl (by kernel_rfl) rfl) ?_
  refine AL_p (x_load1 rfl rfl rfl (by kernel_rfl) rfl) ?_
  refine AL_p (x_move rfl rfl) ?_
  refine AL_p (x_index (E := 74) (n := 6) rfl rfl rfl (by kernel_rfl) rfl (k := (j - 1)) (by omega) (by omega)) ?_
  refine AL_p (x_eloadW (n := 6) rfl rfl (by kernel_rfl) rfl) ?_
  refine AL_p (x_field (off := 1) (o' := 1) rfl rfl rfl (by kernel_rfl) rfl) ?_
  refine AL_p (x_load1 rfl rfl rfl (by kernel_rfl) rfl) ?_
  refine AL_p (x_move rfl rfl) ?_
  refine AL_p (x_index (E := 74) (n := 6) rfl rfl rfl (by kernel_rfl) rfl (k := k) (by omega) (by omega)) ?_
  refine AL_p (x_eloadW (n := 6) rfl rfl (by kernel_rfl) rfl) ?_
  refine AL_b (x_call0 rfl rfl rfl (sameKeyS_c (t.entries[j - 1]'(by omega)) (t.entries[k]'(by omega))) rfl rfl) (fun b80 h80 => ?_)
  refine AL_nild (by kernel_rfl) ?_
  cases b80
  rotate_left
  · try simp only [tdy] at h80
    have hbad := tableB_bad (t := t) (k := k) (by omega) (tableAt_key (j := j - 1) (by omega) (by omega) h80)
    refine AW_condT rfl ?_
    refine AW_seq ?_
    refine AW_region ?_
    refine AL_p (x_assign rfl rfl) ?_
    refine AL_nil ?_
    refine AW_ret (BQ_ret (BQ_ret (BQ_ret (BQ_ret ?_))))
    exact ⟨rn [], ⟨⟨⟨_, rfl, vle_bool (by first | exact (hbad).symm | exact (tableB_cap (by omega)).symm | exact (tableB_good hA (by omega) ⟨by omega, by omega, by omega⟩).symm)⟩, trivial⟩, trivial, trivial, rfl⟩⟩
  try simp only [tdy] at h80
  have hN2 := hN.pred (by omega) (by omega) h80
  refine AW_condF rfl ?_
  refine AW_skip ?_
  refine AW_region ?_
  refine AL_p (x_move rfl rfl) ?_
  refine AL_p (x_sub rfl rfl rfl (IntWalk.i64_in _ (by omega))) ?_
  refine AL_p (x_assign rfl rfl) ?_
  refine AL_nil ?_
  refine ⟨⟨j - 1, ⟨by omega, hN2⟩⟩, rn [], ?_, by dsimp only; omega⟩
  exact ⟨by (repeat refine ⟨⟨_, rfl, by first | exact VLe.rf | exact vle_int (by dsimp only; omega)⟩, ?_⟩); exact trivial, by (repeat refine ⟨⟨_, rfl, by first | exact BLe.rf | exact BLe.box AllC.rf | exact BLe.arr (by exact rfl)⟩, ?_⟩); exact trivial, by repeat (first | exact trivial | refine ⟨⟨rfl, by first | (left; intro h; cases h) | (right; rfl), by first | exact (fun _ h => ⟨_, h⟩) | exact (fun _ _ => ⟨_, rfl⟩)⟩, ?_⟩), rfl⟩
end Go.Proofs.Ytfdpigafekohgaa

/- Copies of tables (printed by walk.py) -/
namespace Go.Proofs.Ytfdpigafekohgaa
open Go.RowKit
set_option linter.unusedVariables false
set_option linter.unusedSimpArgs false
set_option maxRecDepth 100000

set_option maxHeartbeats 4000000 in
theorem cloneInt_c0 (r : List Int) (hl : r.length ≤ 1048576) : AC Try.prog 152 [.one (.sl (intE .i64) r)] [] (.one (.own 0)) [(0, some (.arr 3 (intE .i64) r true))] := by
  refine AC_body1 Try.func152 rfl rfl Try.ntmps152 rfl Try.results152 ?_
  refine AW_split 0 rfl (fun hx => ?_) ?_
  · subst hx
    refine AW_seq ?_
    refine AW_region ?_
    refine AL_p (x_assign rfl rfl) ?_
    refine AL_nil ?_
    refine AW_seq ?_
    refine AW_seq ?_
    refine AW_region ?_
    refine AL_p (x_move rfl rfl) ?_
    refine AL_p (x_nilnil rfl rfl rfl (E := 3) (n := 1) (by kernel_rfl)) ?_
    refine AL_nil ?_
    refine AW_condT rfl ?_
    refine AW_seq ?_
    refine AW_region ?_
    refine AL_p (x_assign rfl rfl) ?_
    refine AL_nil ?_
    refine AW_adoptT (T := 3) (e := (intE .i64)) 100 2 rfl rfl rfl ?_
    refine AW_ret ?_
    exact ⟨rn [(0, 100)], ⟨⟨⟨_, rfl, VLe.rf⟩, trivial⟩, ⟨⟨_, rfl, BLe.rf⟩, trivial⟩, trivial, rfl⟩⟩
  · refine AW_seq ?_
    refine AW_region ?_
    refine AL_p (x_assign rfl rfl) ?_
    refine AL_nil ?_
    refine AW_seq ?_
    refine AW_seq ?_
    refine AW_region ?_
    refine AL_p (x_move rfl rfl) ?_
    refine AL_p (x_snnil rfl rfl rfl (E := 3) (n := 1) (by kernel_rfl)) ?_
    refine AL_nil ?_
    refine AW_condF rfl ?_
    refine AW_skip ?_
    refine AW_seq ?_
    refine AW_region ?_
    refine AL_p (y_bslice0 (E := 3) (e := (intE .i64)) 101 rfl rfl rfl (by kernel_rfl)) ?_
    refine AL_p (x_move_sn rfl rfl) ?_
    refine AL_p (y_append_sl 102 true (.inr intE_nofp) rfl rfl rfl rfl rfl rfl (by kernel_rfl) (by simp; omega)) ?_
    refine AL_p (x_assign rfl rfl) ?_
    refine AL_nil ?_
    refine AW_ret ?_
    exact ⟨rn [(0, 102)], ⟨⟨⟨_, rfl, VLe.rf⟩, trivial⟩, ⟨⟨_, rfl, BLe.rf⟩, trivial⟩, trivial, rfl⟩⟩
theorem cloneInt_c (r : List Int) (hl : r.length ≤ 1048576) (k : Nat) : AC Try.prog 152 [.one (.sl (intE .i64) r)] [] (.one (.own k)) [(k, some (.arr 3 (intE .i64) r true))] := AC.at (cloneInt_c0 r hl) k

set_option maxHeartbeats 4000000 in
theorem cloneAct_c0 (r : List Actt) (hl : r.length ≤ 1048576) : AC Try.prog 136 [.one (.sl actE r)] [] (.one (.own 0)) [(0, some (.arr 114 actE r true))] := by
  refine AC_body1 Try.func136 rfl rfl Try.ntmps136 rfl Try.results136 ?_
  refine AW_split 0 rfl (fun hx => ?_) ?_
  · subst hx
    refine AW_seq ?_
    refine AW_region ?_
    refine AL_p (x_assign rfl rfl) ?_
    refine AL_nil ?_
    refine AW_seq ?_
    refine AW_seq ?_
    refine AW_region ?_
    refine AL_p (x_move rfl rfl) ?_
    refine AL_p (x_nilnil rfl rfl rfl (E := 114) (n := 3) (by kernel_rfl)) ?_
    refine AL_nil ?_
    refine AW_condT rfl ?_
    refine AW_seq ?_
    refine AW_region ?_
    refine AL_p (x_assign rfl rfl) ?_
    refine AL_nil ?_
    refine AW_adoptT (T := 114) (e := actE) 100 2 rfl rfl rfl ?_
    refine AW_ret ?_
    exact ⟨rn [(0, 100)], ⟨⟨⟨_, rfl, VLe.rf⟩, trivial⟩, ⟨⟨_, rfl, BLe.rf⟩, trivial⟩, trivial, rfl⟩⟩
  · refine AW_seq ?_
    refine AW_region ?_
    refine AL_p (x_assign rfl rfl) ?_
    refine AL_nil ?_
    refine AW_seq ?_
    refine AW_seq ?_
    refine AW_region ?_
    refine AL_p (x_move rfl rfl) ?_
    refine AL_p (x_snnil rfl rfl rfl (E := 114) (n := 3) (by kernel_rfl)) ?_
    refine AL_nil ?_
    refine AW_condF rfl ?_
    refine AW_skip ?_
    refine AW_seq ?_
    refine AW_region ?_
    refine AL_p (y_bslice0 (E := 114) (e := actE) 101 rfl rfl rfl (by kernel_rfl)) ?_
    refine AL_p (x_move_sn rfl rfl) ?_
    refine AL_p (y_append_sl 102 true (.inr actE_nofp) rfl rfl rfl rfl rfl rfl (by kernel_rfl) (by simp; omega)) ?_
    refine AL_p (x_assign rfl rfl) ?_
    refine AL_nil ?_
    refine AW_ret ?_
    exact ⟨rn [(0, 102)], ⟨⟨⟨_, rfl, VLe.rf⟩, trivial⟩, ⟨⟨_, rfl, BLe.rf⟩, trivial⟩, trivial, rfl⟩⟩
theorem cloneAct_c (r : List Actt) (hl : r.length ≤ 1048576) (k : Nat) : AC Try.prog 136 [.one (.sl actE r)] [] (.one (.own k)) [(k, some (.arr 114 actE r true))] := AC.at (cloneAct_c0 r hl) k

set_option maxHeartbeats 4000000 in
theorem copyMatchI_c (m : Matcht) (hm : smallMatch m) : AC Try.prog 135 [.agg (matchC m)] [] (.agg [.own 0, .own 1]) [(0, some (.arr 3 (intE .i64) m.v true)), (1, some (.arr 3 (intE .i64) m.m true))] := by
  refine AC_bodyC (n := 2) (k := 9) (T := [(2, .one (.ptr 9 0))]) (Lf := ((9, some (.box [.own 0, .own 1])) :: [(0, some (.arr 3 (intE .i64) m.v true)), (1, some (.arr 3 (intE .i64) m.m true))])) Try.func135 rfl rfl Try.ntmps135 rfl Try.results135 rfl rfl (by kernel_rfl) rfl rfl ⟨trivial, (by repeat (first | exact trivial | refine ⟨⟨_, rfl, BLe.rf⟩, ?_⟩)), (by repeat (first | exact trivial | refine ⟨⟨rfl, by first | (left; intro h; cases h) | (right; rfl), by first | exact (fun _ h => ⟨_, h⟩) | exact (fun _ _ => ⟨_, rfl⟩)⟩, ?_⟩)), rfl⟩ ?_
  refine AW_seq ?_
  refine AW_region ?_
  refine AL_p (x_box 100 rfl rfl rfl rfl rfl rfl rfl) ?_
  refine AL_p (x_alloc (z := .agg #[.slice none 0 0, .slice none 0 0]) 101 rfl (by kernel_rfl) rfl rfl rfl rfl) ?_
  refine AL_nil ?_
  refine AW_seq ?_
  refine AW_draw rfl ?_
  refine AL_p (x_field (off := 0) (o' := 0) rfl rfl rfl (by kernel_rfl) rfl) ?_
  refine AL_p (x_load1 rfl rfl rfl (by kernel_rfl) rfl) ?_
  refine AL_p (x_call1 rfl rfl rfl (cloneInt_c m.v hm.1 102) rfl rfl rfl rfl) ?_
  refine AL_p (x_field (off := 1) (o' := 1) rfl rfl rfl (by kernel_rfl) rfl) ?_
  refine AL_p (x_load1 rfl rfl rfl (by kernel_rfl) rfl) ?_
  refine AL_p (x_call1 rfl rfl rfl (cloneInt_c m.m hm.2 103) rfl rfl rfl rfl) ?_
  refine AL_p (x_build (zs := [.slice none 0 0, .slice none 0 0]) (places := [(0, 1), (1, 1)]) rfl (by kernel_rfl) rfl rfl rfl rfl rfl) ?_
  refine AL_p (x_store (n := 2) rfl rfl rfl rfl (by kernel_rfl) rfl rfl rfl) ?_
  refine AL_nild (by kernel_rfl) ?_
  refine AW_ret ?_
  exact ⟨rn [(9, 101), (0, 102), (1, 103)], ⟨⟨⟨_, rfl, VLe.rf⟩, trivial⟩, ⟨⟨_, rfl, BLe.rf⟩, ⟨_, rfl, by first | exact BLe.rf | exact BLe.arr (List.nil_append _)⟩, ⟨_, rfl, by first | exact BLe.rf | exact BLe.arr (List.nil_append _)⟩, trivial⟩, trivial, rfl⟩⟩

set_option maxHeartbeats 4000000 in
theorem copyMatchS_c (m : Matcht) (hm : smallMatch m) : AC Try.prog 119 [.agg (matchC m)] [] (.agg [.own 0, .own 1]) [(0, some (.arr 3 (intE .i64) m.v true)), (1, some (.arr 3 (intE .i64) m.m true))] := by
  refine AC_bodyC (n := 2) (k := 9) (T := [(2, .one (.ptr 9 0))]) (Lf := ((9, some (.box [.own 0, .own 1])) :: [(0, some (.arr 3 (intE .i64) m.v true)), (1, some (.arr 3 (intE .i64) m.m true))])) Try.func119 rfl rfl Try.ntmps119 rfl Try.results119 rfl rfl (by kernel_rfl) rfl rfl ⟨trivial, (by repeat (first | exact trivial | refine ⟨⟨_, rfl, BLe.rf⟩, ?_⟩)), (by repeat (first | exact trivial | refine ⟨⟨rfl, by first | (left; intro h; cases h) | (right; rfl), by first | exact (fun _ h => ⟨_, h⟩) | exact (fun _ _ => ⟨_, rfl⟩)⟩, ?_⟩)), rfl⟩ ?_
  refine AW_seq ?_
  refine AW_region ?_
  refine AL_p (x_box 100 rfl rfl rfl rfl rfl rfl rfl) ?_
  refine AL_p (x_alloc (z := .agg #[.slice none 0 0, .slice none 0 0]) 101 rfl (by kernel_rfl) rfl rfl rfl rfl) ?_
  refine AL_nil ?_
  refine AW_seq ?_
  refine AW_draw rfl ?_
  refine AL_p (y_bslice0 (E := 3) (e := (intE .i64)) 102 rfl rfl rfl (by kernel_rfl)) ?_
  refine AL_p (x_field (off := 0) (o' := 0) rfl rfl rfl (by kernel_rfl) rfl) ?_
  refine AL_p (x_load1 rfl rfl rfl (by kernel_rfl) rfl) ?_
  refine AL_p (y_append_sl 103 true (.inr intE_nofp) rfl rfl rfl rfl rfl rfl (by kernel_rfl) (by simp only [List.length_nil]; have := hm.1; omega)) ?_
  refine AL_p (y_bslice0 (E := 3) (e := (intE .i64)) 104 rfl rfl rfl (by kernel_rfl)) ?_
  refine AL_p (x_field (off := 1) (o' := 1) rfl rfl rfl (by kernel_rfl) rfl) ?_
  refine AL_p (x_load1 rfl rfl rfl (by kernel_rfl) rfl) ?_
  refine AL_p (y_append_sl 105 true (.inr intE_nofp) rfl rfl rfl rfl rfl rfl (by kernel_rfl) (by simp only [List.length_nil]; have := hm.2; omega)) ?_
  refine AL_p (x_build (zs := [.slice none 0 0, .slice none 0 0]) (places := [(0, 1), (1, 1)]) rfl (by kernel_rfl) rfl rfl rfl rfl rfl) ?_
  refine AL_p (x_store (n := 2) rfl rfl rfl rfl (by kernel_rfl) rfl rfl rfl) ?_
  refine AL_nild (by kernel_rfl) ?_
  refine AW_ret ?_
  exact ⟨rn [(9, 101), (0, 103), (1, 105)], ⟨⟨⟨_, rfl, VLe.rf⟩, trivial⟩, ⟨⟨_, rfl, BLe.rf⟩, ⟨_, rfl, by first | exact BLe.rf | exact BLe.arr (List.nil_append _)⟩, ⟨_, rfl, by first | exact BLe.rf | exact BLe.arr (List.nil_append _)⟩, trivial⟩, trivial, rfl⟩⟩

set_option maxHeartbeats 4000000 in
theorem copyEntI_c (e : Entryt) (he : smallEntry e) : AC Try.prog 95 [.agg (entryC e)] [] (.agg [.c (.int .i64 e.epoch), .c (.int .i64 e.prio), .own 0, .own 1, .own 2, .c (.int .i64 e.hits)]) [(0, some (.arr 3 (intE .i64) e.mat.v true)), (1, some (.arr 3 (intE .i64) e.mat.m true)), (2, some (.arr 114 actE e.acts true))] := by
  refine AC_bodyC (n := 6) (k := 9) (T := [(2, .one (.ptr 9 0))]) (Lf := ((9, some (.box [.c (.int .i64 e.epoch), .c (.int .i64 e.prio), .own 0, .own 1, .own 2, .c (.int .i64 e.hits)])) :: [(0, some (.arr 3 (intE .i64) e.mat.v true)), (1, some (.arr 3 (intE .i64) e.mat.m true)), (2, some (.arr 114 actE e.acts true))])) Try.func95 rfl rfl Try.ntmps95 rfl Try.results95 rfl rfl (by kernel_rfl) rfl rfl ⟨trivial, (by repeat (first | exact trivial | refine ⟨⟨_, rfl, BLe.rf⟩, ?_⟩)), (by repeat (first | exact trivial | refine ⟨⟨rfl, by first | (left; intro h; cases h) | (right; rfl), by first | exact (fun _ h => ⟨_, h⟩) | exact (fun _ _ => ⟨_, rfl⟩)⟩, ?_⟩)), rfl⟩ ?_
  refine AW_seq ?_
  refine AW_region ?_
  refine AL_p (x_box 100 rfl rfl rfl rfl rfl rfl rfl) ?_
  refine AL_p (x_alloc (z := .agg #[.int .i64 0, .int .i64 0, .slice none 0 0, .slice none 0 0, .slice none 0 0, .int .i64 0]) 101 rfl (by kernel_rfl) rfl rfl rfl rfl) ?_
  refine AL_nil ?_
  refine AW_seq ?_
  refine AW_region ?_
  refine AL_p (x_field (off := 2) (o' := 2) rfl rfl rfl (by kernel_rfl) rfl) ?_
  refine AL_p (x_loadN (n := 2) rfl rfl rfl (by kernel_rfl) rfl rfl) ?_
  refine AL_p (x_callR rfl rfl rfl (AC.renum (res := .agg [.own 102, .own 103]) (L := [(102, some (.arr 3 (intE .i64) e.mat.v true)), (103, some (.arr 3 (intE .i64) e.mat.m true))]) (r := rn [(102, 0), (103, 1)]) (copyMatchI_c e.mat he.1) ⟨⟨_, rfl, BLe.rf⟩, ⟨_, rfl, BLe.rf⟩, trivial⟩ rfl) rfl AllV.rf rfl rfl rfl rfl rfl) ?_
  refine AL_p (x_field (off := 2) (o' := 2) rfl rfl rfl (by kernel_rfl) rfl) ?_
  refine AL_p (x_store (n := 2) rfl rfl rfl rfl (by kernel_rfl) rfl rfl rfl) ?_
  refine AL_nil ?_
  refine AW_seq ?_
  refine AW_region ?_
  refine AL_p (x_field (off := 4) (o' := 4) rfl rfl rfl (by kernel_rfl) rfl) ?_
  refine AL_p (x_load1 rfl rfl rfl (by kernel_rfl) rfl) ?_
  refine AL_p (x_call1 rfl rfl rfl (cloneAct_c e.acts he.2.1 104) rfl rfl rfl rfl) ?_
  refine AL_p (x_field (off := 4) (o' := 4) rfl rfl rfl (by kernel_rfl) rfl) ?_
  refine AL_p (x_store (n := 1) rfl rfl rfl rfl (by kernel_rfl) rfl rfl rfl) ?_
  refine AL_nil ?_
  refine AW_seq ?_
  refine AW_region ?_
  refine AL_p (x_loadN (n := 6) rfl rfl rfl (by kernel_rfl) rfl rfl) ?_
  refine AL_p (x_store (n := 6) rfl rfl rfl rfl (by kernel_rfl) rfl rfl rfl) ?_
  refine AL_nil ?_
  refine AW_ret ?_
  exact ⟨rn [(9, 101), (0, 102), (1, 103), (2, 104)], ⟨⟨⟨_, rfl, VLe.rf⟩, trivial⟩, ⟨⟨_, rfl, BLe.rf⟩, ⟨_, rfl, by first | exact BLe.rf | exact BLe.arr (List.nil_append _)⟩, ⟨_, rfl, by first | exact BLe.rf | exact BLe.arr (List.nil_append _)⟩, ⟨_, rfl, by first | exact BLe.rf | exact BLe.arr (List.nil_append _)⟩, trivial⟩, trivial, rfl⟩⟩

set_option maxHeartbeats 4000000 in
theorem copyEntS_c (e : Entryt) (he : smallEntry e) : AC Try.prog 91 [.agg (entryC e)] [] (.agg [.c (.int .i64 e.epoch), .c (.int .i64 e.prio), .own 0, .own 1, .own 2, .c (.int .i64 e.hits)]) [(0, some (.arr 3 (intE .i64) e.mat.v true)), (1, some (.arr 3 (intE .i64) e.mat.m true)), (2, some (.arr 114 actE e.acts true))] := by
  refine AC_bodyC (n := 6) (k := 9) (T := [(2, .one (.ptr 9 0))]) (Lf := ((9, some (.box [.c (.int .i64 e.epoch), .c (.int .i64 e.prio), .own 0, .own 1, .own 2, .c (.int .i64 e.hits)])) :: [(0, some (.arr 3 (intE .i64) e.mat.v true)), (1, some (.arr 3 (intE .i64) e.mat.m true)), (2, some (.arr 114 actE e.acts true))])) Try.func91 rfl rfl Try.ntmps91 rfl Try.results91 rfl rfl (by kernel_rfl) rfl rfl ⟨trivial, (by repeat (first | exact trivial | refine ⟨⟨_, rfl, BLe.rf⟩, ?_⟩)), (by repeat (first | exact trivial | refine ⟨⟨rfl, by first | (left; intro h; cases h) | (right; rfl), by first | exact (fun _ h => ⟨_, h⟩) | exact (fun _ _ => ⟨_, rfl⟩)⟩, ?_⟩)), rfl⟩ ?_
  refine AW_seq ?_
  refine AW_region ?_
  refine AL_p (x_box 100 rfl rfl rfl rfl rfl rfl rfl) ?_
  refine AL_p (x_alloc (z := .agg #[.int .i64 0, .int .i64 0, .slice none 0 0, .slice none 0 0, .slice none 0 0, .int .i64 0]) 101 rfl (by kernel_rfl) rfl rfl rfl rfl) ?_
  refine AL_nil ?_
  refine AW_seq ?_
  refine AW_region ?_
  refine AL_p (x_field (off := 2) (o' := 2) rfl rfl rfl (by kernel_rfl) rfl) ?_
  refine AL_p (x_loadN (n := 2) rfl rfl rfl (by kernel_rfl) rfl rfl) ?_
  refine AL_p (x_callR rfl rfl rfl (AC.renum (res := .agg [.own 102, .own 103]) (L := [(102, some (.arr 3 (intE .i64) e.mat.v true)), (103, some (.arr 3 (intE .i64) e.mat.m true))]) (r := rn [(102, 0), (103, 1)]) (copyMatchS_c e.mat he.1) ⟨⟨_, rfl, BLe.rf⟩, ⟨_, rfl, BLe.rf⟩, trivial⟩ rfl) rfl AllV.rf rfl rfl rfl rfl rfl) ?_
  refine AL_p (x_field (off := 2) (o' := 2) rfl rfl rfl (by kernel_rfl) rfl) ?_
  refine AL_p (x_store (n := 2) rfl rfl rfl rfl (by kernel_rfl) rfl rfl rfl) ?_
  refine AL_nil ?_
  refine AW_seq ?_
  refine AW_region ?_
  refine AL_p (y_bslice0 (E := 114) (e := actE) 104 rfl rfl rfl (by kernel_rfl)) ?_
  refine AL_p (x_field (off := 4) (o' := 4) rfl rfl rfl (by kernel_rfl) rfl) ?_
  refine AL_p (x_load1 rfl rfl rfl (by kernel_rfl) rfl) ?_
  refine AL_p (y_append_sl 105 true (.inr actE_nofp) rfl rfl rfl rfl rfl rfl (by kernel_rfl) (by simp only [List.length_nil]; have := he.2.1; omega)) ?_
  refine AL_p (x_field (off := 4) (o' := 4) rfl rfl rfl (by kernel_rfl) rfl) ?_
  refine AL_p (x_store (n := 1) rfl rfl rfl rfl (by kernel_rfl) rfl rfl rfl) ?_
  refine AL_nil ?_
  refine AW_seq ?_
  refine AW_region ?_
  refine AL_p (x_loadN (n := 6) rfl rfl rfl (by kernel_rfl) rfl rfl) ?_
  refine AL_p (x_store (n := 6) rfl rfl rfl rfl (by kernel_rfl) rfl rfl rfl) ?_
  refine AL_nil ?_
  refine AW_ret ?_
  exact ⟨rn [(9, 101), (0, 102), (1, 103), (2, 105)], ⟨⟨⟨_, rfl, VLe.rf⟩, trivial⟩, ⟨⟨_, rfl, BLe.rf⟩, ⟨_, rfl, by first | exact BLe.rf | exact BLe.arr (List.nil_append _)⟩, ⟨_, rfl, by first | exact BLe.rf | exact BLe.arr (List.nil_append _)⟩, ⟨_, rfl, by first | exact BLe.rf | exact BLe.arr (List.nil_append _)⟩, trivial⟩, trivial, rfl⟩⟩

set_option maxHeartbeats 4000000 in
theorem copyTabI_c0 (t : Tablet) (ht : smallTable t) : AC Try.prog 94 [.agg (tableC t)] [] (.agg [.c (.int .i64 t.cap), .own 0]) [(0, some (.arr 74 entryE t.entries true))] := by
  refine AC_bodyC (n := 2) (k := 9) (T := [(2, .one (.ptr 9 0))]) (Lf := ((9, some (.box [.c (.int .i64 t.cap), .own 0])) :: [(0, some (.arr 74 entryE t.entries true))])) Try.func94 rfl rfl Try.ntmps94 rfl Try.results94 rfl rfl (by kernel_rfl) rfl rfl ⟨trivial, (by repeat (first | exact trivial | refine ⟨⟨_, rfl, BLe.rf⟩, ?_⟩)), (by repeat (first | exact trivial | refine ⟨⟨rfl, by first | (left; intro h; cases h) | (right; rfl), by first | exact (fun _ h => ⟨_, h⟩) | exact (fun _ _ => ⟨_, rfl⟩)⟩, ?_⟩)), rfl⟩ ?_
  refine AW_aggmax 0 1 rfl rfl (fun hm0_1 => ?_)
  refine AW_seq ?_
  refine AW_region ?_
  refine AL_p (x_box 100 rfl rfl rfl rfl rfl rfl rfl) ?_
  refine AL_p (x_alloc (z := .agg #[.int .i64 0, .slice none 0 0]) 101 rfl (by kernel_rfl) rfl rfl rfl rfl) ?_
  refine AL_nil ?_
  refine AW_seq ?_
  refine AW_region ?_
  refine AL_p (x_field (off := 0) (o' := 0) rfl rfl rfl (by kernel_rfl) rfl) ?_
  refine AL_p (x_load1 rfl rfl rfl (by kernel_rfl) rfl) ?_
  refine AL_p (x_build (zs := [.int .i64 0, .slice none 0 0]) (places := [(0, 1), (1, 1)]) rfl (by kernel_rfl) rfl rfl rfl rfl rfl) ?_
  refine AL_p (x_alloc (z := .agg #[.int .i64 0, .slice none 0 0]) 102 rfl (by kernel_rfl) rfl rfl rfl rfl) ?_
  refine AL_p (x_store (n := 2) rfl rfl rfl rfl (by kernel_rfl) rfl rfl rfl) ?_
  refine AL_nil ?_
  refine AW_seq ?_
  refine AW_seq ?_
  refine AW_region ?_
  refine AL_p (x_field (off := 1) (o' := 1) rfl rfl rfl (by kernel_rfl) rfl) ?_
  refine AL_p (x_load1 rfl rfl rfl (by kernel_rfl) rfl) ?_
  refine AL_p (x_len (E := 74) (n := 6) rfl rfl (by kernel_rfl)) ?_
  refine AL_p (x_move rfl rfl) ?_
  refine AL_nil ?_
  refine AW_block ?_
  refine AW_adopt (T := 74) (e := entryE) 103 102 1 rfl rfl rfl rfl rfl ?_
  refine AW_loop2 (ι := {q : Nat // q ≤ t.entries.length}) (fun p => [(12, .one (.c (.int .i64 ((p.1) : Int))))]) (fun p => [(103, some (.arr 74 entryE (t.entries.take (p.1)) true))]) [2, 3, 10, 11] [100, 101, 102] (fun p => t.entries.length - (p.1)) ⟨0, by omega⟩ (rn []) ?_ ?_
  exact ⟨by (repeat refine ⟨⟨_, rfl, by first | exact VLe.rf | exact vle_int (by dsimp only; omega)⟩, ?_⟩); exact trivial, by (repeat refine ⟨⟨_, rfl, by first | exact BLe.rf | exact BLe.box AllC.rf | exact BLe.arr (by first | exact take_none | exact take_more (by omega))⟩, ?_⟩); exact trivial, by repeat (first | exact trivial | refine ⟨⟨rfl, by first | (left; intro h; cases h) | (right; rfl), by first | exact (fun _ h => ⟨_, h⟩) | exact (fun _ _ => ⟨_, rfl⟩)⟩, ?_⟩), rfl⟩
  rintro ⟨k, hinv⟩
  dsimp only
  have hl := ht.1
  refine AW_seq ?_
  refine AW_region ?_
  refine AL_b (x_lss rfl rfl rfl) (fun b13 h13 => ?_)
  refine AL_nil ?_
  refine AW_seq ?_
  cases b13
  · try simp only [tdy] at h13
    refine AW_condF rfl ?_
    refine AW_exit (BQ_hit ?_)
    refine AW_seq ?_
    refine AW_region ?_
    refine AL_p (x_loadN (n := 2) rfl rfl rfl (by kernel_rfl) rfl rfl) ?_
    refine AL_p (x_store (n := 2) rfl rfl rfl rfl (by kernel_rfl) rfl rfl rfl) ?_
    refine AL_nil ?_
    refine AW_ret ?_
    exact ⟨rn [(9, 101), (0, 103)], ⟨⟨⟨_, rfl, VLe.rf⟩, trivial⟩, ⟨⟨_, rfl, by first | exact BLe.rf | (subst_vars; exact BLe.rf)⟩, ⟨_, rfl, BLe.arr (List.take_of_length_le (by omega))⟩, trivial⟩, trivial, rfl⟩⟩
  try simp only [tdy] at h13
  refine AW_condT rfl ?_
  refine AW_skip ?_
  refine AW_seq ?_
  refine AW_block ?_
  refine AW_seq ?_
  refine AW_region ?_
  refine AL_p (x_index (E := 74) (n := 6) rfl rfl rfl (by kernel_rfl) rfl (k := k) (by omega) (by omega)) ?_
  refine AL_p (x_eloadW (n := 6) rfl rfl (by kernel_rfl) rfl) ?_
  refine AL_p (x_alloc (z := .agg #[.int .i64 0, .int .i64 0, .slice none 0 0, .slice none 0 0, .slice none 0 0, .int .i64 0]) 104 rfl (by kernel_rfl) rfl rfl rfl rfl) ?_
  refine AL_p (x_store (n := 6) rfl rfl rfl rfl (by kernel_rfl) rfl rfl rfl) ?_
  refine AL_nil ?_
  refine AW_draw rfl ?_
  refine AL_p (x_field (off := 1) (o' := 1) rfl rfl rfl (by kernel_rfl) rfl) ?_
  refine AL_p (x_load1 rfl rfl rfl (by kernel_rfl) rfl) ?_
  refine AL_p (x_loadN (n := 6) rfl rfl rfl (by kernel_rfl) rfl rfl) ?_
  refine AL_p (x_callR rfl rfl rfl (AC.renum (res := .agg [.c (.int .i64 (t.entries[k]'(by omega)).epoch), .c (.int .i64 (t.entries[k]'(by omega)).prio), .own 105, .own 106, .own 107, .c (.int .i64 (t.entries[k]'(by omega)).hits)]) (L := [(105, some (.arr 3 (intE .i64) (t.entries[k]'(by omega)).mat.v true)), (106, some (.arr 3 (intE .i64) (t.entries[k]'(by omega)).mat.m true)), (107, some (.arr 114 actE (t.entries[k]'(by omega)).acts true))]) (r := rn [(105, 0), (106, 1), (107, 2)]) (copyEntI_c (t.entries[k]'(by omega)) (ht.2 _ (List.getElem_mem _))) ⟨⟨_, rfl, BLe.rf⟩, ⟨_, rfl, BLe.rf⟩, ⟨_, rfl, BLe.rf⟩, trivial⟩ rfl) rfl AllV.rf rfl rfl rfl rfl rfl) ?_
  refine AL_p (y_bslice (E := 74) (e := entryE) [.tmp 19] ([(t.entries[k]'(by omega))]) 108 rfl rfl rfl rfl rfl rfl rfl rfl FitL.rf rfl rfl rfl rfl rfl rfl (by kernel_rfl)) ?_
  refine AL_p (y_append 109 rfl rfl rfl rfl rfl rfl rfl rfl (by kernel_rfl) (by simp only [List.length_take, List.length_cons, List.length_nil]; omega)) ?_
  refine AL_p (x_field (off := 1) (o' := 1) rfl rfl rfl (by kernel_rfl) rfl) ?_
  refine AL_p (x_store (n := 1) rfl rfl rfl rfl (by kernel_rfl) rfl rfl rfl) ?_
  refine AL_nild (by kernel_rfl) ?_
  refine AW_region ?_
  refine AL_p (x_add rfl rfl rfl (IntWalk.i64_in _ (by omega))) ?_
  refine AL_p (x_move rfl rfl) ?_
  refine AL_nil ?_
  refine ⟨⟨k + 1, by omega⟩, rn [(103, 109)], ?_, by dsimp only; omega⟩
  exact ⟨by (repeat refine ⟨⟨_, rfl, by first | exact VLe.rf | exact vle_int (by dsimp only; omega)⟩, ?_⟩); exact trivial, by (repeat refine ⟨⟨_, rfl, by first | exact BLe.rf | exact BLe.box AllC.rf | exact BLe.arr (by first | exact take_none | exact take_more (by omega))⟩, ?_⟩); exact trivial, by repeat (first | exact trivial | refine ⟨⟨rfl, by first | (left; intro h; cases h) | (right; rfl), by first | exact (fun _ h => ⟨_, h⟩) | exact (fun _ _ => ⟨_, rfl⟩)⟩, ?_⟩), rfl⟩
theorem copyTabI_c (t : Tablet) (ht : smallTable t) (k : Nat) : AC Try.prog 94 [.agg (tableC t)] [] (.agg [.c (.int .i64 t.cap), .own k]) [(k, some (.arr 74 entryE t.entries true))] := AC.at (copyTabI_c0 t ht) k

set_option maxHeartbeats 4000000 in
theorem copyTabS_c0 (t : Tablet) (ht : smallTable t) : AC Try.prog 89 [.agg (tableC t)] [] (.agg [.c (.int .i64 t.cap), .own 0]) [(0, some (.arr 74 entryE t.entries true))] := by
  refine AC_bodyC (n := 2) (k := 9) (T := [(2, .one (.ptr 9 0))]) (Lf := ((9, some (.box [.c (.int .i64 t.cap), .own 0])) :: [(0, some (.arr 74 entryE t.entries true))])) Try.func89 rfl rfl Try.ntmps89 rfl Try.results89 rfl rfl (by kernel_rfl) rfl rfl ⟨trivial, (by repeat (first | exact trivial | refine ⟨⟨_, rfl, BLe.rf⟩, ?_⟩)), (by repeat (first | exact trivial | refine ⟨⟨rfl, by first | (left; intro h; cases h) | (right; rfl), by first | exact (fun _ h => ⟨_, h⟩) | exact (fun _ _ => ⟨_, rfl⟩)⟩, ?_⟩)), rfl⟩ ?_
  refine AW_aggmax 0 1 rfl rfl (fun hm0_1 => ?_)
  refine AW_seq ?_
  refine AW_region ?_
  refine AL_p (x_box 100 rfl rfl rfl rfl rfl rfl rfl) ?_
  refine AL_p (x_alloc (z := .agg #[.int .i64 0, .slice none 0 0]) 101 rfl (by kernel_rfl) rfl rfl rfl rfl) ?_
  refine AL_nil ?_
  refine AW_seq ?_
  refine AW_region ?_
  refine AL_p (x_field (off := 0) (o' := 0) rfl rfl rfl (by kernel_rfl) rfl) ?_
  refine AL_p (x_load1 rfl rfl rfl (by kernel_rfl) rfl) ?_
  refine AL_p (y_bslice0 (E := 74) (e := entryE) 102 rfl rfl rfl (by kernel_rfl)) ?_
  refine AL_p (x_build (zs := [.int .i64 0, .slice none 0 0]) (places := [(0, 1), (1, 1)]) rfl (by kernel_rfl) rfl rfl rfl rfl rfl) ?_
  refine AL_p (x_alloc (z := .agg #[.int .i64 0, .slice none 0 0]) 103 rfl (by kernel_rfl) rfl rfl rfl rfl) ?_
  refine AL_p (x_store (n := 2) rfl rfl rfl rfl (by kernel_rfl) rfl rfl rfl) ?_
  refine AL_nil ?_
  refine AW_seq ?_
  refine AW_seq ?_
  refine AW_region ?_
  refine AL_p (x_field (off := 1) (o' := 1) rfl rfl rfl (by kernel_rfl) rfl) ?_
  refine AL_p (x_load1 rfl rfl rfl (by kernel_rfl) rfl) ?_
  refine AL_p (x_len (E := 74) (n := 6) rfl rfl (by kernel_rfl)) ?_
  refine AL_p (x_move rfl rfl) ?_
  refine AL_nil ?_
  refine AW_block ?_
  refine AW_loop2 (ι := {q : Nat // q ≤ t.entries.length}) (fun p => [(12, .one (.c (.int .i64 ((p.1) : Int))))]) (fun p => [(102, some (.arr 74 entryE (t.entries.take (p.1)) true))]) [1, 2, 3, 11] [100, 101, 103] (fun p => t.entries.length - (p.1)) ⟨0, by omega⟩ (rn []) ?_ ?_
  exact ⟨by (repeat refine ⟨⟨_, rfl, by first | exact VLe.rf | exact vle_int (by dsimp only; omega)⟩, ?_⟩); exact trivial, by (repeat refine ⟨⟨_, rfl, by first | exact BLe.rf | exact BLe.box AllC.rf | exact BLe.arr (by first | exact take_none | exact take_more (by omega))⟩, ?_⟩); exact trivial, by repeat (first | exact trivial | refine ⟨⟨rfl, by first | (left; intro h; cases h) | (right; rfl), by first | exact (fun _ h => ⟨_, h⟩) | exact (fun _ _ => ⟨_, rfl⟩)⟩, ?_⟩), rfl⟩
  rintro ⟨k, hinv⟩
  dsimp only
  have hl := ht.1
  refine AW_seq ?_
  refine AW_region ?_
  refine AL_b (x_lss rfl rfl rfl) (fun b13 h13 => ?_)
  refine AL_nil ?_
  refine AW_seq ?_
  cases b13
  · try simp only [tdy] at h13
    refine AW_condF rfl ?_
    refine AW_exit (BQ_hit ?_)
    refine AW_seq ?_
    refine AW_region ?_
    refine AL_p (x_loadN (n := 2) rfl rfl rfl (by kernel_rfl) rfl rfl) ?_
    refine AL_p (x_store (n := 2) rfl rfl rfl rfl (by kernel_rfl) rfl rfl rfl) ?_
    refine AL_nil ?_
    refine AW_ret ?_
    exact ⟨rn [(9, 101), (0, 102)], ⟨⟨⟨_, rfl, VLe.rf⟩, trivial⟩, ⟨⟨_, rfl, by first | exact BLe.rf | (subst_vars; exact BLe.rf)⟩, ⟨_, rfl, BLe.arr (List.take_of_length_le (by omega))⟩, trivial⟩, trivial, rfl⟩⟩
  try simp only [tdy] at h13
  refine AW_condT rfl ?_
  refine AW_skip ?_
  refine AW_seq ?_
  refine AW_block ?_
  refine AW_seq ?_
  refine AW_region ?_
  refine AL_p (x_move rfl rfl) ?_
  refine AL_p (x_assign rfl rfl) ?_
  refine AL_nil ?_
  refine AW_draw rfl ?_
  refine AL_p (x_field (off := 1) (o' := 1) rfl rfl rfl (by kernel_rfl) rfl) ?_
  refine AL_p (x_load1 rfl rfl rfl (by kernel_rfl) rfl) ?_
  refine AL_p (x_field (off := 1) (o' := 1) rfl rfl rfl (by kernel_rfl) rfl) ?_
  refine AL_p (x_load1 rfl rfl rfl (by kernel_rfl) rfl) ?_
  refine AL_p (x_move rfl rfl) ?_
  refine AL_p (x_index (E := 74) (n := 6) rfl rfl rfl (by kernel_rfl) rfl (k := k) (by omega) (by omega)) ?_
  refine AL_p (x_eloadW (n := 6) rfl rfl (by kernel_rfl) rfl) ?_
  refine AL_p (x_callR rfl rfl rfl (AC.renum (res := .agg [.c (.int .i64 (t.entries[k]'(by omega)).epoch), .c (.int .i64 (t.entries[k]'(by omega)).prio), .own 104, .own 105, .own 106, .c (.int .i64 (t.entries[k]'(by omega)).hits)]) (L := [(104, some (.arr 3 (intE .i64) (t.entries[k]'(by omega)).mat.v true)), (105, some (.arr 3 (intE .i64) (t.entries[k]'(by omega)).mat.m true)), (106, some (.arr 114 actE (t.entries[k]'(by omega)).acts true))]) (r := rn [(104, 0), (105, 1), (106, 2)]) (copyEntS_c (t.entries[k]'(by omega)) (ht.2 _ (List.getElem_mem _))) ⟨⟨_, rfl, BLe.rf⟩, ⟨_, rfl, BLe.rf⟩, ⟨_, rfl, BLe.rf⟩, trivial⟩ rfl) rfl AllV.rf rfl rfl rfl rfl rfl) ?_
  refine AL_p (y_bslice (E := 74) (e := entryE) [.tmp 22] ([(t.entries[k]'(by omega))]) 107 rfl rfl rfl rfl rfl rfl rfl rfl FitL.rf rfl rfl rfl rfl rfl rfl (by kernel_rfl)) ?_
  refine AL_p (y_append 108 rfl rfl rfl rfl rfl rfl rfl rfl (by kernel_rfl) (by simp only [List.length_take, List.length_cons, List.length_nil]; omega)) ?_
  refine AL_p (x_field (off := 1) (o' := 1) rfl rfl rfl (by kernel_rfl) rfl) ?_
  refine AL_p (x_store (n := 1) rfl rfl rfl rfl (by kernel_rfl) rfl rfl rfl) ?_
  refine AL_nild (by kernel_rfl) ?_
  refine AW_region ?_
  refine AL_p (x_add rfl rfl rfl (IntWalk.i64_in _ (by omega))) ?_
  refine AL_p (x_move rfl rfl) ?_
  refine AL_nil ?_
  refine ⟨⟨k + 1, by omega⟩, rn [(102, 108)], ?_, by dsimp only; omega⟩
  exact ⟨by (repeat refine ⟨⟨_, rfl, by first | exact VLe.rf | exact vle_int (by dsimp only; omega)⟩, ?_⟩); exact trivial, by (repeat refine ⟨⟨_, rfl, by first | exact BLe.rf | exact BLe.box AllC.rf | exact BLe.arr (by first | exact take_none | exact take_more (by omega))⟩, ?_⟩); exact trivial, by repeat (first | exact trivial | refine ⟨⟨rfl, by first | (left; intro h; cases h) | (right; rfl), by first | exact (fun _ h => ⟨_, h⟩) | exact (fun _ _ => ⟨_, rfl⟩)⟩, ?_⟩), rfl⟩
theorem copyTabS_c (t : Tablet) (ht : smallTable t) (k : Nat) : AC Try.prog 89 [.agg (tableC t)] [] (.agg [.c (.int .i64 t.cap), .own k]) [(k, some (.arr 74 entryE t.entries true))] := AC.at (copyTabS_c0 t ht) k
end Go.Proofs.Ytfdpigafekohgaa

/- The laws' own functions: GenD (printed by gen.py) -/
namespace Go.Proofs.Ytfdpigafekohgaa
open Go.RowKit
set_option linter.unusedVariables false
set_option maxRecDepth 100000

structure Changet where
  name : ByteArray
  plus : Relt
  minus : Relt
structure Deltat where
  changes : List (Changet)
end Go.Proofs.Ytfdpigafekohgaa

/- Right deltas, in plain words; fields of struct values. -/
namespace Go.Proofs.Ytfdpigafekohgaa
open Go.RowKit
set_option linter.unusedVariables false

section ops
variable {P : Program} {N : Nat} {s : St} {d : Nat} {ty : TypeId} {pos : String} {after : Array Edge} {gd : Option (Nat × Bool)}
end ops
end Go.Proofs.Ytfdpigafekohgaa

/- A delta that fits a store, in plain words. -/
namespace Go.Proofs.Ytfdpigafekohgaa
open Go.RowKit
set_option linter.unusedVariables false

section
variable {s : Storet} {l : List Changet} {k : Nat} (hk : k < l.length)
end
end Go.Proofs.Ytfdpigafekohgaa

/- The laws' marks: MarkB (printed by genmark.py) -/
namespace Go.Proofs.Ytfdpigafekohgaa
open Go.RowKit
set_option linter.unusedVariables false
set_option linter.unusedSimpArgs false
set_option maxRecDepth 100000

end Go.Proofs.Ytfdpigafekohgaa

/- The laws' marks: MarkC (printed by genmark.py) -/
namespace Go.Proofs.Ytfdpigafekohgaa
open Go.RowKit
set_option linter.unusedVariables false
set_option linter.unusedSimpArgs false
set_option maxRecDepth 100000

end Go.Proofs.Ytfdpigafekohgaa

/- Sizes of data (printed by mktot.py) -/
namespace Go.Proofs.Ytfdpigafekohgaa
open Go.RowKit
set_option linter.unusedVariables false

end Go.Proofs.Ytfdpigafekohgaa

/- Sizes of data (printed by mktot.py) -/
namespace Go.Proofs.Ytfdpigafekohgaa
open Go.RowKit
set_option linter.unusedVariables false

end Go.Proofs.Ytfdpigafekohgaa

/- Copies of relations, deltas turned back, deltas between stores, in plain words. -/
namespace Go.Proofs.Ytfdpigafekohgaa
open Go.RowKit
set_option linter.unusedVariables false

end Go.Proofs.Ytfdpigafekohgaa

/- Numbers and texts ars bytes, in plain words. -/
namespace Go.Proofs.Ytfdpigafekohgaa
open Go.RowKit
set_option linter.unusedVariables false

theorem wf64i {m : Int} (h0 : 0 ≤ m) (h1 : m ≤ 9223372036854775807) : (Lit.int .i64 m).wf = true := by
  simp only [Lit.wf, Bool.and_eq_true, decide_eq_true_eq]
  have a : IntKind.i64.min = -9223372036854775808 := rfl
  have b : IntKind.i64.max = 9223372036854775807 := rfl
  rw [a, b]; omega
end Go.Proofs.Ytfdpigafekohgaa

/- Raw elements, where variables are lent beside the array (a function value with what it has caught). -/
namespace Go.Proofs.Ytfdpigafekohgaa
open Go.RowKit
set_option linter.unusedVariables false

def boxesOnly (l : Locs) : Prop := ∀ k b, lkl l k = some b → ∃ cs, b = .box cs
theorem AC.rawB {P : Program} {fid : FuncId} {rest : List AVal} {α : Type} {e : Enc α} {f : α → List Cell} [hc : CellsOf e f] (h0 : 0 < e.size) {E : TypeId} {xs ys : List α} {Lb : Locs} (hfn : Callable P fid) (hbx : boxesOnly Lb) (hn0 : lk Lb 0 = none) (hn1 : lk Lb 1 = none)
    (h : ∀ zs : List (Raw α), zs.map Raw.x = xs → ∃ us : List (Raw α), us.map Raw.x = ys ∧ ((feet zs).Nodup → (feet us).Nodup) ∧ (∀ b ∈ feet us, b ∈ feet zs) ∧
      AC P fid (.one (.own 0) :: rest) ((0, some (.arr E (rawE e) zs false)) :: Lb) (.one (.own 1)) ((0, none) :: (1, some (.arr E (rawE e) us false)) :: Lb)) :
    AC P fid (.one (.own 0) :: rest) ((0, some (.arr E e xs true)) :: Lb) (.one (.own 1)) ((0, none) :: (1, some (.arr E e ys true)) :: Lb) := by
  refine ⟨hfn, fun g w cargs m ha => ?_⟩
  have hk : lkl ((0, some (Blk.arr E e xs true)) :: Lb) 0 = some (.arr E e xs true) := lkl_cons_self
  have hA0 := m.arr 0 _ _ _ _ _ hk
  obtain ⟨cells, bs, r1, f1, i1, F1, ob1⟩ := hA0.row
  obtain ⟨zs, q1, q2, b3, q3, q4⟩ := raw_of (e := e) f1
  obtain ⟨us, u1, u2, u3, hus⟩ := h zs q1
  have hF : g.F 0 = feet zs := by rw [F1 rfl, q2]
  have hlen : zs.length = xs.length := by rw [← q1, List.length_map]
  have out1 : ∀ k b, lkl ((0, some (Blk.arr E (rawE e) zs false)) :: Lb) k = some b → (k = 0 ∧ b = .arr E (rawE e) zs false) ∨ (k ≠ 0 ∧ lkl Lb k = some b ∧ lkl ((0, some (Blk.arr E e xs true)) :: Lb) k = some b ∧ ∃ cs, b = .box cs) := fun k b hb => by
    by_cases hk0 : k = 0
    · subst hk0; rw [lkl_cons_self] at hb; cases hb; exact .inl ⟨rfl, rfl⟩
    · have hb' := hb
      rw [lkl_cons_ne (Ne.symm hk0)] at hb
      exact .inr ⟨hk0, hb, by rw [lkl_cons_ne (Ne.symm hk0)]; exact hb, hbx k b hb⟩
  have ok1 : ∀ k, okK g ((0, some (Blk.arr E e xs true)) :: Lb) g ((0, some (Blk.arr E (rawE e) zs false)) :: Lb) k := fun k => by
    refine ⟨fun cs hb => ?_, fun β T e2 ys2 d hb => ?_⟩
    · rcases out1 _ _ hb with ⟨_, h2⟩ | ⟨_, _, h2, _⟩
      · cases h2
      · exact ⟨rfl, cs, h2⟩
    · rcases out1 _ _ hb with ⟨rfl, h2⟩ | ⟨_, _, _, cs, h2⟩
      · cases h2; exact ⟨α, E, e, xs, true, hk, rfl, rfl, rfl⟩
      · cases h2
  have old : ∀ k b, lkl ((0, some (Blk.arr E (rawE e) zs false)) :: Lb) k = some b → ∃ b0, lkl ((0, some (Blk.arr E e xs true)) :: Lb) k = some b0 ∧ (liv g k b ↔ liv g k b0) := fun k b hb => by
    rcases out1 _ _ hb with ⟨rfl, rfl⟩ | ⟨_, _, h2, _⟩
    · exact ⟨_, hk, Iff.rfl⟩
    · exact ⟨b, h2, Iff.rfl⟩
  have m1 : MemR g ((0, some (.arr E (rawE e) zs false)) :: Lb) w := by
    refine ⟨m.ilt, fun k cs hb => ?_, fun k β T e2 ys2 d hb => ?_, fun j k b b' hjk hj hk' l1 l2 => ?_, fun k β T e2 ys2 hb => ?_, fun j k β γ T U e2 e3 ys2 zs2 hjk hj hk' => ?_⟩
    · rcases out1 _ _ hb with ⟨_, h2⟩ | ⟨_, _, h2, _⟩
      · cases h2
      · obtain ⟨vs, t, a1, a2, a3⟩ := m.box k cs h2
        exact ⟨vs, t, a1, a2.mono fun a c hcm hr => CellR.step (fun _ _ => rfl) (fun _ h => h) (Nat.le_refl _) (fun i _ => ok1 i) hr, a3⟩
    · rcases out1 _ _ hb with ⟨rfl, h2⟩ | ⟨_, _, _, cs, h2⟩
      · cases h2
        refine ArrR.ofRow (e := rawE e) (f := fun r => rxC e r e.size 0) (cells := cells) (bs := b3) (by rw [hlen]; exact r1) q3 (fun b hb => i1 b (q4 b hb)) (fun h => by cases h) fun b hb => ?_
        refine ⟨ob1 b hb, ?_⟩
        rw [ob1 b hb]
        exact m.notI hk (fun e0 => by rw [e0] at hb; cases hb)
      · cases h2
    · obtain ⟨b0, p1, p2⟩ := old _ _ hj
      obtain ⟨b1, p3, p4⟩ := old _ _ hk'
      exact m.dis j k _ _ hjk p1 p3 (p2.1 l1) (p4.1 l2)
    · rcases out1 _ _ hb with ⟨_, h2⟩ | ⟨_, _, _, cs, h2⟩ <;> cases h2
    · rcases out1 _ _ hj with ⟨_, h2⟩ | ⟨_, _, _, cs, h2⟩ <;> cases h2
  have ha1 : All2 (VR1 g ((0, some (.arr E (rawE e) zs false)) :: Lb) w) cargs.toList (.one (.own 0) :: rest) := by
    generalize cargs.toList = vs at ha
    cases vs with
    | nil => exact ha
    | cons v vs =>
      have hv : v = g.hd 0 := ha.1 _ _ _ _ _ hk
      exact ⟨fun β U e2 ys dd hcx => hv, ha.2.mono fun a b hb hr => VR1.step (fun _ _ => rfl) (fun _ h => h) (Nat.le_refl _) (fun k _ => ok1 k) hr⟩
  refine (hus.run g w cargs m1 ha1).mono ?_
  rintro r w' ⟨v, g1, rfl, m2, hv, hs⟩
  have hk2 : lkl ((0, none) :: (1, some (Blk.arr E (rawE e) us false)) :: Lb) 1 = some (.arr E (rawE e) us false) := by
    rw [lkl_cons_ne (by decide), lkl_cons_self]
  have hk3 : lkl ((0, none) :: (1, some (Blk.arr E e ys true)) :: Lb) 1 = some (.arr E e ys true) := by
    rw [lkl_cons_ne (by decide), lkl_cons_self]
  obtain ⟨cells', b4, t1, t2, t3, _, t5⟩ := (m2.arr 1 _ _ _ _ _ hk2).row
  have t6 := raw_to (f := f) h0 t2
  rw [u1] at t6
  have hul : us.length = ys.length := by rw [← u1, List.length_map]
  obtain ⟨n1, n2⟩ := m.fr 0 _ _ _ _ hk
  rw [hF] at n1 n2
  have hin : ∀ b ∈ feet us, g.I b ∧ g1.I b ∧ ∃ c t, w'.heap[b]? = some (.cells c t (0, 0)) := fun b hb => by
    obtain ⟨p1, c, t, p2⟩ := n2 b (u3 b hb)
    exact ⟨p1, hs.imm b p1, c, t, by rw [m1.imm_keep hs p1]; exact p2⟩
  let g2 : Gh := ⟨g1.I, g1.ρ, g1.hd, fun _ => feet us⟩
  have out2 : ∀ k b, lkl ((0, none) :: (1, some (Blk.arr E e ys true)) :: Lb) k = some b → (k = 1 ∧ b = .arr E e ys true) ∨ (k ≠ 0 ∧ k ≠ 1 ∧ lkl Lb k = some b ∧ lkl ((0, none) :: (1, some (Blk.arr E (rawE e) us false)) :: Lb) k = some b ∧ ∃ cs, b = .box cs) := fun k b hb => by
    by_cases hk0 : k = 0
    · subst hk0; rw [lkl_cons_self] at hb; cases hb
    · rw [lkl_cons_ne (Ne.symm hk0)] at hb
      by_cases hk1 : k = 1
      · subst hk1; rw [lkl_cons_self] at hb; cases hb; exact .inl ⟨rfl, rfl⟩
      · rw [lkl_cons_ne (Ne.symm hk1)] at hb
        exact .inr ⟨hk0, hk1, hb, by rw [lkl_cons_ne (Ne.symm hk0), lkl_cons_ne (Ne.symm hk1)]; exact hb, hbx k b hb⟩
  have ok2 : ∀ k, okK g1 ((0, none) :: (1, some (Blk.arr E (rawE e) us false)) :: Lb) g2 ((0, none) :: (1, some (Blk.arr E e ys true)) :: Lb) k := fun k => by
    refine ⟨fun cs hb => ?_, fun β T e2 ys2 d hb => ?_⟩
    · rcases out2 _ _ hb with ⟨_, h2⟩ | ⟨_, _, _, h2, _⟩
      · cases h2
      · exact ⟨rfl, cs, h2⟩
    · rcases out2 _ _ hb with ⟨rfl, h2⟩ | ⟨_, _, _, _, cs, h2⟩
      · cases h2; exact ⟨Raw α, E, rawE e, us, false, hk2, rfl, rfl, rfl⟩
      · cases h2
  have old2 : ∀ k b, lkl ((0, none) :: (1, some (Blk.arr E e ys true)) :: Lb) k = some b → ∃ b0, lkl ((0, none) :: (1, some (Blk.arr E (rawE e) us false)) :: Lb) k = some b0 ∧ (liv g2 k b ↔ liv g1 k b0) := fun k b hb => by
    rcases out2 _ _ hb with ⟨rfl, rfl⟩ | ⟨_, _, _, h2, cs, rfl⟩
    · exact ⟨_, hk2, Iff.rfl⟩
    · exact ⟨_, h2, Iff.rfl⟩
  have m3 : MemR g2 ((0, none) :: (1, some (.arr E e ys true)) :: Lb) w' := by
    refine ⟨m2.ilt, fun k cs hb => ?_, fun k β T e2 ys2 d hb => ?_, fun j k b b' hjk hj hk' l1 l2 => ?_, fun k β T e2 ys2 hb => ?_, fun j k β γ T U e2 e3 ys2 zs2 hjk hj hk' => ?_⟩
    · rcases out2 _ _ hb with ⟨_, h2⟩ | ⟨_, _, _, h2, _⟩
      · cases h2
      · obtain ⟨vs, t, a1, a2, a3⟩ := m2.box k cs h2
        exact ⟨vs, t, a1, a2.mono fun a c hcm hr => CellR.step (g := g1) (g' := g2) (fun _ _ => rfl) (fun _ h => h) (Nat.le_refl _) (fun i _ => ok2 i) hr, a3⟩
    · rcases out2 _ _ hb with ⟨rfl, h2⟩ | ⟨_, _, _, _, cs, h2⟩
      · cases h2
        refine ArrR.ofRow (g := g2) (e := e) (f := f) (cells := cells') (bs := feet us) (by rw [← hul]; exact t1) t6 (fun b hb => (hin b hb).2.1) (fun _ => rfl) fun b hb => ?_
        refine ⟨t5 b hb, ?_⟩
        show ¬ g1.I b
        rw [t5 b hb]
        exact m2.notI hk2 (fun e0 => by
          have hb' : (g1.hd 1).ownBlock = some b := hb
          rw [e0] at hb'; cases hb')
      · cases h2
    · obtain ⟨b0, p1, p2⟩ := old2 _ _ hj
      obtain ⟨b1, p3, p4⟩ := old2 _ _ hk'
      exact m2.dis j k _ _ hjk p1 p3 (p2.1 l1) (p4.1 l2)
    · rcases out2 _ _ hb with ⟨rfl, h2⟩ | ⟨_, _, _, _, cs, h2⟩
      · exact ⟨u2 n1, fun b hb => (hin b hb).2⟩
      · cases h2
    · rcases out2 _ _ hj with ⟨rfl, _⟩ | ⟨_, _, _, _, cs, h2⟩
      · rcases out2 _ _ hk' with ⟨rfl, _⟩ | ⟨_, _, _, _, cs, h2⟩
        · exact absurd rfl hjk
        · cases h2
      · cases h2
  have hown : ∀ b, OwnB g ((0, some (.arr E (rawE e) zs false)) :: Lb) b → OwnB g ((0, some (.arr E e xs true)) :: Lb) b := fun b hb => by
    obtain ⟨k, blk, h1, h2⟩ := hb
    rcases out1 _ _ h1 with ⟨rfl, rfl⟩ | ⟨_, _, h3, cs, rfl⟩
    · rcases h2 with ⟨h2, h3⟩ | ⟨_, _, _, _, h2, _⟩
      · exact ⟨0, _, hk, .inl ⟨h2, h3⟩⟩
      · cases h2
    · rcases h2 with ⟨h2, h4⟩ | ⟨_, _, _, _, h2, _⟩
      · exact ⟨k, _, h3, .inl ⟨h2, h4⟩⟩
      · cases h2
  refine ⟨v, g2, rfl, m3, fun β U e2 ys2 dd hcx => ?_, ⟨hs.os, hs.tape, hs.output, hs.size, fun b hb hn => hs.keep b hb fun k blk h1 h2 => ?_, hs.imm, fun b hb => ?_, fun b hb => ?_, fun k hkk hnn => ?_⟩⟩
  · show v = g1.hd 1
    exact hv _ _ _ _ _ hk2
  · obtain ⟨b0, p1, p2⟩ := old _ _ h1
    exact hn k _ p1 (p2.1 h2)
  · rcases hs.imm' b hb with h1 | h1 | h1
    · exact .inl h1
    · exact .inr (.inl h1)
    · exact .inr (.inr (hown b h1))
  · obtain ⟨k, blk, h1, h2⟩ := hb
    rcases out2 _ _ h1 with ⟨rfl, rfl⟩ | ⟨_, _, _, h3, cs, rfl⟩
    · rcases h2 with ⟨h2, h3⟩ | ⟨β, T, e2, xs2, h2, h3⟩
      · rcases hs.own b ⟨1, _, hk2, .inl ⟨h2, h3⟩⟩ with h4 | h4
        · exact .inl (hown b h4)
        · exact .inr h4
      · left
        exact ⟨0, _, hk, .inr ⟨_, _, _, _, rfl, by rw [hF]; exact u3 b h3⟩⟩
    · rcases h2 with ⟨h2, h4⟩ | ⟨_, _, _, _, h2, _⟩
      · rcases hs.own b ⟨k, _, h3, .inl ⟨h2, h4⟩⟩ with h5 | h5
        · exact .inl (hown b h5)
        · exact .inr h5
      · cases h2
  · by_cases hk0 : k = 0
    · subst hk0
      have hz : lkl ((0, none) :: (1, some (Blk.arr E e ys true)) :: Lb) 0 = none := lkl_cons_self
      refine ⟨by rw [lk_cons_self]; simp, okK.gone hz, fun cs hcs => ?_⟩
      rw [hk] at hcs; cases hcs
    · have hl0 : lk ((0, some (Blk.arr E e xs true)) :: Lb) k = lk Lb k := lk_cons_ne (Ne.symm hk0)
      have hk1 : k ≠ 1 := fun q => by subst q; rw [hl0] at hnn; exact hnn hn1
      have hl1 : lk ((0, some (Blk.arr E (rawE e) zs false)) :: Lb) k = lk Lb k := lk_cons_ne (Ne.symm hk0)
      have hl2 : lk ((0, none) :: (1, some (Blk.arr E e ys true)) :: Lb) k = lk Lb k := by rw [lk_cons_ne (Ne.symm hk0), lk_cons_ne (Ne.symm hk1)]
      have hm0 : lkl ((0, some (Blk.arr E e xs true)) :: Lb) k = lkl Lb k := lkl_cons_ne (Ne.symm hk0)
      have hm1 : lkl ((0, some (Blk.arr E (rawE e) zs false)) :: Lb) k = lkl Lb k := lkl_cons_ne (Ne.symm hk0)
      have hm2 : lkl ((0, none) :: (1, some (Blk.arr E e ys true)) :: Lb) k = lkl Lb k := by rw [lkl_cons_ne (Ne.symm hk0), lkl_cons_ne (Ne.symm hk1)]
      have hm3 : lkl ((0, none) :: (1, some (Blk.arr E (rawE e) us false)) :: Lb) k = lkl Lb k := by rw [lkl_cons_ne (Ne.symm hk0), lkl_cons_ne (Ne.symm hk1)]
      obtain ⟨p1, p2, p3⟩ := hs.base k hkk (by rw [hl1, ← hl0]; exact hnn)
      refine ⟨by rw [hl2, ← hl0]; exact hnn, ((ok1 k).trans p2).trans (ok2 k), fun cs hcs => ?_⟩
      obtain ⟨cs', q⟩ := p3 cs (by rw [hm1, ← hm0]; exact hcs)
      exact ⟨cs', by rw [hm2, ← hm3]; exact q⟩
end Go.Proofs.Ytfdpigafekohgaa

/- Matches that cover others, bit by bit; entries kept of raw ones. -/
namespace Go.Proofs.Ytfdpigafekohgaa
open Go.RowKit
set_option linter.unusedVariables false
set_option linter.unusedSimpArgs false

theorem match_parts {m : Matcht} (h : matchB m = true) : m.v.length = 8 ∧ m.m.length = 8 ∧ (∀ k (hk : k < m.m.length), fitsB (k : Int) m.m[k] = true) ∧ ∀ k (hk : k < m.v.length), inside m.v m.m k hk = true := by
  simp only [matchB, Bool.and_eq_true, decide_eq_true_eq] at h
  exact ⟨h.1, eight_8 h.2.1, fun k hk => eight_get h.2.1 hk, fun k hk => everyB_get h.2.2 hk⟩
theorem covers_a {a b : Matcht} (h : matchB a = false) : coversB a b = false := by simp [coversB, h]
theorem covers_b {a b : Matcht} (h : matchB b = false) : coversB a b = false := by simp [coversB, h]
theorem covers_bad {a b : Matcht} {f : Nat} (hf : f < 8) (h : coversAt a b f = false) : coversB a b = false := by
  have : everyB (n := 8) (fun f _ => coversAt a b f) = false := everyB_bad hf h
  simp [coversB, this]
theorem covers_good {a b : Matcht} {f : Nat} (h1 : matchB a = true) (h2 : matchB b = true) (h : AllAt (n := 8) (fun f _ => coversAt a b f) f) (hf : 8 ≤ f) : coversB a b = true := by
  simp only [coversB, h1, h2, h.all hf, Bool.and_self]
/-! ### Elements kept of raw ones -/
section
variable {α : Type} {p : α → Bool} {us : List (Raw α)}
def keepR (p : α → Bool) (us : List (Raw α)) (j : Nat) : List (Raw α) := (us.take j).filter fun r => !p r.x
def keepA (p : α → Bool) (us : List (Raw α)) (j : Nat) : List (Raw α) := keepR p us j ++ us.drop (keepR p us j).length
theorem keepR_len {j : Nat} : (keepR p us j).length ≤ j := by
  have h1 := List.length_filter_le (fun r : Raw α => !p r.x) (us.take j)
  rw [List.length_take] at h1
  unfold keepR; omega
theorem keepA_len {j : Nat} (hj : j ≤ us.length) : (keepA p us j).length = us.length := by
  have := keepR_len (p := p) (us := us) (j := j)
  simp [keepA]; omega
theorem keepA_at {j i : Nat} (hj : j ≤ us.length) (hi : i < us.length) (h : (keepR p us j).length ≤ i) (h' : i < (keepA p us j).length) : (keepA p us j)[i] = us[i] := by
  have q : (keepA p us j)[i]? = us[i]? := by
    unfold keepA
    rw [List.getElem?_append_right h, List.getElem?_drop]
    congr 1; omega
  rw [List.getElem?_eq_getElem h', List.getElem?_eq_getElem hi] at q
  exact Option.some.inj q
theorem keepR_succ {j : Nat} (hj : j < us.length) : keepR p us (j + 1) = keepR p us j ++ (if p us[j].x = true then [] else [us[j]]) := by
  unfold keepR
  rw [List.take_succ_eq_append_getElem hj, List.filter_append]
  congr 1
  cases h : p us[j].x <;> simp [h]
theorem keepR_skip {j : Nat} (hj : j < us.length) (h : p us[j].x = true) : keepR p us (j + 1) = keepR p us j := by rw [keepR_succ hj, if_pos h, List.append_nil]
theorem keepR_more {j : Nat} (hj : j < us.length) (h : p us[j].x = false) : keepR p us (j + 1) = keepR p us j ++ [us[j]] := by rw [keepR_succ hj, if_neg (by rw [h]; simp)]
theorem keepR_front {i : Nat} (hi : i ≤ us.length) (h : ∀ j (hj : j < us.length), j < i → p us[j].x = false) : keepR p us i = us.take i := by
  unfold keepR
  rw [List.filter_eq_self]
  intro r hr
  obtain ⟨j, hj, rfl⟩ := List.getElem_of_mem hr
  rw [List.length_take] at hj
  rw [List.getElem_take, h j (by omega) (by omega)]; rfl
theorem keepR_hit {i : Nat} (hi : i < us.length) (h : ∀ j (hj : j < us.length), j < i → p us[j].x = false) (hp : p us[i].x = true) : (keepR p us (i + 1)).length = i ∧ us = keepA p us (i + 1) := by
  have e : keepR p us (i + 1) = us.take i := by rw [keepR_skip hi hp, keepR_front (by omega) h]
  have el : (keepR p us (i + 1)).length = i := by rw [e]; simp; omega
  refine ⟨el, ?_⟩
  unfold keepA
  rw [el, e, List.take_append_drop]
theorem keepR_none (h : ∀ j (hj : j < us.length), p us[j].x = false) : us = keepR p us us.length := by
  rw [keepR_front (Nat.le_refl _) fun j hj _ => h j hj, List.take_length]
theorem keepA_put {j : Nat} (hj : j < us.length) (hl : (keepR p us j).length < j) (hs : p us[j].x = false) (h' : j < (keepA p us j).length) : (keepA p us j).set (keepR p us j).length ((keepA p us j)[j]) = keepA p us (j + 1) ∧ (keepR p us (j + 1)).length = (keepR p us j).length + 1 := by
  have e := keepR_more hj hs
  have e2 := keepA_at (Nat.le_of_lt hj) hj (by omega) h'
  refine ⟨?_, by rw [e]; simp⟩
  rw [e2]
  unfold keepA
  rw [e, List.set_append_right _ _ (Nat.le_refl _), Nat.sub_self, List.drop_eq_getElem_cons (l := us) (i := (keepR p us j).length) (by omega), List.set_cons_zero, List.length_append, List.length_singleton, List.append_assoc]
  rfl
theorem keepA_end {j : Nat} (hj : us.length ≤ j) (hj2 : j ≤ us.length) {z : Raw α} {n : Nat} : ((keepA p us j).take (keepR p us j).length ++ List.replicate n z).take (keepR p us j).length = keepR p us us.length := by
  obtain rfl : j = us.length := by omega
  unfold keepA
  rw [List.take_left' rfl, List.take_left' rfl]
theorem keepR_map : (keepR p us us.length).map Raw.x = (us.map Raw.x).filter fun x => !p x := by
  unfold keepR
  rw [List.take_length, List.filter_map]
  rfl
theorem keepR_sub : (keepR p us us.length).Sublist us := by
  unfold keepR
  rw [List.take_length]; exact List.filter_sublist
end
/-- The raw entry of no content. -/
def zeroEn : Raw Entryt := ⟨noEntry, [.int .i64 0, .int .i64 0, .slice none 0 0, .slice none 0 0, .slice none 0 0, .int .i64 0], []⟩
/-! ### Bits at a place -/
section
variable {a b : Matcht} {f i : Nat}
theorem covAt_m (h1 : f < a.m.length) (h2 : f < b.m.length) (h : ¬ bitAndNot a.m[f] b.m[f] = 0) : coversAt a b f = false := by
  simp [coversAt, List.getD, h1, h2, h]
theorem covAt_v (h1 : f < a.m.length) (h3 : f < b.v.length) (h4 : f < a.v.length) (h : ¬ bitAnd b.v[f] a.m[f] = a.v[f]) : coversAt a b f = false := by
  simp [coversAt, List.getD, h1, h3, h4, h]
theorem covAt_yes (h1 : f < a.m.length) (h2 : f < b.m.length) (h3 : f < b.v.length) (h4 : f < a.v.length) (h : bitAndNot a.m[f] b.m[f] = 0) (h' : bitAnd b.v[f] a.m[f] = a.v[f]) : coversAt a b f = true := by
  simp [coversAt, List.getD, h1, h2, h3, h4, h, h']
end
theorem firstIdx_not {α : Type} {p : α → Bool} {xs : List α} (h : firstIdx p xs = -1) : ∀ j (hj : j < xs.length), p xs[j] = false := fun j hj => by
  cases hq : p xs[j]
  · rfl
  · have h1 := firstIdx_any p xs
    have h2 : xs.any p = true := List.any_eq_true.2 ⟨_, List.getElem_mem hj, hq⟩
    rw [h2, decide_eq_true_eq] at h1; omega
theorem firstIdx_is {α : Type} {p : α → Bool} {xs : List α} (h : ¬ firstIdx p xs = -1) : 0 ≤ firstIdx p xs ∧ ∃ (hl : (firstIdx p xs).toNat < xs.length), (∀ j (hj : j < xs.length), j < (firstIdx p xs).toNat → p xs[j] = false) ∧ p (xs[(firstIdx p xs).toNat]'hl) = true := by
  unfold firstIdx at h ⊢
  cases e : xs.findIdx? p with
  | none => rw [e] at h; exact absurd rfl h
  | some n =>
    obtain ⟨h1, h2, h3⟩ := List.findIdx?_eq_some_iff_getElem.1 e
    refine ⟨by show (0 : Int) ≤ (n : Int); omega, by show ((n : Int)).toNat < xs.length; rw [Int.toNat_natCast]; exact h1, fun j hj hjn => ?_, ?_⟩
    · have hjn : j < ((n : Int)).toNat := hjn
      rw [Int.toNat_natCast] at hjn
      simpa using h3 j hjn
    · exact h2
theorem firstIdx_lt {α : Type} {p : α → Bool} {xs : List α} (h : ¬ firstIdx p xs = -1) : (firstIdx p xs).toNat < xs.length := (firstIdx_is h).2.elim fun a _ => a
theorem firstIdx_rest {α : Type} {p : α → Bool} {xs : List α} (h : ¬ firstIdx p xs = -1) (hl : (firstIdx p xs).toNat < xs.length) : (∀ j (hj : j < xs.length), j < (firstIdx p xs).toNat → p xs[j] = false) ∧ p (xs[(firstIdx p xs).toNat]'hl) = true := (firstIdx_is h).2.elim fun _ b => b
/-! ### The place of a key -/
theorem keyIdx_lt {l : List Entryt} {e : Entryt} (h : 0 ≤ keyIdx l e) : (keyIdx l e).toNat < l.length := by
  obtain ⟨k, h1, h2⟩ := firstIdx_nn (p := fun x => sameKeyB x e) (xs := l) (show ¬ keyIdx l e < 0 by omega)
  have h1 : keyIdx l e = (k : Int) := h1
  rw [h1]; simpa using h2
theorem posA_pos {l : List Entryt} {e : Entryt} (h : ¬ firstIdx (fun x => aheadB e x) l < 0) : firstIdx (fun x => aheadB e x) l = (posA l e : Int) ∧ posA l e < l.length := by
  obtain ⟨k, h1, h2⟩ := firstIdx_nn h
  rw [posA_at h1]; exact ⟨h1, h2⟩
theorem posA_le {l : List Entryt} {e : Entryt} : posA l e ≤ l.length := by
  by_cases h : firstIdx (fun x => aheadB e x) l < 0
  · rw [posA_none h]; exact Nat.le_refl _
  · exact Nat.le_of_lt (posA_pos h).2
theorem tableAdd_put' {t : Tablet} {e : Entryt} {k : Nat} (h1 : tableB t = true) (h2 : entryOkB e = true) (h : keyIdx t.entries e < 0) (hc : ¬ (t.entries.length : Int) = t.cap) (hk : t.entries.length ≤ k) : tableAdd t e = (⟨t.cap, (t.entries.filter fun x => !aheadB e x) ++ [e] ++ filtTo (fun x => aheadB e x) t.entries k⟩, 0) := by
  rw [tableAdd_put h1 h2 h hc, filtTo_all hk, (posA_is h1 e).2.1, (posA_is h1 e).2.2]; rfl
theorem tableAdd_two {t : Tablet} {e : Entryt} {k : Nat} (hk : t.entries.length ≤ k) : filtTo (fun x => !aheadB e x) t.entries k ++ [e] = (t.entries.filter fun x => !aheadB e x) ++ [e] ++ filtTo (fun x => aheadB e x) t.entries 0 := by
  rw [filtTo_all hk, ← filtTo_zero, List.append_nil]
theorem zeroEn_rep (w : World) : (rawE entryE).rep w zeroEn.vs zeroEn [] := by
  have h0 : ∀ {α : Type} (e : Enc α), SliceRep e w none 0 0 [] [] := fun e => ⟨rfl, Nat.le_refl _, Nat.zero_le _, fun _ => rfl, .inl ⟨rfl, rfl⟩⟩
  have hr : entryE.rep w zeroEn.vs zeroEn.x zeroEn.b := Entry_rep.2 ⟨none, 0, 0, [], none, 0, 0, [], none, 0, 0, [], rfl, wf64i (by decide) (by decide), wf64i (by decide) (by decide), h0 _, h0 _, h0 _, wf64i (by decide) (by decide), rfl⟩
  have h := FR.toRx (r := zeroEn) hr (fun u hu => by simp only [zeroEn, List.mem_cons, List.not_mem_nil, or_false] at hu; rcases hu with rfl | rfl | rfl | rfl | rfl | rfl <;> rfl) (n := 6) (j := 0) rfl
  exact h
end Go.Proofs.Ytfdpigafekohgaa

/- The laws' marks: MarkE (printed by genmark.py) -/
namespace Go.Proofs.Ytfdpigafekohgaa
open Go.RowKit
set_option linter.unusedVariables false
set_option linter.unusedSimpArgs false
set_option maxRecDepth 100000

end Go.Proofs.Ytfdpigafekohgaa

/- The laws' marks: MarkT (printed by genmark.py) -/
namespace Go.Proofs.Ytfdpigafekohgaa
open Go.RowKit
set_option linter.unusedVariables false
set_option linter.unusedSimpArgs false
set_option maxRecDepth 100000

end Go.Proofs.Ytfdpigafekohgaa

/- Messages ars bytes, in plain words. -/
namespace Go.Proofs.Ytfdpigafekohgaa
open Go.RowKit
set_option linter.unusedVariables false

end Go.Proofs.Ytfdpigafekohgaa

/- How much a message's marks count. -/
namespace Go.Proofs.Ytfdpigafekohgaa
open Go.RowKit
set_option linter.unusedVariables false

end Go.Proofs.Ytfdpigafekohgaa

/- How much a table's marks count; sizes of tables. -/
namespace Go.Proofs.Ytfdpigafekohgaa
open Go.RowKit
set_option linter.unusedVariables false

theorem tableDelete_small {t : Tablet} (h : smallTable t) (m : Matcht) (p : Int) (s : Bool) : smallTable (tableDelete t m p s).1 := by
  unfold tableDelete
  split
  · exact ⟨Nat.le_trans (List.length_filter_le _ _) h.1, fun x hx => h.2 x (List.mem_filter.1 hx).1⟩
  · exact ⟨Nat.zero_le _, fun x hx => (by cases hx)⟩
theorem tableAdd_small {t : Tablet} {e : Entryt} (h : smallTable t) (he : smallEntry e) : smallTable (tableAdd t e).1 := by
  unfold tableAdd
  split
  · rename_i hok
    simp only [Bool.and_eq_true] at hok
    have := tableB_max hok.1
    split
    · refine ⟨by rw [List.length_set]; exact h.1, fun x hx => ?_⟩
      rcases List.mem_or_eq_of_mem_set hx with q | q
      · exact h.2 x q
      · rw [q]; exact he
    · split
      · exact ⟨Nat.zero_le _, fun x hx => (by cases hx)⟩
      · refine ⟨by unfold putEntry; simp only [List.length_append, List.length_take, List.length_drop, List.length_cons, List.length_nil]; omega, fun x hx => ?_⟩
        unfold putEntry at hx
        rcases List.mem_append.1 hx with q | q
        · rcases List.mem_append.1 q with q | q
          · exact h.2 x (List.mem_of_mem_take q)
          · rw [List.mem_singleton.1 q]; exact he
        · exact h.2 x (List.mem_of_mem_drop q)
  · exact ⟨Nat.zero_le _, fun x hx => (by cases hx)⟩
end Go.Proofs.Ytfdpigafekohgaa

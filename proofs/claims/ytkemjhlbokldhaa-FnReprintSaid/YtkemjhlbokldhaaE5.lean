/- Lemmas of the walks, part 5. -/
import Derived.Test.YtkemjhlbokldhaaE4
/- All words and signs (printed by walk.py) -/
namespace Go.Proofs.Ytkemjhlbokldhaa
open Go.RowKit
set_option linter.unusedVariables false
set_option linter.unusedSimpArgs false
set_option maxRecDepth 100000

set_option maxHeartbeats 4000000 in
theorem lexI_c0 (s : ByteArray) (hs0 : s.size ≤ 1048576) : AC Try.prog 17 [.one (.c (.string s))] [] (.tup [.one (.own 0), .one (.c (.int .i64 ((lexAll s).2.1))), .one (.c (.int .i64 ((lexAll s).2.2)))]) [(0, some (.arr 83 tokenE (lexAll s).1 true))] := by
 refine AC_body3 Try.func17 rfl rfl Try.ntmps17 rfl Try.results17 rfl rfl rfl rfl rfl rfl ?_
 refine AW_seq ?_
 refine AW_region ?_
 refine AL_p (x_assign rfl rfl) ?_
 refine AL_p (x_assign rfl rfl) ?_
 refine AL_p (x_assign rfl rfl) ?_
 refine AL_nil ?_
 refine AW_seq ?_
 refine AW_seq ?_
 refine AW_region ?_
 refine AL_p (x_move rfl rfl) ?_
 refine AL_p (x_lens rfl rfl (by kernel_rfl)) ?_
 refine AL_b (x_gtr rfl rfl rfl) (fun b14 h14 => ?_)
 refine AL_nil ?_
 cases b14
 rotate_left
 · try simp only [tdy] at h14
   have hno := lexAll_big h14
   refine AW_condT rfl ?_
   refine AW_seq ?_
   refine AW_region ?_
   refine AL_p (x_assign rfl rfl) ?_
   refine AL_p (x_assign rfl rfl) ?_
   refine AL_p (x_assign rfl rfl) ?_
   refine AL_nil ?_
   refine AW_adoptT (T := 83) (e := tokenE) 100 2 rfl rfl rfl ?_
   refine AW_ret ?_
   exact ⟨rn [(0, 100)], ⟨⟨⟨_, rfl, VLe.rf⟩, ⟨_, rfl, vle_int (by rw [hno])⟩, ⟨_, rfl, vle_int (by rw [hno])⟩, trivial⟩, ⟨⟨_, rfl, by first | exact BLe.rf | exact BLe.arr (by rw [hno])⟩, trivial⟩, trivial, rfl⟩⟩
 try simp only [tdy] at h14
 refine AW_condF rfl ?_
 refine AW_skip ?_
 refine AW_seq ?_
 refine AW_region ?_
 refine AL_p (y_bslice0 (E := 83) (e := tokenE) 101 rfl rfl rfl (by kernel_rfl)) ?_
 refine AL_p (x_assign rfl rfl) ?_
 refine AL_nil ?_
 refine AW_seq ?_
 refine AW_seq ?_
 refine AW_region ?_
 refine AL_p (x_move rfl rfl) ?_
 refine AL_p (x_call0 rfl rfl rfl (skipped_c s 0 hs0 (by omega)) rfl rfl) ?_
 refine AL_p (x_assign rfl rfl) ?_
 refine AL_nil ?_
 refine AW_block ?_
 refine AW_loop2 (ι := {q : Nat × List Tokent // ((q.1) ≤ s.size ∧ skipS s (q.1) = (q.1)) ∧ combL (q.2) (lexR s (q.1)) = lexR s 0 ∧ (q.2).length ≤ (q.1)}) (fun p => [(5, .one (.own 101)), (6, .one (.c (.int .i64 (((p.1.1) : Int)))))]) (fun p => [(101, some (.arr 83 tokenE (p.1.2) true))]) [0] [] (fun p => s.size - (p.1.1)) ⟨⟨skipS s 0, []⟩, ⟨⟨skip_le _ (by omega), skip_skip _⟩, comb_start.trans (lex_skip (skip_skip _)), by simp⟩⟩ (rn []) ?_ ?_
 exact ⟨by (repeat refine ⟨⟨_, rfl, by first | exact VLe.rf | exact vle_int (by dsimp only; omega)⟩, ?_⟩); exact trivial, by (repeat refine ⟨⟨_, rfl, by first | exact BLe.rf | exact BLe.box AllC.rf | exact BLe.arr (by exact rfl)⟩, ?_⟩); exact trivial, by repeat (first | exact trivial | refine ⟨⟨rfl, by first | (left; intro h; cases h) | (right; rfl), by first | exact (fun _ h => ⟨_, h⟩) | exact (fun _ _ => ⟨_, rfl⟩) | (intro _ h; cases h)⟩, ?_⟩), rfl⟩
 rintro ⟨⟨j, out⟩, hinv⟩
 dsimp only
 have hj : j ≤ s.size := hinv.1.1
 have hs : skipS s j = j := hinv.1.2
 have hc := hinv.2.1
 have hl : out.length ≤ j := hinv.2.2
 refine AW_seq ?_
 refine AW_seq ?_
 refine AW_region ?_
 refine AL_p (x_move rfl rfl) ?_
 refine AL_p (x_move rfl rfl) ?_
 refine AL_p (x_lens rfl rfl (by kernel_rfl)) ?_
 refine AL_b (x_lss rfl rfl rfl) (fun b21 h21 => ?_)
 refine AL_nil ?_
 cases b21
 · try simp only [tdy] at h21
   have hno := (lexAll_eq (s := s) (by omega)).trans (comb_end hc (by omega)).symm.symm
   refine AW_condF rfl ?_
   refine AW_exit (BQ_hit ?_)
   refine AW_seq ?_
   refine AW_region ?_
   refine AL_p (x_move rfl rfl) ?_
   refine AL_p (x_assign rfl rfl) ?_
   refine AL_p (x_assign rfl rfl) ?_
   refine AL_p (x_assign rfl rfl) ?_
   refine AL_nil ?_
   refine AW_ret ?_
   exact ⟨rn [(0, 101)], ⟨⟨⟨_, rfl, VLe.rf⟩, ⟨_, rfl, vle_int (by rw [hno])⟩, ⟨_, rfl, vle_int (by rw [hno])⟩, trivial⟩, ⟨⟨_, rfl, by first | exact BLe.rf | exact BLe.arr (by rw [hno])⟩, trivial⟩, trivial, rfl⟩⟩
 try simp only [tdy] at h21
 refine AW_condT rfl ?_
 refine AW_skip ?_
 refine AW_seq ?_
 refine AW_block ?_
 refine AW_seq ?_
 refine AW_region ?_
 refine AL_p (x_move rfl rfl) ?_
 refine AL_p (x_move rfl rfl) ?_
 refine AL_p (x_sindex rfl rfl rfl (by kernel_rfl) (k := j) rfl (by omega)) ?_
 refine AL_p (x_assign rfl rfl) ?_
 refine AL_nil ?_
 refine AW_seq ?_
 refine AW_seq ?_
 refine AW_region ?_
 refine AL_p (x_move rfl rfl) ?_
 refine AL_b (x_call0 rfl rfl rfl (isLet_c _) rfl rfl) (fun b29 h29 => ?_)
 refine AL_p (x_move rfl rfl) ?_
 cases b29
 rotate_left
 · try simp only [tdy] at h29
   have ha : alnumB s[j].toNat = true := by simp [alnumB, h29]
   refine AL_o rfl rfl rfl rfl ?_
   refine AL_o rfl rfl rfl rfl ?_
   refine AL_p (x_pickT rfl rfl rfl) ?_
   refine AL_p (x_move rfl rfl) ?_
   refine AL_o rfl rfl rfl rfl ?_
   refine AL_o rfl rfl rfl rfl ?_
   refine AL_p (x_pickT rfl rfl rfl) ?_
   refine AL_nil ?_
   refine AW_condT rfl ?_
   refine AW_seq ?_
   refine AW_region ?_
   refine AL_p (x_move rfl rfl) ?_
   refine AL_p (x_move rfl rfl) ?_
   refine AL_p (x_call0 rfl rfl rfl (wordAt_c s j hs0 (by omega) ha) rfl rfl) ?_
   refine AL_p (x_move rfl rfl) ?_
   refine AL_p (x_extract rfl rfl rfl) ?_
   refine AL_p (x_extract rfl rfl rfl) ?_
   refine AL_p (x_extract rfl rfl rfl) ?_
   refine AL_p (x_alloc (z := .agg #[.int .i64 0, .int .i64 0, .string ⟨#[]⟩, .int .i64 0]) 102 rfl (by kernel_rfl) rfl rfl rfl rfl) ?_
   refine AL_p (x_store (n := 4) rfl rfl rfl rfl (by kernel_rfl) rfl rfl rfl) ?_
   refine AL_p (x_assign rfl rfl) ?_
   refine AL_p (x_assign rfl rfl) ?_
   refine AL_nil ?_
   refine AW_seq ?_
   refine AW_seq ?_
   refine AW_region ?_
   refine AL_p (x_move rfl rfl) ?_
   refine AL_b (x_neq rfl rfl rfl) (fun b46 h46 => ?_)
   refine AL_nil ?_
   cases b46
   rotate_left
   · try simp only [tdy] at h46
     have hno : (lexAll s) = ([], (wordRes s j (s[j].toNat : Int)).2.2, (j : Int)) := (lexAll_eq (by omega)).trans (comb_bad hc (lexw_bad (by omega) hs ha h46) h46)
     refine AW_condT rfl ?_
     refine AW_seq ?_
     refine AW_region ?_
     refine AL_p (x_move rfl rfl) ?_
     refine AL_p (x_move rfl rfl) ?_
     refine AL_p (x_assign rfl rfl) ?_
     refine AL_p (x_assign rfl rfl) ?_
     refine AL_p (x_assign rfl rfl) ?_
     refine AL_nil ?_
     refine AW_adoptT (T := 83) (e := tokenE) 100 2 rfl rfl rfl ?_
     refine AW_ret (BQ_ret (BQ_ret ?_))
     exact ⟨rn [(0, 100)], ⟨⟨⟨_, rfl, VLe.rf⟩, ⟨_, rfl, vle_int (by rw [hno])⟩, ⟨_, rfl, vle_int (by rw [hno])⟩, trivial⟩, ⟨⟨_, rfl, by first | exact BLe.rf | exact BLe.arr (by rw [hno])⟩, trivial⟩, trivial, rfl⟩⟩
   try simp only [tdy] at h46
   have hok := lexw_ok (s := s) (j := j) (by omega) hs ha (Classical.not_not.1 (by simpa using h46))
   have hc2 := comb_ok hc hok.1
   have hle := wordEnd_le (s := s) j (by omega)
   have hgt := wordEnd_gt (s := s) (i := j) (by omega) ha
   have hnx := hok.2
   have hge := skip_ge (s := s) (wordEnd s j)
   have hle2 := skip_le (s := s) (wordEnd s j) hle
   refine AW_condF rfl ?_
   refine AW_skip ?_
   refine AW_seq ?_
   refine AW_region ?_
   refine AL_p (x_move rfl rfl) ?_
   refine AL_p (x_loadN (n := 4) rfl rfl rfl (by kernel_rfl) rfl rfl) ?_
   refine AL_p (y_bslice (E := 83) (e := tokenE) [.tmp 50] ([(wordRes s j (s[j].toNat : Int)).1]) 103 rfl rfl rfl rfl rfl rfl rfl rfl FitL.rf rfl rfl rfl rfl rfl rfl (by kernel_rfl)) ?_
   refine AL_p (y_append 104 rfl rfl rfl rfl rfl rfl rfl rfl (by kernel_rfl) (by simp only [List.length_append, List.length_cons, List.length_nil] at *; omega)) ?_
   refine AL_p (x_assign rfl rfl) ?_
   refine AL_nil ?_
   refine AW_seq ?_
   refine AW_region ?_
   refine AL_p (x_move rfl rfl) ?_
   refine AL_p (x_assign rfl rfl) ?_
   refine AL_nil ?_
   refine AW_exit (BQ_hit ?_)
   refine AW_slot (t := 6) (y := .one (.c (.int .i64 ((_ : Nat) : Int)))) rfl (congrArg (fun z : Int => AVal.one (.c (.int .i64 z))) hnx) ?_
   refine AW_region ?_
   refine AL_p (x_move rfl rfl) ?_
   refine AL_p (x_move rfl rfl) ?_
   refine AL_p (x_call0 rfl rfl rfl (skipped_c s _ hs0 hle) rfl rfl) ?_
   refine AL_p (x_assign rfl rfl) ?_
   refine AL_nil ?_
   refine ⟨⟨⟨skipS s (wordEnd s j), out ++ [(wordRes s j (s[j].toNat : Int)).1]⟩, ⟨⟨hle2, skip_skip _⟩, (comb_skip hc2 (skip_skip _).symm), by simp only [List.length_append, List.length_cons, List.length_nil]; omega⟩⟩, rn [(101, 104)], ?_, by dsimp only; omega⟩
   exact ⟨by (repeat refine ⟨⟨_, rfl, by first | exact VLe.rf | exact vle_int (by dsimp only; omega)⟩, ?_⟩); exact trivial, by (repeat refine ⟨⟨_, rfl, by first | exact BLe.rf | exact BLe.box AllC.rf | exact BLe.arr (by exact rfl)⟩, ?_⟩); exact trivial, by repeat (first | exact trivial | refine ⟨⟨rfl, by first | (left; intro h; cases h) | (right; rfl), by first | exact (fun _ h => ⟨_, h⟩) | exact (fun _ _ => ⟨_, rfl⟩) | (intro _ h; cases h)⟩, ?_⟩), rfl⟩
 try simp only [tdy] at h29
 refine AL_g rfl rfl (x_move rfl rfl) ?_
 refine AL_gb rfl rfl (x_call0 rfl rfl rfl (isUp_c _) rfl rfl) (fun b32 h32 => ?_)
 refine AL_p (x_pickF rfl rfl rfl) ?_
 refine AL_p (x_move rfl rfl) ?_
 cases b32
 rotate_left
 · try simp only [tdy] at h32
   have ha : alnumB s[j].toNat = true := by simp [alnumB, h32]
   refine AL_o rfl rfl rfl rfl ?_
   refine AL_o rfl rfl rfl rfl ?_
   refine AL_p (x_pickT rfl rfl rfl) ?_
   refine AL_nil ?_
   refine AW_condT rfl ?_
   refine AW_seq ?_
   refine AW_region ?_
   refine AL_p (x_move rfl rfl) ?_
   refine AL_p (x_move rfl rfl) ?_
   refine AL_p (x_call0 rfl rfl rfl (wordAt_c s j hs0 (by omega) ha) rfl rfl) ?_
   refine AL_p (x_move rfl rfl) ?_
   refine AL_p (x_extract rfl rfl rfl) ?_
   refine AL_p (x_extract rfl rfl rfl) ?_
   refine AL_p (x_extract rfl rfl rfl) ?_
   refine AL_p (x_alloc (z := .agg #[.int .i64 0, .int .i64 0, .string ⟨#[]⟩, .int .i64 0]) 102 rfl (by kernel_rfl) rfl rfl rfl rfl) ?_
   refine AL_p (x_store (n := 4) rfl rfl rfl rfl (by kernel_rfl) rfl rfl rfl) ?_
   refine AL_p (x_assign rfl rfl) ?_
   refine AL_p (x_assign rfl rfl) ?_
   refine AL_nil ?_
   refine AW_seq ?_
   refine AW_seq ?_
   refine AW_region ?_
   refine AL_p (x_move rfl rfl) ?_
   refine AL_b (x_neq rfl rfl rfl) (fun b46 h46 => ?_)
   refine AL_nil ?_
   cases b46
   rotate_left
   · try simp only [tdy] at h46
     have hno : (lexAll s) = ([], (wordRes s j (s[j].toNat : Int)).2.2, (j : Int)) := (lexAll_eq (by omega)).trans (comb_bad hc (lexw_bad (by omega) hs ha h46) h46)
     refine AW_condT rfl ?_
     refine AW_seq ?_
     refine AW_region ?_
     refine AL_p (x_move rfl rfl) ?_
     refine AL_p (x_move rfl rfl) ?_
     refine AL_p (x_assign rfl rfl) ?_
     refine AL_p (x_assign rfl rfl) ?_
     refine AL_p (x_assign rfl rfl) ?_
     refine AL_nil ?_
     refine AW_adoptT (T := 83) (e := tokenE) 100 2 rfl rfl rfl ?_
     refine AW_ret (BQ_ret (BQ_ret ?_))
     exact ⟨rn [(0, 100)], ⟨⟨⟨_, rfl, VLe.rf⟩, ⟨_, rfl, vle_int (by rw [hno])⟩, ⟨_, rfl, vle_int (by rw [hno])⟩, trivial⟩, ⟨⟨_, rfl, by first | exact BLe.rf | exact BLe.arr (by rw [hno])⟩, trivial⟩, trivial, rfl⟩⟩
   try simp only [tdy] at h46
   have hok := lexw_ok (s := s) (j := j) (by omega) hs ha (Classical.not_not.1 (by simpa using h46))
   have hc2 := comb_ok hc hok.1
   have hle := wordEnd_le (s := s) j (by omega)
   have hgt := wordEnd_gt (s := s) (i := j) (by omega) ha
   have hnx := hok.2
   have hge := skip_ge (s := s) (wordEnd s j)
   have hle2 := skip_le (s := s) (wordEnd s j) hle
   refine AW_condF rfl ?_
   refine AW_skip ?_
   refine AW_seq ?_
   refine AW_region ?_
   refine AL_p (x_move rfl rfl) ?_
   refine AL_p (x_loadN (n := 4) rfl rfl rfl (by kernel_rfl) rfl rfl) ?_
   refine AL_p (y_bslice (E := 83) (e := tokenE) [.tmp 50] ([(wordRes s j (s[j].toNat : Int)).1]) 103 rfl rfl rfl rfl rfl rfl rfl rfl FitL.rf rfl rfl rfl rfl rfl rfl (by kernel_rfl)) ?_
   refine AL_p (y_append 104 rfl rfl rfl rfl rfl rfl rfl rfl (by kernel_rfl) (by simp only [List.length_append, List.length_cons, List.length_nil] at *; omega)) ?_
   refine AL_p (x_assign rfl rfl) ?_
   refine AL_nil ?_
   refine AW_seq ?_
   refine AW_region ?_
   refine AL_p (x_move rfl rfl) ?_
   refine AL_p (x_assign rfl rfl) ?_
   refine AL_nil ?_
   refine AW_exit (BQ_hit ?_)
   refine AW_slot (t := 6) (y := .one (.c (.int .i64 ((_ : Nat) : Int)))) rfl (congrArg (fun z : Int => AVal.one (.c (.int .i64 z))) hnx) ?_
   refine AW_region ?_
   refine AL_p (x_move rfl rfl) ?_
   refine AL_p (x_move rfl rfl) ?_
   refine AL_p (x_call0 rfl rfl rfl (skipped_c s _ hs0 hle) rfl rfl) ?_
   refine AL_p (x_assign rfl rfl) ?_
   refine AL_nil ?_
   refine ⟨⟨⟨skipS s (wordEnd s j), out ++ [(wordRes s j (s[j].toNat : Int)).1]⟩, ⟨⟨hle2, skip_skip _⟩, (comb_skip hc2 (skip_skip _).symm), by simp only [List.length_append, List.length_cons, List.length_nil]; omega⟩⟩, rn [(101, 104)], ?_, by dsimp only; omega⟩
   exact ⟨by (repeat refine ⟨⟨_, rfl, by first | exact VLe.rf | exact vle_int (by dsimp only; omega)⟩, ?_⟩); exact trivial, by (repeat refine ⟨⟨_, rfl, by first | exact BLe.rf | exact BLe.box AllC.rf | exact BLe.arr (by exact rfl)⟩, ?_⟩); exact trivial, by repeat (first | exact trivial | refine ⟨⟨rfl, by first | (left; intro h; cases h) | (right; rfl), by first | exact (fun _ h => ⟨_, h⟩) | exact (fun _ _ => ⟨_, rfl⟩) | (intro _ h; cases h)⟩, ?_⟩), rfl⟩
 try simp only [tdy] at h32
 refine AL_g rfl rfl (x_move rfl rfl) ?_
 refine AL_gb rfl rfl (x_call0 rfl rfl rfl (isDig_c _) rfl rfl) (fun b36 h36 => ?_)
 refine AL_p (x_pickF rfl rfl rfl) ?_
 refine AL_nil ?_
 cases b36
 · try simp only [tdy] at h36
   have ha : alnumB s[j].toNat = false := by simp [alnumB, *]
   refine AW_condF rfl ?_
   refine AW_skip ?_
   refine AW_seq ?_
   refine AW_region ?_
   refine AL_p (x_move rfl rfl) ?_
   refine AL_p (x_move rfl rfl) ?_
   refine AL_p (x_call0 rfl rfl rfl (symbolAt_c s j hs0 (by omega)) rfl rfl) ?_
   refine AL_p (x_assign rfl rfl) ?_
   refine AL_nil ?_
   refine AW_seq ?_
   refine AW_seq ?_
   refine AW_region ?_
   refine AL_p (x_move rfl rfl) ?_
   refine AL_b (x_seql rfl rfl rfl) (fun b58 h58 => ?_)
   refine AL_nil ?_
   cases b58
   rotate_left
   · try simp only [tdy] at h58
     have h58b := ba_iff.1 h58
     have hno : (lexAll s) = ([], 2, (j : Int)) := (lexAll_eq (by omega)).trans (comb_bad hc (lex_nosign (by omega) hs ha (by rw [h58b]; rfl)) (by decide))
     refine AW_condT rfl ?_
     refine AW_seq ?_
     refine AW_region ?_
     refine AL_p (x_move rfl rfl) ?_
     refine AL_p (x_assign rfl rfl) ?_
     refine AL_p (x_assign rfl rfl) ?_
     refine AL_p (x_assign rfl rfl) ?_
     refine AL_nil ?_
     refine AW_adoptT (T := 83) (e := tokenE) 100 2 rfl rfl rfl ?_
     refine AW_ret (BQ_ret (BQ_ret ?_))
     exact ⟨rn [(0, 100)], ⟨⟨⟨_, rfl, VLe.rf⟩, ⟨_, rfl, vle_int (by rw [hno])⟩, ⟨_, rfl, vle_int (by rw [hno])⟩, trivial⟩, ⟨⟨_, rfl, by first | exact BLe.rf | exact BLe.arr (by rw [hno])⟩, trivial⟩, trivial, rfl⟩⟩
   try simp only [tdy] at h58
   have hy : ¬ (symAt s j).size = 0 := fun q => absurd (ba_iff.2 (size_zero q)) (by rw [h58]; decide)
   have hc2 := comb_ok hc (lex_sign (by omega) hs ha hy)
   have hle := symAt_size (s := s) (i := j) (by omega)
   have hnx : (j : Int) + ((symAt s j).size : Int) = ((j + (symAt s j).size : Nat) : Int) := by omega
   have hge := skip_ge (s := s) (j + (symAt s j).size)
   have hle2 := skip_le (s := s) (j + (symAt s j).size) hle
   refine AW_condF rfl ?_
   refine AW_skip ?_
   refine AW_seq ?_
   refine AW_region ?_
   refine AL_p (x_move rfl rfl) ?_
   refine AL_p (x_move rfl rfl) ?_
   refine AL_p (x_move rfl rfl) ?_
   refine AL_p (x_build (zs := [.int .i64 0, .int .i64 0, .string ⟨#[]⟩, .int .i64 0]) (places := [(0, 1), (1, 1), (2, 1), (3, 1)]) rfl (by kernel_rfl) rfl rfl rfl rfl rfl) ?_
   refine AL_p (y_bslice (E := 83) (e := tokenE) [.tmp 63] ([(⟨4, 0, symAt s j, (j : Int)⟩ : Tokent)]) 105 rfl rfl rfl rfl rfl rfl rfl rfl FitL.rf rfl rfl rfl rfl rfl rfl (by kernel_rfl)) ?_
   refine AL_p (y_append 106 rfl rfl rfl rfl rfl rfl rfl rfl (by kernel_rfl) (by simp only [List.length_append, List.length_cons, List.length_nil] at *; omega)) ?_
   refine AL_p (x_assign rfl rfl) ?_
   refine AL_nil ?_
   refine AW_region ?_
   refine AL_p (x_move rfl rfl) ?_
   refine AL_p (x_move rfl rfl) ?_
   refine AL_p (x_lens rfl rfl (by kernel_rfl)) ?_
   refine AL_p (x_add rfl rfl rfl (IntWalk.i64_in _ (by omega))) ?_
   refine AL_p (x_assign rfl rfl) ?_
   refine AL_nil ?_
   refine AW_slot (t := 6) (y := .one (.c (.int .i64 ((_ : Nat) : Int)))) rfl (congrArg (fun z : Int => AVal.one (.c (.int .i64 z))) hnx) ?_
   refine AW_region ?_
   refine AL_p (x_move rfl rfl) ?_
   refine AL_p (x_move rfl rfl) ?_
   refine AL_p (x_call0 rfl rfl rfl (skipped_c s _ hs0 hle) rfl rfl) ?_
   refine AL_p (x_assign rfl rfl) ?_
   refine AL_nil ?_
   refine ⟨⟨⟨skipS s (j + (symAt s j).size), out ++ [⟨4, 0, symAt s j, (j : Int)⟩]⟩, ⟨⟨hle2, skip_skip _⟩, (comb_skip hc2 (skip_skip _).symm), by simp only [List.length_append, List.length_cons, List.length_nil]; omega⟩⟩, rn [(101, 106)], ?_, by dsimp only; omega⟩
   exact ⟨by (repeat refine ⟨⟨_, rfl, by first | exact VLe.rf | exact vle_int (by dsimp only; omega)⟩, ?_⟩); exact trivial, by (repeat refine ⟨⟨_, rfl, by first | exact BLe.rf | exact BLe.box AllC.rf | exact BLe.arr (by exact rfl)⟩, ?_⟩); exact trivial, by repeat (first | exact trivial | refine ⟨⟨rfl, by first | (left; intro h; cases h) | (right; rfl), by first | exact (fun _ h => ⟨_, h⟩) | exact (fun _ _ => ⟨_, rfl⟩) | (intro _ h; cases h)⟩, ?_⟩), rfl⟩
 try simp only [tdy] at h36
 have ha : alnumB s[j].toNat = true := by simp [alnumB, h36]
 refine AW_condT rfl ?_
 refine AW_seq ?_
 refine AW_region ?_
 refine AL_p (x_move rfl rfl) ?_
 refine AL_p (x_move rfl rfl) ?_
 refine AL_p (x_call0 rfl rfl rfl (wordAt_c s j hs0 (by omega) ha) rfl rfl) ?_
 refine AL_p (x_move rfl rfl) ?_
 refine AL_p (x_extract rfl rfl rfl) ?_
 refine AL_p (x_extract rfl rfl rfl) ?_
 refine AL_p (x_extract rfl rfl rfl) ?_
 refine AL_p (x_alloc (z := .agg #[.int .i64 0, .int .i64 0, .string ⟨#[]⟩, .int .i64 0]) 102 rfl (by kernel_rfl) rfl rfl rfl rfl) ?_
 refine AL_p (x_store (n := 4) rfl rfl rfl rfl (by kernel_rfl) rfl rfl rfl) ?_
 refine AL_p (x_assign rfl rfl) ?_
 refine AL_p (x_assign rfl rfl) ?_
 refine AL_nil ?_
 refine AW_seq ?_
 refine AW_seq ?_
 refine AW_region ?_
 refine AL_p (x_move rfl rfl) ?_
 refine AL_b (x_neq rfl rfl rfl) (fun b46 h46 => ?_)
 refine AL_nil ?_
 cases b46
 rotate_left
 · try simp only [tdy] at h46
   have hno : (lexAll s) = ([], (wordRes s j (s[j].toNat : Int)).2.2, (j : Int)) := (lexAll_eq (by omega)).trans (comb_bad hc (lexw_bad (by omega) hs ha h46) h46)
   refine AW_condT rfl ?_
   refine AW_seq ?_
   refine AW_region ?_
   refine AL_p (x_move rfl rfl) ?_
   refine AL_p (x_move rfl rfl) ?_
   refine AL_p (x_assign rfl rfl) ?_
   refine AL_p (x_assign rfl rfl) ?_
   refine AL_p (x_assign rfl rfl) ?_
   refine AL_nil ?_
   refine AW_adoptT (T := 83) (e := tokenE) 100 2 rfl rfl rfl ?_
   refine AW_ret (BQ_ret (BQ_ret ?_))
   exact ⟨rn [(0, 100)], ⟨⟨⟨_, rfl, VLe.rf⟩, ⟨_, rfl, vle_int (by rw [hno])⟩, ⟨_, rfl, vle_int (by rw [hno])⟩, trivial⟩, ⟨⟨_, rfl, by first | exact BLe.rf | exact BLe.arr (by rw [hno])⟩, trivial⟩, trivial, rfl⟩⟩
 try simp only [tdy] at h46
 have hok := lexw_ok (s := s) (j := j) (by omega) hs ha (Classical.not_not.1 (by simpa using h46))
 have hc2 := comb_ok hc hok.1
 have hle := wordEnd_le (s := s) j (by omega)
 have hgt := wordEnd_gt (s := s) (i := j) (by omega) ha
 have hnx := hok.2
 have hge := skip_ge (s := s) (wordEnd s j)
 have hle2 := skip_le (s := s) (wordEnd s j) hle
 refine AW_condF rfl ?_
 refine AW_skip ?_
 refine AW_seq ?_
 refine AW_region ?_
 refine AL_p (x_move rfl rfl) ?_
 refine AL_p (x_loadN (n := 4) rfl rfl rfl (by kernel_rfl) rfl rfl) ?_
 refine AL_p (y_bslice (E := 83) (e := tokenE) [.tmp 50] ([(wordRes s j (s[j].toNat : Int)).1]) 103 rfl rfl rfl rfl rfl rfl rfl rfl FitL.rf rfl rfl rfl rfl rfl rfl (by kernel_rfl)) ?_
 refine AL_p (y_append 104 rfl rfl rfl rfl rfl rfl rfl rfl (by kernel_rfl) (by simp only [List.length_append, List.length_cons, List.length_nil] at *; omega)) ?_
 refine AL_p (x_assign rfl rfl) ?_
 refine AL_nil ?_
 refine AW_seq ?_
 refine AW_region ?_
 refine AL_p (x_move rfl rfl) ?_
 refine AL_p (x_assign rfl rfl) ?_
 refine AL_nil ?_
 refine AW_exit (BQ_hit ?_)
 refine AW_slot (t := 6) (y := .one (.c (.int .i64 ((_ : Nat) : Int)))) rfl (congrArg (fun z : Int => AVal.one (.c (.int .i64 z))) hnx) ?_
 refine AW_region ?_
 refine AL_p (x_move rfl rfl) ?_
 refine AL_p (x_move rfl rfl) ?_
 refine AL_p (x_call0 rfl rfl rfl (skipped_c s _ hs0 hle) rfl rfl) ?_
 refine AL_p (x_assign rfl rfl) ?_
 refine AL_nil ?_
 refine ⟨⟨⟨skipS s (wordEnd s j), out ++ [(wordRes s j (s[j].toNat : Int)).1]⟩, ⟨⟨hle2, skip_skip _⟩, (comb_skip hc2 (skip_skip _).symm), by simp only [List.length_append, List.length_cons, List.length_nil]; omega⟩⟩, rn [(101, 104)], ?_, by dsimp only; omega⟩
 exact ⟨by (repeat refine ⟨⟨_, rfl, by first | exact VLe.rf | exact vle_int (by dsimp only; omega)⟩, ?_⟩); exact trivial, by (repeat refine ⟨⟨_, rfl, by first | exact BLe.rf | exact BLe.box AllC.rf | exact BLe.arr (by exact rfl)⟩, ?_⟩); exact trivial, by repeat (first | exact trivial | refine ⟨⟨rfl, by first | (left; intro h; cases h) | (right; rfl), by first | exact (fun _ h => ⟨_, h⟩) | exact (fun _ _ => ⟨_, rfl⟩) | (intro _ h; cases h)⟩, ?_⟩), rfl⟩
theorem lexI_c (s : ByteArray) (hs0 : s.size ≤ 1048576) (k : Nat) : AC Try.prog 17 [.one (.c (.string s))] [] (.tup [.one (.own k), .one (.c (.int .i64 ((lexAll s).2.1))), .one (.c (.int .i64 ((lexAll s).2.2)))]) [(k, some (.arr 83 tokenE (lexAll s).1 true))] := AC.at (lexI_c0 s hs0) k

set_option maxHeartbeats 4000000 in
theorem lexS_c (s : ByteArray) (hs0 : s.size ≤ 1048576) : AC Try.prog 16 [.one (.c (.string s))] [] (.tup [.one (.sl tokenE (lexAll s).1), .one (.c (.int .i64 ((lexAll s).2.1))), .one (.c (.int .i64 ((lexAll s).2.2)))]) [] := by
 refine AC_body3 Try.func16 rfl rfl Try.ntmps16 rfl Try.results16 rfl rfl rfl rfl rfl rfl ?_
 refine AW_seq ?_
 refine AW_region ?_
 refine AL_p (x_assign rfl rfl) ?_
 refine AL_p (x_assign rfl rfl) ?_
 refine AL_p (x_assign rfl rfl) ?_
 refine AL_nil ?_
 refine AW_seq ?_
 refine AW_seq ?_
 refine AW_region ?_
 refine AL_p (x_move rfl rfl) ?_
 refine AL_p (x_lens rfl rfl (by kernel_rfl)) ?_
 refine AL_b (x_gtr rfl rfl rfl) (fun b15 h15 => ?_)
 refine AL_nil ?_
 cases b15
 rotate_left
 · try simp only [tdy] at h15
   have hno := lexAll_big h15
   refine AW_condT rfl ?_
   refine AW_seq ?_
   refine AW_region ?_
   refine AL_p (x_assign rfl rfl) ?_
   refine AL_p (x_assign rfl rfl) ?_
   refine AL_p (x_assign rfl rfl) ?_
   refine AL_nil ?_
   refine AW_adoptT (T := 83) (e := tokenE) 100 2 rfl rfl rfl ?_
   refine AW_shut 100 2 rfl rfl ?_
   refine AW_ret ?_
   exact ⟨rn [], ⟨⟨⟨_, rfl, vle_sl (by rw [hno])⟩, ⟨_, rfl, vle_int (by rw [hno])⟩, ⟨_, rfl, vle_int (by rw [hno])⟩, trivial⟩, trivial, trivial, rfl⟩⟩
 try simp only [tdy] at h15
 refine AW_condF rfl ?_
 refine AW_skip ?_
 refine AW_seq ?_
 refine AW_region ?_
 refine AL_p (y_bslice0 (E := 83) (e := tokenE) 101 rfl rfl rfl (by kernel_rfl)) ?_
 refine AL_p (x_assign rfl rfl) ?_
 refine AL_nil ?_
 refine AW_seq ?_
 refine AW_seq ?_
 refine AW_region ?_
 refine AL_p (x_assign rfl rfl) ?_
 refine AL_nil ?_
 refine AW_block ?_
 refine AW_loop2 (ι := {q : Nat × List Tokent // (q.1) ≤ s.size ∧ combL (q.2) (lexR s (q.1)) = lexR s 0 ∧ (q.2).length ≤ (q.1)}) (fun p => [(5, .one (.own 101)), (6, .one (.c (.int .i64 (((p.1.1) : Int)))))]) (fun p => [(101, some (.arr 83 tokenE (p.1.2) true))]) [0] [] (fun p => s.size - (p.1.1)) ⟨⟨0, []⟩, ⟨by omega, comb_start, by simp⟩⟩ (rn []) ?_ ?_
 exact ⟨by (repeat refine ⟨⟨_, rfl, by first | exact VLe.rf | exact vle_int (by dsimp only; omega)⟩, ?_⟩); exact trivial, by (repeat refine ⟨⟨_, rfl, by first | exact BLe.rf | exact BLe.box AllC.rf | exact BLe.arr (by exact rfl)⟩, ?_⟩); exact trivial, by repeat (first | exact trivial | refine ⟨⟨rfl, by first | (left; intro h; cases h) | (right; rfl), by first | exact (fun _ h => ⟨_, h⟩) | exact (fun _ _ => ⟨_, rfl⟩) | (intro _ h; cases h)⟩, ?_⟩), rfl⟩
 rintro ⟨⟨j, out⟩, hinv⟩
 dsimp only
 have hj : j ≤ s.size := hinv.1
 have hc := hinv.2.1
 have hl : out.length ≤ j := hinv.2.2
 refine AW_seq ?_
 refine AW_seq ?_
 refine AW_region ?_
 refine AL_p (x_move rfl rfl) ?_
 refine AL_p (x_move rfl rfl) ?_
 refine AL_p (x_lens rfl rfl (by kernel_rfl)) ?_
 refine AL_b (x_lss rfl rfl rfl) (fun b20 h20 => ?_)
 refine AL_nil ?_
 cases b20
 · try simp only [tdy] at h20
   have hno := (lexAll_eq (s := s) (by omega)).trans (comb_end hc (by omega)).symm.symm
   refine AW_condF rfl ?_
   refine AW_exit (BQ_hit ?_)
   refine AW_seq ?_
   refine AW_region ?_
   refine AL_p (x_move rfl rfl) ?_
   refine AL_p (x_assign rfl rfl) ?_
   refine AL_p (x_assign rfl rfl) ?_
   refine AL_p (x_assign rfl rfl) ?_
   refine AL_nil ?_
   refine AW_shut 101 2 rfl rfl ?_
   refine AW_ret ?_
   exact ⟨rn [], ⟨⟨⟨_, rfl, vle_sl (by rw [hno])⟩, ⟨_, rfl, vle_int (by rw [hno])⟩, ⟨_, rfl, vle_int (by rw [hno])⟩, trivial⟩, trivial, trivial, rfl⟩⟩
 try simp only [tdy] at h20
 refine AW_condT rfl ?_
 refine AW_skip ?_
 refine AW_block ?_
 refine AW_seq ?_
 refine AW_region ?_
 refine AL_p (x_move rfl rfl) ?_
 refine AL_p (x_move rfl rfl) ?_
 refine AL_p (x_sindex rfl rfl rfl (by kernel_rfl) (k := j) rfl (by omega)) ?_
 refine AL_p (x_assign rfl rfl) ?_
 refine AL_nil ?_
 refine AW_seq ?_
 refine AW_seq ?_
 refine AW_region ?_
 refine AL_p (x_move rfl rfl) ?_
 refine AL_b (x_eql rfl rfl rfl) (fun b25 h25 => ?_)
 refine AL_p (x_move rfl rfl) ?_
 cases b25
 rotate_left
 · try simp only [tdy] at h25
   have hb : blank s[j].toNat = true := by simp [blank, h25]
   refine AL_o rfl rfl rfl rfl ?_
   refine AL_o rfl rfl rfl rfl ?_
   refine AL_p (x_pickT rfl rfl rfl) ?_
   refine AL_p (x_move rfl rfl) ?_
   refine AL_o rfl rfl rfl rfl ?_
   refine AL_o rfl rfl rfl rfl ?_
   refine AL_p (x_pickT rfl rfl rfl) ?_
   refine AL_p (x_move rfl rfl) ?_
   refine AL_o rfl rfl rfl rfl ?_
   refine AL_o rfl rfl rfl rfl ?_
   refine AL_p (x_pickT rfl rfl rfl) ?_
   refine AL_nil ?_
   refine AW_condT rfl ?_
   refine AW_seq ?_
   refine AW_region ?_
   refine AL_p (x_move rfl rfl) ?_
   refine AL_p (x_add rfl rfl rfl (IntWalk.i64_in _ (by omega))) ?_
   refine AL_p (x_assign rfl rfl) ?_
   refine AL_nil ?_
   refine AW_exit (BQ_hit ?_)
   refine ⟨⟨⟨j + 1, out⟩, ⟨by omega, comb_skip hc (skip_blank (by omega) hb), by dsimp only; omega⟩⟩, rn [], ?_, by dsimp only; omega⟩
   exact ⟨by (repeat refine ⟨⟨_, rfl, by first | exact VLe.rf | exact vle_int (by dsimp only; omega)⟩, ?_⟩); exact trivial, by (repeat refine ⟨⟨_, rfl, by first | exact BLe.rf | exact BLe.box AllC.rf | exact BLe.arr (by exact rfl)⟩, ?_⟩); exact trivial, by repeat (first | exact trivial | refine ⟨⟨rfl, by first | (left; intro h; cases h) | (right; rfl), by first | exact (fun _ h => ⟨_, h⟩) | exact (fun _ _ => ⟨_, rfl⟩) | (intro _ h; cases h)⟩, ?_⟩), rfl⟩
 try simp only [tdy] at h25
 refine AL_g rfl rfl (x_move rfl rfl) ?_
 refine AL_gb rfl rfl (x_eql rfl rfl rfl) (fun b28 h28 => ?_)
 refine AL_p (x_pickF rfl rfl rfl) ?_
 refine AL_p (x_move rfl rfl) ?_
 cases b28
 rotate_left
 · try simp only [tdy] at h28
   have hb : blank s[j].toNat = true := by simp [blank, h28]
   refine AL_o rfl rfl rfl rfl ?_
   refine AL_o rfl rfl rfl rfl ?_
   refine AL_p (x_pickT rfl rfl rfl) ?_
   refine AL_p (x_move rfl rfl) ?_
   refine AL_o rfl rfl rfl rfl ?_
   refine AL_o rfl rfl rfl rfl ?_
   refine AL_p (x_pickT rfl rfl rfl) ?_
   refine AL_nil ?_
   refine AW_condT rfl ?_
   refine AW_seq ?_
   refine AW_region ?_
   refine AL_p (x_move rfl rfl) ?_
   refine AL_p (x_add rfl rfl rfl (IntWalk.i64_in _ (by omega))) ?_
   refine AL_p (x_assign rfl rfl) ?_
   refine AL_nil ?_
   refine AW_exit (BQ_hit ?_)
   refine ⟨⟨⟨j + 1, out⟩, ⟨by omega, comb_skip hc (skip_blank (by omega) hb), by dsimp only; omega⟩⟩, rn [], ?_, by dsimp only; omega⟩
   exact ⟨by (repeat refine ⟨⟨_, rfl, by first | exact VLe.rf | exact vle_int (by dsimp only; omega)⟩, ?_⟩); exact trivial, by (repeat refine ⟨⟨_, rfl, by first | exact BLe.rf | exact BLe.box AllC.rf | exact BLe.arr (by exact rfl)⟩, ?_⟩); exact trivial, by repeat (first | exact trivial | refine ⟨⟨rfl, by first | (left; intro h; cases h) | (right; rfl), by first | exact (fun _ h => ⟨_, h⟩) | exact (fun _ _ => ⟨_, rfl⟩) | (intro _ h; cases h)⟩, ?_⟩), rfl⟩
 try simp only [tdy] at h28
 refine AL_g rfl rfl (x_move rfl rfl) ?_
 refine AL_gb rfl rfl (x_eql rfl rfl rfl) (fun b32 h32 => ?_)
 refine AL_p (x_pickF rfl rfl rfl) ?_
 refine AL_p (x_move rfl rfl) ?_
 cases b32
 rotate_left
 · try simp only [tdy] at h32
   have hb : blank s[j].toNat = true := by simp [blank, h32]
   refine AL_o rfl rfl rfl rfl ?_
   refine AL_o rfl rfl rfl rfl ?_
   refine AL_p (x_pickT rfl rfl rfl) ?_
   refine AL_nil ?_
   refine AW_condT rfl ?_
   refine AW_seq ?_
   refine AW_region ?_
   refine AL_p (x_move rfl rfl) ?_
   refine AL_p (x_add rfl rfl rfl (IntWalk.i64_in _ (by omega))) ?_
   refine AL_p (x_assign rfl rfl) ?_
   refine AL_nil ?_
   refine AW_exit (BQ_hit ?_)
   refine ⟨⟨⟨j + 1, out⟩, ⟨by omega, comb_skip hc (skip_blank (by omega) hb), by dsimp only; omega⟩⟩, rn [], ?_, by dsimp only; omega⟩
   exact ⟨by (repeat refine ⟨⟨_, rfl, by first | exact VLe.rf | exact vle_int (by dsimp only; omega)⟩, ?_⟩); exact trivial, by (repeat refine ⟨⟨_, rfl, by first | exact BLe.rf | exact BLe.box AllC.rf | exact BLe.arr (by exact rfl)⟩, ?_⟩); exact trivial, by repeat (first | exact trivial | refine ⟨⟨rfl, by first | (left; intro h; cases h) | (right; rfl), by first | exact (fun _ h => ⟨_, h⟩) | exact (fun _ _ => ⟨_, rfl⟩) | (intro _ h; cases h)⟩, ?_⟩), rfl⟩
 try simp only [tdy] at h32
 refine AL_g rfl rfl (x_move rfl rfl) ?_
 refine AL_gb rfl rfl (x_eql rfl rfl rfl) (fun b36 h36 => ?_)
 refine AL_p (x_pickF rfl rfl rfl) ?_
 refine AL_nil ?_
 cases b36
 rotate_left
 · try simp only [tdy] at h36
   have hb : blank s[j].toNat = true := by simp [blank, h36]
   refine AW_condT rfl ?_
   refine AW_seq ?_
   refine AW_region ?_
   refine AL_p (x_move rfl rfl) ?_
   refine AL_p (x_add rfl rfl rfl (IntWalk.i64_in _ (by omega))) ?_
   refine AL_p (x_assign rfl rfl) ?_
   refine AL_nil ?_
   refine AW_exit (BQ_hit ?_)
   refine ⟨⟨⟨j + 1, out⟩, ⟨by omega, comb_skip hc (skip_blank (by omega) hb), by dsimp only; omega⟩⟩, rn [], ?_, by dsimp only; omega⟩
   exact ⟨by (repeat refine ⟨⟨_, rfl, by first | exact VLe.rf | exact vle_int (by dsimp only; omega)⟩, ?_⟩); exact trivial, by (repeat refine ⟨⟨_, rfl, by first | exact BLe.rf | exact BLe.box AllC.rf | exact BLe.arr (by exact rfl)⟩, ?_⟩); exact trivial, by repeat (first | exact trivial | refine ⟨⟨rfl, by first | (left; intro h; cases h) | (right; rfl), by first | exact (fun _ h => ⟨_, h⟩) | exact (fun _ _ => ⟨_, rfl⟩) | (intro _ h; cases h)⟩, ?_⟩), rfl⟩
 try simp only [tdy] at h36
 have hb : blank s[j].toNat = false := by simp [blank, *]
 refine AW_condF rfl ?_
 refine AW_skip ?_
 refine AW_seq ?_
 refine AW_seq ?_
 refine AW_region ?_
 refine AL_p (x_move rfl rfl) ?_
 refine AL_b (x_eql rfl rfl rfl) (fun b41 h41 => ?_)
 refine AL_nil ?_
 cases b41
 rotate_left
 · try simp only [tdy] at h41
   have hn1 := note_lt (s := s) (i := j) (by omega) h41
   have hn2 := skip_note (s := s) (i := j) (by omega) hb h41
   have hn3 := lineEnd_le (s := s) j (by omega)
   refine AW_condT rfl ?_
   refine AW_seq ?_
   refine AW_block ?_
   refine AW_loop2 (ι := {q : Nat // (j ≤ q ∧ q ≤ s.size) ∧ lineEnd s q = lineEnd s j}) (fun p => [(6, .one (.c (.int .i64 (((p.1) : Int)))))]) (fun p => []) [0, 5, 7] [101] (fun p => s.size - (p.1)) ⟨j, ⟨⟨Nat.le_refl _, by omega⟩, rfl⟩⟩ (rn []) ?_ ?_
   exact ⟨by (repeat refine ⟨⟨_, rfl, by first | exact VLe.rf | exact vle_int (by dsimp only; omega)⟩, ?_⟩); exact trivial, by (repeat refine ⟨⟨_, rfl, by first | exact BLe.rf | exact BLe.box AllC.rf | exact BLe.arr (by exact rfl)⟩, ?_⟩); exact trivial, by repeat (first | exact trivial | refine ⟨⟨rfl, by first | (left; intro h; cases h) | (right; rfl), by first | exact (fun _ h => ⟨_, h⟩) | exact (fun _ _ => ⟨_, rfl⟩) | (intro _ h; cases h)⟩, ?_⟩), rfl⟩
   rintro ⟨e, hinv⟩
   dsimp only
   have he0 : j ≤ e := hinv.1.1
   have he1 : e ≤ s.size := hinv.1.2
   have he := hinv.2
   refine AW_seq ?_
   refine AW_seq ?_
   refine AW_region ?_
   refine AL_p (x_move rfl rfl) ?_
   refine AL_p (x_move rfl rfl) ?_
   refine AL_p (x_lens rfl rfl (by kernel_rfl)) ?_
   refine AL_b (x_lss rfl rfl rfl) (fun b45 h45 => ?_)
   refine AL_p (x_move rfl rfl) ?_
   cases b45
   · try simp only [tdy] at h45
     have hee : e = lineEnd s j := by rw [← he, lineEnd_end (s := s) (i := e) (by omega)]
     have hn4 : skipS s j = skipS s e := by rw [hn2, hee]
     refine AL_o rfl rfl rfl rfl ?_
     refine AL_o rfl rfl rfl rfl ?_
     refine AL_o rfl rfl rfl rfl ?_
     refine AL_o rfl rfl rfl rfl ?_
     refine AL_p (x_pickF rfl rfl rfl) ?_
     refine AL_nil ?_
     refine AW_condF rfl ?_
     refine AW_exit (BQ_hit ?_)
     refine AW_exit (BQ_hit ?_)
     refine ⟨⟨⟨e, out⟩, ⟨by omega, comb_skip hc hn4, by dsimp only; omega⟩⟩, rn [], ?_, by dsimp only; omega⟩
     exact ⟨by (repeat refine ⟨⟨_, rfl, by first | exact VLe.rf | exact vle_int (by dsimp only; omega)⟩, ?_⟩); exact trivial, by (repeat refine ⟨⟨_, rfl, by first | exact BLe.rf | exact BLe.box AllC.rf | exact BLe.arr (by exact rfl)⟩, ?_⟩); exact trivial, by repeat (first | exact trivial | refine ⟨⟨rfl, by first | (left; intro h; cases h) | (right; rfl), by first | exact (fun _ h => ⟨_, h⟩) | exact (fun _ _ => ⟨_, rfl⟩) | (intro _ h; cases h)⟩, ?_⟩), rfl⟩
   try simp only [tdy] at h45
   refine AL_g rfl rfl (x_move rfl rfl) ?_
   refine AL_g rfl rfl (x_move rfl rfl) ?_
   refine AL_g rfl rfl (x_sindex rfl rfl rfl (by kernel_rfl) (k := e) rfl (by omega)) ?_
   refine AL_gb rfl rfl (x_neq rfl rfl rfl) (fun b50 h50 => ?_)
   refine AL_p (x_pickT rfl rfl rfl) ?_
   refine AL_nil ?_
   cases b50
   · try simp only [tdy] at h50
     have hee : e = lineEnd s j := by rw [← he, lineEnd_at (s := s) (i := e) (by omega) (by omega)]
     have hn4 : skipS s j = skipS s e := by rw [hn2, hee]
     refine AW_condF rfl ?_
     refine AW_exit (BQ_hit ?_)
     refine AW_exit (BQ_hit ?_)
     refine ⟨⟨⟨e, out⟩, ⟨by omega, comb_skip hc hn4, by dsimp only; omega⟩⟩, rn [], ?_, by dsimp only; omega⟩
     exact ⟨by (repeat refine ⟨⟨_, rfl, by first | exact VLe.rf | exact vle_int (by dsimp only; omega)⟩, ?_⟩); exact trivial, by (repeat refine ⟨⟨_, rfl, by first | exact BLe.rf | exact BLe.box AllC.rf | exact BLe.arr (by exact rfl)⟩, ?_⟩); exact trivial, by repeat (first | exact trivial | refine ⟨⟨rfl, by first | (left; intro h; cases h) | (right; rfl), by first | exact (fun _ h => ⟨_, h⟩) | exact (fun _ _ => ⟨_, rfl⟩) | (intro _ h; cases h)⟩, ?_⟩), rfl⟩
   try simp only [tdy] at h50
   have he2 := (lineEnd_on (s := s) (i := e) (by omega) h50).symm.trans he
   refine AW_condT rfl ?_
   refine AW_skip ?_
   refine AW_block ?_
   refine AW_region ?_
   refine AL_p (x_move rfl rfl) ?_
   refine AL_p (x_add rfl rfl rfl (IntWalk.i64_in _ (by omega))) ?_
   refine AL_p (x_assign rfl rfl) ?_
   refine AL_nil ?_
   refine ⟨⟨e + 1, ⟨⟨by omega, by omega⟩, he2⟩⟩, rn [], ?_, by dsimp only; omega⟩
   exact ⟨by (repeat refine ⟨⟨_, rfl, by first | exact VLe.rf | exact vle_int (by dsimp only; omega)⟩, ?_⟩); exact trivial, by (repeat refine ⟨⟨_, rfl, by first | exact BLe.rf | exact BLe.box AllC.rf | exact BLe.arr (by exact rfl)⟩, ?_⟩); exact trivial, by repeat (first | exact trivial | refine ⟨⟨rfl, by first | (left; intro h; cases h) | (right; rfl), by first | exact (fun _ h => ⟨_, h⟩) | exact (fun _ _ => ⟨_, rfl⟩) | (intro _ h; cases h)⟩, ?_⟩), rfl⟩
 try simp only [tdy] at h41
 have hs := skip_stop (s := s) (i := j) (by omega) hb h41
 refine AW_condF rfl ?_
 refine AW_skip ?_
 refine AW_seq ?_
 refine AW_seq ?_
 refine AW_region ?_
 refine AL_p (x_move rfl rfl) ?_
 refine AL_p (x_call0 rfl rfl rfl (cls_c _) rfl rfl) ?_
 refine AL_b (x_eql rfl rfl rfl) (fun b56 h56 => ?_)
 refine AL_nil ?_
 cases b56
 rotate_left
 · try simp only [tdy] at h56
   have ha := cls_pos.1.1 h56
   refine AW_condT rfl ?_
   refine AW_seq ?_
   refine AW_region ?_
   refine AL_p (x_move rfl rfl) ?_
   refine AL_p (x_move rfl rfl) ?_
   refine AL_p (x_call0 rfl rfl rfl (sign_c s j hs0 (by omega)) rfl rfl) ?_
   refine AL_p (x_assign rfl rfl) ?_
   refine AL_nil ?_
   refine AW_seq ?_
   refine AW_seq ?_
   refine AW_region ?_
   refine AL_p (x_move rfl rfl) ?_
   refine AL_b (x_seql rfl rfl rfl) (fun b61 h61 => ?_)
   refine AL_nil ?_
   cases b61
   rotate_left
   · try simp only [tdy] at h61
     have h61b := ba_iff.1 h61
     have hno : (lexAll s) = ([], 2, (j : Int)) := (lexAll_eq (by omega)).trans (comb_bad hc (lex_nosign (by omega) hs ha (by rw [h61b]; rfl)) (by decide))
     refine AW_condT rfl ?_
     refine AW_seq ?_
     refine AW_region ?_
     refine AL_p (x_move rfl rfl) ?_
     refine AL_p (x_assign rfl rfl) ?_
     refine AL_p (x_assign rfl rfl) ?_
     refine AL_p (x_assign rfl rfl) ?_
     refine AL_nil ?_
     refine AW_adoptT (T := 83) (e := tokenE) 100 2 rfl rfl rfl ?_
     refine AW_shut 100 2 rfl rfl ?_
     refine AW_ret (BQ_ret (BQ_ret ?_))
     exact ⟨rn [], ⟨⟨⟨_, rfl, vle_sl (by rw [hno])⟩, ⟨_, rfl, vle_int (by rw [hno])⟩, ⟨_, rfl, vle_int (by rw [hno])⟩, trivial⟩, trivial, trivial, rfl⟩⟩
   try simp only [tdy] at h61
   have hy : ¬ (symAt s j).size = 0 := fun q => absurd (ba_iff.2 (size_zero q)) (by rw [h61]; decide)
   have hc2 := comb_ok hc (lex_sign (by omega) hs ha hy)
   have hle := symAt_size (s := s) (i := j) (by omega)
   refine AW_condF rfl ?_
   refine AW_skip ?_
   refine AW_seq ?_
   refine AW_region ?_
   refine AL_p (x_move rfl rfl) ?_
   refine AL_p (x_move rfl rfl) ?_
   refine AL_p (x_move rfl rfl) ?_
   refine AL_p (x_build (zs := [.int .i64 0, .int .i64 0, .string ⟨#[]⟩, .int .i64 0]) (places := [(0, 1), (1, 1), (2, 1), (3, 1)]) rfl (by kernel_rfl) rfl rfl rfl rfl rfl) ?_
   refine AL_p (y_bslice (E := 83) (e := tokenE) [.tmp 66] ([(⟨4, 0, symAt s j, (j : Int)⟩ : Tokent)]) 102 rfl rfl rfl rfl rfl rfl rfl rfl FitL.rf rfl rfl rfl rfl rfl rfl (by kernel_rfl)) ?_
   refine AL_p (y_append 103 rfl rfl rfl rfl rfl rfl rfl rfl (by kernel_rfl) (by simp only [List.length_append, List.length_cons, List.length_nil] at *; omega)) ?_
   refine AL_p (x_assign rfl rfl) ?_
   refine AL_nil ?_
   refine AW_seq ?_
   refine AW_region ?_
   refine AL_p (x_move rfl rfl) ?_
   refine AL_p (x_move rfl rfl) ?_
   refine AL_p (x_lens rfl rfl (by kernel_rfl)) ?_
   refine AL_p (x_add rfl rfl rfl (IntWalk.i64_in _ (by omega))) ?_
   refine AL_p (x_assign rfl rfl) ?_
   refine AL_nil ?_
   refine AW_exit (BQ_hit ?_)
   refine ⟨⟨⟨j + (symAt s j).size, out ++ [(⟨4, 0, symAt s j, (j : Int)⟩ : Tokent)]⟩, ⟨by omega, hc2, by simp only [List.length_append, List.length_cons, List.length_nil]; omega⟩⟩, rn [(101, 103)], ?_, by dsimp only; omega⟩
   exact ⟨by (repeat refine ⟨⟨_, rfl, by first | exact VLe.rf | exact vle_int (by dsimp only; omega)⟩, ?_⟩); exact trivial, by (repeat refine ⟨⟨_, rfl, by first | exact BLe.rf | exact BLe.box AllC.rf | exact BLe.arr (by exact rfl)⟩, ?_⟩); exact trivial, by repeat (first | exact trivial | refine ⟨⟨rfl, by first | (left; intro h; cases h) | (right; rfl), by first | exact (fun _ h => ⟨_, h⟩) | exact (fun _ _ => ⟨_, rfl⟩) | (intro _ h; cases h)⟩, ?_⟩), rfl⟩
 try simp only [tdy] at h56
 have ha : alnumB s[j].toNat = true := by cases q : alnumB s[j].toNat with | true => rfl | false => exact absurd (cls_pos.1.2 q) h56
 have hgt := wordEnd_gt (s := s) (i := j) (by omega) ha
 have hwl := wordEnd_le (s := s) j (by omega)
 refine AW_condF rfl ?_
 refine AW_skip ?_
 refine AW_seq ?_
 refine AW_region ?_
 refine AL_p (x_move rfl rfl) ?_
 refine AL_p (x_assign rfl rfl) ?_
 refine AL_nil ?_
 refine AW_seq ?_
 refine AW_block ?_
 refine AW_loop2 (ι := {q : Nat // (j ≤ q ∧ q ≤ s.size) ∧ wordEnd s q = wordEnd s j}) (fun p => [(9, .one (.c (.int .i64 (((p.1) : Int)))))]) (fun p => []) [0, 5, 6, 7] [101] (fun p => s.size - (p.1)) ⟨j, ⟨⟨Nat.le_refl _, by omega⟩, rfl⟩⟩ (rn []) ?_ ?_
 exact ⟨by (repeat refine ⟨⟨_, rfl, by first | exact VLe.rf | exact vle_int (by dsimp only; omega)⟩, ?_⟩); exact trivial, by (repeat refine ⟨⟨_, rfl, by first | exact BLe.rf | exact BLe.box AllC.rf | exact BLe.arr (by exact rfl)⟩, ?_⟩); exact trivial, by repeat (first | exact trivial | refine ⟨⟨rfl, by first | (left; intro h; cases h) | (right; rfl), by first | exact (fun _ h => ⟨_, h⟩) | exact (fun _ _ => ⟨_, rfl⟩) | (intro _ h; cases h)⟩, ?_⟩), rfl⟩
 rintro ⟨e, hinv⟩
 dsimp only
 have he0 : j ≤ e := hinv.1.1
 have he1 : e ≤ s.size := hinv.1.2
 have hw : wordEnd s e = wordEnd s j := hinv.2
 refine AW_seq ?_
 refine AW_seq ?_
 refine AW_region ?_
 refine AL_p (x_move rfl rfl) ?_
 refine AL_p (x_move rfl rfl) ?_
 refine AL_p (x_lens rfl rfl (by kernel_rfl)) ?_
 refine AL_b (x_lss rfl rfl rfl) (fun b77 h77 => ?_)
 refine AL_p (x_move rfl rfl) ?_
 cases b77
 · try simp only [tdy] at h77
   have hee : e = wordEnd s j := by rw [← hw, wordEnd_end (s := s) (i := e) (by omega)]
   refine AL_o rfl rfl rfl rfl ?_
   refine AL_o rfl rfl rfl rfl ?_
   refine AL_o rfl rfl rfl rfl ?_
   refine AL_o rfl rfl rfl rfl ?_
   refine AL_o rfl rfl rfl rfl ?_
   refine AL_p (x_pickF rfl rfl rfl) ?_
   refine AL_nil ?_
   refine AW_condF rfl ?_
   refine AW_exit (BQ_hit ?_)
   refine AW_seq ?_
   refine AW_region ?_
   refine AL_p (x_move rfl rfl) ?_
   refine AL_p (x_move rfl rfl) ?_
   refine AL_p (x_move rfl rfl) ?_
   refine AL_p (x_sslice rfl rfl (by kernel_rfl) (.yes (l := j) rfl (by omega)) (.yes (l := e) rfl (by omega)) (by omega) (by first | exact Nat.le_refl _ | omega) rfl) ?_
   refine AL_p (x_assign rfl rfl) ?_
   refine AL_nil ?_
   refine AW_seq ?_
   refine AW_seq ?_
   refine AW_region ?_
   refine AL_p (x_move rfl rfl) ?_
   refine AL_p (x_call0 rfl rfl rfl (cls_c _) rfl rfl) ?_
   refine AL_b (x_eql rfl rfl rfl) (fun b93 h93 => ?_)
   refine AL_nil ?_
   cases b93
   rotate_left
   · try simp only [tdy] at h93
     have hd := cls_dig.1 h93
     refine AW_condT rfl ?_
     refine AW_seq ?_
     refine AW_region ?_
     refine AL_p (x_move rfl rfl) ?_
     refine AL_p (x_call0 rfl rfl rfl (textNumS_c _) rfl rfl) ?_
     refine AL_p (x_move rfl rfl) ?_
     refine AL_p (x_extract rfl rfl rfl) ?_
     refine AL_b (x_extract rfl rfl rfl) (fun b98 h98 => ?_)
     refine AL_p (x_assign rfl rfl) ?_
     refine AL_p (x_assign rfl rfl) ?_
     refine AL_nil ?_
     refine AW_seq ?_
     refine AW_seq ?_
     refine AW_region ?_
     refine AL_p (x_move rfl rfl) ?_
     refine AL_p (x_not rfl rfl) ?_
     refine AL_nil ?_
     cases b98
     · try simp only [tdy] at h98
       have hno : (lexAll s) = ([], 3, (j : Int)) := (lexAll_eq (by omega)).trans (comb_bad hc (lexS_bad (by omega) hs ha (res_badnum hee hd h98) (by decide)) (by decide))
       refine AW_condT rfl ?_
       refine AW_seq ?_
       refine AW_region ?_
       refine AL_p (x_move rfl rfl) ?_
       refine AL_p (x_assign rfl rfl) ?_
       refine AL_p (x_assign rfl rfl) ?_
       refine AL_p (x_assign rfl rfl) ?_
       refine AL_nil ?_
       refine AW_adoptT (T := 83) (e := tokenE) 100 2 rfl rfl rfl ?_
       refine AW_shut 100 2 rfl rfl ?_
       refine AW_ret (BQ_ret (BQ_ret ?_))
       exact ⟨rn [], ⟨⟨⟨_, rfl, vle_sl (by rw [hno])⟩, ⟨_, rfl, vle_int (by rw [hno])⟩, ⟨_, rfl, vle_int (by rw [hno])⟩, trivial⟩, trivial, trivial, rfl⟩⟩
     try simp only [tdy] at h98
     have hc2 := comb_ok hc (lexS_ok (by omega) hs ha hee (res_num hee hd h98))
     refine AW_condF rfl ?_
     refine AW_skip ?_
     refine AW_region ?_
     refine AL_p (x_move rfl rfl) ?_
     refine AL_p (x_move rfl rfl) ?_
     refine AL_p (x_move rfl rfl) ?_
     refine AL_p (x_build (zs := [.int .i64 0, .int .i64 0, .string ⟨#[]⟩, .int .i64 0]) (places := [(0, 1), (1, 1), (2, 1), (3, 1)]) rfl (by kernel_rfl) rfl rfl rfl rfl rfl) ?_
     refine AL_p (y_bslice (E := 83) (e := tokenE) [.tmp 105] ([(⟨3, textN (s.extract j e), ⟨#[]⟩, (j : Int)⟩ : Tokent)]) 104 rfl rfl rfl rfl rfl rfl rfl rfl FitL.rf rfl rfl rfl rfl rfl rfl (by kernel_rfl)) ?_
     refine AL_p (y_append 105 rfl rfl rfl rfl rfl rfl rfl rfl (by kernel_rfl) (by simp only [List.length_append, List.length_cons, List.length_nil] at *; omega)) ?_
     refine AL_p (x_assign rfl rfl) ?_
     refine AL_nil ?_
     refine AW_region ?_
     refine AL_p (x_move rfl rfl) ?_
     refine AL_p (x_assign rfl rfl) ?_
     refine AL_nil ?_
     refine ⟨⟨⟨e, out ++ [(⟨3, textN (s.extract j e), ⟨#[]⟩, (j : Int)⟩ : Tokent)]⟩, ⟨by omega, hc2, by simp only [List.length_append, List.length_cons, List.length_nil]; omega⟩⟩, rn [(101, 105)], ?_, by dsimp only; omega⟩
     exact ⟨by (repeat refine ⟨⟨_, rfl, by first | exact VLe.rf | exact vle_int (by dsimp only; omega)⟩, ?_⟩); exact trivial, by (repeat refine ⟨⟨_, rfl, by first | exact BLe.rf | exact BLe.box AllC.rf | exact BLe.arr (by exact rfl)⟩, ?_⟩); exact trivial, by repeat (first | exact trivial | refine ⟨⟨rfl, by first | (left; intro h; cases h) | (right; rfl), by first | exact (fun _ h => ⟨_, h⟩) | exact (fun _ _ => ⟨_, rfl⟩) | (intro _ h; cases h)⟩, ?_⟩), rfl⟩
   try simp only [tdy] at h93
   have hd : digB s[j].toNat = false := by cases q : digB s[j].toNat with | false => rfl | true => exact absurd (cls_dig.2 q) h93
   refine AW_condF rfl ?_
   refine AW_seq ?_
   refine AW_region ?_
   refine AL_p (x_move rfl rfl) ?_
   refine AL_b (x_call0 rfl rfl rfl (wordOkS_c _) rfl rfl) (fun b109 h109 => ?_)
   refine AL_nil ?_
   cases b109
   rotate_left
   · try simp only [tdy] at h109
     have hc2 := comb_ok hc (lexS_ok (by omega) hs ha hee (res_word hee hd h109))
     refine AW_condT rfl ?_
     refine AW_region ?_
     refine AL_p (x_move rfl rfl) ?_
     refine AL_p (x_move rfl rfl) ?_
     refine AL_p (x_move rfl rfl) ?_
     refine AL_p (x_build (zs := [.int .i64 0, .int .i64 0, .string ⟨#[]⟩, .int .i64 0]) (places := [(0, 1), (1, 1), (2, 1), (3, 1)]) rfl (by kernel_rfl) rfl rfl rfl rfl rfl) ?_
     refine AL_p (y_bslice (E := 83) (e := tokenE) [.tmp 113] ([(⟨1, 0, (s.extract j e), (j : Int)⟩ : Tokent)]) 106 rfl rfl rfl rfl rfl rfl rfl rfl FitL.rf rfl rfl rfl rfl rfl rfl (by kernel_rfl)) ?_
     refine AL_p (y_append 107 rfl rfl rfl rfl rfl rfl rfl rfl (by kernel_rfl) (by simp only [List.length_append, List.length_cons, List.length_nil] at *; omega)) ?_
     refine AL_p (x_assign rfl rfl) ?_
     refine AL_nil ?_
     refine AW_region ?_
     refine AL_p (x_move rfl rfl) ?_
     refine AL_p (x_assign rfl rfl) ?_
     refine AL_nil ?_
     refine ⟨⟨⟨e, out ++ [(⟨1, 0, (s.extract j e), (j : Int)⟩ : Tokent)]⟩, ⟨by omega, hc2, by simp only [List.length_append, List.length_cons, List.length_nil]; omega⟩⟩, rn [(101, 107)], ?_, by dsimp only; omega⟩
     exact ⟨by (repeat refine ⟨⟨_, rfl, by first | exact VLe.rf | exact vle_int (by dsimp only; omega)⟩, ?_⟩); exact trivial, by (repeat refine ⟨⟨_, rfl, by first | exact BLe.rf | exact BLe.box AllC.rf | exact BLe.arr (by exact rfl)⟩, ?_⟩); exact trivial, by repeat (first | exact trivial | refine ⟨⟨rfl, by first | (left; intro h; cases h) | (right; rfl), by first | exact (fun _ h => ⟨_, h⟩) | exact (fun _ _ => ⟨_, rfl⟩) | (intro _ h; cases h)⟩, ?_⟩), rfl⟩
   try simp only [tdy] at h109
   refine AW_condF rfl ?_
   refine AW_seq ?_
   refine AW_region ?_
   refine AL_p (x_move rfl rfl) ?_
   refine AL_b (x_call0 rfl rfl rfl (varOkS_c _) rfl rfl) (fun b117 h117 => ?_)
   refine AL_nil ?_
   cases b117
   · try simp only [tdy] at h117
     have hno : (lexAll s) = ([], 4, (j : Int)) := (lexAll_eq (by omega)).trans (comb_bad hc (lexS_bad (by omega) hs ha (res_none hee hd h109 h117) (by decide)) (by decide))
     refine AW_condF rfl ?_
     refine AW_seq ?_
     refine AW_region ?_
     refine AL_p (x_move rfl rfl) ?_
     refine AL_p (x_assign rfl rfl) ?_
     refine AL_p (x_assign rfl rfl) ?_
     refine AL_p (x_assign rfl rfl) ?_
     refine AL_nil ?_
     refine AW_adoptT (T := 83) (e := tokenE) 100 2 rfl rfl rfl ?_
     refine AW_shut 100 2 rfl rfl ?_
     refine AW_ret (BQ_ret (BQ_ret ?_))
     exact ⟨rn [], ⟨⟨⟨_, rfl, vle_sl (by rw [hno])⟩, ⟨_, rfl, vle_int (by rw [hno])⟩, ⟨_, rfl, vle_int (by rw [hno])⟩, trivial⟩, trivial, trivial, rfl⟩⟩
   try simp only [tdy] at h117
   have hc2 := comb_ok hc (lexS_ok (by omega) hs ha hee (res_var hee hd h109 h117))
   refine AW_condT rfl ?_
   refine AW_region ?_
   refine AL_p (x_move rfl rfl) ?_
   refine AL_p (x_move rfl rfl) ?_
   refine AL_p (x_move rfl rfl) ?_
   refine AL_p (x_build (zs := [.int .i64 0, .int .i64 0, .string ⟨#[]⟩, .int .i64 0]) (places := [(0, 1), (1, 1), (2, 1), (3, 1)]) rfl (by kernel_rfl) rfl rfl rfl rfl rfl) ?_
   refine AL_p (y_bslice (E := 83) (e := tokenE) [.tmp 121] ([(⟨2, 0, (s.extract j e), (j : Int)⟩ : Tokent)]) 108 rfl rfl rfl rfl rfl rfl rfl rfl FitL.rf rfl rfl rfl rfl rfl rfl (by kernel_rfl)) ?_
   refine AL_p (y_append 109 rfl rfl rfl rfl rfl rfl rfl rfl (by kernel_rfl) (by simp only [List.length_append, List.length_cons, List.length_nil] at *; omega)) ?_
   refine AL_p (x_assign rfl rfl) ?_
   refine AL_nil ?_
   refine AW_region ?_
   refine AL_p (x_move rfl rfl) ?_
   refine AL_p (x_assign rfl rfl) ?_
   refine AL_nil ?_
   refine ⟨⟨⟨e, out ++ [(⟨2, 0, (s.extract j e), (j : Int)⟩ : Tokent)]⟩, ⟨by omega, hc2, by simp only [List.length_append, List.length_cons, List.length_nil]; omega⟩⟩, rn [(101, 109)], ?_, by dsimp only; omega⟩
   exact ⟨by (repeat refine ⟨⟨_, rfl, by first | exact VLe.rf | exact vle_int (by dsimp only; omega)⟩, ?_⟩); exact trivial, by (repeat refine ⟨⟨_, rfl, by first | exact BLe.rf | exact BLe.box AllC.rf | exact BLe.arr (by exact rfl)⟩, ?_⟩); exact trivial, by repeat (first | exact trivial | refine ⟨⟨rfl, by first | (left; intro h; cases h) | (right; rfl), by first | exact (fun _ h => ⟨_, h⟩) | exact (fun _ _ => ⟨_, rfl⟩) | (intro _ h; cases h)⟩, ?_⟩), rfl⟩
 try simp only [tdy] at h77
 refine AL_g rfl rfl (x_move rfl rfl) ?_
 refine AL_g rfl rfl (x_move rfl rfl) ?_
 refine AL_g rfl rfl (x_sindex rfl rfl rfl (by kernel_rfl) (k := e) rfl (by omega)) ?_
 refine AL_g rfl rfl (x_call0 rfl rfl rfl (cls_c _) rfl rfl) ?_
 refine AL_gb rfl rfl (x_gtr rfl rfl rfl) (fun b83 h83 => ?_)
 refine AL_p (x_pickT rfl rfl rfl) ?_
 refine AL_nil ?_
 cases b83
 rotate_left
 · try simp only [tdy] at h83
   have hw2 := (wordEnd_on (s := s) (i := e) (by omega) (cls_pos.2.1 h83)).symm.trans hw
   refine AW_condT rfl ?_
   refine AW_skip ?_
   refine AW_block ?_
   refine AW_region ?_
   refine AL_p (x_move rfl rfl) ?_
   refine AL_p (x_add rfl rfl rfl (IntWalk.i64_in _ (by omega))) ?_
   refine AL_p (x_assign rfl rfl) ?_
   refine AL_nil ?_
   refine ⟨⟨e + 1, ⟨⟨by omega, by omega⟩, hw2⟩⟩, rn [], ?_, by dsimp only; omega⟩
   exact ⟨by (repeat refine ⟨⟨_, rfl, by first | exact VLe.rf | exact vle_int (by dsimp only; omega)⟩, ?_⟩); exact trivial, by (repeat refine ⟨⟨_, rfl, by first | exact BLe.rf | exact BLe.box AllC.rf | exact BLe.arr (by exact rfl)⟩, ?_⟩); exact trivial, by repeat (first | exact trivial | refine ⟨⟨rfl, by first | (left; intro h; cases h) | (right; rfl), by first | exact (fun _ h => ⟨_, h⟩) | exact (fun _ _ => ⟨_, rfl⟩) | (intro _ h; cases h)⟩, ?_⟩), rfl⟩
 try simp only [tdy] at h83
 have hee : e = wordEnd s j := by rw [← hw, wordEnd_off (s := s) (i := e) (by omega) (by cases q : alnumB s[e].toNat with | false => rfl | true => exact absurd (cls_pos.2.2 q) (by omega))]
 refine AW_condF rfl ?_
 refine AW_exit (BQ_hit ?_)
 refine AW_seq ?_
 refine AW_region ?_
 refine AL_p (x_move rfl rfl) ?_
 refine AL_p (x_move rfl rfl) ?_
 refine AL_p (x_move rfl rfl) ?_
 refine AL_p (x_sslice rfl rfl (by kernel_rfl) (.yes (l := j) rfl (by omega)) (.yes (l := e) rfl (by omega)) (by omega) (by first | exact Nat.le_refl _ | omega) rfl) ?_
 refine AL_p (x_assign rfl rfl) ?_
 refine AL_nil ?_
 refine AW_seq ?_
 refine AW_seq ?_
 refine AW_region ?_
 refine AL_p (x_move rfl rfl) ?_
 refine AL_p (x_call0 rfl rfl rfl (cls_c _) rfl rfl) ?_
 refine AL_b (x_eql rfl rfl rfl) (fun b93 h93 => ?_)
 refine AL_nil ?_
 cases b93
 rotate_left
 · try simp only [tdy] at h93
   have hd := cls_dig.1 h93
   refine AW_condT rfl ?_
   refine AW_seq ?_
   refine AW_region ?_
   refine AL_p (x_move rfl rfl) ?_
   refine AL_p (x_call0 rfl rfl rfl (textNumS_c _) rfl rfl) ?_
   refine AL_p (x_move rfl rfl) ?_
   refine AL_p (x_extract rfl rfl rfl) ?_
   refine AL_b (x_extract rfl rfl rfl) (fun b98 h98 => ?_)
   refine AL_p (x_assign rfl rfl) ?_
   refine AL_p (x_assign rfl rfl) ?_
   refine AL_nil ?_
   refine AW_seq ?_
   refine AW_seq ?_
   refine AW_region ?_
   refine AL_p (x_move rfl rfl) ?_
   refine AL_p (x_not rfl rfl) ?_
   refine AL_nil ?_
   cases b98
   · try simp only [tdy] at h98
     have hno : (lexAll s) = ([], 3, (j : Int)) := (lexAll_eq (by omega)).trans (comb_bad hc (lexS_bad (by omega) hs ha (res_badnum hee hd h98) (by decide)) (by decide))
     refine AW_condT rfl ?_
     refine AW_seq ?_
     refine AW_region ?_
     refine AL_p (x_move rfl rfl) ?_
     refine AL_p (x_assign rfl rfl) ?_
     refine AL_p (x_assign rfl rfl) ?_
     refine AL_p (x_assign rfl rfl) ?_
     refine AL_nil ?_
     refine AW_adoptT (T := 83) (e := tokenE) 100 2 rfl rfl rfl ?_
     refine AW_shut 100 2 rfl rfl ?_
     refine AW_ret (BQ_ret (BQ_ret ?_))
     exact ⟨rn [], ⟨⟨⟨_, rfl, vle_sl (by rw [hno])⟩, ⟨_, rfl, vle_int (by rw [hno])⟩, ⟨_, rfl, vle_int (by rw [hno])⟩, trivial⟩, trivial, trivial, rfl⟩⟩
   try simp only [tdy] at h98
   have hc2 := comb_ok hc (lexS_ok (by omega) hs ha hee (res_num hee hd h98))
   refine AW_condF rfl ?_
   refine AW_skip ?_
   refine AW_region ?_
   refine AL_p (x_move rfl rfl) ?_
   refine AL_p (x_move rfl rfl) ?_
   refine AL_p (x_move rfl rfl) ?_
   refine AL_p (x_build (zs := [.int .i64 0, .int .i64 0, .string ⟨#[]⟩, .int .i64 0]) (places := [(0, 1), (1, 1), (2, 1), (3, 1)]) rfl (by kernel_rfl) rfl rfl rfl rfl rfl) ?_
   refine AL_p (y_bslice (E := 83) (e := tokenE) [.tmp 105] ([(⟨3, textN (s.extract j e), ⟨#[]⟩, (j : Int)⟩ : Tokent)]) 104 rfl rfl rfl rfl rfl rfl rfl rfl FitL.rf rfl rfl rfl rfl rfl rfl (by kernel_rfl)) ?_
   refine AL_p (y_append 105 rfl rfl rfl rfl rfl rfl rfl rfl (by kernel_rfl) (by simp only [List.length_append, List.length_cons, List.length_nil] at *; omega)) ?_
   refine AL_p (x_assign rfl rfl) ?_
   refine AL_nil ?_
   refine AW_region ?_
   refine AL_p (x_move rfl rfl) ?_
   refine AL_p (x_assign rfl rfl) ?_
   refine AL_nil ?_
   refine ⟨⟨⟨e, out ++ [(⟨3, textN (s.extract j e), ⟨#[]⟩, (j : Int)⟩ : Tokent)]⟩, ⟨by omega, hc2, by simp only [List.length_append, List.length_cons, List.length_nil]; omega⟩⟩, rn [(101, 105)], ?_, by dsimp only; omega⟩
   exact ⟨by (repeat refine ⟨⟨_, rfl, by first | exact VLe.rf | exact vle_int (by dsimp only; omega)⟩, ?_⟩); exact trivial, by (repeat refine ⟨⟨_, rfl, by first | exact BLe.rf | exact BLe.box AllC.rf | exact BLe.arr (by exact rfl)⟩, ?_⟩); exact trivial, by repeat (first | exact trivial | refine ⟨⟨rfl, by first | (left; intro h; cases h) | (right; rfl), by first | exact (fun _ h => ⟨_, h⟩) | exact (fun _ _ => ⟨_, rfl⟩) | (intro _ h; cases h)⟩, ?_⟩), rfl⟩
 try simp only [tdy] at h93
 have hd : digB s[j].toNat = false := by cases q : digB s[j].toNat with | false => rfl | true => exact absurd (cls_dig.2 q) h93
 refine AW_condF rfl ?_
 refine AW_seq ?_
 refine AW_region ?_
 refine AL_p (x_move rfl rfl) ?_
 refine AL_b (x_call0 rfl rfl rfl (wordOkS_c _) rfl rfl) (fun b109 h109 => ?_)
 refine AL_nil ?_
 cases b109
 rotate_left
 · try simp only [tdy] at h109
   have hc2 := comb_ok hc (lexS_ok (by omega) hs ha hee (res_word hee hd h109))
   refine AW_condT rfl ?_
   refine AW_region ?_
   refine AL_p (x_move rfl rfl) ?_
   refine AL_p (x_move rfl rfl) ?_
   refine AL_p (x_move rfl rfl) ?_
   refine AL_p (x_build (zs := [.int .i64 0, .int .i64 0, .string ⟨#[]⟩, .int .i64 0]) (places := [(0, 1), (1, 1), (2, 1), (3, 1)]) rfl (by kernel_rfl) rfl rfl rfl rfl rfl) ?_
   refine AL_p (y_bslice (E := 83) (e := tokenE) [.tmp 113] ([(⟨1, 0, (s.extract j e), (j : Int)⟩ : Tokent)]) 106 rfl rfl rfl rfl rfl rfl rfl rfl FitL.rf rfl rfl rfl rfl rfl rfl (by kernel_rfl)) ?_
   refine AL_p (y_append 107 rfl rfl rfl rfl rfl rfl rfl rfl (by kernel_rfl) (by simp only [List.length_append, List.length_cons, List.length_nil] at *; omega)) ?_
   refine AL_p (x_assign rfl rfl) ?_
   refine AL_nil ?_
   refine AW_region ?_
   refine AL_p (x_move rfl rfl) ?_
   refine AL_p (x_assign rfl rfl) ?_
   refine AL_nil ?_
   refine ⟨⟨⟨e, out ++ [(⟨1, 0, (s.extract j e), (j : Int)⟩ : Tokent)]⟩, ⟨by omega, hc2, by simp only [List.length_append, List.length_cons, List.length_nil]; omega⟩⟩, rn [(101, 107)], ?_, by dsimp only; omega⟩
   exact ⟨by (repeat refine ⟨⟨_, rfl, by first | exact VLe.rf | exact vle_int (by dsimp only; omega)⟩, ?_⟩); exact trivial, by (repeat refine ⟨⟨_, rfl, by first | exact BLe.rf | exact BLe.box AllC.rf | exact BLe.arr (by exact rfl)⟩, ?_⟩); exact trivial, by repeat (first | exact trivial | refine ⟨⟨rfl, by first | (left; intro h; cases h) | (right; rfl), by first | exact (fun _ h => ⟨_, h⟩) | exact (fun _ _ => ⟨_, rfl⟩) | (intro _ h; cases h)⟩, ?_⟩), rfl⟩
 try simp only [tdy] at h109
 refine AW_condF rfl ?_
 refine AW_seq ?_
 refine AW_region ?_
 refine AL_p (x_move rfl rfl) ?_
 refine AL_b (x_call0 rfl rfl rfl (varOkS_c _) rfl rfl) (fun b117 h117 => ?_)
 refine AL_nil ?_
 cases b117
 · try simp only [tdy] at h117
   have hno : (lexAll s) = ([], 4, (j : Int)) := (lexAll_eq (by omega)).trans (comb_bad hc (lexS_bad (by omega) hs ha (res_none hee hd h109 h117) (by decide)) (by decide))
   refine AW_condF rfl ?_
   refine AW_seq ?_
   refine AW_region ?_
   refine AL_p (x_move rfl rfl) ?_
   refine AL_p (x_assign rfl rfl) ?_
   refine AL_p (x_assign rfl rfl) ?_
   refine AL_p (x_assign rfl rfl) ?_
   refine AL_nil ?_
   refine AW_adoptT (T := 83) (e := tokenE) 100 2 rfl rfl rfl ?_
   refine AW_shut 100 2 rfl rfl ?_
   refine AW_ret (BQ_ret (BQ_ret ?_))
   exact ⟨rn [], ⟨⟨⟨_, rfl, vle_sl (by rw [hno])⟩, ⟨_, rfl, vle_int (by rw [hno])⟩, ⟨_, rfl, vle_int (by rw [hno])⟩, trivial⟩, trivial, trivial, rfl⟩⟩
 try simp only [tdy] at h117
 have hc2 := comb_ok hc (lexS_ok (by omega) hs ha hee (res_var hee hd h109 h117))
 refine AW_condT rfl ?_
 refine AW_region ?_
 refine AL_p (x_move rfl rfl) ?_
 refine AL_p (x_move rfl rfl) ?_
 refine AL_p (x_move rfl rfl) ?_
 refine AL_p (x_build (zs := [.int .i64 0, .int .i64 0, .string ⟨#[]⟩, .int .i64 0]) (places := [(0, 1), (1, 1), (2, 1), (3, 1)]) rfl (by kernel_rfl) rfl rfl rfl rfl rfl) ?_
 refine AL_p (y_bslice (E := 83) (e := tokenE) [.tmp 121] ([(⟨2, 0, (s.extract j e), (j : Int)⟩ : Tokent)]) 108 rfl rfl rfl rfl rfl rfl rfl rfl FitL.rf rfl rfl rfl rfl rfl rfl (by kernel_rfl)) ?_
 refine AL_p (y_append 109 rfl rfl rfl rfl rfl rfl rfl rfl (by kernel_rfl) (by simp only [List.length_append, List.length_cons, List.length_nil] at *; omega)) ?_
 refine AL_p (x_assign rfl rfl) ?_
 refine AL_nil ?_
 refine AW_region ?_
 refine AL_p (x_move rfl rfl) ?_
 refine AL_p (x_assign rfl rfl) ?_
 refine AL_nil ?_
 refine ⟨⟨⟨e, out ++ [(⟨2, 0, (s.extract j e), (j : Int)⟩ : Tokent)]⟩, ⟨by omega, hc2, by simp only [List.length_append, List.length_cons, List.length_nil]; omega⟩⟩, rn [(101, 109)], ?_, by dsimp only; omega⟩
 exact ⟨by (repeat refine ⟨⟨_, rfl, by first | exact VLe.rf | exact vle_int (by dsimp only; omega)⟩, ?_⟩); exact trivial, by (repeat refine ⟨⟨_, rfl, by first | exact BLe.rf | exact BLe.box AllC.rf | exact BLe.arr (by exact rfl)⟩, ?_⟩); exact trivial, by repeat (first | exact trivial | refine ⟨⟨rfl, by first | (left; intro h; cases h) | (right; rfl), by first | exact (fun _ h => ⟨_, h⟩) | exact (fun _ _ => ⟨_, rfl⟩) | (intro _ h; cases h)⟩, ?_⟩), rfl⟩
end Go.Proofs.Ytkemjhlbokldhaa

/- Two ways that come together: what is behind them is walked once. -/
namespace Go.Proofs.Ytkemjhlbokldhaa
open Go.RowKit
set_option linter.unusedVariables false

theorem AW_mid {P : Program} {N : Nat} {K : List Nat} {c1 c2 : Code} {Kn : St → Prop} {Q : Exit → St → Prop} {s : St} {ι : Type} (U : ι → Tmps) (V : ι → Locs) (ks ls : List Nat)
   (h1 : AW P N K c1 (fun s' => ∃ j r', LeS K r' s' ⟨U j ++ keepT s.t ks, V j ++ keepL s.l ls⟩) Q s) (h2 : ∀ j, AW P N K c2 Kn Q ⟨U j ++ keepT s.t ks, V j ++ keepL s.l ls⟩) : AW P N K (.seq c1 c2) Kn Q s :=
 AW_seq (AW_mono (fun s' ⟨j, r', hle⟩ => AW_le hle (h2 j)) (fun _ _ h => h) h1)
end Go.Proofs.Ytkemjhlbokldhaa

/- A text is read (printed by walk.py) -/
namespace Go.Proofs.Ytkemjhlbokldhaa
open Go.RowKit
set_option linter.unusedVariables false
set_option linter.unusedSimpArgs false
set_option maxRecDepth 100000

set_option maxHeartbeats 4000000 in
theorem parseI_c0 (s : ByteArray) (hs0 : s.size ≤ 1048576) : AC Try.prog 22 [.one (.c (.string (s)))] [] (.tup [.agg [.own 0, .own 1], .one (.c (.int .i64 ((parseI s).2.1))), .one (.c (.int .i64 ((parseI s).2.2)))]) [(0, some (.arr 97 declE (parseI s).1.decls true)), (1, some (.arr 36 ruleE (parseI s).1.rules true))] := by
 have hm : (lexAll s).1.length ≤ 1048576 := by have := lexAll_len' s; omega
 refine AC_bodyCTT (n := 2) (k := 9) (T := [(2, .one (.ptr 9 0)), (3, .one (.c (.int .i64 ((parseI s).2.1)))), (4, .one (.c (.int .i64 ((parseI s).2.2))))]) (Lf := ((9, some (.box [.own 0, .own 1])) :: [(0, some (.arr 97 declE (parseI s).1.decls true)), (1, some (.arr 36 ruleE (parseI s).1.rules true))])) Try.func22 rfl rfl Try.ntmps22 rfl Try.results22 rfl rfl rfl rfl rfl rfl (by kernel_rfl) rfl rfl ⟨trivial, (by repeat (first | exact trivial | refine ⟨⟨_, rfl, BLe.rf⟩, ?_⟩)), (by repeat (first | exact trivial | refine ⟨⟨rfl, by first | (left; intro h; cases h) | (right; rfl), by first | exact (fun _ h => ⟨_, h⟩) | exact (fun _ _ => ⟨_, rfl⟩) | (intro _ h; cases h)⟩, ?_⟩)), rfl⟩ ?_
 refine AW_seq ?_
 refine AW_region ?_
 refine AL_p (x_alloc (z := .agg #[.slice none 0 0, .slice none 0 0]) 100 rfl (by kernel_rfl) rfl rfl rfl rfl) ?_
 refine AL_p (x_assign rfl rfl) ?_
 refine AL_p (x_assign rfl rfl) ?_
 refine AL_nil ?_
 refine AW_seq ?_
 refine AW_region ?_
 refine AL_p (x_move rfl rfl) ?_
 refine AL_p (x_callR rfl rfl rfl (lexI_c s hs0 101) rfl AllV.rf rfl rfl rfl rfl rfl) ?_
 refine AL_p (x_move rfl rfl) ?_
 refine AL_p (x_extract rfl rfl rfl) ?_
 refine AL_p (x_extract rfl rfl rfl) ?_
 refine AL_p (x_extract rfl rfl rfl) ?_
 refine AL_p (x_assign rfl rfl) ?_
 refine AL_p (x_assign rfl rfl) ?_
 refine AL_p (x_assign rfl rfl) ?_
 refine AL_nil ?_
 refine AW_seq ?_
 refine AW_seq ?_
 refine AW_region ?_
 refine AL_p (x_move rfl rfl) ?_
 refine AL_b (x_neq rfl rfl rfl) (fun b22 h22 => ?_)
 refine AL_nil ?_
 cases b22
 rotate_left
 · try simp only [tdy] at h22
   have hno := parseI_lex h22
   refine AW_condT rfl ?_
   refine AW_seq ?_
   refine AW_region ?_
   refine AL_p (x_build (zs := [.slice none 0 0, .slice none 0 0]) (places := [(0, 1), (1, 1)]) rfl (by kernel_rfl) rfl rfl rfl rfl rfl) ?_
   refine AL_p (x_move rfl rfl) ?_
   refine AL_p (x_move rfl rfl) ?_
   refine AL_p (x_store (n := 2) rfl rfl rfl rfl (by kernel_rfl) rfl rfl rfl) ?_
   refine AL_p (x_assign rfl rfl) ?_
   refine AL_p (x_assign rfl rfl) ?_
   refine AL_nil ?_
   refine AW_adopt (T := 97) (e := declE) 102 100 0 rfl rfl rfl rfl rfl ?_
   refine AW_adopt (T := 36) (e := ruleE) 103 100 1 rfl rfl rfl rfl rfl ?_
   refine AW_ret ?_
   exact ⟨rn [(9, 100), (0, 102), (1, 103)], ⟨⟨⟨_, rfl, VLe.rf⟩, ⟨_, rfl, vle_int (by rw [hno])⟩, ⟨_, rfl, vle_int (by rw [hno])⟩, trivial⟩, ⟨⟨_, rfl, by first | exact BLe.rf | exact ble_eq (by rw [hno]; first | done | rfl)⟩, ⟨_, rfl, by first | exact BLe.rf | (refine BLe.arr ?_; rw [hno]; first | done | rfl)⟩, ⟨_, rfl, by first | exact BLe.rf | (refine BLe.arr ?_; rw [hno]; first | done | rfl)⟩, trivial⟩, trivial, rfl⟩⟩
 try simp only [tdy] at h22
 have hl0 : (lexAll s).2.1 = 0 := by omega
 refine AW_condF rfl ?_
 refine AW_skip ?_
 refine AW_seq ?_
 refine AW_shut 101 5 rfl rfl ?_
 refine AW_region ?_
 refine AL_p (x_move rfl rfl) ?_
 refine AL_p (x_move rfl rfl) ?_
 refine AL_p (x_lens rfl rfl (by kernel_rfl)) ?_
 refine AL_p (x_build (zs := [.slice none 0 0, .int .i64 0, .int .i64 0, .int .i64 0, .int .i64 0]) (places := [(0, 1), (1, 1), (2, 1), (3, 1), (4, 1)]) rfl (by kernel_rfl) rfl rfl rfl rfl rfl) ?_
 refine AL_p (x_box 200 rfl rfl rfl rfl rfl rfl rfl) ?_
 refine AL_p (x_assign rfl rfl) ?_
 refine AL_nil ?_
 refine AW_seq ?_
 refine AW_region ?_
 refine AL_p (x_build (zs := [.slice none 0 0, .slice none 0 0]) (places := [(0, 1), (1, 1)]) rfl (by kernel_rfl) rfl rfl rfl rfl rfl) ?_
 refine AL_p (x_alloc (z := .agg #[.slice none 0 0, .slice none 0 0]) 104 rfl (by kernel_rfl) rfl rfl rfl rfl) ?_
 refine AL_p (x_store (n := 2) rfl rfl rfl rfl (by kernel_rfl) rfl rfl rfl) ?_
 refine AL_nil ?_
 refine AW_seq ?_
 refine AW_block ?_
 refine AW_adopt (T := 97) (e := declE) 105 104 0 rfl rfl rfl rfl rfl ?_
 refine AW_adopt (T := 36) (e := ruleE) 106 104 1 rfl rfl rfl rfl rfl ?_
 refine AW_loop2 (ι := {q : PS × List Declt × List Rulet // ((q.1).i ≤ (lexAll s).1.length ∧ (q.2.1).length ≤ 16 ∧ (q.2.2).length ≤ 24) ∧ progT (lexAll s).1 (s.size : Int) (q.1) (q.2.1) (q.2.2) = progT (lexAll s).1 (s.size : Int) ⟨0, 0, 0⟩ [] []}) (fun p => []) (fun p => [(105, some (.arr 97 declE (p.1.2.1) true)), (106, some (.arr 36 ruleE (p.1.2.2) true)), (200, some (psB (lexAll s).1 (s.size : Int) (p.1.1)))]) [2, 5, 8, 9] [100, 104] (fun p => muP (p.1.1) (p.1.2.1) (p.1.2.2)) ⟨⟨(⟨0, 0, 0⟩ : PS), [], []⟩, ⟨⟨Nat.zero_le _, Nat.zero_le _, Nat.zero_le _⟩, rfl⟩⟩ (rn []) ?_ ?_
 exact ⟨by (repeat refine ⟨⟨_, rfl, by first | exact VLe.rf | exact vle_int (by dsimp only; omega)⟩, ?_⟩); exact trivial, by (repeat refine ⟨⟨_, rfl, by first | exact BLe.rf | exact BLe.box AllC.rf | exact BLe.arr (by exact rfl)⟩, ?_⟩); exact trivial, by repeat (first | exact trivial | refine ⟨⟨rfl, by first | (left; intro h; cases h) | (right; rfl), by first | exact (fun _ h => ⟨_, h⟩) | exact (fun _ _ => ⟨_, rfl⟩) | (intro _ h; cases h)⟩, ?_⟩), rfl⟩
 rintro ⟨⟨st1, ds, rs⟩, hinv⟩
 dsimp only
 have hi1 : st1.i ≤ (lexAll s).1.length := hinv.1.1
 have hl : ds.length ≤ 16 ∧ rs.length ≤ 24 := hinv.1.2
 have h43 : ds.length + rs.length < 43 := by omega
 have hinv2 : progT (lexAll s).1 (s.size : Int) st1 ds rs = progT (lexAll s).1 (s.size : Int) ⟨0, 0, 0⟩ [] [] := hinv.2
 refine AW_seq ?_
 refine AW_seq ?_
 refine AW_region ?_
 refine AL_p (x_move rfl rfl) ?_
 refine AL_p (x_nilc rfl rfl rfl) ?_
 refine AL_p (x_field (off := 3) (o' := 3) rfl rfl rfl (by kernel_rfl) rfl) ?_
 refine AL_p (x_load1 rfl rfl rfl (by kernel_rfl) rfl) ?_
 refine AL_b (x_eql rfl rfl rfl) (fun b36 h36 => ?_)
 refine AL_p (x_move rfl rfl) ?_
 cases b36
 · try simp only [tdy] at h36
   have hx := hinv2.symm.trans (progT_end (fun q => by omega) hl)
   refine AL_o rfl rfl rfl rfl ?_
   refine AL_o rfl rfl rfl rfl ?_
   refine AL_o rfl rfl rfl rfl ?_
   refine AL_o rfl rfl rfl rfl ?_
   refine AL_o rfl rfl rfl rfl ?_
   refine AL_o rfl rfl rfl rfl ?_
   refine AL_o rfl rfl rfl rfl ?_
   refine AL_p (x_pickF rfl rfl rfl) ?_
   refine AL_nil ?_
   refine AW_condF rfl ?_
   refine AW_exit (BQ_hit ?_)
   refine AW_seq ?_
   refine AW_seq ?_
   refine AW_region ?_
   refine AL_p (x_move rfl rfl) ?_
   refine AL_p (x_nilc rfl rfl rfl) ?_
   refine AL_p (x_field (off := 3) (o' := 3) rfl rfl rfl (by kernel_rfl) rfl) ?_
   refine AL_p (x_load1 rfl rfl rfl (by kernel_rfl) rfl) ?_
   refine AL_b (x_neq rfl rfl rfl) (fun b113 h113 => ?_)
   refine AL_nil ?_
   cases b113
   · try simp only [tdy] at h113
     have hno := (parseI_of hl0 hx).trans (endR_ok (by omega))
     refine AW_condF rfl ?_
     refine AW_skip ?_
     refine AW_seq ?_
     refine AW_region ?_
     refine AL_p (x_loadN (n := 2) rfl rfl rfl (by kernel_rfl) rfl rfl) ?_
     refine AL_p (x_store (n := 2) rfl rfl rfl rfl (by kernel_rfl) rfl rfl rfl) ?_
     refine AL_p (x_assign rfl rfl) ?_
     refine AL_p (x_assign rfl rfl) ?_
     refine AL_nil ?_
     refine AW_ret ?_
     exact ⟨rn [(9, 100), (0, 105), (1, 106)], ⟨⟨⟨_, rfl, VLe.rf⟩, ⟨_, rfl, vle_int (by rw [hno])⟩, ⟨_, rfl, vle_int (by rw [hno])⟩, trivial⟩, ⟨⟨_, rfl, by first | exact BLe.rf | exact ble_eq (by rw [hno]; first | done | rfl)⟩, ⟨_, rfl, by first | exact BLe.rf | (refine BLe.arr ?_; rw [hno]; first | done | rfl)⟩, ⟨_, rfl, by first | exact BLe.rf | (refine BLe.arr ?_; rw [hno]; first | done | rfl)⟩, trivial⟩, trivial, rfl⟩⟩
   try simp only [tdy] at h113
   have hno := (parseI_of hl0 hx).trans (endR_no (by omega))
   refine AW_condT rfl ?_
   refine AW_seq ?_
   refine AW_draw rfl ?_
   refine AL_p (x_build (zs := [.slice none 0 0, .slice none 0 0]) (places := [(0, 1), (1, 1)]) rfl (by kernel_rfl) rfl rfl rfl rfl rfl) ?_
   refine AL_p (x_move rfl rfl) ?_
   refine AL_p (x_nilc rfl rfl rfl) ?_
   refine AL_p (x_field (off := 3) (o' := 3) rfl rfl rfl (by kernel_rfl) rfl) ?_
   refine AL_p (x_load1 rfl rfl rfl (by kernel_rfl) rfl) ?_
   refine AL_p (x_move rfl rfl) ?_
   refine AL_p (x_nilc rfl rfl rfl) ?_
   refine AL_p (x_field (off := 4) (o' := 4) rfl rfl rfl (by kernel_rfl) rfl) ?_
   refine AL_p (x_load1 rfl rfl rfl (by kernel_rfl) rfl) ?_
   refine AL_p (x_store (n := 2) rfl rfl rfl rfl (by kernel_rfl) rfl rfl rfl) ?_
   refine AL_p (x_assign rfl rfl) ?_
   refine AL_p (x_assign rfl rfl) ?_
   refine AL_nild (by kernel_rfl) ?_
   refine AW_adopt (T := 97) (e := declE) 102 100 0 rfl rfl rfl rfl rfl ?_
   refine AW_adopt (T := 36) (e := ruleE) 103 100 1 rfl rfl rfl rfl rfl ?_
   refine AW_ret ?_
   exact ⟨rn [(9, 100), (0, 102), (1, 103)], ⟨⟨⟨_, rfl, VLe.rf⟩, ⟨_, rfl, vle_int (by rw [hno])⟩, ⟨_, rfl, vle_int (by rw [hno])⟩, trivial⟩, ⟨⟨_, rfl, by first | exact BLe.rf | exact ble_eq (by rw [hno]; first | done | rfl)⟩, ⟨_, rfl, by first | exact BLe.rf | (refine BLe.arr ?_; rw [hno]; first | done | rfl)⟩, ⟨_, rfl, by first | exact BLe.rf | (refine BLe.arr ?_; rw [hno]; first | done | rfl)⟩, trivial⟩, trivial, rfl⟩⟩
 try simp only [tdy] at h36
 refine AL_g rfl rfl (x_move rfl rfl) ?_
 refine AL_g rfl rfl (x_nilc rfl rfl rfl) ?_
 refine AL_g rfl rfl (x_field (off := 1) (o' := 1) rfl rfl rfl (by kernel_rfl) rfl) ?_
 refine AL_g rfl rfl (x_load1 rfl rfl rfl (by kernel_rfl) rfl) ?_
 refine AL_g rfl rfl (x_move rfl rfl) ?_
 refine AL_g rfl rfl (x_len (E := 83) (n := 4) rfl rfl (by kernel_rfl)) ?_
 refine AL_gb rfl rfl (x_lss rfl rfl rfl) (fun b44 h44 => ?_)
 refine AL_p (x_pickT rfl rfl rfl) ?_
 refine AL_nil ?_
 cases b44
 · try simp only [tdy] at h44
   have hx := hinv2.symm.trans (progT_end (fun q => by omega) hl)
   refine AW_condF rfl ?_
   refine AW_exit (BQ_hit ?_)
   refine AW_seq ?_
   refine AW_seq ?_
   refine AW_region ?_
   refine AL_p (x_move rfl rfl) ?_
   refine AL_p (x_nilc rfl rfl rfl) ?_
   refine AL_p (x_field (off := 3) (o' := 3) rfl rfl rfl (by kernel_rfl) rfl) ?_
   refine AL_p (x_load1 rfl rfl rfl (by kernel_rfl) rfl) ?_
   refine AL_b (x_neq rfl rfl rfl) (fun b113 h113 => ?_)
   refine AL_nil ?_
   cases b113
   · try simp only [tdy] at h113
     have hno := (parseI_of hl0 hx).trans (endR_ok (by omega))
     refine AW_condF rfl ?_
     refine AW_skip ?_
     refine AW_seq ?_
     refine AW_region ?_
     refine AL_p (x_loadN (n := 2) rfl rfl rfl (by kernel_rfl) rfl rfl) ?_
     refine AL_p (x_store (n := 2) rfl rfl rfl rfl (by kernel_rfl) rfl rfl rfl) ?_
     refine AL_p (x_assign rfl rfl) ?_
     refine AL_p (x_assign rfl rfl) ?_
     refine AL_nil ?_
     refine AW_ret ?_
     exact ⟨rn [(9, 100), (0, 105), (1, 106)], ⟨⟨⟨_, rfl, VLe.rf⟩, ⟨_, rfl, vle_int (by rw [hno])⟩, ⟨_, rfl, vle_int (by rw [hno])⟩, trivial⟩, ⟨⟨_, rfl, by first | exact BLe.rf | exact ble_eq (by rw [hno]; first | done | rfl)⟩, ⟨_, rfl, by first | exact BLe.rf | (refine BLe.arr ?_; rw [hno]; first | done | rfl)⟩, ⟨_, rfl, by first | exact BLe.rf | (refine BLe.arr ?_; rw [hno]; first | done | rfl)⟩, trivial⟩, trivial, rfl⟩⟩
   try simp only [tdy] at h113
   have hno := (parseI_of hl0 hx).trans (endR_no (by omega))
   refine AW_condT rfl ?_
   refine AW_seq ?_
   refine AW_draw rfl ?_
   refine AL_p (x_build (zs := [.slice none 0 0, .slice none 0 0]) (places := [(0, 1), (1, 1)]) rfl (by kernel_rfl) rfl rfl rfl rfl rfl) ?_
   refine AL_p (x_move rfl rfl) ?_
   refine AL_p (x_nilc rfl rfl rfl) ?_
   refine AL_p (x_field (off := 3) (o' := 3) rfl rfl rfl (by kernel_rfl) rfl) ?_
   refine AL_p (x_load1 rfl rfl rfl (by kernel_rfl) rfl) ?_
   refine AL_p (x_move rfl rfl) ?_
   refine AL_p (x_nilc rfl rfl rfl) ?_
   refine AL_p (x_field (off := 4) (o' := 4) rfl rfl rfl (by kernel_rfl) rfl) ?_
   refine AL_p (x_load1 rfl rfl rfl (by kernel_rfl) rfl) ?_
   refine AL_p (x_store (n := 2) rfl rfl rfl rfl (by kernel_rfl) rfl rfl rfl) ?_
   refine AL_p (x_assign rfl rfl) ?_
   refine AL_p (x_assign rfl rfl) ?_
   refine AL_nild (by kernel_rfl) ?_
   refine AW_adopt (T := 97) (e := declE) 102 100 0 rfl rfl rfl rfl rfl ?_
   refine AW_adopt (T := 36) (e := ruleE) 103 100 1 rfl rfl rfl rfl rfl ?_
   refine AW_ret ?_
   exact ⟨rn [(9, 100), (0, 102), (1, 103)], ⟨⟨⟨_, rfl, VLe.rf⟩, ⟨_, rfl, vle_int (by rw [hno])⟩, ⟨_, rfl, vle_int (by rw [hno])⟩, trivial⟩, ⟨⟨_, rfl, by first | exact BLe.rf | exact ble_eq (by rw [hno]; first | done | rfl)⟩, ⟨_, rfl, by first | exact BLe.rf | (refine BLe.arr ?_; rw [hno]; first | done | rfl)⟩, ⟨_, rfl, by first | exact BLe.rf | (refine BLe.arr ?_; rw [hno]; first | done | rfl)⟩, trivial⟩, trivial, rfl⟩⟩
 try simp only [tdy] at h44
 have hlt : st1.i < (lexAll s).1.length := by omega
 refine AW_condT rfl ?_
 refine AW_skip ?_
 refine AW_block ?_
 refine AW_seq ?_
 refine AW_region ?_
 refine AL_p (x_move rfl rfl) ?_
 refine AL_p (x_call (ks := []) (L := [(200, some _)]) (L' := [(200, some _)]) rfl rfl rfl (pHere_c (lexAll s).1 (s.size : Int) st1 hm hi1) rfl AllV.rf (caught_of rfl) rfl rfl rfl ⟨rfl, trivial⟩ rfl) ?_
 refine AL_p (x_alloc (z := .agg #[.int .i64 0, .int .i64 0, .string ⟨#[]⟩, .int .i64 0]) 107 rfl (by kernel_rfl) rfl rfl rfl rfl) ?_
 refine AL_p (x_store (n := 4) rfl rfl rfl rfl (by kernel_rfl) rfl rfl rfl) ?_
 refine AL_nil ?_
 refine AW_seq ?_
 refine AW_region ?_
 refine AL_p (x_assign rfl rfl) ?_
 refine AL_nil ?_
 refine AW_mid (ι := {q : Unit // True}) (fun p => [(11, .one (.c (.int .i64 ((kindI (hereT (lexAll s).1 (s.size : Int) st1))))))]) (fun p => []) [2, 5, 8, 9] [100, 104, 105, 106, 107, 200] ?_ ?_
 · refine AW_seq ?_
   refine AW_region ?_
   refine AL_p (x_field (off := 0) (o' := 0) rfl rfl rfl (by kernel_rfl) rfl) ?_
   refine AL_p (x_load1 rfl rfl rfl (by kernel_rfl) rfl) ?_
   refine AL_b (x_eql rfl rfl rfl) (fun b50 h50 => ?_)
   refine AL_nil ?_
   cases b50
   · try simp only [tdy] at h50
     refine AW_condF rfl ?_
     refine AW_skip ?_
     refine ⟨⟨(), trivial⟩, rn [], ?_⟩
     exact ⟨by (repeat refine ⟨⟨_, rfl, by first | exact VLe.rf | exact vle_int (by dsimp only; omega) | exact vle_str (by exact absurd rfl id) | exact vle_int (by first | exact (idx_kind _).trans (if_pos h50).symm | exact (if_neg h50).symm)⟩, ?_⟩); exact trivial, by (repeat refine ⟨⟨_, rfl, by first | exact BLe.rf | exact BLe.box AllC.rf | exact BLe.arr (by exact rfl)⟩, ?_⟩); exact trivial, by repeat (first | exact trivial | refine ⟨⟨rfl, by first | (left; intro h; cases h) | (right; rfl), by first | exact (fun _ h => ⟨_, h⟩) | exact (fun _ _ => ⟨_, rfl⟩) | (intro _ h; cases h)⟩, ?_⟩), rfl⟩
   try simp only [tdy] at h50
   refine AW_condT rfl ?_
   refine AW_region ?_
   refine AL_p (y_bslice_sl (E := 9) (e := strE) [.const (.string ⟨#[]⟩), .const (.string ⟨#[115, 116, 97, 116, 101]⟩), .const (.string ⟨#[101, 118, 101, 110, 116]⟩), .const (.string ⟨#[118, 105, 101, 119]⟩)] (kindL) rfl rfl rfl rfl rfl rfl rfl rfl FitL.rf rfl rfl rfl (by kernel_rfl)) ?_
   refine AL_p (x_field (off := 2) (o' := 2) rfl rfl rfl (by kernel_rfl) rfl) ?_
   refine AL_p (x_load1 rfl rfl rfl (by kernel_rfl) rfl) ?_
   refine AL_p (x_call0 rfl rfl rfl (pIndex_c kindL _) rfl rfl) ?_
   refine AL_p (x_assign rfl rfl) ?_
   refine AL_nil ?_
   refine ⟨⟨(), trivial⟩, rn [], ?_⟩
   exact ⟨by (repeat refine ⟨⟨_, rfl, by first | exact VLe.rf | exact vle_int (by dsimp only; omega) | exact vle_str (by exact absurd rfl id) | exact vle_int (by first | exact (idx_kind _).trans (if_pos h50).symm | exact (if_neg h50).symm)⟩, ?_⟩); exact trivial, by (repeat refine ⟨⟨_, rfl, by first | exact BLe.rf | exact BLe.box AllC.rf | exact BLe.arr (by exact rfl)⟩, ?_⟩); exact trivial, by repeat (first | exact trivial | refine ⟨⟨rfl, by first | (left; intro h; cases h) | (right; rfl), by first | exact (fun _ h => ⟨_, h⟩) | exact (fun _ _ => ⟨_, rfl⟩) | (intro _ h; cases h)⟩, ?_⟩), rfl⟩
 rintro ⟨u, hinv1⟩
 dsimp only
 refine AW_seq ?_
 refine AW_region ?_
 refine AL_p (x_move rfl rfl) ?_
 refine AL_bc (x_call (ks := []) (L := [(200, some _)]) (L' := [(200, some _)]) rfl rfl rfl (pIsName_c (lexAll s).1 (s.size : Int) st1 hm hi1) rfl AllV.rf (caught_of rfl) rfl rfl rfl ⟨rfl, trivial⟩ rfl) (fun b56 h56 => ?_)
 refine AL_p (x_move rfl rfl) ?_
 cases b56
 rotate_left
 · try simp only [tdy] at h56
   have hst : startsT (hereT (lexAll s).1 (s.size : Int) st1) = true := by simp [startsT, *]
   refine AL_o rfl rfl rfl rfl ?_
   refine AL_o rfl rfl rfl rfl ?_
   refine AL_p (x_pickT rfl rfl rfl) ?_
   refine AL_p (x_move rfl rfl) ?_
   refine AL_o rfl rfl rfl rfl ?_
   refine AL_o rfl rfl rfl rfl ?_
   refine AL_p (x_pickT rfl rfl rfl) ?_
   refine AL_p (x_assign rfl rfl) ?_
   refine AL_nil ?_
   refine AW_block ?_
   refine AW_seq ?_
   refine AW_region ?_
   refine AL_p (x_move rfl rfl) ?_
   refine AL_b (x_gtr rfl rfl rfl) (fun b69 h69 => ?_)
   refine AL_p (x_move rfl rfl) ?_
   cases b69
   · try simp only [tdy] at h69
     refine AL_o rfl rfl rfl rfl ?_
     refine AL_o rfl rfl rfl rfl ?_
     refine AL_o rfl rfl rfl rfl ?_
     refine AL_o rfl rfl rfl rfl ?_
     refine AL_p (x_pickF rfl rfl rfl) ?_
     refine AL_p (x_move rfl rfl) ?_
     refine AL_g rfl rfl (x_move rfl rfl) ?_
     refine AL_g rfl rfl (x_move rfl rfl) ?_
     refine AL_g rfl rfl (x_field (off := 1) (o' := 1) rfl rfl rfl (by kernel_rfl) rfl) ?_
     refine AL_g rfl rfl (x_load1 rfl rfl rfl (by kernel_rfl) rfl) ?_
     refine AL_g rfl rfl (x_olen (E := 36) (n := 4) rfl rfl rfl (by kernel_rfl)) ?_
     refine AL_gb rfl rfl (x_eql rfl rfl rfl) (fun b82 h82 => ?_)
     refine AL_g rfl rfl (x_pickT rfl rfl rfl) ?_
     refine AL_p (x_pickF rfl rfl rfl) ?_
     refine AL_p (x_assign rfl rfl) ?_
     refine AL_nil ?_
     cases b82
     rotate_left
     · try simp only [tdy] at h82
       have hfull : ((0 < (kindI (hereT (lexAll s).1 (s.size : Int) st1)) ∧ (ds.length : Int) = 16) ∨ (startsT (hereT (lexAll s).1 (s.size : Int) st1) = true ∧ (rs.length : Int) = 24)) := .inr ⟨hst, h82⟩
       refine AW_condT rfl ?_
       refine AW_region ?_
       refine AL_p (x_move rfl rfl) ?_
       refine AL_p (x_call (ks := []) (L := [(200, some _)]) (L' := [(200, some _)]) rfl rfl rfl (pFail_c (lexAll s).1 (s.size : Int) st1 hm hi1 7) rfl AllV.rf (caught_of rfl) rfl rfl rfl ⟨rfl, trivial⟩ rfl) ?_
       refine AL_nil ?_
       refine ⟨⟨⟨faultP (lexAll s).1 (s.size : Int) 7 st1, ds, rs⟩, ⟨⟨fault_le hi1, hl.1, hl.2⟩, (progT_full h36 hlt hl hfull).trans hinv2⟩⟩, rn [], ?_, muP_fault h36 (fault_code (by decide))⟩
       exact ⟨by (repeat refine ⟨⟨_, rfl, by first | exact VLe.rf | exact vle_int (by dsimp only; omega)⟩, ?_⟩); exact trivial, by (repeat refine ⟨⟨_, rfl, by first | exact BLe.rf | exact BLe.box AllC.rf | exact BLe.arr (by exact rfl)⟩, ?_⟩); exact trivial, by repeat (first | exact trivial | refine ⟨⟨rfl, by first | (left; intro h; cases h) | (right; rfl), by first | exact (fun _ h => ⟨_, h⟩) | exact (fun _ _ => ⟨_, rfl⟩) | (intro _ h; cases h)⟩, ?_⟩), rfl⟩
     try simp only [tdy] at h82
     refine AW_condF rfl ?_
     refine AW_seq ?_
     have hnf : ¬ ((0 < (kindI (hereT (lexAll s).1 (s.size : Int) st1)) ∧ (ds.length : Int) = 16) ∨ (startsT (hereT (lexAll s).1 (s.size : Int) st1) = true ∧ (rs.length : Int) = 24)) := by rintro (⟨q1, q2⟩ | ⟨q1, q2⟩) <;> first | omega | (rw [hst] at q1; exact absurd q1 (by decide))
     refine AW_region ?_
     refine AL_p (x_move rfl rfl) ?_
     refine AL_b (x_gtr rfl rfl rfl) (fun b89 h89 => ?_)
     refine AL_p (x_assign rfl rfl) ?_
     refine AL_nil ?_
     cases b89
     rotate_left
     · exfalso; (try simp only [tdy] at h89); omega
     try simp only [tdy] at h89
     refine AW_condF rfl ?_
     refine AW_seq ?_
     refine AW_region ?_
     refine AL_p (x_move rfl rfl) ?_
     refine AL_p (x_assign rfl rfl) ?_
     refine AL_nil ?_
     refine AW_condT rfl ?_
     refine AW_seq ?_
     refine AW_region ?_
     refine AL_p (x_move rfl rfl) ?_
     refine AL_p (x_call (ks := []) (L := [(200, some _)]) (L' := [(200, some _), (112, some _), (113, some _)]) rfl rfl rfl (pRuleI_c (lexAll s).1 (s.size : Int) st1 hm hi1 112 113 rfl rfl rfl rfl) rfl AllV.rf (caught_of rfl) rfl rfl rfl ⟨rfl, trivial⟩ rfl) ?_
     refine AL_p (x_alloc (z := .agg #[.int .i64 0, .string ⟨#[]⟩, .slice none 0 0, .slice none 0 0]) 114 rfl (by kernel_rfl) rfl rfl rfl rfl) ?_
     refine AL_p (x_store (n := 4) rfl rfl rfl rfl (by kernel_rfl) rfl rfl rfl) ?_
     refine AL_nil ?_
     refine AW_region ?_
     refine AL_p (x_field (off := 1) (o' := 1) rfl rfl rfl (by kernel_rfl) rfl) ?_
     refine AL_p (x_load1 rfl rfl rfl (by kernel_rfl) rfl) ?_
     refine AL_p (x_loadN (n := 4) rfl rfl rfl (by kernel_rfl) rfl rfl) ?_
     refine AL_p (y_bslice (E := 36) (e := ruleE) [.tmp 105] ([(ruleI (lexAll s).1 (s.size : Int) st1).1]) 115 rfl rfl rfl rfl rfl rfl rfl rfl FitL.rf rfl rfl rfl rfl rfl rfl (by kernel_rfl)) ?_
     refine AL_p (y_append 116 rfl rfl rfl rfl rfl rfl rfl rfl (by kernel_rfl) (by simp only [List.length_append, List.length_cons, List.length_nil]; omega)) ?_
     refine AL_p (x_field (off := 1) (o' := 1) rfl rfl rfl (by kernel_rfl) rfl) ?_
     refine AL_p (x_store (n := 1) rfl rfl rfl rfl (by kernel_rfl) rfl rfl rfl) ?_
     refine AL_nil ?_
     refine ⟨⟨⟨(ruleI (lexAll s).1 (s.size : Int) st1).2, ds, rs ++ [(ruleI (lexAll s).1 (s.size : Int) st1).1]⟩, ⟨⟨ruleI_le hi1, hl.1, (by have := (progT_rule h36 hlt hl hnf (by omega) hst).2; simp only [List.length_append, List.length_cons, List.length_nil]; omega)⟩, (progT_rule h36 hlt hl hnf (by omega) hst).1.trans hinv2⟩⟩, rn [(106, 116)], ?_, muP_rule h36 h43⟩
     exact ⟨by (repeat refine ⟨⟨_, rfl, by first | exact VLe.rf | exact vle_int (by dsimp only; omega)⟩, ?_⟩); exact trivial, by (repeat refine ⟨⟨_, rfl, by first | exact BLe.rf | exact BLe.box AllC.rf | exact BLe.arr (by exact rfl)⟩, ?_⟩); exact trivial, by repeat (first | exact trivial | refine ⟨⟨rfl, by first | (left; intro h; cases h) | (right; rfl), by first | exact (fun _ h => ⟨_, h⟩) | exact (fun _ _ => ⟨_, rfl⟩) | (intro _ h; cases h)⟩, ?_⟩), rfl⟩
   try simp only [tdy] at h69
   refine AL_g rfl rfl (x_field (off := 0) (o' := 0) rfl rfl rfl (by kernel_rfl) rfl) ?_
   refine AL_g rfl rfl (x_load1 rfl rfl rfl (by kernel_rfl) rfl) ?_
   refine AL_g rfl rfl (x_olen (E := 97) (n := 3) rfl rfl rfl (by kernel_rfl)) ?_
   refine AL_gb rfl rfl (x_eql rfl rfl rfl) (fun b74 h74 => ?_)
   refine AL_p (x_pickT rfl rfl rfl) ?_
   refine AL_p (x_move rfl rfl) ?_
   cases b74
   rotate_left
   · try simp only [tdy] at h74
     have hfull : ((0 < (kindI (hereT (lexAll s).1 (s.size : Int) st1)) ∧ (ds.length : Int) = 16) ∨ (startsT (hereT (lexAll s).1 (s.size : Int) st1) = true ∧ (rs.length : Int) = 24)) := .inl ⟨h69, h74⟩
     refine AL_o rfl rfl rfl rfl ?_
     refine AL_o rfl rfl rfl rfl ?_
     refine AL_u rfl rfl rfl ?_
     refine AL_u rfl rfl rfl ?_
     refine AL_u rfl rfl rfl ?_
     refine AL_u rfl rfl rfl ?_
     refine AL_o rfl rfl rfl rfl ?_
     refine AL_p (x_pickT rfl rfl rfl) ?_
     refine AL_p (x_assign rfl rfl) ?_
     refine AL_nil ?_
     refine AW_condT rfl ?_
     refine AW_region ?_
     refine AL_p (x_move rfl rfl) ?_
     refine AL_p (x_call (ks := []) (L := [(200, some _)]) (L' := [(200, some _)]) rfl rfl rfl (pFail_c (lexAll s).1 (s.size : Int) st1 hm hi1 7) rfl AllV.rf (caught_of rfl) rfl rfl rfl ⟨rfl, trivial⟩ rfl) ?_
     refine AL_nil ?_
     refine ⟨⟨⟨faultP (lexAll s).1 (s.size : Int) 7 st1, ds, rs⟩, ⟨⟨fault_le hi1, hl.1, hl.2⟩, (progT_full h36 hlt hl hfull).trans hinv2⟩⟩, rn [], ?_, muP_fault h36 (fault_code (by decide))⟩
     exact ⟨by (repeat refine ⟨⟨_, rfl, by first | exact VLe.rf | exact vle_int (by dsimp only; omega)⟩, ?_⟩); exact trivial, by (repeat refine ⟨⟨_, rfl, by first | exact BLe.rf | exact BLe.box AllC.rf | exact BLe.arr (by exact rfl)⟩, ?_⟩); exact trivial, by repeat (first | exact trivial | refine ⟨⟨rfl, by first | (left; intro h; cases h) | (right; rfl), by first | exact (fun _ h => ⟨_, h⟩) | exact (fun _ _ => ⟨_, rfl⟩) | (intro _ h; cases h)⟩, ?_⟩), rfl⟩
   try simp only [tdy] at h74
   refine AL_g rfl rfl (x_move rfl rfl) ?_
   refine AL_g rfl rfl (x_move rfl rfl) ?_
   refine AL_g rfl rfl (x_field (off := 1) (o' := 1) rfl rfl rfl (by kernel_rfl) rfl) ?_
   refine AL_g rfl rfl (x_load1 rfl rfl rfl (by kernel_rfl) rfl) ?_
   refine AL_g rfl rfl (x_olen (E := 36) (n := 4) rfl rfl rfl (by kernel_rfl)) ?_
   refine AL_gb rfl rfl (x_eql rfl rfl rfl) (fun b82 h82 => ?_)
   refine AL_g rfl rfl (x_pickT rfl rfl rfl) ?_
   refine AL_p (x_pickF rfl rfl rfl) ?_
   refine AL_p (x_assign rfl rfl) ?_
   refine AL_nil ?_
   cases b82
   rotate_left
   · try simp only [tdy] at h82
     have hfull : ((0 < (kindI (hereT (lexAll s).1 (s.size : Int) st1)) ∧ (ds.length : Int) = 16) ∨ (startsT (hereT (lexAll s).1 (s.size : Int) st1) = true ∧ (rs.length : Int) = 24)) := .inr ⟨hst, h82⟩
     refine AW_condT rfl ?_
     refine AW_region ?_
     refine AL_p (x_move rfl rfl) ?_
     refine AL_p (x_call (ks := []) (L := [(200, some _)]) (L' := [(200, some _)]) rfl rfl rfl (pFail_c (lexAll s).1 (s.size : Int) st1 hm hi1 7) rfl AllV.rf (caught_of rfl) rfl rfl rfl ⟨rfl, trivial⟩ rfl) ?_
     refine AL_nil ?_
     refine ⟨⟨⟨faultP (lexAll s).1 (s.size : Int) 7 st1, ds, rs⟩, ⟨⟨fault_le hi1, hl.1, hl.2⟩, (progT_full h36 hlt hl hfull).trans hinv2⟩⟩, rn [], ?_, muP_fault h36 (fault_code (by decide))⟩
     exact ⟨by (repeat refine ⟨⟨_, rfl, by first | exact VLe.rf | exact vle_int (by dsimp only; omega)⟩, ?_⟩); exact trivial, by (repeat refine ⟨⟨_, rfl, by first | exact BLe.rf | exact BLe.box AllC.rf | exact BLe.arr (by exact rfl)⟩, ?_⟩); exact trivial, by repeat (first | exact trivial | refine ⟨⟨rfl, by first | (left; intro h; cases h) | (right; rfl), by first | exact (fun _ h => ⟨_, h⟩) | exact (fun _ _ => ⟨_, rfl⟩) | (intro _ h; cases h)⟩, ?_⟩), rfl⟩
   try simp only [tdy] at h82
   refine AW_condF rfl ?_
   refine AW_seq ?_
   have hnf : ¬ ((0 < (kindI (hereT (lexAll s).1 (s.size : Int) st1)) ∧ (ds.length : Int) = 16) ∨ (startsT (hereT (lexAll s).1 (s.size : Int) st1) = true ∧ (rs.length : Int) = 24)) := by rintro (⟨q1, q2⟩ | ⟨q1, q2⟩) <;> first | omega | (rw [hst] at q1; exact absurd q1 (by decide))
   refine AW_region ?_
   refine AL_p (x_move rfl rfl) ?_
   refine AL_b (x_gtr rfl rfl rfl) (fun b89 h89 => ?_)
   refine AL_p (x_assign rfl rfl) ?_
   refine AL_nil ?_
   cases b89
   · exfalso; (try simp only [tdy] at h89); omega
   try simp only [tdy] at h89
   refine AW_condT rfl ?_
   refine AW_seq ?_
   refine AW_region ?_
   refine AL_p (x_move rfl rfl) ?_
   refine AL_p (x_move rfl rfl) ?_
   refine AL_p (x_call (ks := []) (L := [(200, some _)]) (L' := [(200, some _)]) rfl rfl rfl (pDeclI_c (lexAll s).1 (s.size : Int) st1 hm hlt (kindI (hereT (lexAll s).1 (s.size : Int) st1))) rfl AllV.rf (caught_of rfl) rfl rfl rfl ⟨rfl, trivial⟩ rfl) ?_
   refine AL_p (x_alloc (z := .agg #[.int .i64 0, .string ⟨#[]⟩, .int .i64 0]) 109 rfl (by kernel_rfl) rfl rfl rfl rfl) ?_
   refine AL_p (x_store (n := 3) rfl rfl rfl rfl (by kernel_rfl) rfl rfl rfl) ?_
   refine AL_nil ?_
   refine AW_region ?_
   refine AL_p (x_field (off := 0) (o' := 0) rfl rfl rfl (by kernel_rfl) rfl) ?_
   refine AL_p (x_load1 rfl rfl rfl (by kernel_rfl) rfl) ?_
   refine AL_p (x_loadN (n := 3) rfl rfl rfl (by kernel_rfl) rfl rfl) ?_
   refine AL_p (y_bslice (E := 97) (e := declE) [.tmp 95] ([(declI (lexAll s).1 (s.size : Int) (kindI (hereT (lexAll s).1 (s.size : Int) st1)) st1).1]) 110 rfl rfl rfl rfl rfl rfl rfl rfl FitL.rf rfl rfl rfl rfl rfl rfl (by kernel_rfl)) ?_
   refine AL_p (y_append 111 rfl rfl rfl rfl rfl rfl rfl rfl (by kernel_rfl) (by simp only [List.length_append, List.length_cons, List.length_nil]; omega)) ?_
   refine AL_p (x_field (off := 0) (o' := 0) rfl rfl rfl (by kernel_rfl) rfl) ?_
   refine AL_p (x_store (n := 1) rfl rfl rfl rfl (by kernel_rfl) rfl rfl rfl) ?_
   refine AL_nil ?_
   refine ⟨⟨⟨(declI (lexAll s).1 (s.size : Int) (kindI (hereT (lexAll s).1 (s.size : Int) st1)) st1).2, ds ++ [(declI (lexAll s).1 (s.size : Int) (kindI (hereT (lexAll s).1 (s.size : Int) st1)) st1).1], rs⟩, ⟨⟨declI_le hlt, (by have := (progT_decl h36 hlt hl hnf h69).2; simp only [List.length_append, List.length_cons, List.length_nil]; omega), hl.2⟩, (progT_decl h36 hlt hl hnf h69).1.trans hinv2⟩⟩, rn [(105, 111)], ?_, muP_decl h36 h43⟩
   exact ⟨by (repeat refine ⟨⟨_, rfl, by first | exact VLe.rf | exact vle_int (by dsimp only; omega)⟩, ?_⟩); exact trivial, by (repeat refine ⟨⟨_, rfl, by first | exact BLe.rf | exact BLe.box AllC.rf | exact BLe.arr (by exact rfl)⟩, ?_⟩); exact trivial, by repeat (first | exact trivial | refine ⟨⟨rfl, by first | (left; intro h; cases h) | (right; rfl), by first | exact (fun _ h => ⟨_, h⟩) | exact (fun _ _ => ⟨_, rfl⟩) | (intro _ h; cases h)⟩, ?_⟩), rfl⟩
 try simp only [tdy] at h56
 refine AL_g rfl rfl (x_move rfl rfl) ?_
 refine AL_gbc rfl rfl (x_call (ks := []) (L := [(200, some _)]) (L' := [(200, some _)]) rfl rfl rfl (pIsSign_c (lexAll s).1 (s.size : Int) st1 hm hi1 ⟨#[43]⟩) rfl AllV.rf (caught_of rfl) rfl rfl rfl ⟨rfl, trivial⟩ rfl) (fun b59 h59 => ?_)
 refine AL_p (x_pickF rfl rfl rfl) ?_
 refine AL_p (x_move rfl rfl) ?_
 cases b59
 rotate_left
 · try simp only [tdy] at h59
   have hst : startsT (hereT (lexAll s).1 (s.size : Int) st1) = true := by simp [startsT, *]
   refine AL_o rfl rfl rfl rfl ?_
   refine AL_o rfl rfl rfl rfl ?_
   refine AL_p (x_pickT rfl rfl rfl) ?_
   refine AL_p (x_assign rfl rfl) ?_
   refine AL_nil ?_
   refine AW_block ?_
   refine AW_seq ?_
   refine AW_region ?_
   refine AL_p (x_move rfl rfl) ?_
   refine AL_b (x_gtr rfl rfl rfl) (fun b69 h69 => ?_)
   refine AL_p (x_move rfl rfl) ?_
   cases b69
   · try simp only [tdy] at h69
     refine AL_o rfl rfl rfl rfl ?_
     refine AL_o rfl rfl rfl rfl ?_
     refine AL_o rfl rfl rfl rfl ?_
     refine AL_o rfl rfl rfl rfl ?_
     refine AL_p (x_pickF rfl rfl rfl) ?_
     refine AL_p (x_move rfl rfl) ?_
     refine AL_g rfl rfl (x_move rfl rfl) ?_
     refine AL_g rfl rfl (x_move rfl rfl) ?_
     refine AL_g rfl rfl (x_field (off := 1) (o' := 1) rfl rfl rfl (by kernel_rfl) rfl) ?_
     refine AL_g rfl rfl (x_load1 rfl rfl rfl (by kernel_rfl) rfl) ?_
     refine AL_g rfl rfl (x_olen (E := 36) (n := 4) rfl rfl rfl (by kernel_rfl)) ?_
     refine AL_gb rfl rfl (x_eql rfl rfl rfl) (fun b82 h82 => ?_)
     refine AL_g rfl rfl (x_pickT rfl rfl rfl) ?_
     refine AL_p (x_pickF rfl rfl rfl) ?_
     refine AL_p (x_assign rfl rfl) ?_
     refine AL_nil ?_
     cases b82
     rotate_left
     · try simp only [tdy] at h82
       have hfull : ((0 < (kindI (hereT (lexAll s).1 (s.size : Int) st1)) ∧ (ds.length : Int) = 16) ∨ (startsT (hereT (lexAll s).1 (s.size : Int) st1) = true ∧ (rs.length : Int) = 24)) := .inr ⟨hst, h82⟩
       refine AW_condT rfl ?_
       refine AW_region ?_
       refine AL_p (x_move rfl rfl) ?_
       refine AL_p (x_call (ks := []) (L := [(200, some _)]) (L' := [(200, some _)]) rfl rfl rfl (pFail_c (lexAll s).1 (s.size : Int) st1 hm hi1 7) rfl AllV.rf (caught_of rfl) rfl rfl rfl ⟨rfl, trivial⟩ rfl) ?_
       refine AL_nil ?_
       refine ⟨⟨⟨faultP (lexAll s).1 (s.size : Int) 7 st1, ds, rs⟩, ⟨⟨fault_le hi1, hl.1, hl.2⟩, (progT_full h36 hlt hl hfull).trans hinv2⟩⟩, rn [], ?_, muP_fault h36 (fault_code (by decide))⟩
       exact ⟨by (repeat refine ⟨⟨_, rfl, by first | exact VLe.rf | exact vle_int (by dsimp only; omega)⟩, ?_⟩); exact trivial, by (repeat refine ⟨⟨_, rfl, by first | exact BLe.rf | exact BLe.box AllC.rf | exact BLe.arr (by exact rfl)⟩, ?_⟩); exact trivial, by repeat (first | exact trivial | refine ⟨⟨rfl, by first | (left; intro h; cases h) | (right; rfl), by first | exact (fun _ h => ⟨_, h⟩) | exact (fun _ _ => ⟨_, rfl⟩) | (intro _ h; cases h)⟩, ?_⟩), rfl⟩
     try simp only [tdy] at h82
     refine AW_condF rfl ?_
     refine AW_seq ?_
     have hnf : ¬ ((0 < (kindI (hereT (lexAll s).1 (s.size : Int) st1)) ∧ (ds.length : Int) = 16) ∨ (startsT (hereT (lexAll s).1 (s.size : Int) st1) = true ∧ (rs.length : Int) = 24)) := by rintro (⟨q1, q2⟩ | ⟨q1, q2⟩) <;> first | omega | (rw [hst] at q1; exact absurd q1 (by decide))
     refine AW_region ?_
     refine AL_p (x_move rfl rfl) ?_
     refine AL_b (x_gtr rfl rfl rfl) (fun b89 h89 => ?_)
     refine AL_p (x_assign rfl rfl) ?_
     refine AL_nil ?_
     cases b89
     rotate_left
     · exfalso; (try simp only [tdy] at h89); omega
     try simp only [tdy] at h89
     refine AW_condF rfl ?_
     refine AW_seq ?_
     refine AW_region ?_
     refine AL_p (x_move rfl rfl) ?_
     refine AL_p (x_assign rfl rfl) ?_
     refine AL_nil ?_
     refine AW_condT rfl ?_
     refine AW_seq ?_
     refine AW_region ?_
     refine AL_p (x_move rfl rfl) ?_
     refine AL_p (x_call (ks := []) (L := [(200, some _)]) (L' := [(200, some _), (112, some _), (113, some _)]) rfl rfl rfl (pRuleI_c (lexAll s).1 (s.size : Int) st1 hm hi1 112 113 rfl rfl rfl rfl) rfl AllV.rf (caught_of rfl) rfl rfl rfl ⟨rfl, trivial⟩ rfl) ?_
     refine AL_p (x_alloc (z := .agg #[.int .i64 0, .string ⟨#[]⟩, .slice none 0 0, .slice none 0 0]) 114 rfl (by kernel_rfl) rfl rfl rfl rfl) ?_
     refine AL_p (x_store (n := 4) rfl rfl rfl rfl (by kernel_rfl) rfl rfl rfl) ?_
     refine AL_nil ?_
     refine AW_region ?_
     refine AL_p (x_field (off := 1) (o' := 1) rfl rfl rfl (by kernel_rfl) rfl) ?_
     refine AL_p (x_load1 rfl rfl rfl (by kernel_rfl) rfl) ?_
     refine AL_p (x_loadN (n := 4) rfl rfl rfl (by kernel_rfl) rfl rfl) ?_
     refine AL_p (y_bslice (E := 36) (e := ruleE) [.tmp 105] ([(ruleI (lexAll s).1 (s.size : Int) st1).1]) 115 rfl rfl rfl rfl rfl rfl rfl rfl FitL.rf rfl rfl rfl rfl rfl rfl (by kernel_rfl)) ?_
     refine AL_p (y_append 116 rfl rfl rfl rfl rfl rfl rfl rfl (by kernel_rfl) (by simp only [List.length_append, List.length_cons, List.length_nil]; omega)) ?_
     refine AL_p (x_field (off := 1) (o' := 1) rfl rfl rfl (by kernel_rfl) rfl) ?_
     refine AL_p (x_store (n := 1) rfl rfl rfl rfl (by kernel_rfl) rfl rfl rfl) ?_
     refine AL_nil ?_
     refine ⟨⟨⟨(ruleI (lexAll s).1 (s.size : Int) st1).2, ds, rs ++ [(ruleI (lexAll s).1 (s.size : Int) st1).1]⟩, ⟨⟨ruleI_le hi1, hl.1, (by have := (progT_rule h36 hlt hl hnf (by omega) hst).2; simp only [List.length_append, List.length_cons, List.length_nil]; omega)⟩, (progT_rule h36 hlt hl hnf (by omega) hst).1.trans hinv2⟩⟩, rn [(106, 116)], ?_, muP_rule h36 h43⟩
     exact ⟨by (repeat refine ⟨⟨_, rfl, by first | exact VLe.rf | exact vle_int (by dsimp only; omega)⟩, ?_⟩); exact trivial, by (repeat refine ⟨⟨_, rfl, by first | exact BLe.rf | exact BLe.box AllC.rf | exact BLe.arr (by exact rfl)⟩, ?_⟩); exact trivial, by repeat (first | exact trivial | refine ⟨⟨rfl, by first | (left; intro h; cases h) | (right; rfl), by first | exact (fun _ h => ⟨_, h⟩) | exact (fun _ _ => ⟨_, rfl⟩) | (intro _ h; cases h)⟩, ?_⟩), rfl⟩
   try simp only [tdy] at h69
   refine AL_g rfl rfl (x_field (off := 0) (o' := 0) rfl rfl rfl (by kernel_rfl) rfl) ?_
   refine AL_g rfl rfl (x_load1 rfl rfl rfl (by kernel_rfl) rfl) ?_
   refine AL_g rfl rfl (x_olen (E := 97) (n := 3) rfl rfl rfl (by kernel_rfl)) ?_
   refine AL_gb rfl rfl (x_eql rfl rfl rfl) (fun b74 h74 => ?_)
   refine AL_p (x_pickT rfl rfl rfl) ?_
   refine AL_p (x_move rfl rfl) ?_
   cases b74
   rotate_left
   · try simp only [tdy] at h74
     have hfull : ((0 < (kindI (hereT (lexAll s).1 (s.size : Int) st1)) ∧ (ds.length : Int) = 16) ∨ (startsT (hereT (lexAll s).1 (s.size : Int) st1) = true ∧ (rs.length : Int) = 24)) := .inl ⟨h69, h74⟩
     refine AL_o rfl rfl rfl rfl ?_
     refine AL_o rfl rfl rfl rfl ?_
     refine AL_u rfl rfl rfl ?_
     refine AL_u rfl rfl rfl ?_
     refine AL_u rfl rfl rfl ?_
     refine AL_u rfl rfl rfl ?_
     refine AL_o rfl rfl rfl rfl ?_
     refine AL_p (x_pickT rfl rfl rfl) ?_
     refine AL_p (x_assign rfl rfl) ?_
     refine AL_nil ?_
     refine AW_condT rfl ?_
     refine AW_region ?_
     refine AL_p (x_move rfl rfl) ?_
     refine AL_p (x_call (ks := []) (L := [(200, some _)]) (L' := [(200, some _)]) rfl rfl rfl (pFail_c (lexAll s).1 (s.size : Int) st1 hm hi1 7) rfl AllV.rf (caught_of rfl) rfl rfl rfl ⟨rfl, trivial⟩ rfl) ?_
     refine AL_nil ?_
     refine ⟨⟨⟨faultP (lexAll s).1 (s.size : Int) 7 st1, ds, rs⟩, ⟨⟨fault_le hi1, hl.1, hl.2⟩, (progT_full h36 hlt hl hfull).trans hinv2⟩⟩, rn [], ?_, muP_fault h36 (fault_code (by decide))⟩
     exact ⟨by (repeat refine ⟨⟨_, rfl, by first | exact VLe.rf | exact vle_int (by dsimp only; omega)⟩, ?_⟩); exact trivial, by (repeat refine ⟨⟨_, rfl, by first | exact BLe.rf | exact BLe.box AllC.rf | exact BLe.arr (by exact rfl)⟩, ?_⟩); exact trivial, by repeat (first | exact trivial | refine ⟨⟨rfl, by first | (left; intro h; cases h) | (right; rfl), by first | exact (fun _ h => ⟨_, h⟩) | exact (fun _ _ => ⟨_, rfl⟩) | (intro _ h; cases h)⟩, ?_⟩), rfl⟩
   try simp only [tdy] at h74
   refine AL_g rfl rfl (x_move rfl rfl) ?_
   refine AL_g rfl rfl (x_move rfl rfl) ?_
   refine AL_g rfl rfl (x_field (off := 1) (o' := 1) rfl rfl rfl (by kernel_rfl) rfl) ?_
   refine AL_g rfl rfl (x_load1 rfl rfl rfl (by kernel_rfl) rfl) ?_
   refine AL_g rfl rfl (x_olen (E := 36) (n := 4) rfl rfl rfl (by kernel_rfl)) ?_
   refine AL_gb rfl rfl (x_eql rfl rfl rfl) (fun b82 h82 => ?_)
   refine AL_g rfl rfl (x_pickT rfl rfl rfl) ?_
   refine AL_p (x_pickF rfl rfl rfl) ?_
   refine AL_p (x_assign rfl rfl) ?_
   refine AL_nil ?_
   cases b82
   rotate_left
   · try simp only [tdy] at h82
     have hfull : ((0 < (kindI (hereT (lexAll s).1 (s.size : Int) st1)) ∧ (ds.length : Int) = 16) ∨ (startsT (hereT (lexAll s).1 (s.size : Int) st1) = true ∧ (rs.length : Int) = 24)) := .inr ⟨hst, h82⟩
     refine AW_condT rfl ?_
     refine AW_region ?_
     refine AL_p (x_move rfl rfl) ?_
     refine AL_p (x_call (ks := []) (L := [(200, some _)]) (L' := [(200, some _)]) rfl rfl rfl (pFail_c (lexAll s).1 (s.size : Int) st1 hm hi1 7) rfl AllV.rf (caught_of rfl) rfl rfl rfl ⟨rfl, trivial⟩ rfl) ?_
     refine AL_nil ?_
     refine ⟨⟨⟨faultP (lexAll s).1 (s.size : Int) 7 st1, ds, rs⟩, ⟨⟨fault_le hi1, hl.1, hl.2⟩, (progT_full h36 hlt hl hfull).trans hinv2⟩⟩, rn [], ?_, muP_fault h36 (fault_code (by decide))⟩
     exact ⟨by (repeat refine ⟨⟨_, rfl, by first | exact VLe.rf | exact vle_int (by dsimp only; omega)⟩, ?_⟩); exact trivial, by (repeat refine ⟨⟨_, rfl, by first | exact BLe.rf | exact BLe.box AllC.rf | exact BLe.arr (by exact rfl)⟩, ?_⟩); exact trivial, by repeat (first | exact trivial | refine ⟨⟨rfl, by first | (left; intro h; cases h) | (right; rfl), by first | exact (fun _ h => ⟨_, h⟩) | exact (fun _ _ => ⟨_, rfl⟩) | (intro _ h; cases h)⟩, ?_⟩), rfl⟩
   try simp only [tdy] at h82
   refine AW_condF rfl ?_
   refine AW_seq ?_
   have hnf : ¬ ((0 < (kindI (hereT (lexAll s).1 (s.size : Int) st1)) ∧ (ds.length : Int) = 16) ∨ (startsT (hereT (lexAll s).1 (s.size : Int) st1) = true ∧ (rs.length : Int) = 24)) := by rintro (⟨q1, q2⟩ | ⟨q1, q2⟩) <;> first | omega | (rw [hst] at q1; exact absurd q1 (by decide))
   refine AW_region ?_
   refine AL_p (x_move rfl rfl) ?_
   refine AL_b (x_gtr rfl rfl rfl) (fun b89 h89 => ?_)
   refine AL_p (x_assign rfl rfl) ?_
   refine AL_nil ?_
   cases b89
   · exfalso; (try simp only [tdy] at h89); omega
   try simp only [tdy] at h89
   refine AW_condT rfl ?_
   refine AW_seq ?_
   refine AW_region ?_
   refine AL_p (x_move rfl rfl) ?_
   refine AL_p (x_move rfl rfl) ?_
   refine AL_p (x_call (ks := []) (L := [(200, some _)]) (L' := [(200, some _)]) rfl rfl rfl (pDeclI_c (lexAll s).1 (s.size : Int) st1 hm hlt (kindI (hereT (lexAll s).1 (s.size : Int) st1))) rfl AllV.rf (caught_of rfl) rfl rfl rfl ⟨rfl, trivial⟩ rfl) ?_
   refine AL_p (x_alloc (z := .agg #[.int .i64 0, .string ⟨#[]⟩, .int .i64 0]) 109 rfl (by kernel_rfl) rfl rfl rfl rfl) ?_
   refine AL_p (x_store (n := 3) rfl rfl rfl rfl (by kernel_rfl) rfl rfl rfl) ?_
   refine AL_nil ?_
   refine AW_region ?_
   refine AL_p (x_field (off := 0) (o' := 0) rfl rfl rfl (by kernel_rfl) rfl) ?_
   refine AL_p (x_load1 rfl rfl rfl (by kernel_rfl) rfl) ?_
   refine AL_p (x_loadN (n := 3) rfl rfl rfl (by kernel_rfl) rfl rfl) ?_
   refine AL_p (y_bslice (E := 97) (e := declE) [.tmp 95] ([(declI (lexAll s).1 (s.size : Int) (kindI (hereT (lexAll s).1 (s.size : Int) st1)) st1).1]) 110 rfl rfl rfl rfl rfl rfl rfl rfl FitL.rf rfl rfl rfl rfl rfl rfl (by kernel_rfl)) ?_
   refine AL_p (y_append 111 rfl rfl rfl rfl rfl rfl rfl rfl (by kernel_rfl) (by simp only [List.length_append, List.length_cons, List.length_nil]; omega)) ?_
   refine AL_p (x_field (off := 0) (o' := 0) rfl rfl rfl (by kernel_rfl) rfl) ?_
   refine AL_p (x_store (n := 1) rfl rfl rfl rfl (by kernel_rfl) rfl rfl rfl) ?_
   refine AL_nil ?_
   refine ⟨⟨⟨(declI (lexAll s).1 (s.size : Int) (kindI (hereT (lexAll s).1 (s.size : Int) st1)) st1).2, ds ++ [(declI (lexAll s).1 (s.size : Int) (kindI (hereT (lexAll s).1 (s.size : Int) st1)) st1).1], rs⟩, ⟨⟨declI_le hlt, (by have := (progT_decl h36 hlt hl hnf h69).2; simp only [List.length_append, List.length_cons, List.length_nil]; omega), hl.2⟩, (progT_decl h36 hlt hl hnf h69).1.trans hinv2⟩⟩, rn [(105, 111)], ?_, muP_decl h36 h43⟩
   exact ⟨by (repeat refine ⟨⟨_, rfl, by first | exact VLe.rf | exact vle_int (by dsimp only; omega)⟩, ?_⟩); exact trivial, by (repeat refine ⟨⟨_, rfl, by first | exact BLe.rf | exact BLe.box AllC.rf | exact BLe.arr (by exact rfl)⟩, ?_⟩); exact trivial, by repeat (first | exact trivial | refine ⟨⟨rfl, by first | (left; intro h; cases h) | (right; rfl), by first | exact (fun _ h => ⟨_, h⟩) | exact (fun _ _ => ⟨_, rfl⟩) | (intro _ h; cases h)⟩, ?_⟩), rfl⟩
 try simp only [tdy] at h59
 refine AL_g rfl rfl (x_move rfl rfl) ?_
 refine AL_gbc rfl rfl (x_call (ks := []) (L := [(200, some _)]) (L' := [(200, some _)]) rfl rfl rfl (pIsSign_c (lexAll s).1 (s.size : Int) st1 hm hi1 ⟨#[45]⟩) rfl AllV.rf (caught_of rfl) rfl rfl rfl ⟨rfl, trivial⟩ rfl) (fun b63 h63 => ?_)
 refine AL_p (x_pickF rfl rfl rfl) ?_
 refine AL_p (x_assign rfl rfl) ?_
 refine AL_nil ?_
 refine AW_block ?_
 refine AW_seq ?_
 refine AW_region ?_
 refine AL_p (x_move rfl rfl) ?_
 refine AL_b (x_gtr rfl rfl rfl) (fun b69 h69 => ?_)
 refine AL_p (x_move rfl rfl) ?_
 cases b69
 · try simp only [tdy] at h69
   refine AL_o rfl rfl rfl rfl ?_
   refine AL_o rfl rfl rfl rfl ?_
   refine AL_o rfl rfl rfl rfl ?_
   refine AL_o rfl rfl rfl rfl ?_
   refine AL_p (x_pickF rfl rfl rfl) ?_
   refine AL_p (x_move rfl rfl) ?_
   refine AL_g rfl rfl (x_move rfl rfl) ?_
   refine AL_g rfl rfl (x_move rfl rfl) ?_
   cases b63
   · try simp only [tdy] at h63
     have hst : startsT (hereT (lexAll s).1 (s.size : Int) st1) = false := by simp [startsT, *]
     refine AL_o rfl rfl rfl rfl ?_
     refine AL_o rfl rfl rfl rfl ?_
     refine AL_o rfl rfl rfl rfl ?_
     refine AL_o rfl rfl rfl rfl ?_
     refine AL_g rfl rfl (x_pickF rfl rfl rfl) ?_
     refine AL_p (x_pickF rfl rfl rfl) ?_
     refine AL_p (x_assign rfl rfl) ?_
     refine AL_nil ?_
     refine AW_condF rfl ?_
     refine AW_seq ?_
     have hnf : ¬ ((0 < (kindI (hereT (lexAll s).1 (s.size : Int) st1)) ∧ (ds.length : Int) = 16) ∨ (startsT (hereT (lexAll s).1 (s.size : Int) st1) = true ∧ (rs.length : Int) = 24)) := by rintro (⟨q1, q2⟩ | ⟨q1, q2⟩) <;> first | omega | (rw [hst] at q1; exact absurd q1 (by decide))
     refine AW_region ?_
     refine AL_p (x_move rfl rfl) ?_
     refine AL_b (x_gtr rfl rfl rfl) (fun b89 h89 => ?_)
     refine AL_p (x_assign rfl rfl) ?_
     refine AL_nil ?_
     cases b89
     rotate_left
     · exfalso; (try simp only [tdy] at h89); omega
     try simp only [tdy] at h89
     refine AW_condF rfl ?_
     refine AW_seq ?_
     refine AW_region ?_
     refine AL_p (x_move rfl rfl) ?_
     refine AL_p (x_assign rfl rfl) ?_
     refine AL_nil ?_
     refine AW_condF rfl ?_
     refine AW_region ?_
     refine AL_p (x_move rfl rfl) ?_
     refine AL_p (x_call (ks := []) (L := [(200, some _)]) (L' := [(200, some _)]) rfl rfl rfl (pFail_c (lexAll s).1 (s.size : Int) st1 hm hi1 6) rfl AllV.rf (caught_of rfl) rfl rfl rfl ⟨rfl, trivial⟩ rfl) ?_
     refine AL_nil ?_
     refine ⟨⟨⟨faultP (lexAll s).1 (s.size : Int) 6 st1, ds, rs⟩, ⟨⟨fault_le hi1, hl.1, hl.2⟩, (progT_none h36 hlt hl (by omega) hst).trans hinv2⟩⟩, rn [], ?_, muP_fault h36 (fault_code (by decide))⟩
     exact ⟨by (repeat refine ⟨⟨_, rfl, by first | exact VLe.rf | exact vle_int (by dsimp only; omega)⟩, ?_⟩); exact trivial, by (repeat refine ⟨⟨_, rfl, by first | exact BLe.rf | exact BLe.box AllC.rf | exact BLe.arr (by exact rfl)⟩, ?_⟩); exact trivial, by repeat (first | exact trivial | refine ⟨⟨rfl, by first | (left; intro h; cases h) | (right; rfl), by first | exact (fun _ h => ⟨_, h⟩) | exact (fun _ _ => ⟨_, rfl⟩) | (intro _ h; cases h)⟩, ?_⟩), rfl⟩
   try simp only [tdy] at h63
   have hst : startsT (hereT (lexAll s).1 (s.size : Int) st1) = true := by simp [startsT, *]
   refine AL_g rfl rfl (x_field (off := 1) (o' := 1) rfl rfl rfl (by kernel_rfl) rfl) ?_
   refine AL_g rfl rfl (x_load1 rfl rfl rfl (by kernel_rfl) rfl) ?_
   refine AL_g rfl rfl (x_olen (E := 36) (n := 4) rfl rfl rfl (by kernel_rfl)) ?_
   refine AL_gb rfl rfl (x_eql rfl rfl rfl) (fun b82 h82 => ?_)
   refine AL_g rfl rfl (x_pickT rfl rfl rfl) ?_
   refine AL_p (x_pickF rfl rfl rfl) ?_
   refine AL_p (x_assign rfl rfl) ?_
   refine AL_nil ?_
   cases b82
   rotate_left
   · try simp only [tdy] at h82
     have hfull : ((0 < (kindI (hereT (lexAll s).1 (s.size : Int) st1)) ∧ (ds.length : Int) = 16) ∨ (startsT (hereT (lexAll s).1 (s.size : Int) st1) = true ∧ (rs.length : Int) = 24)) := .inr ⟨hst, h82⟩
     refine AW_condT rfl ?_
     refine AW_region ?_
     refine AL_p (x_move rfl rfl) ?_
     refine AL_p (x_call (ks := []) (L := [(200, some _)]) (L' := [(200, some _)]) rfl rfl rfl (pFail_c (lexAll s).1 (s.size : Int) st1 hm hi1 7) rfl AllV.rf (caught_of rfl) rfl rfl rfl ⟨rfl, trivial⟩ rfl) ?_
     refine AL_nil ?_
     refine ⟨⟨⟨faultP (lexAll s).1 (s.size : Int) 7 st1, ds, rs⟩, ⟨⟨fault_le hi1, hl.1, hl.2⟩, (progT_full h36 hlt hl hfull).trans hinv2⟩⟩, rn [], ?_, muP_fault h36 (fault_code (by decide))⟩
     exact ⟨by (repeat refine ⟨⟨_, rfl, by first | exact VLe.rf | exact vle_int (by dsimp only; omega)⟩, ?_⟩); exact trivial, by (repeat refine ⟨⟨_, rfl, by first | exact BLe.rf | exact BLe.box AllC.rf | exact BLe.arr (by exact rfl)⟩, ?_⟩); exact trivial, by repeat (first | exact trivial | refine ⟨⟨rfl, by first | (left; intro h; cases h) | (right; rfl), by first | exact (fun _ h => ⟨_, h⟩) | exact (fun _ _ => ⟨_, rfl⟩) | (intro _ h; cases h)⟩, ?_⟩), rfl⟩
   try simp only [tdy] at h82
   refine AW_condF rfl ?_
   refine AW_seq ?_
   have hnf : ¬ ((0 < (kindI (hereT (lexAll s).1 (s.size : Int) st1)) ∧ (ds.length : Int) = 16) ∨ (startsT (hereT (lexAll s).1 (s.size : Int) st1) = true ∧ (rs.length : Int) = 24)) := by rintro (⟨q1, q2⟩ | ⟨q1, q2⟩) <;> first | omega | (rw [hst] at q1; exact absurd q1 (by decide))
   refine AW_region ?_
   refine AL_p (x_move rfl rfl) ?_
   refine AL_b (x_gtr rfl rfl rfl) (fun b89 h89 => ?_)
   refine AL_p (x_assign rfl rfl) ?_
   refine AL_nil ?_
   cases b89
   rotate_left
   · exfalso; (try simp only [tdy] at h89); omega
   try simp only [tdy] at h89
   refine AW_condF rfl ?_
   refine AW_seq ?_
   refine AW_region ?_
   refine AL_p (x_move rfl rfl) ?_
   refine AL_p (x_assign rfl rfl) ?_
   refine AL_nil ?_
   refine AW_condT rfl ?_
   refine AW_seq ?_
   refine AW_region ?_
   refine AL_p (x_move rfl rfl) ?_
   refine AL_p (x_call (ks := []) (L := [(200, some _)]) (L' := [(200, some _), (112, some _), (113, some _)]) rfl rfl rfl (pRuleI_c (lexAll s).1 (s.size : Int) st1 hm hi1 112 113 rfl rfl rfl rfl) rfl AllV.rf (caught_of rfl) rfl rfl rfl ⟨rfl, trivial⟩ rfl) ?_
   refine AL_p (x_alloc (z := .agg #[.int .i64 0, .string ⟨#[]⟩, .slice none 0 0, .slice none 0 0]) 114 rfl (by kernel_rfl) rfl rfl rfl rfl) ?_
   refine AL_p (x_store (n := 4) rfl rfl rfl rfl (by kernel_rfl) rfl rfl rfl) ?_
   refine AL_nil ?_
   refine AW_region ?_
   refine AL_p (x_field (off := 1) (o' := 1) rfl rfl rfl (by kernel_rfl) rfl) ?_
   refine AL_p (x_load1 rfl rfl rfl (by kernel_rfl) rfl) ?_
   refine AL_p (x_loadN (n := 4) rfl rfl rfl (by kernel_rfl) rfl rfl) ?_
   refine AL_p (y_bslice (E := 36) (e := ruleE) [.tmp 105] ([(ruleI (lexAll s).1 (s.size : Int) st1).1]) 115 rfl rfl rfl rfl rfl rfl rfl rfl FitL.rf rfl rfl rfl rfl rfl rfl (by kernel_rfl)) ?_
   refine AL_p (y_append 116 rfl rfl rfl rfl rfl rfl rfl rfl (by kernel_rfl) (by simp only [List.length_append, List.length_cons, List.length_nil]; omega)) ?_
   refine AL_p (x_field (off := 1) (o' := 1) rfl rfl rfl (by kernel_rfl) rfl) ?_
   refine AL_p (x_store (n := 1) rfl rfl rfl rfl (by kernel_rfl) rfl rfl rfl) ?_
   refine AL_nil ?_
   refine ⟨⟨⟨(ruleI (lexAll s).1 (s.size : Int) st1).2, ds, rs ++ [(ruleI (lexAll s).1 (s.size : Int) st1).1]⟩, ⟨⟨ruleI_le hi1, hl.1, (by have := (progT_rule h36 hlt hl hnf (by omega) hst).2; simp only [List.length_append, List.length_cons, List.length_nil]; omega)⟩, (progT_rule h36 hlt hl hnf (by omega) hst).1.trans hinv2⟩⟩, rn [(106, 116)], ?_, muP_rule h36 h43⟩
   exact ⟨by (repeat refine ⟨⟨_, rfl, by first | exact VLe.rf | exact vle_int (by dsimp only; omega)⟩, ?_⟩); exact trivial, by (repeat refine ⟨⟨_, rfl, by first | exact BLe.rf | exact BLe.box AllC.rf | exact BLe.arr (by exact rfl)⟩, ?_⟩); exact trivial, by repeat (first | exact trivial | refine ⟨⟨rfl, by first | (left; intro h; cases h) | (right; rfl), by first | exact (fun _ h => ⟨_, h⟩) | exact (fun _ _ => ⟨_, rfl⟩) | (intro _ h; cases h)⟩, ?_⟩), rfl⟩
 try simp only [tdy] at h69
 refine AL_g rfl rfl (x_field (off := 0) (o' := 0) rfl rfl rfl (by kernel_rfl) rfl) ?_
 refine AL_g rfl rfl (x_load1 rfl rfl rfl (by kernel_rfl) rfl) ?_
 refine AL_g rfl rfl (x_olen (E := 97) (n := 3) rfl rfl rfl (by kernel_rfl)) ?_
 refine AL_gb rfl rfl (x_eql rfl rfl rfl) (fun b74 h74 => ?_)
 refine AL_p (x_pickT rfl rfl rfl) ?_
 refine AL_p (x_move rfl rfl) ?_
 cases b74
 rotate_left
 · try simp only [tdy] at h74
   have hfull : ((0 < (kindI (hereT (lexAll s).1 (s.size : Int) st1)) ∧ (ds.length : Int) = 16) ∨ (startsT (hereT (lexAll s).1 (s.size : Int) st1) = true ∧ (rs.length : Int) = 24)) := .inl ⟨h69, h74⟩
   refine AL_o rfl rfl rfl rfl ?_
   refine AL_o rfl rfl rfl rfl ?_
   refine AL_u rfl rfl rfl ?_
   refine AL_u rfl rfl rfl ?_
   refine AL_u rfl rfl rfl ?_
   refine AL_u rfl rfl rfl ?_
   refine AL_o rfl rfl rfl rfl ?_
   refine AL_p (x_pickT rfl rfl rfl) ?_
   refine AL_p (x_assign rfl rfl) ?_
   refine AL_nil ?_
   refine AW_condT rfl ?_
   refine AW_region ?_
   refine AL_p (x_move rfl rfl) ?_
   refine AL_p (x_call (ks := []) (L := [(200, some _)]) (L' := [(200, some _)]) rfl rfl rfl (pFail_c (lexAll s).1 (s.size : Int) st1 hm hi1 7) rfl AllV.rf (caught_of rfl) rfl rfl rfl ⟨rfl, trivial⟩ rfl) ?_
   refine AL_nil ?_
   refine ⟨⟨⟨faultP (lexAll s).1 (s.size : Int) 7 st1, ds, rs⟩, ⟨⟨fault_le hi1, hl.1, hl.2⟩, (progT_full h36 hlt hl hfull).trans hinv2⟩⟩, rn [], ?_, muP_fault h36 (fault_code (by decide))⟩
   exact ⟨by (repeat refine ⟨⟨_, rfl, by first | exact VLe.rf | exact vle_int (by dsimp only; omega)⟩, ?_⟩); exact trivial, by (repeat refine ⟨⟨_, rfl, by first | exact BLe.rf | exact BLe.box AllC.rf | exact BLe.arr (by exact rfl)⟩, ?_⟩); exact trivial, by repeat (first | exact trivial | refine ⟨⟨rfl, by first | (left; intro h; cases h) | (right; rfl), by first | exact (fun _ h => ⟨_, h⟩) | exact (fun _ _ => ⟨_, rfl⟩) | (intro _ h; cases h)⟩, ?_⟩), rfl⟩
 try simp only [tdy] at h74
 refine AL_g rfl rfl (x_move rfl rfl) ?_
 refine AL_g rfl rfl (x_move rfl rfl) ?_
 cases b63
 · try simp only [tdy] at h63
   have hst : startsT (hereT (lexAll s).1 (s.size : Int) st1) = false := by simp [startsT, *]
   refine AL_o rfl rfl rfl rfl ?_
   refine AL_o rfl rfl rfl rfl ?_
   refine AL_o rfl rfl rfl rfl ?_
   refine AL_o rfl rfl rfl rfl ?_
   refine AL_g rfl rfl (x_pickF rfl rfl rfl) ?_
   refine AL_p (x_pickF rfl rfl rfl) ?_
   refine AL_p (x_assign rfl rfl) ?_
   refine AL_nil ?_
   refine AW_condF rfl ?_
   refine AW_seq ?_
   have hnf : ¬ ((0 < (kindI (hereT (lexAll s).1 (s.size : Int) st1)) ∧ (ds.length : Int) = 16) ∨ (startsT (hereT (lexAll s).1 (s.size : Int) st1) = true ∧ (rs.length : Int) = 24)) := by rintro (⟨q1, q2⟩ | ⟨q1, q2⟩) <;> first | omega | (rw [hst] at q1; exact absurd q1 (by decide))
   refine AW_region ?_
   refine AL_p (x_move rfl rfl) ?_
   refine AL_b (x_gtr rfl rfl rfl) (fun b89 h89 => ?_)
   refine AL_p (x_assign rfl rfl) ?_
   refine AL_nil ?_
   cases b89
   · exfalso; (try simp only [tdy] at h89); omega
   try simp only [tdy] at h89
   refine AW_condT rfl ?_
   refine AW_seq ?_
   refine AW_region ?_
   refine AL_p (x_move rfl rfl) ?_
   refine AL_p (x_move rfl rfl) ?_
   refine AL_p (x_call (ks := []) (L := [(200, some _)]) (L' := [(200, some _)]) rfl rfl rfl (pDeclI_c (lexAll s).1 (s.size : Int) st1 hm hlt (kindI (hereT (lexAll s).1 (s.size : Int) st1))) rfl AllV.rf (caught_of rfl) rfl rfl rfl ⟨rfl, trivial⟩ rfl) ?_
   refine AL_p (x_alloc (z := .agg #[.int .i64 0, .string ⟨#[]⟩, .int .i64 0]) 109 rfl (by kernel_rfl) rfl rfl rfl rfl) ?_
   refine AL_p (x_store (n := 3) rfl rfl rfl rfl (by kernel_rfl) rfl rfl rfl) ?_
   refine AL_nil ?_
   refine AW_region ?_
   refine AL_p (x_field (off := 0) (o' := 0) rfl rfl rfl (by kernel_rfl) rfl) ?_
   refine AL_p (x_load1 rfl rfl rfl (by kernel_rfl) rfl) ?_
   refine AL_p (x_loadN (n := 3) rfl rfl rfl (by kernel_rfl) rfl rfl) ?_
   refine AL_p (y_bslice (E := 97) (e := declE) [.tmp 95] ([(declI (lexAll s).1 (s.size : Int) (kindI (hereT (lexAll s).1 (s.size : Int) st1)) st1).1]) 110 rfl rfl rfl rfl rfl rfl rfl rfl FitL.rf rfl rfl rfl rfl rfl rfl (by kernel_rfl)) ?_
   refine AL_p (y_append 111 rfl rfl rfl rfl rfl rfl rfl rfl (by kernel_rfl) (by simp only [List.length_append, List.length_cons, List.length_nil]; omega)) ?_
   refine AL_p (x_field (off := 0) (o' := 0) rfl rfl rfl (by kernel_rfl) rfl) ?_
   refine AL_p (x_store (n := 1) rfl rfl rfl rfl (by kernel_rfl) rfl rfl rfl) ?_
   refine AL_nil ?_
   refine ⟨⟨⟨(declI (lexAll s).1 (s.size : Int) (kindI (hereT (lexAll s).1 (s.size : Int) st1)) st1).2, ds ++ [(declI (lexAll s).1 (s.size : Int) (kindI (hereT (lexAll s).1 (s.size : Int) st1)) st1).1], rs⟩, ⟨⟨declI_le hlt, (by have := (progT_decl h36 hlt hl hnf h69).2; simp only [List.length_append, List.length_cons, List.length_nil]; omega), hl.2⟩, (progT_decl h36 hlt hl hnf h69).1.trans hinv2⟩⟩, rn [(105, 111)], ?_, muP_decl h36 h43⟩
   exact ⟨by (repeat refine ⟨⟨_, rfl, by first | exact VLe.rf | exact vle_int (by dsimp only; omega)⟩, ?_⟩); exact trivial, by (repeat refine ⟨⟨_, rfl, by first | exact BLe.rf | exact BLe.box AllC.rf | exact BLe.arr (by exact rfl)⟩, ?_⟩); exact trivial, by repeat (first | exact trivial | refine ⟨⟨rfl, by first | (left; intro h; cases h) | (right; rfl), by first | exact (fun _ h => ⟨_, h⟩) | exact (fun _ _ => ⟨_, rfl⟩) | (intro _ h; cases h)⟩, ?_⟩), rfl⟩
 try simp only [tdy] at h63
 have hst : startsT (hereT (lexAll s).1 (s.size : Int) st1) = true := by simp [startsT, *]
 refine AL_g rfl rfl (x_field (off := 1) (o' := 1) rfl rfl rfl (by kernel_rfl) rfl) ?_
 refine AL_g rfl rfl (x_load1 rfl rfl rfl (by kernel_rfl) rfl) ?_
 refine AL_g rfl rfl (x_olen (E := 36) (n := 4) rfl rfl rfl (by kernel_rfl)) ?_
 refine AL_gb rfl rfl (x_eql rfl rfl rfl) (fun b82 h82 => ?_)
 refine AL_g rfl rfl (x_pickT rfl rfl rfl) ?_
 refine AL_p (x_pickF rfl rfl rfl) ?_
 refine AL_p (x_assign rfl rfl) ?_
 refine AL_nil ?_
 cases b82
 rotate_left
 · try simp only [tdy] at h82
   have hfull : ((0 < (kindI (hereT (lexAll s).1 (s.size : Int) st1)) ∧ (ds.length : Int) = 16) ∨ (startsT (hereT (lexAll s).1 (s.size : Int) st1) = true ∧ (rs.length : Int) = 24)) := .inr ⟨hst, h82⟩
   refine AW_condT rfl ?_
   refine AW_region ?_
   refine AL_p (x_move rfl rfl) ?_
   refine AL_p (x_call (ks := []) (L := [(200, some _)]) (L' := [(200, some _)]) rfl rfl rfl (pFail_c (lexAll s).1 (s.size : Int) st1 hm hi1 7) rfl AllV.rf (caught_of rfl) rfl rfl rfl ⟨rfl, trivial⟩ rfl) ?_
   refine AL_nil ?_
   refine ⟨⟨⟨faultP (lexAll s).1 (s.size : Int) 7 st1, ds, rs⟩, ⟨⟨fault_le hi1, hl.1, hl.2⟩, (progT_full h36 hlt hl hfull).trans hinv2⟩⟩, rn [], ?_, muP_fault h36 (fault_code (by decide))⟩
   exact ⟨by (repeat refine ⟨⟨_, rfl, by first | exact VLe.rf | exact vle_int (by dsimp only; omega)⟩, ?_⟩); exact trivial, by (repeat refine ⟨⟨_, rfl, by first | exact BLe.rf | exact BLe.box AllC.rf | exact BLe.arr (by exact rfl)⟩, ?_⟩); exact trivial, by repeat (first | exact trivial | refine ⟨⟨rfl, by first | (left; intro h; cases h) | (right; rfl), by first | exact (fun _ h => ⟨_, h⟩) | exact (fun _ _ => ⟨_, rfl⟩) | (intro _ h; cases h)⟩, ?_⟩), rfl⟩
 try simp only [tdy] at h82
 refine AW_condF rfl ?_
 refine AW_seq ?_
 have hnf : ¬ ((0 < (kindI (hereT (lexAll s).1 (s.size : Int) st1)) ∧ (ds.length : Int) = 16) ∨ (startsT (hereT (lexAll s).1 (s.size : Int) st1) = true ∧ (rs.length : Int) = 24)) := by rintro (⟨q1, q2⟩ | ⟨q1, q2⟩) <;> first | omega | (rw [hst] at q1; exact absurd q1 (by decide))
 refine AW_region ?_
 refine AL_p (x_move rfl rfl) ?_
 refine AL_b (x_gtr rfl rfl rfl) (fun b89 h89 => ?_)
 refine AL_p (x_assign rfl rfl) ?_
 refine AL_nil ?_
 cases b89
 · exfalso; (try simp only [tdy] at h89); omega
 try simp only [tdy] at h89
 refine AW_condT rfl ?_
 refine AW_seq ?_
 refine AW_region ?_
 refine AL_p (x_move rfl rfl) ?_
 refine AL_p (x_move rfl rfl) ?_
 refine AL_p (x_call (ks := []) (L := [(200, some _)]) (L' := [(200, some _)]) rfl rfl rfl (pDeclI_c (lexAll s).1 (s.size : Int) st1 hm hlt (kindI (hereT (lexAll s).1 (s.size : Int) st1))) rfl AllV.rf (caught_of rfl) rfl rfl rfl ⟨rfl, trivial⟩ rfl) ?_
 refine AL_p (x_alloc (z := .agg #[.int .i64 0, .string ⟨#[]⟩, .int .i64 0]) 109 rfl (by kernel_rfl) rfl rfl rfl rfl) ?_
 refine AL_p (x_store (n := 3) rfl rfl rfl rfl (by kernel_rfl) rfl rfl rfl) ?_
 refine AL_nil ?_
 refine AW_region ?_
 refine AL_p (x_field (off := 0) (o' := 0) rfl rfl rfl (by kernel_rfl) rfl) ?_
 refine AL_p (x_load1 rfl rfl rfl (by kernel_rfl) rfl) ?_
 refine AL_p (x_loadN (n := 3) rfl rfl rfl (by kernel_rfl) rfl rfl) ?_
 refine AL_p (y_bslice (E := 97) (e := declE) [.tmp 95] ([(declI (lexAll s).1 (s.size : Int) (kindI (hereT (lexAll s).1 (s.size : Int) st1)) st1).1]) 110 rfl rfl rfl rfl rfl rfl rfl rfl FitL.rf rfl rfl rfl rfl rfl rfl (by kernel_rfl)) ?_
 refine AL_p (y_append 111 rfl rfl rfl rfl rfl rfl rfl rfl (by kernel_rfl) (by simp only [List.length_append, List.length_cons, List.length_nil]; omega)) ?_
 refine AL_p (x_field (off := 0) (o' := 0) rfl rfl rfl (by kernel_rfl) rfl) ?_
 refine AL_p (x_store (n := 1) rfl rfl rfl rfl (by kernel_rfl) rfl rfl rfl) ?_
 refine AL_nil ?_
 refine ⟨⟨⟨(declI (lexAll s).1 (s.size : Int) (kindI (hereT (lexAll s).1 (s.size : Int) st1)) st1).2, ds ++ [(declI (lexAll s).1 (s.size : Int) (kindI (hereT (lexAll s).1 (s.size : Int) st1)) st1).1], rs⟩, ⟨⟨declI_le hlt, (by have := (progT_decl h36 hlt hl hnf h69).2; simp only [List.length_append, List.length_cons, List.length_nil]; omega), hl.2⟩, (progT_decl h36 hlt hl hnf h69).1.trans hinv2⟩⟩, rn [(105, 111)], ?_, muP_decl h36 h43⟩
 exact ⟨by (repeat refine ⟨⟨_, rfl, by first | exact VLe.rf | exact vle_int (by dsimp only; omega)⟩, ?_⟩); exact trivial, by (repeat refine ⟨⟨_, rfl, by first | exact BLe.rf | exact BLe.box AllC.rf | exact BLe.arr (by exact rfl)⟩, ?_⟩); exact trivial, by repeat (first | exact trivial | refine ⟨⟨rfl, by first | (left; intro h; cases h) | (right; rfl), by first | exact (fun _ h => ⟨_, h⟩) | exact (fun _ _ => ⟨_, rfl⟩) | (intro _ h; cases h)⟩, ?_⟩), rfl⟩
end Go.Proofs.Ytkemjhlbokldhaa

/- Lemmas of the walks, part 4. -/
import Derived.Test.YtkemjhlbokldhaaE3
import Derived.Shelf.Strings.Builder1
import Derived.Shelf.Strings.Builder2
import Derived.Shelf.Strings.OnBuilder
import Derived.Shelf.Small.Bits
import Derived.Shelf.Small.Strs
import Derived.Shelf.Strings.BuilderF
import Derived.Shelf.Strings.Builder2Cap
import Derived.Shelf.Strconv.Itoa0
import Derived.Shelf.Strings.Search1
import Derived.Shelf.Strings.Prefix
import Derived.Test.YtkemjhlbokldhaaRows
import Derived.Laws.Strings
import Derived.Lib.IndexLaws
/- Tokens are read (printed by walk.py) -/
namespace Go.Proofs.Ytkemjhlbokldhaa
open Go.RowKit
set_option linter.unusedVariables false
set_option linter.unusedSimpArgs false
set_option maxRecDepth 100000

set_option maxHeartbeats 4000000 in
theorem pAtomI_c0 (tk : List Tokent) (e : Int) (st : PS) (hm : tk.length ≤ 1048576) (hi : st.i ≤ tk.length) : AC Try.prog 113 [.one (.ptr 200 0)] [(200, some (psB tk e st))] (.agg (atomO (atomI tk e st).1)) [(200, some (psB tk e (atomI tk e st).2)), (0, some (.arr 70 termE (atomI tk e st).1.args true))] := by
 refine AC_bodyC (n := 2) (k := 9) (T := [(2, .one (.ptr 9 0))]) (Lf := ((9, some (.box (atomO (atomI tk e st).1))) :: [(200, some (psB tk e (atomI tk e st).2)), (0, some (.arr 70 termE (atomI tk e st).1.args true))])) Try.func113 rfl rfl Try.ntmps113 rfl Try.results113 rfl rfl (by kernel_rfl) rfl rfl ⟨trivial, (by repeat (first | exact trivial | refine ⟨⟨_, rfl, BLe.rf⟩, ?_⟩)), (by repeat (first | exact trivial | refine ⟨⟨rfl, by first | (left; intro h; cases h) | (right; rfl), by first | exact (fun _ h => ⟨_, h⟩) | exact (fun _ _ => ⟨_, rfl⟩) | (intro _ h; cases h)⟩, ?_⟩)), rfl⟩ ?_
 refine AW_seq ?_
 refine AW_region ?_
 refine AL_p (x_alloc (z := .agg #[.string ⟨#[]⟩, .slice none 0 0]) 100 rfl (by kernel_rfl) rfl rfl rfl rfl) ?_
 refine AL_nil ?_
 refine AW_seq ?_
 refine AW_region ?_
 refine AL_p (x_build (zs := [.string ⟨#[]⟩, .slice none 0 0]) (places := [(0, 1), (1, 1)]) rfl (by kernel_rfl) rfl rfl rfl rfl rfl) ?_
 refine AL_p (x_alloc (z := .agg #[.string ⟨#[]⟩, .slice none 0 0]) 101 rfl (by kernel_rfl) rfl rfl rfl rfl) ?_
 refine AL_p (x_store (n := 2) rfl rfl rfl rfl (by kernel_rfl) rfl rfl rfl) ?_
 refine AL_nil ?_
 refine AW_seq ?_
 refine AW_region ?_
 refine AL_p (x_move rfl rfl) ?_
 refine AL_p (x_call (ks := []) (L := [(200, some _)]) (L' := [(200, some _)]) rfl rfl rfl (pName_c tk e st hm hi) rfl AllV.rf (caught_of rfl) rfl rfl rfl ⟨rfl, trivial⟩ rfl) ?_
 refine AL_p (x_field (off := 0) (o' := 0) rfl rfl rfl (by kernel_rfl) rfl) ?_
 refine AL_p (x_store (n := 1) rfl rfl rfl rfl (by kernel_rfl) rfl rfl rfl) ?_
 refine AL_nil ?_
 refine AW_seq ?_
 refine AW_region ?_
 refine AL_p (x_move rfl rfl) ?_
 refine AL_p (x_call (ks := []) (L := [(200, some _)]) (L' := [(200, some _)]) rfl rfl rfl (pNeed_c tk e (wordP tk e st).2 hm (word_le hi) ⟨#[40]⟩) rfl AllV.rf (caught_of rfl) rfl rfl rfl ⟨rfl, trivial⟩ rfl) ?_
 refine AL_nil ?_
 refine AW_seq ?_
 refine AW_seq ?_
 refine AW_region ?_
 refine AL_p (x_move rfl rfl) ?_
 refine AL_bc (x_call (ks := []) (L := [(200, some _)]) (L' := [(200, some _)]) rfl rfl rfl (pIsSign_c tk e (atomOpen tk e st) hm (open_le hi) ⟨#[41]⟩) rfl AllV.rf (caught_of rfl) rfl rfl rfl ⟨rfl, trivial⟩ rfl) (fun b12 h12 => ?_)
 refine AL_nil ?_
 cases b12
 rotate_left
 · try simp only [tdy] at h12
   have hno := atomI_none h12
   have hlt := sign_lt h12
   refine AW_condT rfl ?_
   refine AW_seq ?_
   refine AW_region ?_
   refine AL_p (x_move rfl rfl) ?_
   refine AL_p (x_nilc rfl rfl rfl) ?_
   refine AL_p (x_field (off := 1) (o' := 1) rfl rfl rfl (by kernel_rfl) rfl) ?_
   refine AL_p (x_load1 rfl rfl rfl (by kernel_rfl) rfl) ?_
   refine AL_p (x_add rfl rfl rfl (IntWalk.i64_in _ (by omega))) ?_
   refine AL_p (x_nilc rfl rfl rfl) ?_
   refine AL_p (x_field (off := 1) (o' := 1) rfl rfl rfl (by kernel_rfl) rfl) ?_
   refine AL_p (x_store (n := 1) rfl rfl rfl rfl (by kernel_rfl) rfl rfl rfl) ?_
   refine AL_nil ?_
   refine AW_seq ?_
   refine AW_region ?_
   refine AL_p (x_loadN (n := 2) rfl rfl rfl (by kernel_rfl) rfl rfl) ?_
   refine AL_p (x_store (n := 2) rfl rfl rfl rfl (by kernel_rfl) rfl rfl rfl) ?_
   refine AL_nil ?_
   refine AW_adopt (T := 70) (e := termE) 102 100 1 rfl rfl rfl rfl rfl ?_
   refine AW_ret ?_
   exact ⟨rn [(9, 100), (0, 102)], ⟨⟨⟨_, rfl, VLe.rf⟩, trivial⟩, ⟨⟨_, rfl, by first | exact BLe.rf | exact ble_eq (by rw [hno]; first | done | rfl)⟩, ⟨_, rfl, by first | exact BLe.rf | exact ble_eq (by rw [hno]; first | done | rfl)⟩, ⟨_, rfl, by first | exact BLe.rf | (refine BLe.arr ?_; rw [hno]; first | done | rfl)⟩, trivial⟩, ⟨⟨rfl, .inl nofun, fun _ _ => ⟨_, rfl⟩⟩, trivial⟩, rfl⟩⟩
 try simp only [tdy] at h12
 refine AW_condF rfl ?_
 refine AW_skip ?_
 refine AW_seq ?_
 refine AW_block ?_
 refine AW_adopt (T := 70) (e := termE) 103 101 1 rfl rfl rfl rfl rfl ?_
 refine AW_loop2 (ι := {q : PS × List Termt // ((q.1).i ≤ tk.length ∧ (q.2).length ≤ 6) ∧ argsI tk e (8 - (q.2).length) (q.1) (q.2) = argsI tk e 8 (atomOpen tk e st) []}) (fun p => []) (fun p => [(103, some (.arr 70 termE (p.1.2) true)), (200, some (psB tk e (p.1.1)))]) [0, 2, 3] [100, 101] (fun p => 7 - (p.1.2).length) ⟨⟨atomOpen tk e st, []⟩, ⟨⟨open_le hi, by simp⟩, rfl⟩⟩ (rn []) ?_ ?_
 exact ⟨by (repeat refine ⟨⟨_, rfl, by first | exact VLe.rf | exact vle_int (by dsimp only; omega)⟩, ?_⟩); exact trivial, by (repeat refine ⟨⟨_, rfl, by first | exact BLe.rf | exact BLe.box AllC.rf | exact BLe.arr (by exact rfl)⟩, ?_⟩); exact trivial, by repeat (first | exact trivial | refine ⟨⟨rfl, by first | (left; intro h; cases h) | (right; rfl), by first | exact (fun _ h => ⟨_, h⟩) | exact (fun _ _ => ⟨_, rfl⟩) | (intro _ h; cases h)⟩, ?_⟩), rfl⟩
 rintro ⟨⟨st1, a⟩, hinv⟩
 dsimp only
 have hi1 : st1.i ≤ tk.length := hinv.1.1
 have hl : a.length ≤ 6 := hinv.1.2
 refine AW_seq ?_
 refine AW_seq ?_
 refine AW_region ?_
 refine AL_p (x_move rfl rfl) ?_
 refine AL_p (x_nilc rfl rfl rfl) ?_
 refine AL_p (x_field (off := 3) (o' := 3) rfl rfl rfl (by kernel_rfl) rfl) ?_
 refine AL_p (x_load1 rfl rfl rfl (by kernel_rfl) rfl) ?_
 refine AL_b (x_eql rfl rfl rfl) (fun b25 h25 => ?_)
 refine AL_nil ?_
 cases b25
 · try simp only [tdy] at h25
   have hi2 := hi1
   have hno := atomI_some h12 (hinv.2.symm.trans (argsI_bad h25))
   refine AW_condF rfl ?_
   refine AW_exit (BQ_hit ?_)
   refine AW_seq ?_
   refine AW_region ?_
   refine AL_p (x_move rfl rfl) ?_
   refine AL_p (x_call (ks := []) (L := [(200, some _)]) (L' := [(200, some _)]) rfl rfl rfl (pNeed_c tk e _ hm hi2 ⟨#[41]⟩) rfl AllV.rf (caught_of rfl) rfl rfl rfl ⟨rfl, trivial⟩ rfl) ?_
   refine AL_nil ?_
   refine AW_seq ?_
   refine AW_region ?_
   refine AL_p (x_loadN (n := 2) rfl rfl rfl (by kernel_rfl) rfl rfl) ?_
   refine AL_p (x_store (n := 2) rfl rfl rfl rfl (by kernel_rfl) rfl rfl rfl) ?_
   refine AL_nil ?_
   refine AW_ret ?_
   exact ⟨rn [(9, 100), (0, 103)], ⟨⟨⟨_, rfl, VLe.rf⟩, trivial⟩, ⟨⟨_, rfl, by first | exact BLe.rf | exact ble_eq (by rw [hno]; first | done | rfl)⟩, ⟨_, rfl, by first | exact BLe.rf | exact ble_eq (by rw [hno]; first | done | rfl)⟩, ⟨_, rfl, by first | exact BLe.rf | (refine BLe.arr ?_; rw [hno]; first | done | rfl)⟩, trivial⟩, ⟨⟨rfl, .inl nofun, fun _ _ => ⟨_, rfl⟩⟩, trivial⟩, rfl⟩⟩
 try simp only [tdy] at h25
 refine AW_condT rfl ?_
 refine AW_skip ?_
 refine AW_block ?_
 refine AW_seq ?_
 refine AW_seq ?_
 refine AW_region ?_
 refine AL_p (x_move rfl rfl) ?_
 refine AL_bc (x_call (ks := []) (L := [(200, some _)]) (L' := [(200, some _)]) rfl rfl rfl (pIsTerm_c tk e st1 hm hi1) rfl AllV.rf (caught_of rfl) rfl rfl rfl ⟨rfl, trivial⟩ rfl) (fun b27 h27 => ?_)
 refine AL_p (x_move rfl rfl) ?_
 cases b27
 · try simp only [tdy] at h27
   have hnf : ¬ (termT (hereT tk e st1) = true ∧ (a.length : Int) = 6) := fun q => by rw [h27] at q; cases q.1
   refine AL_o rfl rfl rfl rfl ?_
   refine AL_o rfl rfl rfl rfl ?_
   refine AL_o rfl rfl rfl rfl ?_
   refine AL_o rfl rfl rfl rfl ?_
   refine AL_p (x_pickF rfl rfl rfl) ?_
   refine AL_nil ?_
   refine AW_condF rfl ?_
   refine AW_skip ?_
   refine AW_seq ?_
   refine AW_region ?_
   refine AL_p (x_move rfl rfl) ?_
   refine AL_p (x_call (ks := []) (L := [(200, some _)]) (L' := [(200, some _)]) rfl rfl rfl (pTerm_c tk e st1 hm hi1) rfl AllV.rf (caught_of rfl) rfl rfl rfl ⟨rfl, trivial⟩ rfl) ?_
   refine AL_p (x_alloc (z := .agg #[.string ⟨#[]⟩, .int .i64 0, .string ⟨#[]⟩]) 104 rfl (by kernel_rfl) rfl rfl rfl rfl) ?_
   refine AL_p (x_store (n := 3) rfl rfl rfl rfl (by kernel_rfl) rfl rfl rfl) ?_
   refine AL_nil ?_
   refine AW_seq ?_
   refine AW_region ?_
   refine AL_p (x_field (off := 1) (o' := 1) rfl rfl rfl (by kernel_rfl) rfl) ?_
   refine AL_p (x_load1 rfl rfl rfl (by kernel_rfl) rfl) ?_
   refine AL_p (x_loadN (n := 3) rfl rfl rfl (by kernel_rfl) rfl rfl) ?_
   refine AL_p (y_bslice (E := 70) (e := termE) [.tmp 40] ([(termP tk e false st1).1]) 105 rfl rfl rfl rfl rfl rfl rfl rfl FitL.rf rfl rfl rfl rfl rfl rfl (by kernel_rfl)) ?_
   refine AL_p (y_append 106 rfl rfl rfl rfl rfl rfl rfl rfl (by kernel_rfl) (by simp only [List.length_append, List.length_cons, List.length_nil]; omega)) ?_
   refine AL_p (x_field (off := 1) (o' := 1) rfl rfl rfl (by kernel_rfl) rfl) ?_
   refine AL_p (x_store (n := 1) rfl rfl rfl rfl (by kernel_rfl) rfl rfl rfl) ?_
   refine AL_nil ?_
   refine AW_seq ?_
   refine AW_seq ?_
   refine AW_region ?_
   refine AL_p (x_move rfl rfl) ?_
   refine AL_bc (x_call (ks := []) (L := [(200, some _)]) (L' := [(200, some _)]) rfl rfl rfl (pIsSign_c tk e (termP tk e false st1).2 hm (term_le hi1) ⟨#[44]⟩) rfl AllV.rf (caught_of rfl) rfl rfl rfl ⟨rfl, trivial⟩ rfl) (fun b45 h45 => ?_)
   refine AL_p (x_not rfl rfl) ?_
   refine AL_nil ?_
   cases b45
   · try simp only [tdy] at h45
     have hi2 := term_le (e := e) (b := false) hi1
     have hno := atomI_some h12 (hinv.2.symm.trans (args_last h25 hnf hl h45))
     refine AW_condT rfl ?_
     refine AW_exit (BQ_miss rfl (BQ_hit ?_))
     refine AW_seq ?_
     refine AW_region ?_
     refine AL_p (x_move rfl rfl) ?_
     refine AL_p (x_call (ks := []) (L := [(200, some _)]) (L' := [(200, some _)]) rfl rfl rfl (pNeed_c tk e _ hm hi2 ⟨#[41]⟩) rfl AllV.rf (caught_of rfl) rfl rfl rfl ⟨rfl, trivial⟩ rfl) ?_
     refine AL_nil ?_
     refine AW_seq ?_
     refine AW_region ?_
     refine AL_p (x_loadN (n := 2) rfl rfl rfl (by kernel_rfl) rfl rfl) ?_
     refine AL_p (x_store (n := 2) rfl rfl rfl rfl (by kernel_rfl) rfl rfl rfl) ?_
     refine AL_nil ?_
     refine AW_ret ?_
     exact ⟨rn [(9, 100), (0, 106)], ⟨⟨⟨_, rfl, VLe.rf⟩, trivial⟩, ⟨⟨_, rfl, by first | exact BLe.rf | exact ble_eq (by rw [hno]; first | done | rfl)⟩, ⟨_, rfl, by first | exact BLe.rf | exact ble_eq (by rw [hno]; first | done | rfl)⟩, ⟨_, rfl, by first | exact BLe.rf | (refine BLe.arr ?_; rw [hno]; first | done | rfl)⟩, trivial⟩, ⟨⟨rfl, .inl nofun, fun _ _ => ⟨_, rfl⟩⟩, trivial⟩, rfl⟩⟩
   try simp only [tdy] at h45
   have hmo := args_more h25 hnf hl h45
   have hlt := hmo.2.1
   have hmo1 := hmo.1
   refine AW_condF rfl ?_
   refine AW_skip ?_
   refine AW_region ?_
   refine AL_p (x_move rfl rfl) ?_
   refine AL_p (x_nilc rfl rfl rfl) ?_
   refine AL_p (x_field (off := 1) (o' := 1) rfl rfl rfl (by kernel_rfl) rfl) ?_
   refine AL_p (x_load1 rfl rfl rfl (by kernel_rfl) rfl) ?_
   refine AL_p (x_add rfl rfl rfl (IntWalk.i64_in _ (by omega))) ?_
   refine AL_p (x_nilc rfl rfl rfl) ?_
   refine AL_p (x_field (off := 1) (o' := 1) rfl rfl rfl (by kernel_rfl) rfl) ?_
   refine AL_p (x_store (n := 1) rfl rfl rfl rfl (by kernel_rfl) rfl rfl rfl) ?_
   refine AL_nil ?_
   refine ⟨⟨⟨(termP tk e false st1).2.next, a ++ [(termP tk e false st1).1]⟩, ⟨⟨hlt, by simp only [List.length_append, List.length_cons, List.length_nil]; omega⟩, hmo.2.2.trans hinv.2⟩⟩, rn [(103, 106)], ?_, by dsimp only; simp only [List.length_append, List.length_cons, List.length_nil]; omega⟩
   exact ⟨by (repeat refine ⟨⟨_, rfl, by first | exact VLe.rf | exact vle_int (by dsimp only; omega)⟩, ?_⟩); exact trivial, by (repeat refine ⟨⟨_, rfl, by first | exact BLe.rf | exact BLe.box AllC.rf | exact BLe.arr (by exact rfl)⟩, ?_⟩); exact trivial, by repeat (first | exact trivial | refine ⟨⟨rfl, by first | (left; intro h; cases h) | (right; rfl), by first | exact (fun _ h => ⟨_, h⟩) | exact (fun _ _ => ⟨_, rfl⟩) | (intro _ h; cases h)⟩, ?_⟩), rfl⟩
 try simp only [tdy] at h27
 refine AL_g rfl rfl (x_field (off := 1) (o' := 1) rfl rfl rfl (by kernel_rfl) rfl) ?_
 refine AL_g rfl rfl (x_load1 rfl rfl rfl (by kernel_rfl) rfl) ?_
 refine AL_g rfl rfl (x_olen (E := 70) (n := 3) rfl rfl rfl (by kernel_rfl)) ?_
 refine AL_gb rfl rfl (x_eql rfl rfl rfl) (fun b32 h32 => ?_)
 refine AL_p (x_pickT rfl rfl rfl) ?_
 refine AL_nil ?_
 cases b32
 rotate_left
 · try simp only [tdy] at h32
   have hi2 := fault_le (e := e) (c := 7) hi1
   have hno := atomI_some h12 (hinv.2.symm.trans (args_full h25 h27 h32))
   refine AW_condT rfl ?_
   refine AW_seq ?_
   refine AW_region ?_
   refine AL_p (x_move rfl rfl) ?_
   refine AL_p (x_call (ks := []) (L := [(200, some _)]) (L' := [(200, some _)]) rfl rfl rfl (pFail_c tk e st1 hm hi1 7) rfl AllV.rf (caught_of rfl) rfl rfl rfl ⟨rfl, trivial⟩ rfl) ?_
   refine AL_nil ?_
   refine AW_exit (BQ_miss rfl (BQ_hit ?_))
   refine AW_seq ?_
   refine AW_region ?_
   refine AL_p (x_move rfl rfl) ?_
   refine AL_p (x_call (ks := []) (L := [(200, some _)]) (L' := [(200, some _)]) rfl rfl rfl (pNeed_c tk e _ hm hi2 ⟨#[41]⟩) rfl AllV.rf (caught_of rfl) rfl rfl rfl ⟨rfl, trivial⟩ rfl) ?_
   refine AL_nil ?_
   refine AW_seq ?_
   refine AW_region ?_
   refine AL_p (x_loadN (n := 2) rfl rfl rfl (by kernel_rfl) rfl rfl) ?_
   refine AL_p (x_store (n := 2) rfl rfl rfl rfl (by kernel_rfl) rfl rfl rfl) ?_
   refine AL_nil ?_
   refine AW_ret ?_
   exact ⟨rn [(9, 100), (0, 103)], ⟨⟨⟨_, rfl, VLe.rf⟩, trivial⟩, ⟨⟨_, rfl, by first | exact BLe.rf | exact ble_eq (by rw [hno]; first | done | rfl)⟩, ⟨_, rfl, by first | exact BLe.rf | exact ble_eq (by rw [hno]; first | done | rfl)⟩, ⟨_, rfl, by first | exact BLe.rf | (refine BLe.arr ?_; rw [hno]; first | done | rfl)⟩, trivial⟩, ⟨⟨rfl, .inl nofun, fun _ _ => ⟨_, rfl⟩⟩, trivial⟩, rfl⟩⟩
 try simp only [tdy] at h32
 have hnf : ¬ (termT (hereT tk e st1) = true ∧ (a.length : Int) = 6) := fun q => h32 q.2
 refine AW_condF rfl ?_
 refine AW_skip ?_
 refine AW_seq ?_
 refine AW_region ?_
 refine AL_p (x_move rfl rfl) ?_
 refine AL_p (x_call (ks := []) (L := [(200, some _)]) (L' := [(200, some _)]) rfl rfl rfl (pTerm_c tk e st1 hm hi1) rfl AllV.rf (caught_of rfl) rfl rfl rfl ⟨rfl, trivial⟩ rfl) ?_
 refine AL_p (x_alloc (z := .agg #[.string ⟨#[]⟩, .int .i64 0, .string ⟨#[]⟩]) 104 rfl (by kernel_rfl) rfl rfl rfl rfl) ?_
 refine AL_p (x_store (n := 3) rfl rfl rfl rfl (by kernel_rfl) rfl rfl rfl) ?_
 refine AL_nil ?_
 refine AW_seq ?_
 refine AW_region ?_
 refine AL_p (x_field (off := 1) (o' := 1) rfl rfl rfl (by kernel_rfl) rfl) ?_
 refine AL_p (x_load1 rfl rfl rfl (by kernel_rfl) rfl) ?_
 refine AL_p (x_loadN (n := 3) rfl rfl rfl (by kernel_rfl) rfl rfl) ?_
 refine AL_p (y_bslice (E := 70) (e := termE) [.tmp 40] ([(termP tk e false st1).1]) 105 rfl rfl rfl rfl rfl rfl rfl rfl FitL.rf rfl rfl rfl rfl rfl rfl (by kernel_rfl)) ?_
 refine AL_p (y_append 106 rfl rfl rfl rfl rfl rfl rfl rfl (by kernel_rfl) (by simp only [List.length_append, List.length_cons, List.length_nil]; omega)) ?_
 refine AL_p (x_field (off := 1) (o' := 1) rfl rfl rfl (by kernel_rfl) rfl) ?_
 refine AL_p (x_store (n := 1) rfl rfl rfl rfl (by kernel_rfl) rfl rfl rfl) ?_
 refine AL_nil ?_
 refine AW_seq ?_
 refine AW_seq ?_
 refine AW_region ?_
 refine AL_p (x_move rfl rfl) ?_
 refine AL_bc (x_call (ks := []) (L := [(200, some _)]) (L' := [(200, some _)]) rfl rfl rfl (pIsSign_c tk e (termP tk e false st1).2 hm (term_le hi1) ⟨#[44]⟩) rfl AllV.rf (caught_of rfl) rfl rfl rfl ⟨rfl, trivial⟩ rfl) (fun b45 h45 => ?_)
 refine AL_p (x_not rfl rfl) ?_
 refine AL_nil ?_
 cases b45
 · try simp only [tdy] at h45
   have hi2 := term_le (e := e) (b := false) hi1
   have hno := atomI_some h12 (hinv.2.symm.trans (args_last h25 hnf hl h45))
   refine AW_condT rfl ?_
   refine AW_exit (BQ_miss rfl (BQ_hit ?_))
   refine AW_seq ?_
   refine AW_region ?_
   refine AL_p (x_move rfl rfl) ?_
   refine AL_p (x_call (ks := []) (L := [(200, some _)]) (L' := [(200, some _)]) rfl rfl rfl (pNeed_c tk e _ hm hi2 ⟨#[41]⟩) rfl AllV.rf (caught_of rfl) rfl rfl rfl ⟨rfl, trivial⟩ rfl) ?_
   refine AL_nil ?_
   refine AW_seq ?_
   refine AW_region ?_
   refine AL_p (x_loadN (n := 2) rfl rfl rfl (by kernel_rfl) rfl rfl) ?_
   refine AL_p (x_store (n := 2) rfl rfl rfl rfl (by kernel_rfl) rfl rfl rfl) ?_
   refine AL_nil ?_
   refine AW_ret ?_
   exact ⟨rn [(9, 100), (0, 106)], ⟨⟨⟨_, rfl, VLe.rf⟩, trivial⟩, ⟨⟨_, rfl, by first | exact BLe.rf | exact ble_eq (by rw [hno]; first | done | rfl)⟩, ⟨_, rfl, by first | exact BLe.rf | exact ble_eq (by rw [hno]; first | done | rfl)⟩, ⟨_, rfl, by first | exact BLe.rf | (refine BLe.arr ?_; rw [hno]; first | done | rfl)⟩, trivial⟩, ⟨⟨rfl, .inl nofun, fun _ _ => ⟨_, rfl⟩⟩, trivial⟩, rfl⟩⟩
 try simp only [tdy] at h45
 have hmo := args_more h25 hnf hl h45
 have hlt := hmo.2.1
 have hmo1 := hmo.1
 refine AW_condF rfl ?_
 refine AW_skip ?_
 refine AW_region ?_
 refine AL_p (x_move rfl rfl) ?_
 refine AL_p (x_nilc rfl rfl rfl) ?_
 refine AL_p (x_field (off := 1) (o' := 1) rfl rfl rfl (by kernel_rfl) rfl) ?_
 refine AL_p (x_load1 rfl rfl rfl (by kernel_rfl) rfl) ?_
 refine AL_p (x_add rfl rfl rfl (IntWalk.i64_in _ (by omega))) ?_
 refine AL_p (x_nilc rfl rfl rfl) ?_
 refine AL_p (x_field (off := 1) (o' := 1) rfl rfl rfl (by kernel_rfl) rfl) ?_
 refine AL_p (x_store (n := 1) rfl rfl rfl rfl (by kernel_rfl) rfl rfl rfl) ?_
 refine AL_nil ?_
 refine ⟨⟨⟨(termP tk e false st1).2.next, a ++ [(termP tk e false st1).1]⟩, ⟨⟨hlt, by simp only [List.length_append, List.length_cons, List.length_nil]; omega⟩, hmo.2.2.trans hinv.2⟩⟩, rn [(103, 106)], ?_, by dsimp only; simp only [List.length_append, List.length_cons, List.length_nil]; omega⟩
 exact ⟨by (repeat refine ⟨⟨_, rfl, by first | exact VLe.rf | exact vle_int (by dsimp only; omega)⟩, ?_⟩); exact trivial, by (repeat refine ⟨⟨_, rfl, by first | exact BLe.rf | exact BLe.box AllC.rf | exact BLe.arr (by exact rfl)⟩, ?_⟩); exact trivial, by repeat (first | exact trivial | refine ⟨⟨rfl, by first | (left; intro h; cases h) | (right; rfl), by first | exact (fun _ h => ⟨_, h⟩) | exact (fun _ _ => ⟨_, rfl⟩) | (intro _ h; cases h)⟩, ?_⟩), rfl⟩

theorem pAtomI_c (tk : List Tokent) (e : Int) (st : PS) (hm : tk.length ≤ 1048576) (hi : st.i ≤ tk.length) (k : Nat) (hk : Nat.beq k 200 = false) : AC Try.prog 113 [.one (.ptr 200 0)] [(200, some (psB tk e st))] (.agg (atomK (atomI tk e st).1 k)) [(200, some (psB tk e (atomI tk e st).2)), (k, some (.arr 70 termE (atomI tk e st).1.args true))] := AC.ps (pAtomI_c0 tk e st hm hi) k hk (fun r h => atomK_ren h) (fun _ => rfl)

set_option maxHeartbeats 4000000 in
theorem pLitI_c0 (tk : List Tokent) (e : Int) (st : PS) (hm : tk.length ≤ 1048576) (hi : st.i ≤ tk.length) : AC Try.prog 144 [.one (.ptr 200 0)] [(200, some (psB tk e st))] (.agg (litO (litI tk e st).1)) [(200, some (psB tk e (litI tk e st).2)), (0, some (.arr 70 termE (litI tk e st).1.atom.args true))] := by
 refine AC_bodyC (n := 10) (k := 9) (T := [(2, .one (.ptr 9 0))]) (Lf := ((9, some (.box (litO (litI tk e st).1))) :: [(200, some (psB tk e (litI tk e st).2)), (0, some (.arr 70 termE (litI tk e st).1.atom.args true))])) Try.func144 rfl rfl Try.ntmps144 rfl Try.results144 rfl rfl (by kernel_rfl) rfl rfl ⟨trivial, (by repeat (first | exact trivial | refine ⟨⟨_, rfl, BLe.rf⟩, ?_⟩)), (by repeat (first | exact trivial | refine ⟨⟨rfl, by first | (left; intro h; cases h) | (right; rfl), by first | exact (fun _ h => ⟨_, h⟩) | exact (fun _ _ => ⟨_, rfl⟩) | (intro _ h; cases h)⟩, ?_⟩)), rfl⟩ ?_
 refine AW_seq ?_
 refine AW_region ?_
 refine AL_p (x_alloc (z := .agg #[.int .i64 0, .string ⟨#[]⟩, .slice none 0 0, .int .i64 0, .string ⟨#[]⟩, .int .i64 0, .string ⟨#[]⟩, .string ⟨#[]⟩, .int .i64 0, .string ⟨#[]⟩]) 100 rfl (by kernel_rfl) rfl rfl rfl rfl) ?_
 refine AL_nil ?_
 refine AW_seq ?_
 refine AW_region ?_
 refine AL_p (x_move rfl rfl) ?_
 refine AL_p (x_call (ks := []) (L := [(200, some _)]) (L' := [(200, some _)]) rfl rfl rfl (pHere_c tk e st hm (hi)) rfl AllV.rf (caught_of rfl) rfl rfl rfl ⟨rfl, trivial⟩ rfl) ?_
 refine AL_p (x_alloc (z := .agg #[.int .i64 0, .int .i64 0, .string ⟨#[]⟩, .int .i64 0]) 101 rfl (by kernel_rfl) rfl rfl rfl rfl) ?_
 refine AL_p (x_store (n := 4) rfl rfl rfl rfl (by kernel_rfl) rfl rfl rfl) ?_
 refine AL_nil ?_
 refine AW_seq ?_
 refine AW_seq ?_
 refine AW_region ?_
 refine AL_p (x_field (off := 0) (o' := 0) rfl rfl rfl (by kernel_rfl) rfl) ?_
 refine AL_p (x_load1 rfl rfl rfl (by kernel_rfl) rfl) ?_
 refine AL_b (x_eql rfl rfl rfl) (fun b9 h9 => ?_)
 refine AL_p (x_move rfl rfl) ?_
 cases b9
 · try simp only [tdy] at h9
   have hnt : notT (hereT tk e st) = false := by simp [notT, h9]
   refine AL_o rfl rfl rfl rfl ?_
   refine AL_o rfl rfl rfl rfl ?_
   refine AL_o rfl rfl rfl rfl ?_
   refine AL_p (x_pickF rfl rfl rfl) ?_
   refine AL_nil ?_
   refine AW_condF rfl ?_
   refine AW_skip ?_
   refine AW_seq ?_
   refine AW_seq ?_
   refine AW_draw rfl ?_
   refine AL_p (x_move rfl rfl) ?_
   refine AL_bc (x_call (ks := []) (L := [(200, some _)]) (L' := [(200, some _)]) rfl rfl rfl (pIsName_c tk e st hm hi) rfl AllV.rf (caught_of rfl) rfl rfl rfl ⟨rfl, trivial⟩ rfl) (fun b26 h26 => ?_)
   refine AL_p (x_move rfl rfl) ?_
   cases b26
   · try simp only [tdy] at h26
     have hop := open_no h26
     refine AL_o rfl rfl rfl rfl ?_
     refine AL_o rfl rfl rfl rfl ?_
     refine AL_o rfl rfl rfl rfl ?_
     refine AL_o rfl rfl rfl rfl ?_
     refine AL_o rfl rfl rfl rfl ?_
     refine AL_o rfl rfl rfl rfl ?_
     refine AL_o rfl rfl rfl rfl ?_
     refine AL_o rfl rfl rfl rfl ?_
     refine AL_o rfl rfl rfl rfl ?_
     refine AL_o rfl rfl rfl rfl ?_
     refine AL_o rfl rfl rfl rfl ?_
     refine AL_p (x_pickF rfl rfl rfl) ?_
     refine AL_p (x_move rfl rfl) ?_
     refine AL_o rfl rfl rfl rfl ?_
     refine AL_o rfl rfl rfl rfl ?_
     refine AL_o rfl rfl rfl rfl ?_
     refine AL_o rfl rfl rfl rfl ?_
     refine AL_o rfl rfl rfl rfl ?_
     refine AL_o rfl rfl rfl rfl ?_
     refine AL_o rfl rfl rfl rfl ?_
     refine AL_o rfl rfl rfl rfl ?_
     refine AL_o rfl rfl rfl rfl ?_
     refine AL_o rfl rfl rfl rfl ?_
     refine AL_o rfl rfl rfl rfl ?_
     refine AL_o rfl rfl rfl rfl ?_
     refine AL_o rfl rfl rfl rfl ?_
     refine AL_p (x_pickF rfl rfl rfl) ?_
     refine AL_p (x_move rfl rfl) ?_
     refine AL_o rfl rfl rfl rfl ?_
     refine AL_o rfl rfl rfl rfl ?_
     refine AL_o rfl rfl rfl rfl ?_
     refine AL_o rfl rfl rfl rfl ?_
     refine AL_o rfl rfl rfl rfl ?_
     refine AL_o rfl rfl rfl rfl ?_
     refine AL_o rfl rfl rfl rfl ?_
     refine AL_o rfl rfl rfl rfl ?_
     refine AL_o rfl rfl rfl rfl ?_
     refine AL_o rfl rfl rfl rfl ?_
     refine AL_o rfl rfl rfl rfl ?_
     refine AL_o rfl rfl rfl rfl ?_
     refine AL_o rfl rfl rfl rfl ?_
     refine AL_p (x_pickF rfl rfl rfl) ?_
     refine AL_nild (by kernel_rfl) ?_
     refine AW_condF rfl ?_
     refine AW_skip ?_
     refine AW_seq ?_
     refine AW_region ?_
     refine AL_p (x_build (zs := [.int .i64 0, .string ⟨#[]⟩, .slice none 0 0, .int .i64 0, .string ⟨#[]⟩, .int .i64 0, .string ⟨#[]⟩, .string ⟨#[]⟩, .int .i64 0, .string ⟨#[]⟩]) (places := [(0, 1), (1, 2), (3, 1), (4, 3), (7, 3)]) rfl (by kernel_rfl) rfl rfl rfl rfl rfl) ?_
     refine AL_p (x_alloc (z := .agg #[.int .i64 0, .string ⟨#[]⟩, .slice none 0 0, .int .i64 0, .string ⟨#[]⟩, .int .i64 0, .string ⟨#[]⟩, .string ⟨#[]⟩, .int .i64 0, .string ⟨#[]⟩]) 104 rfl (by kernel_rfl) rfl rfl rfl rfl) ?_
     refine AL_p (x_store (n := 10) rfl rfl rfl rfl (by kernel_rfl) rfl rfl rfl) ?_
     refine AL_nil ?_
     refine AW_seq ?_
     refine AW_region ?_
     refine AL_p (x_move rfl rfl) ?_
     refine AL_p (x_call (ks := []) (L := [(200, some _)]) (L' := [(200, some _)]) rfl rfl rfl (pTerm_c tk e st hm hi) rfl AllV.rf (caught_of rfl) rfl rfl rfl ⟨rfl, trivial⟩ rfl) ?_
     refine AL_p (x_field (off := 4) (o' := 4) rfl rfl rfl (by kernel_rfl) rfl) ?_
     refine AL_p (x_store (n := 3) rfl rfl rfl rfl (by kernel_rfl) rfl rfl rfl) ?_
     refine AL_nil ?_
     refine AW_seq ?_
     refine AW_region ?_
     refine AL_p (x_move rfl rfl) ?_
     refine AL_p (x_call (ks := []) (L := [(200, some _)]) (L' := [(200, some _)]) rfl rfl rfl (pHere_c tk e (termP tk e false st).2 hm (term_le hi)) rfl AllV.rf (caught_of rfl) rfl rfl rfl ⟨rfl, trivial⟩ rfl) ?_
     refine AL_p (x_store (n := 4) rfl rfl rfl rfl (by kernel_rfl) rfl rfl rfl) ?_
     refine AL_nil ?_
     refine AW_seq ?_
     refine AW_seq ?_
     refine AW_region ?_
     refine AL_p (x_field (off := 0) (o' := 0) rfl rfl rfl (by kernel_rfl) rfl) ?_
     refine AL_p (x_load1 rfl rfl rfl (by kernel_rfl) rfl) ?_
     refine AL_b (x_eql rfl rfl rfl) (fun b81 h81 => ?_)
     refine AL_nil ?_
     cases b81
     · try simp only [tdy] at h81
       have ho2 : opI (hereT tk e (termP tk e false st).2) = _ := if_neg h81
       refine AW_condF rfl ?_
       refine AW_skip ?_
       refine AW_seq ?_
       refine AW_seq ?_
       refine AW_region ?_
       refine AL_p (x_field (off := 3) (o' := 3) rfl rfl rfl (by kernel_rfl) rfl) ?_
       refine AL_p (x_load1 rfl rfl rfl (by kernel_rfl) rfl) ?_
       refine AL_b (x_lss rfl rfl rfl) (fun b88 h88 => ?_)
       refine AL_nil ?_
       cases b88
       rotate_left
       · try simp only [tdy] at h88
         have hno := litI_bad hnt hop (by rw [ho2]; omega)
         rw [ho2] at hno
         refine AW_condT rfl ?_
         refine AW_seq ?_
         refine AW_region ?_
         refine AL_p (x_move rfl rfl) ?_
         refine AL_p (x_call (ks := []) (L := [(200, some _)]) (L' := [(200, some _)]) rfl rfl rfl (pFail_c tk e (termP tk e false st).2 hm (term_le hi) 6) rfl AllV.rf (caught_of rfl) rfl rfl rfl ⟨rfl, trivial⟩ rfl) ?_
         refine AL_nil ?_
         refine AW_seq ?_
         refine AW_region ?_
         refine AL_p (x_loadN (n := 10) rfl rfl rfl (by kernel_rfl) rfl rfl) ?_
         refine AL_p (x_store (n := 10) rfl rfl rfl rfl (by kernel_rfl) rfl rfl rfl) ?_
         refine AL_nil ?_
         refine AW_adopt (T := 70) (e := termE) 105 100 2 rfl rfl rfl rfl rfl ?_
         refine AW_ret ?_
         exact ⟨rn [(9, 100), (0, 105)], ⟨⟨⟨_, rfl, VLe.rf⟩, trivial⟩, ⟨⟨_, rfl, by first | exact BLe.rf | exact ble_eq (by rw [hno]; first | done | rfl)⟩, ⟨_, rfl, by first | exact BLe.rf | exact ble_eq (by rw [hno]; first | done | rfl)⟩, ⟨_, rfl, by first | exact BLe.rf | (refine BLe.arr ?_; rw [hno]; first | done | rfl)⟩, trivial⟩, ⟨⟨rfl, .inl nofun, fun _ _ => ⟨_, rfl⟩⟩, trivial⟩, rfl⟩⟩
       try simp only [tdy] at h88
       have hlt := next_le (op_lt (tk := tk) (e := e) (st := (termP tk e false st).2) (by rw [ho2]; omega))
       have hlt2 : (termP tk e false st).2.i < tk.length := hlt
       have hno := litI_cmp hnt hop (by rw [ho2]; omega)
       rw [ho2] at hno
       refine AW_condF rfl ?_
       refine AW_skip ?_
       refine AW_seq ?_
       refine AW_region ?_
       refine AL_p (x_move rfl rfl) ?_
       refine AL_p (x_nilc rfl rfl rfl) ?_
       refine AL_p (x_field (off := 1) (o' := 1) rfl rfl rfl (by kernel_rfl) rfl) ?_
       refine AL_p (x_load1 rfl rfl rfl (by kernel_rfl) rfl) ?_
       refine AL_p (x_add rfl rfl rfl (IntWalk.i64_in _ (by omega))) ?_
       refine AL_p (x_nilc rfl rfl rfl) ?_
       refine AL_p (x_field (off := 1) (o' := 1) rfl rfl rfl (by kernel_rfl) rfl) ?_
       refine AL_p (x_store (n := 1) rfl rfl rfl rfl (by kernel_rfl) rfl rfl rfl) ?_
       refine AL_nil ?_
       refine AW_seq ?_
       refine AW_region ?_
       refine AL_p (x_move rfl rfl) ?_
       refine AL_p (x_call (ks := []) (L := [(200, some _)]) (L' := [(200, some _)]) rfl rfl rfl (pTerm_c tk e (termP tk e false st).2.next hm hlt) rfl AllV.rf (caught_of rfl) rfl rfl rfl ⟨rfl, trivial⟩ rfl) ?_
       refine AL_p (x_field (off := 7) (o' := 7) rfl rfl rfl (by kernel_rfl) rfl) ?_
       refine AL_p (x_store (n := 3) rfl rfl rfl rfl (by kernel_rfl) rfl rfl rfl) ?_
       refine AL_nil ?_
       refine AW_seq ?_
       refine AW_region ?_
       refine AL_p (x_loadN (n := 10) rfl rfl rfl (by kernel_rfl) rfl rfl) ?_
       refine AL_p (x_store (n := 10) rfl rfl rfl rfl (by kernel_rfl) rfl rfl rfl) ?_
       refine AL_nil ?_
       refine AW_adopt (T := 70) (e := termE) 105 100 2 rfl rfl rfl rfl rfl ?_
       refine AW_ret ?_
       exact ⟨rn [(9, 100), (0, 105)], ⟨⟨⟨_, rfl, VLe.rf⟩, trivial⟩, ⟨⟨_, rfl, by first | exact BLe.rf | exact ble_eq (by rw [hno]; first | done | rfl)⟩, ⟨_, rfl, by first | exact BLe.rf | exact ble_eq (by rw [hno]; first | done | rfl)⟩, ⟨_, rfl, by first | exact BLe.rf | (refine BLe.arr ?_; rw [hno]; first | done | rfl)⟩, trivial⟩, ⟨⟨rfl, .inl nofun, fun _ _ => ⟨_, rfl⟩⟩, trivial⟩, rfl⟩⟩
     try simp only [tdy] at h81
     have ho2 : opI (hereT tk e (termP tk e false st).2) = _ := if_pos h81
     refine AW_condT rfl ?_
     refine AW_region ?_
     refine AL_p (x_field (off := 2) (o' := 2) rfl rfl rfl (by kernel_rfl) rfl) ?_
     refine AL_p (x_load1 rfl rfl rfl (by kernel_rfl) rfl) ?_
     refine AL_p (x_call0 rfl rfl rfl (pOpOf_c _) rfl rfl) ?_
     refine AL_p (x_field (off := 3) (o' := 3) rfl rfl rfl (by kernel_rfl) rfl) ?_
     refine AL_p (x_store (n := 1) rfl rfl rfl rfl (by kernel_rfl) rfl rfl rfl) ?_
     refine AL_nil ?_
     refine AW_seq ?_
     refine AW_seq ?_
     refine AW_region ?_
     refine AL_p (x_field (off := 3) (o' := 3) rfl rfl rfl (by kernel_rfl) rfl) ?_
     refine AL_p (x_load1 rfl rfl rfl (by kernel_rfl) rfl) ?_
     refine AL_b (x_lss rfl rfl rfl) (fun b88 h88 => ?_)
     refine AL_nil ?_
     cases b88
     rotate_left
     · try simp only [tdy] at h88
       have hno := litI_bad hnt hop (by rw [ho2]; omega)
       rw [ho2] at hno
       refine AW_condT rfl ?_
       refine AW_seq ?_
       refine AW_region ?_
       refine AL_p (x_move rfl rfl) ?_
       refine AL_p (x_call (ks := []) (L := [(200, some _)]) (L' := [(200, some _)]) rfl rfl rfl (pFail_c tk e (termP tk e false st).2 hm (term_le hi) 6) rfl AllV.rf (caught_of rfl) rfl rfl rfl ⟨rfl, trivial⟩ rfl) ?_
       refine AL_nil ?_
       refine AW_seq ?_
       refine AW_region ?_
       refine AL_p (x_loadN (n := 10) rfl rfl rfl (by kernel_rfl) rfl rfl) ?_
       refine AL_p (x_store (n := 10) rfl rfl rfl rfl (by kernel_rfl) rfl rfl rfl) ?_
       refine AL_nil ?_
       refine AW_adopt (T := 70) (e := termE) 105 100 2 rfl rfl rfl rfl rfl ?_
       refine AW_ret ?_
       exact ⟨rn [(9, 100), (0, 105)], ⟨⟨⟨_, rfl, VLe.rf⟩, trivial⟩, ⟨⟨_, rfl, by first | exact BLe.rf | exact ble_eq (by rw [hno]; first | done | rfl)⟩, ⟨_, rfl, by first | exact BLe.rf | exact ble_eq (by rw [hno]; first | done | rfl)⟩, ⟨_, rfl, by first | exact BLe.rf | (refine BLe.arr ?_; rw [hno]; first | done | rfl)⟩, trivial⟩, ⟨⟨rfl, .inl nofun, fun _ _ => ⟨_, rfl⟩⟩, trivial⟩, rfl⟩⟩
     try simp only [tdy] at h88
     have hlt := next_le (op_lt (tk := tk) (e := e) (st := (termP tk e false st).2) (by rw [ho2]; omega))
     have hlt2 : (termP tk e false st).2.i < tk.length := hlt
     have hno := litI_cmp hnt hop (by rw [ho2]; omega)
     rw [ho2] at hno
     refine AW_condF rfl ?_
     refine AW_skip ?_
     refine AW_seq ?_
     refine AW_region ?_
     refine AL_p (x_move rfl rfl) ?_
     refine AL_p (x_nilc rfl rfl rfl) ?_
     refine AL_p (x_field (off := 1) (o' := 1) rfl rfl rfl (by kernel_rfl) rfl) ?_
     refine AL_p (x_load1 rfl rfl rfl (by kernel_rfl) rfl) ?_
     refine AL_p (x_add rfl rfl rfl (IntWalk.i64_in _ (by omega))) ?_
     refine AL_p (x_nilc rfl rfl rfl) ?_
     refine AL_p (x_field (off := 1) (o' := 1) rfl rfl rfl (by kernel_rfl) rfl) ?_
     refine AL_p (x_store (n := 1) rfl rfl rfl rfl (by kernel_rfl) rfl rfl rfl) ?_
     refine AL_nil ?_
     refine AW_seq ?_
     refine AW_region ?_
     refine AL_p (x_move rfl rfl) ?_
     refine AL_p (x_call (ks := []) (L := [(200, some _)]) (L' := [(200, some _)]) rfl rfl rfl (pTerm_c tk e (termP tk e false st).2.next hm hlt) rfl AllV.rf (caught_of rfl) rfl rfl rfl ⟨rfl, trivial⟩ rfl) ?_
     refine AL_p (x_field (off := 7) (o' := 7) rfl rfl rfl (by kernel_rfl) rfl) ?_
     refine AL_p (x_store (n := 3) rfl rfl rfl rfl (by kernel_rfl) rfl rfl rfl) ?_
     refine AL_nil ?_
     refine AW_seq ?_
     refine AW_region ?_
     refine AL_p (x_loadN (n := 10) rfl rfl rfl (by kernel_rfl) rfl rfl) ?_
     refine AL_p (x_store (n := 10) rfl rfl rfl rfl (by kernel_rfl) rfl rfl rfl) ?_
     refine AL_nil ?_
     refine AW_adopt (T := 70) (e := termE) 105 100 2 rfl rfl rfl rfl rfl ?_
     refine AW_ret ?_
     exact ⟨rn [(9, 100), (0, 105)], ⟨⟨⟨_, rfl, VLe.rf⟩, trivial⟩, ⟨⟨_, rfl, by first | exact BLe.rf | exact ble_eq (by rw [hno]; first | done | rfl)⟩, ⟨_, rfl, by first | exact BLe.rf | exact ble_eq (by rw [hno]; first | done | rfl)⟩, ⟨_, rfl, by first | exact BLe.rf | (refine BLe.arr ?_; rw [hno]; first | done | rfl)⟩, trivial⟩, ⟨⟨rfl, .inl nofun, fun _ _ => ⟨_, rfl⟩⟩, trivial⟩, rfl⟩⟩
   try simp only [tdy] at h26
   refine AL_g rfl rfl (x_move rfl rfl) ?_
   refine AL_g rfl rfl (x_nilc rfl rfl rfl) ?_
   refine AL_g rfl rfl (x_field (off := 1) (o' := 1) rfl rfl rfl (by kernel_rfl) rfl) ?_
   refine AL_g rfl rfl (x_load1 rfl rfl rfl (by kernel_rfl) rfl) ?_
   refine AL_g rfl rfl (x_add rfl rfl rfl (IntWalk.i64_in _ (by omega))) ?_
   refine AL_g rfl rfl (x_move rfl rfl) ?_
   refine AL_g rfl rfl (x_nilc rfl rfl rfl) ?_
   refine AL_g rfl rfl (x_field (off := 0) (o' := 0) rfl rfl rfl (by kernel_rfl) rfl) ?_
   refine AL_g rfl rfl (x_load1 rfl rfl rfl (by kernel_rfl) rfl) ?_
   refine AL_g rfl rfl (x_len (E := 83) (n := 4) rfl rfl (by kernel_rfl)) ?_
   refine AL_gb rfl rfl (x_lss rfl rfl rfl) (fun b38 h38 => ?_)
   refine AL_p (x_pickT rfl rfl rfl) ?_
   refine AL_p (x_move rfl rfl) ?_
   cases b38
   · try simp only [tdy] at h38
     have hop := open_end h26 (by omega)
     refine AL_o rfl rfl rfl rfl ?_
     refine AL_o rfl rfl rfl rfl ?_
     refine AL_o rfl rfl rfl rfl ?_
     refine AL_o rfl rfl rfl rfl ?_
     refine AL_o rfl rfl rfl rfl ?_
     refine AL_o rfl rfl rfl rfl ?_
     refine AL_o rfl rfl rfl rfl ?_
     refine AL_o rfl rfl rfl rfl ?_
     refine AL_o rfl rfl rfl rfl ?_
     refine AL_o rfl rfl rfl rfl ?_
     refine AL_o rfl rfl rfl rfl ?_
     refine AL_o rfl rfl rfl rfl ?_
     refine AL_o rfl rfl rfl rfl ?_
     refine AL_p (x_pickF rfl rfl rfl) ?_
     refine AL_p (x_move rfl rfl) ?_
     refine AL_o rfl rfl rfl rfl ?_
     refine AL_o rfl rfl rfl rfl ?_
     refine AL_o rfl rfl rfl rfl ?_
     refine AL_o rfl rfl rfl rfl ?_
     refine AL_o rfl rfl rfl rfl ?_
     refine AL_o rfl rfl rfl rfl ?_
     refine AL_o rfl rfl rfl rfl ?_
     refine AL_o rfl rfl rfl rfl ?_
     refine AL_o rfl rfl rfl rfl ?_
     refine AL_o rfl rfl rfl rfl ?_
     refine AL_o rfl rfl rfl rfl ?_
     refine AL_o rfl rfl rfl rfl ?_
     refine AL_o rfl rfl rfl rfl ?_
     refine AL_p (x_pickF rfl rfl rfl) ?_
     refine AL_nild (by kernel_rfl) ?_
     refine AW_condF rfl ?_
     refine AW_skip ?_
     refine AW_seq ?_
     refine AW_region ?_
     refine AL_p (x_build (zs := [.int .i64 0, .string ⟨#[]⟩, .slice none 0 0, .int .i64 0, .string ⟨#[]⟩, .int .i64 0, .string ⟨#[]⟩, .string ⟨#[]⟩, .int .i64 0, .string ⟨#[]⟩]) (places := [(0, 1), (1, 2), (3, 1), (4, 3), (7, 3)]) rfl (by kernel_rfl) rfl rfl rfl rfl rfl) ?_
     refine AL_p (x_alloc (z := .agg #[.int .i64 0, .string ⟨#[]⟩, .slice none 0 0, .int .i64 0, .string ⟨#[]⟩, .int .i64 0, .string ⟨#[]⟩, .string ⟨#[]⟩, .int .i64 0, .string ⟨#[]⟩]) 104 rfl (by kernel_rfl) rfl rfl rfl rfl) ?_
     refine AL_p (x_store (n := 10) rfl rfl rfl rfl (by kernel_rfl) rfl rfl rfl) ?_
     refine AL_nil ?_
     refine AW_seq ?_
     refine AW_region ?_
     refine AL_p (x_move rfl rfl) ?_
     refine AL_p (x_call (ks := []) (L := [(200, some _)]) (L' := [(200, some _)]) rfl rfl rfl (pTerm_c tk e st hm hi) rfl AllV.rf (caught_of rfl) rfl rfl rfl ⟨rfl, trivial⟩ rfl) ?_
     refine AL_p (x_field (off := 4) (o' := 4) rfl rfl rfl (by kernel_rfl) rfl) ?_
     refine AL_p (x_store (n := 3) rfl rfl rfl rfl (by kernel_rfl) rfl rfl rfl) ?_
     refine AL_nil ?_
     refine AW_seq ?_
     refine AW_region ?_
     refine AL_p (x_move rfl rfl) ?_
     refine AL_p (x_call (ks := []) (L := [(200, some _)]) (L' := [(200, some _)]) rfl rfl rfl (pHere_c tk e (termP tk e false st).2 hm (term_le hi)) rfl AllV.rf (caught_of rfl) rfl rfl rfl ⟨rfl, trivial⟩ rfl) ?_
     refine AL_p (x_store (n := 4) rfl rfl rfl rfl (by kernel_rfl) rfl rfl rfl) ?_
     refine AL_nil ?_
     refine AW_seq ?_
     refine AW_seq ?_
     refine AW_region ?_
     refine AL_p (x_field (off := 0) (o' := 0) rfl rfl rfl (by kernel_rfl) rfl) ?_
     refine AL_p (x_load1 rfl rfl rfl (by kernel_rfl) rfl) ?_
     refine AL_b (x_eql rfl rfl rfl) (fun b81 h81 => ?_)
     refine AL_nil ?_
     cases b81
     · try simp only [tdy] at h81
       have ho2 : opI (hereT tk e (termP tk e false st).2) = _ := if_neg h81
       refine AW_condF rfl ?_
       refine AW_skip ?_
       refine AW_seq ?_
       refine AW_seq ?_
       refine AW_region ?_
       refine AL_p (x_field (off := 3) (o' := 3) rfl rfl rfl (by kernel_rfl) rfl) ?_
       refine AL_p (x_load1 rfl rfl rfl (by kernel_rfl) rfl) ?_
       refine AL_b (x_lss rfl rfl rfl) (fun b88 h88 => ?_)
       refine AL_nil ?_
       cases b88
       rotate_left
       · try simp only [tdy] at h88
         have hno := litI_bad hnt hop (by rw [ho2]; omega)
         rw [ho2] at hno
         refine AW_condT rfl ?_
         refine AW_seq ?_
         refine AW_region ?_
         refine AL_p (x_move rfl rfl) ?_
         refine AL_p (x_call (ks := []) (L := [(200, some _)]) (L' := [(200, some _)]) rfl rfl rfl (pFail_c tk e (termP tk e false st).2 hm (term_le hi) 6) rfl AllV.rf (caught_of rfl) rfl rfl rfl ⟨rfl, trivial⟩ rfl) ?_
         refine AL_nil ?_
         refine AW_seq ?_
         refine AW_region ?_
         refine AL_p (x_loadN (n := 10) rfl rfl rfl (by kernel_rfl) rfl rfl) ?_
         refine AL_p (x_store (n := 10) rfl rfl rfl rfl (by kernel_rfl) rfl rfl rfl) ?_
         refine AL_nil ?_
         refine AW_adopt (T := 70) (e := termE) 105 100 2 rfl rfl rfl rfl rfl ?_
         refine AW_ret ?_
         exact ⟨rn [(9, 100), (0, 105)], ⟨⟨⟨_, rfl, VLe.rf⟩, trivial⟩, ⟨⟨_, rfl, by first | exact BLe.rf | exact ble_eq (by rw [hno]; first | done | rfl)⟩, ⟨_, rfl, by first | exact BLe.rf | exact ble_eq (by rw [hno]; first | done | rfl)⟩, ⟨_, rfl, by first | exact BLe.rf | (refine BLe.arr ?_; rw [hno]; first | done | rfl)⟩, trivial⟩, ⟨⟨rfl, .inl nofun, fun _ _ => ⟨_, rfl⟩⟩, trivial⟩, rfl⟩⟩
       try simp only [tdy] at h88
       have hlt := next_le (op_lt (tk := tk) (e := e) (st := (termP tk e false st).2) (by rw [ho2]; omega))
       have hlt2 : (termP tk e false st).2.i < tk.length := hlt
       have hno := litI_cmp hnt hop (by rw [ho2]; omega)
       rw [ho2] at hno
       refine AW_condF rfl ?_
       refine AW_skip ?_
       refine AW_seq ?_
       refine AW_region ?_
       refine AL_p (x_move rfl rfl) ?_
       refine AL_p (x_nilc rfl rfl rfl) ?_
       refine AL_p (x_field (off := 1) (o' := 1) rfl rfl rfl (by kernel_rfl) rfl) ?_
       refine AL_p (x_load1 rfl rfl rfl (by kernel_rfl) rfl) ?_
       refine AL_p (x_add rfl rfl rfl (IntWalk.i64_in _ (by omega))) ?_
       refine AL_p (x_nilc rfl rfl rfl) ?_
       refine AL_p (x_field (off := 1) (o' := 1) rfl rfl rfl (by kernel_rfl) rfl) ?_
       refine AL_p (x_store (n := 1) rfl rfl rfl rfl (by kernel_rfl) rfl rfl rfl) ?_
       refine AL_nil ?_
       refine AW_seq ?_
       refine AW_region ?_
       refine AL_p (x_move rfl rfl) ?_
       refine AL_p (x_call (ks := []) (L := [(200, some _)]) (L' := [(200, some _)]) rfl rfl rfl (pTerm_c tk e (termP tk e false st).2.next hm hlt) rfl AllV.rf (caught_of rfl) rfl rfl rfl ⟨rfl, trivial⟩ rfl) ?_
       refine AL_p (x_field (off := 7) (o' := 7) rfl rfl rfl (by kernel_rfl) rfl) ?_
       refine AL_p (x_store (n := 3) rfl rfl rfl rfl (by kernel_rfl) rfl rfl rfl) ?_
       refine AL_nil ?_
       refine AW_seq ?_
       refine AW_region ?_
       refine AL_p (x_loadN (n := 10) rfl rfl rfl (by kernel_rfl) rfl rfl) ?_
       refine AL_p (x_store (n := 10) rfl rfl rfl rfl (by kernel_rfl) rfl rfl rfl) ?_
       refine AL_nil ?_
       refine AW_adopt (T := 70) (e := termE) 105 100 2 rfl rfl rfl rfl rfl ?_
       refine AW_ret ?_
       exact ⟨rn [(9, 100), (0, 105)], ⟨⟨⟨_, rfl, VLe.rf⟩, trivial⟩, ⟨⟨_, rfl, by first | exact BLe.rf | exact ble_eq (by rw [hno]; first | done | rfl)⟩, ⟨_, rfl, by first | exact BLe.rf | exact ble_eq (by rw [hno]; first | done | rfl)⟩, ⟨_, rfl, by first | exact BLe.rf | (refine BLe.arr ?_; rw [hno]; first | done | rfl)⟩, trivial⟩, ⟨⟨rfl, .inl nofun, fun _ _ => ⟨_, rfl⟩⟩, trivial⟩, rfl⟩⟩
     try simp only [tdy] at h81
     have ho2 : opI (hereT tk e (termP tk e false st).2) = _ := if_pos h81
     refine AW_condT rfl ?_
     refine AW_region ?_
     refine AL_p (x_field (off := 2) (o' := 2) rfl rfl rfl (by kernel_rfl) rfl) ?_
     refine AL_p (x_load1 rfl rfl rfl (by kernel_rfl) rfl) ?_
     refine AL_p (x_call0 rfl rfl rfl (pOpOf_c _) rfl rfl) ?_
     refine AL_p (x_field (off := 3) (o' := 3) rfl rfl rfl (by kernel_rfl) rfl) ?_
     refine AL_p (x_store (n := 1) rfl rfl rfl rfl (by kernel_rfl) rfl rfl rfl) ?_
     refine AL_nil ?_
     refine AW_seq ?_
     refine AW_seq ?_
     refine AW_region ?_
     refine AL_p (x_field (off := 3) (o' := 3) rfl rfl rfl (by kernel_rfl) rfl) ?_
     refine AL_p (x_load1 rfl rfl rfl (by kernel_rfl) rfl) ?_
     refine AL_b (x_lss rfl rfl rfl) (fun b88 h88 => ?_)
     refine AL_nil ?_
     cases b88
     rotate_left
     · try simp only [tdy] at h88
       have hno := litI_bad hnt hop (by rw [ho2]; omega)
       rw [ho2] at hno
       refine AW_condT rfl ?_
       refine AW_seq ?_
       refine AW_region ?_
       refine AL_p (x_move rfl rfl) ?_
       refine AL_p (x_call (ks := []) (L := [(200, some _)]) (L' := [(200, some _)]) rfl rfl rfl (pFail_c tk e (termP tk e false st).2 hm (term_le hi) 6) rfl AllV.rf (caught_of rfl) rfl rfl rfl ⟨rfl, trivial⟩ rfl) ?_
       refine AL_nil ?_
       refine AW_seq ?_
       refine AW_region ?_
       refine AL_p (x_loadN (n := 10) rfl rfl rfl (by kernel_rfl) rfl rfl) ?_
       refine AL_p (x_store (n := 10) rfl rfl rfl rfl (by kernel_rfl) rfl rfl rfl) ?_
       refine AL_nil ?_
       refine AW_adopt (T := 70) (e := termE) 105 100 2 rfl rfl rfl rfl rfl ?_
       refine AW_ret ?_
       exact ⟨rn [(9, 100), (0, 105)], ⟨⟨⟨_, rfl, VLe.rf⟩, trivial⟩, ⟨⟨_, rfl, by first | exact BLe.rf | exact ble_eq (by rw [hno]; first | done | rfl)⟩, ⟨_, rfl, by first | exact BLe.rf | exact ble_eq (by rw [hno]; first | done | rfl)⟩, ⟨_, rfl, by first | exact BLe.rf | (refine BLe.arr ?_; rw [hno]; first | done | rfl)⟩, trivial⟩, ⟨⟨rfl, .inl nofun, fun _ _ => ⟨_, rfl⟩⟩, trivial⟩, rfl⟩⟩
     try simp only [tdy] at h88
     have hlt := next_le (op_lt (tk := tk) (e := e) (st := (termP tk e false st).2) (by rw [ho2]; omega))
     have hlt2 : (termP tk e false st).2.i < tk.length := hlt
     have hno := litI_cmp hnt hop (by rw [ho2]; omega)
     rw [ho2] at hno
     refine AW_condF rfl ?_
     refine AW_skip ?_
     refine AW_seq ?_
     refine AW_region ?_
     refine AL_p (x_move rfl rfl) ?_
     refine AL_p (x_nilc rfl rfl rfl) ?_
     refine AL_p (x_field (off := 1) (o' := 1) rfl rfl rfl (by kernel_rfl) rfl) ?_
     refine AL_p (x_load1 rfl rfl rfl (by kernel_rfl) rfl) ?_
     refine AL_p (x_add rfl rfl rfl (IntWalk.i64_in _ (by omega))) ?_
     refine AL_p (x_nilc rfl rfl rfl) ?_
     refine AL_p (x_field (off := 1) (o' := 1) rfl rfl rfl (by kernel_rfl) rfl) ?_
     refine AL_p (x_store (n := 1) rfl rfl rfl rfl (by kernel_rfl) rfl rfl rfl) ?_
     refine AL_nil ?_
     refine AW_seq ?_
     refine AW_region ?_
     refine AL_p (x_move rfl rfl) ?_
     refine AL_p (x_call (ks := []) (L := [(200, some _)]) (L' := [(200, some _)]) rfl rfl rfl (pTerm_c tk e (termP tk e false st).2.next hm hlt) rfl AllV.rf (caught_of rfl) rfl rfl rfl ⟨rfl, trivial⟩ rfl) ?_
     refine AL_p (x_field (off := 7) (o' := 7) rfl rfl rfl (by kernel_rfl) rfl) ?_
     refine AL_p (x_store (n := 3) rfl rfl rfl rfl (by kernel_rfl) rfl rfl rfl) ?_
     refine AL_nil ?_
     refine AW_seq ?_
     refine AW_region ?_
     refine AL_p (x_loadN (n := 10) rfl rfl rfl (by kernel_rfl) rfl rfl) ?_
     refine AL_p (x_store (n := 10) rfl rfl rfl rfl (by kernel_rfl) rfl rfl rfl) ?_
     refine AL_nil ?_
     refine AW_adopt (T := 70) (e := termE) 105 100 2 rfl rfl rfl rfl rfl ?_
     refine AW_ret ?_
     exact ⟨rn [(9, 100), (0, 105)], ⟨⟨⟨_, rfl, VLe.rf⟩, trivial⟩, ⟨⟨_, rfl, by first | exact BLe.rf | exact ble_eq (by rw [hno]; first | done | rfl)⟩, ⟨_, rfl, by first | exact BLe.rf | exact ble_eq (by rw [hno]; first | done | rfl)⟩, ⟨_, rfl, by first | exact BLe.rf | (refine BLe.arr ?_; rw [hno]; first | done | rfl)⟩, trivial⟩, ⟨⟨rfl, .inl nofun, fun _ _ => ⟨_, rfl⟩⟩, trivial⟩, rfl⟩⟩
   try simp only [tdy] at h38
   refine AL_g rfl rfl (x_move rfl rfl) ?_
   refine AL_g rfl rfl (x_nilc rfl rfl rfl) ?_
   refine AL_g rfl rfl (x_field (off := 0) (o' := 0) rfl rfl rfl (by kernel_rfl) rfl) ?_
   refine AL_g rfl rfl (x_load1 rfl rfl rfl (by kernel_rfl) rfl) ?_
   refine AL_g rfl rfl (x_move rfl rfl) ?_
   refine AL_g rfl rfl (x_nilc rfl rfl rfl) ?_
   refine AL_g rfl rfl (x_field (off := 1) (o' := 1) rfl rfl rfl (by kernel_rfl) rfl) ?_
   refine AL_g rfl rfl (x_load1 rfl rfl rfl (by kernel_rfl) rfl) ?_
   refine AL_g rfl rfl (x_add rfl rfl rfl (IntWalk.i64_in _ (by omega))) ?_
   refine AL_g rfl rfl (x_index (E := 83) (n := 4) rfl rfl rfl (by kernel_rfl) rfl (k := st.i + 1) (by omega) (by omega)) ?_
   refine AL_g rfl rfl (x_efield (off := 0) (o' := 0) rfl rfl (by kernel_rfl) rfl) ?_
   refine AL_g rfl rfl (x_eload1 rfl rfl (by kernel_rfl) rfl) ?_
   refine AL_gb rfl rfl (x_eql rfl rfl rfl) (fun b53 h53 => ?_)
   refine AL_p (x_pickT rfl rfl rfl) ?_
   refine AL_p (x_move rfl rfl) ?_
   cases b53
   · try simp only [tdy] at h53
     have hop : openT tk e st = false := (open_at h26 (by omega)).trans (by simp [signT, h53])
     refine AL_o rfl rfl rfl rfl ?_
     refine AL_o rfl rfl rfl rfl ?_
     refine AL_o rfl rfl rfl rfl ?_
     refine AL_o rfl rfl rfl rfl ?_
     refine AL_o rfl rfl rfl rfl ?_
     refine AL_o rfl rfl rfl rfl ?_
     refine AL_o rfl rfl rfl rfl ?_
     refine AL_o rfl rfl rfl rfl ?_
     refine AL_o rfl rfl rfl rfl ?_
     refine AL_o rfl rfl rfl rfl ?_
     refine AL_o rfl rfl rfl rfl ?_
     refine AL_o rfl rfl rfl rfl ?_
     refine AL_o rfl rfl rfl rfl ?_
     refine AL_p (x_pickF rfl rfl rfl) ?_
     refine AL_nild (by kernel_rfl) ?_
     refine AW_condF rfl ?_
     refine AW_skip ?_
     refine AW_seq ?_
     refine AW_region ?_
     refine AL_p (x_build (zs := [.int .i64 0, .string ⟨#[]⟩, .slice none 0 0, .int .i64 0, .string ⟨#[]⟩, .int .i64 0, .string ⟨#[]⟩, .string ⟨#[]⟩, .int .i64 0, .string ⟨#[]⟩]) (places := [(0, 1), (1, 2), (3, 1), (4, 3), (7, 3)]) rfl (by kernel_rfl) rfl rfl rfl rfl rfl) ?_
     refine AL_p (x_alloc (z := .agg #[.int .i64 0, .string ⟨#[]⟩, .slice none 0 0, .int .i64 0, .string ⟨#[]⟩, .int .i64 0, .string ⟨#[]⟩, .string ⟨#[]⟩, .int .i64 0, .string ⟨#[]⟩]) 104 rfl (by kernel_rfl) rfl rfl rfl rfl) ?_
     refine AL_p (x_store (n := 10) rfl rfl rfl rfl (by kernel_rfl) rfl rfl rfl) ?_
     refine AL_nil ?_
     refine AW_seq ?_
     refine AW_region ?_
     refine AL_p (x_move rfl rfl) ?_
     refine AL_p (x_call (ks := []) (L := [(200, some _)]) (L' := [(200, some _)]) rfl rfl rfl (pTerm_c tk e st hm hi) rfl AllV.rf (caught_of rfl) rfl rfl rfl ⟨rfl, trivial⟩ rfl) ?_
     refine AL_p (x_field (off := 4) (o' := 4) rfl rfl rfl (by kernel_rfl) rfl) ?_
     refine AL_p (x_store (n := 3) rfl rfl rfl rfl (by kernel_rfl) rfl rfl rfl) ?_
     refine AL_nil ?_
     refine AW_seq ?_
     refine AW_region ?_
     refine AL_p (x_move rfl rfl) ?_
     refine AL_p (x_call (ks := []) (L := [(200, some _)]) (L' := [(200, some _)]) rfl rfl rfl (pHere_c tk e (termP tk e false st).2 hm (term_le hi)) rfl AllV.rf (caught_of rfl) rfl rfl rfl ⟨rfl, trivial⟩ rfl) ?_
     refine AL_p (x_store (n := 4) rfl rfl rfl rfl (by kernel_rfl) rfl rfl rfl) ?_
     refine AL_nil ?_
     refine AW_seq ?_
     refine AW_seq ?_
     refine AW_region ?_
     refine AL_p (x_field (off := 0) (o' := 0) rfl rfl rfl (by kernel_rfl) rfl) ?_
     refine AL_p (x_load1 rfl rfl rfl (by kernel_rfl) rfl) ?_
     refine AL_b (x_eql rfl rfl rfl) (fun b81 h81 => ?_)
     refine AL_nil ?_
     cases b81
     · try simp only [tdy] at h81
       have ho2 : opI (hereT tk e (termP tk e false st).2) = _ := if_neg h81
       refine AW_condF rfl ?_
       refine AW_skip ?_
       refine AW_seq ?_
       refine AW_seq ?_
       refine AW_region ?_
       refine AL_p (x_field (off := 3) (o' := 3) rfl rfl rfl (by kernel_rfl) rfl) ?_
       refine AL_p (x_load1 rfl rfl rfl (by kernel_rfl) rfl) ?_
       refine AL_b (x_lss rfl rfl rfl) (fun b88 h88 => ?_)
       refine AL_nil ?_
       cases b88
       rotate_left
       · try simp only [tdy] at h88
         have hno := litI_bad hnt hop (by rw [ho2]; omega)
         rw [ho2] at hno
         refine AW_condT rfl ?_
         refine AW_seq ?_
         refine AW_region ?_
         refine AL_p (x_move rfl rfl) ?_
         refine AL_p (x_call (ks := []) (L := [(200, some _)]) (L' := [(200, some _)]) rfl rfl rfl (pFail_c tk e (termP tk e false st).2 hm (term_le hi) 6) rfl AllV.rf (caught_of rfl) rfl rfl rfl ⟨rfl, trivial⟩ rfl) ?_
         refine AL_nil ?_
         refine AW_seq ?_
         refine AW_region ?_
         refine AL_p (x_loadN (n := 10) rfl rfl rfl (by kernel_rfl) rfl rfl) ?_
         refine AL_p (x_store (n := 10) rfl rfl rfl rfl (by kernel_rfl) rfl rfl rfl) ?_
         refine AL_nil ?_
         refine AW_adopt (T := 70) (e := termE) 105 100 2 rfl rfl rfl rfl rfl ?_
         refine AW_ret ?_
         exact ⟨rn [(9, 100), (0, 105)], ⟨⟨⟨_, rfl, VLe.rf⟩, trivial⟩, ⟨⟨_, rfl, by first | exact BLe.rf | exact ble_eq (by rw [hno]; first | done | rfl)⟩, ⟨_, rfl, by first | exact BLe.rf | exact ble_eq (by rw [hno]; first | done | rfl)⟩, ⟨_, rfl, by first | exact BLe.rf | (refine BLe.arr ?_; rw [hno]; first | done | rfl)⟩, trivial⟩, ⟨⟨rfl, .inl nofun, fun _ _ => ⟨_, rfl⟩⟩, trivial⟩, rfl⟩⟩
       try simp only [tdy] at h88
       have hlt := next_le (op_lt (tk := tk) (e := e) (st := (termP tk e false st).2) (by rw [ho2]; omega))
       have hlt2 : (termP tk e false st).2.i < tk.length := hlt
       have hno := litI_cmp hnt hop (by rw [ho2]; omega)
       rw [ho2] at hno
       refine AW_condF rfl ?_
       refine AW_skip ?_
       refine AW_seq ?_
       refine AW_region ?_
       refine AL_p (x_move rfl rfl) ?_
       refine AL_p (x_nilc rfl rfl rfl) ?_
       refine AL_p (x_field (off := 1) (o' := 1) rfl rfl rfl (by kernel_rfl) rfl) ?_
       refine AL_p (x_load1 rfl rfl rfl (by kernel_rfl) rfl) ?_
       refine AL_p (x_add rfl rfl rfl (IntWalk.i64_in _ (by omega))) ?_
       refine AL_p (x_nilc rfl rfl rfl) ?_
       refine AL_p (x_field (off := 1) (o' := 1) rfl rfl rfl (by kernel_rfl) rfl) ?_
       refine AL_p (x_store (n := 1) rfl rfl rfl rfl (by kernel_rfl) rfl rfl rfl) ?_
       refine AL_nil ?_
       refine AW_seq ?_
       refine AW_region ?_
       refine AL_p (x_move rfl rfl) ?_
       refine AL_p (x_call (ks := []) (L := [(200, some _)]) (L' := [(200, some _)]) rfl rfl rfl (pTerm_c tk e (termP tk e false st).2.next hm hlt) rfl AllV.rf (caught_of rfl) rfl rfl rfl ⟨rfl, trivial⟩ rfl) ?_
       refine AL_p (x_field (off := 7) (o' := 7) rfl rfl rfl (by kernel_rfl) rfl) ?_
       refine AL_p (x_store (n := 3) rfl rfl rfl rfl (by kernel_rfl) rfl rfl rfl) ?_
       refine AL_nil ?_
       refine AW_seq ?_
       refine AW_region ?_
       refine AL_p (x_loadN (n := 10) rfl rfl rfl (by kernel_rfl) rfl rfl) ?_
       refine AL_p (x_store (n := 10) rfl rfl rfl rfl (by kernel_rfl) rfl rfl rfl) ?_
       refine AL_nil ?_
       refine AW_adopt (T := 70) (e := termE) 105 100 2 rfl rfl rfl rfl rfl ?_
       refine AW_ret ?_
       exact ⟨rn [(9, 100), (0, 105)], ⟨⟨⟨_, rfl, VLe.rf⟩, trivial⟩, ⟨⟨_, rfl, by first | exact BLe.rf | exact ble_eq (by rw [hno]; first | done | rfl)⟩, ⟨_, rfl, by first | exact BLe.rf | exact ble_eq (by rw [hno]; first | done | rfl)⟩, ⟨_, rfl, by first | exact BLe.rf | (refine BLe.arr ?_; rw [hno]; first | done | rfl)⟩, trivial⟩, ⟨⟨rfl, .inl nofun, fun _ _ => ⟨_, rfl⟩⟩, trivial⟩, rfl⟩⟩
     try simp only [tdy] at h81
     have ho2 : opI (hereT tk e (termP tk e false st).2) = _ := if_pos h81
     refine AW_condT rfl ?_
     refine AW_region ?_
     refine AL_p (x_field (off := 2) (o' := 2) rfl rfl rfl (by kernel_rfl) rfl) ?_
     refine AL_p (x_load1 rfl rfl rfl (by kernel_rfl) rfl) ?_
     refine AL_p (x_call0 rfl rfl rfl (pOpOf_c _) rfl rfl) ?_
     refine AL_p (x_field (off := 3) (o' := 3) rfl rfl rfl (by kernel_rfl) rfl) ?_
     refine AL_p (x_store (n := 1) rfl rfl rfl rfl (by kernel_rfl) rfl rfl rfl) ?_
     refine AL_nil ?_
     refine AW_seq ?_
     refine AW_seq ?_
     refine AW_region ?_
     refine AL_p (x_field (off := 3) (o' := 3) rfl rfl rfl (by kernel_rfl) rfl) ?_
     refine AL_p (x_load1 rfl rfl rfl (by kernel_rfl) rfl) ?_
     refine AL_b (x_lss rfl rfl rfl) (fun b88 h88 => ?_)
     refine AL_nil ?_
     cases b88
     rotate_left
     · try simp only [tdy] at h88
       have hno := litI_bad hnt hop (by rw [ho2]; omega)
       rw [ho2] at hno
       refine AW_condT rfl ?_
       refine AW_seq ?_
       refine AW_region ?_
       refine AL_p (x_move rfl rfl) ?_
       refine AL_p (x_call (ks := []) (L := [(200, some _)]) (L' := [(200, some _)]) rfl rfl rfl (pFail_c tk e (termP tk e false st).2 hm (term_le hi) 6) rfl AllV.rf (caught_of rfl) rfl rfl rfl ⟨rfl, trivial⟩ rfl) ?_
       refine AL_nil ?_
       refine AW_seq ?_
       refine AW_region ?_
       refine AL_p (x_loadN (n := 10) rfl rfl rfl (by kernel_rfl) rfl rfl) ?_
       refine AL_p (x_store (n := 10) rfl rfl rfl rfl (by kernel_rfl) rfl rfl rfl) ?_
       refine AL_nil ?_
       refine AW_adopt (T := 70) (e := termE) 105 100 2 rfl rfl rfl rfl rfl ?_
       refine AW_ret ?_
       exact ⟨rn [(9, 100), (0, 105)], ⟨⟨⟨_, rfl, VLe.rf⟩, trivial⟩, ⟨⟨_, rfl, by first | exact BLe.rf | exact ble_eq (by rw [hno]; first | done | rfl)⟩, ⟨_, rfl, by first | exact BLe.rf | exact ble_eq (by rw [hno]; first | done | rfl)⟩, ⟨_, rfl, by first | exact BLe.rf | (refine BLe.arr ?_; rw [hno]; first | done | rfl)⟩, trivial⟩, ⟨⟨rfl, .inl nofun, fun _ _ => ⟨_, rfl⟩⟩, trivial⟩, rfl⟩⟩
     try simp only [tdy] at h88
     have hlt := next_le (op_lt (tk := tk) (e := e) (st := (termP tk e false st).2) (by rw [ho2]; omega))
     have hlt2 : (termP tk e false st).2.i < tk.length := hlt
     have hno := litI_cmp hnt hop (by rw [ho2]; omega)
     rw [ho2] at hno
     refine AW_condF rfl ?_
     refine AW_skip ?_
     refine AW_seq ?_
     refine AW_region ?_
     refine AL_p (x_move rfl rfl) ?_
     refine AL_p (x_nilc rfl rfl rfl) ?_
     refine AL_p (x_field (off := 1) (o' := 1) rfl rfl rfl (by kernel_rfl) rfl) ?_
     refine AL_p (x_load1 rfl rfl rfl (by kernel_rfl) rfl) ?_
     refine AL_p (x_add rfl rfl rfl (IntWalk.i64_in _ (by omega))) ?_
     refine AL_p (x_nilc rfl rfl rfl) ?_
     refine AL_p (x_field (off := 1) (o' := 1) rfl rfl rfl (by kernel_rfl) rfl) ?_
     refine AL_p (x_store (n := 1) rfl rfl rfl rfl (by kernel_rfl) rfl rfl rfl) ?_
     refine AL_nil ?_
     refine AW_seq ?_
     refine AW_region ?_
     refine AL_p (x_move rfl rfl) ?_
     refine AL_p (x_call (ks := []) (L := [(200, some _)]) (L' := [(200, some _)]) rfl rfl rfl (pTerm_c tk e (termP tk e false st).2.next hm hlt) rfl AllV.rf (caught_of rfl) rfl rfl rfl ⟨rfl, trivial⟩ rfl) ?_
     refine AL_p (x_field (off := 7) (o' := 7) rfl rfl rfl (by kernel_rfl) rfl) ?_
     refine AL_p (x_store (n := 3) rfl rfl rfl rfl (by kernel_rfl) rfl rfl rfl) ?_
     refine AL_nil ?_
     refine AW_seq ?_
     refine AW_region ?_
     refine AL_p (x_loadN (n := 10) rfl rfl rfl (by kernel_rfl) rfl rfl) ?_
     refine AL_p (x_store (n := 10) rfl rfl rfl rfl (by kernel_rfl) rfl rfl rfl) ?_
     refine AL_nil ?_
     refine AW_adopt (T := 70) (e := termE) 105 100 2 rfl rfl rfl rfl rfl ?_
     refine AW_ret ?_
     exact ⟨rn [(9, 100), (0, 105)], ⟨⟨⟨_, rfl, VLe.rf⟩, trivial⟩, ⟨⟨_, rfl, by first | exact BLe.rf | exact ble_eq (by rw [hno]; first | done | rfl)⟩, ⟨_, rfl, by first | exact BLe.rf | exact ble_eq (by rw [hno]; first | done | rfl)⟩, ⟨_, rfl, by first | exact BLe.rf | (refine BLe.arr ?_; rw [hno]; first | done | rfl)⟩, trivial⟩, ⟨⟨rfl, .inl nofun, fun _ _ => ⟨_, rfl⟩⟩, trivial⟩, rfl⟩⟩
   try simp only [tdy] at h53
   refine AL_g rfl rfl (x_move rfl rfl) ?_
   refine AL_g rfl rfl (x_nilc rfl rfl rfl) ?_
   refine AL_g rfl rfl (x_field (off := 0) (o' := 0) rfl rfl rfl (by kernel_rfl) rfl) ?_
   refine AL_g rfl rfl (x_load1 rfl rfl rfl (by kernel_rfl) rfl) ?_
   refine AL_g rfl rfl (x_move rfl rfl) ?_
   refine AL_g rfl rfl (x_nilc rfl rfl rfl) ?_
   refine AL_g rfl rfl (x_field (off := 1) (o' := 1) rfl rfl rfl (by kernel_rfl) rfl) ?_
   refine AL_g rfl rfl (x_load1 rfl rfl rfl (by kernel_rfl) rfl) ?_
   refine AL_g rfl rfl (x_add rfl rfl rfl (IntWalk.i64_in _ (by omega))) ?_
   refine AL_g rfl rfl (x_index (E := 83) (n := 4) rfl rfl rfl (by kernel_rfl) rfl (k := st.i + 1) (by omega) (by omega)) ?_
   refine AL_g rfl rfl (x_efield (off := 2) (o' := 2) rfl rfl (by kernel_rfl) rfl) ?_
   refine AL_g rfl rfl (x_eload1 rfl rfl (by kernel_rfl) rfl) ?_
   refine AL_gb rfl rfl (x_seql rfl rfl rfl) (fun b68 h68 => ?_)
   refine AL_p (x_pickT rfl rfl rfl) ?_
   refine AL_nild (by kernel_rfl) ?_
   cases b68
   rotate_left
   · try simp only [tdy] at h68
     have hop : openT tk e st = true := (open_at h26 (by omega)).trans (by simp [signT, h53, h68])
     have hno := litI_is hnt hop
     refine AW_condT rfl ?_
     refine AW_seq ?_
     refine AW_region ?_
     refine AL_p (x_move rfl rfl) ?_
     refine AL_p (x_call (ks := []) (L := [(200, some _)]) (L' := [(200, some _), (103, some _)]) rfl rfl rfl (pAtomI_c tk e st hm hi 103 rfl) rfl AllV.rf (caught_of rfl) rfl rfl rfl ⟨rfl, trivial⟩ rfl) ?_
     refine AL_p (x_build (zs := [.int .i64 0, .string ⟨#[]⟩, .slice none 0 0, .int .i64 0, .string ⟨#[]⟩, .int .i64 0, .string ⟨#[]⟩, .string ⟨#[]⟩, .int .i64 0, .string ⟨#[]⟩]) (places := [(0, 1), (1, 2), (3, 1), (4, 3), (7, 3)]) rfl (by kernel_rfl) rfl rfl rfl rfl rfl) ?_
     refine AL_p (x_store (n := 10) rfl rfl rfl rfl (by kernel_rfl) rfl rfl rfl) ?_
     refine AL_nil ?_
     refine AW_ret ?_
     exact ⟨rn [(9, 100), (0, 103)], ⟨⟨⟨_, rfl, VLe.rf⟩, trivial⟩, ⟨⟨_, rfl, by first | exact BLe.rf | exact ble_eq (by rw [hno]; first | done | rfl)⟩, ⟨_, rfl, by first | exact BLe.rf | exact ble_eq (by rw [hno]; first | done | rfl)⟩, ⟨_, rfl, by first | exact BLe.rf | (refine BLe.arr ?_; rw [hno]; first | done | rfl)⟩, trivial⟩, ⟨⟨rfl, .inl nofun, fun _ _ => ⟨_, rfl⟩⟩, trivial⟩, rfl⟩⟩
   try simp only [tdy] at h68
   have hop : openT tk e st = false := (open_at h26 (by omega)).trans (by simp [signT, h53, h68])
   refine AW_condF rfl ?_
   refine AW_skip ?_
   refine AW_seq ?_
   refine AW_region ?_
   refine AL_p (x_build (zs := [.int .i64 0, .string ⟨#[]⟩, .slice none 0 0, .int .i64 0, .string ⟨#[]⟩, .int .i64 0, .string ⟨#[]⟩, .string ⟨#[]⟩, .int .i64 0, .string ⟨#[]⟩]) (places := [(0, 1), (1, 2), (3, 1), (4, 3), (7, 3)]) rfl (by kernel_rfl) rfl rfl rfl rfl rfl) ?_
   refine AL_p (x_alloc (z := .agg #[.int .i64 0, .string ⟨#[]⟩, .slice none 0 0, .int .i64 0, .string ⟨#[]⟩, .int .i64 0, .string ⟨#[]⟩, .string ⟨#[]⟩, .int .i64 0, .string ⟨#[]⟩]) 104 rfl (by kernel_rfl) rfl rfl rfl rfl) ?_
   refine AL_p (x_store (n := 10) rfl rfl rfl rfl (by kernel_rfl) rfl rfl rfl) ?_
   refine AL_nil ?_
   refine AW_seq ?_
   refine AW_region ?_
   refine AL_p (x_move rfl rfl) ?_
   refine AL_p (x_call (ks := []) (L := [(200, some _)]) (L' := [(200, some _)]) rfl rfl rfl (pTerm_c tk e st hm hi) rfl AllV.rf (caught_of rfl) rfl rfl rfl ⟨rfl, trivial⟩ rfl) ?_
   refine AL_p (x_field (off := 4) (o' := 4) rfl rfl rfl (by kernel_rfl) rfl) ?_
   refine AL_p (x_store (n := 3) rfl rfl rfl rfl (by kernel_rfl) rfl rfl rfl) ?_
   refine AL_nil ?_
   refine AW_seq ?_
   refine AW_region ?_
   refine AL_p (x_move rfl rfl) ?_
   refine AL_p (x_call (ks := []) (L := [(200, some _)]) (L' := [(200, some _)]) rfl rfl rfl (pHere_c tk e (termP tk e false st).2 hm (term_le hi)) rfl AllV.rf (caught_of rfl) rfl rfl rfl ⟨rfl, trivial⟩ rfl) ?_
   refine AL_p (x_store (n := 4) rfl rfl rfl rfl (by kernel_rfl) rfl rfl rfl) ?_
   refine AL_nil ?_
   refine AW_seq ?_
   refine AW_seq ?_
   refine AW_region ?_
   refine AL_p (x_field (off := 0) (o' := 0) rfl rfl rfl (by kernel_rfl) rfl) ?_
   refine AL_p (x_load1 rfl rfl rfl (by kernel_rfl) rfl) ?_
   refine AL_b (x_eql rfl rfl rfl) (fun b81 h81 => ?_)
   refine AL_nil ?_
   cases b81
   · try simp only [tdy] at h81
     have ho2 : opI (hereT tk e (termP tk e false st).2) = _ := if_neg h81
     refine AW_condF rfl ?_
     refine AW_skip ?_
     refine AW_seq ?_
     refine AW_seq ?_
     refine AW_region ?_
     refine AL_p (x_field (off := 3) (o' := 3) rfl rfl rfl (by kernel_rfl) rfl) ?_
     refine AL_p (x_load1 rfl rfl rfl (by kernel_rfl) rfl) ?_
     refine AL_b (x_lss rfl rfl rfl) (fun b88 h88 => ?_)
     refine AL_nil ?_
     cases b88
     rotate_left
     · try simp only [tdy] at h88
       have hno := litI_bad hnt hop (by rw [ho2]; omega)
       rw [ho2] at hno
       refine AW_condT rfl ?_
       refine AW_seq ?_
       refine AW_region ?_
       refine AL_p (x_move rfl rfl) ?_
       refine AL_p (x_call (ks := []) (L := [(200, some _)]) (L' := [(200, some _)]) rfl rfl rfl (pFail_c tk e (termP tk e false st).2 hm (term_le hi) 6) rfl AllV.rf (caught_of rfl) rfl rfl rfl ⟨rfl, trivial⟩ rfl) ?_
       refine AL_nil ?_
       refine AW_seq ?_
       refine AW_region ?_
       refine AL_p (x_loadN (n := 10) rfl rfl rfl (by kernel_rfl) rfl rfl) ?_
       refine AL_p (x_store (n := 10) rfl rfl rfl rfl (by kernel_rfl) rfl rfl rfl) ?_
       refine AL_nil ?_
       refine AW_adopt (T := 70) (e := termE) 105 100 2 rfl rfl rfl rfl rfl ?_
       refine AW_ret ?_
       exact ⟨rn [(9, 100), (0, 105)], ⟨⟨⟨_, rfl, VLe.rf⟩, trivial⟩, ⟨⟨_, rfl, by first | exact BLe.rf | exact ble_eq (by rw [hno]; first | done | rfl)⟩, ⟨_, rfl, by first | exact BLe.rf | exact ble_eq (by rw [hno]; first | done | rfl)⟩, ⟨_, rfl, by first | exact BLe.rf | (refine BLe.arr ?_; rw [hno]; first | done | rfl)⟩, trivial⟩, ⟨⟨rfl, .inl nofun, fun _ _ => ⟨_, rfl⟩⟩, trivial⟩, rfl⟩⟩
     try simp only [tdy] at h88
     have hlt := next_le (op_lt (tk := tk) (e := e) (st := (termP tk e false st).2) (by rw [ho2]; omega))
     have hlt2 : (termP tk e false st).2.i < tk.length := hlt
     have hno := litI_cmp hnt hop (by rw [ho2]; omega)
     rw [ho2] at hno
     refine AW_condF rfl ?_
     refine AW_skip ?_
     refine AW_seq ?_
     refine AW_region ?_
     refine AL_p (x_move rfl rfl) ?_
     refine AL_p (x_nilc rfl rfl rfl) ?_
     refine AL_p (x_field (off := 1) (o' := 1) rfl rfl rfl (by kernel_rfl) rfl) ?_
     refine AL_p (x_load1 rfl rfl rfl (by kernel_rfl) rfl) ?_
     refine AL_p (x_add rfl rfl rfl (IntWalk.i64_in _ (by omega))) ?_
     refine AL_p (x_nilc rfl rfl rfl) ?_
     refine AL_p (x_field (off := 1) (o' := 1) rfl rfl rfl (by kernel_rfl) rfl) ?_
     refine AL_p (x_store (n := 1) rfl rfl rfl rfl (by kernel_rfl) rfl rfl rfl) ?_
     refine AL_nil ?_
     refine AW_seq ?_
     refine AW_region ?_
     refine AL_p (x_move rfl rfl) ?_
     refine AL_p (x_call (ks := []) (L := [(200, some _)]) (L' := [(200, some _)]) rfl rfl rfl (pTerm_c tk e (termP tk e false st).2.next hm hlt) rfl AllV.rf (caught_of rfl) rfl rfl rfl ⟨rfl, trivial⟩ rfl) ?_
     refine AL_p (x_field (off := 7) (o' := 7) rfl rfl rfl (by kernel_rfl) rfl) ?_
     refine AL_p (x_store (n := 3) rfl rfl rfl rfl (by kernel_rfl) rfl rfl rfl) ?_
     refine AL_nil ?_
     refine AW_seq ?_
     refine AW_region ?_
     refine AL_p (x_loadN (n := 10) rfl rfl rfl (by kernel_rfl) rfl rfl) ?_
     refine AL_p (x_store (n := 10) rfl rfl rfl rfl (by kernel_rfl) rfl rfl rfl) ?_
     refine AL_nil ?_
     refine AW_adopt (T := 70) (e := termE) 105 100 2 rfl rfl rfl rfl rfl ?_
     refine AW_ret ?_
     exact ⟨rn [(9, 100), (0, 105)], ⟨⟨⟨_, rfl, VLe.rf⟩, trivial⟩, ⟨⟨_, rfl, by first | exact BLe.rf | exact ble_eq (by rw [hno]; first | done | rfl)⟩, ⟨_, rfl, by first | exact BLe.rf | exact ble_eq (by rw [hno]; first | done | rfl)⟩, ⟨_, rfl, by first | exact BLe.rf | (refine BLe.arr ?_; rw [hno]; first | done | rfl)⟩, trivial⟩, ⟨⟨rfl, .inl nofun, fun _ _ => ⟨_, rfl⟩⟩, trivial⟩, rfl⟩⟩
   try simp only [tdy] at h81
   have ho2 : opI (hereT tk e (termP tk e false st).2) = _ := if_pos h81
   refine AW_condT rfl ?_
   refine AW_region ?_
   refine AL_p (x_field (off := 2) (o' := 2) rfl rfl rfl (by kernel_rfl) rfl) ?_
   refine AL_p (x_load1 rfl rfl rfl (by kernel_rfl) rfl) ?_
   refine AL_p (x_call0 rfl rfl rfl (pOpOf_c _) rfl rfl) ?_
   refine AL_p (x_field (off := 3) (o' := 3) rfl rfl rfl (by kernel_rfl) rfl) ?_
   refine AL_p (x_store (n := 1) rfl rfl rfl rfl (by kernel_rfl) rfl rfl rfl) ?_
   refine AL_nil ?_
   refine AW_seq ?_
   refine AW_seq ?_
   refine AW_region ?_
   refine AL_p (x_field (off := 3) (o' := 3) rfl rfl rfl (by kernel_rfl) rfl) ?_
   refine AL_p (x_load1 rfl rfl rfl (by kernel_rfl) rfl) ?_
   refine AL_b (x_lss rfl rfl rfl) (fun b88 h88 => ?_)
   refine AL_nil ?_
   cases b88
   rotate_left
   · try simp only [tdy] at h88
     have hno := litI_bad hnt hop (by rw [ho2]; omega)
     rw [ho2] at hno
     refine AW_condT rfl ?_
     refine AW_seq ?_
     refine AW_region ?_
     refine AL_p (x_move rfl rfl) ?_
     refine AL_p (x_call (ks := []) (L := [(200, some _)]) (L' := [(200, some _)]) rfl rfl rfl (pFail_c tk e (termP tk e false st).2 hm (term_le hi) 6) rfl AllV.rf (caught_of rfl) rfl rfl rfl ⟨rfl, trivial⟩ rfl) ?_
     refine AL_nil ?_
     refine AW_seq ?_
     refine AW_region ?_
     refine AL_p (x_loadN (n := 10) rfl rfl rfl (by kernel_rfl) rfl rfl) ?_
     refine AL_p (x_store (n := 10) rfl rfl rfl rfl (by kernel_rfl) rfl rfl rfl) ?_
     refine AL_nil ?_
     refine AW_adopt (T := 70) (e := termE) 105 100 2 rfl rfl rfl rfl rfl ?_
     refine AW_ret ?_
     exact ⟨rn [(9, 100), (0, 105)], ⟨⟨⟨_, rfl, VLe.rf⟩, trivial⟩, ⟨⟨_, rfl, by first | exact BLe.rf | exact ble_eq (by rw [hno]; first | done | rfl)⟩, ⟨_, rfl, by first | exact BLe.rf | exact ble_eq (by rw [hno]; first | done | rfl)⟩, ⟨_, rfl, by first | exact BLe.rf | (refine BLe.arr ?_; rw [hno]; first | done | rfl)⟩, trivial⟩, ⟨⟨rfl, .inl nofun, fun _ _ => ⟨_, rfl⟩⟩, trivial⟩, rfl⟩⟩
   try simp only [tdy] at h88
   have hlt := next_le (op_lt (tk := tk) (e := e) (st := (termP tk e false st).2) (by rw [ho2]; omega))
   have hlt2 : (termP tk e false st).2.i < tk.length := hlt
   have hno := litI_cmp hnt hop (by rw [ho2]; omega)
   rw [ho2] at hno
   refine AW_condF rfl ?_
   refine AW_skip ?_
   refine AW_seq ?_
   refine AW_region ?_
   refine AL_p (x_move rfl rfl) ?_
   refine AL_p (x_nilc rfl rfl rfl) ?_
   refine AL_p (x_field (off := 1) (o' := 1) rfl rfl rfl (by kernel_rfl) rfl) ?_
   refine AL_p (x_load1 rfl rfl rfl (by kernel_rfl) rfl) ?_
   refine AL_p (x_add rfl rfl rfl (IntWalk.i64_in _ (by omega))) ?_
   refine AL_p (x_nilc rfl rfl rfl) ?_
   refine AL_p (x_field (off := 1) (o' := 1) rfl rfl rfl (by kernel_rfl) rfl) ?_
   refine AL_p (x_store (n := 1) rfl rfl rfl rfl (by kernel_rfl) rfl rfl rfl) ?_
   refine AL_nil ?_
   refine AW_seq ?_
   refine AW_region ?_
   refine AL_p (x_move rfl rfl) ?_
   refine AL_p (x_call (ks := []) (L := [(200, some _)]) (L' := [(200, some _)]) rfl rfl rfl (pTerm_c tk e (termP tk e false st).2.next hm hlt) rfl AllV.rf (caught_of rfl) rfl rfl rfl ⟨rfl, trivial⟩ rfl) ?_
   refine AL_p (x_field (off := 7) (o' := 7) rfl rfl rfl (by kernel_rfl) rfl) ?_
   refine AL_p (x_store (n := 3) rfl rfl rfl rfl (by kernel_rfl) rfl rfl rfl) ?_
   refine AL_nil ?_
   refine AW_seq ?_
   refine AW_region ?_
   refine AL_p (x_loadN (n := 10) rfl rfl rfl (by kernel_rfl) rfl rfl) ?_
   refine AL_p (x_store (n := 10) rfl rfl rfl rfl (by kernel_rfl) rfl rfl rfl) ?_
   refine AL_nil ?_
   refine AW_adopt (T := 70) (e := termE) 105 100 2 rfl rfl rfl rfl rfl ?_
   refine AW_ret ?_
   exact ⟨rn [(9, 100), (0, 105)], ⟨⟨⟨_, rfl, VLe.rf⟩, trivial⟩, ⟨⟨_, rfl, by first | exact BLe.rf | exact ble_eq (by rw [hno]; first | done | rfl)⟩, ⟨_, rfl, by first | exact BLe.rf | exact ble_eq (by rw [hno]; first | done | rfl)⟩, ⟨_, rfl, by first | exact BLe.rf | (refine BLe.arr ?_; rw [hno]; first | done | rfl)⟩, trivial⟩, ⟨⟨rfl, .inl nofun, fun _ _ => ⟨_, rfl⟩⟩, trivial⟩, rfl⟩⟩
 try simp only [tdy] at h9
 refine AL_g rfl rfl (x_field (off := 2) (o' := 2) rfl rfl rfl (by kernel_rfl) rfl) ?_
 refine AL_g rfl rfl (x_load1 rfl rfl rfl (by kernel_rfl) rfl) ?_
 refine AL_gb rfl rfl (x_seql rfl rfl rfl) (fun b13 h13 => ?_)
 refine AL_p (x_pickT rfl rfl rfl) ?_
 refine AL_nil ?_
 cases b13
 rotate_left
 · try simp only [tdy] at h13
   have hnt : notT (hereT tk e st) = true := by simp [notT, notS, h9, h13]
   have hlt := next_le (not_lt hnt)
   have hlt2 := not_lt hnt
   have hno := litI_not hnt
   refine AW_condT rfl ?_
   refine AW_seq ?_
   refine AW_region ?_
   refine AL_p (x_move rfl rfl) ?_
   refine AL_p (x_nilc rfl rfl rfl) ?_
   refine AL_p (x_field (off := 1) (o' := 1) rfl rfl rfl (by kernel_rfl) rfl) ?_
   refine AL_p (x_load1 rfl rfl rfl (by kernel_rfl) rfl) ?_
   refine AL_p (x_add rfl rfl rfl (IntWalk.i64_in _ (by omega))) ?_
   refine AL_p (x_nilc rfl rfl rfl) ?_
   refine AL_p (x_field (off := 1) (o' := 1) rfl rfl rfl (by kernel_rfl) rfl) ?_
   refine AL_p (x_store (n := 1) rfl rfl rfl rfl (by kernel_rfl) rfl rfl rfl) ?_
   refine AL_nil ?_
   refine AW_seq ?_
   refine AW_region ?_
   refine AL_p (x_move rfl rfl) ?_
   refine AL_p (x_call (ks := []) (L := [(200, some _)]) (L' := [(200, some _), (102, some _)]) rfl rfl rfl (pAtomI_c tk e st.next hm hlt 102 rfl) rfl AllV.rf (caught_of rfl) rfl rfl rfl ⟨rfl, trivial⟩ rfl) ?_
   refine AL_p (x_build (zs := [.int .i64 0, .string ⟨#[]⟩, .slice none 0 0, .int .i64 0, .string ⟨#[]⟩, .int .i64 0, .string ⟨#[]⟩, .string ⟨#[]⟩, .int .i64 0, .string ⟨#[]⟩]) (places := [(0, 1), (1, 2), (3, 1), (4, 3), (7, 3)]) rfl (by kernel_rfl) rfl rfl rfl rfl rfl) ?_
   refine AL_p (x_store (n := 10) rfl rfl rfl rfl (by kernel_rfl) rfl rfl rfl) ?_
   refine AL_nil ?_
   refine AW_ret ?_
   exact ⟨rn [(9, 100), (0, 102)], ⟨⟨⟨_, rfl, VLe.rf⟩, trivial⟩, ⟨⟨_, rfl, by first | exact BLe.rf | exact ble_eq (by rw [hno]; first | done | rfl)⟩, ⟨_, rfl, by first | exact BLe.rf | exact ble_eq (by rw [hno]; first | done | rfl)⟩, ⟨_, rfl, by first | exact BLe.rf | (refine BLe.arr ?_; rw [hno]; first | done | rfl)⟩, trivial⟩, ⟨⟨rfl, .inl nofun, fun _ _ => ⟨_, rfl⟩⟩, trivial⟩, rfl⟩⟩
 try simp only [tdy] at h13
 have hnt : notT (hereT tk e st) = false := by simp [notT, notS, h9, h13]
 refine AW_condF rfl ?_
 refine AW_skip ?_
 refine AW_seq ?_
 refine AW_seq ?_
 refine AW_draw rfl ?_
 refine AL_p (x_move rfl rfl) ?_
 refine AL_bc (x_call (ks := []) (L := [(200, some _)]) (L' := [(200, some _)]) rfl rfl rfl (pIsName_c tk e st hm hi) rfl AllV.rf (caught_of rfl) rfl rfl rfl ⟨rfl, trivial⟩ rfl) (fun b26 h26 => ?_)
 refine AL_p (x_move rfl rfl) ?_
 cases b26
 · try simp only [tdy] at h26
   have hop := open_no h26
   refine AL_o rfl rfl rfl rfl ?_
   refine AL_o rfl rfl rfl rfl ?_
   refine AL_o rfl rfl rfl rfl ?_
   refine AL_o rfl rfl rfl rfl ?_
   refine AL_o rfl rfl rfl rfl ?_
   refine AL_o rfl rfl rfl rfl ?_
   refine AL_o rfl rfl rfl rfl ?_
   refine AL_o rfl rfl rfl rfl ?_
   refine AL_o rfl rfl rfl rfl ?_
   refine AL_o rfl rfl rfl rfl ?_
   refine AL_o rfl rfl rfl rfl ?_
   refine AL_p (x_pickF rfl rfl rfl) ?_
   refine AL_p (x_move rfl rfl) ?_
   refine AL_o rfl rfl rfl rfl ?_
   refine AL_o rfl rfl rfl rfl ?_
   refine AL_o rfl rfl rfl rfl ?_
   refine AL_o rfl rfl rfl rfl ?_
   refine AL_o rfl rfl rfl rfl ?_
   refine AL_o rfl rfl rfl rfl ?_
   refine AL_o rfl rfl rfl rfl ?_
   refine AL_o rfl rfl rfl rfl ?_
   refine AL_o rfl rfl rfl rfl ?_
   refine AL_o rfl rfl rfl rfl ?_
   refine AL_o rfl rfl rfl rfl ?_
   refine AL_o rfl rfl rfl rfl ?_
   refine AL_o rfl rfl rfl rfl ?_
   refine AL_p (x_pickF rfl rfl rfl) ?_
   refine AL_p (x_move rfl rfl) ?_
   refine AL_o rfl rfl rfl rfl ?_
   refine AL_o rfl rfl rfl rfl ?_
   refine AL_o rfl rfl rfl rfl ?_
   refine AL_o rfl rfl rfl rfl ?_
   refine AL_o rfl rfl rfl rfl ?_
   refine AL_o rfl rfl rfl rfl ?_
   refine AL_o rfl rfl rfl rfl ?_
   refine AL_o rfl rfl rfl rfl ?_
   refine AL_o rfl rfl rfl rfl ?_
   refine AL_o rfl rfl rfl rfl ?_
   refine AL_o rfl rfl rfl rfl ?_
   refine AL_o rfl rfl rfl rfl ?_
   refine AL_o rfl rfl rfl rfl ?_
   refine AL_p (x_pickF rfl rfl rfl) ?_
   refine AL_nild (by kernel_rfl) ?_
   refine AW_condF rfl ?_
   refine AW_skip ?_
   refine AW_seq ?_
   refine AW_region ?_
   refine AL_p (x_build (zs := [.int .i64 0, .string ⟨#[]⟩, .slice none 0 0, .int .i64 0, .string ⟨#[]⟩, .int .i64 0, .string ⟨#[]⟩, .string ⟨#[]⟩, .int .i64 0, .string ⟨#[]⟩]) (places := [(0, 1), (1, 2), (3, 1), (4, 3), (7, 3)]) rfl (by kernel_rfl) rfl rfl rfl rfl rfl) ?_
   refine AL_p (x_alloc (z := .agg #[.int .i64 0, .string ⟨#[]⟩, .slice none 0 0, .int .i64 0, .string ⟨#[]⟩, .int .i64 0, .string ⟨#[]⟩, .string ⟨#[]⟩, .int .i64 0, .string ⟨#[]⟩]) 104 rfl (by kernel_rfl) rfl rfl rfl rfl) ?_
   refine AL_p (x_store (n := 10) rfl rfl rfl rfl (by kernel_rfl) rfl rfl rfl) ?_
   refine AL_nil ?_
   refine AW_seq ?_
   refine AW_region ?_
   refine AL_p (x_move rfl rfl) ?_
   refine AL_p (x_call (ks := []) (L := [(200, some _)]) (L' := [(200, some _)]) rfl rfl rfl (pTerm_c tk e st hm hi) rfl AllV.rf (caught_of rfl) rfl rfl rfl ⟨rfl, trivial⟩ rfl) ?_
   refine AL_p (x_field (off := 4) (o' := 4) rfl rfl rfl (by kernel_rfl) rfl) ?_
   refine AL_p (x_store (n := 3) rfl rfl rfl rfl (by kernel_rfl) rfl rfl rfl) ?_
   refine AL_nil ?_
   refine AW_seq ?_
   refine AW_region ?_
   refine AL_p (x_move rfl rfl) ?_
   refine AL_p (x_call (ks := []) (L := [(200, some _)]) (L' := [(200, some _)]) rfl rfl rfl (pHere_c tk e (termP tk e false st).2 hm (term_le hi)) rfl AllV.rf (caught_of rfl) rfl rfl rfl ⟨rfl, trivial⟩ rfl) ?_
   refine AL_p (x_store (n := 4) rfl rfl rfl rfl (by kernel_rfl) rfl rfl rfl) ?_
   refine AL_nil ?_
   refine AW_seq ?_
   refine AW_seq ?_
   refine AW_region ?_
   refine AL_p (x_field (off := 0) (o' := 0) rfl rfl rfl (by kernel_rfl) rfl) ?_
   refine AL_p (x_load1 rfl rfl rfl (by kernel_rfl) rfl) ?_
   refine AL_b (x_eql rfl rfl rfl) (fun b81 h81 => ?_)
   refine AL_nil ?_
   cases b81
   · try simp only [tdy] at h81
     have ho2 : opI (hereT tk e (termP tk e false st).2) = _ := if_neg h81
     refine AW_condF rfl ?_
     refine AW_skip ?_
     refine AW_seq ?_
     refine AW_seq ?_
     refine AW_region ?_
     refine AL_p (x_field (off := 3) (o' := 3) rfl rfl rfl (by kernel_rfl) rfl) ?_
     refine AL_p (x_load1 rfl rfl rfl (by kernel_rfl) rfl) ?_
     refine AL_b (x_lss rfl rfl rfl) (fun b88 h88 => ?_)
     refine AL_nil ?_
     cases b88
     rotate_left
     · try simp only [tdy] at h88
       have hno := litI_bad hnt hop (by rw [ho2]; omega)
       rw [ho2] at hno
       refine AW_condT rfl ?_
       refine AW_seq ?_
       refine AW_region ?_
       refine AL_p (x_move rfl rfl) ?_
       refine AL_p (x_call (ks := []) (L := [(200, some _)]) (L' := [(200, some _)]) rfl rfl rfl (pFail_c tk e (termP tk e false st).2 hm (term_le hi) 6) rfl AllV.rf (caught_of rfl) rfl rfl rfl ⟨rfl, trivial⟩ rfl) ?_
       refine AL_nil ?_
       refine AW_seq ?_
       refine AW_region ?_
       refine AL_p (x_loadN (n := 10) rfl rfl rfl (by kernel_rfl) rfl rfl) ?_
       refine AL_p (x_store (n := 10) rfl rfl rfl rfl (by kernel_rfl) rfl rfl rfl) ?_
       refine AL_nil ?_
       refine AW_adopt (T := 70) (e := termE) 105 100 2 rfl rfl rfl rfl rfl ?_
       refine AW_ret ?_
       exact ⟨rn [(9, 100), (0, 105)], ⟨⟨⟨_, rfl, VLe.rf⟩, trivial⟩, ⟨⟨_, rfl, by first | exact BLe.rf | exact ble_eq (by rw [hno]; first | done | rfl)⟩, ⟨_, rfl, by first | exact BLe.rf | exact ble_eq (by rw [hno]; first | done | rfl)⟩, ⟨_, rfl, by first | exact BLe.rf | (refine BLe.arr ?_; rw [hno]; first | done | rfl)⟩, trivial⟩, ⟨⟨rfl, .inl nofun, fun _ _ => ⟨_, rfl⟩⟩, trivial⟩, rfl⟩⟩
     try simp only [tdy] at h88
     have hlt := next_le (op_lt (tk := tk) (e := e) (st := (termP tk e false st).2) (by rw [ho2]; omega))
     have hlt2 : (termP tk e false st).2.i < tk.length := hlt
     have hno := litI_cmp hnt hop (by rw [ho2]; omega)
     rw [ho2] at hno
     refine AW_condF rfl ?_
     refine AW_skip ?_
     refine AW_seq ?_
     refine AW_region ?_
     refine AL_p (x_move rfl rfl) ?_
     refine AL_p (x_nilc rfl rfl rfl) ?_
     refine AL_p (x_field (off := 1) (o' := 1) rfl rfl rfl (by kernel_rfl) rfl) ?_
     refine AL_p (x_load1 rfl rfl rfl (by kernel_rfl) rfl) ?_
     refine AL_p (x_add rfl rfl rfl (IntWalk.i64_in _ (by omega))) ?_
     refine AL_p (x_nilc rfl rfl rfl) ?_
     refine AL_p (x_field (off := 1) (o' := 1) rfl rfl rfl (by kernel_rfl) rfl) ?_
     refine AL_p (x_store (n := 1) rfl rfl rfl rfl (by kernel_rfl) rfl rfl rfl) ?_
     refine AL_nil ?_
     refine AW_seq ?_
     refine AW_region ?_
     refine AL_p (x_move rfl rfl) ?_
     refine AL_p (x_call (ks := []) (L := [(200, some _)]) (L' := [(200, some _)]) rfl rfl rfl (pTerm_c tk e (termP tk e false st).2.next hm hlt) rfl AllV.rf (caught_of rfl) rfl rfl rfl ⟨rfl, trivial⟩ rfl) ?_
     refine AL_p (x_field (off := 7) (o' := 7) rfl rfl rfl (by kernel_rfl) rfl) ?_
     refine AL_p (x_store (n := 3) rfl rfl rfl rfl (by kernel_rfl) rfl rfl rfl) ?_
     refine AL_nil ?_
     refine AW_seq ?_
     refine AW_region ?_
     refine AL_p (x_loadN (n := 10) rfl rfl rfl (by kernel_rfl) rfl rfl) ?_
     refine AL_p (x_store (n := 10) rfl rfl rfl rfl (by kernel_rfl) rfl rfl rfl) ?_
     refine AL_nil ?_
     refine AW_adopt (T := 70) (e := termE) 105 100 2 rfl rfl rfl rfl rfl ?_
     refine AW_ret ?_
     exact ⟨rn [(9, 100), (0, 105)], ⟨⟨⟨_, rfl, VLe.rf⟩, trivial⟩, ⟨⟨_, rfl, by first | exact BLe.rf | exact ble_eq (by rw [hno]; first | done | rfl)⟩, ⟨_, rfl, by first | exact BLe.rf | exact ble_eq (by rw [hno]; first | done | rfl)⟩, ⟨_, rfl, by first | exact BLe.rf | (refine BLe.arr ?_; rw [hno]; first | done | rfl)⟩, trivial⟩, ⟨⟨rfl, .inl nofun, fun _ _ => ⟨_, rfl⟩⟩, trivial⟩, rfl⟩⟩
   try simp only [tdy] at h81
   have ho2 : opI (hereT tk e (termP tk e false st).2) = _ := if_pos h81
   refine AW_condT rfl ?_
   refine AW_region ?_
   refine AL_p (x_field (off := 2) (o' := 2) rfl rfl rfl (by kernel_rfl) rfl) ?_
   refine AL_p (x_load1 rfl rfl rfl (by kernel_rfl) rfl) ?_
   refine AL_p (x_call0 rfl rfl rfl (pOpOf_c _) rfl rfl) ?_
   refine AL_p (x_field (off := 3) (o' := 3) rfl rfl rfl (by kernel_rfl) rfl) ?_
   refine AL_p (x_store (n := 1) rfl rfl rfl rfl (by kernel_rfl) rfl rfl rfl) ?_
   refine AL_nil ?_
   refine AW_seq ?_
   refine AW_seq ?_
   refine AW_region ?_
   refine AL_p (x_field (off := 3) (o' := 3) rfl rfl rfl (by kernel_rfl) rfl) ?_
   refine AL_p (x_load1 rfl rfl rfl (by kernel_rfl) rfl) ?_
   refine AL_b (x_lss rfl rfl rfl) (fun b88 h88 => ?_)
   refine AL_nil ?_
   cases b88
   rotate_left
   · try simp only [tdy] at h88
     have hno := litI_bad hnt hop (by rw [ho2]; omega)
     rw [ho2] at hno
     refine AW_condT rfl ?_
     refine AW_seq ?_
     refine AW_region ?_
     refine AL_p (x_move rfl rfl) ?_
     refine AL_p (x_call (ks := []) (L := [(200, some _)]) (L' := [(200, some _)]) rfl rfl rfl (pFail_c tk e (termP tk e false st).2 hm (term_le hi) 6) rfl AllV.rf (caught_of rfl) rfl rfl rfl ⟨rfl, trivial⟩ rfl) ?_
     refine AL_nil ?_
     refine AW_seq ?_
     refine AW_region ?_
     refine AL_p (x_loadN (n := 10) rfl rfl rfl (by kernel_rfl) rfl rfl) ?_
     refine AL_p (x_store (n := 10) rfl rfl rfl rfl (by kernel_rfl) rfl rfl rfl) ?_
     refine AL_nil ?_
     refine AW_adopt (T := 70) (e := termE) 105 100 2 rfl rfl rfl rfl rfl ?_
     refine AW_ret ?_
     exact ⟨rn [(9, 100), (0, 105)], ⟨⟨⟨_, rfl, VLe.rf⟩, trivial⟩, ⟨⟨_, rfl, by first | exact BLe.rf | exact ble_eq (by rw [hno]; first | done | rfl)⟩, ⟨_, rfl, by first | exact BLe.rf | exact ble_eq (by rw [hno]; first | done | rfl)⟩, ⟨_, rfl, by first | exact BLe.rf | (refine BLe.arr ?_; rw [hno]; first | done | rfl)⟩, trivial⟩, ⟨⟨rfl, .inl nofun, fun _ _ => ⟨_, rfl⟩⟩, trivial⟩, rfl⟩⟩
   try simp only [tdy] at h88
   have hlt := next_le (op_lt (tk := tk) (e := e) (st := (termP tk e false st).2) (by rw [ho2]; omega))
   have hlt2 : (termP tk e false st).2.i < tk.length := hlt
   have hno := litI_cmp hnt hop (by rw [ho2]; omega)
   rw [ho2] at hno
   refine AW_condF rfl ?_
   refine AW_skip ?_
   refine AW_seq ?_
   refine AW_region ?_
   refine AL_p (x_move rfl rfl) ?_
   refine AL_p (x_nilc rfl rfl rfl) ?_
   refine AL_p (x_field (off := 1) (o' := 1) rfl rfl rfl (by kernel_rfl) rfl) ?_
   refine AL_p (x_load1 rfl rfl rfl (by kernel_rfl) rfl) ?_
   refine AL_p (x_add rfl rfl rfl (IntWalk.i64_in _ (by omega))) ?_
   refine AL_p (x_nilc rfl rfl rfl) ?_
   refine AL_p (x_field (off := 1) (o' := 1) rfl rfl rfl (by kernel_rfl) rfl) ?_
   refine AL_p (x_store (n := 1) rfl rfl rfl rfl (by kernel_rfl) rfl rfl rfl) ?_
   refine AL_nil ?_
   refine AW_seq ?_
   refine AW_region ?_
   refine AL_p (x_move rfl rfl) ?_
   refine AL_p (x_call (ks := []) (L := [(200, some _)]) (L' := [(200, some _)]) rfl rfl rfl (pTerm_c tk e (termP tk e false st).2.next hm hlt) rfl AllV.rf (caught_of rfl) rfl rfl rfl ⟨rfl, trivial⟩ rfl) ?_
   refine AL_p (x_field (off := 7) (o' := 7) rfl rfl rfl (by kernel_rfl) rfl) ?_
   refine AL_p (x_store (n := 3) rfl rfl rfl rfl (by kernel_rfl) rfl rfl rfl) ?_
   refine AL_nil ?_
   refine AW_seq ?_
   refine AW_region ?_
   refine AL_p (x_loadN (n := 10) rfl rfl rfl (by kernel_rfl) rfl rfl) ?_
   refine AL_p (x_store (n := 10) rfl rfl rfl rfl (by kernel_rfl) rfl rfl rfl) ?_
   refine AL_nil ?_
   refine AW_adopt (T := 70) (e := termE) 105 100 2 rfl rfl rfl rfl rfl ?_
   refine AW_ret ?_
   exact ⟨rn [(9, 100), (0, 105)], ⟨⟨⟨_, rfl, VLe.rf⟩, trivial⟩, ⟨⟨_, rfl, by first | exact BLe.rf | exact ble_eq (by rw [hno]; first | done | rfl)⟩, ⟨_, rfl, by first | exact BLe.rf | exact ble_eq (by rw [hno]; first | done | rfl)⟩, ⟨_, rfl, by first | exact BLe.rf | (refine BLe.arr ?_; rw [hno]; first | done | rfl)⟩, trivial⟩, ⟨⟨rfl, .inl nofun, fun _ _ => ⟨_, rfl⟩⟩, trivial⟩, rfl⟩⟩
 try simp only [tdy] at h26
 refine AL_g rfl rfl (x_move rfl rfl) ?_
 refine AL_g rfl rfl (x_nilc rfl rfl rfl) ?_
 refine AL_g rfl rfl (x_field (off := 1) (o' := 1) rfl rfl rfl (by kernel_rfl) rfl) ?_
 refine AL_g rfl rfl (x_load1 rfl rfl rfl (by kernel_rfl) rfl) ?_
 refine AL_g rfl rfl (x_add rfl rfl rfl (IntWalk.i64_in _ (by omega))) ?_
 refine AL_g rfl rfl (x_move rfl rfl) ?_
 refine AL_g rfl rfl (x_nilc rfl rfl rfl) ?_
 refine AL_g rfl rfl (x_field (off := 0) (o' := 0) rfl rfl rfl (by kernel_rfl) rfl) ?_
 refine AL_g rfl rfl (x_load1 rfl rfl rfl (by kernel_rfl) rfl) ?_
 refine AL_g rfl rfl (x_len (E := 83) (n := 4) rfl rfl (by kernel_rfl)) ?_
 refine AL_gb rfl rfl (x_lss rfl rfl rfl) (fun b38 h38 => ?_)
 refine AL_p (x_pickT rfl rfl rfl) ?_
 refine AL_p (x_move rfl rfl) ?_
 cases b38
 · try simp only [tdy] at h38
   have hop := open_end h26 (by omega)
   refine AL_o rfl rfl rfl rfl ?_
   refine AL_o rfl rfl rfl rfl ?_
   refine AL_o rfl rfl rfl rfl ?_
   refine AL_o rfl rfl rfl rfl ?_
   refine AL_o rfl rfl rfl rfl ?_
   refine AL_o rfl rfl rfl rfl ?_
   refine AL_o rfl rfl rfl rfl ?_
   refine AL_o rfl rfl rfl rfl ?_
   refine AL_o rfl rfl rfl rfl ?_
   refine AL_o rfl rfl rfl rfl ?_
   refine AL_o rfl rfl rfl rfl ?_
   refine AL_o rfl rfl rfl rfl ?_
   refine AL_o rfl rfl rfl rfl ?_
   refine AL_p (x_pickF rfl rfl rfl) ?_
   refine AL_p (x_move rfl rfl) ?_
   refine AL_o rfl rfl rfl rfl ?_
   refine AL_o rfl rfl rfl rfl ?_
   refine AL_o rfl rfl rfl rfl ?_
   refine AL_o rfl rfl rfl rfl ?_
   refine AL_o rfl rfl rfl rfl ?_
   refine AL_o rfl rfl rfl rfl ?_
   refine AL_o rfl rfl rfl rfl ?_
   refine AL_o rfl rfl rfl rfl ?_
   refine AL_o rfl rfl rfl rfl ?_
   refine AL_o rfl rfl rfl rfl ?_
   refine AL_o rfl rfl rfl rfl ?_
   refine AL_o rfl rfl rfl rfl ?_
   refine AL_o rfl rfl rfl rfl ?_
   refine AL_p (x_pickF rfl rfl rfl) ?_
   refine AL_nild (by kernel_rfl) ?_
   refine AW_condF rfl ?_
   refine AW_skip ?_
   refine AW_seq ?_
   refine AW_region ?_
   refine AL_p (x_build (zs := [.int .i64 0, .string ⟨#[]⟩, .slice none 0 0, .int .i64 0, .string ⟨#[]⟩, .int .i64 0, .string ⟨#[]⟩, .string ⟨#[]⟩, .int .i64 0, .string ⟨#[]⟩]) (places := [(0, 1), (1, 2), (3, 1), (4, 3), (7, 3)]) rfl (by kernel_rfl) rfl rfl rfl rfl rfl) ?_
   refine AL_p (x_alloc (z := .agg #[.int .i64 0, .string ⟨#[]⟩, .slice none 0 0, .int .i64 0, .string ⟨#[]⟩, .int .i64 0, .string ⟨#[]⟩, .string ⟨#[]⟩, .int .i64 0, .string ⟨#[]⟩]) 104 rfl (by kernel_rfl) rfl rfl rfl rfl) ?_
   refine AL_p (x_store (n := 10) rfl rfl rfl rfl (by kernel_rfl) rfl rfl rfl) ?_
   refine AL_nil ?_
   refine AW_seq ?_
   refine AW_region ?_
   refine AL_p (x_move rfl rfl) ?_
   refine AL_p (x_call (ks := []) (L := [(200, some _)]) (L' := [(200, some _)]) rfl rfl rfl (pTerm_c tk e st hm hi) rfl AllV.rf (caught_of rfl) rfl rfl rfl ⟨rfl, trivial⟩ rfl) ?_
   refine AL_p (x_field (off := 4) (o' := 4) rfl rfl rfl (by kernel_rfl) rfl) ?_
   refine AL_p (x_store (n := 3) rfl rfl rfl rfl (by kernel_rfl) rfl rfl rfl) ?_
   refine AL_nil ?_
   refine AW_seq ?_
   refine AW_region ?_
   refine AL_p (x_move rfl rfl) ?_
   refine AL_p (x_call (ks := []) (L := [(200, some _)]) (L' := [(200, some _)]) rfl rfl rfl (pHere_c tk e (termP tk e false st).2 hm (term_le hi)) rfl AllV.rf (caught_of rfl) rfl rfl rfl ⟨rfl, trivial⟩ rfl) ?_
   refine AL_p (x_store (n := 4) rfl rfl rfl rfl (by kernel_rfl) rfl rfl rfl) ?_
   refine AL_nil ?_
   refine AW_seq ?_
   refine AW_seq ?_
   refine AW_region ?_
   refine AL_p (x_field (off := 0) (o' := 0) rfl rfl rfl (by kernel_rfl) rfl) ?_
   refine AL_p (x_load1 rfl rfl rfl (by kernel_rfl) rfl) ?_
   refine AL_b (x_eql rfl rfl rfl) (fun b81 h81 => ?_)
   refine AL_nil ?_
   cases b81
   · try simp only [tdy] at h81
     have ho2 : opI (hereT tk e (termP tk e false st).2) = _ := if_neg h81
     refine AW_condF rfl ?_
     refine AW_skip ?_
     refine AW_seq ?_
     refine AW_seq ?_
     refine AW_region ?_
     refine AL_p (x_field (off := 3) (o' := 3) rfl rfl rfl (by kernel_rfl) rfl) ?_
     refine AL_p (x_load1 rfl rfl rfl (by kernel_rfl) rfl) ?_
     refine AL_b (x_lss rfl rfl rfl) (fun b88 h88 => ?_)
     refine AL_nil ?_
     cases b88
     rotate_left
     · try simp only [tdy] at h88
       have hno := litI_bad hnt hop (by rw [ho2]; omega)
       rw [ho2] at hno
       refine AW_condT rfl ?_
       refine AW_seq ?_
       refine AW_region ?_
       refine AL_p (x_move rfl rfl) ?_
       refine AL_p (x_call (ks := []) (L := [(200, some _)]) (L' := [(200, some _)]) rfl rfl rfl (pFail_c tk e (termP tk e false st).2 hm (term_le hi) 6) rfl AllV.rf (caught_of rfl) rfl rfl rfl ⟨rfl, trivial⟩ rfl) ?_
       refine AL_nil ?_
       refine AW_seq ?_
       refine AW_region ?_
       refine AL_p (x_loadN (n := 10) rfl rfl rfl (by kernel_rfl) rfl rfl) ?_
       refine AL_p (x_store (n := 10) rfl rfl rfl rfl (by kernel_rfl) rfl rfl rfl) ?_
       refine AL_nil ?_
       refine AW_adopt (T := 70) (e := termE) 105 100 2 rfl rfl rfl rfl rfl ?_
       refine AW_ret ?_
       exact ⟨rn [(9, 100), (0, 105)], ⟨⟨⟨_, rfl, VLe.rf⟩, trivial⟩, ⟨⟨_, rfl, by first | exact BLe.rf | exact ble_eq (by rw [hno]; first | done | rfl)⟩, ⟨_, rfl, by first | exact BLe.rf | exact ble_eq (by rw [hno]; first | done | rfl)⟩, ⟨_, rfl, by first | exact BLe.rf | (refine BLe.arr ?_; rw [hno]; first | done | rfl)⟩, trivial⟩, ⟨⟨rfl, .inl nofun, fun _ _ => ⟨_, rfl⟩⟩, trivial⟩, rfl⟩⟩
     try simp only [tdy] at h88
     have hlt := next_le (op_lt (tk := tk) (e := e) (st := (termP tk e false st).2) (by rw [ho2]; omega))
     have hlt2 : (termP tk e false st).2.i < tk.length := hlt
     have hno := litI_cmp hnt hop (by rw [ho2]; omega)
     rw [ho2] at hno
     refine AW_condF rfl ?_
     refine AW_skip ?_
     refine AW_seq ?_
     refine AW_region ?_
     refine AL_p (x_move rfl rfl) ?_
     refine AL_p (x_nilc rfl rfl rfl) ?_
     refine AL_p (x_field (off := 1) (o' := 1) rfl rfl rfl (by kernel_rfl) rfl) ?_
     refine AL_p (x_load1 rfl rfl rfl (by kernel_rfl) rfl) ?_
     refine AL_p (x_add rfl rfl rfl (IntWalk.i64_in _ (by omega))) ?_
     refine AL_p (x_nilc rfl rfl rfl) ?_
     refine AL_p (x_field (off := 1) (o' := 1) rfl rfl rfl (by kernel_rfl) rfl) ?_
     refine AL_p (x_store (n := 1) rfl rfl rfl rfl (by kernel_rfl) rfl rfl rfl) ?_
     refine AL_nil ?_
     refine AW_seq ?_
     refine AW_region ?_
     refine AL_p (x_move rfl rfl) ?_
     refine AL_p (x_call (ks := []) (L := [(200, some _)]) (L' := [(200, some _)]) rfl rfl rfl (pTerm_c tk e (termP tk e false st).2.next hm hlt) rfl AllV.rf (caught_of rfl) rfl rfl rfl ⟨rfl, trivial⟩ rfl) ?_
     refine AL_p (x_field (off := 7) (o' := 7) rfl rfl rfl (by kernel_rfl) rfl) ?_
     refine AL_p (x_store (n := 3) rfl rfl rfl rfl (by kernel_rfl) rfl rfl rfl) ?_
     refine AL_nil ?_
     refine AW_seq ?_
     refine AW_region ?_
     refine AL_p (x_loadN (n := 10) rfl rfl rfl (by kernel_rfl) rfl rfl) ?_
     refine AL_p (x_store (n := 10) rfl rfl rfl rfl (by kernel_rfl) rfl rfl rfl) ?_
     refine AL_nil ?_
     refine AW_adopt (T := 70) (e := termE) 105 100 2 rfl rfl rfl rfl rfl ?_
     refine AW_ret ?_
     exact ⟨rn [(9, 100), (0, 105)], ⟨⟨⟨_, rfl, VLe.rf⟩, trivial⟩, ⟨⟨_, rfl, by first | exact BLe.rf | exact ble_eq (by rw [hno]; first | done | rfl)⟩, ⟨_, rfl, by first | exact BLe.rf | exact ble_eq (by rw [hno]; first | done | rfl)⟩, ⟨_, rfl, by first | exact BLe.rf | (refine BLe.arr ?_; rw [hno]; first | done | rfl)⟩, trivial⟩, ⟨⟨rfl, .inl nofun, fun _ _ => ⟨_, rfl⟩⟩, trivial⟩, rfl⟩⟩
   try simp only [tdy] at h81
   have ho2 : opI (hereT tk e (termP tk e false st).2) = _ := if_pos h81
   refine AW_condT rfl ?_
   refine AW_region ?_
   refine AL_p (x_field (off := 2) (o' := 2) rfl rfl rfl (by kernel_rfl) rfl) ?_
   refine AL_p (x_load1 rfl rfl rfl (by kernel_rfl) rfl) ?_
   refine AL_p (x_call0 rfl rfl rfl (pOpOf_c _) rfl rfl) ?_
   refine AL_p (x_field (off := 3) (o' := 3) rfl rfl rfl (by kernel_rfl) rfl) ?_
   refine AL_p (x_store (n := 1) rfl rfl rfl rfl (by kernel_rfl) rfl rfl rfl) ?_
   refine AL_nil ?_
   refine AW_seq ?_
   refine AW_seq ?_
   refine AW_region ?_
   refine AL_p (x_field (off := 3) (o' := 3) rfl rfl rfl (by kernel_rfl) rfl) ?_
   refine AL_p (x_load1 rfl rfl rfl (by kernel_rfl) rfl) ?_
   refine AL_b (x_lss rfl rfl rfl) (fun b88 h88 => ?_)
   refine AL_nil ?_
   cases b88
   rotate_left
   · try simp only [tdy] at h88
     have hno := litI_bad hnt hop (by rw [ho2]; omega)
     rw [ho2] at hno
     refine AW_condT rfl ?_
     refine AW_seq ?_
     refine AW_region ?_
     refine AL_p (x_move rfl rfl) ?_
     refine AL_p (x_call (ks := []) (L := [(200, some _)]) (L' := [(200, some _)]) rfl rfl rfl (pFail_c tk e (termP tk e false st).2 hm (term_le hi) 6) rfl AllV.rf (caught_of rfl) rfl rfl rfl ⟨rfl, trivial⟩ rfl) ?_
     refine AL_nil ?_
     refine AW_seq ?_
     refine AW_region ?_
     refine AL_p (x_loadN (n := 10) rfl rfl rfl (by kernel_rfl) rfl rfl) ?_
     refine AL_p (x_store (n := 10) rfl rfl rfl rfl (by kernel_rfl) rfl rfl rfl) ?_
     refine AL_nil ?_
     refine AW_adopt (T := 70) (e := termE) 105 100 2 rfl rfl rfl rfl rfl ?_
     refine AW_ret ?_
     exact ⟨rn [(9, 100), (0, 105)], ⟨⟨⟨_, rfl, VLe.rf⟩, trivial⟩, ⟨⟨_, rfl, by first | exact BLe.rf | exact ble_eq (by rw [hno]; first | done | rfl)⟩, ⟨_, rfl, by first | exact BLe.rf | exact ble_eq (by rw [hno]; first | done | rfl)⟩, ⟨_, rfl, by first | exact BLe.rf | (refine BLe.arr ?_; rw [hno]; first | done | rfl)⟩, trivial⟩, ⟨⟨rfl, .inl nofun, fun _ _ => ⟨_, rfl⟩⟩, trivial⟩, rfl⟩⟩
   try simp only [tdy] at h88
   have hlt := next_le (op_lt (tk := tk) (e := e) (st := (termP tk e false st).2) (by rw [ho2]; omega))
   have hlt2 : (termP tk e false st).2.i < tk.length := hlt
   have hno := litI_cmp hnt hop (by rw [ho2]; omega)
   rw [ho2] at hno
   refine AW_condF rfl ?_
   refine AW_skip ?_
   refine AW_seq ?_
   refine AW_region ?_
   refine AL_p (x_move rfl rfl) ?_
   refine AL_p (x_nilc rfl rfl rfl) ?_
   refine AL_p (x_field (off := 1) (o' := 1) rfl rfl rfl (by kernel_rfl) rfl) ?_
   refine AL_p (x_load1 rfl rfl rfl (by kernel_rfl) rfl) ?_
   refine AL_p (x_add rfl rfl rfl (IntWalk.i64_in _ (by omega))) ?_
   refine AL_p (x_nilc rfl rfl rfl) ?_
   refine AL_p (x_field (off := 1) (o' := 1) rfl rfl rfl (by kernel_rfl) rfl) ?_
   refine AL_p (x_store (n := 1) rfl rfl rfl rfl (by kernel_rfl) rfl rfl rfl) ?_
   refine AL_nil ?_
   refine AW_seq ?_
   refine AW_region ?_
   refine AL_p (x_move rfl rfl) ?_
   refine AL_p (x_call (ks := []) (L := [(200, some _)]) (L' := [(200, some _)]) rfl rfl rfl (pTerm_c tk e (termP tk e false st).2.next hm hlt) rfl AllV.rf (caught_of rfl) rfl rfl rfl ⟨rfl, trivial⟩ rfl) ?_
   refine AL_p (x_field (off := 7) (o' := 7) rfl rfl rfl (by kernel_rfl) rfl) ?_
   refine AL_p (x_store (n := 3) rfl rfl rfl rfl (by kernel_rfl) rfl rfl rfl) ?_
   refine AL_nil ?_
   refine AW_seq ?_
   refine AW_region ?_
   refine AL_p (x_loadN (n := 10) rfl rfl rfl (by kernel_rfl) rfl rfl) ?_
   refine AL_p (x_store (n := 10) rfl rfl rfl rfl (by kernel_rfl) rfl rfl rfl) ?_
   refine AL_nil ?_
   refine AW_adopt (T := 70) (e := termE) 105 100 2 rfl rfl rfl rfl rfl ?_
   refine AW_ret ?_
   exact ⟨rn [(9, 100), (0, 105)], ⟨⟨⟨_, rfl, VLe.rf⟩, trivial⟩, ⟨⟨_, rfl, by first | exact BLe.rf | exact ble_eq (by rw [hno]; first | done | rfl)⟩, ⟨_, rfl, by first | exact BLe.rf | exact ble_eq (by rw [hno]; first | done | rfl)⟩, ⟨_, rfl, by first | exact BLe.rf | (refine BLe.arr ?_; rw [hno]; first | done | rfl)⟩, trivial⟩, ⟨⟨rfl, .inl nofun, fun _ _ => ⟨_, rfl⟩⟩, trivial⟩, rfl⟩⟩
 try simp only [tdy] at h38
 refine AL_g rfl rfl (x_move rfl rfl) ?_
 refine AL_g rfl rfl (x_nilc rfl rfl rfl) ?_
 refine AL_g rfl rfl (x_field (off := 0) (o' := 0) rfl rfl rfl (by kernel_rfl) rfl) ?_
 refine AL_g rfl rfl (x_load1 rfl rfl rfl (by kernel_rfl) rfl) ?_
 refine AL_g rfl rfl (x_move rfl rfl) ?_
 refine AL_g rfl rfl (x_nilc rfl rfl rfl) ?_
 refine AL_g rfl rfl (x_field (off := 1) (o' := 1) rfl rfl rfl (by kernel_rfl) rfl) ?_
 refine AL_g rfl rfl (x_load1 rfl rfl rfl (by kernel_rfl) rfl) ?_
 refine AL_g rfl rfl (x_add rfl rfl rfl (IntWalk.i64_in _ (by omega))) ?_
 refine AL_g rfl rfl (x_index (E := 83) (n := 4) rfl rfl rfl (by kernel_rfl) rfl (k := st.i + 1) (by omega) (by omega)) ?_
 refine AL_g rfl rfl (x_efield (off := 0) (o' := 0) rfl rfl (by kernel_rfl) rfl) ?_
 refine AL_g rfl rfl (x_eload1 rfl rfl (by kernel_rfl) rfl) ?_
 refine AL_gb rfl rfl (x_eql rfl rfl rfl) (fun b53 h53 => ?_)
 refine AL_p (x_pickT rfl rfl rfl) ?_
 refine AL_p (x_move rfl rfl) ?_
 cases b53
 · try simp only [tdy] at h53
   have hop : openT tk e st = false := (open_at h26 (by omega)).trans (by simp [signT, h53])
   refine AL_o rfl rfl rfl rfl ?_
   refine AL_o rfl rfl rfl rfl ?_
   refine AL_o rfl rfl rfl rfl ?_
   refine AL_o rfl rfl rfl rfl ?_
   refine AL_o rfl rfl rfl rfl ?_
   refine AL_o rfl rfl rfl rfl ?_
   refine AL_o rfl rfl rfl rfl ?_
   refine AL_o rfl rfl rfl rfl ?_
   refine AL_o rfl rfl rfl rfl ?_
   refine AL_o rfl rfl rfl rfl ?_
   refine AL_o rfl rfl rfl rfl ?_
   refine AL_o rfl rfl rfl rfl ?_
   refine AL_o rfl rfl rfl rfl ?_
   refine AL_p (x_pickF rfl rfl rfl) ?_
   refine AL_nild (by kernel_rfl) ?_
   refine AW_condF rfl ?_
   refine AW_skip ?_
   refine AW_seq ?_
   refine AW_region ?_
   refine AL_p (x_build (zs := [.int .i64 0, .string ⟨#[]⟩, .slice none 0 0, .int .i64 0, .string ⟨#[]⟩, .int .i64 0, .string ⟨#[]⟩, .string ⟨#[]⟩, .int .i64 0, .string ⟨#[]⟩]) (places := [(0, 1), (1, 2), (3, 1), (4, 3), (7, 3)]) rfl (by kernel_rfl) rfl rfl rfl rfl rfl) ?_
   refine AL_p (x_alloc (z := .agg #[.int .i64 0, .string ⟨#[]⟩, .slice none 0 0, .int .i64 0, .string ⟨#[]⟩, .int .i64 0, .string ⟨#[]⟩, .string ⟨#[]⟩, .int .i64 0, .string ⟨#[]⟩]) 104 rfl (by kernel_rfl) rfl rfl rfl rfl) ?_
   refine AL_p (x_store (n := 10) rfl rfl rfl rfl (by kernel_rfl) rfl rfl rfl) ?_
   refine AL_nil ?_
   refine AW_seq ?_
   refine AW_region ?_
   refine AL_p (x_move rfl rfl) ?_
   refine AL_p (x_call (ks := []) (L := [(200, some _)]) (L' := [(200, some _)]) rfl rfl rfl (pTerm_c tk e st hm hi) rfl AllV.rf (caught_of rfl) rfl rfl rfl ⟨rfl, trivial⟩ rfl) ?_
   refine AL_p (x_field (off := 4) (o' := 4) rfl rfl rfl (by kernel_rfl) rfl) ?_
   refine AL_p (x_store (n := 3) rfl rfl rfl rfl (by kernel_rfl) rfl rfl rfl) ?_
   refine AL_nil ?_
   refine AW_seq ?_
   refine AW_region ?_
   refine AL_p (x_move rfl rfl) ?_
   refine AL_p (x_call (ks := []) (L := [(200, some _)]) (L' := [(200, some _)]) rfl rfl rfl (pHere_c tk e (termP tk e false st).2 hm (term_le hi)) rfl AllV.rf (caught_of rfl) rfl rfl rfl ⟨rfl, trivial⟩ rfl) ?_
   refine AL_p (x_store (n := 4) rfl rfl rfl rfl (by kernel_rfl) rfl rfl rfl) ?_
   refine AL_nil ?_
   refine AW_seq ?_
   refine AW_seq ?_
   refine AW_region ?_
   refine AL_p (x_field (off := 0) (o' := 0) rfl rfl rfl (by kernel_rfl) rfl) ?_
   refine AL_p (x_load1 rfl rfl rfl (by kernel_rfl) rfl) ?_
   refine AL_b (x_eql rfl rfl rfl) (fun b81 h81 => ?_)
   refine AL_nil ?_
   cases b81
   · try simp only [tdy] at h81
     have ho2 : opI (hereT tk e (termP tk e false st).2) = _ := if_neg h81
     refine AW_condF rfl ?_
     refine AW_skip ?_
     refine AW_seq ?_
     refine AW_seq ?_
     refine AW_region ?_
     refine AL_p (x_field (off := 3) (o' := 3) rfl rfl rfl (by kernel_rfl) rfl) ?_
     refine AL_p (x_load1 rfl rfl rfl (by kernel_rfl) rfl) ?_
     refine AL_b (x_lss rfl rfl rfl) (fun b88 h88 => ?_)
     refine AL_nil ?_
     cases b88
     rotate_left
     · try simp only [tdy] at h88
       have hno := litI_bad hnt hop (by rw [ho2]; omega)
       rw [ho2] at hno
       refine AW_condT rfl ?_
       refine AW_seq ?_
       refine AW_region ?_
       refine AL_p (x_move rfl rfl) ?_
       refine AL_p (x_call (ks := []) (L := [(200, some _)]) (L' := [(200, some _)]) rfl rfl rfl (pFail_c tk e (termP tk e false st).2 hm (term_le hi) 6) rfl AllV.rf (caught_of rfl) rfl rfl rfl ⟨rfl, trivial⟩ rfl) ?_
       refine AL_nil ?_
       refine AW_seq ?_
       refine AW_region ?_
       refine AL_p (x_loadN (n := 10) rfl rfl rfl (by kernel_rfl) rfl rfl) ?_
       refine AL_p (x_store (n := 10) rfl rfl rfl rfl (by kernel_rfl) rfl rfl rfl) ?_
       refine AL_nil ?_
       refine AW_adopt (T := 70) (e := termE) 105 100 2 rfl rfl rfl rfl rfl ?_
       refine AW_ret ?_
       exact ⟨rn [(9, 100), (0, 105)], ⟨⟨⟨_, rfl, VLe.rf⟩, trivial⟩, ⟨⟨_, rfl, by first | exact BLe.rf | exact ble_eq (by rw [hno]; first | done | rfl)⟩, ⟨_, rfl, by first | exact BLe.rf | exact ble_eq (by rw [hno]; first | done | rfl)⟩, ⟨_, rfl, by first | exact BLe.rf | (refine BLe.arr ?_; rw [hno]; first | done | rfl)⟩, trivial⟩, ⟨⟨rfl, .inl nofun, fun _ _ => ⟨_, rfl⟩⟩, trivial⟩, rfl⟩⟩
     try simp only [tdy] at h88
     have hlt := next_le (op_lt (tk := tk) (e := e) (st := (termP tk e false st).2) (by rw [ho2]; omega))
     have hlt2 : (termP tk e false st).2.i < tk.length := hlt
     have hno := litI_cmp hnt hop (by rw [ho2]; omega)
     rw [ho2] at hno
     refine AW_condF rfl ?_
     refine AW_skip ?_
     refine AW_seq ?_
     refine AW_region ?_
     refine AL_p (x_move rfl rfl) ?_
     refine AL_p (x_nilc rfl rfl rfl) ?_
     refine AL_p (x_field (off := 1) (o' := 1) rfl rfl rfl (by kernel_rfl) rfl) ?_
     refine AL_p (x_load1 rfl rfl rfl (by kernel_rfl) rfl) ?_
     refine AL_p (x_add rfl rfl rfl (IntWalk.i64_in _ (by omega))) ?_
     refine AL_p (x_nilc rfl rfl rfl) ?_
     refine AL_p (x_field (off := 1) (o' := 1) rfl rfl rfl (by kernel_rfl) rfl) ?_
     refine AL_p (x_store (n := 1) rfl rfl rfl rfl (by kernel_rfl) rfl rfl rfl) ?_
     refine AL_nil ?_
     refine AW_seq ?_
     refine AW_region ?_
     refine AL_p (x_move rfl rfl) ?_
     refine AL_p (x_call (ks := []) (L := [(200, some _)]) (L' := [(200, some _)]) rfl rfl rfl (pTerm_c tk e (termP tk e false st).2.next hm hlt) rfl AllV.rf (caught_of rfl) rfl rfl rfl ⟨rfl, trivial⟩ rfl) ?_
     refine AL_p (x_field (off := 7) (o' := 7) rfl rfl rfl (by kernel_rfl) rfl) ?_
     refine AL_p (x_store (n := 3) rfl rfl rfl rfl (by kernel_rfl) rfl rfl rfl) ?_
     refine AL_nil ?_
     refine AW_seq ?_
     refine AW_region ?_
     refine AL_p (x_loadN (n := 10) rfl rfl rfl (by kernel_rfl) rfl rfl) ?_
     refine AL_p (x_store (n := 10) rfl rfl rfl rfl (by kernel_rfl) rfl rfl rfl) ?_
     refine AL_nil ?_
     refine AW_adopt (T := 70) (e := termE) 105 100 2 rfl rfl rfl rfl rfl ?_
     refine AW_ret ?_
     exact ⟨rn [(9, 100), (0, 105)], ⟨⟨⟨_, rfl, VLe.rf⟩, trivial⟩, ⟨⟨_, rfl, by first | exact BLe.rf | exact ble_eq (by rw [hno]; first | done | rfl)⟩, ⟨_, rfl, by first | exact BLe.rf | exact ble_eq (by rw [hno]; first | done | rfl)⟩, ⟨_, rfl, by first | exact BLe.rf | (refine BLe.arr ?_; rw [hno]; first | done | rfl)⟩, trivial⟩, ⟨⟨rfl, .inl nofun, fun _ _ => ⟨_, rfl⟩⟩, trivial⟩, rfl⟩⟩
   try simp only [tdy] at h81
   have ho2 : opI (hereT tk e (termP tk e false st).2) = _ := if_pos h81
   refine AW_condT rfl ?_
   refine AW_region ?_
   refine AL_p (x_field (off := 2) (o' := 2) rfl rfl rfl (by kernel_rfl) rfl) ?_
   refine AL_p (x_load1 rfl rfl rfl (by kernel_rfl) rfl) ?_
   refine AL_p (x_call0 rfl rfl rfl (pOpOf_c _) rfl rfl) ?_
   refine AL_p (x_field (off := 3) (o' := 3) rfl rfl rfl (by kernel_rfl) rfl) ?_
   refine AL_p (x_store (n := 1) rfl rfl rfl rfl (by kernel_rfl) rfl rfl rfl) ?_
   refine AL_nil ?_
   refine AW_seq ?_
   refine AW_seq ?_
   refine AW_region ?_
   refine AL_p (x_field (off := 3) (o' := 3) rfl rfl rfl (by kernel_rfl) rfl) ?_
   refine AL_p (x_load1 rfl rfl rfl (by kernel_rfl) rfl) ?_
   refine AL_b (x_lss rfl rfl rfl) (fun b88 h88 => ?_)
   refine AL_nil ?_
   cases b88
   rotate_left
   · try simp only [tdy] at h88
     have hno := litI_bad hnt hop (by rw [ho2]; omega)
     rw [ho2] at hno
     refine AW_condT rfl ?_
     refine AW_seq ?_
     refine AW_region ?_
     refine AL_p (x_move rfl rfl) ?_
     refine AL_p (x_call (ks := []) (L := [(200, some _)]) (L' := [(200, some _)]) rfl rfl rfl (pFail_c tk e (termP tk e false st).2 hm (term_le hi) 6) rfl AllV.rf (caught_of rfl) rfl rfl rfl ⟨rfl, trivial⟩ rfl) ?_
     refine AL_nil ?_
     refine AW_seq ?_
     refine AW_region ?_
     refine AL_p (x_loadN (n := 10) rfl rfl rfl (by kernel_rfl) rfl rfl) ?_
     refine AL_p (x_store (n := 10) rfl rfl rfl rfl (by kernel_rfl) rfl rfl rfl) ?_
     refine AL_nil ?_
     refine AW_adopt (T := 70) (e := termE) 105 100 2 rfl rfl rfl rfl rfl ?_
     refine AW_ret ?_
     exact ⟨rn [(9, 100), (0, 105)], ⟨⟨⟨_, rfl, VLe.rf⟩, trivial⟩, ⟨⟨_, rfl, by first | exact BLe.rf | exact ble_eq (by rw [hno]; first | done | rfl)⟩, ⟨_, rfl, by first | exact BLe.rf | exact ble_eq (by rw [hno]; first | done | rfl)⟩, ⟨_, rfl, by first | exact BLe.rf | (refine BLe.arr ?_; rw [hno]; first | done | rfl)⟩, trivial⟩, ⟨⟨rfl, .inl nofun, fun _ _ => ⟨_, rfl⟩⟩, trivial⟩, rfl⟩⟩
   try simp only [tdy] at h88
   have hlt := next_le (op_lt (tk := tk) (e := e) (st := (termP tk e false st).2) (by rw [ho2]; omega))
   have hlt2 : (termP tk e false st).2.i < tk.length := hlt
   have hno := litI_cmp hnt hop (by rw [ho2]; omega)
   rw [ho2] at hno
   refine AW_condF rfl ?_
   refine AW_skip ?_
   refine AW_seq ?_
   refine AW_region ?_
   refine AL_p (x_move rfl rfl) ?_
   refine AL_p (x_nilc rfl rfl rfl) ?_
   refine AL_p (x_field (off := 1) (o' := 1) rfl rfl rfl (by kernel_rfl) rfl) ?_
   refine AL_p (x_load1 rfl rfl rfl (by kernel_rfl) rfl) ?_
   refine AL_p (x_add rfl rfl rfl (IntWalk.i64_in _ (by omega))) ?_
   refine AL_p (x_nilc rfl rfl rfl) ?_
   refine AL_p (x_field (off := 1) (o' := 1) rfl rfl rfl (by kernel_rfl) rfl) ?_
   refine AL_p (x_store (n := 1) rfl rfl rfl rfl (by kernel_rfl) rfl rfl rfl) ?_
   refine AL_nil ?_
   refine AW_seq ?_
   refine AW_region ?_
   refine AL_p (x_move rfl rfl) ?_
   refine AL_p (x_call (ks := []) (L := [(200, some _)]) (L' := [(200, some _)]) rfl rfl rfl (pTerm_c tk e (termP tk e false st).2.next hm hlt) rfl AllV.rf (caught_of rfl) rfl rfl rfl ⟨rfl, trivial⟩ rfl) ?_
   refine AL_p (x_field (off := 7) (o' := 7) rfl rfl rfl (by kernel_rfl) rfl) ?_
   refine AL_p (x_store (n := 3) rfl rfl rfl rfl (by kernel_rfl) rfl rfl rfl) ?_
   refine AL_nil ?_
   refine AW_seq ?_
   refine AW_region ?_
   refine AL_p (x_loadN (n := 10) rfl rfl rfl (by kernel_rfl) rfl rfl) ?_
   refine AL_p (x_store (n := 10) rfl rfl rfl rfl (by kernel_rfl) rfl rfl rfl) ?_
   refine AL_nil ?_
   refine AW_adopt (T := 70) (e := termE) 105 100 2 rfl rfl rfl rfl rfl ?_
   refine AW_ret ?_
   exact ⟨rn [(9, 100), (0, 105)], ⟨⟨⟨_, rfl, VLe.rf⟩, trivial⟩, ⟨⟨_, rfl, by first | exact BLe.rf | exact ble_eq (by rw [hno]; first | done | rfl)⟩, ⟨_, rfl, by first | exact BLe.rf | exact ble_eq (by rw [hno]; first | done | rfl)⟩, ⟨_, rfl, by first | exact BLe.rf | (refine BLe.arr ?_; rw [hno]; first | done | rfl)⟩, trivial⟩, ⟨⟨rfl, .inl nofun, fun _ _ => ⟨_, rfl⟩⟩, trivial⟩, rfl⟩⟩
 try simp only [tdy] at h53
 refine AL_g rfl rfl (x_move rfl rfl) ?_
 refine AL_g rfl rfl (x_nilc rfl rfl rfl) ?_
 refine AL_g rfl rfl (x_field (off := 0) (o' := 0) rfl rfl rfl (by kernel_rfl) rfl) ?_
 refine AL_g rfl rfl (x_load1 rfl rfl rfl (by kernel_rfl) rfl) ?_
 refine AL_g rfl rfl (x_move rfl rfl) ?_
 refine AL_g rfl rfl (x_nilc rfl rfl rfl) ?_
 refine AL_g rfl rfl (x_field (off := 1) (o' := 1) rfl rfl rfl (by kernel_rfl) rfl) ?_
 refine AL_g rfl rfl (x_load1 rfl rfl rfl (by kernel_rfl) rfl) ?_
 refine AL_g rfl rfl (x_add rfl rfl rfl (IntWalk.i64_in _ (by omega))) ?_
 refine AL_g rfl rfl (x_index (E := 83) (n := 4) rfl rfl rfl (by kernel_rfl) rfl (k := st.i + 1) (by omega) (by omega)) ?_
 refine AL_g rfl rfl (x_efield (off := 2) (o' := 2) rfl rfl (by kernel_rfl) rfl) ?_
 refine AL_g rfl rfl (x_eload1 rfl rfl (by kernel_rfl) rfl) ?_
 refine AL_gb rfl rfl (x_seql rfl rfl rfl) (fun b68 h68 => ?_)
 refine AL_p (x_pickT rfl rfl rfl) ?_
 refine AL_nild (by kernel_rfl) ?_
 cases b68
 rotate_left
 · try simp only [tdy] at h68
   have hop : openT tk e st = true := (open_at h26 (by omega)).trans (by simp [signT, h53, h68])
   have hno := litI_is hnt hop
   refine AW_condT rfl ?_
   refine AW_seq ?_
   refine AW_region ?_
   refine AL_p (x_move rfl rfl) ?_
   refine AL_p (x_call (ks := []) (L := [(200, some _)]) (L' := [(200, some _), (103, some _)]) rfl rfl rfl (pAtomI_c tk e st hm hi 103 rfl) rfl AllV.rf (caught_of rfl) rfl rfl rfl ⟨rfl, trivial⟩ rfl) ?_
   refine AL_p (x_build (zs := [.int .i64 0, .string ⟨#[]⟩, .slice none 0 0, .int .i64 0, .string ⟨#[]⟩, .int .i64 0, .string ⟨#[]⟩, .string ⟨#[]⟩, .int .i64 0, .string ⟨#[]⟩]) (places := [(0, 1), (1, 2), (3, 1), (4, 3), (7, 3)]) rfl (by kernel_rfl) rfl rfl rfl rfl rfl) ?_
   refine AL_p (x_store (n := 10) rfl rfl rfl rfl (by kernel_rfl) rfl rfl rfl) ?_
   refine AL_nil ?_
   refine AW_ret ?_
   exact ⟨rn [(9, 100), (0, 103)], ⟨⟨⟨_, rfl, VLe.rf⟩, trivial⟩, ⟨⟨_, rfl, by first | exact BLe.rf | exact ble_eq (by rw [hno]; first | done | rfl)⟩, ⟨_, rfl, by first | exact BLe.rf | exact ble_eq (by rw [hno]; first | done | rfl)⟩, ⟨_, rfl, by first | exact BLe.rf | (refine BLe.arr ?_; rw [hno]; first | done | rfl)⟩, trivial⟩, ⟨⟨rfl, .inl nofun, fun _ _ => ⟨_, rfl⟩⟩, trivial⟩, rfl⟩⟩
 try simp only [tdy] at h68
 have hop : openT tk e st = false := (open_at h26 (by omega)).trans (by simp [signT, h53, h68])
 refine AW_condF rfl ?_
 refine AW_skip ?_
 refine AW_seq ?_
 refine AW_region ?_
 refine AL_p (x_build (zs := [.int .i64 0, .string ⟨#[]⟩, .slice none 0 0, .int .i64 0, .string ⟨#[]⟩, .int .i64 0, .string ⟨#[]⟩, .string ⟨#[]⟩, .int .i64 0, .string ⟨#[]⟩]) (places := [(0, 1), (1, 2), (3, 1), (4, 3), (7, 3)]) rfl (by kernel_rfl) rfl rfl rfl rfl rfl) ?_
 refine AL_p (x_alloc (z := .agg #[.int .i64 0, .string ⟨#[]⟩, .slice none 0 0, .int .i64 0, .string ⟨#[]⟩, .int .i64 0, .string ⟨#[]⟩, .string ⟨#[]⟩, .int .i64 0, .string ⟨#[]⟩]) 104 rfl (by kernel_rfl) rfl rfl rfl rfl) ?_
 refine AL_p (x_store (n := 10) rfl rfl rfl rfl (by kernel_rfl) rfl rfl rfl) ?_
 refine AL_nil ?_
 refine AW_seq ?_
 refine AW_region ?_
 refine AL_p (x_move rfl rfl) ?_
 refine AL_p (x_call (ks := []) (L := [(200, some _)]) (L' := [(200, some _)]) rfl rfl rfl (pTerm_c tk e st hm hi) rfl AllV.rf (caught_of rfl) rfl rfl rfl ⟨rfl, trivial⟩ rfl) ?_
 refine AL_p (x_field (off := 4) (o' := 4) rfl rfl rfl (by kernel_rfl) rfl) ?_
 refine AL_p (x_store (n := 3) rfl rfl rfl rfl (by kernel_rfl) rfl rfl rfl) ?_
 refine AL_nil ?_
 refine AW_seq ?_
 refine AW_region ?_
 refine AL_p (x_move rfl rfl) ?_
 refine AL_p (x_call (ks := []) (L := [(200, some _)]) (L' := [(200, some _)]) rfl rfl rfl (pHere_c tk e (termP tk e false st).2 hm (term_le hi)) rfl AllV.rf (caught_of rfl) rfl rfl rfl ⟨rfl, trivial⟩ rfl) ?_
 refine AL_p (x_store (n := 4) rfl rfl rfl rfl (by kernel_rfl) rfl rfl rfl) ?_
 refine AL_nil ?_
 refine AW_seq ?_
 refine AW_seq ?_
 refine AW_region ?_
 refine AL_p (x_field (off := 0) (o' := 0) rfl rfl rfl (by kernel_rfl) rfl) ?_
 refine AL_p (x_load1 rfl rfl rfl (by kernel_rfl) rfl) ?_
 refine AL_b (x_eql rfl rfl rfl) (fun b81 h81 => ?_)
 refine AL_nil ?_
 cases b81
 · try simp only [tdy] at h81
   have ho2 : opI (hereT tk e (termP tk e false st).2) = _ := if_neg h81
   refine AW_condF rfl ?_
   refine AW_skip ?_
   refine AW_seq ?_
   refine AW_seq ?_
   refine AW_region ?_
   refine AL_p (x_field (off := 3) (o' := 3) rfl rfl rfl (by kernel_rfl) rfl) ?_
   refine AL_p (x_load1 rfl rfl rfl (by kernel_rfl) rfl) ?_
   refine AL_b (x_lss rfl rfl rfl) (fun b88 h88 => ?_)
   refine AL_nil ?_
   cases b88
   rotate_left
   · try simp only [tdy] at h88
     have hno := litI_bad hnt hop (by rw [ho2]; omega)
     rw [ho2] at hno
     refine AW_condT rfl ?_
     refine AW_seq ?_
     refine AW_region ?_
     refine AL_p (x_move rfl rfl) ?_
     refine AL_p (x_call (ks := []) (L := [(200, some _)]) (L' := [(200, some _)]) rfl rfl rfl (pFail_c tk e (termP tk e false st).2 hm (term_le hi) 6) rfl AllV.rf (caught_of rfl) rfl rfl rfl ⟨rfl, trivial⟩ rfl) ?_
     refine AL_nil ?_
     refine AW_seq ?_
     refine AW_region ?_
     refine AL_p (x_loadN (n := 10) rfl rfl rfl (by kernel_rfl) rfl rfl) ?_
     refine AL_p (x_store (n := 10) rfl rfl rfl rfl (by kernel_rfl) rfl rfl rfl) ?_
     refine AL_nil ?_
     refine AW_adopt (T := 70) (e := termE) 105 100 2 rfl rfl rfl rfl rfl ?_
     refine AW_ret ?_
     exact ⟨rn [(9, 100), (0, 105)], ⟨⟨⟨_, rfl, VLe.rf⟩, trivial⟩, ⟨⟨_, rfl, by first | exact BLe.rf | exact ble_eq (by rw [hno]; first | done | rfl)⟩, ⟨_, rfl, by first | exact BLe.rf | exact ble_eq (by rw [hno]; first | done | rfl)⟩, ⟨_, rfl, by first | exact BLe.rf | (refine BLe.arr ?_; rw [hno]; first | done | rfl)⟩, trivial⟩, ⟨⟨rfl, .inl nofun, fun _ _ => ⟨_, rfl⟩⟩, trivial⟩, rfl⟩⟩
   try simp only [tdy] at h88
   have hlt := next_le (op_lt (tk := tk) (e := e) (st := (termP tk e false st).2) (by rw [ho2]; omega))
   have hlt2 : (termP tk e false st).2.i < tk.length := hlt
   have hno := litI_cmp hnt hop (by rw [ho2]; omega)
   rw [ho2] at hno
   refine AW_condF rfl ?_
   refine AW_skip ?_
   refine AW_seq ?_
   refine AW_region ?_
   refine AL_p (x_move rfl rfl) ?_
   refine AL_p (x_nilc rfl rfl rfl) ?_
   refine AL_p (x_field (off := 1) (o' := 1) rfl rfl rfl (by kernel_rfl) rfl) ?_
   refine AL_p (x_load1 rfl rfl rfl (by kernel_rfl) rfl) ?_
   refine AL_p (x_add rfl rfl rfl (IntWalk.i64_in _ (by omega))) ?_
   refine AL_p (x_nilc rfl rfl rfl) ?_
   refine AL_p (x_field (off := 1) (o' := 1) rfl rfl rfl (by kernel_rfl) rfl) ?_
   refine AL_p (x_store (n := 1) rfl rfl rfl rfl (by kernel_rfl) rfl rfl rfl) ?_
   refine AL_nil ?_
   refine AW_seq ?_
   refine AW_region ?_
   refine AL_p (x_move rfl rfl) ?_
   refine AL_p (x_call (ks := []) (L := [(200, some _)]) (L' := [(200, some _)]) rfl rfl rfl (pTerm_c tk e (termP tk e false st).2.next hm hlt) rfl AllV.rf (caught_of rfl) rfl rfl rfl ⟨rfl, trivial⟩ rfl) ?_
   refine AL_p (x_field (off := 7) (o' := 7) rfl rfl rfl (by kernel_rfl) rfl) ?_
   refine AL_p (x_store (n := 3) rfl rfl rfl rfl (by kernel_rfl) rfl rfl rfl) ?_
   refine AL_nil ?_
   refine AW_seq ?_
   refine AW_region ?_
   refine AL_p (x_loadN (n := 10) rfl rfl rfl (by kernel_rfl) rfl rfl) ?_
   refine AL_p (x_store (n := 10) rfl rfl rfl rfl (by kernel_rfl) rfl rfl rfl) ?_
   refine AL_nil ?_
   refine AW_adopt (T := 70) (e := termE) 105 100 2 rfl rfl rfl rfl rfl ?_
   refine AW_ret ?_
   exact ⟨rn [(9, 100), (0, 105)], ⟨⟨⟨_, rfl, VLe.rf⟩, trivial⟩, ⟨⟨_, rfl, by first | exact BLe.rf | exact ble_eq (by rw [hno]; first | done | rfl)⟩, ⟨_, rfl, by first | exact BLe.rf | exact ble_eq (by rw [hno]; first | done | rfl)⟩, ⟨_, rfl, by first | exact BLe.rf | (refine BLe.arr ?_; rw [hno]; first | done | rfl)⟩, trivial⟩, ⟨⟨rfl, .inl nofun, fun _ _ => ⟨_, rfl⟩⟩, trivial⟩, rfl⟩⟩
 try simp only [tdy] at h81
 have ho2 : opI (hereT tk e (termP tk e false st).2) = _ := if_pos h81
 refine AW_condT rfl ?_
 refine AW_region ?_
 refine AL_p (x_field (off := 2) (o' := 2) rfl rfl rfl (by kernel_rfl) rfl) ?_
 refine AL_p (x_load1 rfl rfl rfl (by kernel_rfl) rfl) ?_
 refine AL_p (x_call0 rfl rfl rfl (pOpOf_c _) rfl rfl) ?_
 refine AL_p (x_field (off := 3) (o' := 3) rfl rfl rfl (by kernel_rfl) rfl) ?_
 refine AL_p (x_store (n := 1) rfl rfl rfl rfl (by kernel_rfl) rfl rfl rfl) ?_
 refine AL_nil ?_
 refine AW_seq ?_
 refine AW_seq ?_
 refine AW_region ?_
 refine AL_p (x_field (off := 3) (o' := 3) rfl rfl rfl (by kernel_rfl) rfl) ?_
 refine AL_p (x_load1 rfl rfl rfl (by kernel_rfl) rfl) ?_
 refine AL_b (x_lss rfl rfl rfl) (fun b88 h88 => ?_)
 refine AL_nil ?_
 cases b88
 rotate_left
 · try simp only [tdy] at h88
   have hno := litI_bad hnt hop (by rw [ho2]; omega)
   rw [ho2] at hno
   refine AW_condT rfl ?_
   refine AW_seq ?_
   refine AW_region ?_
   refine AL_p (x_move rfl rfl) ?_
   refine AL_p (x_call (ks := []) (L := [(200, some _)]) (L' := [(200, some _)]) rfl rfl rfl (pFail_c tk e (termP tk e false st).2 hm (term_le hi) 6) rfl AllV.rf (caught_of rfl) rfl rfl rfl ⟨rfl, trivial⟩ rfl) ?_
   refine AL_nil ?_
   refine AW_seq ?_
   refine AW_region ?_
   refine AL_p (x_loadN (n := 10) rfl rfl rfl (by kernel_rfl) rfl rfl) ?_
   refine AL_p (x_store (n := 10) rfl rfl rfl rfl (by kernel_rfl) rfl rfl rfl) ?_
   refine AL_nil ?_
   refine AW_adopt (T := 70) (e := termE) 105 100 2 rfl rfl rfl rfl rfl ?_
   refine AW_ret ?_
   exact ⟨rn [(9, 100), (0, 105)], ⟨⟨⟨_, rfl, VLe.rf⟩, trivial⟩, ⟨⟨_, rfl, by first | exact BLe.rf | exact ble_eq (by rw [hno]; first | done | rfl)⟩, ⟨_, rfl, by first | exact BLe.rf | exact ble_eq (by rw [hno]; first | done | rfl)⟩, ⟨_, rfl, by first | exact BLe.rf | (refine BLe.arr ?_; rw [hno]; first | done | rfl)⟩, trivial⟩, ⟨⟨rfl, .inl nofun, fun _ _ => ⟨_, rfl⟩⟩, trivial⟩, rfl⟩⟩
 try simp only [tdy] at h88
 have hlt := next_le (op_lt (tk := tk) (e := e) (st := (termP tk e false st).2) (by rw [ho2]; omega))
 have hlt2 : (termP tk e false st).2.i < tk.length := hlt
 have hno := litI_cmp hnt hop (by rw [ho2]; omega)
 rw [ho2] at hno
 refine AW_condF rfl ?_
 refine AW_skip ?_
 refine AW_seq ?_
 refine AW_region ?_
 refine AL_p (x_move rfl rfl) ?_
 refine AL_p (x_nilc rfl rfl rfl) ?_
 refine AL_p (x_field (off := 1) (o' := 1) rfl rfl rfl (by kernel_rfl) rfl) ?_
 refine AL_p (x_load1 rfl rfl rfl (by kernel_rfl) rfl) ?_
 refine AL_p (x_add rfl rfl rfl (IntWalk.i64_in _ (by omega))) ?_
 refine AL_p (x_nilc rfl rfl rfl) ?_
 refine AL_p (x_field (off := 1) (o' := 1) rfl rfl rfl (by kernel_rfl) rfl) ?_
 refine AL_p (x_store (n := 1) rfl rfl rfl rfl (by kernel_rfl) rfl rfl rfl) ?_
 refine AL_nil ?_
 refine AW_seq ?_
 refine AW_region ?_
 refine AL_p (x_move rfl rfl) ?_
 refine AL_p (x_call (ks := []) (L := [(200, some _)]) (L' := [(200, some _)]) rfl rfl rfl (pTerm_c tk e (termP tk e false st).2.next hm hlt) rfl AllV.rf (caught_of rfl) rfl rfl rfl ⟨rfl, trivial⟩ rfl) ?_
 refine AL_p (x_field (off := 7) (o' := 7) rfl rfl rfl (by kernel_rfl) rfl) ?_
 refine AL_p (x_store (n := 3) rfl rfl rfl rfl (by kernel_rfl) rfl rfl rfl) ?_
 refine AL_nil ?_
 refine AW_seq ?_
 refine AW_region ?_
 refine AL_p (x_loadN (n := 10) rfl rfl rfl (by kernel_rfl) rfl rfl) ?_
 refine AL_p (x_store (n := 10) rfl rfl rfl rfl (by kernel_rfl) rfl rfl rfl) ?_
 refine AL_nil ?_
 refine AW_adopt (T := 70) (e := termE) 105 100 2 rfl rfl rfl rfl rfl ?_
 refine AW_ret ?_
 exact ⟨rn [(9, 100), (0, 105)], ⟨⟨⟨_, rfl, VLe.rf⟩, trivial⟩, ⟨⟨_, rfl, by first | exact BLe.rf | exact ble_eq (by rw [hno]; first | done | rfl)⟩, ⟨_, rfl, by first | exact BLe.rf | exact ble_eq (by rw [hno]; first | done | rfl)⟩, ⟨_, rfl, by first | exact BLe.rf | (refine BLe.arr ?_; rw [hno]; first | done | rfl)⟩, trivial⟩, ⟨⟨rfl, .inl nofun, fun _ _ => ⟨_, rfl⟩⟩, trivial⟩, rfl⟩⟩

theorem pLitI_c (tk : List Tokent) (e : Int) (st : PS) (hm : tk.length ≤ 1048576) (hi : st.i ≤ tk.length) (k : Nat) (hk : Nat.beq k 200 = false) : AC Try.prog 144 [.one (.ptr 200 0)] [(200, some (psB tk e st))] (.agg (litK (litI tk e st).1 k)) [(200, some (psB tk e (litI tk e st).2)), (k, some (.arr 70 termE (litI tk e st).1.atom.args true))] := AC.ps (pLitI_c0 tk e st hm hi) k hk (fun r h => litK_ren h) (fun _ => rfl)

set_option maxHeartbeats 4000000 in
theorem pBodyI_c0 (tk : List Tokent) (e : Int) (st : PS) (hm : tk.length ≤ 1048576) (hi : st.i ≤ tk.length) : AC Try.prog 114 [.one (.ptr 200 0)] [(200, some (psB tk e st))] (.one (.own 0)) [(200, some (psB tk e (bodyI tk e 10 st []).2)), (0, some (.arr 72 litE (bodyI tk e 10 st []).1 true))] := by
 refine AC_body1 Try.func114 rfl rfl Try.ntmps114 rfl Try.results114 ?_
 refine AW_seq ?_
 refine AW_region ?_
 refine AL_p (x_assign rfl rfl) ?_
 refine AL_nil ?_
 refine AW_seq ?_
 refine AW_region ?_
 refine AL_p (y_bslice0 (E := 72) (e := litE) 100 rfl rfl rfl (by kernel_rfl)) ?_
 refine AL_p (x_assign rfl rfl) ?_
 refine AL_nil ?_
 refine AW_seq ?_
 refine AW_block ?_
 refine AW_loop2 (ι := {q : PS × List Litt // ((q.1).i ≤ tk.length ∧ (q.2).length ≤ 8) ∧ bodyI tk e (10 - (q.2).length) (q.1) (q.2) = bodyI tk e 10 st []}) (fun p => [(3, .one (.own 100))]) (fun p => [(100, some (.arr 72 litE (p.1.2) true)), (200, some (psB tk e (p.1.1)))]) [0] [] (fun p => 9 - (p.1.2).length) ⟨⟨st, []⟩, ⟨⟨hi, by simp⟩, rfl⟩⟩ (rn []) ?_ ?_
 exact ⟨by (repeat refine ⟨⟨_, rfl, by first | exact VLe.rf | exact vle_int (by dsimp only; omega)⟩, ?_⟩); exact trivial, by (repeat refine ⟨⟨_, rfl, by first | exact BLe.rf | exact BLe.box AllC.rf | exact BLe.arr (by exact rfl)⟩, ?_⟩); exact trivial, by repeat (first | exact trivial | refine ⟨⟨rfl, by first | (left; intro h; cases h) | (right; rfl), by first | exact (fun _ h => ⟨_, h⟩) | exact (fun _ _ => ⟨_, rfl⟩) | (intro _ h; cases h)⟩, ?_⟩), rfl⟩
 rintro ⟨⟨st1, a⟩, hinv⟩
 dsimp only
 have hi1 : st1.i ≤ tk.length := hinv.1.1
 have hl : a.length ≤ 8 := hinv.1.2
 refine AW_seq ?_
 refine AW_seq ?_
 refine AW_region ?_
 refine AL_p (x_move rfl rfl) ?_
 refine AL_p (x_nilc rfl rfl rfl) ?_
 refine AL_p (x_field (off := 3) (o' := 3) rfl rfl rfl (by kernel_rfl) rfl) ?_
 refine AL_p (x_load1 rfl rfl rfl (by kernel_rfl) rfl) ?_
 refine AL_b (x_eql rfl rfl rfl) (fun b10 h10 => ?_)
 refine AL_nil ?_
 cases b10
 · try simp only [tdy] at h10
   have hno := hinv.2.symm.trans (bodyI_bad h10)
   refine AW_condF rfl ?_
   refine AW_exit (BQ_hit ?_)
   refine AW_seq ?_
   refine AW_region ?_
   refine AL_p (x_move rfl rfl) ?_
   refine AL_p (x_assign rfl rfl) ?_
   refine AL_nil ?_
   refine AW_ret ?_
   exact ⟨rn [(0, 100)], ⟨⟨⟨_, rfl, VLe.rf⟩, trivial⟩, ⟨⟨_, rfl, by first | exact BLe.rf | exact ble_eq (by rw [hno]; first | done | rfl)⟩, ⟨_, rfl, by first | exact BLe.rf | (refine BLe.arr ?_; rw [hno]; first | done | rfl)⟩, trivial⟩, ⟨⟨rfl, .inl nofun, fun _ _ => ⟨_, rfl⟩⟩, trivial⟩, rfl⟩⟩
 try simp only [tdy] at h10
 refine AW_condT rfl ?_
 refine AW_skip ?_
 refine AW_block ?_
 refine AW_seq ?_
 refine AW_seq ?_
 refine AW_region ?_
 refine AL_p (x_move rfl rfl) ?_
 refine AL_bc (x_call (ks := []) (L := [(200, some _)]) (L' := [(200, some _)]) rfl rfl rfl (pStarts_c tk e st1 hm hi1) rfl AllV.rf (caught_of rfl) rfl rfl rfl ⟨rfl, trivial⟩ rfl) (fun b12 h12 => ?_)
 refine AL_p (x_move rfl rfl) ?_
 cases b12
 · try simp only [tdy] at h12
   have hnf : ¬ (beginsT (hereT tk e st1) = true ∧ (a.length : Int) = 8) := fun q => by rw [h12] at q; cases q.1
   refine AL_o rfl rfl rfl rfl ?_
   refine AL_o rfl rfl rfl rfl ?_
   refine AL_o rfl rfl rfl rfl ?_
   refine AL_p (x_pickF rfl rfl rfl) ?_
   refine AL_nil ?_
   refine AW_condF rfl ?_
   refine AW_skip ?_
   refine AW_seq ?_
   refine AW_region ?_
   refine AL_p (x_move rfl rfl) ?_
   refine AL_p (x_call (ks := []) (L := [(200, some _)]) (L' := [(200, some _), (101, some _)]) rfl rfl rfl (pLitI_c tk e st1 hm hi1 101 rfl) rfl AllV.rf (caught_of rfl) rfl rfl rfl ⟨rfl, trivial⟩ rfl) ?_
   refine AL_p (x_alloc (z := .agg #[.int .i64 0, .string ⟨#[]⟩, .slice none 0 0, .int .i64 0, .string ⟨#[]⟩, .int .i64 0, .string ⟨#[]⟩, .string ⟨#[]⟩, .int .i64 0, .string ⟨#[]⟩]) 102 rfl (by kernel_rfl) rfl rfl rfl rfl) ?_
   refine AL_p (x_store (n := 10) rfl rfl rfl rfl (by kernel_rfl) rfl rfl rfl) ?_
   refine AL_nil ?_
   refine AW_seq ?_
   refine AW_region ?_
   refine AL_p (x_move rfl rfl) ?_
   refine AL_p (x_loadN (n := 10) rfl rfl rfl (by kernel_rfl) rfl rfl) ?_
   refine AL_p (y_bslice (E := 72) (e := litE) [.tmp 23] ([(litI tk e st1).1]) 103 rfl rfl rfl rfl rfl rfl rfl rfl FitL.rf rfl rfl rfl rfl rfl rfl (by kernel_rfl)) ?_
   refine AL_p (y_append 104 rfl rfl rfl rfl rfl rfl rfl rfl (by kernel_rfl) (by simp only [List.length_append, List.length_cons, List.length_nil]; omega)) ?_
   refine AL_p (x_assign rfl rfl) ?_
   refine AL_nil ?_
   refine AW_seq ?_
   refine AW_seq ?_
   refine AW_region ?_
   refine AL_p (x_move rfl rfl) ?_
   refine AL_bc (x_call (ks := []) (L := [(200, some _)]) (L' := [(200, some _)]) rfl rfl rfl (pIsSign_c tk e (litI tk e st1).2 hm (litI_le hi1) ⟨#[44]⟩) rfl AllV.rf (caught_of rfl) rfl rfl rfl ⟨rfl, trivial⟩ rfl) (fun b27 h27 => ?_)
   refine AL_p (x_not rfl rfl) ?_
   refine AL_nil ?_
   cases b27
   · try simp only [tdy] at h27
     have hno := hinv.2.symm.trans (body_last h10 hnf hl h27)
     refine AW_condT rfl ?_
     refine AW_exit (BQ_miss rfl (BQ_hit ?_))
     refine AW_seq ?_
     refine AW_region ?_
     refine AL_p (x_move rfl rfl) ?_
     refine AL_p (x_assign rfl rfl) ?_
     refine AL_nil ?_
     refine AW_ret ?_
     exact ⟨rn [(0, 104)], ⟨⟨⟨_, rfl, VLe.rf⟩, trivial⟩, ⟨⟨_, rfl, by first | exact BLe.rf | exact ble_eq (by rw [hno]; first | done | rfl)⟩, ⟨_, rfl, by first | exact BLe.rf | (refine BLe.arr ?_; rw [hno]; first | done | rfl)⟩, trivial⟩, ⟨⟨rfl, .inl nofun, fun _ _ => ⟨_, rfl⟩⟩, trivial⟩, rfl⟩⟩
   try simp only [tdy] at h27
   have hmo := body_more h10 hnf hl h27
   have hlt := hmo.2.1
   have hmo1 := hmo.1
   refine AW_condF rfl ?_
   refine AW_skip ?_
   refine AW_region ?_
   refine AL_p (x_move rfl rfl) ?_
   refine AL_p (x_nilc rfl rfl rfl) ?_
   refine AL_p (x_field (off := 1) (o' := 1) rfl rfl rfl (by kernel_rfl) rfl) ?_
   refine AL_p (x_load1 rfl rfl rfl (by kernel_rfl) rfl) ?_
   refine AL_p (x_add rfl rfl rfl (IntWalk.i64_in _ (by omega))) ?_
   refine AL_p (x_nilc rfl rfl rfl) ?_
   refine AL_p (x_field (off := 1) (o' := 1) rfl rfl rfl (by kernel_rfl) rfl) ?_
   refine AL_p (x_store (n := 1) rfl rfl rfl rfl (by kernel_rfl) rfl rfl rfl) ?_
   refine AL_nil ?_
   refine ⟨⟨⟨(litI tk e st1).2.next, a ++ [(litI tk e st1).1]⟩, ⟨⟨hlt, by simp only [List.length_append, List.length_cons, List.length_nil]; omega⟩, hmo.2.2.trans hinv.2⟩⟩, rn [(100, 104)], ?_, by dsimp only; simp only [List.length_append, List.length_cons, List.length_nil]; omega⟩
   exact ⟨by (repeat refine ⟨⟨_, rfl, by first | exact VLe.rf | exact vle_int (by dsimp only; omega)⟩, ?_⟩); exact trivial, by (repeat refine ⟨⟨_, rfl, by first | exact BLe.rf | exact BLe.box AllC.rf | exact BLe.arr (by exact rfl)⟩, ?_⟩); exact trivial, by repeat (first | exact trivial | refine ⟨⟨rfl, by first | (left; intro h; cases h) | (right; rfl), by first | exact (fun _ h => ⟨_, h⟩) | exact (fun _ _ => ⟨_, rfl⟩) | (intro _ h; cases h)⟩, ?_⟩), rfl⟩
 try simp only [tdy] at h12
 refine AL_g rfl rfl (x_move rfl rfl) ?_
 refine AL_g rfl rfl (x_olen (E := 72) (n := 10) rfl rfl rfl (by kernel_rfl)) ?_
 refine AL_gb rfl rfl (x_eql rfl rfl rfl) (fun b16 h16 => ?_)
 refine AL_p (x_pickT rfl rfl rfl) ?_
 refine AL_nil ?_
 cases b16
 rotate_left
 · try simp only [tdy] at h16
   have hno := hinv.2.symm.trans (body_full h10 h12 h16)
   refine AW_condT rfl ?_
   refine AW_seq ?_
   refine AW_region ?_
   refine AL_p (x_move rfl rfl) ?_
   refine AL_p (x_call (ks := []) (L := [(200, some _)]) (L' := [(200, some _)]) rfl rfl rfl (pFail_c tk e st1 hm hi1 7) rfl AllV.rf (caught_of rfl) rfl rfl rfl ⟨rfl, trivial⟩ rfl) ?_
   refine AL_nil ?_
   refine AW_exit (BQ_miss rfl (BQ_hit ?_))
   refine AW_seq ?_
   refine AW_region ?_
   refine AL_p (x_move rfl rfl) ?_
   refine AL_p (x_assign rfl rfl) ?_
   refine AL_nil ?_
   refine AW_ret ?_
   exact ⟨rn [(0, 100)], ⟨⟨⟨_, rfl, VLe.rf⟩, trivial⟩, ⟨⟨_, rfl, by first | exact BLe.rf | exact ble_eq (by rw [hno]; first | done | rfl)⟩, ⟨_, rfl, by first | exact BLe.rf | (refine BLe.arr ?_; rw [hno]; first | done | rfl)⟩, trivial⟩, ⟨⟨rfl, .inl nofun, fun _ _ => ⟨_, rfl⟩⟩, trivial⟩, rfl⟩⟩
 try simp only [tdy] at h16
 have hnf : ¬ (beginsT (hereT tk e st1) = true ∧ (a.length : Int) = 8) := fun q => h16 q.2
 refine AW_condF rfl ?_
 refine AW_skip ?_
 refine AW_seq ?_
 refine AW_region ?_
 refine AL_p (x_move rfl rfl) ?_
 refine AL_p (x_call (ks := []) (L := [(200, some _)]) (L' := [(200, some _), (101, some _)]) rfl rfl rfl (pLitI_c tk e st1 hm hi1 101 rfl) rfl AllV.rf (caught_of rfl) rfl rfl rfl ⟨rfl, trivial⟩ rfl) ?_
 refine AL_p (x_alloc (z := .agg #[.int .i64 0, .string ⟨#[]⟩, .slice none 0 0, .int .i64 0, .string ⟨#[]⟩, .int .i64 0, .string ⟨#[]⟩, .string ⟨#[]⟩, .int .i64 0, .string ⟨#[]⟩]) 102 rfl (by kernel_rfl) rfl rfl rfl rfl) ?_
 refine AL_p (x_store (n := 10) rfl rfl rfl rfl (by kernel_rfl) rfl rfl rfl) ?_
 refine AL_nil ?_
 refine AW_seq ?_
 refine AW_region ?_
 refine AL_p (x_move rfl rfl) ?_
 refine AL_p (x_loadN (n := 10) rfl rfl rfl (by kernel_rfl) rfl rfl) ?_
 refine AL_p (y_bslice (E := 72) (e := litE) [.tmp 23] ([(litI tk e st1).1]) 103 rfl rfl rfl rfl rfl rfl rfl rfl FitL.rf rfl rfl rfl rfl rfl rfl (by kernel_rfl)) ?_
 refine AL_p (y_append 104 rfl rfl rfl rfl rfl rfl rfl rfl (by kernel_rfl) (by simp only [List.length_append, List.length_cons, List.length_nil]; omega)) ?_
 refine AL_p (x_assign rfl rfl) ?_
 refine AL_nil ?_
 refine AW_seq ?_
 refine AW_seq ?_
 refine AW_region ?_
 refine AL_p (x_move rfl rfl) ?_
 refine AL_bc (x_call (ks := []) (L := [(200, some _)]) (L' := [(200, some _)]) rfl rfl rfl (pIsSign_c tk e (litI tk e st1).2 hm (litI_le hi1) ⟨#[44]⟩) rfl AllV.rf (caught_of rfl) rfl rfl rfl ⟨rfl, trivial⟩ rfl) (fun b27 h27 => ?_)
 refine AL_p (x_not rfl rfl) ?_
 refine AL_nil ?_
 cases b27
 · try simp only [tdy] at h27
   have hno := hinv.2.symm.trans (body_last h10 hnf hl h27)
   refine AW_condT rfl ?_
   refine AW_exit (BQ_miss rfl (BQ_hit ?_))
   refine AW_seq ?_
   refine AW_region ?_
   refine AL_p (x_move rfl rfl) ?_
   refine AL_p (x_assign rfl rfl) ?_
   refine AL_nil ?_
   refine AW_ret ?_
   exact ⟨rn [(0, 104)], ⟨⟨⟨_, rfl, VLe.rf⟩, trivial⟩, ⟨⟨_, rfl, by first | exact BLe.rf | exact ble_eq (by rw [hno]; first | done | rfl)⟩, ⟨_, rfl, by first | exact BLe.rf | (refine BLe.arr ?_; rw [hno]; first | done | rfl)⟩, trivial⟩, ⟨⟨rfl, .inl nofun, fun _ _ => ⟨_, rfl⟩⟩, trivial⟩, rfl⟩⟩
 try simp only [tdy] at h27
 have hmo := body_more h10 hnf hl h27
 have hlt := hmo.2.1
 have hmo1 := hmo.1
 refine AW_condF rfl ?_
 refine AW_skip ?_
 refine AW_region ?_
 refine AL_p (x_move rfl rfl) ?_
 refine AL_p (x_nilc rfl rfl rfl) ?_
 refine AL_p (x_field (off := 1) (o' := 1) rfl rfl rfl (by kernel_rfl) rfl) ?_
 refine AL_p (x_load1 rfl rfl rfl (by kernel_rfl) rfl) ?_
 refine AL_p (x_add rfl rfl rfl (IntWalk.i64_in _ (by omega))) ?_
 refine AL_p (x_nilc rfl rfl rfl) ?_
 refine AL_p (x_field (off := 1) (o' := 1) rfl rfl rfl (by kernel_rfl) rfl) ?_
 refine AL_p (x_store (n := 1) rfl rfl rfl rfl (by kernel_rfl) rfl rfl rfl) ?_
 refine AL_nil ?_
 refine ⟨⟨⟨(litI tk e st1).2.next, a ++ [(litI tk e st1).1]⟩, ⟨⟨hlt, by simp only [List.length_append, List.length_cons, List.length_nil]; omega⟩, hmo.2.2.trans hinv.2⟩⟩, rn [(100, 104)], ?_, by dsimp only; simp only [List.length_append, List.length_cons, List.length_nil]; omega⟩
 exact ⟨by (repeat refine ⟨⟨_, rfl, by first | exact VLe.rf | exact vle_int (by dsimp only; omega)⟩, ?_⟩); exact trivial, by (repeat refine ⟨⟨_, rfl, by first | exact BLe.rf | exact BLe.box AllC.rf | exact BLe.arr (by exact rfl)⟩, ?_⟩); exact trivial, by repeat (first | exact trivial | refine ⟨⟨rfl, by first | (left; intro h; cases h) | (right; rfl), by first | exact (fun _ h => ⟨_, h⟩) | exact (fun _ _ => ⟨_, rfl⟩) | (intro _ h; cases h)⟩, ?_⟩), rfl⟩

theorem pBodyI_c (tk : List Tokent) (e : Int) (st : PS) (hm : tk.length ≤ 1048576) (hi : st.i ≤ tk.length) (k : Nat) (hk : Nat.beq k 200 = false) : AC Try.prog 114 [.one (.ptr 200 0)] [(200, some (psB tk e st))] (.one (.own k)) [(200, some (psB tk e (bodyI tk e 10 st []).2)), (k, some (.arr 72 litE (bodyI tk e 10 st []).1 true))] := AC.ps (pBodyI_c0 tk e st hm hi) k hk (fun r h => ownK_ren h) (fun _ => rfl)

set_option maxHeartbeats 4000000 in
theorem pRuleI_c0 (tk : List Tokent) (e : Int) (st : PS) (hm : tk.length ≤ 1048576) (hi : st.i ≤ tk.length) : AC Try.prog 66 [.one (.ptr 200 0)] [(200, some (psB tk e st))] (.agg (ruleO (ruleI tk e st).1)) [(200, some (psB tk e (ruleI tk e st).2)), (0, some (.arr 70 termE (ruleI tk e st).1.head.args true)), (1, some (.arr 72 litE (ruleI tk e st).1.body true))] := by
 refine AC_bodyC (n := 4) (k := 9) (T := [(2, .one (.ptr 9 0))]) (Lf := ((9, some (.box (ruleO (ruleI tk e st).1))) :: [(200, some (psB tk e (ruleI tk e st).2)), (0, some (.arr 70 termE (ruleI tk e st).1.head.args true)), (1, some (.arr 72 litE (ruleI tk e st).1.body true))])) Try.func66 rfl rfl Try.ntmps66 rfl Try.results66 rfl rfl (by kernel_rfl) rfl rfl ⟨trivial, (by repeat (first | exact trivial | refine ⟨⟨_, rfl, BLe.rf⟩, ?_⟩)), (by repeat (first | exact trivial | refine ⟨⟨rfl, by first | (left; intro h; cases h) | (right; rfl), by first | exact (fun _ h => ⟨_, h⟩) | exact (fun _ _ => ⟨_, rfl⟩) | (intro _ h; cases h)⟩, ?_⟩)), rfl⟩ ?_
 refine AW_seq ?_
 refine AW_region ?_
 refine AL_p (x_alloc (z := .agg #[.int .i64 0, .string ⟨#[]⟩, .slice none 0 0, .slice none 0 0]) 100 rfl (by kernel_rfl) rfl rfl rfl rfl) ?_
 refine AL_nil ?_
 refine AW_seq ?_
 refine AW_region ?_
 refine AL_p (x_build (zs := [.int .i64 0, .string ⟨#[]⟩, .slice none 0 0, .slice none 0 0]) (places := [(0, 1), (1, 2), (3, 1)]) rfl (by kernel_rfl) rfl rfl rfl rfl rfl) ?_
 refine AL_p (x_alloc (z := .agg #[.int .i64 0, .string ⟨#[]⟩, .slice none 0 0, .slice none 0 0]) 101 rfl (by kernel_rfl) rfl rfl rfl rfl) ?_
 refine AL_p (x_store (n := 4) rfl rfl rfl rfl (by kernel_rfl) rfl rfl rfl) ?_
 refine AL_nil ?_
 refine AW_seq ?_
 refine AW_block ?_
 refine AW_seq ?_
 refine AW_region ?_
 refine AL_p (x_move rfl rfl) ?_
 refine AL_bc (x_call (ks := []) (L := [(200, some _)]) (L' := [(200, some _)]) rfl rfl rfl (pIsSign_c tk e st hm hi ⟨#[43]⟩) rfl AllV.rf (caught_of rfl) rfl rfl rfl ⟨rfl, trivial⟩ rfl) (fun b7 h7 => ?_)
 refine AL_p (x_assign rfl rfl) ?_
 refine AL_nil ?_
 cases b7
 rotate_left
 · try simp only [tdy] at h7
   have hp := plus_plus h7
   have hs0 := next_le (sign_lt h7)
   have hlt := sign_lt h7
   have ha := atomI_le (e := e) hs0
   refine AW_condT rfl ?_
   refine AW_seq ?_
   refine AW_region ?_
   refine AL_p (x_field (off := 0) (o' := 0) rfl rfl rfl (by kernel_rfl) rfl) ?_
   refine AL_p (x_store (n := 1) rfl rfl rfl rfl (by kernel_rfl) rfl rfl rfl) ?_
   refine AL_nil ?_
   refine AW_region ?_
   refine AL_p (x_move rfl rfl) ?_
   refine AL_p (x_nilc rfl rfl rfl) ?_
   refine AL_p (x_field (off := 1) (o' := 1) rfl rfl rfl (by kernel_rfl) rfl) ?_
   refine AL_p (x_load1 rfl rfl rfl (by kernel_rfl) rfl) ?_
   refine AL_p (x_add rfl rfl rfl (IntWalk.i64_in _ (by omega))) ?_
   refine AL_p (x_nilc rfl rfl rfl) ?_
   refine AL_p (x_field (off := 1) (o' := 1) rfl rfl rfl (by kernel_rfl) rfl) ?_
   refine AL_p (x_store (n := 1) rfl rfl rfl rfl (by kernel_rfl) rfl rfl rfl) ?_
   refine AL_nil ?_
   refine AW_seq ?_
   refine AW_region ?_
   refine AL_p (x_move rfl rfl) ?_
   refine AL_p (x_call (ks := []) (L := [(200, some _)]) (L' := [(200, some _), (102, some _)]) rfl rfl rfl (pAtomI_c tk e _ hm hs0 102 rfl) rfl AllV.rf (caught_of rfl) rfl rfl rfl ⟨rfl, trivial⟩ rfl) ?_
   refine AL_p (x_field (off := 1) (o' := 1) rfl rfl rfl (by kernel_rfl) rfl) ?_
   refine AL_p (x_store (n := 2) rfl rfl rfl rfl (by kernel_rfl) rfl rfl rfl) ?_
   refine AL_nil ?_
   refine AW_seq ?_
   refine AW_seq ?_
   refine AW_region ?_
   refine AL_p (x_move rfl rfl) ?_
   refine AL_bc (x_call (ks := []) (L := [(200, some _)]) (L' := [(200, some _)]) rfl rfl rfl (pIsSign_c tk e _ hm ha ⟨#[58, 45]⟩) rfl AllV.rf (caught_of rfl) rfl rfl rfl ⟨rfl, trivial⟩ rfl) (fun b31 h31 => ?_)
   refine AL_nil ?_
   cases b31
   · try simp only [tdy] at h31
     have hno := ruleI_bare' hp h31
     have hi2 := ha
     refine AW_condF rfl ?_
     refine AW_skip ?_
     refine AW_seq ?_
     refine AW_region ?_
     refine AL_p (x_move rfl rfl) ?_
     refine AL_p (x_call (ks := []) (L := [(200, some _)]) (L' := [(200, some _)]) rfl rfl rfl (pNeed_c tk e _ hm hi2 ⟨#[46]⟩) rfl AllV.rf (caught_of rfl) rfl rfl rfl ⟨rfl, trivial⟩ rfl) ?_
     refine AL_nil ?_
     refine AW_seq ?_
     refine AW_region ?_
     refine AL_p (x_loadN (n := 4) rfl rfl rfl (by kernel_rfl) rfl rfl) ?_
     refine AL_p (x_store (n := 4) rfl rfl rfl rfl (by kernel_rfl) rfl rfl rfl) ?_
     refine AL_nil ?_
     refine AW_adopt (T := 72) (e := litE) 104 100 3 rfl rfl rfl rfl rfl ?_
     refine AW_ret ?_
     exact ⟨rn [(9, 100), (0, 102), (1, 104)], ⟨⟨⟨_, rfl, VLe.rf⟩, trivial⟩, ⟨⟨_, rfl, by first | exact BLe.rf | exact ble_eq (by rw [hno]; first | done | rfl)⟩, ⟨_, rfl, by first | exact BLe.rf | exact ble_eq (by rw [hno]; first | done | rfl)⟩, ⟨_, rfl, by first | exact BLe.rf | (refine BLe.arr ?_; rw [hno]; first | done | rfl)⟩, ⟨_, rfl, by first | exact BLe.rf | (refine BLe.arr ?_; rw [hno]; first | done | rfl)⟩, trivial⟩, ⟨⟨rfl, .inl nofun, fun _ _ => ⟨_, rfl⟩⟩, trivial⟩, rfl⟩⟩
   try simp only [tdy] at h31
   have hno := ruleI_body' hp h31
   have hb0 := next_le (sign_lt h31)
   have hlt2 := sign_lt h31
   have hi2 := bodyI_le (e := e) 10 _ [] hb0
   refine AW_condT rfl ?_
   refine AW_seq ?_
   refine AW_region ?_
   refine AL_p (x_move rfl rfl) ?_
   refine AL_p (x_nilc rfl rfl rfl) ?_
   refine AL_p (x_field (off := 1) (o' := 1) rfl rfl rfl (by kernel_rfl) rfl) ?_
   refine AL_p (x_load1 rfl rfl rfl (by kernel_rfl) rfl) ?_
   refine AL_p (x_add rfl rfl rfl (IntWalk.i64_in _ (by omega))) ?_
   refine AL_p (x_nilc rfl rfl rfl) ?_
   refine AL_p (x_field (off := 1) (o' := 1) rfl rfl rfl (by kernel_rfl) rfl) ?_
   refine AL_p (x_store (n := 1) rfl rfl rfl rfl (by kernel_rfl) rfl rfl rfl) ?_
   refine AL_nil ?_
   refine AW_region ?_
   refine AL_p (x_move rfl rfl) ?_
   refine AL_p (x_call (ks := []) (L := [(200, some _)]) (L' := [(200, some _), (103, some _)]) rfl rfl rfl (pBodyI_c tk e _ hm hb0 103 rfl) rfl AllV.rf (caught_of rfl) rfl rfl rfl ⟨rfl, trivial⟩ rfl) ?_
   refine AL_p (x_field (off := 3) (o' := 3) rfl rfl rfl (by kernel_rfl) rfl) ?_
   refine AL_p (x_store (n := 1) rfl rfl rfl rfl (by kernel_rfl) rfl rfl rfl) ?_
   refine AL_nil ?_
   refine AW_seq ?_
   refine AW_region ?_
   refine AL_p (x_move rfl rfl) ?_
   refine AL_p (x_call (ks := []) (L := [(200, some _)]) (L' := [(200, some _)]) rfl rfl rfl (pNeed_c tk e _ hm hi2 ⟨#[46]⟩) rfl AllV.rf (caught_of rfl) rfl rfl rfl ⟨rfl, trivial⟩ rfl) ?_
   refine AL_nil ?_
   refine AW_seq ?_
   refine AW_region ?_
   refine AL_p (x_loadN (n := 4) rfl rfl rfl (by kernel_rfl) rfl rfl) ?_
   refine AL_p (x_store (n := 4) rfl rfl rfl rfl (by kernel_rfl) rfl rfl rfl) ?_
   refine AL_nil ?_
   refine AW_ret ?_
   exact ⟨rn [(9, 100), (0, 102), (1, 103)], ⟨⟨⟨_, rfl, VLe.rf⟩, trivial⟩, ⟨⟨_, rfl, by first | exact BLe.rf | exact ble_eq (by rw [hno]; first | done | rfl)⟩, ⟨_, rfl, by first | exact BLe.rf | exact ble_eq (by rw [hno]; first | done | rfl)⟩, ⟨_, rfl, by first | exact BLe.rf | (refine BLe.arr ?_; rw [hno]; first | done | rfl)⟩, ⟨_, rfl, by first | exact BLe.rf | (refine BLe.arr ?_; rw [hno]; first | done | rfl)⟩, trivial⟩, ⟨⟨rfl, .inl nofun, fun _ _ => ⟨_, rfl⟩⟩, trivial⟩, rfl⟩⟩
 try simp only [tdy] at h7
 refine AW_condF rfl ?_
 refine AW_seq ?_
 refine AW_region ?_
 refine AL_p (x_move rfl rfl) ?_
 refine AL_bc (x_call (ks := []) (L := [(200, some _)]) (L' := [(200, some _)]) rfl rfl rfl (pIsSign_c tk e st hm hi ⟨#[45]⟩) rfl AllV.rf (caught_of rfl) rfl rfl rfl ⟨rfl, trivial⟩ rfl) (fun b18 h18 => ?_)
 refine AL_p (x_assign rfl rfl) ?_
 refine AL_nil ?_
 cases b18
 · try simp only [tdy] at h18
   have hp := plus_none h7 h18
   have hs0 := hi
   have ha := atomI_le (e := e) hs0
   refine AW_condF rfl ?_
   refine AW_skip ?_
   refine AW_seq ?_
   refine AW_region ?_
   refine AL_p (x_move rfl rfl) ?_
   refine AL_p (x_call (ks := []) (L := [(200, some _)]) (L' := [(200, some _), (102, some _)]) rfl rfl rfl (pAtomI_c tk e _ hm hs0 102 rfl) rfl AllV.rf (caught_of rfl) rfl rfl rfl ⟨rfl, trivial⟩ rfl) ?_
   refine AL_p (x_field (off := 1) (o' := 1) rfl rfl rfl (by kernel_rfl) rfl) ?_
   refine AL_p (x_store (n := 2) rfl rfl rfl rfl (by kernel_rfl) rfl rfl rfl) ?_
   refine AL_nil ?_
   refine AW_seq ?_
   refine AW_seq ?_
   refine AW_region ?_
   refine AL_p (x_move rfl rfl) ?_
   refine AL_bc (x_call (ks := []) (L := [(200, some _)]) (L' := [(200, some _)]) rfl rfl rfl (pIsSign_c tk e _ hm ha ⟨#[58, 45]⟩) rfl AllV.rf (caught_of rfl) rfl rfl rfl ⟨rfl, trivial⟩ rfl) (fun b31 h31 => ?_)
   refine AL_nil ?_
   cases b31
   · try simp only [tdy] at h31
     have hno := ruleI_bare' hp h31
     have hi2 := ha
     refine AW_condF rfl ?_
     refine AW_skip ?_
     refine AW_seq ?_
     refine AW_region ?_
     refine AL_p (x_move rfl rfl) ?_
     refine AL_p (x_call (ks := []) (L := [(200, some _)]) (L' := [(200, some _)]) rfl rfl rfl (pNeed_c tk e _ hm hi2 ⟨#[46]⟩) rfl AllV.rf (caught_of rfl) rfl rfl rfl ⟨rfl, trivial⟩ rfl) ?_
     refine AL_nil ?_
     refine AW_seq ?_
     refine AW_region ?_
     refine AL_p (x_loadN (n := 4) rfl rfl rfl (by kernel_rfl) rfl rfl) ?_
     refine AL_p (x_store (n := 4) rfl rfl rfl rfl (by kernel_rfl) rfl rfl rfl) ?_
     refine AL_nil ?_
     refine AW_adopt (T := 72) (e := litE) 104 100 3 rfl rfl rfl rfl rfl ?_
     refine AW_ret ?_
     exact ⟨rn [(9, 100), (0, 102), (1, 104)], ⟨⟨⟨_, rfl, VLe.rf⟩, trivial⟩, ⟨⟨_, rfl, by first | exact BLe.rf | exact ble_eq (by rw [hno]; first | done | rfl)⟩, ⟨_, rfl, by first | exact BLe.rf | exact ble_eq (by rw [hno]; first | done | rfl)⟩, ⟨_, rfl, by first | exact BLe.rf | (refine BLe.arr ?_; rw [hno]; first | done | rfl)⟩, ⟨_, rfl, by first | exact BLe.rf | (refine BLe.arr ?_; rw [hno]; first | done | rfl)⟩, trivial⟩, ⟨⟨rfl, .inl nofun, fun _ _ => ⟨_, rfl⟩⟩, trivial⟩, rfl⟩⟩
   try simp only [tdy] at h31
   have hno := ruleI_body' hp h31
   have hb0 := next_le (sign_lt h31)
   have hlt2 := sign_lt h31
   have hi2 := bodyI_le (e := e) 10 _ [] hb0
   refine AW_condT rfl ?_
   refine AW_seq ?_
   refine AW_region ?_
   refine AL_p (x_move rfl rfl) ?_
   refine AL_p (x_nilc rfl rfl rfl) ?_
   refine AL_p (x_field (off := 1) (o' := 1) rfl rfl rfl (by kernel_rfl) rfl) ?_
   refine AL_p (x_load1 rfl rfl rfl (by kernel_rfl) rfl) ?_
   refine AL_p (x_add rfl rfl rfl (IntWalk.i64_in _ (by omega))) ?_
   refine AL_p (x_nilc rfl rfl rfl) ?_
   refine AL_p (x_field (off := 1) (o' := 1) rfl rfl rfl (by kernel_rfl) rfl) ?_
   refine AL_p (x_store (n := 1) rfl rfl rfl rfl (by kernel_rfl) rfl rfl rfl) ?_
   refine AL_nil ?_
   refine AW_region ?_
   refine AL_p (x_move rfl rfl) ?_
   refine AL_p (x_call (ks := []) (L := [(200, some _)]) (L' := [(200, some _), (103, some _)]) rfl rfl rfl (pBodyI_c tk e _ hm hb0 103 rfl) rfl AllV.rf (caught_of rfl) rfl rfl rfl ⟨rfl, trivial⟩ rfl) ?_
   refine AL_p (x_field (off := 3) (o' := 3) rfl rfl rfl (by kernel_rfl) rfl) ?_
   refine AL_p (x_store (n := 1) rfl rfl rfl rfl (by kernel_rfl) rfl rfl rfl) ?_
   refine AL_nil ?_
   refine AW_seq ?_
   refine AW_region ?_
   refine AL_p (x_move rfl rfl) ?_
   refine AL_p (x_call (ks := []) (L := [(200, some _)]) (L' := [(200, some _)]) rfl rfl rfl (pNeed_c tk e _ hm hi2 ⟨#[46]⟩) rfl AllV.rf (caught_of rfl) rfl rfl rfl ⟨rfl, trivial⟩ rfl) ?_
   refine AL_nil ?_
   refine AW_seq ?_
   refine AW_region ?_
   refine AL_p (x_loadN (n := 4) rfl rfl rfl (by kernel_rfl) rfl rfl) ?_
   refine AL_p (x_store (n := 4) rfl rfl rfl rfl (by kernel_rfl) rfl rfl rfl) ?_
   refine AL_nil ?_
   refine AW_ret ?_
   exact ⟨rn [(9, 100), (0, 102), (1, 103)], ⟨⟨⟨_, rfl, VLe.rf⟩, trivial⟩, ⟨⟨_, rfl, by first | exact BLe.rf | exact ble_eq (by rw [hno]; first | done | rfl)⟩, ⟨_, rfl, by first | exact BLe.rf | exact ble_eq (by rw [hno]; first | done | rfl)⟩, ⟨_, rfl, by first | exact BLe.rf | (refine BLe.arr ?_; rw [hno]; first | done | rfl)⟩, ⟨_, rfl, by first | exact BLe.rf | (refine BLe.arr ?_; rw [hno]; first | done | rfl)⟩, trivial⟩, ⟨⟨rfl, .inl nofun, fun _ _ => ⟨_, rfl⟩⟩, trivial⟩, rfl⟩⟩
 try simp only [tdy] at h18
 have hp := plus_minus h7 h18
 have hs0 := next_le (sign_lt h18)
 have hlt := sign_lt h18
 have ha := atomI_le (e := e) hs0
 refine AW_condT rfl ?_
 refine AW_seq ?_
 refine AW_region ?_
 refine AL_p (x_field (off := 0) (o' := 0) rfl rfl rfl (by kernel_rfl) rfl) ?_
 refine AL_p (x_store (n := 1) rfl rfl rfl rfl (by kernel_rfl) rfl rfl rfl) ?_
 refine AL_nil ?_
 refine AW_region ?_
 refine AL_p (x_move rfl rfl) ?_
 refine AL_p (x_nilc rfl rfl rfl) ?_
 refine AL_p (x_field (off := 1) (o' := 1) rfl rfl rfl (by kernel_rfl) rfl) ?_
 refine AL_p (x_load1 rfl rfl rfl (by kernel_rfl) rfl) ?_
 refine AL_p (x_add rfl rfl rfl (IntWalk.i64_in _ (by omega))) ?_
 refine AL_p (x_nilc rfl rfl rfl) ?_
 refine AL_p (x_field (off := 1) (o' := 1) rfl rfl rfl (by kernel_rfl) rfl) ?_
 refine AL_p (x_store (n := 1) rfl rfl rfl rfl (by kernel_rfl) rfl rfl rfl) ?_
 refine AL_nil ?_
 refine AW_seq ?_
 refine AW_region ?_
 refine AL_p (x_move rfl rfl) ?_
 refine AL_p (x_call (ks := []) (L := [(200, some _)]) (L' := [(200, some _), (102, some _)]) rfl rfl rfl (pAtomI_c tk e _ hm hs0 102 rfl) rfl AllV.rf (caught_of rfl) rfl rfl rfl ⟨rfl, trivial⟩ rfl) ?_
 refine AL_p (x_field (off := 1) (o' := 1) rfl rfl rfl (by kernel_rfl) rfl) ?_
 refine AL_p (x_store (n := 2) rfl rfl rfl rfl (by kernel_rfl) rfl rfl rfl) ?_
 refine AL_nil ?_
 refine AW_seq ?_
 refine AW_seq ?_
 refine AW_region ?_
 refine AL_p (x_move rfl rfl) ?_
 refine AL_bc (x_call (ks := []) (L := [(200, some _)]) (L' := [(200, some _)]) rfl rfl rfl (pIsSign_c tk e _ hm ha ⟨#[58, 45]⟩) rfl AllV.rf (caught_of rfl) rfl rfl rfl ⟨rfl, trivial⟩ rfl) (fun b31 h31 => ?_)
 refine AL_nil ?_
 cases b31
 · try simp only [tdy] at h31
   have hno := ruleI_bare' hp h31
   have hi2 := ha
   refine AW_condF rfl ?_
   refine AW_skip ?_
   refine AW_seq ?_
   refine AW_region ?_
   refine AL_p (x_move rfl rfl) ?_
   refine AL_p (x_call (ks := []) (L := [(200, some _)]) (L' := [(200, some _)]) rfl rfl rfl (pNeed_c tk e _ hm hi2 ⟨#[46]⟩) rfl AllV.rf (caught_of rfl) rfl rfl rfl ⟨rfl, trivial⟩ rfl) ?_
   refine AL_nil ?_
   refine AW_seq ?_
   refine AW_region ?_
   refine AL_p (x_loadN (n := 4) rfl rfl rfl (by kernel_rfl) rfl rfl) ?_
   refine AL_p (x_store (n := 4) rfl rfl rfl rfl (by kernel_rfl) rfl rfl rfl) ?_
   refine AL_nil ?_
   refine AW_adopt (T := 72) (e := litE) 104 100 3 rfl rfl rfl rfl rfl ?_
   refine AW_ret ?_
   exact ⟨rn [(9, 100), (0, 102), (1, 104)], ⟨⟨⟨_, rfl, VLe.rf⟩, trivial⟩, ⟨⟨_, rfl, by first | exact BLe.rf | exact ble_eq (by rw [hno]; first | done | rfl)⟩, ⟨_, rfl, by first | exact BLe.rf | exact ble_eq (by rw [hno]; first | done | rfl)⟩, ⟨_, rfl, by first | exact BLe.rf | (refine BLe.arr ?_; rw [hno]; first | done | rfl)⟩, ⟨_, rfl, by first | exact BLe.rf | (refine BLe.arr ?_; rw [hno]; first | done | rfl)⟩, trivial⟩, ⟨⟨rfl, .inl nofun, fun _ _ => ⟨_, rfl⟩⟩, trivial⟩, rfl⟩⟩
 try simp only [tdy] at h31
 have hno := ruleI_body' hp h31
 have hb0 := next_le (sign_lt h31)
 have hlt2 := sign_lt h31
 have hi2 := bodyI_le (e := e) 10 _ [] hb0
 refine AW_condT rfl ?_
 refine AW_seq ?_
 refine AW_region ?_
 refine AL_p (x_move rfl rfl) ?_
 refine AL_p (x_nilc rfl rfl rfl) ?_
 refine AL_p (x_field (off := 1) (o' := 1) rfl rfl rfl (by kernel_rfl) rfl) ?_
 refine AL_p (x_load1 rfl rfl rfl (by kernel_rfl) rfl) ?_
 refine AL_p (x_add rfl rfl rfl (IntWalk.i64_in _ (by omega))) ?_
 refine AL_p (x_nilc rfl rfl rfl) ?_
 refine AL_p (x_field (off := 1) (o' := 1) rfl rfl rfl (by kernel_rfl) rfl) ?_
 refine AL_p (x_store (n := 1) rfl rfl rfl rfl (by kernel_rfl) rfl rfl rfl) ?_
 refine AL_nil ?_
 refine AW_region ?_
 refine AL_p (x_move rfl rfl) ?_
 refine AL_p (x_call (ks := []) (L := [(200, some _)]) (L' := [(200, some _), (103, some _)]) rfl rfl rfl (pBodyI_c tk e _ hm hb0 103 rfl) rfl AllV.rf (caught_of rfl) rfl rfl rfl ⟨rfl, trivial⟩ rfl) ?_
 refine AL_p (x_field (off := 3) (o' := 3) rfl rfl rfl (by kernel_rfl) rfl) ?_
 refine AL_p (x_store (n := 1) rfl rfl rfl rfl (by kernel_rfl) rfl rfl rfl) ?_
 refine AL_nil ?_
 refine AW_seq ?_
 refine AW_region ?_
 refine AL_p (x_move rfl rfl) ?_
 refine AL_p (x_call (ks := []) (L := [(200, some _)]) (L' := [(200, some _)]) rfl rfl rfl (pNeed_c tk e _ hm hi2 ⟨#[46]⟩) rfl AllV.rf (caught_of rfl) rfl rfl rfl ⟨rfl, trivial⟩ rfl) ?_
 refine AL_nil ?_
 refine AW_seq ?_
 refine AW_region ?_
 refine AL_p (x_loadN (n := 4) rfl rfl rfl (by kernel_rfl) rfl rfl) ?_
 refine AL_p (x_store (n := 4) rfl rfl rfl rfl (by kernel_rfl) rfl rfl rfl) ?_
 refine AL_nil ?_
 refine AW_ret ?_
 exact ⟨rn [(9, 100), (0, 102), (1, 103)], ⟨⟨⟨_, rfl, VLe.rf⟩, trivial⟩, ⟨⟨_, rfl, by first | exact BLe.rf | exact ble_eq (by rw [hno]; first | done | rfl)⟩, ⟨_, rfl, by first | exact BLe.rf | exact ble_eq (by rw [hno]; first | done | rfl)⟩, ⟨_, rfl, by first | exact BLe.rf | (refine BLe.arr ?_; rw [hno]; first | done | rfl)⟩, ⟨_, rfl, by first | exact BLe.rf | (refine BLe.arr ?_; rw [hno]; first | done | rfl)⟩, trivial⟩, ⟨⟨rfl, .inl nofun, fun _ _ => ⟨_, rfl⟩⟩, trivial⟩, rfl⟩⟩

theorem pRuleI_c (tk : List Tokent) (e : Int) (st : PS) (hm : tk.length ≤ 1048576) (hi : st.i ≤ tk.length) (k j : Nat) (hk : Nat.beq k 200 = false) (hj : Nat.beq j 200 = false) (hkj : Nat.beq k j = false) (hjk : Nat.beq j k = false) : AC Try.prog 66 [.one (.ptr 200 0)] [(200, some (psB tk e st))] (.agg (ruleK (ruleI tk e st).1 k j)) [(200, some (psB tk e (ruleI tk e st).2)), (k, some (.arr 70 termE (ruleI tk e st).1.head.args true)), (j, some (.arr 72 litE (ruleI tk e st).1.body true))] := AC.ps2 (pRuleI_c0 tk e st hm hi) k j hk hj hkj hjk (fun r h h2 => ruleK_ren h h2) (fun _ => rfl) (fun _ => rfl)

set_option maxHeartbeats 4000000 in
theorem pDeclI_c (tk : List Tokent) (e : Int) (st : PS) (hm : tk.length ≤ 1048576) (hi : st.i < tk.length) (c : Int) : AC Try.prog 65 [.one (.ptr 200 0), .one (.c (.int .i64 (c)))] [(200, some (psB tk e st))] (.agg (declC (declI tk e c st).1)) [(200, some (psB tk e (declI tk e c st).2))] := by
 have h1 := next_le hi
 have h2 := slash_le (e := e) h1
 refine AC_bodyC (n := 3) (k := 9) (T := [(4, .one (.ptr 9 0))]) (Lf := ((9, some (.box (declC (declI tk e c st).1))) :: [(200, some (psB tk e (declI tk e c st).2))])) Try.func65 rfl rfl Try.ntmps65 rfl Try.results65 rfl rfl (by kernel_rfl) rfl rfl ⟨trivial, (by repeat (first | exact trivial | refine ⟨⟨_, rfl, BLe.rf⟩, ?_⟩)), (by repeat (first | exact trivial | refine ⟨⟨rfl, by first | (left; intro h; cases h) | (right; rfl), by first | exact (fun _ h => ⟨_, h⟩) | exact (fun _ _ => ⟨_, rfl⟩) | (intro _ h; cases h)⟩, ?_⟩)), rfl⟩ ?_
 refine AW_seq ?_
 refine AW_region ?_
 refine AL_p (x_alloc (z := .agg #[.int .i64 0, .string ⟨#[]⟩, .int .i64 0]) 100 rfl (by kernel_rfl) rfl rfl rfl rfl) ?_
 refine AL_nil ?_
 refine AW_seq ?_
 refine AW_region ?_
 refine AL_p (x_move rfl rfl) ?_
 refine AL_p (x_build (zs := [.int .i64 0, .string ⟨#[]⟩, .int .i64 0]) (places := [(0, 1), (1, 1), (2, 1)]) rfl (by kernel_rfl) rfl rfl rfl rfl rfl) ?_
 refine AL_p (x_alloc (z := .agg #[.int .i64 0, .string ⟨#[]⟩, .int .i64 0]) 101 rfl (by kernel_rfl) rfl rfl rfl rfl) ?_
 refine AL_p (x_store (n := 3) rfl rfl rfl rfl (by kernel_rfl) rfl rfl rfl) ?_
 refine AL_nil ?_
 refine AW_seq ?_
 refine AW_region ?_
 refine AL_p (x_move rfl rfl) ?_
 refine AL_p (x_nilc rfl rfl rfl) ?_
 refine AL_p (x_field (off := 1) (o' := 1) rfl rfl rfl (by kernel_rfl) rfl) ?_
 refine AL_p (x_load1 rfl rfl rfl (by kernel_rfl) rfl) ?_
 refine AL_p (x_add rfl rfl rfl (IntWalk.i64_in _ (by omega))) ?_
 refine AL_p (x_nilc rfl rfl rfl) ?_
 refine AL_p (x_field (off := 1) (o' := 1) rfl rfl rfl (by kernel_rfl) rfl) ?_
 refine AL_p (x_store (n := 1) rfl rfl rfl rfl (by kernel_rfl) rfl rfl rfl) ?_
 refine AL_nil ?_
 refine AW_seq ?_
 refine AW_region ?_
 refine AL_p (x_move rfl rfl) ?_
 refine AL_p (x_call (ks := []) (L := [(200, some _)]) (L' := [(200, some _)]) rfl rfl rfl (pName_c tk e st.next hm h1) rfl AllV.rf (caught_of rfl) rfl rfl rfl ⟨rfl, trivial⟩ rfl) ?_
 refine AL_p (x_field (off := 1) (o' := 1) rfl rfl rfl (by kernel_rfl) rfl) ?_
 refine AL_p (x_store (n := 1) rfl rfl rfl rfl (by kernel_rfl) rfl rfl rfl) ?_
 refine AL_nil ?_
 refine AW_seq ?_
 refine AW_region ?_
 refine AL_p (x_move rfl rfl) ?_
 refine AL_p (x_call (ks := []) (L := [(200, some _)]) (L' := [(200, some _)]) rfl rfl rfl (pNeed_c tk e (wordP tk e st.next).2 hm (word_le h1) ⟨#[47]⟩) rfl AllV.rf (caught_of rfl) rfl rfl rfl ⟨rfl, trivial⟩ rfl) ?_
 refine AL_nil ?_
 refine AW_seq ?_
 refine AW_region ?_
 refine AL_p (x_move rfl rfl) ?_
 refine AL_p (x_call (ks := []) (L := [(200, some _)]) (L' := [(200, some _)]) rfl rfl rfl (pHere_c tk e (slashP tk e st.next) hm (h2)) rfl AllV.rf (caught_of rfl) rfl rfl rfl ⟨rfl, trivial⟩ rfl) ?_
 refine AL_p (x_alloc (z := .agg #[.int .i64 0, .int .i64 0, .string ⟨#[]⟩, .int .i64 0]) 102 rfl (by kernel_rfl) rfl rfl rfl rfl) ?_
 refine AL_p (x_store (n := 4) rfl rfl rfl rfl (by kernel_rfl) rfl rfl rfl) ?_
 refine AL_nil ?_
 refine AW_seq ?_
 refine AW_block ?_
 refine AW_seq ?_
 refine AW_region ?_
 refine AL_p (x_field (off := 0) (o' := 0) rfl rfl rfl (by kernel_rfl) rfl) ?_
 refine AL_p (x_load1 rfl rfl rfl (by kernel_rfl) rfl) ?_
 refine AL_b (x_neq rfl rfl rfl) (fun b36 h36 => ?_)
 refine AL_p (x_assign rfl rfl) ?_
 refine AL_nil ?_
 cases b36
 rotate_left
 · try simp only [tdy] at h36
   have hno := declI_no (k := c) h36
   have hi2 := fault_le (e := e) (c := 6) h2
   refine AW_condT rfl ?_
   refine AW_region ?_
   refine AL_p (x_move rfl rfl) ?_
   refine AL_p (x_call (ks := []) (L := [(200, some _)]) (L' := [(200, some _)]) rfl rfl rfl (pFail_c tk e (slashP tk e st.next) hm h2 6) rfl AllV.rf (caught_of rfl) rfl rfl rfl ⟨rfl, trivial⟩ rfl) ?_
   refine AL_nil ?_
   refine AW_seq ?_
   refine AW_region ?_
   refine AL_p (x_move rfl rfl) ?_
   refine AL_p (x_call (ks := []) (L := [(200, some _)]) (L' := [(200, some _)]) rfl rfl rfl (pNeed_c tk e _ hm hi2 ⟨#[46]⟩) rfl AllV.rf (caught_of rfl) rfl rfl rfl ⟨rfl, trivial⟩ rfl) ?_
   refine AL_nil ?_
   refine AW_seq ?_
   refine AW_region ?_
   refine AL_p (x_loadN (n := 3) rfl rfl rfl (by kernel_rfl) rfl rfl) ?_
   refine AL_p (x_store (n := 3) rfl rfl rfl rfl (by kernel_rfl) rfl rfl rfl) ?_
   refine AL_nil ?_
   refine AW_ret ?_
   exact ⟨rn [(9, 100)], ⟨⟨⟨_, rfl, VLe.rf⟩, trivial⟩, ⟨⟨_, rfl, by first | exact BLe.rf | exact ble_eq (by rw [hno]; first | done | rfl)⟩, ⟨_, rfl, by first | exact BLe.rf | exact ble_eq (by rw [hno]; first | done | rfl)⟩, trivial⟩, ⟨⟨rfl, .inl nofun, fun _ _ => ⟨_, rfl⟩⟩, trivial⟩, rfl⟩⟩
 try simp only [tdy] at h36
 have hlt := num_lt h36
 refine AW_condF rfl ?_
 refine AW_seq ?_
 refine AW_region ?_
 refine AL_p (x_field (off := 1) (o' := 1) rfl rfl rfl (by kernel_rfl) rfl) ?_
 refine AL_p (x_load1 rfl rfl rfl (by kernel_rfl) rfl) ?_
 refine AL_b (x_gtr rfl rfl rfl) (fun b42 h42 => ?_)
 refine AL_p (x_assign rfl rfl) ?_
 refine AL_nil ?_
 cases b42
 rotate_left
 · try simp only [tdy] at h42
   have hno := declI_big (k := c) h36 h42
   have hi2 := fault_le (e := e) (c := 7) h2
   refine AW_condT rfl ?_
   refine AW_region ?_
   refine AL_p (x_move rfl rfl) ?_
   refine AL_p (x_call (ks := []) (L := [(200, some _)]) (L' := [(200, some _)]) rfl rfl rfl (pFail_c tk e (slashP tk e st.next) hm h2 7) rfl AllV.rf (caught_of rfl) rfl rfl rfl ⟨rfl, trivial⟩ rfl) ?_
   refine AL_nil ?_
   refine AW_seq ?_
   refine AW_region ?_
   refine AL_p (x_move rfl rfl) ?_
   refine AL_p (x_call (ks := []) (L := [(200, some _)]) (L' := [(200, some _)]) rfl rfl rfl (pNeed_c tk e _ hm hi2 ⟨#[46]⟩) rfl AllV.rf (caught_of rfl) rfl rfl rfl ⟨rfl, trivial⟩ rfl) ?_
   refine AL_nil ?_
   refine AW_seq ?_
   refine AW_region ?_
   refine AL_p (x_loadN (n := 3) rfl rfl rfl (by kernel_rfl) rfl rfl) ?_
   refine AL_p (x_store (n := 3) rfl rfl rfl rfl (by kernel_rfl) rfl rfl rfl) ?_
   refine AL_nil ?_
   refine AW_ret ?_
   exact ⟨rn [(9, 100)], ⟨⟨⟨_, rfl, VLe.rf⟩, trivial⟩, ⟨⟨_, rfl, by first | exact BLe.rf | exact ble_eq (by rw [hno]; first | done | rfl)⟩, ⟨_, rfl, by first | exact BLe.rf | exact ble_eq (by rw [hno]; first | done | rfl)⟩, trivial⟩, ⟨⟨rfl, .inl nofun, fun _ _ => ⟨_, rfl⟩⟩, trivial⟩, rfl⟩⟩
 try simp only [tdy] at h42
 have hno := declI_ok (k := c) h36 (by omega)
 have hi2 := next_le hlt
 refine AW_condF rfl ?_
 refine AW_seq ?_
 refine AW_region ?_
 refine AL_p (x_field (off := 1) (o' := 1) rfl rfl rfl (by kernel_rfl) rfl) ?_
 refine AL_p (x_load1 rfl rfl rfl (by kernel_rfl) rfl) ?_
 refine AL_p (x_field (off := 2) (o' := 2) rfl rfl rfl (by kernel_rfl) rfl) ?_
 refine AL_p (x_store (n := 1) rfl rfl rfl rfl (by kernel_rfl) rfl rfl rfl) ?_
 refine AL_nil ?_
 refine AW_region ?_
 refine AL_p (x_move rfl rfl) ?_
 refine AL_p (x_nilc rfl rfl rfl) ?_
 refine AL_p (x_field (off := 1) (o' := 1) rfl rfl rfl (by kernel_rfl) rfl) ?_
 refine AL_p (x_load1 rfl rfl rfl (by kernel_rfl) rfl) ?_
 refine AL_p (x_add rfl rfl rfl (IntWalk.i64_in _ (by omega))) ?_
 refine AL_p (x_nilc rfl rfl rfl) ?_
 refine AL_p (x_field (off := 1) (o' := 1) rfl rfl rfl (by kernel_rfl) rfl) ?_
 refine AL_p (x_store (n := 1) rfl rfl rfl rfl (by kernel_rfl) rfl rfl rfl) ?_
 refine AL_nil ?_
 refine AW_seq ?_
 refine AW_region ?_
 refine AL_p (x_move rfl rfl) ?_
 refine AL_p (x_call (ks := []) (L := [(200, some _)]) (L' := [(200, some _)]) rfl rfl rfl (pNeed_c tk e _ hm hi2 ⟨#[46]⟩) rfl AllV.rf (caught_of rfl) rfl rfl rfl ⟨rfl, trivial⟩ rfl) ?_
 refine AL_nil ?_
 refine AW_seq ?_
 refine AW_region ?_
 refine AL_p (x_loadN (n := 3) rfl rfl rfl (by kernel_rfl) rfl rfl) ?_
 refine AL_p (x_store (n := 3) rfl rfl rfl rfl (by kernel_rfl) rfl rfl rfl) ?_
 refine AL_nil ?_
 refine AW_ret ?_
 exact ⟨rn [(9, 100)], ⟨⟨⟨_, rfl, VLe.rf⟩, trivial⟩, ⟨⟨_, rfl, by first | exact BLe.rf | exact ble_eq (by rw [hno]; first | done | rfl)⟩, ⟨_, rfl, by first | exact BLe.rf | exact ble_eq (by rw [hno]; first | done | rfl)⟩, trivial⟩, ⟨⟨rfl, .inl nofun, fun _ _ => ⟨_, rfl⟩⟩, trivial⟩, rfl⟩⟩
end Go.Proofs.Ytkemjhlbokldhaa

/-
 DERIVED: THE SHELF's CONTRACTS AT THIS DUMP, IN PLAIN WORDS (tools/lay-plain.mjs out of 'TryShelf.lean', which tools/lay-shelf.mjs wrote): THE SAME DECLARATIONS UNDER THE SAME NAMES: 'import', 'namespace', 'open', 'def', 'theorem' AND NOTHING ELSE: no command of the shelf's: FOR A HAND-IN. Each laying: the table of numbers ('.._ren') and one theorem, a field a fact of the dump's own or the kernel's comparison; each contract: ONE APPLICATION.
-/
namespace Go.Proofs
open Go.Shelf
def Try.lays137_ren : Go.Shelf.Ren := ⟨fun | 137 => 101 | 217 => 137 | 266 => 158 | n => n, fun | 9 => 9 | 5 => 5 | 3 => 3 | n => n, fun | n => n⟩
theorem Try.lays137 : Go.Proofs.Lays.n137 Try.prog Try.lays137_ren := {
 mixed := by kernel_rfl
 f137 := Try.func101.trans (congrArg some (by kernel_rfl))
 f217 := Try.func137.trans (congrArg some (by kernel_rfl))
 f266 := Try.func158.trans (congrArg some (by kernel_rfl))
 t3 := Try.underlying3
 a3 := Try.isAgg3
 z3 := Try.sizeOf3
 v3 := Try.zeroValue3
 t5 := Try.underlying5
 a5 := Try.isAgg5
 z5 := Try.sizeOf5
 v5 := Try.zeroValue5
 t9 := Try.underlying9
 a9 := Try.isAgg9
 z9 := Try.sizeOf9
 v9 := Try.zeroValue9 }
open Go.RowKit in
/-- strings.IndexByte: "IndexByte returns the index of the first instance of c in s, or -1 if c is not present in s.": IT RETURNS 'Lib.indexByte s c'; the world is ars it was. (LAID: no walk: one application.) -/
theorem Try.strings_IndexByte (s : ByteArray) (c : Int) (w : World) :
   Calls Try.prog 101 #[.string s, .int .u8 c] w fun e w' => e = .returned (.int .i64 (Lib.indexByte s.data.toList c.toNat.toUInt8)) ∧ w' = w := Any.strings_IndexByte Try.lays137 s c w
def Try.lays206_ren : Go.Shelf.Ren := ⟨fun | 206 => 138 | n => n, fun | 9 => 9 | 4 => 4 | 3 => 3 | n => n, fun | n => n⟩
theorem Try.lays206 : Go.Proofs.Lays.n206 Try.prog Try.lays206_ren := {
 mixed := by kernel_rfl
 f206 := Try.func138.trans (congrArg some (by kernel_rfl))
 t3 := Try.underlying3
 a3 := Try.isAgg3
 z3 := Try.sizeOf3
 v3 := Try.zeroValue3
 t4 := Try.underlying4
 a4 := Try.isAgg4
 z4 := Try.sizeOf4
 v4 := Try.zeroValue4
 t9 := Try.underlying9
 a9 := Try.isAgg9
 z9 := Try.sizeOf9
 v9 := Try.zeroValue9 }
open Go.RowKit Go.Lib in
/-- internal/stringslite.HasPrefix (what strings.HasPrefix calls). (LAID: no walk: one application.) -/
theorem Try.stringslite_HasPrefix (s p : ByteArray) (w : World) :
   Calls Try.prog 138 #[.string s, .string p] w fun e w' => e = .returned (.bool (Lib.hasPrefix s.data.toList p.data.toList)) ∧ w' = w := Any.stringslite_HasPrefix Try.lays206 s p w
end Go.Proofs

/- A byte of a text. -/
namespace Go.Proofs.Ytkemjhlbokldhaa
open Go.RowKit
set_option linter.unusedVariables false
theorem wf_byte (b : UInt8) : (Lit.int .u8 (b.toNat : Int)).wf = true := by
 have := b.toNat_lt
 simp [Lit.wf, IntKind.min, IntKind.max, IntKind.signed, IntKind.bits]; omega
section ops
variable {P : Program} {N : Nat} {d : Nat} {s : St} {ty : TypeId} {pos : String} {after : Array Edge} {gd : Option (Nat × Bool)}
theorem x_sindex {T : Nat} {x ix : Operand} {b : ByteArray} {ik : IntKind} {v : Int} {k : Nat} (hN : Nat.blt d N = true) (h : evo s.t x = some (.one (.c (.string b)))) (h2 : evo s.t ix = some (.one (.c (.int ik v)))) (hT : P.underlying T = some .string) (hv : v = (k : Int)) (hk : k < b.size) :
   Stp P N ⟨some d, .index T x ix, ty, pos, after, gd⟩ s ⟨(d, .one (.c (.int .u8 (b[k].toNat : Int)))) :: s.t, s.l⟩ ⟨rdo x (.one (.c (.string b))) ++ rdo ix (.one (.c (.int ik v))), [], [(d, .one (.c (.int .u8 (b[k].toNat : Int))))], [], []⟩ :=
 Stp.pure rfl hN (fun p hp => by rcases List.mem_append.1 hp with hp | hp; exact rdo_of h p hp; exact rdo_of h2 p hp) (by simp) fun g s' a w ht hl' r => by
   obtain ⟨e1, e2⟩ : CellR g s'.l w (a.eval x) (.c (.string b)) := eval_ok r (evs_of h) fun p hp => ht p (List.mem_append_left _ hp)
   have e4 : a.eval ix = .int ik v := (eval_ok r (evs_of h2) fun p hp => ht p (List.mem_append_right _ hp) : CellR g s'.l w _ (.c (.int ik v))).1
   subst hv
   have hrun : (Instr.index T (.string b) (.int ik (k : Int))).run P w = .ok (.int .u8 (b[k].toNat : Int)) w := by
     simp [Instr.index, asIntOf, run_underlying hT, hk]
   exact ⟨_, by simp only [execOp, e1, e4, Sem.run_bind, hrun, Result.andThen_ok, Sem.run_pure], rfl, wf_byte _⟩
end ops
end Go.Proofs.Ytkemjhlbokldhaa

/- Contracts of what a text is read with: numbers, a byte's place, what a text begins with. -/
namespace Go.Proofs.Ytkemjhlbokldhaa
open Go.RowKit
set_option linter.unusedVariables false
set_option linter.unusedSimpArgs false

theorem textN_wf (s : ByteArray) : (Lit.int .i64 (textN s)).wf = true := by
 unfold textN
 cases h : textNum s with
 | none => exact WalkArith.wf_i64 (by decide)
 | some n =>
   have := (textNum_some h).1
   exact WalkArith.wf_i64 (by simp; omega)
theorem textNumI_c (s : ByteArray) : AC Try.prog 102 [.one (.c (.string s))] [] (.tup [.one (.c (.int .i64 (textN s))), .one (.c (.bool (textOk s)))]) [] :=
 AC.pure2 ⟨_, _, Try.func102, rfl, rfl⟩ (textN_wf s) trivial fun w g cargs h => by
   obtain ⟨x, rfl, h1⟩ := inv1 h
   obtain ⟨rfl, hs⟩ := inv_str h1
   exact (textNumI_any s w hs).mono fun e w' ⟨h1, h2⟩ => ⟨h1, below_eq h2⟩
theorem textNumS_c (s : ByteArray) : AC Try.prog 44 [.one (.c (.string s))] [] (.tup [.one (.c (.int .i64 (textN s))), .one (.c (.bool (textOk s)))]) [] :=
 AC.pure2 ⟨_, _, Try.func44, rfl, rfl⟩ (textN_wf s) trivial fun w g cargs h => by
   obtain ⟨x, rfl, h1⟩ := inv1 h
   obtain ⟨rfl, hs⟩ := inv_str h1
   exact (textNumS_any s w hs).mono fun e w' h => h
theorem idxB_lt {l : List UInt8} {c : UInt8} : -1 ≤ Lib.indexByte l c ∧ Lib.indexByte l c ≤ l.length := by
 have h1 := Lib.indexByte_ge l c
 refine ⟨h1, ?_⟩
 by_cases h : Lib.indexByte l c < 0
 · omega
 · obtain ⟨o, ho⟩ : ∃ o : Nat, Lib.indexByte l c = o := ⟨(Lib.indexByte l c).toNat, by omega⟩
   obtain ⟨h2, _⟩ := Lib.indexByte_some ho
   have := (List.getElem?_eq_some_iff.1 h2).1
   omega
theorem idxByte_c (s : ByteArray) (c : Int) (hs : s.size ≤ 1048576) : AC Try.prog 101 [.one (.c (.string s)), .one (.c (.int .u8 c))] [] (.one (.c (.int .i64 (Lib.indexByte s.data.toList c.toNat.toUInt8)))) [] :=
 AC.pure ⟨_, _, Try.func101, rfl, rfl⟩ (by
   obtain ⟨h1, h2⟩ := idxB_lt (l := s.data.toList) (c := c.toNat.toUInt8)
   have e : s.data.toList.length = s.size := by simp
   exact WalkArith.wf_i64 (by omega)) fun w g cargs h => by
   obtain ⟨x, y, rfl, h1, h2⟩ := inv2 h
   obtain ⟨rfl, _⟩ := inv_c h1
   obtain ⟨rfl, _⟩ := inv_c h2
   exact (Go.Proofs.Try.strings_IndexByte s c w).mono fun e w' ⟨h1, h2⟩ => ⟨h1, below_eq h2.symm⟩
theorem litePre_c (s p : ByteArray) : AC Try.prog 138 [.one (.c (.string s)), .one (.c (.string p))] [] (.one (.c (.bool (Lib.hasPrefix s.data.toList p.data.toList)))) [] :=
 AC.pure ⟨_, _, Try.func138, rfl, rfl⟩ trivial fun w g cargs h => by
   obtain ⟨x, y, rfl, h1, h2⟩ := inv2 h
   obtain ⟨rfl, _⟩ := inv_c h1
   obtain ⟨rfl, _⟩ := inv_c h2
   exact (Go.Proofs.Try.stringslite_HasPrefix s p w).mono fun e w' ⟨h1, h2⟩ => ⟨h1, below_eq h2.symm⟩
/-! ### A line's end -/
section
variable {s : ByteArray}
theorem ext_at {i : Nat} (hi : i ≤ s.size) (k : Nat) : (s.extract i s.size).data.toList[k]? = s.data.toList[i + k]? := by
 rw [ByteArray.data_extract, Array.toList_extract]
 simp only [List.extract, List.drop_take]
 rw [List.take_of_length_le (by simp), List.getElem?_drop]
theorem byte_at {j : Nat} (h : j < s.size) : s.data.toList[j]? = some s[j] := by
 rw [List.getElem?_eq_getElem (by simpa using h), getElem_data s j h]
theorem lineEnd_none {i : Nat} (hi : i ≤ s.size) (h : ∀ j, i ≤ j → ∀ (hj : j < s.size), ¬ (s[j].toNat : Int) = 10) : lineEnd s i = s.size := by
 by_cases h1 : i < s.size
 · rw [lineEnd_on h1 (h i (Nat.le_refl _) h1)]
   exact lineEnd_none (by omega) fun j hj hj2 => h j (by omega) hj2
 · rw [lineEnd_end h1]; omega
termination_by s.size - i
theorem lineEnd_some {i o : Nat} (hj : i + o < s.size) (h : (s[i + o].toNat : Int) = 10) (h2 : ∀ j, i ≤ j → ∀ (hjo : j < i + o), ¬ ((s[j]'(by omega)).toNat : Int) = 10) : lineEnd s i = i + o := by
 induction o generalizing i with
 | zero => exact lineEnd_at hj h
 | succ o ih =>
   have e : i + 1 + o = i + (o + 1) := by omega
   have h5 : (s[i + 1 + o].toNat : Int) = 10 := by simp only [e]; exact h
   rw [lineEnd_on (by omega) (h2 i (Nat.le_refl _) (by omega)), ih (i := i + 1) (by omega) h5 fun j h3 h4 => h2 j (by omega) (by omega)]
   omega
theorem ten_eq (b : UInt8) : (b.toNat : Int) = 10 ↔ b = (10 : Int).toNat.toUInt8 := by
 constructor
 · intro h
   have : b.toNat = 10 := by omega
   exact UInt8.toNat.inj (by rw [this]; rfl)
 · intro h; rw [h]; rfl
theorem line_none {i : Nat} (hi : i ≤ s.size) (h : Lib.indexByte (s.extract i s.size).data.toList (10 : Int).toNat.toUInt8 < 0) : lineEnd s i = s.size := by
 have h1 := Lib.indexByte_ge (s.extract i s.size).data.toList (10 : Int).toNat.toUInt8
 have h2 := Lib.indexByte_none (l := (s.extract i s.size).data.toList) (c := (10 : Int).toNat.toUInt8) (by omega)
 refine lineEnd_none hi fun j hj hj2 h3 => h2 (j - i) ?_
 rw [ext_at hi, show i + (j - i) = j by omega, byte_at hj2, (ten_eq _).1 h3]
theorem line_some {i : Nat} (hi : i ≤ s.size) (h : ¬ Lib.indexByte (s.extract i s.size).data.toList (10 : Int).toNat.toUInt8 < 0) : (lineEnd s i : Int) = i + Lib.indexByte (s.extract i s.size).data.toList (10 : Int).toNat.toUInt8 ∧ lineEnd s i < s.size := by
 obtain ⟨o, ho⟩ : ∃ o : Nat, Lib.indexByte (s.extract i s.size).data.toList (10 : Int).toNat.toUInt8 = o := ⟨(Lib.indexByte (s.extract i s.size).data.toList (10 : Int).toNat.toUInt8).toNat, by omega⟩
 obtain ⟨h1, h2⟩ := Lib.indexByte_some ho
 rw [ext_at hi] at h1
 have hj : i + o < s.size := by simpa using (List.getElem?_eq_some_iff.1 h1).1
 rw [byte_at hj] at h1
 have e := lineEnd_some (s := s) (i := i) (o := o) hj ((ten_eq _).2 (by simpa using h1)) fun j h3 h4 h5 => h2 (j - i) (by omega) (by
   rw [ext_at hi, show i + (j - i) = j by omega, byte_at (by omega), (ten_eq _).1 h5])
 rw [e, ho]
 exact ⟨by omega, hj⟩
end
/-- The place of the line's end, ars the program asks for it. -/
theorem lineQ (s : ByteArray) (i : Nat) (hi : i ≤ s.size) (hs : s.size ≤ 1048576) : ∃ q : Int, AC Try.prog 101 [.one (.c (.string (s.extract i s.size))), .one (.c (.int .u8 10))] [] (.one (.c (.int .i64 q))) [] ∧ (q < 0 → lineEnd s i = s.size) ∧ (0 ≤ q → (lineEnd s i : Int) = i + q ∧ lineEnd s i < s.size) :=
 ⟨_, idxByte_c (s.extract i s.size) 10 (by rw [ByteArray.size_extract]; omega), fun h => line_none hi h, fun h => line_some hi (Int.not_lt.2 h)⟩
theorem noteQ (s : ByteArray) (j : Nat) (hj : j < s.size) (hb : blank s[j].toNat = false) (h3 : (s[j].toNat : Int) = 35) (hs : s.size ≤ 1048576) : ∃ (q : Int) (le : Nat), AC Try.prog 101 [.one (.c (.string (s.extract j s.size))), .one (.c (.int .u8 10))] [] (.one (.c (.int .i64 q))) [] ∧ (q < 0 → skipS s j = s.size) ∧ (0 ≤ q → (le : Int) = j + q ∧ le < s.size ∧ j < le ∧ skipS s j = skipS s le) := by
 obtain ⟨q, h1, h2, h4⟩ := lineQ s j (Nat.le_of_lt hj) hs
 exact ⟨q, lineEnd s j, h1, fun h => note_end hj hb h3 (h2 h), fun h => ⟨(h4 h).1, (h4 h).2, note_lt hj h3, skip_note hj hb h3⟩⟩
/-! ### A sign -/
section
variable {s : ByteArray}
theorem ext_bytes {i n : Nat} (h : i + n ≤ s.size) : (s.extract i (i + n)).data.toList = (s.data.toList.drop i).take n := by
 rw [ByteArray.data_extract, Array.toList_extract]
 simp [List.extract, List.drop_take]
theorem ext_all {i : Nat} (h : i ≤ s.size) : (s.extract i s.size).data.toList = s.data.toList.drop i := by
 rw [ByteArray.data_extract, Array.toList_extract]
 simp only [List.extract, List.drop_take]
 rw [List.take_of_length_le (by simp)]
theorem two_pre {i : Nat} (h : i ≤ s.size) {p : ByteArray} (hp : p.size = 2) : Lib.hasPrefix (s.extract i s.size).data.toList p.data.toList = true ↔ i + 1 < s.size ∧ s.extract i (i + 2) = p := by
 have hl : p.data.toList.length = 2 := by simpa using hp
 have hn : s.data.toList.length = s.size := by simp
 unfold Lib.hasPrefix
 rw [ext_all h, List.isPrefixOf_iff_prefix, List.prefix_iff_eq_take, hl]
 constructor
 · intro e
   have h1 : i + 1 < s.size := by
     have := congrArg List.length e
     rw [hl, List.length_take, List.length_drop, hn] at this
     omega
   refine ⟨h1, ByteArray.ext (Array.ext' ?_)⟩
   rw [ext_bytes (by omega), ← e]
 · rintro ⟨h1, e⟩
   rw [← e, ext_bytes (by omega)]
end
end Go.Proofs.Ytkemjhlbokldhaa

/- The sign at a place, ars the program and the reference look for it. -/
namespace Go.Proofs.Ytkemjhlbokldhaa
open Go.RowKit
set_option linter.unusedVariables false
set_option linter.unusedSimpArgs false

def twos : List ByteArray := [⟨#[58, 45]⟩, ⟨#[33, 61]⟩, ⟨#[60, 61]⟩]
def ones : List ByteArray := [⟨#[40]⟩, ⟨#[41]⟩, ⟨#[44]⟩, ⟨#[46]⟩, ⟨#[61]⟩, ⟨#[60]⟩, ⟨#[43]⟩, ⟨#[45]⟩, ⟨#[47]⟩]
def signB : ByteArray := ⟨#[40, 41, 44, 46, 61, 60, 43, 45, 47]⟩
theorem twos_len : twos.length = 3 := rfl
theorem ones_len : ones.length = 9 := rfl
theorem twos_mem (x : ByteArray) : isTwo x = twos.any (fun y => x == y) := by
 simp [isTwo, twos]
theorem twos_size {p : ByteArray} (h : p ∈ twos) : p.size = 2 := by
 simp only [twos, List.mem_cons, List.not_mem_nil, or_false] at h
 rcases h with rfl | rfl | rfl <;> rfl
section
variable {s : ByteArray} {i : Nat}
theorem sym_two (hi : i < s.size) {k : Nat} (hk : k < twos.length) (h : Lib.hasPrefix (s.extract i s.size).data.toList twos[k].data.toList = true) : symAt s i = twos[k] := by
 obtain ⟨h1, h2⟩ := (two_pre (by omega) (twos_size (List.getElem_mem hk))).1 h
 have h3 : isTwo twos[k] = true := by rw [twos_mem, List.any_eq_true]; exact ⟨_, List.getElem_mem hk, ba_iff.2 rfl⟩
 unfold symAt
 rw [dif_pos hi, h2, if_pos ⟨h1, h3⟩]
theorem no_two (hi : i < s.size) {k : Nat} (hn : NoneTo (fun p : ByteArray => Lib.hasPrefix (s.extract i s.size).data.toList p.data.toList) twos k) (hk : 3 ≤ k) : ¬ (i + 1 < s.size ∧ isTwo (s.extract i (i + 2)) = true) := by
 rintro ⟨h1, h2⟩
 rw [twos_mem, List.any_eq_true] at h2
 obtain ⟨p, hp, h3⟩ := h2
 obtain ⟨j, hj, rfl⟩ := List.getElem_of_mem hp
 have h4 := hn j hj (by rw [twos_len] at hj; omega)
 have h5 := (two_pre (s := s) (i := i) (by omega) (twos_size (List.getElem_mem hj))).2 ⟨h1, ba_iff.1 h3⟩
 simp only [h5] at h4; cases h4
theorem in_signs {c : UInt8} : 0 ≤ Lib.indexByte signB.data.toList c ↔ ((c.toNat : Int) ∈ signs) := by
 constructor
 · intro h
   obtain ⟨o, ho⟩ : ∃ o : Nat, Lib.indexByte signB.data.toList c = o := ⟨(Lib.indexByte signB.data.toList c).toNat, by omega⟩
   obtain ⟨h1, _⟩ := Lib.indexByte_some ho
   have h2 : c ∈ signB.data.toList := List.mem_of_getElem? h1
   have h3 : signB.data.toList = [40, 41, 44, 46, 61, 60, 43, 45, 47] := rfl
   rw [h3] at h2
   simp only [List.mem_cons, List.not_mem_nil, or_false] at h2
   rcases h2 with rfl | rfl | rfl | rfl | rfl | rfl | rfl | rfl | rfl <;> decide
 · intro h
   refine Int.not_lt.1 fun hl => ?_
   have h0 := Lib.indexByte_ge signB.data.toList c
   have h1 := Lib.indexByte_none (l := signB.data.toList) (c := c) (by omega)
   have hc : ∀ n : Nat, n < 256 → (c.toNat : Int) = n → c = UInt8.ofNat n := fun n hn h => by
     apply UInt8.toNat.inj
     rw [UInt8.toNat_ofNat_of_lt' (by omega)]; omega
   simp only [signs, List.mem_cons, List.not_mem_nil, or_false] at h
   rcases h with h | h | h | h | h | h | h | h | h
   · exact h1 0 (by rw [hc 40 (by decide) h]; rfl)
   · exact h1 1 (by rw [hc 41 (by decide) h]; rfl)
   · exact h1 2 (by rw [hc 44 (by decide) h]; rfl)
   · exact h1 3 (by rw [hc 46 (by decide) h]; rfl)
   · exact h1 4 (by rw [hc 61 (by decide) h]; rfl)
   · exact h1 5 (by rw [hc 60 (by decide) h]; rfl)
   · exact h1 6 (by rw [hc 43 (by decide) h]; rfl)
   · exact h1 7 (by rw [hc 45 (by decide) h]; rfl)
   · exact h1 8 (by rw [hc 47 (by decide) h]; rfl)
theorem back_u8 (c : UInt8) : (c.toNat : Int).toNat.toUInt8 = c := by
 apply UInt8.toNat.inj
 have := c.toNat_lt
 simp
theorem sym_one (hi : i < s.size) (h2 : ¬ (i + 1 < s.size ∧ isTwo (s.extract i (i + 2)) = true)) (h : 0 ≤ Lib.indexByte signB.data.toList (s[i].toNat : Int).toNat.toUInt8) : symAt s i = s.extract i (i + 1) := by
 rw [back_u8] at h
 unfold symAt
 rw [dif_pos hi, if_neg h2, if_pos (in_signs.1 h)]
theorem sym_none (hi : i < s.size) (h2 : ¬ (i + 1 < s.size ∧ isTwo (s.extract i (i + 2)) = true)) (h : ¬ 0 ≤ Lib.indexByte signB.data.toList (s[i].toNat : Int).toNat.toUInt8) : symAt s i = ⟨#[]⟩ := by
 rw [back_u8] at h
 unfold symAt
 rw [dif_pos hi, if_neg h2, if_neg fun q => h (in_signs.2 q)]
/-! the reference -/
theorem sym_pair (hi : i + 1 < s.size) {p : ByteArray} (h : s.extract i (i + 2) = p) (hp : isTwo p = true) : symAt s i = p := by
 unfold symAt
 rw [dif_pos (by omega), h, if_pos ⟨hi, hp⟩]
theorem ones_size {k : Nat} (hk : k < ones.length) : ones[k].size = 1 := by
 have : ∀ p ∈ ones, p.size = 1 := by
   intro p hp
   simp only [ones, List.mem_cons, List.not_mem_nil, or_false] at hp
   rcases hp with rfl | rfl | rfl | rfl | rfl | rfl | rfl | rfl | rfl <;> rfl
 exact this _ (List.getElem_mem hk)
def hd0 (p : ByteArray) : Int := match p.data.toList with | [] => -1 | c :: _ => c.toNat
theorem hd0_eq {p : ByteArray} (h : 0 < p.size) : hd0 p = p[0].toNat := by
 have h1 := getElem_data p 0 h
 unfold hd0
 cases hl : p.data.toList with
 | nil => have : p.data.toList.length = p.size := by simp
          rw [hl] at this; simp at this; omega
 | cons c l => simp [hl] at h1; simp [h1]
theorem ones_signs : ones.map hd0 = signs := rfl
theorem one_ext (hi : i < s.size) {p : ByteArray} (hp : p.size = 1) (h : hd0 p = s[i].toNat) : s.extract i (i + 1) = p := by
 have h0 : 0 < p.size := by omega
 rw [hd0_eq h0] at h
 refine ByteArray.ext (Array.ext' ?_)
 rw [ext_bytes (by omega)]
 have e1 : s.data.toList.drop i = s[i] :: s.data.toList.drop (i + 1) := by
   rw [List.drop_eq_getElem_cons (by simpa using hi), getElem_data s i hi]
 have e2 : p.data.toList = [p[0]] := by
   have h2 := getElem_data p 0 h0
   have h3 : p.data.toList.length = 1 := by simpa using hp
   match hl : p.data.toList, h3 with
   | [c], _ => simp [hl] at h2; rw [h2]
 rw [e1, e2]
 simp only [List.take_succ_cons, List.take_zero]
 rw [UInt8.toNat.inj (show s[i].toNat = p[0].toNat by omega)]
theorem sym_hit (hi : i < s.size) (h2 : ¬ (i + 1 < s.size ∧ isTwo (s.extract i (i + 2)) = true)) {k : Nat} (hk : k < ones.length) (h0 : 0 < ones[k].size) (h : (ones[k][0].toNat : Int) = s[i].toNat) : symAt s i = ones[k] := by
 have e : hd0 ones[k] = s[i].toNat := by rw [hd0_eq h0]; exact h
 unfold symAt
 have hm : (s[i].toNat : Int) ∈ signs := by
   rw [← ones_signs, List.mem_map]
   exact ⟨ones[k], List.getElem_mem hk, e⟩
 rw [dif_pos hi, if_neg h2, if_pos hm, one_ext hi (ones_size hk) e]
theorem sym_miss (hi : i < s.size) (h2 : ¬ (i + 1 < s.size ∧ isTwo (s.extract i (i + 2)) = true)) {k : Nat} (hk : 9 ≤ k) (hn : NoneTo (fun p : ByteArray => decide (hd0 p = s[i].toNat)) ones k) : symAt s i = ⟨#[]⟩ := by
 unfold symAt
 have hm : ¬ (s[i].toNat : Int) ∈ signs := by
   rw [← ones_signs, List.mem_map]
   rintro ⟨p, hp, e⟩
   obtain ⟨j, hj, rfl⟩ := List.getElem_of_mem hp
   have := hn j hj (by rw [ones_len] at hj; omega)
   simp [e] at this
 rw [dif_pos hi, if_neg h2, if_neg hm]
theorem not_two {y : ByteArray} (h1 : (y == (⟨#[58, 45]⟩ : ByteArray)) = false) (h2 : (y == (⟨#[33, 61]⟩ : ByteArray)) = false) (h3 : (y == (⟨#[60, 61]⟩ : ByteArray)) = false) : ¬ (i + 1 < s.size ∧ isTwo y = true) := by
 simp [isTwo, h1, h2, h3]
end
/-! what comes next -/
section
variable {s : ByteArray} {j : Nat}
theorem size_zero {y : ByteArray} (h : y.size = 0) : y = ⟨#[]⟩ := by
 obtain ⟨⟨l⟩⟩ := y
 have : l.length = 0 := h
 rw [List.eq_nil_of_length_eq_zero this]
theorem cls_dig {c : Int} : cls c = 3 ↔ digB c = true := by
 unfold cls
 by_cases h1 : letB c = true
 · have : digB c = false := by
     unfold letB at h1; unfold digB
     simp only [decide_eq_true_eq, decide_eq_false_iff_not] at *; omega
   simp [h1, this]
 · by_cases h2 : upB c = true
   · have : digB c = false := by
       unfold upB at h2; unfold digB
       simp only [decide_eq_true_eq, decide_eq_false_iff_not] at *; omega
     simp [h1, h2, this]
   · by_cases h3 : digB c = true <;> simp [h1, h2, h3]
theorem cls_pos {c : Int} : (cls c = 0 ↔ alnumB c = false) ∧ (0 < cls c ↔ alnumB c = true) := by
 have := alnum_cls c
 have h2 : 0 ≤ cls c := by
   unfold cls; repeat' split
   all_goals omega
 constructor
 · rw [this, decide_eq_false_iff_not]; omega
 · rw [this, decide_eq_true_eq]
theorem lexw_bad (h : j < s.size) (hs : skipS s j = j) (ha : alnumB s[j].toNat = true) (hc : ¬ (wordRes s j (s[j].toNat : Int)).2.2 = 0) : lexR s j = ([], (wordRes s j (s[j].toNat : Int)).2.2, (j : Int)) := by
 unfold wordRes at *
 cases ht : wordTok s j (wordEnd s j) (s[j].toNat : Int) with
 | mk o c =>
   cases o with
   | none => rw [ht] at hc; rw [lex_wrong h hs ha ht]
   | some t => rw [ht] at hc; exact absurd rfl hc
theorem tok_none {i e : Nat} {c k : Int} (h : wordTok s i e c = (none, k)) : ¬ k = 0 := by
 unfold wordTok at h
 repeat' split at h
 all_goals (first | (simp only [Prod.mk.injEq] at h; omega) | (simp at h; done) | (have := congrArg Prod.snd h; simp at this; omega))
theorem lexw_ok (h : j < s.size) (hs : skipS s j = j) (ha : alnumB s[j].toNat = true) (hc : (wordRes s j (s[j].toNat : Int)).2.2 = 0) : lexR s j = consL (wordRes s j (s[j].toNat : Int)).1 (lexR s (wordEnd s j)) ∧ (wordRes s j (s[j].toNat : Int)).2.1 = ((wordEnd s j : Nat) : Int) := by
 unfold wordRes at *
 cases ht : wordTok s j (wordEnd s j) (s[j].toNat : Int) with
 | mk o c =>
   cases o with
   | none => rw [ht] at hc; exact absurd hc (tok_none ht)
   | some t => exact ⟨lex_word h hs ha ht, rfl⟩
theorem comb_bad {out : List Tokent} {r : LexR} {c p : Int} (h : combL out (lexR s j) = r) (h2 : lexR s j = ([], c, p)) (hc : ¬ c = 0) : r = ([], c, p) := by
 rw [← h, h2]; simp [combL, hc]
theorem comb_ok {out : List Tokent} {r : LexR} {t : Tokent} {k : Nat} (h : combL out (lexR s j) = r) (h2 : lexR s j = consL t (lexR s k)) : combL (out ++ [t]) (lexR s k) = r := by
 rw [← comb_cons, ← h2]; exact h
theorem comb_skip {out : List Tokent} {r : LexR} {k : Nat} (h : combL out (lexR s j) = r) (hk : skipS s j = skipS s k) : combL out (lexR s k) = r := by
 rw [← lex_skip hk]; exact h
theorem comb_end {out : List Tokent} {r : LexR} (h : combL out (lexR s j) = r) (h2 : ¬ j < s.size) : r = (out, 0, 0) := by
 rw [← h, lex_end h2]; simp [combL]
theorem consL_wf {t : Tokent} {r : LexR} (h : ¬ (consL t r).2.1 = 0) : (consL t r).1 = [] := by
 unfold consL at *
 by_cases q : r.2.1 = 0
 · rw [if_pos q] at h; exact absurd q h
 · rw [if_neg q]
theorem lexR_wf {i : Nat} (h : ¬ (lexR s i).2.1 = 0) : (lexR s i).1 = [] := by
 rw [lexR] at *
 split
 · rename_i h1
   rw [dif_pos h1] at h
   split
   · rename_i ha
     rw [dif_pos ha] at h
     split
     · rename_i t c ht
       simp only [ht] at h
       exact consL_wf h
     · rfl
   · rename_i ha
     rw [dif_neg ha] at h
     split
     · rfl
     · rename_i hy
       rw [dif_neg hy] at h
       exact consL_wf h
 · rfl
theorem comb_start : combL [] (lexR s j) = lexR s j := by
 unfold combL
 by_cases h : (lexR s j).2.1 = 0
 · rw [if_pos h]; rfl
 · rw [if_neg h, ← lexR_wf h]
theorem lexAll_big (h : 6000 < (s.size : Int)) : lexAll s = ([], 1, 0) := by unfold lexAll; rw [if_pos (by omega)]
theorem lexAll_eq (h : ¬ 6000 < (s.size : Int)) : lexAll s = lexR s 0 := by unfold lexAll; rw [if_neg (by omega)]
/-- The reference's word. -/
theorem lexS_ok {k : Nat} {t : Tokent} (h : j < s.size) (hs : skipS s j = j) (ha : alnumB s[j].toNat = true) (he : k = wordEnd s j) (hc : wordRes s j (s[j].toNat : Int) = (t, (k : Int), 0)) : lexR s j = consL t (lexR s k) := by
 have := (lexw_ok h hs ha (by rw [hc])).1
 rw [hc, ← he] at this; exact this
theorem lexS_bad {c : Int} (h : j < s.size) (hs : skipS s j = j) (ha : alnumB s[j].toNat = true) (hc : wordRes s j (s[j].toNat : Int) = (⟨0, 0, ⟨#[]⟩, 0⟩, 0, c)) (h0 : ¬ c = 0) : lexR s j = ([], c, (j : Int)) := by
 have := lexw_bad h hs ha (by rw [hc]; exact h0)
 rw [hc] at this; exact this
end
end Go.Proofs.Ytkemjhlbokldhaa

/- The words and signs of a text are right; what is read of a text. -/
namespace Go.Proofs.Ytkemjhlbokldhaa
open Go.RowKit
set_option linter.unusedVariables false
set_option linter.unusedSimpArgs false

theorem textN_numB {s : ByteArray} (h : textOk s = true) : numB (textN s) = true := by
 unfold textOk at h
 unfold textN
 cases q : textNum s with
 | none => rw [q] at h; cases h
 | some n =>
   have := (textNum_some q).1
   unfold numB
   rw [decide_eq_true_eq]
   show 0 ≤ (n : Int) ∧ (n : Int) ≤ _
   omega
theorem wordTok_ok {s : ByteArray} {i e : Nat} {c k : Int} {t : Tokent} (h : wordTok s i e c = (some t, k)) : tokOk t := by
 unfold wordTok at h
 split at h
 · split at h
   · rename_i h1
     simp only [Prod.mk.injEq, Option.some.injEq] at h
     rw [← h.1]; exact .inr (.inr (.inl ⟨rfl, rfl, textN_numB h1⟩))
   · simp at h
 · split at h
   · rename_i h1
     simp only [Prod.mk.injEq, Option.some.injEq] at h
     rw [← h.1]; exact .inl ⟨rfl, rfl, h1⟩
   · split at h
     · rename_i h1
       simp only [Prod.mk.injEq, Option.some.injEq] at h
       rw [← h.1]; exact .inr (.inl ⟨rfl, h1⟩)
     · simp at h
theorem consL_ok {t : Tokent} {r : LexR} (h : tokOk t) (h2 : ∀ x ∈ r.1, tokOk x) : ∀ x ∈ (consL t r).1, tokOk x := by
 unfold consL; split
 · intro x hx
   rcases List.mem_cons.1 hx with rfl | hx
   · exact h
   · exact h2 x hx
 · intro x hx; cases hx
theorem lexR_ok {s : ByteArray} (i : Nat) : ∀ x ∈ (lexR s i).1, tokOk x := by
 rw [lexR]
 split
 · rename_i h
   have hg := skip_ge (s := s) i
   split
   · rename_i ha
     have hw := wordEnd_gt h ha
     split
     · rename_i t c ht
       exact consL_ok (wordTok_ok ht) (lexR_ok (wordEnd s (skipS s i)))
     · intro x hx; cases hx
   · split
     · intro x hx; cases hx
     · rename_i hy
       exact consL_ok (.inr (.inr (.inr rfl))) (lexR_ok (skipS s i + (symAt s (skipS s i)).size))
 · intro x hx; cases hx
termination_by s.size - i
theorem lexAll_ok (s : ByteArray) : ∀ x ∈ (lexAll s).1, tokOk x := by
 unfold lexAll; split
 · intro x hx; cases hx
 · exact lexR_ok 0
theorem consL_len' {t : Tokent} {r : LexR} : (consL t r).1.length ≤ r.1.length + 1 := by
 unfold consL; split <;> simp
theorem lexR_len' {s : ByteArray} (i : Nat) : (lexR s i).1.length ≤ s.size - i := by
 rw [lexR]
 split
 · rename_i h
   have hg := skip_ge (s := s) i
   split
   · rename_i ha
     have hw := wordEnd_gt h ha
     split
     · rename_i t c ht
       have ih := lexR_len' (s := s) (wordEnd s (skipS s i))
       have := consL_len' (t := t) (r := lexR s (wordEnd s (skipS s i)))
       have h2 := wordEnd_le (s := s) (skipS s i) (by omega)
       dsimp only; omega
     · simp
   · split
     · simp
     · rename_i hy
       have ih := lexR_len' (s := s) (skipS s i + (symAt s (skipS s i)).size)
       have := consL_len' (t := ⟨4, 0, symAt s (skipS s i), skipS s i⟩) (r := lexR s (skipS s i + (symAt s (skipS s i)).size))
       have h2 := symAt_size (s := s) (i := skipS s i) h
       dsimp only; omega
 · simp
termination_by s.size - i
theorem lexAll_len' (s : ByteArray) : (lexAll s).1.length ≤ 6000 := by
 unfold lexAll; split
 · simp
 · have := lexR_len' (s := s) 0; omega
section
variable {s : ByteArray}
theorem parseI_lex (h : ¬ (lexAll s).2.1 = 0) : parseI s = (⟨[], []⟩, (lexAll s).2.1, (lexAll s).2.2) := if_neg h
theorem parseS_lex (h : ¬ (lexAll s).2.1 = 0) : parseS s = (⟨[], []⟩, (lexAll s).2.1, (lexAll s).2.2) := if_neg h
theorem endR_ok {ds : List Declt} {rs : List Rulet} {st : PS} (h : st.code = 0) : endR (ds, rs, st) = (⟨ds, rs⟩, 0, 0) := if_pos h
theorem endR_no {ds : List Declt} {rs : List Rulet} {st : PS} (h : ¬ st.code = 0) : endR (ds, rs, st) = (⟨[], []⟩, st.code, st.place) := if_neg h
theorem parseI_of {r : ProgR} (h : (lexAll s).2.1 = 0) (hx : progT (lexAll s).1 (s.size : Int) ⟨0, 0, 0⟩ [] [] = r) : parseI s = endR r := (if_pos h).trans (congrArg endR hx)
theorem parseS_of {r : ProgR} (h : (lexAll s).2.1 = 0) (hx : progU (lexAll s).1 (s.size : Int) ⟨0, 0, 0⟩ [] [] = r) : parseS s = endR r := (if_pos h).trans (congrArg endR hx)
end
section
variable {tk : List Tokent} {e : Int}
theorem tok_term {t : Tokent} (h : tokOk t) (h4 : ¬ t.kind = 4) (h1 : ¬ t.kind = 1) : termT t = true := by
 rcases h with h | h | h | h
 · exact absurd h.1 h1
 · simp [termT, h.1]
 · simp [termT, h.1]
 · exact absurd h h4
theorem argsS_last' {st : PS} {a : List Termt} {b : Bool} (hb : decide ((a.length : Int) = 6) = b) (h0 : st.code = 0) (hl : a.length ≤ 6) (hs : signT (hereT tk e (termP tk e b st).2) ⟨#[44]⟩ = false) : argsS tk e (8 - a.length) st a = (a ++ [(termP tk e b st).1], (termP tk e b st).2) := by
 subst hb; exact argsS_last h0 hl hs
theorem argsS_more' {st : PS} {a : List Termt} {b : Bool} (hb : decide ((a.length : Int) = 6) = b) (h0 : st.code = 0) (hl : a.length ≤ 6) (hs : signT (hereT tk e (termP tk e b st).2) ⟨#[44]⟩ = true) :
   a.length + 1 ≤ 6 ∧ (termP tk e b st).2.i < tk.length ∧ argsS tk e (8 - (a ++ [(termP tk e b st).1]).length) (termP tk e b st).2.next (a ++ [(termP tk e b st).1]) = argsS tk e (8 - a.length) st a := by
 subst hb; exact argsS_more h0 hl hs
theorem here_kind {st : PS} (h : ¬ (st.code = 0 ∧ st.i < tk.length)) : (hereT tk e st).kind = 0 := by unfold hereT; rw [dif_neg h]
theorem term_zero {t : Tokent} (h : t.kind = 0) : termT t = false := by simp [termT, nameT, h]
theorem name_zero {t : Tokent} (h : t.kind = 0) : nameT t = false := by simp [nameT, h]
theorem not_zero {t : Tokent} (h : t.kind = 0) : notT t = false := by simp [notT, h]
theorem begins_zero {t : Tokent} (h : t.kind = 0) : beginsT t = false := by simp [beginsT, notT, term_zero h, h]
theorem okU_zero : okU (tk := tk) ⟨0, 0, 0⟩ [] [] := ⟨⟨Nat.zero_le _, Nat.zero_le _⟩, fun _ => ⟨Nat.zero_le _, Nat.zero_le _, Nat.zero_le _⟩⟩
theorem okU_decl {st2 : PS} {ds : List Declt} {rs : List Rulet} {d : Declt} (hl : ds.length ≤ 16 ∧ rs.length ≤ 24) (h : st2.code = 0 → ds.length < 16 ∧ st2.i ≤ tk.length) : okU (tk := tk) st2 (ds ++ [d]) rs :=
 ⟨⟨by simp; omega, by omega⟩, fun hc => ⟨(h hc).2, by have := (h hc).1; simp; omega, hl.2⟩⟩
theorem okU_rule {st2 : PS} {ds : List Declt} {rs : List Rulet} {r : Rulet} (hl : ds.length ≤ 16 ∧ rs.length ≤ 24) (h : st2.code = 0 → rs.length < 24 ∧ st2.i ≤ tk.length) : okU (tk := tk) st2 ds (rs ++ [r]) :=
 ⟨⟨by omega, by simp; omega⟩, fun hc => ⟨(h hc).2, hl.1, by have := (h hc).1; simp; omega⟩⟩
theorem fullD_on {ds : List Declt} {st : PS} (h : (ds.length : Int) = 16) : fullD tk e ds st = faultP tk e 7 st := if_pos (by omega)
theorem fullD_off {ds : List Declt} {st : PS} (h : ¬ (ds.length : Int) = 16) : fullD tk e ds st = st := if_neg (by omega)
theorem fullR_on {rs : List Rulet} {st : PS} (h : startsT (hereT tk e st) = true) (h2 : (rs.length : Int) = 24) : fullR tk e rs st = faultP tk e 7 st := if_pos ⟨h, by omega⟩
theorem fullR_off {rs : List Rulet} {st : PS} (h : ¬ (startsT (hereT tk e st) = true ∧ (rs.length : Int) = 24)) : fullR tk e rs st = st := if_neg fun q => h ⟨q.1, by omega⟩
theorem opS_at {t : Tokent} {k : Nat} (hk : k < opL4.length) (h : signT t opL4[k] = true) : opS t = (k : Int) + 1 := by
 simp only [signT, Bool.and_eq_true, decide_eq_true_eq] at h
 unfold opS; rw [if_pos h.1]; exact op_at hk (ba_iff.1 h.2)
theorem opS_none {t : Tokent} {k : Nat} (hk : 4 ≤ k) (h : NoneTo (fun x => signT t x) opL4 k) : opS t = 0 := by
 unfold opS
 split
 · rename_i h1
   refine op_none hk fun j hj hjk => ?_
   have := h j hj hjk
   simpa [signT, h1] using this
 · rfl
theorem kindS_at {t : Tokent} {k : Nat} (hk : k < kindL3.length) (h1 : t.kind = 1) (h : (t.s == kindL3[k]) = true) : kindS t = (k : Int) + 1 := by
 unfold kindS; rw [if_pos h1]; exact kind_at hk (ba_iff.1 h)
theorem kindS_none {t : Tokent} {k : Nat} (hk : 3 ≤ k) (h : NoneTo (fun x => decide (t.kind = 1) && t.s == x) kindL3 k) : kindS t = 0 := by
 unfold kindS
 split
 · rename_i h1
   refine kind_none hk fun j hj hjk => ?_
   have := h j hj hjk
   simpa [h1] using this
 · rfl
end
end Go.Proofs.Ytkemjhlbokldhaa

/- Words and signs (printed by walk.py) -/
namespace Go.Proofs.Ytkemjhlbokldhaa
open Go.RowKit
set_option linter.unusedVariables false
set_option linter.unusedSimpArgs false
set_option maxRecDepth 100000

set_option maxHeartbeats 4000000 in
theorem isLet_c (c : Int) : AC Try.prog 48 [.one (.c (.int .u8 (c)))] [] (.one (.c (.bool (letB c)))) [] := by
 refine AC_body1 Try.func48 rfl rfl Try.ntmps48 rfl Try.results48 ?_
 refine AW_seq ?_
 refine AW_region ?_
 refine AL_p (x_assign rfl rfl) ?_
 refine AL_nil ?_
 refine AW_seq ?_
 refine AW_region ?_
 refine AL_p (x_move rfl rfl) ?_
 refine AL_b (x_geq rfl rfl rfl) (fun b4 h4 => ?_)
 refine AL_p (x_move rfl rfl) ?_
 cases b4
 · try simp only [tdy] at h4
   refine AL_o rfl rfl rfl rfl ?_
   refine AL_o rfl rfl rfl rfl ?_
   refine AL_p (x_pickF rfl rfl rfl) ?_
   refine AL_p (x_assign rfl rfl) ?_
   refine AL_nil ?_
   refine AW_ret ?_
   exact ⟨rn [], ⟨⟨⟨_, rfl, vle_bool (by first | ((unfold letB; symm; first | (rw [decide_eq_true_eq]; omega) | (rw [decide_eq_false_iff_not]; omega))))⟩, trivial⟩, trivial, trivial, rfl⟩⟩
 try simp only [tdy] at h4
 refine AL_g rfl rfl (x_move rfl rfl) ?_
 refine AL_gb rfl rfl (x_leq rfl rfl rfl) (fun b7 h7 => ?_)
 refine AL_p (x_pickT rfl rfl rfl) ?_
 refine AL_p (x_assign rfl rfl) ?_
 refine AL_nil ?_
 refine AW_ret ?_
 cases b7
 rotate_left
 · try simp only [tdy] at h7
   exact ⟨rn [], ⟨⟨⟨_, rfl, vle_bool (by first | ((unfold letB; symm; first | (rw [decide_eq_true_eq]; omega) | (rw [decide_eq_false_iff_not]; omega))))⟩, trivial⟩, trivial, trivial, rfl⟩⟩
 try simp only [tdy] at h7
 exact ⟨rn [], ⟨⟨⟨_, rfl, vle_bool (by first | ((unfold letB; symm; first | (rw [decide_eq_true_eq]; omega) | (rw [decide_eq_false_iff_not]; omega))))⟩, trivial⟩, trivial, trivial, rfl⟩⟩

set_option maxHeartbeats 4000000 in
theorem isUp_c (c : Int) : AC Try.prog 49 [.one (.c (.int .u8 (c)))] [] (.one (.c (.bool (upB c)))) [] := by
 refine AC_body1 Try.func49 rfl rfl Try.ntmps49 rfl Try.results49 ?_
 refine AW_seq ?_
 refine AW_region ?_
 refine AL_p (x_assign rfl rfl) ?_
 refine AL_nil ?_
 refine AW_seq ?_
 refine AW_region ?_
 refine AL_p (x_move rfl rfl) ?_
 refine AL_b (x_geq rfl rfl rfl) (fun b4 h4 => ?_)
 refine AL_p (x_move rfl rfl) ?_
 cases b4
 · try simp only [tdy] at h4
   refine AL_o rfl rfl rfl rfl ?_
   refine AL_o rfl rfl rfl rfl ?_
   refine AL_p (x_pickF rfl rfl rfl) ?_
   refine AL_p (x_assign rfl rfl) ?_
   refine AL_nil ?_
   refine AW_ret ?_
   exact ⟨rn [], ⟨⟨⟨_, rfl, vle_bool (by first | ((unfold upB; symm; first | (rw [decide_eq_true_eq]; omega) | (rw [decide_eq_false_iff_not]; omega))))⟩, trivial⟩, trivial, trivial, rfl⟩⟩
 try simp only [tdy] at h4
 refine AL_g rfl rfl (x_move rfl rfl) ?_
 refine AL_gb rfl rfl (x_leq rfl rfl rfl) (fun b7 h7 => ?_)
 refine AL_p (x_pickT rfl rfl rfl) ?_
 refine AL_p (x_assign rfl rfl) ?_
 refine AL_nil ?_
 refine AW_ret ?_
 cases b7
 rotate_left
 · try simp only [tdy] at h7
   exact ⟨rn [], ⟨⟨⟨_, rfl, vle_bool (by first | ((unfold upB; symm; first | (rw [decide_eq_true_eq]; omega) | (rw [decide_eq_false_iff_not]; omega))))⟩, trivial⟩, trivial, trivial, rfl⟩⟩
 try simp only [tdy] at h7
 exact ⟨rn [], ⟨⟨⟨_, rfl, vle_bool (by first | ((unfold upB; symm; first | (rw [decide_eq_true_eq]; omega) | (rw [decide_eq_false_iff_not]; omega))))⟩, trivial⟩, trivial, trivial, rfl⟩⟩

set_option maxHeartbeats 4000000 in
theorem isDig_c (c : Int) : AC Try.prog 50 [.one (.c (.int .u8 (c)))] [] (.one (.c (.bool (digB c)))) [] := by
 refine AC_body1 Try.func50 rfl rfl Try.ntmps50 rfl Try.results50 ?_
 refine AW_seq ?_
 refine AW_region ?_
 refine AL_p (x_assign rfl rfl) ?_
 refine AL_nil ?_
 refine AW_seq ?_
 refine AW_region ?_
 refine AL_p (x_move rfl rfl) ?_
 refine AL_b (x_geq rfl rfl rfl) (fun b4 h4 => ?_)
 refine AL_p (x_move rfl rfl) ?_
 cases b4
 · try simp only [tdy] at h4
   refine AL_o rfl rfl rfl rfl ?_
   refine AL_o rfl rfl rfl rfl ?_
   refine AL_p (x_pickF rfl rfl rfl) ?_
   refine AL_p (x_assign rfl rfl) ?_
   refine AL_nil ?_
   refine AW_ret ?_
   exact ⟨rn [], ⟨⟨⟨_, rfl, vle_bool (by first | ((unfold digB; symm; first | (rw [decide_eq_true_eq]; omega) | (rw [decide_eq_false_iff_not]; omega))))⟩, trivial⟩, trivial, trivial, rfl⟩⟩
 try simp only [tdy] at h4
 refine AL_g rfl rfl (x_move rfl rfl) ?_
 refine AL_gb rfl rfl (x_leq rfl rfl rfl) (fun b7 h7 => ?_)
 refine AL_p (x_pickT rfl rfl rfl) ?_
 refine AL_p (x_assign rfl rfl) ?_
 refine AL_nil ?_
 refine AW_ret ?_
 cases b7
 rotate_left
 · try simp only [tdy] at h7
   exact ⟨rn [], ⟨⟨⟨_, rfl, vle_bool (by first | ((unfold digB; symm; first | (rw [decide_eq_true_eq]; omega) | (rw [decide_eq_false_iff_not]; omega))))⟩, trivial⟩, trivial, trivial, rfl⟩⟩
 try simp only [tdy] at h7
 exact ⟨rn [], ⟨⟨⟨_, rfl, vle_bool (by first | ((unfold digB; symm; first | (rw [decide_eq_true_eq]; omega) | (rw [decide_eq_false_iff_not]; omega))))⟩, trivial⟩, trivial, trivial, rfl⟩⟩

set_option maxHeartbeats 4000000 in
theorem cls_c (c : Int) : AC Try.prog 42 [.one (.c (.int .u8 (c)))] [] (.one (.c (.int .i64 (cls c)))) [] := by
 refine AC_body1 Try.func42 rfl rfl Try.ntmps42 rfl Try.results42 ?_
 refine AW_seq ?_
 refine AW_region ?_
 refine AL_p (x_assign rfl rfl) ?_
 refine AL_nil ?_
 refine AW_seq ?_
 refine AW_seq ?_
 refine AW_region ?_
 refine AL_p (x_move rfl rfl) ?_
 refine AL_b (x_geq rfl rfl rfl) (fun b4 h4 => ?_)
 refine AL_p (x_move rfl rfl) ?_
 cases b4
 · try simp only [tdy] at h4
   refine AL_o rfl rfl rfl rfl ?_
   refine AL_o rfl rfl rfl rfl ?_
   refine AL_p (x_pickF rfl rfl rfl) ?_
   refine AL_nil ?_
   refine AW_condF rfl ?_
   refine AW_skip ?_
   refine AW_seq ?_
   refine AW_seq ?_
   refine AW_region ?_
   refine AL_p (x_move rfl rfl) ?_
   refine AL_b (x_geq rfl rfl rfl) (fun b10 h10 => ?_)
   refine AL_p (x_move rfl rfl) ?_
   cases b10
   · try simp only [tdy] at h10
     refine AL_o rfl rfl rfl rfl ?_
     refine AL_o rfl rfl rfl rfl ?_
     refine AL_p (x_pickF rfl rfl rfl) ?_
     refine AL_nil ?_
     refine AW_condF rfl ?_
     refine AW_skip ?_
     refine AW_seq ?_
     refine AW_seq ?_
     refine AW_region ?_
     refine AL_p (x_move rfl rfl) ?_
     refine AL_b (x_geq rfl rfl rfl) (fun b16 h16 => ?_)
     refine AL_p (x_move rfl rfl) ?_
     cases b16
     · try simp only [tdy] at h16
       refine AL_o rfl rfl rfl rfl ?_
       refine AL_o rfl rfl rfl rfl ?_
       refine AL_p (x_pickF rfl rfl rfl) ?_
       refine AL_nil ?_
       refine AW_condF rfl ?_
       refine AW_skip ?_
       refine AW_seq ?_
       refine AW_region ?_
       refine AL_p (x_assign rfl rfl) ?_
       refine AL_nil ?_
       refine AW_ret ?_
       exact ⟨rn [], ⟨⟨⟨_, rfl, vle_int (by first | ((unfold cls letB upB digB; grind)) | ((unfold cls letB upB digB; simp [*])))⟩, trivial⟩, trivial, trivial, rfl⟩⟩
     try simp only [tdy] at h16
     refine AL_g rfl rfl (x_move rfl rfl) ?_
     refine AL_gb rfl rfl (x_leq rfl rfl rfl) (fun b19 h19 => ?_)
     refine AL_p (x_pickT rfl rfl rfl) ?_
     refine AL_nil ?_
     cases b19
     rotate_left
     · try simp only [tdy] at h19
       refine AW_condT rfl ?_
       refine AW_seq ?_
       refine AW_region ?_
       refine AL_p (x_assign rfl rfl) ?_
       refine AL_nil ?_
       refine AW_ret ?_
       exact ⟨rn [], ⟨⟨⟨_, rfl, vle_int (by first | ((unfold cls letB upB digB; grind)) | ((unfold cls letB upB digB; simp [*])))⟩, trivial⟩, trivial, trivial, rfl⟩⟩
     try simp only [tdy] at h19
     refine AW_condF rfl ?_
     refine AW_skip ?_
     refine AW_seq ?_
     refine AW_region ?_
     refine AL_p (x_assign rfl rfl) ?_
     refine AL_nil ?_
     refine AW_ret ?_
     exact ⟨rn [], ⟨⟨⟨_, rfl, vle_int (by first | ((unfold cls letB upB digB; grind)) | ((unfold cls letB upB digB; simp [*])))⟩, trivial⟩, trivial, trivial, rfl⟩⟩
   try simp only [tdy] at h10
   refine AL_g rfl rfl (x_move rfl rfl) ?_
   refine AL_gb rfl rfl (x_leq rfl rfl rfl) (fun b13 h13 => ?_)
   refine AL_p (x_pickT rfl rfl rfl) ?_
   refine AL_nil ?_
   cases b13
   rotate_left
   · try simp only [tdy] at h13
     refine AW_condT rfl ?_
     refine AW_seq ?_
     refine AW_region ?_
     refine AL_p (x_assign rfl rfl) ?_
     refine AL_nil ?_
     refine AW_ret ?_
     exact ⟨rn [], ⟨⟨⟨_, rfl, vle_int (by first | ((unfold cls letB upB digB; grind)) | ((unfold cls letB upB digB; simp [*])))⟩, trivial⟩, trivial, trivial, rfl⟩⟩
   try simp only [tdy] at h13
   refine AW_condF rfl ?_
   refine AW_skip ?_
   refine AW_seq ?_
   refine AW_seq ?_
   refine AW_region ?_
   refine AL_p (x_move rfl rfl) ?_
   refine AL_b (x_geq rfl rfl rfl) (fun b16 h16 => ?_)
   refine AL_p (x_move rfl rfl) ?_
   cases b16
   · try simp only [tdy] at h16
     refine AL_o rfl rfl rfl rfl ?_
     refine AL_o rfl rfl rfl rfl ?_
     refine AL_p (x_pickF rfl rfl rfl) ?_
     refine AL_nil ?_
     refine AW_condF rfl ?_
     refine AW_skip ?_
     refine AW_seq ?_
     refine AW_region ?_
     refine AL_p (x_assign rfl rfl) ?_
     refine AL_nil ?_
     refine AW_ret ?_
     exact ⟨rn [], ⟨⟨⟨_, rfl, vle_int (by first | ((unfold cls letB upB digB; grind)) | ((unfold cls letB upB digB; simp [*])))⟩, trivial⟩, trivial, trivial, rfl⟩⟩
   try simp only [tdy] at h16
   refine AL_g rfl rfl (x_move rfl rfl) ?_
   refine AL_gb rfl rfl (x_leq rfl rfl rfl) (fun b19 h19 => ?_)
   refine AL_p (x_pickT rfl rfl rfl) ?_
   refine AL_nil ?_
   cases b19
   rotate_left
   · try simp only [tdy] at h19
     refine AW_condT rfl ?_
     refine AW_seq ?_
     refine AW_region ?_
     refine AL_p (x_assign rfl rfl) ?_
     refine AL_nil ?_
     refine AW_ret ?_
     exact ⟨rn [], ⟨⟨⟨_, rfl, vle_int (by first | ((unfold cls letB upB digB; grind)) | ((unfold cls letB upB digB; simp [*])))⟩, trivial⟩, trivial, trivial, rfl⟩⟩
   try simp only [tdy] at h19
   refine AW_condF rfl ?_
   refine AW_skip ?_
   refine AW_seq ?_
   refine AW_region ?_
   refine AL_p (x_assign rfl rfl) ?_
   refine AL_nil ?_
   refine AW_ret ?_
   exact ⟨rn [], ⟨⟨⟨_, rfl, vle_int (by first | ((unfold cls letB upB digB; grind)) | ((unfold cls letB upB digB; simp [*])))⟩, trivial⟩, trivial, trivial, rfl⟩⟩
 try simp only [tdy] at h4
 refine AL_g rfl rfl (x_move rfl rfl) ?_
 refine AL_gb rfl rfl (x_leq rfl rfl rfl) (fun b7 h7 => ?_)
 refine AL_p (x_pickT rfl rfl rfl) ?_
 refine AL_nil ?_
 cases b7
 rotate_left
 · try simp only [tdy] at h7
   refine AW_condT rfl ?_
   refine AW_seq ?_
   refine AW_region ?_
   refine AL_p (x_assign rfl rfl) ?_
   refine AL_nil ?_
   refine AW_ret ?_
   exact ⟨rn [], ⟨⟨⟨_, rfl, vle_int (by first | ((unfold cls letB upB digB; grind)) | ((unfold cls letB upB digB; simp [*])))⟩, trivial⟩, trivial, trivial, rfl⟩⟩
 try simp only [tdy] at h7
 refine AW_condF rfl ?_
 refine AW_skip ?_
 refine AW_seq ?_
 refine AW_seq ?_
 refine AW_region ?_
 refine AL_p (x_move rfl rfl) ?_
 refine AL_b (x_geq rfl rfl rfl) (fun b10 h10 => ?_)
 refine AL_p (x_move rfl rfl) ?_
 cases b10
 · try simp only [tdy] at h10
   refine AL_o rfl rfl rfl rfl ?_
   refine AL_o rfl rfl rfl rfl ?_
   refine AL_p (x_pickF rfl rfl rfl) ?_
   refine AL_nil ?_
   refine AW_condF rfl ?_
   refine AW_skip ?_
   refine AW_seq ?_
   refine AW_seq ?_
   refine AW_region ?_
   refine AL_p (x_move rfl rfl) ?_
   refine AL_b (x_geq rfl rfl rfl) (fun b16 h16 => ?_)
   refine AL_p (x_move rfl rfl) ?_
   cases b16
   · try simp only [tdy] at h16
     refine AL_o rfl rfl rfl rfl ?_
     refine AL_o rfl rfl rfl rfl ?_
     refine AL_p (x_pickF rfl rfl rfl) ?_
     refine AL_nil ?_
     refine AW_condF rfl ?_
     refine AW_skip ?_
     refine AW_seq ?_
     refine AW_region ?_
     refine AL_p (x_assign rfl rfl) ?_
     refine AL_nil ?_
     refine AW_ret ?_
     exact ⟨rn [], ⟨⟨⟨_, rfl, vle_int (by first | ((unfold cls letB upB digB; grind)) | ((unfold cls letB upB digB; simp [*])))⟩, trivial⟩, trivial, trivial, rfl⟩⟩
   try simp only [tdy] at h16
   refine AL_g rfl rfl (x_move rfl rfl) ?_
   refine AL_gb rfl rfl (x_leq rfl rfl rfl) (fun b19 h19 => ?_)
   refine AL_p (x_pickT rfl rfl rfl) ?_
   refine AL_nil ?_
   cases b19
   rotate_left
   · try simp only [tdy] at h19
     refine AW_condT rfl ?_
     refine AW_seq ?_
     refine AW_region ?_
     refine AL_p (x_assign rfl rfl) ?_
     refine AL_nil ?_
     refine AW_ret ?_
     exact ⟨rn [], ⟨⟨⟨_, rfl, vle_int (by first | ((unfold cls letB upB digB; grind)) | ((unfold cls letB upB digB; simp [*])))⟩, trivial⟩, trivial, trivial, rfl⟩⟩
   try simp only [tdy] at h19
   refine AW_condF rfl ?_
   refine AW_skip ?_
   refine AW_seq ?_
   refine AW_region ?_
   refine AL_p (x_assign rfl rfl) ?_
   refine AL_nil ?_
   refine AW_ret ?_
   exact ⟨rn [], ⟨⟨⟨_, rfl, vle_int (by first | ((unfold cls letB upB digB; grind)) | ((unfold cls letB upB digB; simp [*])))⟩, trivial⟩, trivial, trivial, rfl⟩⟩
 try simp only [tdy] at h10
 refine AL_g rfl rfl (x_move rfl rfl) ?_
 refine AL_gb rfl rfl (x_leq rfl rfl rfl) (fun b13 h13 => ?_)
 refine AL_p (x_pickT rfl rfl rfl) ?_
 refine AL_nil ?_
 cases b13
 rotate_left
 · try simp only [tdy] at h13
   refine AW_condT rfl ?_
   refine AW_seq ?_
   refine AW_region ?_
   refine AL_p (x_assign rfl rfl) ?_
   refine AL_nil ?_
   refine AW_ret ?_
   exact ⟨rn [], ⟨⟨⟨_, rfl, vle_int (by first | ((unfold cls letB upB digB; grind)) | ((unfold cls letB upB digB; simp [*])))⟩, trivial⟩, trivial, trivial, rfl⟩⟩
 try simp only [tdy] at h13
 refine AW_condF rfl ?_
 refine AW_skip ?_
 refine AW_seq ?_
 refine AW_seq ?_
 refine AW_region ?_
 refine AL_p (x_move rfl rfl) ?_
 refine AL_b (x_geq rfl rfl rfl) (fun b16 h16 => ?_)
 refine AL_p (x_move rfl rfl) ?_
 cases b16
 · try simp only [tdy] at h16
   refine AL_o rfl rfl rfl rfl ?_
   refine AL_o rfl rfl rfl rfl ?_
   refine AL_p (x_pickF rfl rfl rfl) ?_
   refine AL_nil ?_
   refine AW_condF rfl ?_
   refine AW_skip ?_
   refine AW_seq ?_
   refine AW_region ?_
   refine AL_p (x_assign rfl rfl) ?_
   refine AL_nil ?_
   refine AW_ret ?_
   exact ⟨rn [], ⟨⟨⟨_, rfl, vle_int (by first | ((unfold cls letB upB digB; grind)) | ((unfold cls letB upB digB; simp [*])))⟩, trivial⟩, trivial, trivial, rfl⟩⟩
 try simp only [tdy] at h16
 refine AL_g rfl rfl (x_move rfl rfl) ?_
 refine AL_gb rfl rfl (x_leq rfl rfl rfl) (fun b19 h19 => ?_)
 refine AL_p (x_pickT rfl rfl rfl) ?_
 refine AL_nil ?_
 cases b19
 rotate_left
 · try simp only [tdy] at h19
   refine AW_condT rfl ?_
   refine AW_seq ?_
   refine AW_region ?_
   refine AL_p (x_assign rfl rfl) ?_
   refine AL_nil ?_
   refine AW_ret ?_
   exact ⟨rn [], ⟨⟨⟨_, rfl, vle_int (by first | ((unfold cls letB upB digB; grind)) | ((unfold cls letB upB digB; simp [*])))⟩, trivial⟩, trivial, trivial, rfl⟩⟩
 try simp only [tdy] at h19
 refine AW_condF rfl ?_
 refine AW_skip ?_
 refine AW_seq ?_
 refine AW_region ?_
 refine AL_p (x_assign rfl rfl) ?_
 refine AL_nil ?_
 refine AW_ret ?_
 exact ⟨rn [], ⟨⟨⟨_, rfl, vle_int (by first | ((unfold cls letB upB digB; grind)) | ((unfold cls letB upB digB; simp [*])))⟩, trivial⟩, trivial, trivial, rfl⟩⟩

set_option maxHeartbeats 4000000 in
theorem skipped_c (s : ByteArray) (i : Nat) (hs0 : s.size ≤ 1048576) (hi : i ≤ s.size) : AC Try.prog 47 [.one (.c (.string s)), .one (.c (.int .i64 ((i : Int))))] [] (.one (.c (.int .i64 ((skipS s i : Int))))) [] := by
 refine AC_body1 Try.func47 rfl rfl Try.ntmps47 rfl Try.results47 ?_
 refine AW_seq ?_
 refine AW_region ?_
 refine AL_p (x_assign rfl rfl) ?_
 refine AL_nil ?_
 refine AW_seq ?_
 refine AW_block ?_
 refine AW_loop2 (ι := {q : Nat // q ≤ s.size ∧ skipS s q = skipS s i}) (fun p => [(1, .one (.c (.int .i64 (((p.1) : Int)))))]) (fun p => []) [0] [] (fun p => s.size - (p.1)) ⟨i, ⟨hi, rfl⟩⟩ (rn []) ?_ ?_
 exact ⟨by (repeat refine ⟨⟨_, rfl, by first | exact VLe.rf | exact vle_int (by dsimp only; omega)⟩, ?_⟩); exact trivial, by (repeat refine ⟨⟨_, rfl, by first | exact BLe.rf | exact BLe.box AllC.rf | exact BLe.arr (by exact rfl)⟩, ?_⟩); exact trivial, by repeat (first | exact trivial | refine ⟨⟨rfl, by first | (left; intro h; cases h) | (right; rfl), by first | exact (fun _ h => ⟨_, h⟩) | exact (fun _ _ => ⟨_, rfl⟩) | (intro _ h; cases h)⟩, ?_⟩), rfl⟩
 rintro ⟨j, hinv⟩
 dsimp only
 obtain ⟨hj, hsk⟩ := hinv
 have hj : j ≤ s.size := hj
 have hsk : skipS s j = skipS s i := hsk
 refine AW_seq ?_
 refine AW_seq ?_
 refine AW_region ?_
 refine AL_p (x_move rfl rfl) ?_
 refine AL_p (x_move rfl rfl) ?_
 refine AL_p (x_lens rfl rfl (by kernel_rfl)) ?_
 refine AL_b (x_lss rfl rfl rfl) (fun b9 h9 => ?_)
 refine AL_nil ?_
 cases b9
 · try simp only [tdy] at h9
   have hno : (j : Int) = (skipS s i : Int) := congrArg Int.ofNat ((skip_end (s := s) (i := j) (by omega)).symm.trans hsk)
   refine AW_condF rfl ?_
   refine AW_exit (BQ_hit ?_)
   refine AW_seq ?_
   refine AW_region ?_
   refine AL_p (x_move rfl rfl) ?_
   refine AL_p (x_assign rfl rfl) ?_
   refine AL_nil ?_
   refine AW_ret ?_
   exact ⟨rn [], ⟨⟨⟨_, rfl, vle_int (hno)⟩, trivial⟩, trivial, trivial, rfl⟩⟩
 try simp only [tdy] at h9
 refine AW_condT rfl ?_
 refine AW_skip ?_
 refine AW_block ?_
 refine AW_seq ?_
 refine AW_region ?_
 refine AL_p (x_move rfl rfl) ?_
 refine AL_p (x_move rfl rfl) ?_
 refine AL_p (x_sindex rfl rfl rfl (by kernel_rfl) (k := j) rfl (by omega)) ?_
 refine AL_nil ?_
 refine AW_block ?_
 refine AW_seq ?_
 refine AW_seq ?_
 refine AW_region ?_
 refine AL_b (x_eql rfl rfl rfl) (fun b15 h15 => ?_)
 refine AL_p (x_assign rfl rfl) ?_
 refine AL_nil ?_
 cases b15
 rotate_left
 · try simp only [tdy] at h15
   have hb : blank (s[j]'(by omega)).toNat = true := by simp [blank, h15]
   have hs := skip_blank (s := s) (i := j) (by omega) hb
   refine AW_condT rfl ?_
   refine AW_skip ?_
   refine AW_condT rfl ?_
   refine AW_region ?_
   refine AL_p (x_move rfl rfl) ?_
   refine AL_p (x_add rfl rfl rfl (IntWalk.i64_in _ (by omega))) ?_
   refine AL_p (x_assign rfl rfl) ?_
   refine AL_nil ?_
   refine ⟨⟨j + 1, ⟨by omega, hs.symm.trans hsk⟩⟩, rn [], ?_, by dsimp only; omega⟩
   exact ⟨by (repeat refine ⟨⟨_, rfl, by first | exact VLe.rf | exact vle_int (by dsimp only; omega)⟩, ?_⟩); exact trivial, by (repeat refine ⟨⟨_, rfl, by first | exact BLe.rf | exact BLe.box AllC.rf | exact BLe.arr (by exact rfl)⟩, ?_⟩); exact trivial, by repeat (first | exact trivial | refine ⟨⟨rfl, by first | (left; intro h; cases h) | (right; rfl), by first | exact (fun _ h => ⟨_, h⟩) | exact (fun _ _ => ⟨_, rfl⟩) | (intro _ h; cases h)⟩, ?_⟩), rfl⟩
 try simp only [tdy] at h15
 refine AW_condF rfl ?_
 refine AW_seq ?_
 refine AW_region ?_
 refine AL_b (x_eql rfl rfl rfl) (fun b16 h16 => ?_)
 refine AL_p (x_assign rfl rfl) ?_
 refine AL_nil ?_
 cases b16
 rotate_left
 · try simp only [tdy] at h16
   have hb : blank (s[j]'(by omega)).toNat = true := by simp [blank, h16]
   have hs := skip_blank (s := s) (i := j) (by omega) hb
   refine AW_condT rfl ?_
   refine AW_skip ?_
   refine AW_condT rfl ?_
   refine AW_region ?_
   refine AL_p (x_move rfl rfl) ?_
   refine AL_p (x_add rfl rfl rfl (IntWalk.i64_in _ (by omega))) ?_
   refine AL_p (x_assign rfl rfl) ?_
   refine AL_nil ?_
   refine ⟨⟨j + 1, ⟨by omega, hs.symm.trans hsk⟩⟩, rn [], ?_, by dsimp only; omega⟩
   exact ⟨by (repeat refine ⟨⟨_, rfl, by first | exact VLe.rf | exact vle_int (by dsimp only; omega)⟩, ?_⟩); exact trivial, by (repeat refine ⟨⟨_, rfl, by first | exact BLe.rf | exact BLe.box AllC.rf | exact BLe.arr (by exact rfl)⟩, ?_⟩); exact trivial, by repeat (first | exact trivial | refine ⟨⟨rfl, by first | (left; intro h; cases h) | (right; rfl), by first | exact (fun _ h => ⟨_, h⟩) | exact (fun _ _ => ⟨_, rfl⟩) | (intro _ h; cases h)⟩, ?_⟩), rfl⟩
 try simp only [tdy] at h16
 refine AW_condF rfl ?_
 refine AW_seq ?_
 refine AW_region ?_
 refine AL_b (x_eql rfl rfl rfl) (fun b17 h17 => ?_)
 refine AL_p (x_assign rfl rfl) ?_
 refine AL_nil ?_
 cases b17
 rotate_left
 · try simp only [tdy] at h17
   have hb : blank (s[j]'(by omega)).toNat = true := by simp [blank, h17]
   have hs := skip_blank (s := s) (i := j) (by omega) hb
   refine AW_condT rfl ?_
   refine AW_skip ?_
   refine AW_condT rfl ?_
   refine AW_region ?_
   refine AL_p (x_move rfl rfl) ?_
   refine AL_p (x_add rfl rfl rfl (IntWalk.i64_in _ (by omega))) ?_
   refine AL_p (x_assign rfl rfl) ?_
   refine AL_nil ?_
   refine ⟨⟨j + 1, ⟨by omega, hs.symm.trans hsk⟩⟩, rn [], ?_, by dsimp only; omega⟩
   exact ⟨by (repeat refine ⟨⟨_, rfl, by first | exact VLe.rf | exact vle_int (by dsimp only; omega)⟩, ?_⟩); exact trivial, by (repeat refine ⟨⟨_, rfl, by first | exact BLe.rf | exact BLe.box AllC.rf | exact BLe.arr (by exact rfl)⟩, ?_⟩); exact trivial, by repeat (first | exact trivial | refine ⟨⟨rfl, by first | (left; intro h; cases h) | (right; rfl), by first | exact (fun _ h => ⟨_, h⟩) | exact (fun _ _ => ⟨_, rfl⟩) | (intro _ h; cases h)⟩, ?_⟩), rfl⟩
 try simp only [tdy] at h17
 refine AW_condF rfl ?_
 refine AW_region ?_
 refine AL_b (x_eql rfl rfl rfl) (fun b18 h18 => ?_)
 refine AL_p (x_assign rfl rfl) ?_
 refine AL_nil ?_
 cases b18
 rotate_left
 · try simp only [tdy] at h18
   have hb : blank (s[j]'(by omega)).toNat = true := by simp [blank, h18]
   have hs := skip_blank (s := s) (i := j) (by omega) hb
   refine AW_condT rfl ?_
   refine AW_region ?_
   refine AL_p (x_move rfl rfl) ?_
   refine AL_p (x_add rfl rfl rfl (IntWalk.i64_in _ (by omega))) ?_
   refine AL_p (x_assign rfl rfl) ?_
   refine AL_nil ?_
   refine ⟨⟨j + 1, ⟨by omega, hs.symm.trans hsk⟩⟩, rn [], ?_, by dsimp only; omega⟩
   exact ⟨by (repeat refine ⟨⟨_, rfl, by first | exact VLe.rf | exact vle_int (by dsimp only; omega)⟩, ?_⟩); exact trivial, by (repeat refine ⟨⟨_, rfl, by first | exact BLe.rf | exact BLe.box AllC.rf | exact BLe.arr (by exact rfl)⟩, ?_⟩); exact trivial, by repeat (first | exact trivial | refine ⟨⟨rfl, by first | (left; intro h; cases h) | (right; rfl), by first | exact (fun _ h => ⟨_, h⟩) | exact (fun _ _ => ⟨_, rfl⟩) | (intro _ h; cases h)⟩, ?_⟩), rfl⟩
 try simp only [tdy] at h18
 have hb : blank (s[j]'(by omega)).toNat = false := by simp [blank, *]
 refine AW_condF rfl ?_
 refine AW_seq ?_
 refine AW_region ?_
 refine AL_b (x_eql rfl rfl rfl) (fun b22 h22 => ?_)
 refine AL_p (x_assign rfl rfl) ?_
 refine AL_nil ?_
 cases b22
 · try simp only [tdy] at h22
   have hno : (j : Int) = (skipS s i : Int) := congrArg Int.ofNat ((skip_stop (s := s) (i := j) (by omega) hb h22).symm.trans hsk)
   refine AW_condF rfl ?_
   refine AW_seq ?_
   refine AW_region ?_
   refine AL_p (x_move rfl rfl) ?_
   refine AL_p (x_assign rfl rfl) ?_
   refine AL_nil ?_
   refine AW_ret (BQ_ret (BQ_ret (BQ_ret ?_)))
   exact ⟨rn [], ⟨⟨⟨_, rfl, vle_int (hno)⟩, trivial⟩, trivial, trivial, rfl⟩⟩
 try simp only [tdy] at h22
 obtain ⟨q, le, hc, hq1, hq2⟩ := noteQ s j (by omega) hb h22 hs0
 refine AW_condT rfl ?_
 refine AW_seq ?_
 refine AW_region ?_
 refine AL_p (x_move rfl rfl) ?_
 refine AL_p (x_move rfl rfl) ?_
 refine AL_p (x_sslice rfl rfl (by kernel_rfl) (.yes (l := j) rfl (by omega)) .no (by omega) (by first | exact Nat.le_refl _ | omega) rfl) ?_
 refine AL_p (x_call0 rfl rfl rfl hc rfl rfl) ?_
 refine AL_p (x_assign rfl rfl) ?_
 refine AL_nil ?_
 refine AW_seq ?_
 refine AW_seq ?_
 refine AW_region ?_
 refine AL_p (x_move rfl rfl) ?_
 refine AL_b (x_lss rfl rfl rfl) (fun b28 h28 => ?_)
 refine AL_nil ?_
 cases b28
 rotate_left
 · try simp only [tdy] at h28
   have hno : (s.size : Int) = (skipS s i : Int) := congrArg Int.ofNat ((hq1 h28).symm.trans hsk)
   refine AW_condT rfl ?_
   refine AW_seq ?_
   refine AW_region ?_
   refine AL_p (x_move rfl rfl) ?_
   refine AL_p (x_lens rfl rfl (by kernel_rfl)) ?_
   refine AL_p (x_assign rfl rfl) ?_
   refine AL_nil ?_
   refine AW_ret (BQ_ret (BQ_ret (BQ_ret ?_)))
   exact ⟨rn [], ⟨⟨⟨_, rfl, vle_int (hno)⟩, trivial⟩, trivial, trivial, rfl⟩⟩
 try simp only [tdy] at h28
 have he := (hq2 h28).1
 have he2 := (hq2 h28).2.1
 have he3 := (hq2 h28).2.2.1
 have hn := (hq2 h28).2.2.2
 refine AW_condF rfl ?_
 refine AW_skip ?_
 refine AW_region ?_
 refine AL_p (x_move rfl rfl) ?_
 refine AL_p (x_move rfl rfl) ?_
 refine AL_p (x_add rfl rfl rfl (IntWalk.i64_in _ (by omega))) ?_
 refine AL_p (x_assign rfl rfl) ?_
 refine AL_nil ?_
 refine ⟨⟨le, ⟨by omega, hn.symm.trans hsk⟩⟩, rn [], ?_, by dsimp only; omega⟩
 exact ⟨by (repeat refine ⟨⟨_, rfl, by first | exact VLe.rf | exact vle_int (by dsimp only; omega)⟩, ?_⟩); exact trivial, by (repeat refine ⟨⟨_, rfl, by first | exact BLe.rf | exact BLe.box AllC.rf | exact BLe.arr (by exact rfl)⟩, ?_⟩); exact trivial, by repeat (first | exact trivial | refine ⟨⟨rfl, by first | (left; intro h; cases h) | (right; rfl), by first | exact (fun _ h => ⟨_, h⟩) | exact (fun _ _ => ⟨_, rfl⟩) | (intro _ h; cases h)⟩, ?_⟩), rfl⟩
end Go.Proofs.Ytkemjhlbokldhaa

/- A word (printed by walk.py) -/
namespace Go.Proofs.Ytkemjhlbokldhaa
open Go.RowKit
set_option linter.unusedVariables false
set_option linter.unusedSimpArgs false
set_option maxRecDepth 100000

set_option maxHeartbeats 4000000 in
theorem wordAt_c (s : ByteArray) (j : Nat) (hs0 : s.size ≤ 1048576) (hj : j < s.size) (ha : alnumB s[j].toNat = true) : AC Try.prog 51 [.one (.c (.string s)), .one (.c (.int .i64 ((j : Int))))] [] (.tup [.agg (tokenC (wordRes s j (s[j].toNat : Int)).1), .one (.c (.int .i64 ((wordRes s j (s[j].toNat : Int)).2.1))), .one (.c (.int .i64 ((wordRes s j (s[j].toNat : Int)).2.2)))]) [] := by
 have hgt := wordEnd_gt hj ha
 have hle := wordEnd_le (s := s) j (by omega)
 refine AC_bodyCTT (n := 4) (k := 9) (T := [(4, .one (.ptr 9 0)), (5, .one (.c (.int .i64 ((wordRes s j (s[j].toNat : Int)).2.1)))), (6, .one (.c (.int .i64 ((wordRes s j (s[j].toNat : Int)).2.2))))]) (Lf := ((9, some (.box (tokenC (wordRes s j (s[j].toNat : Int)).1))) :: [])) Try.func51 rfl rfl Try.ntmps51 rfl Try.results51 rfl rfl rfl rfl rfl rfl (by kernel_rfl) rfl rfl ⟨trivial, (by repeat (first | exact trivial | refine ⟨⟨_, rfl, BLe.rf⟩, ?_⟩)), (by repeat (first | exact trivial | refine ⟨⟨rfl, by first | (left; intro h; cases h) | (right; rfl), by first | exact (fun _ h => ⟨_, h⟩) | exact (fun _ _ => ⟨_, rfl⟩) | (intro _ h; cases h)⟩, ?_⟩)), rfl⟩ ?_
 refine AW_seq ?_
 refine AW_region ?_
 refine AL_p (x_alloc (z := .agg #[.int .i64 0, .int .i64 0, .string ⟨#[]⟩, .int .i64 0]) 100 rfl (by kernel_rfl) rfl rfl rfl rfl) ?_
 refine AL_p (x_assign rfl rfl) ?_
 refine AL_p (x_assign rfl rfl) ?_
 refine AL_nil ?_
 refine AW_seq ?_
 refine AW_region ?_
 refine AL_p (x_move rfl rfl) ?_
 refine AL_p (x_assign rfl rfl) ?_
 refine AL_nil ?_
 refine AW_seq ?_
 refine AW_block ?_
 refine AW_loop2 (ι := {q : Nat // (j ≤ q ∧ q ≤ s.size) ∧ wordEnd s q = wordEnd s j}) (fun p => [(7, .one (.c (.int .i64 (((p.1) : Int)))))]) (fun p => []) [0, 1, 4] [100] (fun p => s.size - (p.1)) ⟨j, ⟨⟨Nat.le_refl _, by omega⟩, rfl⟩⟩ (rn []) ?_ ?_
 exact ⟨by (repeat refine ⟨⟨_, rfl, by first | exact VLe.rf | exact vle_int (by dsimp only; omega)⟩, ?_⟩); exact trivial, by (repeat refine ⟨⟨_, rfl, by first | exact BLe.rf | exact BLe.box AllC.rf | exact BLe.arr (by exact rfl)⟩, ?_⟩); exact trivial, by repeat (first | exact trivial | refine ⟨⟨rfl, by first | (left; intro h; cases h) | (right; rfl), by first | exact (fun _ h => ⟨_, h⟩) | exact (fun _ _ => ⟨_, rfl⟩) | (intro _ h; cases h)⟩, ?_⟩), rfl⟩
 rintro ⟨e, hinv⟩
 dsimp only
 have he0 : j ≤ e := hinv.1.1
 have he1 : e ≤ s.size := hinv.1.2
 have hw : wordEnd s e = wordEnd s j := hinv.2
 refine AW_seq ?_
 refine AW_seq ?_
 refine AW_region ?_
 refine AL_p (x_move rfl rfl) ?_
 refine AL_p (x_move rfl rfl) ?_
 refine AL_p (x_lens rfl rfl (by kernel_rfl)) ?_
 refine AL_b (x_lss rfl rfl rfl) (fun b15 h15 => ?_)
 refine AL_p (x_move rfl rfl) ?_
 cases b15
 · try simp only [tdy] at h15
   have hee : e = wordEnd s j := by rw [← hw, wordEnd_end (s := s) (i := e) (by omega)]
   refine AL_o rfl rfl rfl rfl ?_
   refine AL_o rfl rfl rfl rfl ?_
   refine AL_o rfl rfl rfl rfl ?_
   refine AL_o rfl rfl rfl rfl ?_
   refine AL_o rfl rfl rfl rfl ?_
   refine AL_u rfl rfl rfl ?_
   refine AL_u rfl rfl rfl ?_
   refine AL_u rfl rfl rfl ?_
   refine AL_u rfl rfl rfl ?_
   refine AL_o rfl rfl rfl rfl ?_
   refine AL_o rfl rfl rfl rfl ?_
   refine AL_u rfl rfl rfl ?_
   refine AL_u rfl rfl rfl ?_
   refine AL_u rfl rfl rfl ?_
   refine AL_u rfl rfl rfl ?_
   refine AL_o rfl rfl rfl rfl ?_
   refine AL_p (x_pickF rfl rfl rfl) ?_
   refine AL_nil ?_
   refine AW_condF rfl ?_
   refine AW_exit (BQ_hit ?_)
   refine AW_seq ?_
   refine AW_region ?_
   refine AL_p (x_move rfl rfl) ?_
   refine AL_p (x_move rfl rfl) ?_
   refine AL_p (x_move rfl rfl) ?_
   refine AL_p (x_sslice rfl rfl (by kernel_rfl) (.yes (l := j) rfl (by omega)) (.yes (l := e) rfl (by omega)) (by omega) (by first | exact Nat.le_refl _ | omega) rfl) ?_
   refine AL_p (x_assign rfl rfl) ?_
   refine AL_nil ?_
   refine AW_seq ?_
   refine AW_block ?_
   refine AW_seq ?_
   refine AW_region ?_
   refine AL_p (x_move rfl rfl) ?_
   refine AL_p (x_sindex rfl rfl rfl (by kernel_rfl) (k := 0) rfl (by simp; omega)) ?_
   refine AL_b (x_call0 rfl rfl rfl (isDig_c _) rfl rfl) (fun b43 h43 => ?_)
   refine AL_p (x_assign rfl rfl) ?_
   refine AL_nil ?_
   cases b43
   rotate_left
   · try simp only [tdy] at h43
     rw [ext_head (s := s) (j := j) (e := e) (by omega) (by omega)] at h43
     refine AW_condT rfl ?_
     refine AW_seq ?_
     refine AW_region ?_
     refine AL_p (x_move rfl rfl) ?_
     refine AL_p (x_call0 rfl rfl rfl (textNumI_c _) rfl rfl) ?_
     refine AL_p (x_move rfl rfl) ?_
     refine AL_p (x_extract rfl rfl rfl) ?_
     refine AL_b (x_extract rfl rfl rfl) (fun b48 h48 => ?_)
     refine AL_p (x_assign rfl rfl) ?_
     refine AL_p (x_assign rfl rfl) ?_
     refine AL_nil ?_
     refine AW_seq ?_
     refine AW_seq ?_
     refine AW_region ?_
     refine AL_p (x_move rfl rfl) ?_
     refine AL_p (x_not rfl rfl) ?_
     refine AL_nil ?_
     cases b48
     · try simp only [tdy] at h48
       have hno := res_badnum hee h43 h48
       refine AW_condT rfl ?_
       refine AW_seq ?_
       refine AW_region ?_
       refine AL_p (x_build (zs := [.int .i64 0, .int .i64 0, .string ⟨#[]⟩, .int .i64 0]) (places := [(0, 1), (1, 1), (2, 1), (3, 1)]) rfl (by kernel_rfl) rfl rfl rfl rfl rfl) ?_
       refine AL_p (x_store (n := 4) rfl rfl rfl rfl (by kernel_rfl) rfl rfl rfl) ?_
       refine AL_p (x_assign rfl rfl) ?_
       refine AL_p (x_assign rfl rfl) ?_
       refine AL_nil ?_
       refine AW_ret (BQ_ret ?_)
       exact ⟨rn [(9, 100)], ⟨⟨⟨_, rfl, VLe.rf⟩, ⟨_, rfl, vle_int (by rw [hno])⟩, ⟨_, rfl, vle_int (by rw [hno])⟩, trivial⟩, ⟨⟨_, rfl, by refine ble_eq ?_; rw [hno]; rfl⟩, trivial⟩, trivial, rfl⟩⟩
     try simp only [tdy] at h48
     have hno := res_num hee h43 h48
     refine AW_condF rfl ?_
     refine AW_skip ?_
     refine AW_seq ?_
     refine AW_region ?_
     refine AL_p (x_move rfl rfl) ?_
     refine AL_p (x_move rfl rfl) ?_
     refine AL_p (x_build (zs := [.int .i64 0, .int .i64 0, .string ⟨#[]⟩, .int .i64 0]) (places := [(0, 1), (1, 1), (2, 1), (3, 1)]) rfl (by kernel_rfl) rfl rfl rfl rfl rfl) ?_
     refine AL_p (x_move rfl rfl) ?_
     refine AL_p (x_store (n := 4) rfl rfl rfl rfl (by kernel_rfl) rfl rfl rfl) ?_
     refine AL_p (x_assign rfl rfl) ?_
     refine AL_p (x_assign rfl rfl) ?_
     refine AL_nil ?_
     refine AW_ret (BQ_ret ?_)
     exact ⟨rn [(9, 100)], ⟨⟨⟨_, rfl, VLe.rf⟩, ⟨_, rfl, vle_int (by rw [hno])⟩, ⟨_, rfl, vle_int (by rw [hno])⟩, trivial⟩, ⟨⟨_, rfl, by refine ble_eq ?_; rw [hno]; rfl⟩, trivial⟩, trivial, rfl⟩⟩
   try simp only [tdy] at h43
   rw [ext_head (s := s) (j := j) (e := e) (by omega) (by omega)] at h43
   refine AW_condF rfl ?_
   refine AW_seq ?_
   refine AW_region ?_
   refine AL_p (x_move rfl rfl) ?_
   refine AL_p (x_sindex rfl rfl rfl (by kernel_rfl) (k := 0) rfl (by simp; omega)) ?_
   refine AL_b (x_call0 rfl rfl rfl (isLet_c _) rfl rfl) (fun b59 h59 => ?_)
   refine AL_p (x_assign rfl rfl) ?_
   refine AL_nil ?_
   cases b59
   rotate_left
   · try simp only [tdy] at h59
     rw [ext_head (s := s) (j := j) (e := e) (by omega) (by omega)] at h59
     refine AW_condT rfl ?_
     refine AW_seq ?_
     refine AW_seq ?_
     refine AW_region ?_
     refine AL_p (x_move rfl rfl) ?_
     refine AL_b (x_call0 rfl rfl rfl (wordOkI_c _) rfl rfl) (fun b61 h61 => ?_)
     refine AL_p (x_not rfl rfl) ?_
     refine AL_nil ?_
     cases b61
     · try simp only [tdy] at h61
       have hno := res_none hee h43 h61 (var_not hee hj hgt h59)
       refine AW_condT rfl ?_
       refine AW_seq ?_
       refine AW_region ?_
       refine AL_p (x_build (zs := [.int .i64 0, .int .i64 0, .string ⟨#[]⟩, .int .i64 0]) (places := [(0, 1), (1, 1), (2, 1), (3, 1)]) rfl (by kernel_rfl) rfl rfl rfl rfl rfl) ?_
       refine AL_p (x_store (n := 4) rfl rfl rfl rfl (by kernel_rfl) rfl rfl rfl) ?_
       refine AL_p (x_assign rfl rfl) ?_
       refine AL_p (x_assign rfl rfl) ?_
       refine AL_nil ?_
       refine AW_ret (BQ_ret ?_)
       exact ⟨rn [(9, 100)], ⟨⟨⟨_, rfl, VLe.rf⟩, ⟨_, rfl, vle_int (by rw [hno])⟩, ⟨_, rfl, vle_int (by rw [hno])⟩, trivial⟩, ⟨⟨_, rfl, by refine ble_eq ?_; rw [hno]; rfl⟩, trivial⟩, trivial, rfl⟩⟩
     try simp only [tdy] at h61
     have hno := res_word hee h43 h61
     refine AW_condF rfl ?_
     refine AW_skip ?_
     refine AW_seq ?_
     refine AW_region ?_
     refine AL_p (x_move rfl rfl) ?_
     refine AL_p (x_move rfl rfl) ?_
     refine AL_p (x_build (zs := [.int .i64 0, .int .i64 0, .string ⟨#[]⟩, .int .i64 0]) (places := [(0, 1), (1, 1), (2, 1), (3, 1)]) rfl (by kernel_rfl) rfl rfl rfl rfl rfl) ?_
     refine AL_p (x_move rfl rfl) ?_
     refine AL_p (x_store (n := 4) rfl rfl rfl rfl (by kernel_rfl) rfl rfl rfl) ?_
     refine AL_p (x_assign rfl rfl) ?_
     refine AL_p (x_assign rfl rfl) ?_
     refine AL_nil ?_
     refine AW_ret (BQ_ret ?_)
     exact ⟨rn [(9, 100)], ⟨⟨⟨_, rfl, VLe.rf⟩, ⟨_, rfl, vle_int (by rw [hno])⟩, ⟨_, rfl, vle_int (by rw [hno])⟩, trivial⟩, ⟨⟨_, rfl, by refine ble_eq ?_; rw [hno]; rfl⟩, trivial⟩, trivial, rfl⟩⟩
   try simp only [tdy] at h59
   rw [ext_head (s := s) (j := j) (e := e) (by omega) (by omega)] at h59
   refine AW_condF rfl ?_
   refine AW_skip ?_
   refine AW_seq ?_
   refine AW_seq ?_
   refine AW_region ?_
   refine AL_p (x_move rfl rfl) ?_
   refine AL_p (x_lens rfl rfl (by kernel_rfl)) ?_
   refine AL_b (x_gtr rfl rfl rfl) (fun b70 h70 => ?_)
   refine AL_nil ?_
   cases b70
   rotate_left
   · try simp only [tdy] at h70
     have hno := res_none hee h43 (long_not (by omega)).1 (long_not (by omega)).2
     refine AW_condT rfl ?_
     refine AW_seq ?_
     refine AW_region ?_
     refine AL_p (x_build (zs := [.int .i64 0, .int .i64 0, .string ⟨#[]⟩, .int .i64 0]) (places := [(0, 1), (1, 1), (2, 1), (3, 1)]) rfl (by kernel_rfl) rfl rfl rfl rfl rfl) ?_
     refine AL_p (x_store (n := 4) rfl rfl rfl rfl (by kernel_rfl) rfl rfl rfl) ?_
     refine AL_p (x_assign rfl rfl) ?_
     refine AL_p (x_assign rfl rfl) ?_
     refine AL_nil ?_
     refine AW_ret ?_
     exact ⟨rn [(9, 100)], ⟨⟨⟨_, rfl, VLe.rf⟩, ⟨_, rfl, vle_int (by rw [hno])⟩, ⟨_, rfl, vle_int (by rw [hno])⟩, trivial⟩, ⟨⟨_, rfl, by refine ble_eq ?_; rw [hno]; rfl⟩, trivial⟩, trivial, rfl⟩⟩
   try simp only [tdy] at h70
   have hno := res_var hee h43 (word_not hee hj hgt h59) (var_yes hee hj hgt ha h59 h43 (by omega))
   refine AW_condF rfl ?_
   refine AW_skip ?_
   refine AW_seq ?_
   refine AW_region ?_
   refine AL_p (x_move rfl rfl) ?_
   refine AL_p (x_move rfl rfl) ?_
   refine AL_p (x_build (zs := [.int .i64 0, .int .i64 0, .string ⟨#[]⟩, .int .i64 0]) (places := [(0, 1), (1, 1), (2, 1), (3, 1)]) rfl (by kernel_rfl) rfl rfl rfl rfl rfl) ?_
   refine AL_p (x_move rfl rfl) ?_
   refine AL_p (x_store (n := 4) rfl rfl rfl rfl (by kernel_rfl) rfl rfl rfl) ?_
   refine AL_p (x_assign rfl rfl) ?_
   refine AL_p (x_assign rfl rfl) ?_
   refine AL_nil ?_
   refine AW_ret ?_
   exact ⟨rn [(9, 100)], ⟨⟨⟨_, rfl, VLe.rf⟩, ⟨_, rfl, vle_int (by rw [hno])⟩, ⟨_, rfl, vle_int (by rw [hno])⟩, trivial⟩, ⟨⟨_, rfl, by refine ble_eq ?_; rw [hno]; rfl⟩, trivial⟩, trivial, rfl⟩⟩
 try simp only [tdy] at h15
 refine AL_g rfl rfl (x_move rfl rfl) ?_
 refine AL_g rfl rfl (x_move rfl rfl) ?_
 refine AL_g rfl rfl (x_sindex rfl rfl rfl (by kernel_rfl) (k := e) rfl (by omega)) ?_
 refine AL_gb rfl rfl (x_call0 rfl rfl rfl (isLet_c _) rfl rfl) (fun b20 h20 => ?_)
 refine AL_g rfl rfl (x_move rfl rfl) ?_
 cases b20
 rotate_left
 · try simp only [tdy] at h20
   have ha2 : alnumB (s[e]'(by omega)).toNat = true := by simp [alnumB, h20]
   have hw2 := (wordEnd_on (s := s) (i := e) (by omega) ha2).symm.trans hw
   refine AL_o rfl rfl rfl rfl ?_
   refine AL_o rfl rfl rfl rfl ?_
   refine AL_o rfl rfl rfl rfl ?_
   refine AL_o rfl rfl rfl rfl ?_
   refine AL_g rfl rfl (x_pickT rfl rfl rfl) ?_
   refine AL_g rfl rfl (x_move rfl rfl) ?_
   refine AL_o rfl rfl rfl rfl ?_
   refine AL_o rfl rfl rfl rfl ?_
   refine AL_o rfl rfl rfl rfl ?_
   refine AL_o rfl rfl rfl rfl ?_
   refine AL_g rfl rfl (x_pickT rfl rfl rfl) ?_
   refine AL_p (x_pickT rfl rfl rfl) ?_
   refine AL_nil ?_
   refine AW_condT rfl ?_
   refine AW_skip ?_
   refine AW_block ?_
   refine AW_region ?_
   refine AL_p (x_move rfl rfl) ?_
   refine AL_p (x_add rfl rfl rfl (IntWalk.i64_in _ (by omega))) ?_
   refine AL_p (x_assign rfl rfl) ?_
   refine AL_nil ?_
   refine ⟨⟨e + 1, ⟨⟨by omega, by omega⟩, hw2⟩⟩, rn [], ?_, by dsimp only; omega⟩
   exact ⟨by (repeat refine ⟨⟨_, rfl, by first | exact VLe.rf | exact vle_int (by dsimp only; omega)⟩, ?_⟩); exact trivial, by (repeat refine ⟨⟨_, rfl, by first | exact BLe.rf | exact BLe.box AllC.rf | exact BLe.arr (by exact rfl)⟩, ?_⟩); exact trivial, by repeat (first | exact trivial | refine ⟨⟨rfl, by first | (left; intro h; cases h) | (right; rfl), by first | exact (fun _ h => ⟨_, h⟩) | exact (fun _ _ => ⟨_, rfl⟩) | (intro _ h; cases h)⟩, ?_⟩), rfl⟩
 try simp only [tdy] at h20
 refine AL_g rfl rfl (x_move rfl rfl) ?_
 refine AL_g rfl rfl (x_move rfl rfl) ?_
 refine AL_g rfl rfl (x_sindex rfl rfl rfl (by kernel_rfl) (k := e) rfl (by omega)) ?_
 refine AL_gb rfl rfl (x_call0 rfl rfl rfl (isUp_c _) rfl rfl) (fun b25 h25 => ?_)
 refine AL_g rfl rfl (x_pickF rfl rfl rfl) ?_
 refine AL_g rfl rfl (x_move rfl rfl) ?_
 cases b25
 rotate_left
 · try simp only [tdy] at h25
   have ha2 : alnumB (s[e]'(by omega)).toNat = true := by simp [alnumB, h25]
   have hw2 := (wordEnd_on (s := s) (i := e) (by omega) ha2).symm.trans hw
   refine AL_o rfl rfl rfl rfl ?_
   refine AL_o rfl rfl rfl rfl ?_
   refine AL_o rfl rfl rfl rfl ?_
   refine AL_o rfl rfl rfl rfl ?_
   refine AL_g rfl rfl (x_pickT rfl rfl rfl) ?_
   refine AL_p (x_pickT rfl rfl rfl) ?_
   refine AL_nil ?_
   refine AW_condT rfl ?_
   refine AW_skip ?_
   refine AW_block ?_
   refine AW_region ?_
   refine AL_p (x_move rfl rfl) ?_
   refine AL_p (x_add rfl rfl rfl (IntWalk.i64_in _ (by omega))) ?_
   refine AL_p (x_assign rfl rfl) ?_
   refine AL_nil ?_
   refine ⟨⟨e + 1, ⟨⟨by omega, by omega⟩, hw2⟩⟩, rn [], ?_, by dsimp only; omega⟩
   exact ⟨by (repeat refine ⟨⟨_, rfl, by first | exact VLe.rf | exact vle_int (by dsimp only; omega)⟩, ?_⟩); exact trivial, by (repeat refine ⟨⟨_, rfl, by first | exact BLe.rf | exact BLe.box AllC.rf | exact BLe.arr (by exact rfl)⟩, ?_⟩); exact trivial, by repeat (first | exact trivial | refine ⟨⟨rfl, by first | (left; intro h; cases h) | (right; rfl), by first | exact (fun _ h => ⟨_, h⟩) | exact (fun _ _ => ⟨_, rfl⟩) | (intro _ h; cases h)⟩, ?_⟩), rfl⟩
 try simp only [tdy] at h25
 refine AL_g rfl rfl (x_move rfl rfl) ?_
 refine AL_g rfl rfl (x_move rfl rfl) ?_
 refine AL_g rfl rfl (x_sindex rfl rfl rfl (by kernel_rfl) (k := e) rfl (by omega)) ?_
 refine AL_gb rfl rfl (x_call0 rfl rfl rfl (isDig_c _) rfl rfl) (fun b31 h31 => ?_)
 refine AL_g rfl rfl (x_pickF rfl rfl rfl) ?_
 refine AL_p (x_pickT rfl rfl rfl) ?_
 refine AL_nil ?_
 cases b31
 rotate_left
 · try simp only [tdy] at h31
   have ha2 : alnumB (s[e]'(by omega)).toNat = true := by simp [alnumB, h31]
   have hw2 := (wordEnd_on (s := s) (i := e) (by omega) ha2).symm.trans hw
   refine AW_condT rfl ?_
   refine AW_skip ?_
   refine AW_block ?_
   refine AW_region ?_
   refine AL_p (x_move rfl rfl) ?_
   refine AL_p (x_add rfl rfl rfl (IntWalk.i64_in _ (by omega))) ?_
   refine AL_p (x_assign rfl rfl) ?_
   refine AL_nil ?_
   refine ⟨⟨e + 1, ⟨⟨by omega, by omega⟩, hw2⟩⟩, rn [], ?_, by dsimp only; omega⟩
   exact ⟨by (repeat refine ⟨⟨_, rfl, by first | exact VLe.rf | exact vle_int (by dsimp only; omega)⟩, ?_⟩); exact trivial, by (repeat refine ⟨⟨_, rfl, by first | exact BLe.rf | exact BLe.box AllC.rf | exact BLe.arr (by exact rfl)⟩, ?_⟩); exact trivial, by repeat (first | exact trivial | refine ⟨⟨rfl, by first | (left; intro h; cases h) | (right; rfl), by first | exact (fun _ h => ⟨_, h⟩) | exact (fun _ _ => ⟨_, rfl⟩) | (intro _ h; cases h)⟩, ?_⟩), rfl⟩
 try simp only [tdy] at h31
 have hee : e = wordEnd s j := by rw [← hw, wordEnd_off (s := s) (i := e) (by omega) (by simp [alnumB, *])]
 refine AW_condF rfl ?_
 refine AW_exit (BQ_hit ?_)
 refine AW_seq ?_
 refine AW_region ?_
 refine AL_p (x_move rfl rfl) ?_
 refine AL_p (x_move rfl rfl) ?_
 refine AL_p (x_move rfl rfl) ?_
 refine AL_p (x_sslice rfl rfl (by kernel_rfl) (.yes (l := j) rfl (by omega)) (.yes (l := e) rfl (by omega)) (by omega) (by first | exact Nat.le_refl _ | omega) rfl) ?_
 refine AL_p (x_assign rfl rfl) ?_
 refine AL_nil ?_
 refine AW_seq ?_
 refine AW_block ?_
 refine AW_seq ?_
 refine AW_region ?_
 refine AL_p (x_move rfl rfl) ?_
 refine AL_p (x_sindex rfl rfl rfl (by kernel_rfl) (k := 0) rfl (by simp; omega)) ?_
 refine AL_b (x_call0 rfl rfl rfl (isDig_c _) rfl rfl) (fun b43 h43 => ?_)
 refine AL_p (x_assign rfl rfl) ?_
 refine AL_nil ?_
 cases b43
 rotate_left
 · try simp only [tdy] at h43
   rw [ext_head (s := s) (j := j) (e := e) (by omega) (by omega)] at h43
   refine AW_condT rfl ?_
   refine AW_seq ?_
   refine AW_region ?_
   refine AL_p (x_move rfl rfl) ?_
   refine AL_p (x_call0 rfl rfl rfl (textNumI_c _) rfl rfl) ?_
   refine AL_p (x_move rfl rfl) ?_
   refine AL_p (x_extract rfl rfl rfl) ?_
   refine AL_b (x_extract rfl rfl rfl) (fun b48 h48 => ?_)
   refine AL_p (x_assign rfl rfl) ?_
   refine AL_p (x_assign rfl rfl) ?_
   refine AL_nil ?_
   refine AW_seq ?_
   refine AW_seq ?_
   refine AW_region ?_
   refine AL_p (x_move rfl rfl) ?_
   refine AL_p (x_not rfl rfl) ?_
   refine AL_nil ?_
   cases b48
   · try simp only [tdy] at h48
     have hno := res_badnum hee h43 h48
     refine AW_condT rfl ?_
     refine AW_seq ?_
     refine AW_region ?_
     refine AL_p (x_build (zs := [.int .i64 0, .int .i64 0, .string ⟨#[]⟩, .int .i64 0]) (places := [(0, 1), (1, 1), (2, 1), (3, 1)]) rfl (by kernel_rfl) rfl rfl rfl rfl rfl) ?_
     refine AL_p (x_store (n := 4) rfl rfl rfl rfl (by kernel_rfl) rfl rfl rfl) ?_
     refine AL_p (x_assign rfl rfl) ?_
     refine AL_p (x_assign rfl rfl) ?_
     refine AL_nil ?_
     refine AW_ret (BQ_ret ?_)
     exact ⟨rn [(9, 100)], ⟨⟨⟨_, rfl, VLe.rf⟩, ⟨_, rfl, vle_int (by rw [hno])⟩, ⟨_, rfl, vle_int (by rw [hno])⟩, trivial⟩, ⟨⟨_, rfl, by refine ble_eq ?_; rw [hno]; rfl⟩, trivial⟩, trivial, rfl⟩⟩
   try simp only [tdy] at h48
   have hno := res_num hee h43 h48
   refine AW_condF rfl ?_
   refine AW_skip ?_
   refine AW_seq ?_
   refine AW_region ?_
   refine AL_p (x_move rfl rfl) ?_
   refine AL_p (x_move rfl rfl) ?_
   refine AL_p (x_build (zs := [.int .i64 0, .int .i64 0, .string ⟨#[]⟩, .int .i64 0]) (places := [(0, 1), (1, 1), (2, 1), (3, 1)]) rfl (by kernel_rfl) rfl rfl rfl rfl rfl) ?_
   refine AL_p (x_move rfl rfl) ?_
   refine AL_p (x_store (n := 4) rfl rfl rfl rfl (by kernel_rfl) rfl rfl rfl) ?_
   refine AL_p (x_assign rfl rfl) ?_
   refine AL_p (x_assign rfl rfl) ?_
   refine AL_nil ?_
   refine AW_ret (BQ_ret ?_)
   exact ⟨rn [(9, 100)], ⟨⟨⟨_, rfl, VLe.rf⟩, ⟨_, rfl, vle_int (by rw [hno])⟩, ⟨_, rfl, vle_int (by rw [hno])⟩, trivial⟩, ⟨⟨_, rfl, by refine ble_eq ?_; rw [hno]; rfl⟩, trivial⟩, trivial, rfl⟩⟩
 try simp only [tdy] at h43
 rw [ext_head (s := s) (j := j) (e := e) (by omega) (by omega)] at h43
 refine AW_condF rfl ?_
 refine AW_seq ?_
 refine AW_region ?_
 refine AL_p (x_move rfl rfl) ?_
 refine AL_p (x_sindex rfl rfl rfl (by kernel_rfl) (k := 0) rfl (by simp; omega)) ?_
 refine AL_b (x_call0 rfl rfl rfl (isLet_c _) rfl rfl) (fun b59 h59 => ?_)
 refine AL_p (x_assign rfl rfl) ?_
 refine AL_nil ?_
 cases b59
 rotate_left
 · try simp only [tdy] at h59
   rw [ext_head (s := s) (j := j) (e := e) (by omega) (by omega)] at h59
   refine AW_condT rfl ?_
   refine AW_seq ?_
   refine AW_seq ?_
   refine AW_region ?_
   refine AL_p (x_move rfl rfl) ?_
   refine AL_b (x_call0 rfl rfl rfl (wordOkI_c _) rfl rfl) (fun b61 h61 => ?_)
   refine AL_p (x_not rfl rfl) ?_
   refine AL_nil ?_
   cases b61
   · try simp only [tdy] at h61
     have hno := res_none hee h43 h61 (var_not hee hj hgt h59)
     refine AW_condT rfl ?_
     refine AW_seq ?_
     refine AW_region ?_
     refine AL_p (x_build (zs := [.int .i64 0, .int .i64 0, .string ⟨#[]⟩, .int .i64 0]) (places := [(0, 1), (1, 1), (2, 1), (3, 1)]) rfl (by kernel_rfl) rfl rfl rfl rfl rfl) ?_
     refine AL_p (x_store (n := 4) rfl rfl rfl rfl (by kernel_rfl) rfl rfl rfl) ?_
     refine AL_p (x_assign rfl rfl) ?_
     refine AL_p (x_assign rfl rfl) ?_
     refine AL_nil ?_
     refine AW_ret (BQ_ret ?_)
     exact ⟨rn [(9, 100)], ⟨⟨⟨_, rfl, VLe.rf⟩, ⟨_, rfl, vle_int (by rw [hno])⟩, ⟨_, rfl, vle_int (by rw [hno])⟩, trivial⟩, ⟨⟨_, rfl, by refine ble_eq ?_; rw [hno]; rfl⟩, trivial⟩, trivial, rfl⟩⟩
   try simp only [tdy] at h61
   have hno := res_word hee h43 h61
   refine AW_condF rfl ?_
   refine AW_skip ?_
   refine AW_seq ?_
   refine AW_region ?_
   refine AL_p (x_move rfl rfl) ?_
   refine AL_p (x_move rfl rfl) ?_
   refine AL_p (x_build (zs := [.int .i64 0, .int .i64 0, .string ⟨#[]⟩, .int .i64 0]) (places := [(0, 1), (1, 1), (2, 1), (3, 1)]) rfl (by kernel_rfl) rfl rfl rfl rfl rfl) ?_
   refine AL_p (x_move rfl rfl) ?_
   refine AL_p (x_store (n := 4) rfl rfl rfl rfl (by kernel_rfl) rfl rfl rfl) ?_
   refine AL_p (x_assign rfl rfl) ?_
   refine AL_p (x_assign rfl rfl) ?_
   refine AL_nil ?_
   refine AW_ret (BQ_ret ?_)
   exact ⟨rn [(9, 100)], ⟨⟨⟨_, rfl, VLe.rf⟩, ⟨_, rfl, vle_int (by rw [hno])⟩, ⟨_, rfl, vle_int (by rw [hno])⟩, trivial⟩, ⟨⟨_, rfl, by refine ble_eq ?_; rw [hno]; rfl⟩, trivial⟩, trivial, rfl⟩⟩
 try simp only [tdy] at h59
 rw [ext_head (s := s) (j := j) (e := e) (by omega) (by omega)] at h59
 refine AW_condF rfl ?_
 refine AW_skip ?_
 refine AW_seq ?_
 refine AW_seq ?_
 refine AW_region ?_
 refine AL_p (x_move rfl rfl) ?_
 refine AL_p (x_lens rfl rfl (by kernel_rfl)) ?_
 refine AL_b (x_gtr rfl rfl rfl) (fun b70 h70 => ?_)
 refine AL_nil ?_
 cases b70
 rotate_left
 · try simp only [tdy] at h70
   have hno := res_none hee h43 (long_not (by omega)).1 (long_not (by omega)).2
   refine AW_condT rfl ?_
   refine AW_seq ?_
   refine AW_region ?_
   refine AL_p (x_build (zs := [.int .i64 0, .int .i64 0, .string ⟨#[]⟩, .int .i64 0]) (places := [(0, 1), (1, 1), (2, 1), (3, 1)]) rfl (by kernel_rfl) rfl rfl rfl rfl rfl) ?_
   refine AL_p (x_store (n := 4) rfl rfl rfl rfl (by kernel_rfl) rfl rfl rfl) ?_
   refine AL_p (x_assign rfl rfl) ?_
   refine AL_p (x_assign rfl rfl) ?_
   refine AL_nil ?_
   refine AW_ret ?_
   exact ⟨rn [(9, 100)], ⟨⟨⟨_, rfl, VLe.rf⟩, ⟨_, rfl, vle_int (by rw [hno])⟩, ⟨_, rfl, vle_int (by rw [hno])⟩, trivial⟩, ⟨⟨_, rfl, by refine ble_eq ?_; rw [hno]; rfl⟩, trivial⟩, trivial, rfl⟩⟩
 try simp only [tdy] at h70
 have hno := res_var hee h43 (word_not hee hj hgt h59) (var_yes hee hj hgt ha h59 h43 (by omega))
 refine AW_condF rfl ?_
 refine AW_skip ?_
 refine AW_seq ?_
 refine AW_region ?_
 refine AL_p (x_move rfl rfl) ?_
 refine AL_p (x_move rfl rfl) ?_
 refine AL_p (x_build (zs := [.int .i64 0, .int .i64 0, .string ⟨#[]⟩, .int .i64 0]) (places := [(0, 1), (1, 1), (2, 1), (3, 1)]) rfl (by kernel_rfl) rfl rfl rfl rfl rfl) ?_
 refine AL_p (x_move rfl rfl) ?_
 refine AL_p (x_store (n := 4) rfl rfl rfl rfl (by kernel_rfl) rfl rfl rfl) ?_
 refine AL_p (x_assign rfl rfl) ?_
 refine AL_p (x_assign rfl rfl) ?_
 refine AL_nil ?_
 refine AW_ret ?_
 exact ⟨rn [(9, 100)], ⟨⟨⟨_, rfl, VLe.rf⟩, ⟨_, rfl, vle_int (by rw [hno])⟩, ⟨_, rfl, vle_int (by rw [hno])⟩, trivial⟩, ⟨⟨_, rfl, by refine ble_eq ?_; rw [hno]; rfl⟩, trivial⟩, trivial, rfl⟩⟩
end Go.Proofs.Ytkemjhlbokldhaa

/- The abstract walk: a field of an element of an own array written anew. -/
namespace Go.Proofs.Ytkemjhlbokldhaa
open Go.RowKit
set_option linter.unusedVariables false
section ops
variable {P : Program} {N : Nat} {s : St} {ty : TypeId} {pos : String} {after : Array Edge} {gd : Option (Nat × Bool)}
end ops
end Go.Proofs.Ytkemjhlbokldhaa

/- A sign (printed by walk.py) -/
namespace Go.Proofs.Ytkemjhlbokldhaa
open Go.RowKit
set_option linter.unusedVariables false
set_option linter.unusedSimpArgs false
set_option maxRecDepth 100000

set_option maxHeartbeats 4000000 in
theorem hasPre_c (s p : ByteArray) : AC Try.prog 104 [.one (.c (.string s)), .one (.c (.string p))] [] (.one (.c (.bool (Lib.hasPrefix s.data.toList p.data.toList)))) [] := by
 refine AC_body1 Try.func104 rfl rfl Try.ntmps104 rfl Try.results104 ?_
 refine AW_seq ?_
 refine AW_region ?_
 refine AL_p (x_assign rfl rfl) ?_
 refine AL_nil ?_
 refine AW_seq ?_
 refine AW_region ?_
 refine AL_p (x_move rfl rfl) ?_
 refine AL_p (x_move rfl rfl) ?_
 refine AL_b (x_call0 rfl rfl rfl (litePre_c _ _) rfl rfl) (fun b7 h7 => ?_)
 refine AL_p (x_assign rfl rfl) ?_
 refine AL_nil ?_
 refine AW_ret ?_
 cases b7
 rotate_left
 · try simp only [tdy] at h7
   exact ⟨rn [], ⟨⟨⟨_, rfl, vle_bool (by simp [*])⟩, trivial⟩, trivial, trivial, rfl⟩⟩
 try simp only [tdy] at h7
 exact ⟨rn [], ⟨⟨⟨_, rfl, vle_bool (by simp [*])⟩, trivial⟩, trivial, trivial, rfl⟩⟩

set_option maxHeartbeats 4000000 in
theorem symbolAt_c (s : ByteArray) (j : Nat) (hs0 : s.size ≤ 1048576) (hj : j < s.size) : AC Try.prog 52 [.one (.c (.string s)), .one (.c (.int .i64 ((j : Int))))] [] (.one (.c (.string (symAt s j)))) [] := by
 have htl := twos_len
 refine AC_body1 Try.func52 rfl rfl Try.ntmps52 rfl Try.results52 ?_
 refine AW_seq ?_
 refine AW_region ?_
 refine AL_p (x_assign rfl rfl) ?_
 refine AL_nil ?_
 refine AW_seq ?_
 refine AW_seq ?_
 refine AW_region ?_
 refine AL_p (y_bslice_sl (E := 9) (e := strE) [.const (.string ⟨#[58, 45]⟩), .const (.string ⟨#[33, 61]⟩), .const (.string ⟨#[60, 61]⟩)] (twos) rfl rfl rfl rfl rfl rfl rfl rfl FitL.rf rfl rfl rfl (by kernel_rfl)) ?_
 refine AL_p (x_len (E := 9) (n := 1) rfl rfl (by kernel_rfl)) ?_
 refine AL_p (x_move rfl rfl) ?_
 refine AL_nil ?_
 refine AW_block ?_
 refine AW_loop2 (ι := {q : Nat // q ≤ 3 ∧ NoneTo (fun p : ByteArray => Lib.hasPrefix (s.extract j s.size).data.toList p.data.toList) twos q}) (fun p => [(9, .one (.c (.int .i64 (((p.1) : Int)))))]) (fun p => []) [0, 1, 7, 8] [] (fun p => 3 - (p.1)) ⟨0, ⟨by omega, .zero⟩⟩ (rn []) ?_ ?_
 exact ⟨by (repeat refine ⟨⟨_, rfl, by first | exact VLe.rf | exact vle_int (by dsimp only; omega)⟩, ?_⟩); exact trivial, by (repeat refine ⟨⟨_, rfl, by first | exact BLe.rf | exact BLe.box AllC.rf | exact BLe.arr (by exact rfl)⟩, ?_⟩); exact trivial, by repeat (first | exact trivial | refine ⟨⟨rfl, by first | (left; intro h; cases h) | (right; rfl), by first | exact (fun _ h => ⟨_, h⟩) | exact (fun _ _ => ⟨_, rfl⟩) | (intro _ h; cases h)⟩, ?_⟩), rfl⟩
 rintro ⟨k, hinv⟩
 dsimp only
 have hk : k ≤ 3 := hinv.1
 have hn := hinv.2
 refine AW_seq ?_
 refine AW_region ?_
 refine AL_b (x_lss rfl rfl rfl) (fun b10 h10 => ?_)
 refine AL_nil ?_
 refine AW_seq ?_
 cases b10
 · try simp only [tdy] at h10
   have h2 := no_two (s := s) (i := j) (by omega) hn (k := k) (by omega)
   refine AW_condF rfl ?_
   refine AW_exit (BQ_hit ?_)
   refine AW_seq ?_
   refine AW_seq ?_
   refine AW_region ?_
   refine AL_p (x_move rfl rfl) ?_
   refine AL_p (x_move rfl rfl) ?_
   refine AL_p (x_sindex rfl rfl rfl (by kernel_rfl) (k := j) rfl (by omega)) ?_
   refine AL_p (x_call0 rfl rfl rfl (idxByte_c signB _ (by decide)) rfl rfl) ?_
   refine AL_b (x_geq rfl rfl rfl) (fun b24 h24 => ?_)
   refine AL_nil ?_
   cases b24
   · try simp only [tdy] at h24
     have hno := (sym_none (s := s) (i := j) (by omega) h2 (by omega)).symm
     refine AW_condF rfl ?_
     refine AW_skip ?_
     refine AW_seq ?_
     refine AW_region ?_
     refine AL_p (x_assign rfl rfl) ?_
     refine AL_nil ?_
     refine AW_ret ?_
     exact ⟨rn [], ⟨⟨⟨_, rfl, vle_str (hno)⟩, trivial⟩, trivial, trivial, rfl⟩⟩
   try simp only [tdy] at h24
   have hno := (sym_one (s := s) (i := j) (by omega) h2 h24).symm
   refine AW_condT rfl ?_
   refine AW_seq ?_
   refine AW_region ?_
   refine AL_p (x_move rfl rfl) ?_
   refine AL_p (x_move rfl rfl) ?_
   refine AL_p (x_move rfl rfl) ?_
   refine AL_p (x_add rfl rfl rfl (IntWalk.i64_in _ (by omega))) ?_
   refine AL_p (x_sslice rfl rfl (by kernel_rfl) (.yes (l := j) rfl (by omega)) (.yes (l := j + 1) rfl (by omega)) (by omega) (by first | exact Nat.le_refl _ | omega) rfl) ?_
   refine AL_p (x_assign rfl rfl) ?_
   refine AL_nil ?_
   refine AW_ret ?_
   exact ⟨rn [], ⟨⟨⟨_, rfl, vle_str (hno)⟩, trivial⟩, trivial, trivial, rfl⟩⟩
 try simp only [tdy] at h10
 refine AW_condT rfl ?_
 refine AW_skip ?_
 refine AW_seq ?_
 refine AW_block ?_
 refine AW_seq ?_
 refine AW_region ?_
 refine AL_p (x_index (E := 9) (n := 1) rfl rfl rfl (by kernel_rfl) rfl (k := k) rfl (by rw [twos_len]; omega)) ?_
 refine AL_p (x_eload1 rfl rfl (by kernel_rfl) rfl) ?_
 refine AL_p (x_assign rfl rfl) ?_
 refine AL_nil ?_
 refine AW_seq ?_
 refine AW_region ?_
 refine AL_p (x_move rfl rfl) ?_
 refine AL_p (x_move rfl rfl) ?_
 refine AL_p (x_sslice rfl rfl (by kernel_rfl) (.yes (l := j) rfl (by omega)) .no (by omega) (by first | exact Nat.le_refl _ | omega) rfl) ?_
 refine AL_p (x_move rfl rfl) ?_
 refine AL_b (x_call0 rfl rfl rfl (hasPre_c _ _) rfl rfl) (fun b17 h17 => ?_)
 refine AL_nil ?_
 cases b17
 · try simp only [tdy] at h17
   refine AW_condF rfl ?_
   refine AW_skip ?_
   refine AW_region ?_
   refine AL_p (x_add rfl rfl rfl (IntWalk.i64_in _ (by omega))) ?_
   refine AL_p (x_move rfl rfl) ?_
   refine AL_nil ?_
   refine ⟨⟨k + 1, ⟨by omega, hn.succ (by rw [twos_len]; omega) h17⟩⟩, rn [], ?_, by dsimp only; omega⟩
   exact ⟨by (repeat refine ⟨⟨_, rfl, by first | exact VLe.rf | exact vle_int (by dsimp only; omega)⟩, ?_⟩); exact trivial, by (repeat refine ⟨⟨_, rfl, by first | exact BLe.rf | exact BLe.box AllC.rf | exact BLe.arr (by exact rfl)⟩, ?_⟩); exact trivial, by repeat (first | exact trivial | refine ⟨⟨rfl, by first | (left; intro h; cases h) | (right; rfl), by first | exact (fun _ h => ⟨_, h⟩) | exact (fun _ _ => ⟨_, rfl⟩) | (intro _ h; cases h)⟩, ?_⟩), rfl⟩
 try simp only [tdy] at h17
 have hno := (sym_two (s := s) (i := j) (by omega) (k := k) (by rw [twos_len]; omega) h17).symm
 refine AW_condT rfl ?_
 refine AW_seq ?_
 refine AW_region ?_
 refine AL_p (x_move rfl rfl) ?_
 refine AL_p (x_assign rfl rfl) ?_
 refine AL_nil ?_
 refine AW_ret (BQ_ret (BQ_ret ?_))
 exact ⟨rn [], ⟨⟨⟨_, rfl, vle_str (hno)⟩, trivial⟩, trivial, trivial, rfl⟩⟩

set_option maxHeartbeats 4000000 in
theorem sign_c (s : ByteArray) (j : Nat) (hs0 : s.size ≤ 1048576) (hj : j < s.size) : AC Try.prog 43 [.one (.c (.string s)), .one (.c (.int .i64 ((j : Int))))] [] (.one (.c (.string (symAt s j)))) [] := by
 have hol := ones_len
 refine AC_body1 Try.func43 rfl rfl Try.ntmps43 rfl Try.results43 ?_
 refine AW_seq ?_
 refine AW_region ?_
 refine AL_p (x_assign rfl rfl) ?_
 refine AL_nil ?_
 refine AW_seq ?_
 refine AW_seq ?_
 refine AW_region ?_
 refine AL_p (x_move rfl rfl) ?_
 refine AL_p (x_add rfl rfl rfl (IntWalk.i64_in _ (by omega))) ?_
 refine AL_p (x_move rfl rfl) ?_
 refine AL_p (x_lens rfl rfl (by kernel_rfl)) ?_
 refine AL_b (x_lss rfl rfl rfl) (fun b13 h13 => ?_)
 refine AL_nil ?_
 cases b13
 · try simp only [tdy] at h13
   have h2 : ¬ (j + 1 < s.size ∧ isTwo (s.extract j (j + 2)) = true) := fun q => by omega
   refine AW_condF rfl ?_
   refine AW_skip ?_
   refine AW_seq ?_
   refine AW_region ?_
   refine AL_p (x_move rfl rfl) ?_
   refine AL_p (x_move rfl rfl) ?_
   refine AL_p (x_sindex rfl rfl rfl (by kernel_rfl) (k := j) rfl (by omega)) ?_
   refine AL_p (x_assign rfl rfl) ?_
   refine AL_nil ?_
   refine AW_seq ?_
   refine AW_seq ?_
   refine AW_region ?_
   refine AL_p (y_bslice_sl (E := 9) (e := strE) [.const (.string ⟨#[40]⟩), .const (.string ⟨#[41]⟩), .const (.string ⟨#[44]⟩), .const (.string ⟨#[46]⟩), .const (.string ⟨#[61]⟩), .const (.string ⟨#[60]⟩), .const (.string ⟨#[43]⟩), .const (.string ⟨#[45]⟩), .const (.string ⟨#[47]⟩)] (ones) rfl rfl rfl rfl rfl rfl rfl rfl FitL.rf rfl rfl rfl (by kernel_rfl)) ?_
   refine AL_p (x_len (E := 9) (n := 1) rfl rfl (by kernel_rfl)) ?_
   refine AL_p (x_move rfl rfl) ?_
   refine AL_nil ?_
   refine AW_block ?_
   refine AW_loop2 (ι := {q : Nat // q ≤ 9 ∧ NoneTo (fun p : ByteArray => decide (hd0 p = s[j].toNat)) ones q}) (fun p => [(35, .one (.c (.int .i64 (((p.1) : Int)))))]) (fun p => []) [6, 33, 34] [] (fun p => 9 - (p.1)) ⟨0, ⟨by omega, .zero⟩⟩ (rn []) ?_ ?_
   exact ⟨by (repeat refine ⟨⟨_, rfl, by first | exact VLe.rf | exact vle_int (by dsimp only; omega)⟩, ?_⟩); exact trivial, by (repeat refine ⟨⟨_, rfl, by first | exact BLe.rf | exact BLe.box AllC.rf | exact BLe.arr (by exact rfl)⟩, ?_⟩); exact trivial, by repeat (first | exact trivial | refine ⟨⟨rfl, by first | (left; intro h; cases h) | (right; rfl), by first | exact (fun _ h => ⟨_, h⟩) | exact (fun _ _ => ⟨_, rfl⟩) | (intro _ h; cases h)⟩, ?_⟩), rfl⟩
   rintro ⟨k, hinv⟩
   dsimp only
   have hk : k ≤ 9 := hinv.1
   have hn := hinv.2
   refine AW_seq ?_
   refine AW_region ?_
   refine AL_b (x_lss rfl rfl rfl) (fun b36 h36 => ?_)
   refine AL_nil ?_
   refine AW_seq ?_
   cases b36
   · try simp only [tdy] at h36
     have hno := (sym_miss (s := s) (i := j) (by omega) h2 (k := k) (by omega) hn).symm
     refine AW_condF rfl ?_
     refine AW_exit (BQ_hit ?_)
     refine AW_seq ?_
     refine AW_region ?_
     refine AL_p (x_assign rfl rfl) ?_
     refine AL_nil ?_
     refine AW_ret ?_
     exact ⟨rn [], ⟨⟨⟨_, rfl, vle_str (by first | exact hno | exact hno.symm | (rw [hno]; exact ba_iff.1 (by assumption)))⟩, trivial⟩, trivial, trivial, rfl⟩⟩
   try simp only [tdy] at h36
   refine AW_condT rfl ?_
   refine AW_skip ?_
   refine AW_seq ?_
   refine AW_block ?_
   refine AW_seq ?_
   refine AW_region ?_
   refine AL_p (x_index (E := 9) (n := 1) rfl rfl rfl (by kernel_rfl) rfl (k := k) rfl (by rw [ones_len]; omega)) ?_
   refine AL_p (x_eload1 rfl rfl (by kernel_rfl) rfl) ?_
   refine AL_p (x_assign rfl rfl) ?_
   refine AL_nil ?_
   refine AW_seq ?_
   refine AW_region ?_
   refine AL_p (x_move rfl rfl) ?_
   refine AL_p (x_sindex rfl rfl rfl (by kernel_rfl) (k := 0) rfl (by rw [ones_size (by rw [ones_len]; omega)]; decide)) ?_
   refine AL_p (x_move rfl rfl) ?_
   refine AL_b (x_eql rfl rfl rfl) (fun b42 h42 => ?_)
   refine AL_nil ?_
   cases b42
   rotate_left
   · try simp only [tdy] at h42
     have hno := (sym_hit (s := s) (i := j) (by omega) h2 (k := k) (by rw [ones_len]; omega) (by rw [ones_size (by rw [ones_len]; omega)]; decide) h42).symm
     refine AW_condT rfl ?_
     refine AW_seq ?_
     refine AW_region ?_
     refine AL_p (x_move rfl rfl) ?_
     refine AL_p (x_assign rfl rfl) ?_
     refine AL_nil ?_
     refine AW_ret (BQ_ret (BQ_ret ?_))
     exact ⟨rn [], ⟨⟨⟨_, rfl, vle_str (by first | exact hno | exact hno.symm | (rw [hno]; exact ba_iff.1 (by assumption)))⟩, trivial⟩, trivial, trivial, rfl⟩⟩
   try simp only [tdy] at h42
   have hd : hd0 (ones[k]'(by rw [ones_len]; omega)) = _ := hd0_eq (by rw [ones_size (by rw [ones_len]; omega)]; decide)
   refine AW_condF rfl ?_
   refine AW_skip ?_
   refine AW_region ?_
   refine AL_p (x_add rfl rfl rfl (IntWalk.i64_in _ (by omega))) ?_
   refine AL_p (x_move rfl rfl) ?_
   refine AL_nil ?_
   refine ⟨⟨k + 1, ⟨by omega, hn.succ (by rw [ones_len]; omega) (by rw [decide_eq_false_iff_not, hd]; exact h42)⟩⟩, rn [], ?_, by dsimp only; omega⟩
   exact ⟨by (repeat refine ⟨⟨_, rfl, by first | exact VLe.rf | exact vle_int (by dsimp only; omega)⟩, ?_⟩); exact trivial, by (repeat refine ⟨⟨_, rfl, by first | exact BLe.rf | exact BLe.box AllC.rf | exact BLe.arr (by exact rfl)⟩, ?_⟩); exact trivial, by repeat (first | exact trivial | refine ⟨⟨rfl, by first | (left; intro h; cases h) | (right; rfl), by first | exact (fun _ h => ⟨_, h⟩) | exact (fun _ _ => ⟨_, rfl⟩) | (intro _ h; cases h)⟩, ?_⟩), rfl⟩
 try simp only [tdy] at h13
 refine AW_condT rfl ?_
 refine AW_seq ?_
 refine AW_region ?_
 refine AL_p (x_move rfl rfl) ?_
 refine AL_p (x_move rfl rfl) ?_
 refine AL_p (x_move rfl rfl) ?_
 refine AL_p (x_add rfl rfl rfl (IntWalk.i64_in _ (by omega))) ?_
 refine AL_p (x_sslice rfl rfl (by kernel_rfl) (.yes (l := j) rfl (by omega)) (.yes (l := j + 2) rfl (by omega)) (by omega) (by first | exact Nat.le_refl _ | omega) rfl) ?_
 refine AL_p (x_assign rfl rfl) ?_
 refine AL_nil ?_
 refine AW_seq ?_
 refine AW_region ?_
 refine AL_p (x_move rfl rfl) ?_
 refine AL_b (x_seql rfl rfl rfl) (fun b20 h20 => ?_)
 refine AL_p (x_move rfl rfl) ?_
 cases b20
 rotate_left
 · try simp only [tdy] at h20
   have hno := sym_pair (s := s) (i := j) (by omega) (ba_iff.1 h20) rfl
   refine AL_o rfl rfl rfl rfl ?_
   refine AL_o rfl rfl rfl rfl ?_
   refine AL_p (x_pickT rfl rfl rfl) ?_
   refine AL_p (x_move rfl rfl) ?_
   refine AL_o rfl rfl rfl rfl ?_
   refine AL_o rfl rfl rfl rfl ?_
   refine AL_p (x_pickT rfl rfl rfl) ?_
   refine AL_nil ?_
   refine AW_condT rfl ?_
   refine AW_seq ?_
   refine AW_region ?_
   refine AL_p (x_move rfl rfl) ?_
   refine AL_p (x_assign rfl rfl) ?_
   refine AL_nil ?_
   refine AW_ret ?_
   exact ⟨rn [], ⟨⟨⟨_, rfl, vle_str (by first | exact hno | exact hno.symm | (rw [hno]; exact ba_iff.1 (by assumption)))⟩, trivial⟩, trivial, trivial, rfl⟩⟩
 try simp only [tdy] at h20
 refine AL_g rfl rfl (x_move rfl rfl) ?_
 refine AL_gb rfl rfl (x_seql rfl rfl rfl) (fun b23 h23 => ?_)
 refine AL_p (x_pickF rfl rfl rfl) ?_
 refine AL_p (x_move rfl rfl) ?_
 cases b23
 rotate_left
 · try simp only [tdy] at h23
   have hno := sym_pair (s := s) (i := j) (by omega) (ba_iff.1 h23) rfl
   refine AL_o rfl rfl rfl rfl ?_
   refine AL_o rfl rfl rfl rfl ?_
   refine AL_p (x_pickT rfl rfl rfl) ?_
   refine AL_nil ?_
   refine AW_condT rfl ?_
   refine AW_seq ?_
   refine AW_region ?_
   refine AL_p (x_move rfl rfl) ?_
   refine AL_p (x_assign rfl rfl) ?_
   refine AL_nil ?_
   refine AW_ret ?_
   exact ⟨rn [], ⟨⟨⟨_, rfl, vle_str (by first | exact hno | exact hno.symm | (rw [hno]; exact ba_iff.1 (by assumption)))⟩, trivial⟩, trivial, trivial, rfl⟩⟩
 try simp only [tdy] at h23
 refine AL_g rfl rfl (x_move rfl rfl) ?_
 refine AL_gb rfl rfl (x_seql rfl rfl rfl) (fun b27 h27 => ?_)
 refine AL_p (x_pickF rfl rfl rfl) ?_
 refine AL_nil ?_
 cases b27
 rotate_left
 · try simp only [tdy] at h27
   have hno := sym_pair (s := s) (i := j) (by omega) (ba_iff.1 h27) rfl
   refine AW_condT rfl ?_
   refine AW_seq ?_
   refine AW_region ?_
   refine AL_p (x_move rfl rfl) ?_
   refine AL_p (x_assign rfl rfl) ?_
   refine AL_nil ?_
   refine AW_ret ?_
   exact ⟨rn [], ⟨⟨⟨_, rfl, vle_str (by first | exact hno | exact hno.symm | (rw [hno]; exact ba_iff.1 (by assumption)))⟩, trivial⟩, trivial, trivial, rfl⟩⟩
 try simp only [tdy] at h27
 have h2 : ¬ (j + 1 < s.size ∧ isTwo (s.extract j (j + 2)) = true) := not_two h20 h23 h27
 refine AW_condF rfl ?_
 refine AW_skip ?_
 refine AW_seq ?_
 refine AW_region ?_
 refine AL_p (x_move rfl rfl) ?_
 refine AL_p (x_move rfl rfl) ?_
 refine AL_p (x_sindex rfl rfl rfl (by kernel_rfl) (k := j) rfl (by omega)) ?_
 refine AL_p (x_assign rfl rfl) ?_
 refine AL_nil ?_
 refine AW_seq ?_
 refine AW_seq ?_
 refine AW_region ?_
 refine AL_p (y_bslice_sl (E := 9) (e := strE) [.const (.string ⟨#[40]⟩), .const (.string ⟨#[41]⟩), .const (.string ⟨#[44]⟩), .const (.string ⟨#[46]⟩), .const (.string ⟨#[61]⟩), .const (.string ⟨#[60]⟩), .const (.string ⟨#[43]⟩), .const (.string ⟨#[45]⟩), .const (.string ⟨#[47]⟩)] (ones) rfl rfl rfl rfl rfl rfl rfl rfl FitL.rf rfl rfl rfl (by kernel_rfl)) ?_
 refine AL_p (x_len (E := 9) (n := 1) rfl rfl (by kernel_rfl)) ?_
 refine AL_p (x_move rfl rfl) ?_
 refine AL_nil ?_
 refine AW_block ?_
 refine AW_loop2 (ι := {q : Nat // q ≤ 9 ∧ NoneTo (fun p : ByteArray => decide (hd0 p = s[j].toNat)) ones q}) (fun p => [(35, .one (.c (.int .i64 (((p.1) : Int)))))]) (fun p => []) [6, 33, 34] [] (fun p => 9 - (p.1)) ⟨0, ⟨by omega, .zero⟩⟩ (rn []) ?_ ?_
 exact ⟨by (repeat refine ⟨⟨_, rfl, by first | exact VLe.rf | exact vle_int (by dsimp only; omega)⟩, ?_⟩); exact trivial, by (repeat refine ⟨⟨_, rfl, by first | exact BLe.rf | exact BLe.box AllC.rf | exact BLe.arr (by exact rfl)⟩, ?_⟩); exact trivial, by repeat (first | exact trivial | refine ⟨⟨rfl, by first | (left; intro h; cases h) | (right; rfl), by first | exact (fun _ h => ⟨_, h⟩) | exact (fun _ _ => ⟨_, rfl⟩) | (intro _ h; cases h)⟩, ?_⟩), rfl⟩
 rintro ⟨k, hinv⟩
 dsimp only
 have hk : k ≤ 9 := hinv.1
 have hn := hinv.2
 refine AW_seq ?_
 refine AW_region ?_
 refine AL_b (x_lss rfl rfl rfl) (fun b36 h36 => ?_)
 refine AL_nil ?_
 refine AW_seq ?_
 cases b36
 · try simp only [tdy] at h36
   have hno := (sym_miss (s := s) (i := j) (by omega) h2 (k := k) (by omega) hn).symm
   refine AW_condF rfl ?_
   refine AW_exit (BQ_hit ?_)
   refine AW_seq ?_
   refine AW_region ?_
   refine AL_p (x_assign rfl rfl) ?_
   refine AL_nil ?_
   refine AW_ret ?_
   exact ⟨rn [], ⟨⟨⟨_, rfl, vle_str (by first | exact hno | exact hno.symm | (rw [hno]; exact ba_iff.1 (by assumption)))⟩, trivial⟩, trivial, trivial, rfl⟩⟩
 try simp only [tdy] at h36
 refine AW_condT rfl ?_
 refine AW_skip ?_
 refine AW_seq ?_
 refine AW_block ?_
 refine AW_seq ?_
 refine AW_region ?_
 refine AL_p (x_index (E := 9) (n := 1) rfl rfl rfl (by kernel_rfl) rfl (k := k) rfl (by rw [ones_len]; omega)) ?_
 refine AL_p (x_eload1 rfl rfl (by kernel_rfl) rfl) ?_
 refine AL_p (x_assign rfl rfl) ?_
 refine AL_nil ?_
 refine AW_seq ?_
 refine AW_region ?_
 refine AL_p (x_move rfl rfl) ?_
 refine AL_p (x_sindex rfl rfl rfl (by kernel_rfl) (k := 0) rfl (by rw [ones_size (by rw [ones_len]; omega)]; decide)) ?_
 refine AL_p (x_move rfl rfl) ?_
 refine AL_b (x_eql rfl rfl rfl) (fun b42 h42 => ?_)
 refine AL_nil ?_
 cases b42
 rotate_left
 · try simp only [tdy] at h42
   have hno := (sym_hit (s := s) (i := j) (by omega) h2 (k := k) (by rw [ones_len]; omega) (by rw [ones_size (by rw [ones_len]; omega)]; decide) h42).symm
   refine AW_condT rfl ?_
   refine AW_seq ?_
   refine AW_region ?_
   refine AL_p (x_move rfl rfl) ?_
   refine AL_p (x_assign rfl rfl) ?_
   refine AL_nil ?_
   refine AW_ret (BQ_ret (BQ_ret ?_))
   exact ⟨rn [], ⟨⟨⟨_, rfl, vle_str (by first | exact hno | exact hno.symm | (rw [hno]; exact ba_iff.1 (by assumption)))⟩, trivial⟩, trivial, trivial, rfl⟩⟩
 try simp only [tdy] at h42
 have hd : hd0 (ones[k]'(by rw [ones_len]; omega)) = _ := hd0_eq (by rw [ones_size (by rw [ones_len]; omega)]; decide)
 refine AW_condF rfl ?_
 refine AW_skip ?_
 refine AW_region ?_
 refine AL_p (x_add rfl rfl rfl (IntWalk.i64_in _ (by omega))) ?_
 refine AL_p (x_move rfl rfl) ?_
 refine AL_nil ?_
 refine ⟨⟨k + 1, ⟨by omega, hn.succ (by rw [ones_len]; omega) (by rw [decide_eq_false_iff_not, hd]; exact h42)⟩⟩, rn [], ?_, by dsimp only; omega⟩
 exact ⟨by (repeat refine ⟨⟨_, rfl, by first | exact VLe.rf | exact vle_int (by dsimp only; omega)⟩, ?_⟩); exact trivial, by (repeat refine ⟨⟨_, rfl, by first | exact BLe.rf | exact BLe.box AllC.rf | exact BLe.arr (by exact rfl)⟩, ?_⟩); exact trivial, by repeat (first | exact trivial | refine ⟨⟨rfl, by first | (left; intro h; cases h) | (right; rfl), by first | exact (fun _ h => ⟨_, h⟩) | exact (fun _ _ => ⟨_, rfl⟩) | (intro _ h; cases h)⟩, ?_⟩), rfl⟩
end Go.Proofs.Ytkemjhlbokldhaa

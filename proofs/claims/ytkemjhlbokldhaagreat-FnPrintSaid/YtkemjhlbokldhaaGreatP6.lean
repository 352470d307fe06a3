/- Lemmas of the walks, part 6. -/
import Derived.Test.YtkemjhlbokldhaaGreatP5
namespace Go.Proofs.YtkemjhlbokldhaaGreat
open Go.RowKit
set_option linter.unusedVariables false
set_option linter.unusedSimpArgs false
set_option maxRecDepth 100000

set_option maxHeartbeats 4000000 in
theorem parseI_c0 (s : ByteArray) (hs0 : s.size ≤ 1048576) : AC Tryz.prog 7 [.one (.c (.string (s)))] [] (.tup [.agg [.own 0, .own 1], .one (.c (.int .i64 ((Dw s).2.1))), .one (.c (.int .i64 ((Dw s).2.2)))]) [(0, some (.arr 51 CN (Dw s).1.decls true)), (1, some (.arr 42 ruleE (Dw s).1.rules true))] := by
 have hm : (AF s).1.length ≤ 1048576 := by have := lexAll_len' s; omega
 refine AC_bodyCTT (n := 2) (k := 9) (T := [(2, .one (.ptr 9 0)), (3, .one (.c (.int .i64 ((Dw s).2.1)))), (4, .one (.c (.int .i64 ((Dw s).2.2))))]) (Lf := ((9, some (.box [.own 0, .own 1])) :: [(0, some (.arr 51 CN (Dw s).1.decls true)), (1, some (.arr 42 ruleE (Dw s).1.rules true))])) Tryz.func7 J J Tryz.ntmps7 J Tryz.results7 J J J J J J (by kernel_rfl) J J ⟨O, (by repeat (first | exact trivial | refine ⟨⟨_, J, BLe.rf⟩, ?_⟩)), (Af J), J⟩ ?_
 refine Aa (Az (Aw (.agg #[.slice none 0 0, .slice none 0 0]) 100 J (by kernel_rfl) J J J J) (Az (A1 J J) (Az (A1 J J) (Ad (Az (A0 J J) (Az (HP J J J (lexI_c s hs0 101) J AllV.rf J J J J J) (Az (A0 J J) (Az (B1 J J J) (Az (B1 J J J) (Az (B1 J J J) (Az (A1 J J) (Az (A1 J J) (Az (A1 J J) (A2 (A8 (Aa (Az (A0 J J) ?_)))))))))))))))))
 refine Bd (EK J J J) (fun b22 h22 => ?_)
 refine A2 ?_
 cases b22
 rotate_left
 · try simp only [tdy] at h22
   have hno := parseI_lex h22
   refine A5 J (Aa (Az (Al [.slice none 0 0, .slice none 0 0] [(0, 1), (1, 1)] J (by kernel_rfl) J J J J J) (Az (A0 J J) (Az (A0 J J) (Az (Ap 2 J J J J (by kernel_rfl) J J J) (Az (A1 J J) (Az (A1 J J) (A2 (Be (T := 51) (e := CN) 102 100 0 J J J J J ?_)))))))))
   refine Be (T := 42) (e := ruleE) 103 100 1 J J J J J ?_
   refine AU ?_
   exact ⟨rn [(9, 100), (0, 102), (1, 103)], ⟨⟨⟨_, J, VLe.rf⟩, ⟨_, J, A7 (by rw [hno])⟩, ⟨_, J, A7 (by rw [hno])⟩, O⟩, ⟨⟨_, J, by first | exact BLe.rf | exact AE (by rw [hno]; first | done | rfl)⟩, ⟨_, J, by first | exact BLe.rf | (refine BLe.arr ?_; rw [hno]; first | done | rfl)⟩, ⟨_, J, by first | exact BLe.rf | (refine BLe.arr ?_; rw [hno]; first | done | rfl)⟩, O⟩, O, J⟩⟩
 try simp only [tdy] at h22
 have hl0 : (AF s).2.1 = 0 := by omega
 refine Ab J (A8 (G6 101 5 J J ?_))
 refine AG (Az (A0 J J) (Az (A0 J J) (Az (D4 J J (by kernel_rfl)) (Az (Al [.slice none 0 0, .int .i64 0, .int .i64 0, .int .i64 0, .int .i64 0] [(0, 1), (1, 1), (2, 1), (3, 1), (4, 1)] J (by kernel_rfl) J J J J J) (Az (Dr 200 J J J J J J J) (Az (A1 J J) (Ad (Az (Al [.slice none 0 0, .slice none 0 0] [(0, 1), (1, 1)] J (by kernel_rfl) J J J J J) (Az (Aw (.agg #[.slice none 0 0, .slice none 0 0]) 104 J (by kernel_rfl) J J J J) (Az (Ap 2 J J J J (by kernel_rfl) J J J) (A2 (A8 (AZ (Be (T := 51) (e := CN) 105 104 0 J J J J J ?_))))))))))))))
 refine Be (T := 42) (e := ruleE) 106 104 1 J J J J J ?_
 refine B8 (ι := {q : PS × List Declt × List Rulet // ((q.1).i ≤ (AF s).1.length ∧ (q.2.1).length ≤ 16 ∧ (q.2.2).length ≤ 24) ∧ E7 (AF s).1 (s.size : Int) (q.1) (q.2.1) (q.2.2) = E7 (AF s).1 (s.size : Int) ⟨0, 0, 0⟩ [] []}) (fun p => []) (fun p => [(105, some (.arr 51 CN (p.1.2.1) true)), (106, some (.arr 42 ruleE (p.1.2.2) true)), (200, some (psB (AF s).1 (s.size : Int) (p.1.1)))]) [2, 5, 8, 9] [100, 104] (fun p => muP (p.1.1) (p.1.2.1) (p.1.2.2)) ⟨⟨(⟨0, 0, 0⟩ : PS), [], []⟩, ⟨⟨Nat.zero_le _, Nat.zero_le _, Nat.zero_le _⟩, J⟩⟩ (rn []) ?_ ?_
 exact Ag (by repeat first | exact trivial | refine Ah J (by first | exact VLe.rf | exact A7 (by dsimp only; omega)) ?_) (by repeat first | exact trivial | refine Ai J (by first | exact BLe.rf | exact BLe.box AllC.rf | exact BLe.arr (by exact J)) ?_) J J
 rintro ⟨⟨st1, ds, rs⟩, hinv⟩
 dsimp only
 have hi1 : st1.i ≤ (AF s).1.length := hinv.1.1
 have hl : ds.length ≤ 16 ∧ rs.length ≤ 24 := hinv.1.2
 have h43 : ds.length + rs.length < 43 := by omega
 have hinv2 : E7 (AF s).1 (s.size : Int) st1 ds rs = E7 (AF s).1 (s.size : Int) ⟨0, 0, 0⟩ [] [] := hinv.2
 refine A8 (Aa (Az (A0 J J) (Az (AI J J J) (Az (Ao 3 3 J J J (by kernel_rfl) J) (Az (A4 J J J (by kernel_rfl) J) ?_)))))
 refine Bd (AR J J J) (fun b36 h36 => ?_)
 refine Az (A0 J J) ?_
 cases b36
 · try simp only [tdy] at h36
   have hx := hinv2.symm.trans (progT_end (fun q => by omega) hl)
   refine A3 J J J J (A3 J J J J (A3 J J J J (A3 J J J J (A3 J J J J (A3 J J J J (A3 J J J J (Az (AD J J J) (A2 (Bc J ?_)))))))))
   refine Br (B2 ?_)
   refine A8 (Aa (Az (A0 J J) (Az (AI J J J) (Az (Ao 3 3 J J J (by kernel_rfl) J) (Az (A4 J J J (by kernel_rfl) J) ?_)))))
   refine Bd (EK J J J) (fun b113 h113 => ?_)
   refine A2 ?_
   cases b113
   · try simp only [tdy] at h113
     have hno := (I9 hl0 hx).trans (endR_ok (by omega))
     refine Ab J (Aa (Az (Au 2 J J J (by kernel_rfl) J J) (Az (Ap 2 J J J J (by kernel_rfl) J J J) (Az (A1 J J) (Az (A1 J J) (Ae ?_))))))
     exact ⟨rn [(9, 100), (0, 105), (1, 106)], ⟨⟨⟨_, J, VLe.rf⟩, ⟨_, J, A7 (by rw [hno])⟩, ⟨_, J, A7 (by rw [hno])⟩, O⟩, ⟨⟨_, J, by first | exact BLe.rf | exact AE (by rw [hno]; first | done | rfl)⟩, ⟨_, J, by first | exact BLe.rf | (refine BLe.arr ?_; rw [hno]; first | done | rfl)⟩, ⟨_, J, by first | exact BLe.rf | (refine BLe.arr ?_; rw [hno]; first | done | rfl)⟩, O⟩, O, J⟩⟩
   try simp only [tdy] at h113
   have hno := (I9 hl0 hx).trans (endR_no (by omega))
   refine Ac J (Bw J (Az (Al [.slice none 0 0, .slice none 0 0] [(0, 1), (1, 1)] J (by kernel_rfl) J J J J J) (Az (A0 J J) (Az (AI J J J) (Az (Ao 3 3 J J J (by kernel_rfl) J) (Az (A4 J J J (by kernel_rfl) J) (Az (A0 J J) (Az (AI J J J) (Az (Ao 4 4 J J J (by kernel_rfl) J) (Az (A4 J J J (by kernel_rfl) J) (Az (Ap 2 J J J J (by kernel_rfl) J J J) (Az (A1 J J) (Az (A1 J J) (Bj (by kernel_rfl) ?_))))))))))))))
   refine Be (T := 51) (e := CN) 102 100 0 J J J J J ?_
   refine Be (T := 42) (e := ruleE) 103 100 1 J J J J J ?_
   refine AU ?_
   exact ⟨rn [(9, 100), (0, 102), (1, 103)], ⟨⟨⟨_, J, VLe.rf⟩, ⟨_, J, A7 (by rw [hno])⟩, ⟨_, J, A7 (by rw [hno])⟩, O⟩, ⟨⟨_, J, by first | exact BLe.rf | exact AE (by rw [hno]; first | done | rfl)⟩, ⟨_, J, by first | exact BLe.rf | (refine BLe.arr ?_; rw [hno]; first | done | rfl)⟩, ⟨_, J, by first | exact BLe.rf | (refine BLe.arr ?_; rw [hno]; first | done | rfl)⟩, O⟩, O, J⟩⟩
 try simp only [tdy] at h36
 refine AB J J (A0 J J) (AB J J (AI J J J) (AB J J (Ao 1 1 J J J (by kernel_rfl) J) (AB J J (A4 J J J (by kernel_rfl) J) (AB J J (A0 J J) (AB J J (Ak 62 4 J J (by kernel_rfl)) ?_)))))
 refine Bh J J (BI J J J) (fun b44 h44 => ?_)
 refine Az (AJ J J J) (A2 ?_)
 cases b44
 · try simp only [tdy] at h44
   have hx := hinv2.symm.trans (progT_end (fun q => by omega) hl)
   refine Bc J ?_
   refine Br (B2 ?_)
   refine A8 (Aa (Az (A0 J J) (Az (AI J J J) (Az (Ao 3 3 J J J (by kernel_rfl) J) (Az (A4 J J J (by kernel_rfl) J) ?_)))))
   refine Bd (EK J J J) (fun b113 h113 => ?_)
   refine A2 ?_
   cases b113
   · try simp only [tdy] at h113
     have hno := (I9 hl0 hx).trans (endR_ok (by omega))
     refine Ab J (Aa (Az (Au 2 J J J (by kernel_rfl) J J) (Az (Ap 2 J J J J (by kernel_rfl) J J J) (Az (A1 J J) (Az (A1 J J) (Ae ?_))))))
     exact ⟨rn [(9, 100), (0, 105), (1, 106)], ⟨⟨⟨_, J, VLe.rf⟩, ⟨_, J, A7 (by rw [hno])⟩, ⟨_, J, A7 (by rw [hno])⟩, O⟩, ⟨⟨_, J, by first | exact BLe.rf | exact AE (by rw [hno]; first | done | rfl)⟩, ⟨_, J, by first | exact BLe.rf | (refine BLe.arr ?_; rw [hno]; first | done | rfl)⟩, ⟨_, J, by first | exact BLe.rf | (refine BLe.arr ?_; rw [hno]; first | done | rfl)⟩, O⟩, O, J⟩⟩
   try simp only [tdy] at h113
   have hno := (I9 hl0 hx).trans (endR_no (by omega))
   refine Ac J (Bw J (Az (Al [.slice none 0 0, .slice none 0 0] [(0, 1), (1, 1)] J (by kernel_rfl) J J J J J) (Az (A0 J J) (Az (AI J J J) (Az (Ao 3 3 J J J (by kernel_rfl) J) (Az (A4 J J J (by kernel_rfl) J) (Az (A0 J J) (Az (AI J J J) (Az (Ao 4 4 J J J (by kernel_rfl) J) (Az (A4 J J J (by kernel_rfl) J) (Az (Ap 2 J J J J (by kernel_rfl) J J J) (Az (A1 J J) (Az (A1 J J) (Bj (by kernel_rfl) ?_))))))))))))))
   refine Be (T := 51) (e := CN) 102 100 0 J J J J J ?_
   refine Be (T := 42) (e := ruleE) 103 100 1 J J J J J ?_
   refine AU ?_
   exact ⟨rn [(9, 100), (0, 102), (1, 103)], ⟨⟨⟨_, J, VLe.rf⟩, ⟨_, J, A7 (by rw [hno])⟩, ⟨_, J, A7 (by rw [hno])⟩, O⟩, ⟨⟨_, J, by first | exact BLe.rf | exact AE (by rw [hno]; first | done | rfl)⟩, ⟨_, J, by first | exact BLe.rf | (refine BLe.arr ?_; rw [hno]; first | done | rfl)⟩, ⟨_, J, by first | exact BLe.rf | (refine BLe.arr ?_; rw [hno]; first | done | rfl)⟩, O⟩, O, J⟩⟩
 try simp only [tdy] at h44
 have hlt : st1.i < (AF s).1.length := by omega
 refine A5 J (AP (AZ (Aa (Az (A0 J J) (Az (Aj J J J (Di (AF s).1 (s.size : Int) st1 hm hi1) J J J J) (Az (Aw (.agg #[.int .i64 0, .int .i64 0, .string ⟨#[]⟩, .int .i64 0]) 107 J (by kernel_rfl) J J J J) (Az (Ap 4 J J J J (by kernel_rfl) J J J) (Ad (Az (A1 J J) (A2 ?_))))))))))
 refine Hf (ι := {q : Unit // True}) (fun p => [(11, .one (.c (.int .i64 ((BO (AA (AF s).1 (s.size : Int) st1))))))]) (fun p => []) [2, 5, 8, 9] [100, 104, 105, 106, 107, 200] ?_ ?_
 · refine Aa (Az (Ao 0 0 J J J (by kernel_rfl) J) (Az (A4 J J J (by kernel_rfl) J) ?_))
   refine Bd (AR J J J) (fun b50 h50 => ?_)
   refine A2 ?_
   cases b50
   · try simp only [tdy] at h50
     refine Ab J ?_
     refine ⟨⟨(), O⟩, rn [], ?_⟩
     exact Ag (by repeat first | exact trivial | refine Ah J (by first | exact VLe.rf | exact A7 (by dsimp only; omega) | exact Bu (by exact absurd J id) | exact A7 (by first | exact (idx_kind _).trans (if_pos h50).symm | exact (if_neg h50).symm)) ?_) (by repeat first | exact trivial | refine Ai J (by first | exact BLe.rf | exact BLe.box AllC.rf | exact BLe.arr (by exact J)) ?_) J J
   try simp only [tdy] at h50
   refine A5 J (AG (Az (CR (E := 9) (e := DM) [.const (.string ⟨#[]⟩), .const (.string ⟨#[115, 116, 97, 116, 101]⟩), .const (.string ⟨#[101, 118, 101, 110, 116]⟩), .const (.string ⟨#[118, 105, 101, 119]⟩)] (kindL) J J J J J J J J FitL.rf J J J (by kernel_rfl)) (Az (Ao 2 2 J J J (by kernel_rfl) J) (Az (A4 J J J (by kernel_rfl) J) (Az (AS J J J (pIndex_c kindL _) J J) (Az (A1 J J) (A2 ?_)))))))
   refine ⟨⟨(), O⟩, rn [], ?_⟩
   exact Ag (by repeat first | exact trivial | refine Ah J (by first | exact VLe.rf | exact A7 (by dsimp only; omega) | exact Bu (by exact absurd J id) | exact A7 (by first | exact (idx_kind _).trans (if_pos h50).symm | exact (if_neg h50).symm)) ?_) (by repeat first | exact trivial | refine Ai J (by first | exact BLe.rf | exact BLe.box AllC.rf | exact BLe.arr (by exact J)) ?_) J J
 rintro ⟨u, hinv1⟩
 dsimp only
 refine Aa (Az (A0 J J) ?_)
 refine Dk (Aj J J J (Hr (AF s).1 (s.size : Int) st1 hm hi1) J J J J) (fun b56 h56 => ?_)
 refine Az (A0 J J) ?_
 cases b56
 rotate_left
 · try simp only [tdy] at h56
   have hst : Bo (AA (AF s).1 (s.size : Int) st1) = true := by simp [Bo, *]
   refine A3 J J J J (A3 J J J J (Az (AJ J J J) (Az (A0 J J) (A3 J J J J (A3 J J J J (Az (AJ J J J) (Az (A1 J J) (A2 (AZ (Aa (Az (A0 J J) ?_)))))))))))
   refine Bd (CC J J J) (fun b69 h69 => ?_)
   refine Az (A0 J J) ?_
   cases b69
   · try simp only [tdy] at h69
     refine A3 J J J J (A3 J J J J (A3 J J J J (A3 J J J J (Az (AD J J J) (Az (A0 J J) (AB J J (A0 J J) (AB J J (A0 J J) (AB J J (Ao 1 1 J J J (by kernel_rfl) J) (AB J J (A4 J J J (by kernel_rfl) J) (AB J J (Ax 42 4 J J J (by kernel_rfl)) ?_))))))))))
     refine Bh J J (AR J J J) (fun b82 h82 => ?_)
     refine AB J J (AJ J J J) (Az (AD J J J) (Az (A1 J J) (A2 ?_)))
     cases b82
     rotate_left
     · try simp only [tdy] at h82
       have hfull : ((0 < (BO (AA (AF s).1 (s.size : Int) st1)) ∧ (ds.length : Int) = 16) ∨ (Bo (AA (AF s).1 (s.size : Int) st1) = true ∧ (rs.length : Int) = 24)) := .inr ⟨hst, h82⟩
       refine A5 J (AG (Az (A0 J J) (Az (Aj J J J (BZ (AF s).1 (s.size : Int) st1 hm hi1 7) J J J J) (A2 ?_))))
       refine ⟨⟨⟨Bg (AF s).1 (s.size : Int) 7 st1, ds, rs⟩, ⟨⟨Cm hi1, hl.1, hl.2⟩, (DP h36 hlt hl hfull).trans hinv2⟩⟩, rn [], ?_, Ea h36 (Bq (by decide))⟩
       exact Ag (by repeat first | exact trivial | refine Ah J (by first | exact VLe.rf | exact A7 (by dsimp only; omega)) ?_) (by repeat first | exact trivial | refine Ai J (by first | exact BLe.rf | exact BLe.box AllC.rf | exact BLe.arr (by exact J)) ?_) J J
     try simp only [tdy] at h82
     refine Bc J (A8 ?_)
     have hnf : ¬ ((0 < (BO (AA (AF s).1 (s.size : Int) st1)) ∧ (ds.length : Int) = 16) ∨ (Bo (AA (AF s).1 (s.size : Int) st1) = true ∧ (rs.length : Int) = 24)) := by rintro (⟨q1, q2⟩ | ⟨q1, q2⟩) <;> first | omega | (rw [hst] at q1; exact absurd q1 (by decide))
     refine AG (Az (A0 J J) ?_)
     refine Bd (CC J J J) (fun b89 h89 => ?_)
     refine Az (A1 J J) (A2 ?_)
     cases b89
     rotate_left
     · exfalso; (try simp only [tdy] at h89); omega
     try simp only [tdy] at h89
     refine Bc J (Aa (Az (A0 J J) (Az (A1 J J) (A2 (A5 J (Aa (Az (A0 J J) (Az (Av [] [(200, some _)] [(200, some _), (112, some _), (113, some _)] J J J (pRuleI_c (AF s).1 (s.size : Int) st1 hm hi1 112 113 J J J J) J AllV.rf (BE J) J J J ⟨J, O⟩ J) (Az (Aw (.agg #[.int .i64 0, .string ⟨#[]⟩, .slice none 0 0, .slice none 0 0]) 114 J (by kernel_rfl) J J J J) (Az (Ap 4 J J J J (by kernel_rfl) J J J) (A2 (AG (Az (Ao 1 1 J J J (by kernel_rfl) J) (Az (A4 J J J (by kernel_rfl) J) (Az (Au 4 J J J (by kernel_rfl) J J) (Az (Aq ruleE 42 [.tmp 105] ([(C6 (AF s).1 (s.size : Int) st1).1]) 115 J J J J J J J J FitL.rf J J J J J J (by kernel_rfl)) ?_))))))))))))))))
     refine Az (B9 116 J J J J J J J J (by kernel_rfl) (by simp only [List.length_append, List.length_cons, List.length_nil]; omega)) ?_
     refine Az (Ao 1 1 J J J (by kernel_rfl) J) (Az (Ap 1 J J J J (by kernel_rfl) J J J) (A2 ?_))
     refine ⟨⟨⟨(C6 (AF s).1 (s.size : Int) st1).2, ds, rs ++ [(C6 (AF s).1 (s.size : Int) st1).1]⟩, ⟨⟨ruleI_le hi1, hl.1, (by have := (F3 h36 hlt hl hnf (by omega) hst).2; simp only [List.length_append, List.length_cons, List.length_nil]; omega)⟩, (F3 h36 hlt hl hnf (by omega) hst).1.trans hinv2⟩⟩, rn [(106, 116)], ?_, F6 h36 h43⟩
     exact Ag (by repeat first | exact trivial | refine Ah J (by first | exact VLe.rf | exact A7 (by dsimp only; omega)) ?_) (by repeat first | exact trivial | refine Ai J (by first | exact BLe.rf | exact BLe.box AllC.rf | exact BLe.arr (by exact J)) ?_) J J
   try simp only [tdy] at h69
   refine AB J J (Ao 0 0 J J J (by kernel_rfl) J) (AB J J (A4 J J J (by kernel_rfl) J) (AB J J (Ax 51 3 J J J (by kernel_rfl)) ?_))
   refine Bh J J (AR J J J) (fun b74 h74 => ?_)
   refine Az (AJ J J J) (Az (A0 J J) ?_)
   cases b74
   rotate_left
   · try simp only [tdy] at h74
     have hfull : ((0 < (BO (AA (AF s).1 (s.size : Int) st1)) ∧ (ds.length : Int) = 16) ∨ (Bo (AA (AF s).1 (s.size : Int) st1) = true ∧ (rs.length : Int) = 24)) := .inl ⟨h69, h74⟩
     refine A3 J J J J (A3 J J J J (Dc J J J (Dc J J J (Dc J J J (Dc J J J (A3 J J J J (Az (AJ J J J) (Az (A1 J J) (A2 (A5 J (AG (Az (A0 J J) (Az (Aj J J J (BZ (AF s).1 (s.size : Int) st1 hm hi1 7) J J J J) (A2 ?_))))))))))))))
     refine ⟨⟨⟨Bg (AF s).1 (s.size : Int) 7 st1, ds, rs⟩, ⟨⟨Cm hi1, hl.1, hl.2⟩, (DP h36 hlt hl hfull).trans hinv2⟩⟩, rn [], ?_, Ea h36 (Bq (by decide))⟩
     exact Ag (by repeat first | exact trivial | refine Ah J (by first | exact VLe.rf | exact A7 (by dsimp only; omega)) ?_) (by repeat first | exact trivial | refine Ai J (by first | exact BLe.rf | exact BLe.box AllC.rf | exact BLe.arr (by exact J)) ?_) J J
   try simp only [tdy] at h74
   refine AB J J (A0 J J) (AB J J (A0 J J) (AB J J (Ao 1 1 J J J (by kernel_rfl) J) (AB J J (A4 J J J (by kernel_rfl) J) (AB J J (Ax 42 4 J J J (by kernel_rfl)) ?_))))
   refine Bh J J (AR J J J) (fun b82 h82 => ?_)
   refine AB J J (AJ J J J) (Az (AD J J J) (Az (A1 J J) (A2 ?_)))
   cases b82
   rotate_left
   · try simp only [tdy] at h82
     have hfull : ((0 < (BO (AA (AF s).1 (s.size : Int) st1)) ∧ (ds.length : Int) = 16) ∨ (Bo (AA (AF s).1 (s.size : Int) st1) = true ∧ (rs.length : Int) = 24)) := .inr ⟨hst, h82⟩
     refine A5 J (AG (Az (A0 J J) (Az (Aj J J J (BZ (AF s).1 (s.size : Int) st1 hm hi1 7) J J J J) (A2 ?_))))
     refine ⟨⟨⟨Bg (AF s).1 (s.size : Int) 7 st1, ds, rs⟩, ⟨⟨Cm hi1, hl.1, hl.2⟩, (DP h36 hlt hl hfull).trans hinv2⟩⟩, rn [], ?_, Ea h36 (Bq (by decide))⟩
     exact Ag (by repeat first | exact trivial | refine Ah J (by first | exact VLe.rf | exact A7 (by dsimp only; omega)) ?_) (by repeat first | exact trivial | refine Ai J (by first | exact BLe.rf | exact BLe.box AllC.rf | exact BLe.arr (by exact J)) ?_) J J
   try simp only [tdy] at h82
   refine Bc J (A8 ?_)
   have hnf : ¬ ((0 < (BO (AA (AF s).1 (s.size : Int) st1)) ∧ (ds.length : Int) = 16) ∨ (Bo (AA (AF s).1 (s.size : Int) st1) = true ∧ (rs.length : Int) = 24)) := by rintro (⟨q1, q2⟩ | ⟨q1, q2⟩) <;> first | omega | (rw [hst] at q1; exact absurd q1 (by decide))
   refine AG (Az (A0 J J) ?_)
   refine Bd (CC J J J) (fun b89 h89 => ?_)
   refine Az (A1 J J) (A2 ?_)
   cases b89
   · exfalso; (try simp only [tdy] at h89); omega
   try simp only [tdy] at h89
   refine A5 J (Aa (Az (A0 J J) (Az (A0 J J) (Az (Aj J J J (pDeclI_c (AF s).1 (s.size : Int) st1 hm hlt (BO (AA (AF s).1 (s.size : Int) st1))) J J J J) (Az (Aw (.agg #[.int .i64 0, .string ⟨#[]⟩, .int .i64 0]) 109 J (by kernel_rfl) J J J J) (Az (Ap 3 J J J J (by kernel_rfl) J J J) (A2 (AG (Az (Ao 0 0 J J J (by kernel_rfl) J) (Az (A4 J J J (by kernel_rfl) J) (Az (Au 3 J J J (by kernel_rfl) J J) (Az (Aq CN 51 [.tmp 95] ([(CT (AF s).1 (s.size : Int) (BO (AA (AF s).1 (s.size : Int) st1)) st1).1]) 110 J J J J J J J J FitL.rf J J J J J J (by kernel_rfl)) ?_))))))))))))
   refine Az (B9 111 J J J J J J J J (by kernel_rfl) (by simp only [List.length_append, List.length_cons, List.length_nil]; omega)) ?_
   refine Az (Ao 0 0 J J J (by kernel_rfl) J) (Az (Ap 1 J J J J (by kernel_rfl) J J J) (A2 ?_))
   refine ⟨⟨⟨(CT (AF s).1 (s.size : Int) (BO (AA (AF s).1 (s.size : Int) st1)) st1).2, ds ++ [(CT (AF s).1 (s.size : Int) (BO (AA (AF s).1 (s.size : Int) st1)) st1).1], rs⟩, ⟨⟨declI_le hlt, (by have := (Ev h36 hlt hl hnf h69).2; simp only [List.length_append, List.length_cons, List.length_nil]; omega), hl.2⟩, (Ev h36 hlt hl hnf h69).1.trans hinv2⟩⟩, rn [(105, 111)], ?_, Il h36 h43⟩
   exact Ag (by repeat first | exact trivial | refine Ah J (by first | exact VLe.rf | exact A7 (by dsimp only; omega)) ?_) (by repeat first | exact trivial | refine Ai J (by first | exact BLe.rf | exact BLe.box AllC.rf | exact BLe.arr (by exact J)) ?_) J J
 try simp only [tdy] at h56
 refine AB J J (A0 J J) ?_
 refine FF J J (Aj J J J (Dg (AF s).1 (s.size : Int) st1 hm hi1 ⟨#[43]⟩) J J J J) (fun b59 h59 => ?_)
 refine Az (AD J J J) (Az (A0 J J) ?_)
 cases b59
 rotate_left
 · try simp only [tdy] at h59
   have hst : Bo (AA (AF s).1 (s.size : Int) st1) = true := by simp [Bo, *]
   refine A3 J J J J (A3 J J J J (Az (AJ J J J) (Az (A1 J J) (A2 (AZ (Aa (Az (A0 J J) ?_)))))))
   refine Bd (CC J J J) (fun b69 h69 => ?_)
   refine Az (A0 J J) ?_
   cases b69
   · try simp only [tdy] at h69
     refine A3 J J J J (A3 J J J J (A3 J J J J (A3 J J J J (Az (AD J J J) (Az (A0 J J) (AB J J (A0 J J) (AB J J (A0 J J) (AB J J (Ao 1 1 J J J (by kernel_rfl) J) (AB J J (A4 J J J (by kernel_rfl) J) (AB J J (Ax 42 4 J J J (by kernel_rfl)) ?_))))))))))
     refine Bh J J (AR J J J) (fun b82 h82 => ?_)
     refine AB J J (AJ J J J) (Az (AD J J J) (Az (A1 J J) (A2 ?_)))
     cases b82
     rotate_left
     · try simp only [tdy] at h82
       have hfull : ((0 < (BO (AA (AF s).1 (s.size : Int) st1)) ∧ (ds.length : Int) = 16) ∨ (Bo (AA (AF s).1 (s.size : Int) st1) = true ∧ (rs.length : Int) = 24)) := .inr ⟨hst, h82⟩
       refine A5 J (AG (Az (A0 J J) (Az (Aj J J J (BZ (AF s).1 (s.size : Int) st1 hm hi1 7) J J J J) (A2 ?_))))
       refine ⟨⟨⟨Bg (AF s).1 (s.size : Int) 7 st1, ds, rs⟩, ⟨⟨Cm hi1, hl.1, hl.2⟩, (DP h36 hlt hl hfull).trans hinv2⟩⟩, rn [], ?_, Ea h36 (Bq (by decide))⟩
       exact Ag (by repeat first | exact trivial | refine Ah J (by first | exact VLe.rf | exact A7 (by dsimp only; omega)) ?_) (by repeat first | exact trivial | refine Ai J (by first | exact BLe.rf | exact BLe.box AllC.rf | exact BLe.arr (by exact J)) ?_) J J
     try simp only [tdy] at h82
     refine Bc J (A8 ?_)
     have hnf : ¬ ((0 < (BO (AA (AF s).1 (s.size : Int) st1)) ∧ (ds.length : Int) = 16) ∨ (Bo (AA (AF s).1 (s.size : Int) st1) = true ∧ (rs.length : Int) = 24)) := by rintro (⟨q1, q2⟩ | ⟨q1, q2⟩) <;> first | omega | (rw [hst] at q1; exact absurd q1 (by decide))
     refine AG (Az (A0 J J) ?_)
     refine Bd (CC J J J) (fun b89 h89 => ?_)
     refine Az (A1 J J) (A2 ?_)
     cases b89
     rotate_left
     · exfalso; (try simp only [tdy] at h89); omega
     try simp only [tdy] at h89
     refine Bc J (Aa (Az (A0 J J) (Az (A1 J J) (A2 (A5 J (Aa (Az (A0 J J) (Az (Av [] [(200, some _)] [(200, some _), (112, some _), (113, some _)] J J J (pRuleI_c (AF s).1 (s.size : Int) st1 hm hi1 112 113 J J J J) J AllV.rf (BE J) J J J ⟨J, O⟩ J) (Az (Aw (.agg #[.int .i64 0, .string ⟨#[]⟩, .slice none 0 0, .slice none 0 0]) 114 J (by kernel_rfl) J J J J) (Az (Ap 4 J J J J (by kernel_rfl) J J J) (A2 (AG (Az (Ao 1 1 J J J (by kernel_rfl) J) (Az (A4 J J J (by kernel_rfl) J) (Az (Au 4 J J J (by kernel_rfl) J J) (Az (Aq ruleE 42 [.tmp 105] ([(C6 (AF s).1 (s.size : Int) st1).1]) 115 J J J J J J J J FitL.rf J J J J J J (by kernel_rfl)) ?_))))))))))))))))
     refine Az (B9 116 J J J J J J J J (by kernel_rfl) (by simp only [List.length_append, List.length_cons, List.length_nil]; omega)) ?_
     refine Az (Ao 1 1 J J J (by kernel_rfl) J) (Az (Ap 1 J J J J (by kernel_rfl) J J J) (A2 ?_))
     refine ⟨⟨⟨(C6 (AF s).1 (s.size : Int) st1).2, ds, rs ++ [(C6 (AF s).1 (s.size : Int) st1).1]⟩, ⟨⟨ruleI_le hi1, hl.1, (by have := (F3 h36 hlt hl hnf (by omega) hst).2; simp only [List.length_append, List.length_cons, List.length_nil]; omega)⟩, (F3 h36 hlt hl hnf (by omega) hst).1.trans hinv2⟩⟩, rn [(106, 116)], ?_, F6 h36 h43⟩
     exact Ag (by repeat first | exact trivial | refine Ah J (by first | exact VLe.rf | exact A7 (by dsimp only; omega)) ?_) (by repeat first | exact trivial | refine Ai J (by first | exact BLe.rf | exact BLe.box AllC.rf | exact BLe.arr (by exact J)) ?_) J J
   try simp only [tdy] at h69
   refine AB J J (Ao 0 0 J J J (by kernel_rfl) J) (AB J J (A4 J J J (by kernel_rfl) J) (AB J J (Ax 51 3 J J J (by kernel_rfl)) ?_))
   refine Bh J J (AR J J J) (fun b74 h74 => ?_)
   refine Az (AJ J J J) (Az (A0 J J) ?_)
   cases b74
   rotate_left
   · try simp only [tdy] at h74
     have hfull : ((0 < (BO (AA (AF s).1 (s.size : Int) st1)) ∧ (ds.length : Int) = 16) ∨ (Bo (AA (AF s).1 (s.size : Int) st1) = true ∧ (rs.length : Int) = 24)) := .inl ⟨h69, h74⟩
     refine A3 J J J J (A3 J J J J (Dc J J J (Dc J J J (Dc J J J (Dc J J J (A3 J J J J (Az (AJ J J J) (Az (A1 J J) (A2 (A5 J (AG (Az (A0 J J) (Az (Aj J J J (BZ (AF s).1 (s.size : Int) st1 hm hi1 7) J J J J) (A2 ?_))))))))))))))
     refine ⟨⟨⟨Bg (AF s).1 (s.size : Int) 7 st1, ds, rs⟩, ⟨⟨Cm hi1, hl.1, hl.2⟩, (DP h36 hlt hl hfull).trans hinv2⟩⟩, rn [], ?_, Ea h36 (Bq (by decide))⟩
     exact Ag (by repeat first | exact trivial | refine Ah J (by first | exact VLe.rf | exact A7 (by dsimp only; omega)) ?_) (by repeat first | exact trivial | refine Ai J (by first | exact BLe.rf | exact BLe.box AllC.rf | exact BLe.arr (by exact J)) ?_) J J
   try simp only [tdy] at h74
   refine AB J J (A0 J J) (AB J J (A0 J J) (AB J J (Ao 1 1 J J J (by kernel_rfl) J) (AB J J (A4 J J J (by kernel_rfl) J) (AB J J (Ax 42 4 J J J (by kernel_rfl)) ?_))))
   refine Bh J J (AR J J J) (fun b82 h82 => ?_)
   refine AB J J (AJ J J J) (Az (AD J J J) (Az (A1 J J) (A2 ?_)))
   cases b82
   rotate_left
   · try simp only [tdy] at h82
     have hfull : ((0 < (BO (AA (AF s).1 (s.size : Int) st1)) ∧ (ds.length : Int) = 16) ∨ (Bo (AA (AF s).1 (s.size : Int) st1) = true ∧ (rs.length : Int) = 24)) := .inr ⟨hst, h82⟩
     refine A5 J (AG (Az (A0 J J) (Az (Aj J J J (BZ (AF s).1 (s.size : Int) st1 hm hi1 7) J J J J) (A2 ?_))))
     refine ⟨⟨⟨Bg (AF s).1 (s.size : Int) 7 st1, ds, rs⟩, ⟨⟨Cm hi1, hl.1, hl.2⟩, (DP h36 hlt hl hfull).trans hinv2⟩⟩, rn [], ?_, Ea h36 (Bq (by decide))⟩
     exact Ag (by repeat first | exact trivial | refine Ah J (by first | exact VLe.rf | exact A7 (by dsimp only; omega)) ?_) (by repeat first | exact trivial | refine Ai J (by first | exact BLe.rf | exact BLe.box AllC.rf | exact BLe.arr (by exact J)) ?_) J J
   try simp only [tdy] at h82
   refine Bc J (A8 ?_)
   have hnf : ¬ ((0 < (BO (AA (AF s).1 (s.size : Int) st1)) ∧ (ds.length : Int) = 16) ∨ (Bo (AA (AF s).1 (s.size : Int) st1) = true ∧ (rs.length : Int) = 24)) := by rintro (⟨q1, q2⟩ | ⟨q1, q2⟩) <;> first | omega | (rw [hst] at q1; exact absurd q1 (by decide))
   refine AG (Az (A0 J J) ?_)
   refine Bd (CC J J J) (fun b89 h89 => ?_)
   refine Az (A1 J J) (A2 ?_)
   cases b89
   · exfalso; (try simp only [tdy] at h89); omega
   try simp only [tdy] at h89
   refine A5 J (Aa (Az (A0 J J) (Az (A0 J J) (Az (Aj J J J (pDeclI_c (AF s).1 (s.size : Int) st1 hm hlt (BO (AA (AF s).1 (s.size : Int) st1))) J J J J) (Az (Aw (.agg #[.int .i64 0, .string ⟨#[]⟩, .int .i64 0]) 109 J (by kernel_rfl) J J J J) (Az (Ap 3 J J J J (by kernel_rfl) J J J) (A2 (AG (Az (Ao 0 0 J J J (by kernel_rfl) J) (Az (A4 J J J (by kernel_rfl) J) (Az (Au 3 J J J (by kernel_rfl) J J) (Az (Aq CN 51 [.tmp 95] ([(CT (AF s).1 (s.size : Int) (BO (AA (AF s).1 (s.size : Int) st1)) st1).1]) 110 J J J J J J J J FitL.rf J J J J J J (by kernel_rfl)) ?_))))))))))))
   refine Az (B9 111 J J J J J J J J (by kernel_rfl) (by simp only [List.length_append, List.length_cons, List.length_nil]; omega)) ?_
   refine Az (Ao 0 0 J J J (by kernel_rfl) J) (Az (Ap 1 J J J J (by kernel_rfl) J J J) (A2 ?_))
   refine ⟨⟨⟨(CT (AF s).1 (s.size : Int) (BO (AA (AF s).1 (s.size : Int) st1)) st1).2, ds ++ [(CT (AF s).1 (s.size : Int) (BO (AA (AF s).1 (s.size : Int) st1)) st1).1], rs⟩, ⟨⟨declI_le hlt, (by have := (Ev h36 hlt hl hnf h69).2; simp only [List.length_append, List.length_cons, List.length_nil]; omega), hl.2⟩, (Ev h36 hlt hl hnf h69).1.trans hinv2⟩⟩, rn [(105, 111)], ?_, Il h36 h43⟩
   exact Ag (by repeat first | exact trivial | refine Ah J (by first | exact VLe.rf | exact A7 (by dsimp only; omega)) ?_) (by repeat first | exact trivial | refine Ai J (by first | exact BLe.rf | exact BLe.box AllC.rf | exact BLe.arr (by exact J)) ?_) J J
 try simp only [tdy] at h59
 refine AB J J (A0 J J) ?_
 refine FF J J (Aj J J J (Dg (AF s).1 (s.size : Int) st1 hm hi1 ⟨#[45]⟩) J J J J) (fun b63 h63 => ?_)
 refine Az (AD J J J) (Az (A1 J J) (A2 (AZ (Aa (Az (A0 J J) ?_)))))
 refine Bd (CC J J J) (fun b69 h69 => ?_)
 refine Az (A0 J J) ?_
 cases b69
 · try simp only [tdy] at h69
   refine A3 J J J J (A3 J J J J (A3 J J J J (A3 J J J J (Az (AD J J J) (Az (A0 J J) (AB J J (A0 J J) (AB J J (A0 J J) ?_)))))))
   cases b63
   · try simp only [tdy] at h63
     have hst : Bo (AA (AF s).1 (s.size : Int) st1) = false := by simp [Bo, *]
     refine A3 J J J J (A3 J J J J (A3 J J J J (A3 J J J J (AB J J (AD J J J) (Az (AD J J J) (Az (A1 J J) (A2 (Bc J (A8 ?_)))))))))
     have hnf : ¬ ((0 < (BO (AA (AF s).1 (s.size : Int) st1)) ∧ (ds.length : Int) = 16) ∨ (Bo (AA (AF s).1 (s.size : Int) st1) = true ∧ (rs.length : Int) = 24)) := by rintro (⟨q1, q2⟩ | ⟨q1, q2⟩) <;> first | omega | (rw [hst] at q1; exact absurd q1 (by decide))
     refine AG (Az (A0 J J) ?_)
     refine Bd (CC J J J) (fun b89 h89 => ?_)
     refine Az (A1 J J) (A2 ?_)
     cases b89
     rotate_left
     · exfalso; (try simp only [tdy] at h89); omega
     try simp only [tdy] at h89
     refine Bc J (Aa (Az (A0 J J) (Az (A1 J J) (A2 (Bc J (AG (Az (A0 J J) (Az (Aj J J J (BZ (AF s).1 (s.size : Int) st1 hm hi1 6) J J J J) (A2 ?_)))))))))
     refine ⟨⟨⟨Bg (AF s).1 (s.size : Int) 6 st1, ds, rs⟩, ⟨⟨Cm hi1, hl.1, hl.2⟩, (progT_none h36 hlt hl (by omega) hst).trans hinv2⟩⟩, rn [], ?_, Ea h36 (Bq (by decide))⟩
     exact Ag (by repeat first | exact trivial | refine Ah J (by first | exact VLe.rf | exact A7 (by dsimp only; omega)) ?_) (by repeat first | exact trivial | refine Ai J (by first | exact BLe.rf | exact BLe.box AllC.rf | exact BLe.arr (by exact J)) ?_) J J
   try simp only [tdy] at h63
   have hst : Bo (AA (AF s).1 (s.size : Int) st1) = true := by simp [Bo, *]
   refine AB J J (Ao 1 1 J J J (by kernel_rfl) J) (AB J J (A4 J J J (by kernel_rfl) J) (AB J J (Ax 42 4 J J J (by kernel_rfl)) ?_))
   refine Bh J J (AR J J J) (fun b82 h82 => ?_)
   refine AB J J (AJ J J J) (Az (AD J J J) (Az (A1 J J) (A2 ?_)))
   cases b82
   rotate_left
   · try simp only [tdy] at h82
     have hfull : ((0 < (BO (AA (AF s).1 (s.size : Int) st1)) ∧ (ds.length : Int) = 16) ∨ (Bo (AA (AF s).1 (s.size : Int) st1) = true ∧ (rs.length : Int) = 24)) := .inr ⟨hst, h82⟩
     refine A5 J (AG (Az (A0 J J) (Az (Aj J J J (BZ (AF s).1 (s.size : Int) st1 hm hi1 7) J J J J) (A2 ?_))))
     refine ⟨⟨⟨Bg (AF s).1 (s.size : Int) 7 st1, ds, rs⟩, ⟨⟨Cm hi1, hl.1, hl.2⟩, (DP h36 hlt hl hfull).trans hinv2⟩⟩, rn [], ?_, Ea h36 (Bq (by decide))⟩
     exact Ag (by repeat first | exact trivial | refine Ah J (by first | exact VLe.rf | exact A7 (by dsimp only; omega)) ?_) (by repeat first | exact trivial | refine Ai J (by first | exact BLe.rf | exact BLe.box AllC.rf | exact BLe.arr (by exact J)) ?_) J J
   try simp only [tdy] at h82
   refine Bc J (A8 ?_)
   have hnf : ¬ ((0 < (BO (AA (AF s).1 (s.size : Int) st1)) ∧ (ds.length : Int) = 16) ∨ (Bo (AA (AF s).1 (s.size : Int) st1) = true ∧ (rs.length : Int) = 24)) := by rintro (⟨q1, q2⟩ | ⟨q1, q2⟩) <;> first | omega | (rw [hst] at q1; exact absurd q1 (by decide))
   refine AG (Az (A0 J J) ?_)
   refine Bd (CC J J J) (fun b89 h89 => ?_)
   refine Az (A1 J J) (A2 ?_)
   cases b89
   rotate_left
   · exfalso; (try simp only [tdy] at h89); omega
   try simp only [tdy] at h89
   refine Bc J (Aa (Az (A0 J J) (Az (A1 J J) (A2 (A5 J (Aa (Az (A0 J J) (Az (Av [] [(200, some _)] [(200, some _), (112, some _), (113, some _)] J J J (pRuleI_c (AF s).1 (s.size : Int) st1 hm hi1 112 113 J J J J) J AllV.rf (BE J) J J J ⟨J, O⟩ J) (Az (Aw (.agg #[.int .i64 0, .string ⟨#[]⟩, .slice none 0 0, .slice none 0 0]) 114 J (by kernel_rfl) J J J J) (Az (Ap 4 J J J J (by kernel_rfl) J J J) (A2 (AG (Az (Ao 1 1 J J J (by kernel_rfl) J) (Az (A4 J J J (by kernel_rfl) J) (Az (Au 4 J J J (by kernel_rfl) J J) (Az (Aq ruleE 42 [.tmp 105] ([(C6 (AF s).1 (s.size : Int) st1).1]) 115 J J J J J J J J FitL.rf J J J J J J (by kernel_rfl)) ?_))))))))))))))))
   refine Az (B9 116 J J J J J J J J (by kernel_rfl) (by simp only [List.length_append, List.length_cons, List.length_nil]; omega)) ?_
   refine Az (Ao 1 1 J J J (by kernel_rfl) J) (Az (Ap 1 J J J J (by kernel_rfl) J J J) (A2 ?_))
   refine ⟨⟨⟨(C6 (AF s).1 (s.size : Int) st1).2, ds, rs ++ [(C6 (AF s).1 (s.size : Int) st1).1]⟩, ⟨⟨ruleI_le hi1, hl.1, (by have := (F3 h36 hlt hl hnf (by omega) hst).2; simp only [List.length_append, List.length_cons, List.length_nil]; omega)⟩, (F3 h36 hlt hl hnf (by omega) hst).1.trans hinv2⟩⟩, rn [(106, 116)], ?_, F6 h36 h43⟩
   exact Ag (by repeat first | exact trivial | refine Ah J (by first | exact VLe.rf | exact A7 (by dsimp only; omega)) ?_) (by repeat first | exact trivial | refine Ai J (by first | exact BLe.rf | exact BLe.box AllC.rf | exact BLe.arr (by exact J)) ?_) J J
 try simp only [tdy] at h69
 refine AB J J (Ao 0 0 J J J (by kernel_rfl) J) (AB J J (A4 J J J (by kernel_rfl) J) (AB J J (Ax 51 3 J J J (by kernel_rfl)) ?_))
 refine Bh J J (AR J J J) (fun b74 h74 => ?_)
 refine Az (AJ J J J) (Az (A0 J J) ?_)
 cases b74
 rotate_left
 · try simp only [tdy] at h74
   have hfull : ((0 < (BO (AA (AF s).1 (s.size : Int) st1)) ∧ (ds.length : Int) = 16) ∨ (Bo (AA (AF s).1 (s.size : Int) st1) = true ∧ (rs.length : Int) = 24)) := .inl ⟨h69, h74⟩
   refine A3 J J J J (A3 J J J J (Dc J J J (Dc J J J (Dc J J J (Dc J J J (A3 J J J J (Az (AJ J J J) (Az (A1 J J) (A2 (A5 J (AG (Az (A0 J J) (Az (Aj J J J (BZ (AF s).1 (s.size : Int) st1 hm hi1 7) J J J J) (A2 ?_))))))))))))))
   refine ⟨⟨⟨Bg (AF s).1 (s.size : Int) 7 st1, ds, rs⟩, ⟨⟨Cm hi1, hl.1, hl.2⟩, (DP h36 hlt hl hfull).trans hinv2⟩⟩, rn [], ?_, Ea h36 (Bq (by decide))⟩
   exact Ag (by repeat first | exact trivial | refine Ah J (by first | exact VLe.rf | exact A7 (by dsimp only; omega)) ?_) (by repeat first | exact trivial | refine Ai J (by first | exact BLe.rf | exact BLe.box AllC.rf | exact BLe.arr (by exact J)) ?_) J J
 try simp only [tdy] at h74
 refine AB J J (A0 J J) (AB J J (A0 J J) ?_)
 cases b63
 · try simp only [tdy] at h63
   have hst : Bo (AA (AF s).1 (s.size : Int) st1) = false := by simp [Bo, *]
   refine A3 J J J J (A3 J J J J (A3 J J J J (A3 J J J J (AB J J (AD J J J) (Az (AD J J J) (Az (A1 J J) (A2 (Bc J (A8 ?_)))))))))
   have hnf : ¬ ((0 < (BO (AA (AF s).1 (s.size : Int) st1)) ∧ (ds.length : Int) = 16) ∨ (Bo (AA (AF s).1 (s.size : Int) st1) = true ∧ (rs.length : Int) = 24)) := by rintro (⟨q1, q2⟩ | ⟨q1, q2⟩) <;> first | omega | (rw [hst] at q1; exact absurd q1 (by decide))
   refine AG (Az (A0 J J) ?_)
   refine Bd (CC J J J) (fun b89 h89 => ?_)
   refine Az (A1 J J) (A2 ?_)
   cases b89
   · exfalso; (try simp only [tdy] at h89); omega
   try simp only [tdy] at h89
   refine A5 J (Aa (Az (A0 J J) (Az (A0 J J) (Az (Aj J J J (pDeclI_c (AF s).1 (s.size : Int) st1 hm hlt (BO (AA (AF s).1 (s.size : Int) st1))) J J J J) (Az (Aw (.agg #[.int .i64 0, .string ⟨#[]⟩, .int .i64 0]) 109 J (by kernel_rfl) J J J J) (Az (Ap 3 J J J J (by kernel_rfl) J J J) (A2 (AG (Az (Ao 0 0 J J J (by kernel_rfl) J) (Az (A4 J J J (by kernel_rfl) J) (Az (Au 3 J J J (by kernel_rfl) J J) (Az (Aq CN 51 [.tmp 95] ([(CT (AF s).1 (s.size : Int) (BO (AA (AF s).1 (s.size : Int) st1)) st1).1]) 110 J J J J J J J J FitL.rf J J J J J J (by kernel_rfl)) ?_))))))))))))
   refine Az (B9 111 J J J J J J J J (by kernel_rfl) (by simp only [List.length_append, List.length_cons, List.length_nil]; omega)) ?_
   refine Az (Ao 0 0 J J J (by kernel_rfl) J) (Az (Ap 1 J J J J (by kernel_rfl) J J J) (A2 ?_))
   refine ⟨⟨⟨(CT (AF s).1 (s.size : Int) (BO (AA (AF s).1 (s.size : Int) st1)) st1).2, ds ++ [(CT (AF s).1 (s.size : Int) (BO (AA (AF s).1 (s.size : Int) st1)) st1).1], rs⟩, ⟨⟨declI_le hlt, (by have := (Ev h36 hlt hl hnf h69).2; simp only [List.length_append, List.length_cons, List.length_nil]; omega), hl.2⟩, (Ev h36 hlt hl hnf h69).1.trans hinv2⟩⟩, rn [(105, 111)], ?_, Il h36 h43⟩
   exact Ag (by repeat first | exact trivial | refine Ah J (by first | exact VLe.rf | exact A7 (by dsimp only; omega)) ?_) (by repeat first | exact trivial | refine Ai J (by first | exact BLe.rf | exact BLe.box AllC.rf | exact BLe.arr (by exact J)) ?_) J J
 try simp only [tdy] at h63
 have hst : Bo (AA (AF s).1 (s.size : Int) st1) = true := by simp [Bo, *]
 refine AB J J (Ao 1 1 J J J (by kernel_rfl) J) (AB J J (A4 J J J (by kernel_rfl) J) (AB J J (Ax 42 4 J J J (by kernel_rfl)) ?_))
 refine Bh J J (AR J J J) (fun b82 h82 => ?_)
 refine AB J J (AJ J J J) (Az (AD J J J) (Az (A1 J J) (A2 ?_)))
 cases b82
 rotate_left
 · try simp only [tdy] at h82
   have hfull : ((0 < (BO (AA (AF s).1 (s.size : Int) st1)) ∧ (ds.length : Int) = 16) ∨ (Bo (AA (AF s).1 (s.size : Int) st1) = true ∧ (rs.length : Int) = 24)) := .inr ⟨hst, h82⟩
   refine A5 J (AG (Az (A0 J J) (Az (Aj J J J (BZ (AF s).1 (s.size : Int) st1 hm hi1 7) J J J J) (A2 ?_))))
   refine ⟨⟨⟨Bg (AF s).1 (s.size : Int) 7 st1, ds, rs⟩, ⟨⟨Cm hi1, hl.1, hl.2⟩, (DP h36 hlt hl hfull).trans hinv2⟩⟩, rn [], ?_, Ea h36 (Bq (by decide))⟩
   exact Ag (by repeat first | exact trivial | refine Ah J (by first | exact VLe.rf | exact A7 (by dsimp only; omega)) ?_) (by repeat first | exact trivial | refine Ai J (by first | exact BLe.rf | exact BLe.box AllC.rf | exact BLe.arr (by exact J)) ?_) J J
 try simp only [tdy] at h82
 refine Bc J (A8 ?_)
 have hnf : ¬ ((0 < (BO (AA (AF s).1 (s.size : Int) st1)) ∧ (ds.length : Int) = 16) ∨ (Bo (AA (AF s).1 (s.size : Int) st1) = true ∧ (rs.length : Int) = 24)) := by rintro (⟨q1, q2⟩ | ⟨q1, q2⟩) <;> first | omega | (rw [hst] at q1; exact absurd q1 (by decide))
 refine AG (Az (A0 J J) ?_)
 refine Bd (CC J J J) (fun b89 h89 => ?_)
 refine Az (A1 J J) (A2 ?_)
 cases b89
 · exfalso; (try simp only [tdy] at h89); omega
 try simp only [tdy] at h89
 refine A5 J (Aa (Az (A0 J J) (Az (A0 J J) (Az (Aj J J J (pDeclI_c (AF s).1 (s.size : Int) st1 hm hlt (BO (AA (AF s).1 (s.size : Int) st1))) J J J J) (Az (Aw (.agg #[.int .i64 0, .string ⟨#[]⟩, .int .i64 0]) 109 J (by kernel_rfl) J J J J) (Az (Ap 3 J J J J (by kernel_rfl) J J J) (A2 (AG (Az (Ao 0 0 J J J (by kernel_rfl) J) (Az (A4 J J J (by kernel_rfl) J) (Az (Au 3 J J J (by kernel_rfl) J J) (Az (Aq CN 51 [.tmp 95] ([(CT (AF s).1 (s.size : Int) (BO (AA (AF s).1 (s.size : Int) st1)) st1).1]) 110 J J J J J J J J FitL.rf J J J J J J (by kernel_rfl)) ?_))))))))))))
 refine Az (B9 111 J J J J J J J J (by kernel_rfl) (by simp only [List.length_append, List.length_cons, List.length_nil]; omega)) ?_
 refine Az (Ao 0 0 J J J (by kernel_rfl) J) (Az (Ap 1 J J J J (by kernel_rfl) J J J) (A2 ?_))
 refine ⟨⟨⟨(CT (AF s).1 (s.size : Int) (BO (AA (AF s).1 (s.size : Int) st1)) st1).2, ds ++ [(CT (AF s).1 (s.size : Int) (BO (AA (AF s).1 (s.size : Int) st1)) st1).1], rs⟩, ⟨⟨declI_le hlt, (by have := (Ev h36 hlt hl hnf h69).2; simp only [List.length_append, List.length_cons, List.length_nil]; omega), hl.2⟩, (Ev h36 hlt hl hnf h69).1.trans hinv2⟩⟩, rn [(105, 111)], ?_, Il h36 h43⟩
 exact Ag (by repeat first | exact trivial | refine Ah J (by first | exact VLe.rf | exact A7 (by dsimp only; omega)) ?_) (by repeat first | exact trivial | refine Ai J (by first | exact BLe.rf | exact BLe.box AllC.rf | exact BLe.arr (by exact J)) ?_) J J
end Go.Proofs.YtkemjhlbokldhaaGreat

namespace Go.Proofs.YtkemjhlbokldhaaGreat
open Go.RowKit
set_option linter.unusedVariables false
set_option linter.unusedSimpArgs false
set_option maxRecDepth 100000

set_option maxHeartbeats 4000000 in
theorem IV (t : Termt) : AC Tryz.prog 64 [.agg (Fi t)] [] (.one (.c (.string (BF t)))) [] := by
 refine Bn Tryz.func64 J J Tryz.ntmps64 J Tryz.results64 ?_
 refine Aa (Az (Dr 100 J J J J J J J) (Az (A1 J J) (A2 (A8 (Aa (Az (Ao 0 0 J J J (by kernel_rfl) J) (Az (A4 J J J (by kernel_rfl) J) ?_)))))))
 refine Bd (x_sneq J J J) (fun b5 h5 => ?_)
 refine A2 ?_
 cases b5
 rotate_left
 · try simp only [tdy] at h5
   refine A5 J (Aa (Az (Ao 0 0 J J J (by kernel_rfl) J) (Az (A4 J J J (by kernel_rfl) J) (Az (A1 J J) (Ae ?_)))))
   exact ⟨rn [], ⟨⟨⟨_, J, Bu (by simp [BF, *])⟩, O⟩, O, O, J⟩⟩
 try simp only [tdy] at h5
 refine Ab J (Aa (Az (Ao 1 1 J J J (by kernel_rfl) J) (Az (Au 2 J J J (by kernel_rfl) J J) (Az (AS J J J (valueTextI_c _) J J) (Az (A1 J J) (Ae ?_))))))
 exact ⟨rn [], ⟨⟨⟨_, J, Bu (by simp [BF, *])⟩, O⟩, O, O, J⟩⟩

set_option maxHeartbeats 4000000 in
theorem GJ (t : Termt) : AC Tryz.prog 72 [.agg (Fi t)] [] (.one (.c (.string (BF t)))) [] := by
 refine Bn Tryz.func72 J J Tryz.ntmps72 J Tryz.results72 ?_
 refine Aa (Az (Dr 100 J J J J J J J) (Az (A1 J J) (A2 (A8 (Aa (Az (Ao 0 0 J J J (by kernel_rfl) J) (Az (A4 J J J (by kernel_rfl) J) ?_)))))))
 refine Bd (x_sneq J J J) (fun b5 h5 => ?_)
 refine A2 ?_
 cases b5
 rotate_left
 · try simp only [tdy] at h5
   refine A5 J (Aa (Az (Ao 0 0 J J J (by kernel_rfl) J) (Az (A4 J J J (by kernel_rfl) J) (Az (A1 J J) (Ae ?_)))))
   exact ⟨rn [], ⟨⟨⟨_, J, Bu (by simp [BF, *])⟩, O⟩, O, O, J⟩⟩
 try simp only [tdy] at h5
 refine Ab J (Aa (Az (Ao 1 1 J J J (by kernel_rfl) J) (Az (Au 2 J J J (by kernel_rfl) J J) (Az (AS J J J (valueTextS_c _) J J) (Az (A1 J J) (Ae ?_))))))
 exact ⟨rn [], ⟨⟨⟨_, J, Bu (by simp [BF, *])⟩, O⟩, O, O, J⟩⟩

set_option maxHeartbeats 4000000 in
theorem Ib (a : Atomt) : AC Tryz.prog 35 [.agg (atomC a)] [] (.one (.c (.string (Da a)))) [] := by
 refine Bn Tryz.func35 J J Tryz.ntmps35 J Tryz.results35 ?_
 refine Cz 0 1 J J (fun hm0_1 => ?_)
 refine Aa (Az (Dr 100 J J J J J J J) (Az (A1 J J) (A2 (A8 (Aa (Az (Au 2 J J J (by kernel_rfl) J J) ?_))))))
 refine Bd (AS J J J (atomI_c a) J J) (fun b7 h7 => ?_)
 refine Az (Cn J J) (A2 ?_)
 cases b7
 · try simp only [tdy] at h7
   refine A5 J (Aa (Az (A1 J J) (Ae ?_)))
   exact ⟨rn [], ⟨⟨⟨_, J, Bu (by first | exact (Hd h7).symm | (rw [FT hat, IE (by omega)]; try rfl))⟩, O⟩, O, O, J⟩⟩
 try simp only [tdy] at h7
 have hat := h7
 refine Ab J (Aa (Az (Hh (E := 9) (e := DM) 101 J J J (by kernel_rfl)) (Az (A1 J J) (A2 (A8 (Aa (Az (Ao 1 1 J J J (by kernel_rfl) J) (Az (A4 J J J (by kernel_rfl) J) (Az (Ak 46 3 J J (by kernel_rfl)) (Az (A0 J J) (A2 (AZ ?_))))))))))))
 refine B8 (ι := {q : Nat // q ≤ a.args.length}) (fun p => [(3, .one (.own 101)), (13, .one (.c (.int .i64 ((p.1) : Int))))]) (fun p => [(101, some (.arr 9 DM (EX BF a.args (p.1)) true))]) [1, 11, 12] [100] (fun p => a.args.length - (p.1)) ⟨0, by omega⟩ (rn []) ?_ ?_
 exact Ag (by repeat first | exact trivial | refine Ah J (by first | exact VLe.rf | exact A7 (by dsimp only; omega)) ?_) (by repeat first | exact trivial | refine Ai J (by first | exact BLe.rf | exact BLe.box AllC.rf | exact BLe.arr (by first | exact H9 | exact HC (by omega))) ?_) J J
 rintro ⟨k, hinv⟩
 dsimp only
 have hk := hinv
 refine Aa ?_
 refine Bd (BI J J J) (fun b14 h14 => ?_)
 refine A2 (A8 ?_)
 cases b14
 · try simp only [tdy] at h14
   refine Bc J ?_
   refine Br (B2 ?_)
   refine A8 (Bw J (Az (Ao 0 0 J J J (by kernel_rfl) J) (Az (A4 J J J (by kernel_rfl) J) ?_)))
   refine Az (BM J J J (by have := C8 hat; have : (⟨#[40]⟩ : ByteArray).size = 1 := rfl; have : (⟨#[41]⟩ : ByteArray).size = 1 := rfl; have : (⟨#[44, 32]⟩ : ByteArray).size = 2 := rfl; have : (⟨#[32]⟩ : ByteArray).size = 1 := rfl; have : (⟨#[46]⟩ : ByteArray).size = 1 := rfl; have : (⟨#[110, 111, 116, 32]⟩ : ByteArray).size = 4 := rfl; have : (⟨#[32, 58, 45, 32]⟩ : ByteArray).size = 4 := rfl; omega)) ?_
   refine Az (A0 J J) ?_
   refine Az (HP J J J (join_c (EX BF a.args k) comma (by have := ID (f := BF) (xs := a.args) (k := k); have := C8 hat; omega) (by have := G3 hat k; unfold EB at this; unfold EX; omega)) J AllV.rf J J J J J) ?_
   refine Az (BM J J J (by have := C8 hat; have : (D2 (EX BF a.args k) comma).size ≤ 102 := G3 hat k; (try simp only [Bf]); have : (⟨#[40]⟩ : ByteArray).size = 1 := rfl; have : (⟨#[41]⟩ : ByteArray).size = 1 := rfl; have : (⟨#[44, 32]⟩ : ByteArray).size = 2 := rfl; have : (⟨#[32]⟩ : ByteArray).size = 1 := rfl; have : (⟨#[46]⟩ : ByteArray).size = 1 := rfl; have : (⟨#[110, 111, 116, 32]⟩ : ByteArray).size = 4 := rfl; have : (⟨#[32, 58, 45, 32]⟩ : ByteArray).size = 4 := rfl; omega)) ?_
   refine Az (BM J J J (by have := C8 hat; have : (D2 (EX BF a.args k) comma).size ≤ 102 := G3 hat k; (try simp only [Bf]); have : (⟨#[40]⟩ : ByteArray).size = 1 := rfl; have : (⟨#[41]⟩ : ByteArray).size = 1 := rfl; have : (⟨#[44, 32]⟩ : ByteArray).size = 2 := rfl; have : (⟨#[32]⟩ : ByteArray).size = 1 := rfl; have : (⟨#[46]⟩ : ByteArray).size = 1 := rfl; have : (⟨#[110, 111, 116, 32]⟩ : ByteArray).size = 4 := rfl; have : (⟨#[32, 58, 45, 32]⟩ : ByteArray).size = 4 := rfl; omega)) ?_
   refine Az (A1 J J) (Bj (by kernel_rfl) ?_)
   refine AU ?_
   exact ⟨rn [], ⟨⟨⟨_, J, Bu (by first | exact (Hd h7).symm | (rw [FT hat, IE (by omega)]; try rfl))⟩, O⟩, O, O, J⟩⟩
 try simp only [tdy] at h14
 refine A5 J (AP (A8 (AZ (Aa ?_))))
 refine Az (Am 46 3 k J J J (by kernel_rfl) J (by omega) (by omega)) ?_
 refine Az (Co (n := 3) J J (by kernel_rfl) J) (Az (Aw (.agg #[.string ⟨#[]⟩, .int .i64 0, .string ⟨#[]⟩]) 102 J (by kernel_rfl) J J J J) (Az (Ap 3 J J J J (by kernel_rfl) J J J) (A2 (AG (Az (A0 J J) (Az (Au 3 J J J (by kernel_rfl) J J) ?_))))))
 refine Az (AS J J J (IV (a.args[k]'(by omega))) J J) ?_
 refine Az (Aq DM 9 [.tmp 19] ([BF (a.args[k]'(by omega))]) 103 J J J J J J J J FitL.rf J J J J J J (by kernel_rfl)) ?_
 refine Az (B9 104 J J J J J J J J (by kernel_rfl) (by have := ID (f := BF) (xs := a.args) (k := k); have := C8 hat; simp only [List.length_cons, List.length_nil]; omega)) ?_
 refine Az (A1 J J) (A2 (AG ?_))
 refine Az (Bl J J J (IntWalk.i64_in _ (by omega))) ?_
 refine Az (A0 J J) (A2 ?_)
 refine ⟨⟨k + 1, by omega⟩, rn [(101, 104)], ?_, by dsimp only; omega⟩
 exact Ag (by repeat first | exact trivial | refine Ah J (by first | exact VLe.rf | exact A7 (by dsimp only; omega)) ?_) (by repeat first | exact trivial | refine Ai J (by first | exact BLe.rf | exact BLe.box AllC.rf | exact BLe.arr (by first | exact H9 | exact HC (by omega))) ?_) J J

set_option maxHeartbeats 4000000 in
theorem Ia (a : Atomt) : AC Tryz.prog 41 [.agg (atomC a)] [] (.one (.c (.string (Da a)))) [] := by
 refine Bn Tryz.func41 J J Tryz.ntmps41 J Tryz.results41 ?_
 refine Cz 0 1 J J (fun hm0_1 => ?_)
 refine Aa (Az (Dr 100 J J J J J J J) (Az (A1 J J) (A2 (A8 (Aa (Az (Au 2 J J J (by kernel_rfl) J J) ?_))))))
 refine Bd (AS J J J (atomS_c a) J J) (fun b7 h7 => ?_)
 refine Az (Cn J J) (A2 ?_)
 cases b7
 · try simp only [tdy] at h7
   refine A5 J (Aa (Az (A1 J J) (Ae ?_)))
   exact ⟨rn [], ⟨⟨⟨_, J, Bu (by first | exact (Hd h7).symm | (rw [FT hat, ← Gy (k := k) (by omega)]))⟩, O⟩, O, O, J⟩⟩
 try simp only [tdy] at h7
 have hat := h7
 refine Ab J (Aa (Az (Ao 0 0 J J J (by kernel_rfl) J) (Az (A4 J J J (by kernel_rfl) J) ?_)))
 refine Az (BM J J J (by have := C8 hat; have : (⟨#[40]⟩ : ByteArray).size = 1 := rfl; have : (⟨#[41]⟩ : ByteArray).size = 1 := rfl; have : (⟨#[44, 32]⟩ : ByteArray).size = 2 := rfl; have : (⟨#[32]⟩ : ByteArray).size = 1 := rfl; have : (⟨#[46]⟩ : ByteArray).size = 1 := rfl; have : (⟨#[110, 111, 116, 32]⟩ : ByteArray).size = 4 := rfl; have : (⟨#[32, 58, 45, 32]⟩ : ByteArray).size = 4 := rfl; omega)) ?_
 refine Az (A1 J J) (A2 (A8 (Aa (Az (Ao 1 1 J J J (by kernel_rfl) J) (Az (A4 J J J (by kernel_rfl) J) (Az (Ak 46 3 J J (by kernel_rfl)) (Az (A0 J J) (A2 (AZ ?_)))))))))
 refine B8 (ι := {q : Nat // q ≤ a.args.length}) (fun p => [(3, .one (.c (.string (a.name ++ ⟨#[40]⟩ ++ EB BF a.args (p.1))))), (15, .one (.c (.int .i64 ((p.1) : Int))))]) (fun p => []) [13, 14] [100] (fun p => a.args.length - (p.1)) ⟨0, by omega⟩ (rn []) ?_ ?_
 exact Ag (by repeat first | exact trivial | refine Ah J (by first | exact VLe.rf | exact A7 (by dsimp only; omega) | exact Bu (by first | (rw [GT, CI]; done) | (rw [hj]; simp only [ByteArray.append_assoc, comma]; done) | (rw [hj, hz]; simp only [CI]; done))) ?_) (by repeat first | exact trivial | refine Ai J (by first | exact BLe.rf | exact BLe.box AllC.rf | exact BLe.arr (by exact J)) ?_) J J
 rintro ⟨k, hinv⟩
 dsimp only
 have hk := hinv
 refine Aa ?_
 refine Bd (BI J J J) (fun b16 h16 => ?_)
 refine A2 (A8 ?_)
 cases b16
 · try simp only [tdy] at h16
   refine Bc J ?_
   refine Br (B2 ?_)
   refine Aa (Az (A0 J J) ?_)
   refine Az (BM J J J (by have := C8 hat; have := G3 hat k; have := G0; (try simp only [Bf]); have : (⟨#[40]⟩ : ByteArray).size = 1 := rfl; have : (⟨#[41]⟩ : ByteArray).size = 1 := rfl; have : (⟨#[44, 32]⟩ : ByteArray).size = 2 := rfl; have : (⟨#[32]⟩ : ByteArray).size = 1 := rfl; have : (⟨#[46]⟩ : ByteArray).size = 1 := rfl; have : (⟨#[110, 111, 116, 32]⟩ : ByteArray).size = 4 := rfl; have : (⟨#[32, 58, 45, 32]⟩ : ByteArray).size = 4 := rfl; omega)) ?_
   refine Az (A1 J J) (Ae ?_)
   exact ⟨rn [], ⟨⟨⟨_, J, Bu (by first | exact (Hd h7).symm | (rw [FT hat, ← Gy (k := k) (by omega)]))⟩, O⟩, O, O, J⟩⟩
 try simp only [tdy] at h16
 refine A5 J (AP (A8 (AZ (Aa (Az (A0 J J) ?_)))))
 refine Az (Am 46 3 k J J J (by kernel_rfl) J (by omega) (by omega)) ?_
 refine Az (Co (n := 3) J J (by kernel_rfl) J) (Az (Aw (.agg #[.string ⟨#[]⟩, .int .i64 0, .string ⟨#[]⟩]) 101 J (by kernel_rfl) J J J J) (Az (A1 J J) (Az (Ap 3 J J J J (by kernel_rfl) J J J) (A2 (A8 (Aa (Az (A0 J J) ?_)))))))
 refine Bd (CC J J J) (fun b21 h21 => ?_)
 refine A2 ?_
 cases b21
 · try simp only [tdy] at h21
   have hj := joinTo_one (f := BF) (xs := a.args) (k := k) (by omega) (by omega)
   have hz : EB BF a.args k = ⟨#[]⟩ := by rw [show k = 0 by omega]; exact GT
   refine Ab J (AG (Az (A0 J J) (Az (Au 3 J J J (by kernel_rfl) J J) ?_)))
   refine Az (AS J J J (GJ (a.args[k]'(by omega))) J J) ?_
   refine Az (BM J J J (by have := C8 hat; have := G3 hat k; have := G0; (try simp only [Bf]); have : (⟨#[40]⟩ : ByteArray).size = 1 := rfl; have : (⟨#[41]⟩ : ByteArray).size = 1 := rfl; have : (⟨#[44, 32]⟩ : ByteArray).size = 2 := rfl; have : (⟨#[32]⟩ : ByteArray).size = 1 := rfl; have : (⟨#[46]⟩ : ByteArray).size = 1 := rfl; have : (⟨#[110, 111, 116, 32]⟩ : ByteArray).size = 4 := rfl; have : (⟨#[32, 58, 45, 32]⟩ : ByteArray).size = 4 := rfl; have := (C8 hat).2.2 (a.args[k]'(by omega)) (List.getElem_mem _); omega)) ?_
   refine Az (A1 J J) (A2 (AG ?_))
   refine Az (Bl J J J (IntWalk.i64_in _ (by omega))) ?_
   refine Az (A0 J J) (A2 ?_)
   refine ⟨⟨k + 1, by omega⟩, rn [], ?_, by dsimp only; omega⟩
   exact Ag (by repeat first | exact trivial | refine Ah J (by first | exact VLe.rf | exact A7 (by dsimp only; omega) | exact Bu (by first | (rw [GT, CI]; done) | (rw [hj]; simp only [ByteArray.append_assoc, comma]; done) | (rw [hj, hz]; simp only [CI]; done))) ?_) (by repeat first | exact trivial | refine Ai J (by first | exact BLe.rf | exact BLe.box AllC.rf | exact BLe.arr (by exact J)) ?_) J J
 try simp only [tdy] at h21
 have hj := joinTo_more (f := BF) (xs := a.args) (k := k) (by omega) (by omega)
 refine A5 J (AG (Az (A0 J J) ?_))
 refine Az (BM J J J (by have := C8 hat; have := G3 hat k; have := G0; (try simp only [Bf]); have : (⟨#[40]⟩ : ByteArray).size = 1 := rfl; have : (⟨#[41]⟩ : ByteArray).size = 1 := rfl; have : (⟨#[44, 32]⟩ : ByteArray).size = 2 := rfl; have : (⟨#[32]⟩ : ByteArray).size = 1 := rfl; have : (⟨#[46]⟩ : ByteArray).size = 1 := rfl; have : (⟨#[110, 111, 116, 32]⟩ : ByteArray).size = 4 := rfl; have : (⟨#[32, 58, 45, 32]⟩ : ByteArray).size = 4 := rfl; omega)) ?_
 refine Az (A1 J J) (A2 (AG (Az (A0 J J) (Az (Au 3 J J J (by kernel_rfl) J J) ?_))))
 refine Az (AS J J J (GJ (a.args[k]'(by omega))) J J) ?_
 refine Az (BM J J J (by have := C8 hat; have := G3 hat k; have := G0; (try simp only [Bf]); have : (⟨#[40]⟩ : ByteArray).size = 1 := rfl; have : (⟨#[41]⟩ : ByteArray).size = 1 := rfl; have : (⟨#[44, 32]⟩ : ByteArray).size = 2 := rfl; have : (⟨#[32]⟩ : ByteArray).size = 1 := rfl; have : (⟨#[46]⟩ : ByteArray).size = 1 := rfl; have : (⟨#[110, 111, 116, 32]⟩ : ByteArray).size = 4 := rfl; have : (⟨#[32, 58, 45, 32]⟩ : ByteArray).size = 4 := rfl; have := (C8 hat).2.2 (a.args[k]'(by omega)) (List.getElem_mem _); omega)) ?_
 refine Az (A1 J J) (A2 (AG ?_))
 refine Az (Bl J J J (IntWalk.i64_in _ (by omega))) ?_
 refine Az (A0 J J) (A2 ?_)
 refine ⟨⟨k + 1, by omega⟩, rn [], ?_, by dsimp only; omega⟩
 exact Ag (by repeat first | exact trivial | refine Ah J (by first | exact VLe.rf | exact A7 (by dsimp only; omega) | exact Bu (by first | (rw [GT, CI]; done) | (rw [hj]; simp only [ByteArray.append_assoc, comma]; done) | (rw [hj, hz]; simp only [CI]; done))) ?_) (by repeat first | exact trivial | refine Ai J (by first | exact BLe.rf | exact BLe.box AllC.rf | exact BLe.arr (by exact J)) ?_) J J

set_option maxHeartbeats 4000000 in
theorem litTextI_c (l : Litt) (hl : Cs l = true) : AC Tryz.prog 36 [.agg (litC l)] [] (.one (.c (.string (C0 l)))) [] := by
 refine Bn Tryz.func36 J J Tryz.ntmps36 J Tryz.results36 ?_
 refine Aa (Az (Dr 100 J J J J J J J) (Az (A1 J J) (A2 (A8 (Aa (Az (Ao 0 0 J J J (by kernel_rfl) J) (Az (A4 J J J (by kernel_rfl) J) (A2 (AZ (Aa ?_))))))))))
 refine Bd (AR J J J) (fun b6 h6 => ?_)
 refine Az (A1 J J) (A2 ?_)
 cases b6
 rotate_left
 · try simp only [tdy] at h6
   refine A5 J (Aa (Az (Ao 1 1 J J J (by kernel_rfl) J) (Az (Au 2 J J J (by kernel_rfl) J J) (Az (AS J J J (Ib l.atom) J J) (Az (A1 J J) (A2 ?_))))))
   refine AU (Bk ?_)
   exact ⟨rn [], ⟨⟨⟨_, J, Bu (by first | exact (F7 h6).symm | exact (EY h11).symm | (rw [EZ h6 h11, ← Fq (op := l.op) (k := l.op.toNat) (Cy (by omega)) rfl]))⟩, O⟩, O, O, J⟩⟩
 try simp only [tdy] at h6
 refine Bc J (Aa ?_)
 refine Bd (AR J J J) (fun b11 h11 => ?_)
 refine Az (A1 J J) (A2 ?_)
 cases b11
 rotate_left
 · try simp only [tdy] at h11
   refine A5 J (Aa (Az (Ao 1 1 J J J (by kernel_rfl) J) (Az (Au 2 J J J (by kernel_rfl) J J) (Az (AS J J J (Ib l.atom) J J) ?_))))
   refine Az (BM J J J (by have := Fd l.atom; have : (⟨#[40]⟩ : ByteArray).size = 1 := rfl; have : (⟨#[41]⟩ : ByteArray).size = 1 := rfl; have : (⟨#[44, 32]⟩ : ByteArray).size = 2 := rfl; have : (⟨#[32]⟩ : ByteArray).size = 1 := rfl; have : (⟨#[46]⟩ : ByteArray).size = 1 := rfl; have : (⟨#[110, 111, 116, 32]⟩ : ByteArray).size = 4 := rfl; have : (⟨#[32, 58, 45, 32]⟩ : ByteArray).size = 4 := rfl; omega)) ?_
   refine Az (A1 J J) (A2 ?_)
   refine AU (Bk ?_)
   exact ⟨rn [], ⟨⟨⟨_, J, Bu (by first | exact (F7 h6).symm | exact (EY h11).symm | (rw [EZ h6 h11, ← Fq (op := l.op) (k := l.op.toNat) (Cy (by omega)) rfl]))⟩, O⟩, O, O, J⟩⟩
 try simp only [tdy] at h11
 have hop := CG hl h6 h11
 refine Ab J (A8 (Bw J (Az (Ao 4 4 J J J (by kernel_rfl) J) (Az (Au 3 J J J (by kernel_rfl) J J) (Az (AS J J J (IV l.a) J J) ?_)))))
 refine Az (BM rfl rfl rfl (by obtain ⟨w1, w2, q1, q2⟩ := CG hl h6 h11; have := BV q1; have := BV q2; have := Ew (k := l.op.toNat) (Cy (by omega)); have : (⟨#[40]⟩ : ByteArray).size = 1 := rfl; have : (⟨#[41]⟩ : ByteArray).size = 1 := rfl; have : (⟨#[44, 32]⟩ : ByteArray).size = 2 := rfl; have : (⟨#[32]⟩ : ByteArray).size = 1 := rfl; have : (⟨#[46]⟩ : ByteArray).size = 1 := rfl; have : (⟨#[110, 111, 116, 32]⟩ : ByteArray).size = 4 := rfl; have : (⟨#[32, 58, 45, 32]⟩ : ByteArray).size = 4 := rfl; (try simp only [Bf]); omega)) ?_
 refine Az (Aq DM 9 [.const (.string ⟨#[]⟩), .const (.string ⟨#[61]⟩), .const (.string ⟨#[33, 61]⟩), .const (.string ⟨#[60]⟩), .const (.string ⟨#[60, 61]⟩)] (opList) 101 J J J J J J J J FitL.rf J J J J J J (by kernel_rfl)) (Az (Ao 3 3 J J J (by kernel_rfl) J) (Az (A4 J J J (by kernel_rfl) J) ?_))
 refine Az (Ar 1 l.op.toNat J J J J (by kernel_rfl) J (by have := CG hl h6 h11; omega) (Cy (by have := CG hl h6 h11; omega))) ?_
 refine Az (Ga J J J (by kernel_rfl) (Cy (by have := CG hl h6 h11; omega)) J) ?_
 refine Az (BM rfl rfl rfl (by obtain ⟨w1, w2, q1, q2⟩ := CG hl h6 h11; have := BV q1; have := BV q2; have := Ew (k := l.op.toNat) (Cy (by omega)); have : (⟨#[40]⟩ : ByteArray).size = 1 := rfl; have : (⟨#[41]⟩ : ByteArray).size = 1 := rfl; have : (⟨#[44, 32]⟩ : ByteArray).size = 2 := rfl; have : (⟨#[32]⟩ : ByteArray).size = 1 := rfl; have : (⟨#[46]⟩ : ByteArray).size = 1 := rfl; have : (⟨#[110, 111, 116, 32]⟩ : ByteArray).size = 4 := rfl; have : (⟨#[32, 58, 45, 32]⟩ : ByteArray).size = 4 := rfl; (try simp only [Bf]); omega)) ?_
 refine Az (BM rfl rfl rfl (by obtain ⟨w1, w2, q1, q2⟩ := CG hl h6 h11; have := BV q1; have := BV q2; have := Ew (k := l.op.toNat) (Cy (by omega)); have : (⟨#[40]⟩ : ByteArray).size = 1 := rfl; have : (⟨#[41]⟩ : ByteArray).size = 1 := rfl; have : (⟨#[44, 32]⟩ : ByteArray).size = 2 := rfl; have : (⟨#[32]⟩ : ByteArray).size = 1 := rfl; have : (⟨#[46]⟩ : ByteArray).size = 1 := rfl; have : (⟨#[110, 111, 116, 32]⟩ : ByteArray).size = 4 := rfl; have : (⟨#[32, 58, 45, 32]⟩ : ByteArray).size = 4 := rfl; (try simp only [Bf]); omega)) ?_
 refine Az (Ao 7 7 J J J (by kernel_rfl) J) (Az (Au 3 J J J (by kernel_rfl) J J) (Az (AS J J J (IV l.b) J J) ?_))
 refine Az (BM rfl rfl rfl (by obtain ⟨w1, w2, q1, q2⟩ := CG hl h6 h11; have := BV q1; have := BV q2; have := Ew (k := l.op.toNat) (Cy (by omega)); have : (⟨#[40]⟩ : ByteArray).size = 1 := rfl; have : (⟨#[41]⟩ : ByteArray).size = 1 := rfl; have : (⟨#[44, 32]⟩ : ByteArray).size = 2 := rfl; have : (⟨#[32]⟩ : ByteArray).size = 1 := rfl; have : (⟨#[46]⟩ : ByteArray).size = 1 := rfl; have : (⟨#[110, 111, 116, 32]⟩ : ByteArray).size = 4 := rfl; have : (⟨#[32, 58, 45, 32]⟩ : ByteArray).size = 4 := rfl; (try simp only [Bf]); omega)) ?_
 refine Az (A1 J J) (Bj (by kernel_rfl) ?_)
 refine AU ?_
 exact ⟨rn [], ⟨⟨⟨_, J, Bu (by first | exact (F7 h6).symm | exact (EY h11).symm | (rw [EZ h6 h11, ← Fq (op := l.op) (k := l.op.toNat) (Cy (by omega)) rfl]))⟩, O⟩, O, O, J⟩⟩

set_option maxHeartbeats 4000000 in
theorem litTextS_c (l : Litt) (hl : Cs l = true) : AC Tryz.prog 42 [.agg (litC l)] [] (.one (.c (.string (C0 l)))) [] := by
 refine Bn Tryz.func42 J J Tryz.ntmps42 J Tryz.results42 ?_
 refine Aa (Az (Dr 100 J J J J J J J) (Az (A1 J J) (A2 (A8 (Aa (Az (Ao 0 0 J J J (by kernel_rfl) J) (Az (A4 J J J (by kernel_rfl) J) ?_)))))))
 refine Bd (AR J J J) (fun b5 h5 => ?_)
 refine A2 ?_
 cases b5
 rotate_left
 · try simp only [tdy] at h5
   refine A5 J (Aa (Az (Ao 1 1 J J J (by kernel_rfl) J) (Az (Au 2 J J J (by kernel_rfl) J J) (Az (AS J J J (Ia l.atom) J J) (Az (A1 J J) (Ae ?_))))))
   exact ⟨rn [], ⟨⟨⟨_, J, Bu (by first | exact (F7 h5).symm | exact (EY h11).symm | (rw [EZ h5 h11, ← Fq (op := l.op) (k := l.op.toNat) (Cy (by omega)) rfl]))⟩, O⟩, O, O, J⟩⟩
 try simp only [tdy] at h5
 refine Ab J (A8 (Aa (Az (Ao 0 0 J J J (by kernel_rfl) J) (Az (A4 J J J (by kernel_rfl) J) ?_))))
 refine Bd (AR J J J) (fun b11 h11 => ?_)
 refine A2 ?_
 cases b11
 rotate_left
 · try simp only [tdy] at h11
   refine A5 J (Aa (Az (Ao 1 1 J J J (by kernel_rfl) J) (Az (Au 2 J J J (by kernel_rfl) J J) (Az (AS J J J (Ia l.atom) J J) ?_))))
   refine Az (BM J J J (by have := Fd l.atom; have : (⟨#[40]⟩ : ByteArray).size = 1 := rfl; have : (⟨#[41]⟩ : ByteArray).size = 1 := rfl; have : (⟨#[44, 32]⟩ : ByteArray).size = 2 := rfl; have : (⟨#[32]⟩ : ByteArray).size = 1 := rfl; have : (⟨#[46]⟩ : ByteArray).size = 1 := rfl; have : (⟨#[110, 111, 116, 32]⟩ : ByteArray).size = 4 := rfl; have : (⟨#[32, 58, 45, 32]⟩ : ByteArray).size = 4 := rfl; omega)) ?_
   refine Az (A1 J J) (Ae ?_)
   exact ⟨rn [], ⟨⟨⟨_, J, Bu (by first | exact (F7 h5).symm | exact (EY h11).symm | (rw [EZ h5 h11, ← Fq (op := l.op) (k := l.op.toNat) (Cy (by omega)) rfl]))⟩, O⟩, O, O, J⟩⟩
 try simp only [tdy] at h11
 have hop := CG hl h5 h11
 refine Ab J (A8 (Bw J (Az (Ao 4 4 J J J (by kernel_rfl) J) (Az (Au 3 J J J (by kernel_rfl) J J) (Az (AS J J J (GJ l.a) J J) ?_)))))
 refine Az (BM rfl rfl rfl (by obtain ⟨w1, w2, q1, q2⟩ := CG hl h5 h11; have := BV q1; have := BV q2; have := Ew (k := l.op.toNat) (Cy (by omega)); have : (⟨#[40]⟩ : ByteArray).size = 1 := rfl; have : (⟨#[41]⟩ : ByteArray).size = 1 := rfl; have : (⟨#[44, 32]⟩ : ByteArray).size = 2 := rfl; have : (⟨#[32]⟩ : ByteArray).size = 1 := rfl; have : (⟨#[46]⟩ : ByteArray).size = 1 := rfl; have : (⟨#[110, 111, 116, 32]⟩ : ByteArray).size = 4 := rfl; have : (⟨#[32, 58, 45, 32]⟩ : ByteArray).size = 4 := rfl; (try simp only [Bf]); omega)) ?_
 refine Az (Aq DM 9 [.const (.string ⟨#[]⟩), .const (.string ⟨#[61]⟩), .const (.string ⟨#[33, 61]⟩), .const (.string ⟨#[60]⟩), .const (.string ⟨#[60, 61]⟩)] (opList) 101 J J J J J J J J FitL.rf J J J J J J (by kernel_rfl)) (Az (Ao 3 3 J J J (by kernel_rfl) J) (Az (A4 J J J (by kernel_rfl) J) ?_))
 refine Az (Ar 1 l.op.toNat J J J J (by kernel_rfl) J (by have := CG hl h5 h11; omega) (Cy (by have := CG hl h5 h11; omega))) ?_
 refine Az (Ga J J J (by kernel_rfl) (Cy (by have := CG hl h5 h11; omega)) J) ?_
 refine Az (BM rfl rfl rfl (by obtain ⟨w1, w2, q1, q2⟩ := CG hl h5 h11; have := BV q1; have := BV q2; have := Ew (k := l.op.toNat) (Cy (by omega)); have : (⟨#[40]⟩ : ByteArray).size = 1 := rfl; have : (⟨#[41]⟩ : ByteArray).size = 1 := rfl; have : (⟨#[44, 32]⟩ : ByteArray).size = 2 := rfl; have : (⟨#[32]⟩ : ByteArray).size = 1 := rfl; have : (⟨#[46]⟩ : ByteArray).size = 1 := rfl; have : (⟨#[110, 111, 116, 32]⟩ : ByteArray).size = 4 := rfl; have : (⟨#[32, 58, 45, 32]⟩ : ByteArray).size = 4 := rfl; (try simp only [Bf]); omega)) ?_
 refine Az (BM rfl rfl rfl (by obtain ⟨w1, w2, q1, q2⟩ := CG hl h5 h11; have := BV q1; have := BV q2; have := Ew (k := l.op.toNat) (Cy (by omega)); have : (⟨#[40]⟩ : ByteArray).size = 1 := rfl; have : (⟨#[41]⟩ : ByteArray).size = 1 := rfl; have : (⟨#[44, 32]⟩ : ByteArray).size = 2 := rfl; have : (⟨#[32]⟩ : ByteArray).size = 1 := rfl; have : (⟨#[46]⟩ : ByteArray).size = 1 := rfl; have : (⟨#[110, 111, 116, 32]⟩ : ByteArray).size = 4 := rfl; have : (⟨#[32, 58, 45, 32]⟩ : ByteArray).size = 4 := rfl; (try simp only [Bf]); omega)) ?_
 refine Az (Ao 7 7 J J J (by kernel_rfl) J) (Az (Au 3 J J J (by kernel_rfl) J J) (Az (AS J J J (GJ l.b) J J) ?_))
 refine Az (BM rfl rfl rfl (by obtain ⟨w1, w2, q1, q2⟩ := CG hl h5 h11; have := BV q1; have := BV q2; have := Ew (k := l.op.toNat) (Cy (by omega)); have : (⟨#[40]⟩ : ByteArray).size = 1 := rfl; have : (⟨#[41]⟩ : ByteArray).size = 1 := rfl; have : (⟨#[44, 32]⟩ : ByteArray).size = 2 := rfl; have : (⟨#[32]⟩ : ByteArray).size = 1 := rfl; have : (⟨#[46]⟩ : ByteArray).size = 1 := rfl; have : (⟨#[110, 111, 116, 32]⟩ : ByteArray).size = 4 := rfl; have : (⟨#[32, 58, 45, 32]⟩ : ByteArray).size = 4 := rfl; (try simp only [Bf]); omega)) ?_
 refine Az (A1 J J) (Bj (by kernel_rfl) ?_)
 refine AU ?_
 exact ⟨rn [], ⟨⟨⟨_, J, Bu (by first | exact (F7 h5).symm | exact (EY h11).symm | (rw [EZ h5 h11, ← Fq (op := l.op) (k := l.op.toNat) (Cy (by omega)) rfl]))⟩, O⟩, O, O, J⟩⟩

set_option maxHeartbeats 4000000 in
theorem printRuleS_c (r : Rulet) : AC Tryz.prog 16 [.agg (ruleC r)] [] (.one (.c (.string (E5 r)))) [] := by
 refine Bn Tryz.func16 J J Tryz.ntmps16 J Tryz.results16 ?_
 refine Cz 0 3 J J (fun hm0_3 => ?_)
 refine Aa (Az (Dr 100 J J J J J J J) (Az (A1 J J) (A2 (A8 (Aa (Az (Au 4 J J J (by kernel_rfl) J J) ?_))))))
 refine Bd (AS J J J (ruleS_c r) J J) (fun b6 h6 => ?_)
 refine Az (Cn J J) (A2 ?_)
 cases b6
 · try simp only [tdy] at h6
   refine A5 J (Aa (Az (A1 J J) (Ae ?_)))
   exact ⟨rn [], ⟨⟨⟨_, J, Bu (by first | exact (FK h6).symm | (rw [CD hr, show r.body.length = k by omega]))⟩, O⟩, O, O, J⟩⟩
 try simp only [tdy] at h6
 have hr := h6
 have hr1 := FM h6
 have hq := Fd r.head
 have hs := signList_get (k := r.kind.toNat) (DN (by omega))
 have hsg := IW (op := r.kind) (k := r.kind.toNat) (DN (by omega)) rfl
 have : (⟨#[40]⟩ : ByteArray).size = 1 := rfl
 have : (⟨#[41]⟩ : ByteArray).size = 1 := rfl
 have : (⟨#[44, 32]⟩ : ByteArray).size = 2 := rfl
 have : (⟨#[32]⟩ : ByteArray).size = 1 := rfl
 have : (⟨#[46]⟩ : ByteArray).size = 1 := rfl
 have : (⟨#[110, 111, 116, 32]⟩ : ByteArray).size = 4 := rfl
 have : (⟨#[32, 58, 45, 32]⟩ : ByteArray).size = 4 := rfl
 refine Ab J (A8 (Bw J (Az (Aq DM 9 [.const (.string ⟨#[]⟩), .const (.string ⟨#[]⟩), .const (.string ⟨#[43]⟩), .const (.string ⟨#[45]⟩)] (signList) 101 J J J J J J J J FitL.rf J J J J J J (by kernel_rfl)) (Az (Ao 0 0 J J J (by kernel_rfl) J) (Az (A4 J J J (by kernel_rfl) J) ?_)))))
 refine Az (Ar 1 r.kind.toNat J J J J (by kernel_rfl) J (by omega) (DN (by omega))) ?_
 refine Az (Ga J J J (by kernel_rfl) (DN (by omega)) J) ?_
 refine Az (Ao 1 1 J J J (by kernel_rfl) J) (Az (Au 2 J J J (by kernel_rfl) J J) (Az (AS J J J (Ia r.head) J J) ?_))
 refine Az (BM J J J (by (try simp only [Bf]); omega)) ?_
 refine Az (A1 J J) (Bj (by kernel_rfl) ?_)
 refine A8 (Aa (Az (Ao 3 3 J J J (by kernel_rfl) J) (Az (A4 J J J (by kernel_rfl) J) (Az (Ak 48 10 J J (by kernel_rfl)) (Az (A0 J J) (A2 (AZ ?_)))))))
 refine B8 (ι := {q : Nat // q ≤ r.body.length}) (fun p => [(3, .one (.c (.string (EV r.kind ++ Da r.head ++ Eg r.body (p.1))))), (20, .one (.c (.int .i64 ((p.1) : Int))))]) (fun p => []) [1, 19] [100, 101] (fun p => r.body.length - (p.1)) ⟨0, by omega⟩ (rn []) ?_ ?_
 exact Ag (by repeat first | exact trivial | refine Ah J (by first | exact VLe.rf | exact A7 (by dsimp only; omega) | exact Bu (by first | (rw [Jg, CI, hsg]; done) | (rw [hj]; simp only [ByteArray.append_assoc, comma]; done))) ?_) (by repeat first | exact trivial | refine Ai J (by first | exact BLe.rf | exact BLe.box AllC.rf | exact BLe.arr (by exact J)) ?_) J J
 rintro ⟨k, hinv⟩
 dsimp only
 have hk := hinv
 refine Aa ?_
 refine Bd (BI J J J) (fun b21 h21 => ?_)
 refine A2 (A8 ?_)
 cases b21
 · try simp only [tdy] at h21
   refine Bc J ?_
   refine Br (B2 ?_)
   refine Aa (Az (A0 J J) ?_)
   refine Az (BM J J J (by have hb := I0 hr k; have := E1 (op := r.kind); (try simp only [Bf]); omega)) ?_
   refine Az (A1 J J) (Ae ?_)
   exact ⟨rn [], ⟨⟨⟨_, J, Bu (by first | exact (FK h6).symm | (rw [CD hr, show r.body.length = k by omega]))⟩, O⟩, O, O, J⟩⟩
 try simp only [tdy] at h21
 refine A5 J (AP (A8 (AZ (Aa (Az (A0 J J) (Az (A1 J J) (A2 (A8 (Aa (Az (A0 J J) ?_))))))))))
 refine Bd (AR J J J) (fun b24 h24 => ?_)
 refine A2 ?_
 cases b24
 rotate_left
 · try simp only [tdy] at h24
   have hj := bodyTo_one (l := r.body) (k := k) (by omega) (by omega)
   refine A5 J (AG (Az (A0 J J) ?_))
   refine Az (BM J J J (by have hb := I0 hr k; have := E1 (op := r.kind); (try simp only [Bf]); omega)) ?_
   refine Az (A1 J J) (A2 (AG (Az (A0 J J) (Az (Ao 3 3 J J J (by kernel_rfl) J) (Az (A4 J J J (by kernel_rfl) J) (Az (A0 J J) ?_))))))
   refine Az (Am 48 10 k J J J (by kernel_rfl) J (by omega) (by omega)) ?_
   refine Az (Co (n := 10) J J (by kernel_rfl) J) ?_
   refine Az (AS J J J (litTextS_c (r.body[k]'(by omega)) (hr1.2.2.2 _ (List.getElem_mem _))) J J) ?_
   refine Az (BM J J J (by have hb := I0 hr k; have := E1 (op := r.kind); have := litText_le (hr1.2.2.2 (r.body[k]'(by omega)) (List.getElem_mem _)); (try simp only [Bf]); omega)) ?_
   refine Az (A1 J J) (A2 (AG ?_))
   refine Az (Bl J J J (IntWalk.i64_in _ (by omega))) ?_
   refine Az (A0 J J) (A2 ?_)
   refine ⟨⟨k + 1, by omega⟩, rn [], ?_, by dsimp only; omega⟩
   exact Ag (by repeat first | exact trivial | refine Ah J (by first | exact VLe.rf | exact A7 (by dsimp only; omega) | exact Bu (by first | (rw [Jg, CI, hsg]; done) | (rw [hj]; simp only [ByteArray.append_assoc, comma]; done))) ?_) (by repeat first | exact trivial | refine Ai J (by first | exact BLe.rf | exact BLe.box AllC.rf | exact BLe.arr (by exact J)) ?_) J J
 try simp only [tdy] at h24
 have hj := bodyTo_more (l := r.body) (k := k) (by omega) (by omega)
 refine Bc J (AG (Az (A0 J J) ?_))
 refine Az (BM J J J (by have hb := I0 hr k; have := E1 (op := r.kind); (try simp only [Bf]); omega)) ?_
 refine Az (A1 J J) (A2 (AG (Az (A0 J J) (Az (Ao 3 3 J J J (by kernel_rfl) J) (Az (A4 J J J (by kernel_rfl) J) (Az (A0 J J) ?_))))))
 refine Az (Am 48 10 k J J J (by kernel_rfl) J (by omega) (by omega)) ?_
 refine Az (Co (n := 10) J J (by kernel_rfl) J) ?_
 refine Az (AS J J J (litTextS_c (r.body[k]'(by omega)) (hr1.2.2.2 _ (List.getElem_mem _))) J J) ?_
 refine Az (BM J J J (by have hb := I0 hr k; have := E1 (op := r.kind); have := litText_le (hr1.2.2.2 (r.body[k]'(by omega)) (List.getElem_mem _)); (try simp only [Bf]); omega)) ?_
 refine Az (A1 J J) (A2 (AG ?_))
 refine Az (Bl J J J (IntWalk.i64_in _ (by omega))) ?_
 refine Az (A0 J J) (A2 ?_)
 refine ⟨⟨k + 1, by omega⟩, rn [], ?_, by dsimp only; omega⟩
 exact Ag (by repeat first | exact trivial | refine Ah J (by first | exact VLe.rf | exact A7 (by dsimp only; omega) | exact Bu (by first | (rw [Jg, CI, hsg]; done) | (rw [hj]; simp only [ByteArray.append_assoc, comma]; done))) ?_) (by repeat first | exact trivial | refine Ai J (by first | exact BLe.rf | exact BLe.box AllC.rf | exact BLe.arr (by exact J)) ?_) J J

set_option maxHeartbeats 4000000 in
theorem printRuleI_c (r : Rulet) : AC Tryz.prog 13 [.agg (ruleC r)] [] (.one (.c (.string (E5 r)))) [] := by
 refine Bn Tryz.func13 J J Tryz.ntmps13 J Tryz.results13 ?_
 refine Cz 0 3 J J (fun hm0_3 => ?_)
 refine Aa (Az (Dr 100 J J J J J J J) (Az (A1 J J) (A2 (A8 (Aa (Az (Au 4 J J J (by kernel_rfl) J J) ?_))))))
 refine Bd (AS J J J (ruleI_c r) J J) (fun b8 h8 => ?_)
 refine Az (Cn J J) (A2 ?_)
 cases b8
 · try simp only [tdy] at h8
   refine A5 J (Aa (Az (A1 J J) (Ae ?_)))
   exact ⟨rn [], ⟨⟨⟨_, J, Bu (by first | exact (FK h8).symm | (rw [CD hr, Fc (k := k) (by omega) (by omega), hsg]; done) | (rw [CD hr, Fc (k := k) (by omega) (by omega), hsg]; simp only [ByteArray.append_assoc, comma]; done) | (rw [CD hr, Jh (by omega), hsg, CI]))⟩, O⟩, O, O, J⟩⟩
 try simp only [tdy] at h8
 have hr := h8
 have hr1 := FM h8
 have hq := Fd r.head
 have hs := signList_get (k := r.kind.toNat) (DN (by omega))
 have hsg := IW (op := r.kind) (k := r.kind.toNat) (DN (by omega)) rfl
 have : (⟨#[40]⟩ : ByteArray).size = 1 := rfl
 have : (⟨#[41]⟩ : ByteArray).size = 1 := rfl
 have : (⟨#[44, 32]⟩ : ByteArray).size = 2 := rfl
 have : (⟨#[32]⟩ : ByteArray).size = 1 := rfl
 have : (⟨#[46]⟩ : ByteArray).size = 1 := rfl
 have : (⟨#[110, 111, 116, 32]⟩ : ByteArray).size = 4 := rfl
 have : (⟨#[32, 58, 45, 32]⟩ : ByteArray).size = 4 := rfl
 refine Ab J (A8 (Bw J (Az (Aq DM 9 [.const (.string ⟨#[]⟩), .const (.string ⟨#[]⟩), .const (.string ⟨#[43]⟩), .const (.string ⟨#[45]⟩)] (signList) 101 J J J J J J J J FitL.rf J J J J J J (by kernel_rfl)) (Az (Ao 0 0 J J J (by kernel_rfl) J) (Az (A4 J J J (by kernel_rfl) J) ?_)))))
 refine Az (Ar 1 r.kind.toNat J J J J (by kernel_rfl) J (by omega) (DN (by omega))) ?_
 refine Az (Ga J J J (by kernel_rfl) (DN (by omega)) J) ?_
 refine Az (Ao 1 1 J J J (by kernel_rfl) J) (Az (Au 2 J J J (by kernel_rfl) J J) (Az (AS J J J (Ib r.head) J J) ?_))
 refine Az (BM J J J (by (try simp only [Bf]); omega)) ?_
 refine Az (A1 J J) (Bj (by kernel_rfl) ?_)
 refine Aa (Az (Hh (E := 9) (e := DM) 102 J J J (by kernel_rfl)) (Az (A1 J J) (A2 (A8 (Aa (Az (Ao 3 3 J J J (by kernel_rfl) J) (Az (A4 J J J (by kernel_rfl) J) (Az (Ak 48 10 J J (by kernel_rfl)) (Az (A0 J J) (A2 (AZ ?_)))))))))))
 refine B8 (ι := {q : Nat // q ≤ r.body.length}) (fun p => [(4, .one (.own 102)), (23, .one (.c (.int .i64 ((p.1) : Int))))]) (fun p => [(102, some (.arr 9 DM (EX C0 r.body (p.1)) true))]) [3, 21, 22] [100, 101] (fun p => r.body.length - (p.1)) ⟨0, by omega⟩ (rn []) ?_ ?_
 exact Ag (by repeat first | exact trivial | refine Ah J (by first | exact VLe.rf | exact A7 (by dsimp only; omega)) ?_) (by repeat first | exact trivial | refine Ai J (by first | exact BLe.rf | exact BLe.box AllC.rf | exact BLe.arr (by first | exact H9 | exact HC (by omega))) ?_) J J
 rintro ⟨k, hinv⟩
 dsimp only
 have hk := hinv
 refine Aa ?_
 refine Bd (BI J J J) (fun b24 h24 => ?_)
 refine A2 (A8 ?_)
 cases b24
 rotate_left
 · try simp only [tdy] at h24
   refine A5 J (AP (A8 (AZ (Aa ?_))))
   refine Az (Am 48 10 k J J J (by kernel_rfl) J (by omega) (by omega)) ?_
   refine Az (Co (n := 10) J J (by kernel_rfl) J) (Az (Aw (.agg #[.int .i64 0, .string ⟨#[]⟩, .slice none 0 0, .int .i64 0, .string ⟨#[]⟩, .int .i64 0, .string ⟨#[]⟩, .string ⟨#[]⟩, .int .i64 0, .string ⟨#[]⟩]) 103 J (by kernel_rfl) J J J J) (Az (Ap 10 J J J J (by kernel_rfl) J J J) (A2 (AG (Az (A0 J J) (Az (Au 10 J J J (by kernel_rfl) J J) ?_))))))
   refine Az (AS J J J (litTextI_c (r.body[k]'(by omega)) (hr1.2.2.2 _ (List.getElem_mem _))) J J) ?_
   refine Az (Aq DM 9 [.tmp 29] ([C0 (r.body[k]'(by omega))]) 104 J J J J J J J J FitL.rf J J J J J J (by kernel_rfl)) ?_
   refine Az (B9 105 J J J J J J J J (by kernel_rfl) (by have := ID (f := C0) (xs := r.body) (k := k); simp only [List.length_cons, List.length_nil]; omega)) ?_
   refine Az (A1 J J) (A2 (AG ?_))
   refine Az (Bl J J J (IntWalk.i64_in _ (by omega))) ?_
   refine Az (A0 J J) (A2 ?_)
   refine ⟨⟨k + 1, by omega⟩, rn [(102, 105)], ?_, by dsimp only; omega⟩
   exact Ag (by repeat first | exact trivial | refine Ah J (by first | exact VLe.rf | exact A7 (by dsimp only; omega)) ?_) (by repeat first | exact trivial | refine Ai J (by first | exact BLe.rf | exact BLe.box AllC.rf | exact BLe.arr (by first | exact H9 | exact HC (by omega))) ?_) J J
 try simp only [tdy] at h24
 have hml : (EX C0 r.body k).length = r.body.length := by rw [IE (by omega), List.length_map]
 refine Bc J ?_
 refine Br (B2 ?_)
 refine A8 (Aa (Az (A0 J J) (Az (Ax 9 1 J J J (by kernel_rfl)) ?_)))
 refine Bd (CC J J J) (fun b35 h35 => ?_)
 refine A2 ?_
 cases b35
 · try simp only [tdy] at h35
   refine Ab J (Aa (Az (A0 J J) ?_))
   refine Az (BM J J J (by have := Io hr k; (try simp only [Bf]); omega)) ?_
   refine Az (A1 J J) (Ae ?_)
   exact ⟨rn [], ⟨⟨⟨_, J, Bu (by first | exact (FK h8).symm | (rw [CD hr, Fc (k := k) (by omega) (by omega), hsg]; done) | (rw [CD hr, Fc (k := k) (by omega) (by omega), hsg]; simp only [ByteArray.append_assoc, comma]; done) | (rw [CD hr, Jh (by omega), hsg, CI]))⟩, O⟩, O, O, J⟩⟩
 try simp only [tdy] at h35
 refine A5 J (AG (Az (A0 J J) (Az (A0 J J) ?_)))
 refine Az (HP J J J (join_c (EX C0 r.body k) comma (by have := ID (f := C0) (xs := r.body) (k := k); omega) (by have := Io hr k; omega)) J AllV.rf J J J J J) ?_
 refine Az (BM J J J (by have := Io hr k; (try simp only [Bf]); omega)) ?_
 refine Az (BM J J J (by have := Io hr k; (try simp only [Bf]); omega)) ?_
 refine Az (A1 J J) (Ad (Az (A0 J J) ?_))
 refine Az (BM J J J (by have := Io hr k; (try simp only [Bf]); omega)) ?_
 refine Az (A1 J J) (Ae ?_)
 exact ⟨rn [], ⟨⟨⟨_, J, Bu (by first | exact (FK h8).symm | (rw [CD hr, Fc (k := k) (by omega) (by omega), hsg]; done) | (rw [CD hr, Fc (k := k) (by omega) (by omega), hsg]; simp only [ByteArray.append_assoc, comma]; done) | (rw [CD hr, Jh (by omega), hsg, CI]))⟩, O⟩, O, O, J⟩⟩

set_option maxHeartbeats 4000000 in
theorem printProgS_c (pg : Programt) : AC Tryz.prog 6 [.agg (programC pg)] [] (.tup [.one (.c (.string (BA pg).1)), .one (.c (.bool (BA pg).2))]) [] := by
 refine AC_body2 Tryz.func6 J J Tryz.ntmps6 J Tryz.results6 J J J ?_
 refine Cz 0 0 J J (fun hm0_0 => ?_)
 refine Cz 0 1 J J (fun hm0_1 => ?_)
 refine Aa (Az (Dr 100 J J J J J J J) (Az (A1 J J) (Az (A1 J J) (A2 (A8 (Aa (Az (Au 2 J J J (by kernel_rfl) J J) ?_)))))))
 refine Bd (AS J J J (progS_c pg) J J) (fun b9 h9 => ?_)
 refine Az (Cn J J) (A2 ?_)
 cases b9
 · try simp only [tdy] at h9
   have hno := programText_no h9
   refine A5 J (Aa (Az (A1 J J) (Az (A1 J J) (Ae ?_))))
   exact ⟨rn [], ⟨⟨⟨_, J, Bu (by rw [hno])⟩, ⟨_, J, AH (by rw [hno])⟩, O⟩, O, O, J⟩⟩
 try simp only [tdy] at h9
 have hp := h9
 have hp1 := F0 h9
 refine Ab J (Aa (Az (A1 J J) (A2 (A8 (Aa (Az (Ao 0 0 J J J (by kernel_rfl) J) (Az (A4 J J J (by kernel_rfl) J) (Az (Ak 51 3 J J (by kernel_rfl)) (Az (A0 J J) (A2 (AZ ?_)))))))))))
 refine B8 (ι := {q : Nat // q ≤ pg.decls.length}) (fun p => [(4, .one (.c (.string (G9 Dj pg.decls (p.1))))), (14, .one (.c (.int .i64 ((p.1) : Int))))]) (fun p => []) [1, 12, 13] [100] (fun p => pg.decls.length - (p.1)) ⟨0, by omega⟩ (rn []) ?_ ?_
 exact Ag (by repeat first | exact trivial | refine Ah J (by first | exact VLe.rf | exact A7 (by dsimp only; omega) | exact Bu (by first | (rw [CY]; done) | (rw [hcm, hsg]; simp only [Dj, ByteArray.append_assoc]; done))) ?_) (by repeat first | exact trivial | refine Ai J (by first | exact BLe.rf | exact BLe.box AllC.rf | exact BLe.arr (by exact J)) ?_) J J
 rintro ⟨k, hinv⟩
 dsimp only
 have hk := hinv
 refine Aa ?_
 refine Bd (BI J J J) (fun b15 h15 => ?_)
 refine A2 (A8 ?_)
 cases b15
 rotate_left
 · try simp only [tdy] at h15
   have hd := Jf (hp1.2.2 (pg.decls[k]'(by omega)) (List.getElem_mem _))
   have hs := declList_get (k := (pg.decls[k]'(by omega)).kind.toNat) (DU (by omega))
   have hsg := Je (op := (pg.decls[k]'(by omega)).kind) (k := (pg.decls[k]'(by omega)).kind.toNat) (DU (by omega)) rfl
   have hn := DZ (pg.decls[k]'(by omega)).arity
   have hc := decls_le hp hk
   have : (⟨#[40]⟩ : ByteArray).size = 1 := rfl
   have : (⟨#[41]⟩ : ByteArray).size = 1 := rfl
   have : (⟨#[44, 32]⟩ : ByteArray).size = 2 := rfl
   have : (⟨#[32]⟩ : ByteArray).size = 1 := rfl
   have : (⟨#[46]⟩ : ByteArray).size = 1 := rfl
   have : (⟨#[110, 111, 116, 32]⟩ : ByteArray).size = 4 := rfl
   have : (⟨#[32, 58, 45, 32]⟩ : ByteArray).size = 4 := rfl
   have : (⟨#[47]⟩ : ByteArray).size = 1 := rfl
   have : (⟨#[46, 10]⟩ : ByteArray).size = 2 := rfl
   have hcm := Ez (f := Dj) (xs := pg.decls) (k := k) (by omega)
   refine A5 J (AP (A8 (AZ (Aa ?_))))
   refine Az (Am 51 3 k J J J (by kernel_rfl) J (by omega) (by omega)) ?_
   refine Az (Co (n := 3) J J (by kernel_rfl) J) (Az (Aw (.agg #[.int .i64 0, .string ⟨#[]⟩, .int .i64 0]) 101 J (by kernel_rfl) J J J J) (Az (Ap 3 J J J J (by kernel_rfl) J J J) (A2 (Bw J (Az (A0 J J) (Az (Aq DM 9 [.const (.string ⟨#[]⟩), .const (.string ⟨#[115, 116, 97, 116, 101]⟩), .const (.string ⟨#[101, 118, 101, 110, 116]⟩), .const (.string ⟨#[118, 105, 101, 119]⟩)] (declList) 102 J J J J J J J J FitL.rf J J J J J J (by kernel_rfl)) (Az (Ao 0 0 J J J (by kernel_rfl) J) (Az (A4 J J J (by kernel_rfl) J) ?_))))))))
   refine Az (Ar 1 ((pg.decls[k]'(by omega)).kind.toNat) J J J J (by kernel_rfl) J (by omega) (DU (by omega))) ?_
   refine Az (Ga J J J (by kernel_rfl) (DU (by omega)) J) ?_
   refine Az (BM J J J (by (try simp only [Bf]); omega)) ?_
   refine Az (BM J J J (by (try simp only [Bf]); omega)) ?_
   refine Az (Ao 1 1 J J J (by kernel_rfl) J) (Az (A4 J J J (by kernel_rfl) J) ?_)
   refine Az (BM J J J (by (try simp only [Bf]); omega)) ?_
   refine Az (BM J J J (by (try simp only [Bf]); omega)) ?_
   refine Az (Ao 2 2 J J J (by kernel_rfl) J) (Az (A4 J J J (by kernel_rfl) J) (Az (AS J J J (numTextS_c _) J J) ?_))
   refine Az (BM J J J (by (try simp only [Bf]); omega)) ?_
   refine Az (BM J J J (by (try simp only [Bf]); omega)) ?_
   refine Az (A1 J J) (Bj (by kernel_rfl) ?_)
   refine AG ?_
   refine Az (Bl J J J (IntWalk.i64_in _ (by omega))) ?_
   refine Az (A0 J J) (A2 ?_)
   refine ⟨⟨k + 1, by omega⟩, rn [], ?_, by dsimp only; omega⟩
   exact Ag (by repeat first | exact trivial | refine Ah J (by first | exact VLe.rf | exact A7 (by dsimp only; omega) | exact Bu (by first | (rw [CY]; done) | (rw [hcm, hsg]; simp only [Dj, ByteArray.append_assoc]; done))) ?_) (by repeat first | exact trivial | refine Ai J (by first | exact BLe.rf | exact BLe.box AllC.rf | exact BLe.arr (by exact J)) ?_) J J
 try simp only [tdy] at h15
 refine Bc J ?_
 refine Br (B2 ?_)
 refine A8 (Aa (Az (Ao 1 1 J J J (by kernel_rfl) J) (Az (A4 J J J (by kernel_rfl) J) (Az (Ak 42 4 J J (by kernel_rfl)) (Az (A0 J J) (A2 (AZ ?_)))))))
 refine B8 (ι := {q : Nat // pg.decls.length = pg.decls.length ∧ q ≤ pg.rules.length}) (fun p => [(4, .one (.c (.string (BU pg pg.decls.length (p.1))))), (39, .one (.c (.int .i64 ((p.1) : Int))))]) (fun p => []) [1, 38] [100] (fun p => pg.rules.length - (p.1)) ⟨0, ⟨J, by omega⟩⟩ (rn []) ?_ ?_
 exact Ag (by repeat first | exact trivial | refine Ah J (by first | exact VLe.rf | exact A7 (by dsimp only; omega) | exact Bu (by first | (unfold BU; rw [CY, CI, show pg.decls.length = k by omega]; done) | (unfold BU; rw [CY, CI]; done) | (unfold BU; rw [Ez (f := Dy) (xs := pg.rules) (k := j) (by omega)]; simp only [Dy, ByteArray.append_assoc]; done))) ?_) (by repeat first | exact trivial | refine Ai J (by first | exact BLe.rf | exact BLe.box AllC.rf | exact BLe.arr (by exact J)) ?_) J J
 rintro ⟨j, hinv⟩
 dsimp only
 have hk := hinv.1
 have hj := hinv.2
 have hc := decls_le hp (Nat.le_of_eq hk)
 have hc2 := rules_le hp hj
 have : (⟨#[10]⟩ : ByteArray).size = 1 := rfl
 refine Aa ?_
 refine Bd (BI J J J) (fun b40 h40 => ?_)
 refine A2 (A8 ?_)
 cases b40
 rotate_left
 · try simp only [tdy] at h40
   refine A5 J (AP (A8 (AZ (Aa (Az (A0 J J) (Az (A1 J J) (A2 (AG (Az (A0 J J) (Az (Ao 1 1 J J J (by kernel_rfl) J) (Az (A4 J J J (by kernel_rfl) J) (Az (A0 J J) ?_))))))))))))
   refine Az (Am 42 4 j J J J (by kernel_rfl) J (by omega) (by omega)) ?_
   refine Az (Co (n := 4) J J (by kernel_rfl) J) ?_
   refine Az (AS J J J (printRuleS_c (pg.rules[j]'(by omega))) J J) ?_
   refine Az (BM J J J (by have := FL (pg.rules[j]'(by omega)); (try simp only [Bf, BU]); omega)) ?_
   refine Az (BM J J J (by have := FL (pg.rules[j]'(by omega)); (try simp only [Bf, BU]); omega)) ?_
   refine Az (A1 J J) (A2 (AG ?_))
   refine Az (Bl J J J (IntWalk.i64_in _ (by omega))) ?_
   refine Az (A0 J J) (A2 ?_)
   refine ⟨⟨j + 1, ⟨J, by omega⟩⟩, rn [], ?_, by dsimp only; omega⟩
   exact Ag (by repeat first | exact trivial | refine Ah J (by first | exact VLe.rf | exact A7 (by dsimp only; omega) | exact Bu (by first | (unfold BU; rw [CY, CI, show pg.decls.length = k by omega]; done) | (unfold BU; rw [CY, CI]; done) | (unfold BU; rw [Ez (f := Dy) (xs := pg.rules) (k := j) (by omega)]; simp only [Dy, ByteArray.append_assoc]; done))) ?_) (by repeat first | exact trivial | refine Ai J (by first | exact BLe.rf | exact BLe.box AllC.rf | exact BLe.arr (by exact J)) ?_) J J
 try simp only [tdy] at h40
 refine Bc J ?_
 refine Br (B2 ?_)
 refine A8 (Aa (Az (A0 J J) (Az (D4 J J (by kernel_rfl)) ?_)))
 refine Bd (CC J J J) (fun b54 h54 => ?_)
 refine A2 ?_
 cases b54
 rotate_left
 · try simp only [tdy] at h54
   have hno := Ji hp (i := pg.decls.length) (j := j) rfl (by omega) (by omega)
   refine A5 J (Aa (Az (A1 J J) (Az (A1 J J) (Ae ?_))))
   exact ⟨rn [], ⟨⟨⟨_, J, Bu (by rw [hno])⟩, ⟨_, J, AH (by rw [hno])⟩, O⟩, O, O, J⟩⟩
 try simp only [tdy] at h54
 have hno := programText_ok hp (i := pg.decls.length) (j := j) rfl (by omega) (by omega)
 refine Ab J (Aa (Az (A0 J J) (Az (A1 J J) (Az (A1 J J) (Ae ?_)))))
 exact ⟨rn [], ⟨⟨⟨_, J, Bu (by rw [hno])⟩, ⟨_, J, AH (by rw [hno])⟩, O⟩, O, O, J⟩⟩

set_option maxHeartbeats 4000000 in
theorem printProgI_c (pg : Programt) : AC Tryz.prog 5 [.agg (programC pg)] [] (.tup [.one (.c (.string (BA pg).1)), .one (.c (.bool (BA pg).2))]) [] := by
 refine AC_body2 Tryz.func5 J J Tryz.ntmps5 J Tryz.results5 J J J ?_
 refine Cz 0 0 J J (fun hm0_0 => ?_)
 refine Cz 0 1 J J (fun hm0_1 => ?_)
 refine Aa (Az (Dr 100 J J J J J J J) (Az (A1 J J) (Az (A1 J J) (A2 (A8 (Aa (Az (Au 2 J J J (by kernel_rfl) J J) ?_)))))))
 refine Bd (AS J J J (progI_c pg) J J) (fun b10 h10 => ?_)
 refine Az (Cn J J) (A2 ?_)
 cases b10
 · try simp only [tdy] at h10
   have hno := programText_no h10
   refine A5 J (Aa (Az (A1 J J) (Az (A1 J J) (Ae ?_))))
   exact ⟨rn [], ⟨⟨⟨_, J, Bu (by rw [hno])⟩, ⟨_, J, AH (by rw [hno])⟩, O⟩, O, O, J⟩⟩
 try simp only [tdy] at h10
 have hp := h10
 have hp1 := F0 h10
 refine Ab J (Aa (Az (A1 J J) (A2 (A8 (Aa (Az (Ao 0 0 J J J (by kernel_rfl) J) (Az (A4 J J J (by kernel_rfl) J) (Az (Ak 51 3 J J (by kernel_rfl)) (Az (A0 J J) (A2 (AZ ?_)))))))))))
 refine B8 (ι := {q : Nat // q ≤ pg.decls.length}) (fun p => [(4, .one (.c (.string (G9 Dj pg.decls (p.1))))), (15, .one (.c (.int .i64 ((p.1) : Int))))]) (fun p => []) [1, 13, 14] [100] (fun p => pg.decls.length - (p.1)) ⟨0, by omega⟩ (rn []) ?_ ?_
 exact Ag (by repeat first | exact trivial | refine Ah J (by first | exact VLe.rf | exact A7 (by dsimp only; omega) | exact Bu (by first | (rw [CY]; done) | (rw [hcm, hsg]; simp only [Dj, ByteArray.append_assoc]; done))) ?_) (by repeat first | exact trivial | refine Ai J (by first | exact BLe.rf | exact BLe.box AllC.rf | exact BLe.arr (by exact J)) ?_) J J
 rintro ⟨k, hinv⟩
 dsimp only
 have hk := hinv
 refine Aa ?_
 refine Bd (BI J J J) (fun b16 h16 => ?_)
 refine A2 (A8 ?_)
 cases b16
 rotate_left
 · try simp only [tdy] at h16
   have hd := Jf (hp1.2.2 (pg.decls[k]'(by omega)) (List.getElem_mem _))
   have hs := declList_get (k := (pg.decls[k]'(by omega)).kind.toNat) (DU (by omega))
   have hsg := Je (op := (pg.decls[k]'(by omega)).kind) (k := (pg.decls[k]'(by omega)).kind.toNat) (DU (by omega)) rfl
   have hn := DZ (pg.decls[k]'(by omega)).arity
   have hc := decls_le hp hk
   have : (⟨#[40]⟩ : ByteArray).size = 1 := rfl
   have : (⟨#[41]⟩ : ByteArray).size = 1 := rfl
   have : (⟨#[44, 32]⟩ : ByteArray).size = 2 := rfl
   have : (⟨#[32]⟩ : ByteArray).size = 1 := rfl
   have : (⟨#[46]⟩ : ByteArray).size = 1 := rfl
   have : (⟨#[110, 111, 116, 32]⟩ : ByteArray).size = 4 := rfl
   have : (⟨#[32, 58, 45, 32]⟩ : ByteArray).size = 4 := rfl
   have : (⟨#[47]⟩ : ByteArray).size = 1 := rfl
   have : (⟨#[46, 10]⟩ : ByteArray).size = 2 := rfl
   have hcm := Ez (f := Dj) (xs := pg.decls) (k := k) (by omega)
   refine A5 J (AP (A8 (AZ (Aa ?_))))
   refine Az (Am 51 3 k J J J (by kernel_rfl) J (by omega) (by omega)) ?_
   refine Az (Co (n := 3) J J (by kernel_rfl) J) (Az (Aw (.agg #[.int .i64 0, .string ⟨#[]⟩, .int .i64 0]) 101 J (by kernel_rfl) J J J J) (Az (Ap 3 J J J J (by kernel_rfl) J J J) (A2 (Bw J (Az (A0 J J) (Az (Aq DM 9 [.const (.string ⟨#[]⟩), .const (.string ⟨#[115, 116, 97, 116, 101]⟩), .const (.string ⟨#[101, 118, 101, 110, 116]⟩), .const (.string ⟨#[118, 105, 101, 119]⟩)] (declList) 102 J J J J J J J J FitL.rf J J J J J J (by kernel_rfl)) (Az (Ao 0 0 J J J (by kernel_rfl) J) (Az (A4 J J J (by kernel_rfl) J) ?_))))))))
   refine Az (Ar 1 ((pg.decls[k]'(by omega)).kind.toNat) J J J J (by kernel_rfl) J (by omega) (DU (by omega))) ?_
   refine Az (Ga J J J (by kernel_rfl) (DU (by omega)) J) ?_
   refine Az (BM J J J (by (try simp only [Bf]); omega)) ?_
   refine Az (Ao 1 1 J J J (by kernel_rfl) J) (Az (A4 J J J (by kernel_rfl) J) ?_)
   refine Az (BM J J J (by (try simp only [Bf]); omega)) ?_
   refine Az (BM J J J (by (try simp only [Bf]); omega)) ?_
   refine Az (Ao 2 2 J J J (by kernel_rfl) J) (Az (A4 J J J (by kernel_rfl) J) (Az (AS J J J (numTextI_c _) J J) ?_))
   refine Az (BM J J J (by (try simp only [Bf]); omega)) ?_
   refine Az (BM J J J (by (try simp only [Bf]); omega)) ?_
   refine Az (BM J J J (by (try simp only [Bf]); omega)) ?_
   refine Az (A1 J J) (Bj (by kernel_rfl) ?_)
   refine AG ?_
   refine Az (Bl J J J (IntWalk.i64_in _ (by omega))) ?_
   refine Az (A0 J J) (A2 ?_)
   refine ⟨⟨k + 1, by omega⟩, rn [], ?_, by dsimp only; omega⟩
   exact Ag (by repeat first | exact trivial | refine Ah J (by first | exact VLe.rf | exact A7 (by dsimp only; omega) | exact Bu (by first | (rw [CY]; done) | (rw [hcm, hsg]; simp only [Dj, ByteArray.append_assoc]; done))) ?_) (by repeat first | exact trivial | refine Ai J (by first | exact BLe.rf | exact BLe.box AllC.rf | exact BLe.arr (by exact J)) ?_) J J
 try simp only [tdy] at h16
 refine Bc J ?_
 refine Br (B2 ?_)
 refine A8 (Aa (Az (Ao 1 1 J J J (by kernel_rfl) J) (Az (A4 J J J (by kernel_rfl) J) (Az (Ak 42 4 J J (by kernel_rfl)) (Az (A0 J J) (A2 (AZ ?_)))))))
 refine B8 (ι := {q : Nat // pg.decls.length = pg.decls.length ∧ q ≤ pg.rules.length}) (fun p => [(4, .one (.c (.string (BU pg pg.decls.length (p.1))))), (40, .one (.c (.int .i64 ((p.1) : Int))))]) (fun p => []) [38, 39] [100] (fun p => pg.rules.length - (p.1)) ⟨0, ⟨J, by omega⟩⟩ (rn []) ?_ ?_
 exact Ag (by repeat first | exact trivial | refine Ah J (by first | exact VLe.rf | exact A7 (by dsimp only; omega) | exact Bu (by first | (unfold BU; rw [CY, CI, show pg.decls.length = k by omega]; done) | (unfold BU; rw [CY, CI]; done) | (unfold BU; rw [Ez (f := Dy) (xs := pg.rules) (k := j) (by omega)]; simp only [Dy, ByteArray.append_assoc]; done))) ?_) (by repeat first | exact trivial | refine Ai J (by first | exact BLe.rf | exact BLe.box AllC.rf | exact BLe.arr (by exact J)) ?_) J J
 rintro ⟨j, hinv⟩
 dsimp only
 have hk := hinv.1
 have hj := hinv.2
 have hc := decls_le hp (Nat.le_of_eq hk)
 have hc2 := rules_le hp hj
 have : (⟨#[10]⟩ : ByteArray).size = 1 := rfl
 refine Aa ?_
 refine Bd (BI J J J) (fun b41 h41 => ?_)
 refine A2 (A8 ?_)
 cases b41
 rotate_left
 · try simp only [tdy] at h41
   refine A5 J (AP (A8 (AZ (Aa ?_))))
   refine Az (Am 42 4 j J J J (by kernel_rfl) J (by omega) (by omega)) ?_
   refine Az (Co (n := 4) J J (by kernel_rfl) J) (Az (Aw (.agg #[.int .i64 0, .string ⟨#[]⟩, .slice none 0 0, .slice none 0 0]) 103 J (by kernel_rfl) J J J J) (Az (Ap 4 J J J J (by kernel_rfl) J J J) (A2 (AG (Az (A0 J J) (Az (Au 4 J J J (by kernel_rfl) J J) ?_))))))
   refine Az (AS J J J (printRuleI_c (pg.rules[j]'(by omega))) J J) ?_
   refine Az (BM J J J (by have := FL (pg.rules[j]'(by omega)); (try simp only [Bf, BU]); omega)) ?_
   refine Az (BM J J J (by have := FL (pg.rules[j]'(by omega)); (try simp only [Bf, BU]); omega)) ?_
   refine Az (A1 J J) (A2 (AG ?_))
   refine Az (Bl J J J (IntWalk.i64_in _ (by omega))) ?_
   refine Az (A0 J J) (A2 ?_)
   refine ⟨⟨j + 1, ⟨J, by omega⟩⟩, rn [], ?_, by dsimp only; omega⟩
   exact Ag (by repeat first | exact trivial | refine Ah J (by first | exact VLe.rf | exact A7 (by dsimp only; omega) | exact Bu (by first | (unfold BU; rw [CY, CI, show pg.decls.length = k by omega]; done) | (unfold BU; rw [CY, CI]; done) | (unfold BU; rw [Ez (f := Dy) (xs := pg.rules) (k := j) (by omega)]; simp only [Dy, ByteArray.append_assoc]; done))) ?_) (by repeat first | exact trivial | refine Ai J (by first | exact BLe.rf | exact BLe.box AllC.rf | exact BLe.arr (by exact J)) ?_) J J
 try simp only [tdy] at h41
 refine Bc J ?_
 refine Br (B2 ?_)
 refine A8 (Aa (Az (A0 J J) (Az (D4 J J (by kernel_rfl)) ?_)))
 refine Bd (CC J J J) (fun b52 h52 => ?_)
 refine A2 ?_
 cases b52
 rotate_left
 · try simp only [tdy] at h52
   have hno := Ji hp (i := pg.decls.length) (j := j) rfl (by omega) (by omega)
   refine A5 J (Aa (Az (A1 J J) (Az (A1 J J) (Ae ?_))))
   exact ⟨rn [], ⟨⟨⟨_, J, Bu (by rw [hno])⟩, ⟨_, J, AH (by rw [hno])⟩, O⟩, O, O, J⟩⟩
 try simp only [tdy] at h52
 have hno := programText_ok hp (i := pg.decls.length) (j := j) rfl (by omega) (by omega)
 refine Ab J (Aa (Az (A0 J J) (Az (A1 J J) (Az (A1 J J) (Ae ?_)))))
 exact ⟨rn [], ⟨⟨⟨_, J, Bu (by rw [hno])⟩, ⟨_, J, AH (by rw [hno])⟩, O⟩, O, O, J⟩⟩
end Go.Proofs.YtkemjhlbokldhaaGreat

namespace Go.Proofs.YtkemjhlbokldhaaGreat
open Go.RowKit
set_option linter.unusedVariables false
set_option linter.unusedSimpArgs false
set_option maxRecDepth 100000

set_option maxHeartbeats 4000000 in
theorem lawFnPrint.fn (b : List Int) : AC Tryz.prog 3 [.one (.sl (intE .u8) b)] [] (.one (.c (.bool true))) [] := by
 refine Bn Tryz.func3 J J Tryz.ntmps3 J Tryz.results3 ?_
 refine A8 (A9 (AO (A1 J J) (AQ (A8 (A8 (A9 (AO (A0 J J) (AO (Ak 5 1 J J (by kernel_rfl)) ?_))))))))
 refine BG (CC J J J) (fun b15 h15 => ?_)
 refine AQ ?_
 cases b15
 rotate_left
 · try simp only [tdy] at h15
   refine Ac J (A9 (AO (A1 J J) (AQ (AU ?_))))
   exact ⟨rn [], ⟨⟨⟨_, J, AH J⟩, O⟩, O, O, J⟩⟩
 try simp only [tdy] at h15
 have hb : b.length ≤ 1048576 := by omega
 refine Ab J (A8 (A9 (AO (A0 J J) ?_)))
 refine AN_x J J J (drawPP_x b hb) J J (fun _ => rfl) (fun _ => rfl) O (fun _ => rfl) ?_
 rintro x17 g17
 try dsimp only at g17
 try dsimp only
 refine AO (Aw (.agg #[.slice none 0 0, .slice none 0 0]) 100 J (by kernel_rfl) J J J J) (AO (Ap 2 J J J J (by kernel_rfl) J J J) (AQ (A8 (A9 (AO (Au 2 J J J (by kernel_rfl) J J) (AO (AS J J J (printProgI_c x17) J J) (AO (A0 J J) (AO (B1 J J J) ?_))))))))
 refine BG (B1 J J J) (fun b22 h22 => ?_)
 refine AO (A1 J J) (AO (A1 J J) (AQ (A8 (A9 (AO (Au 2 J J J (by kernel_rfl) J J) (AO (AS J J J (printProgS_c x17) J J) (AO (A0 J J) (AO (B1 J J J) ?_))))))))
 refine BG (B1 J J J) (fun b27 h27 => ?_)
 refine AO (A1 J J) (AO (A1 J J) (AQ (A8 (A8 (A9 (AO (A0 J J) (AO (A0 J J) ?_)))))))
 refine BG (x_bneq J J J (by kernel_rfl)) (fun b30 h30 => ?_)
 refine AQ ?_
 cases b30
 rotate_left
 · exfalso; rw [← h22, ← h27] at h30; simp at h30
 try simp only [tdy] at h30
 refine Ab J (A8 (A8 (A9 (AO (A0 J J) (AO (Cn J J) (AQ ?_))))))
 cases b22
 · try simp only [tdy] at h22
   have hem := print_none h22
   refine Ac J (A9 (AO (A0 J J) ?_))
   refine BG (DH J J J) (fun b34 h34 => ?_)
   refine AO (A1 J J) (AQ (AU ?_))
   cases b34
   · exfalso; rw [hem] at h34; simp [ba_beq_self] at h34
   try simp only [tdy] at h34
   exact ⟨rn [], ⟨⟨⟨_, J, AH J⟩, O⟩, O, O, J⟩⟩
 try simp only [tdy] at h22
 have hpt := print_two h22
 have hpp := (parse_print hpt).1
 have hle := print_le x17
 refine Ab J (A8 (A9 (AO (A0 J J) ?_)))
 refine AO (HP J J J (AC.renum (res := .tup [.agg [.own 101, .own 102], .one (.c (.int .i64 ((Dw (BA x17).1).2.1))), .one (.c (.int .i64 ((Dw (BA x17).1).2.2)))]) (L := [(101, some (.arr 51 CN (Dw (BA x17).1).1.decls true)), (102, some (.arr 42 ruleE (Dw (BA x17).1).1.rules true))]) (r := rn [(101, 0), (102, 1)]) (parseI_c0 (BA x17).1 (by omega)) ⟨⟨_, J, BLe.rf⟩, ⟨_, J, BLe.rf⟩, O⟩ J) J AllV.rf J J J J J) ?_
 refine AO (A0 J J) (AO (B1 J J J) (AO (B1 J J J) (AO (B1 J J J) (AO (Aw (.agg #[.slice none 0 0, .slice none 0 0]) 103 J (by kernel_rfl) J J J J) (AO (Ap 2 J J J J (by kernel_rfl) J J J) (AO (A1 J J) (AO (A1 J J) (AQ (A8 (BD 101 103 0 J J J J ?_))))))))))
 refine BD 102 103 1 J J J J ?_
 refine A9 (AO (Au 2 J J J (by kernel_rfl) J J) (AO (AS J J J (printProgS_c (Dw (BA x17).1).1) J J) (AO (A0 J J) (AO (B1 J J J) ?_))))
 refine BG (B1 J J J) (fun b45 h45 => ?_)
 refine AO (A1 J J) (AO (A1 J J) (AQ (A8 (A9 (AO (A0 J J) ?_)))))
 refine BG (AR J J J) (fun b47 h47 => ?_)
 refine AO (A0 J J) ?_
 cases b47
 · exfalso; rw [hpp] at h47; simp at h47
 try simp only [tdy] at h47
 refine FH J J (A0 J J) (FH J J (A0 J J) ?_)
 refine AN_gb J J (DH J J J) (fun b51 h51 => ?_)
 refine AO (AJ J J J) (AO (A1 J J) (AQ (AU ?_)))
 cases b51
 · exfalso; rw [hpp] at h51; simp [ba_beq_self] at h51
 try simp only [tdy] at h51
 exact ⟨rn [], ⟨⟨⟨_, J, AH J⟩, O⟩, O, O, J⟩⟩
theorem lawFnPrint.walk (w : World) (a0 : Option Addr) (n0 c0 : Nat) (x0 : List Int) (bs0 : List Nat) (g0 : SliceRep (intE .u8) w a0 n0 c0 x0 bs0) : Calls Tryz.prog 3 #[.slice a0 n0 c0] w fun e w' => e = .returned (.bool true) ∧ Below w.heap.size w w' :=
 (lawFnPrint.fn x0).calls w _ ⟨arg_sl g0 (fun i hi => (Fh (intE .u8)).lt (sliceE_iff.2 g0) i hi), trivial⟩
end Go.Proofs.YtkemjhlbokldhaaGreat

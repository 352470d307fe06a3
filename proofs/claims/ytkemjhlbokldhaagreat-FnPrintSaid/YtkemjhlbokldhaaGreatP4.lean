/- Lemmas of the walks, part 4. -/
import Derived.Test.YtkemjhlbokldhaaGreatP3
namespace Go.Proofs.YtkemjhlbokldhaaGreat
open Go.RowKit
set_option linter.unusedVariables false
set_option linter.unusedSimpArgs false

theorem textN_numB {s : ByteArray} (h : Ds s = true) : Df (D9 s) = true := by
 unfold Ds at h
 unfold D9
 cases q : Dd s with
 | none => rw [q] at h; cases h
 | some n =>
   have := (textNum_some q).1
   unfold Df
   rw [decide_eq_true_eq]
   show 0 ≤ (n : Int) ∧ (n : Int) ≤ _
   omega
theorem wordTok_ok {s : ByteArray} {i e : Nat} {c k : Int} {t : Tokent} (h : DK s i e c = (some t, k)) : EL t := by
 unfold DK at h
 split at h
 · split at h
   · rename_i h1
     simp only [Prod.mk.injEq, Option.some.injEq] at h
     rw [← h.1]; exact .inr (.inr (.inl ⟨rfl, rfl, textN_numB h1⟩))
   · simp at h
 · split at h
   · rename_i h1
     simp only [Prod.mk.injEq, Option.some.injEq] at h
     rw [← h.1]; exact .inl ⟨rfl, rfl, h1⟩
   · split at h
     · rename_i h1
       simp only [Prod.mk.injEq, Option.some.injEq] at h
       rw [← h.1]; exact .inr (.inl ⟨rfl, h1⟩)
     · simp at h
theorem consL_ok {t : Tokent} {r : IU} (h : EL t) (h2 : ∀ x ∈ r.1, EL x) : ∀ x ∈ (Fl t r).1, EL x := by
 unfold Fl; split
 · intro x hx
   rcases List.mem_cons.1 hx with rfl | hx
   · exact h
   · exact h2 x hx
 · intro x hx; cases hx
theorem lexR_ok {s : ByteArray} (i : Nat) : ∀ x ∈ (lexR s i).1, EL x := by
 rw [lexR]
 split
 · rename_i h
   have hg := ET (s := s) i
   split
   · rename_i ha
     have hw := Et h ha
     split
     · rename_i t c ht
       exact consL_ok (wordTok_ok ht) (lexR_ok (Bp s (B3 s i)))
     · intro x hx; cases hx
   · split
     · intro x hx; cases hx
     · rename_i hy
       exact consL_ok (.inr (.inr (.inr rfl))) (lexR_ok (B3 s i + (C2 s (B3 s i)).size))
 · intro x hx; cases hx
termination_by s.size - i
theorem lexAll_ok (s : ByteArray) : ∀ x ∈ (AF s).1, EL x := by
 unfold AF; split
 · intro x hx; cases hx
 · exact lexR_ok 0
theorem consL_len' {t : Tokent} {r : IU} : (Fl t r).1.length ≤ r.1.length + 1 := by
 unfold Fl; split <;> simp
theorem lexR_len' {s : ByteArray} (i : Nat) : (lexR s i).1.length ≤ s.size - i := by
 rw [lexR]
 split
 · rename_i h
   have hg := ET (s := s) i
   split
   · rename_i ha
     have hw := Et h ha
     split
     · rename_i t c ht
       have ih := lexR_len' (s := s) (Bp s (B3 s i))
       have := consL_len' (t := t) (r := lexR s (Bp s (B3 s i)))
       have h2 := D5 (s := s) (B3 s i) (by omega)
       dsimp only; omega
     · simp
   · split
     · simp
     · rename_i hy
       have ih := lexR_len' (s := s) (B3 s i + (C2 s (B3 s i)).size)
       have := consL_len' (t := ⟨4, 0, C2 s (B3 s i), B3 s i⟩) (r := lexR s (B3 s i + (C2 s (B3 s i)).size))
       have h2 := symAt_size (s := s) (i := B3 s i) h
       dsimp only; omega
 · simp
termination_by s.size - i
theorem lexAll_len' (s : ByteArray) : (AF s).1.length ≤ 6000 := by
 unfold AF; split
 · simp
 · have := lexR_len' (s := s) 0; omega
section
variable {s : ByteArray}
theorem parseI_lex (h : ¬ (AF s).2.1 = 0) : Dw s = (⟨[], []⟩, (AF s).2.1, (AF s).2.2) := if_neg h
theorem parseS_lex (h : ¬ (AF s).2.1 = 0) : Dv s = (⟨[], []⟩, (AF s).2.1, (AF s).2.2) := if_neg h
theorem endR_ok {ds : List Declt} {rs : List Rulet} {st : PS} (h : st.code = 0) : Iv (ds, rs, st) = (⟨ds, rs⟩, 0, 0) := if_pos h
theorem endR_no {ds : List Declt} {rs : List Rulet} {st : PS} (h : ¬ st.code = 0) : Iv (ds, rs, st) = (⟨[], []⟩, st.code, st.place) := if_neg h
theorem I9 {r : ProgR} (h : (AF s).2.1 = 0) (hx : E7 (AF s).1 (s.size : Int) ⟨0, 0, 0⟩ [] [] = r) : Dw s = Iv r := (if_pos h).trans (congrArg Iv hx)
theorem I8 {r : ProgR} (h : (AF s).2.1 = 0) (hx : G8 (AF s).1 (s.size : Int) ⟨0, 0, 0⟩ [] [] = r) : Dv s = Iv r := (if_pos h).trans (congrArg Iv hx)
end
section
variable {tk : List Tokent} {e : Int}
theorem tok_term {t : Tokent} (h : EL t) (h4 : ¬ t.kind = 4) (h1 : ¬ t.kind = 1) : BN t = true := by
 rcases h with h | h | h | h
 · exact absurd h.1 h1
 · simp [BN, h.1]
 · simp [BN, h.1]
 · exact absurd h h4
theorem argsS_last' {st : PS} {a : List Termt} {b : Bool} (hb : decide ((a.length : Int) = 6) = b) (h0 : st.code = 0) (hl : a.length ≤ 6) (hs : Bt (AA tk e (AM tk e b st).2) ⟨#[44]⟩ = false) : Fe tk e (8 - a.length) st a = (a ++ [(AM tk e b st).1], (AM tk e b st).2) := by
 subst hb; exact argsS_last h0 hl hs
theorem argsS_more' {st : PS} {a : List Termt} {b : Bool} (hb : decide ((a.length : Int) = 6) = b) (h0 : st.code = 0) (hl : a.length ≤ 6) (hs : Bt (AA tk e (AM tk e b st).2) ⟨#[44]⟩ = true) :
   a.length + 1 ≤ 6 ∧ (AM tk e b st).2.i < tk.length ∧ Fe tk e (8 - (a ++ [(AM tk e b st).1]).length) (AM tk e b st).2.next (a ++ [(AM tk e b st).1]) = Fe tk e (8 - a.length) st a := by
 subst hb; exact argsS_more h0 hl hs
theorem Ec {st : PS} (h : ¬ (st.code = 0 ∧ st.i < tk.length)) : (AA tk e st).kind = 0 := by unfold AA; rw [dif_neg h]
theorem term_zero {t : Tokent} (h : t.kind = 0) : BN t = false := by simp [BN, BJ, h]
theorem IA {t : Tokent} (h : t.kind = 0) : BJ t = false := by simp [BJ, h]
theorem not_zero {t : Tokent} (h : t.kind = 0) : CP t = false := by simp [CP, h]
theorem begins_zero {t : Tokent} (h : t.kind = 0) : BL t = false := by simp [BL, CP, term_zero h, h]
theorem okU_zero : okU (tk := tk) ⟨0, 0, 0⟩ [] [] := ⟨⟨Nat.zero_le _, Nat.zero_le _⟩, fun _ => ⟨Nat.zero_le _, Nat.zero_le _, Nat.zero_le _⟩⟩
theorem okU_decl {st2 : PS} {ds : List Declt} {rs : List Rulet} {d : Declt} (hl : ds.length ≤ 16 ∧ rs.length ≤ 24) (h : st2.code = 0 → ds.length < 16 ∧ st2.i ≤ tk.length) : okU (tk := tk) st2 (ds ++ [d]) rs :=
 ⟨⟨by simp; omega, by omega⟩, fun hc => ⟨(h hc).2, by have := (h hc).1; simp; omega, hl.2⟩⟩
theorem Ij {st2 : PS} {ds : List Declt} {rs : List Rulet} {r : Rulet} (hl : ds.length ≤ 16 ∧ rs.length ≤ 24) (h : st2.code = 0 → rs.length < 24 ∧ st2.i ≤ tk.length) : okU (tk := tk) st2 ds (rs ++ [r]) :=
 ⟨⟨by omega, by simp; omega⟩, fun hc => ⟨(h hc).2, hl.1, by have := (h hc).1; simp; omega⟩⟩
theorem fullD_on {ds : List Declt} {st : PS} (h : (ds.length : Int) = 16) : FQ tk e ds st = Bg tk e 7 st := if_pos (by omega)
theorem fullD_off {ds : List Declt} {st : PS} (h : ¬ (ds.length : Int) = 16) : FQ tk e ds st = st := if_neg (by omega)
theorem Iu {rs : List Rulet} {st : PS} (h : Bo (AA tk e st) = true) (h2 : (rs.length : Int) = 24) : EN tk e rs st = Bg tk e 7 st := if_pos ⟨h, by omega⟩
theorem Ft {rs : List Rulet} {st : PS} (h : ¬ (Bo (AA tk e st) = true ∧ (rs.length : Int) = 24)) : EN tk e rs st = st := if_neg fun q => h ⟨q.1, by omega⟩
theorem opS_at {t : Tokent} {k : Nat} (hk : k < opL4.length) (h : Bt t opL4[k] = true) : opS t = (k : Int) + 1 := by
 simp only [Bt, Bool.and_eq_true, decide_eq_true_eq] at h
 unfold opS; rw [if_pos h.1]; exact op_at hk (ba_iff.1 h.2)
theorem opS_none {t : Tokent} {k : Nat} (hk : 4 ≤ k) (h : NoneTo (fun x => Bt t x) opL4 k) : opS t = 0 := by
 unfold opS
 split
 · rename_i h1
   refine op_none hk fun j hj hjk => ?_
   have := h j hj hjk
   simpa [Bt, h1] using this
 · rfl
theorem kindS_at {t : Tokent} {k : Nat} (hk : k < kindL3.length) (h1 : t.kind = 1) (h : (t.s == kindL3[k]) = true) : CS t = (k : Int) + 1 := by
 unfold CS; rw [if_pos h1]; exact kind_at hk (ba_iff.1 h)
theorem kindS_none {t : Tokent} {k : Nat} (hk : 3 ≤ k) (h : NoneTo (fun x => decide (t.kind = 1) && t.s == x) kindL3 k) : CS t = 0 := by
 unfold CS
 split
 · rename_i h1
   refine kind_none hk fun j hj hjk => ?_
   have := h j hj hjk
   simpa [h1] using this
 · rfl
end
end Go.Proofs.YtkemjhlbokldhaaGreat

namespace Go.Proofs.YtkemjhlbokldhaaGreat
open Go.RowKit
set_option linter.unusedVariables false

theorem Hf {P : Program} {N : Nat} {K : List Nat} {c1 c2 : Code} {Kn : St → Prop} {Q : Exit → St → Prop} {s : St} {ι : Type} (U : ι → DV) (V : ι → Locs) (ks ls : List Nat)
   (h1 : AW P N K c1 (fun s' => ∃ j r', LeS K r' s' ⟨U j ++ Ip s.t ks, V j ++ Iq s.l ls⟩) Q s) (h2 : ∀ j, AW P N K c2 Kn Q ⟨U j ++ Ip s.t ks, V j ++ Iq s.l ls⟩) : AW P N K (.seq c1 c2) Kn Q s :=
 A8 (AW_mono (fun s' ⟨j, r', hle⟩ => AW_le hle (h2 j)) (fun _ _ h => h) h1)
end Go.Proofs.YtkemjhlbokldhaaGreat

namespace Go.Proofs.YtkemjhlbokldhaaGreat
open Go.RowKit
set_option linter.unusedVariables false
set_option linter.unusedSimpArgs false
set_option maxRecDepth 100000

set_option maxHeartbeats 4000000 in
theorem Cb (tk : List Tokent) (e : Int) (st : PS) (hm : tk.length ≤ 1048576) (hi : st.i ≤ tk.length) (c : Int) : AC Tryz.prog 82 [.one (.ptr 200 0), .one (.c (.int .i64 (c)))] [(200, some (psB tk e st))] (.tup []) [(200, some (psB tk e (Bg tk e c st)))] := by
 refine AC_body0 Tryz.func82 J J Tryz.ntmps82 J Tryz.results82 ?_
 refine A8 (Aa (Az (A0 J J) (Az (AI J J J) (Az (Ao 3 3 J J J (by kernel_rfl) J) (Az (A4 J J J (by kernel_rfl) J) ?_)))))
 refine Bd (EK J J J) (fun b8 h8 => ?_)
 refine A2 ?_
 cases b8
 rotate_left
 · try simp only [tdy] at h8
   have hno := Fu (tk := tk) (e := e) (c := c) (st := st) (by omega)
   refine A5 J (AU ?_)
   exact ⟨rn [], ⟨O, ⟨⟨_, J, by first | exact BLe.rf | exact AE (by rw [hno]; first | done | rfl)⟩, O⟩, ⟨⟨J, .inl nofun, fun _ _ => ⟨_, J⟩⟩, O⟩, J⟩⟩
 try simp only [tdy] at h8
 have hn1 := fault_ok (tk := tk) (e := e) (c := c) (st := st) (by omega)
 refine Ab J (Aa (Az (A0 J J) (Az (A0 J J) (Az (AI J J J) (Az (Ao 3 3 J J J (by kernel_rfl) J) (Az (Ap 1 J J J J (by kernel_rfl) J J J) (Ad (Az (A0 J J) (Az (A0 J J) (Az (AI J J J) (Az (Ao 2 2 J J J (by kernel_rfl) J) (Az (A4 J J J (by kernel_rfl) J) (Az (AI J J J) (Az (Ao 4 4 J J J (by kernel_rfl) J) (Az (Ap 1 J J J J (by kernel_rfl) J J J) (A2 (A8 (Bw J (Az (A0 J J) (Az (AI J J J) (Az (Ao 1 1 J J J (by kernel_rfl) J) (Az (A4 J J J (by kernel_rfl) J) (Az (A0 J J) ?_)))))))))))))))))))))))
 refine Az (AI J J J) (Az (Ao 0 0 J J J (by kernel_rfl) J) (Az (A4 J J J (by kernel_rfl) J) (Az (Ak 62 4 J J (by kernel_rfl)) ?_)))
 refine Bd (BI J J J) (fun b29 h29 => ?_)
 refine Bj (by kernel_rfl) ?_
 cases b29
 · try simp only [tdy] at h29
   have hno := hn1.trans (by rw [here_end (by omega)])
   refine Ab J ?_
   exact ⟨rn [], ⟨O, ⟨⟨_, J, by first | exact BLe.rf | exact AE (by rw [hno]; first | done | rfl)⟩, O⟩, ⟨⟨J, .inl nofun, fun _ _ => ⟨_, J⟩⟩, O⟩, J⟩⟩
 try simp only [tdy] at h29
 have hh : AA tk e st = (tk[st.i]'(by omega)) := EC (by omega) (by omega)
 have hno := hn1.trans (by rw [hh])
 refine A5 J (Bw J (Az (A0 J J) (Az (A0 J J) (Az (AI J J J) (Az (Ao 0 0 J J J (by kernel_rfl) J) (Az (A4 J J J (by kernel_rfl) J) (Az (A0 J J) (Az (AI J J J) (Az (Ao 1 1 J J J (by kernel_rfl) J) (Az (A4 J J J (by kernel_rfl) J) ?_))))))))))
 refine Az (Am 62 4 st.i J J J (by kernel_rfl) J (by omega) (by omega)) ?_
 refine Az (CM (off := 3) (o' := 3) J J (by kernel_rfl) J) (Az (BW J J (by kernel_rfl) J) (Az (AI J J J) (Az (Ao 4 4 J J J (by kernel_rfl) J) (Az (Ap 1 J J J J (by kernel_rfl) J J J) (Bj (by kernel_rfl) ?_)))))
 exact ⟨rn [], ⟨O, ⟨⟨_, J, by first | exact BLe.rf | exact AE (by rw [hno]; first | done | rfl)⟩, O⟩, ⟨⟨J, .inl nofun, fun _ _ => ⟨_, J⟩⟩, O⟩, J⟩⟩

set_option maxHeartbeats 4000000 in
theorem sIs_c (tk : List Tokent) (e : Int) (st : PS) (hm : tk.length ≤ 1048576) (j : Nat) (s : ByteArray) : AC Tryz.prog 84 [.one (.ptr 200 0), .one (.c (.int .i64 ((j : Int)))), .one (.c (.string (s)))] [(200, some (psB tk e st))] (.one (.c (.bool (Bt (AA tk e (⟨j, st.code, st.place⟩ : PS)) s)))) [(200, some (psB tk e st))] := by
 refine Bn Tryz.func84 J J Tryz.ntmps84 J Tryz.results84 ?_
 refine Aa (Az (A1 J J) (Ad (Az (A0 J J) (Az (AI J J J) (Az (Ao 3 3 J J J (by kernel_rfl) J) (Az (A4 J J J (by kernel_rfl) J) ?_))))))
 refine Bd (AR J J J) (fun b11 h11 => ?_)
 refine Az (A0 J J) ?_
 cases b11
 · try simp only [tdy] at h11
   have hh := Cq (tk := tk) (e := e) (st := (⟨j, st.code, st.place⟩ : PS)) h11
   refine A3 J J J J (A3 J J J J (A3 J J J J (A3 J J J J (A3 J J J J (A3 J J J J (A3 J J J J (Az (AD J J J) (Az (A0 J J) (A3 J J J J (A3 J J J J (A3 J J J J (A3 J J J J (A3 J J J J (A3 J J J J (A3 J J J J (A3 J J J J (A3 J J J J (Az (AD J J J) (Az (A0 J J) (A3 J J J J (A3 J J J J (A3 J J J J (A3 J J J J ?_)))))))))))))))))))))))
   refine A3 J J J J (A3 J J J J (A3 J J J J (A3 J J J J (A3 J J J J (A3 J J J J (Az (AD J J J) (Az (A1 J J) (Ae ?_))))))))
   exact ⟨rn [], ⟨⟨⟨_, J, AH (by rw [hh]; simp [Bt, *])⟩, O⟩, ⟨⟨_, J, by first | exact BLe.rf | exact AE (by rw [hno]; first | done | rfl)⟩, O⟩, ⟨⟨J, .inl nofun, fun _ _ => ⟨_, J⟩⟩, O⟩, J⟩⟩
 try simp only [tdy] at h11
 refine AB J J (A0 J J) (AB J J (A0 J J) (AB J J (AI J J J) (AB J J (Ao 0 0 J J J (by kernel_rfl) J) (AB J J (A4 J J J (by kernel_rfl) J) (AB J J (Ak 62 4 J J (by kernel_rfl)) ?_)))))
 refine Bh J J (BI J J J) (fun b19 h19 => ?_)
 refine Az (AJ J J J) (Az (A0 J J) ?_)
 cases b19
 · try simp only [tdy] at h19
   have hh := here_end (tk := tk) (e := e) (st := (⟨j, st.code, st.place⟩ : PS)) (by show ¬ j < _; omega)
   refine A3 J J J J (A3 J J J J (A3 J J J J (A3 J J J J (A3 J J J J (A3 J J J J (A3 J J J J (A3 J J J J (A3 J J J J (Az (AD J J J) (Az (A0 J J) (A3 J J J J (A3 J J J J (A3 J J J J (A3 J J J J (A3 J J J J (A3 J J J J (A3 J J J J (A3 J J J J (A3 J J J J (A3 J J J J (Az (AD J J J) (Az (A1 J J) (Ae ?_)))))))))))))))))))))))
   exact ⟨rn [], ⟨⟨⟨_, J, AH (by rw [hh]; simp [Bt, *])⟩, O⟩, ⟨⟨_, J, by first | exact BLe.rf | exact AE (by rw [hno]; first | done | rfl)⟩, O⟩, ⟨⟨J, .inl nofun, fun _ _ => ⟨_, J⟩⟩, O⟩, J⟩⟩
 try simp only [tdy] at h19
 have hh := EC (tk := tk) (e := e) (st := (⟨j, st.code, st.place⟩ : PS)) h11 (by show j < _; omega)
 refine AB J J (A0 J J) (AB J J (AI J J J) (AB J J (Ao 0 0 J J J (by kernel_rfl) J) (AB J J (A4 J J J (by kernel_rfl) J) (AB J J (A0 J J) ?_))))
 refine AB J J (Am 62 4 j J J J (by kernel_rfl) J (by omega) (by omega)) ?_
 refine AB J J (CM (off := 0) (o' := 0) J J (by kernel_rfl) J) (AB J J (BW J J (by kernel_rfl) J) ?_)
 refine Bh J J (AR J J J) (fun b30 h30 => ?_)
 refine Az (AJ J J J) (Az (A0 J J) ?_)
 cases b30
 · try simp only [tdy] at h30
   refine A3 J J J J (A3 J J J J (A3 J J J J (A3 J J J J (A3 J J J J (A3 J J J J (A3 J J J J (A3 J J J J (A3 J J J J (A3 J J J J (Az (AD J J J) (Az (A1 J J) (Ae ?_))))))))))))
   exact ⟨rn [], ⟨⟨⟨_, J, AH (by rw [hh]; simp [Bt, *])⟩, O⟩, ⟨⟨_, J, by first | exact BLe.rf | exact AE (by rw [hno]; first | done | rfl)⟩, O⟩, ⟨⟨J, .inl nofun, fun _ _ => ⟨_, J⟩⟩, O⟩, J⟩⟩
 try simp only [tdy] at h30
 refine AB J J (A0 J J) (AB J J (AI J J J) (AB J J (Ao 0 0 J J J (by kernel_rfl) J) (AB J J (A4 J J J (by kernel_rfl) J) (AB J J (A0 J J) ?_))))
 refine AB J J (Am 62 4 j J J J (by kernel_rfl) J (by omega) (by omega)) ?_
 refine AB J J (CM (off := 2) (o' := 2) J J (by kernel_rfl) J) (AB J J (BW J J (by kernel_rfl) J) (AB J J (A0 J J) ?_))
 refine Bh J J (DH J J J) (fun b42 h42 => ?_)
 refine Az (AJ J J J) (Az (A1 J J) (Ae ?_))
 cases b42
 rotate_left
 · try simp only [tdy] at h42
   exact ⟨rn [], ⟨⟨⟨_, J, AH (by rw [hh]; simp [Bt, *])⟩, O⟩, ⟨⟨_, J, by first | exact BLe.rf | exact AE (by rw [hno]; first | done | rfl)⟩, O⟩, ⟨⟨J, .inl nofun, fun _ _ => ⟨_, J⟩⟩, O⟩, J⟩⟩
 try simp only [tdy] at h42
 exact ⟨rn [], ⟨⟨⟨_, J, AH (by rw [hh]; simp [Bt, *])⟩, O⟩, ⟨⟨_, J, by first | exact BLe.rf | exact AE (by rw [hno]; first | done | rfl)⟩, O⟩, ⟨⟨J, .inl nofun, fun _ _ => ⟨_, J⟩⟩, O⟩, J⟩⟩

theorem Fx (tk : List Tokent) (e : Int) (st : PS) (hm : tk.length ≤ 1048576) (hi : st.i ≤ tk.length) (s : ByteArray) : AC Tryz.prog 84 [.one (.ptr 200 0), .one (.c (.int .i64 (((st.i : Nat) : Int)))), .one (.c (.string (s)))] [(200, some (psB tk e st))] (.one (.c (.bool (Bt (AA tk e st) s)))) [(200, some (psB tk e st))] := sIs_c tk e st hm st.i s

theorem sIsN_c (tk : List Tokent) (e : Int) (st : PS) (hm : tk.length ≤ 1048576) (hi : st.i ≤ tk.length) (s : ByteArray) : AC Tryz.prog 84 [.one (.ptr 200 0), .one (.c (.int .i64 (((st.i : Nat) : Int) + 1))), .one (.c (.string (s)))] [(200, some (psB tk e st))] (.one (.c (.bool (Bt (AA tk e st.next) s)))) [(200, some (psB tk e st))] := sIs_c tk e st hm (st.i + 1) s

set_option maxHeartbeats 4000000 in
theorem Gr (tk : List Tokent) (e : Int) (st : PS) (hm : tk.length ≤ 1048576) (hi : st.i ≤ tk.length) (s : ByteArray) : AC Tryz.prog 103 [.one (.ptr 200 0), .one (.c (.string (s)))] [(200, some (psB tk e st))] (.tup []) [(200, some (psB tk e (BY tk e s st)))] := by
 refine AC_body0 Tryz.func103 J J Tryz.ntmps103 J Tryz.results103 ?_
 refine A8 (Aa (Az (A0 J J) (Az (A0 J J) (Az (AI J J J) (Az (Ao 1 1 J J J (by kernel_rfl) J) (Az (A4 J J J (by kernel_rfl) J) (Az (A0 J J) ?_)))))))
 refine Dk (Aj J J J (Fx tk e st hm hi s) J J J J) (fun b10 h10 => ?_)
 refine Az (Cn J J) (A2 ?_)
 cases b10
 · try simp only [tdy] at h10
   have hno := take_no h10
   refine A5 J (Aa (Az (A0 J J) (Az (Aj J J J (Cb tk e st hm hi 6) J J J J) (Ae ?_))))
   exact ⟨rn [], ⟨O, ⟨⟨_, J, by first | exact BLe.rf | exact AE (by rw [hno]; first | done | rfl)⟩, O⟩, ⟨⟨J, .inl nofun, fun _ _ => ⟨_, J⟩⟩, O⟩, J⟩⟩
 try simp only [tdy] at h10
 have hno := take_ok h10
 have hlt := Ck h10
 refine Ab J (AG (Az (A0 J J) (Az (AI J J J) (Az (Ao 1 1 J J J (by kernel_rfl) J) (Az (A4 J J J (by kernel_rfl) J) ?_)))))
 refine Az (Bl J J J (IntWalk.i64_in _ (by omega))) ?_
 refine Az (AI J J J) (Az (Ao 1 1 J J J (by kernel_rfl) J) (Az (Ap 1 J J J J (by kernel_rfl) J J J) (A2 ?_)))
 exact ⟨rn [], ⟨O, ⟨⟨_, J, by first | exact BLe.rf | exact AE (by rw [hno]; first | done | rfl)⟩, O⟩, ⟨⟨J, .inl nofun, fun _ _ => ⟨_, J⟩⟩, O⟩, J⟩⟩

set_option maxHeartbeats 4000000 in
theorem sWord_c (tk : List Tokent) (e : Int) (st : PS) (hm : tk.length ≤ 1048576) (hi : st.i ≤ tk.length) : AC Tryz.prog 102 [.one (.ptr 200 0)] [(200, some (psB tk e st))] (.one (.c (.string ((BK tk e st).1)))) [(200, some (psB tk e (BK tk e st).2))] := by
 refine Bn Tryz.func102 J J Tryz.ntmps102 J Tryz.results102 ?_
 refine Aa (Az (A1 J J) (A2 (A8 (A8 (Bw J (Az (A0 J J) (Az (AI J J J) (Az (Ao 3 3 J J J (by kernel_rfl) J) (Az (A4 J J J (by kernel_rfl) J) ?_)))))))))
 refine Bd (EK J J J) (fun b7 h7 => ?_)
 refine Az (A0 J J) ?_
 cases b7
 rotate_left
 · try simp only [tdy] at h7
   have h0k : (AA tk e st).kind = 0 := Ec (fun q => by omega)
   have hnm : BJ (AA tk e st) = false := IA h0k
   have hno := HQ hnm
   refine A3 J J J J (A3 J J J J (A3 J J J J (A3 J J J J (A3 J J J J (A3 J J J J (A3 J J J J (A3 J J J J (A3 J J J J (A3 J J J J (Az (AJ J J J) (Az (A0 J J) (A3 J J J J (A3 J J J J (A3 J J J J (A3 J J J J (A3 J J J J (A3 J J J J (A3 J J J J (A3 J J J J (A3 J J J J (A3 J J J J (A3 J J J J (A3 J J J J ?_)))))))))))))))))))))))
   refine Az (AJ J J J) (Az (A0 J J) (A3 J J J J (A3 J J J J (A3 J J J J (A3 J J J J (A3 J J J J (A3 J J J J (A3 J J J J (A3 J J J J (A3 J J J J (A3 J J J J (A3 J J J J (A3 J J J J (Az (AJ J J J) (Bj (by kernel_rfl) ?_)))))))))))))))
   refine A5 J (Aa (Az (A0 J J) (Az (Aj J J J (Cb tk e st hm hi 6) J J J J) (Ad (Az (A1 J J) (Ae ?_))))))
   exact ⟨rn [], ⟨⟨⟨_, J, Bu (by rw [hno])⟩, O⟩, ⟨⟨_, J, by first | exact BLe.rf | exact AE (by rw [hno]; first | done | rfl)⟩, O⟩, ⟨⟨J, .inl nofun, fun _ _ => ⟨_, J⟩⟩, O⟩, J⟩⟩
 try simp only [tdy] at h7
 refine AB J J (A0 J J) (AB J J (AI J J J) (AB J J (Ao 1 1 J J J (by kernel_rfl) J) (AB J J (A4 J J J (by kernel_rfl) J) (AB J J (A0 J J) (AB J J (AI J J J) (AB J J (Ao 0 0 J J J (by kernel_rfl) J) (AB J J (A4 J J J (by kernel_rfl) J) (AB J J (Ak 62 4 J J (by kernel_rfl)) ?_))))))))
 refine Bh J J (Ee J J J) (fun b18 h18 => ?_)
 refine Az (AD J J J) (Az (A0 J J) ?_)
 cases b18
 rotate_left
 · try simp only [tdy] at h18
   have h0k : (AA tk e st).kind = 0 := Ec (fun q => by omega)
   have hnm : BJ (AA tk e st) = false := IA h0k
   have hno := HQ hnm
   refine A3 J J J J (A3 J J J J (A3 J J J J (A3 J J J J (A3 J J J J (A3 J J J J (A3 J J J J (A3 J J J J (A3 J J J J (A3 J J J J (A3 J J J J (A3 J J J J (Az (AJ J J J) (Az (A0 J J) (A3 J J J J (A3 J J J J (A3 J J J J (A3 J J J J (A3 J J J J (A3 J J J J (A3 J J J J (A3 J J J J (A3 J J J J (A3 J J J J ?_)))))))))))))))))))))))
   refine A3 J J J J (A3 J J J J (Az (AJ J J J) (Bj (by kernel_rfl) ?_)))
   refine A5 J (Aa (Az (A0 J J) (Az (Aj J J J (Cb tk e st hm hi 6) J J J J) (Ad (Az (A1 J J) (Ae ?_))))))
   exact ⟨rn [], ⟨⟨⟨_, J, Bu (by rw [hno])⟩, O⟩, ⟨⟨_, J, by first | exact BLe.rf | exact AE (by rw [hno]; first | done | rfl)⟩, O⟩, ⟨⟨J, .inl nofun, fun _ _ => ⟨_, J⟩⟩, O⟩, J⟩⟩
 try simp only [tdy] at h18
 have hh : AA tk e st = (tk[st.i]'(by omega)) := EC (by omega) (by omega)
 refine AB J J (A0 J J) (AB J J (AI J J J) (AB J J (Ao 0 0 J J J (by kernel_rfl) J) (AB J J (A4 J J J (by kernel_rfl) J) (AB J J (A0 J J) (AB J J (AI J J J) (AB J J (Ao 1 1 J J J (by kernel_rfl) J) (AB J J (A4 J J J (by kernel_rfl) J) ?_)))))))
 refine AB J J (Am 62 4 st.i J J J (by kernel_rfl) J (by omega) (by omega)) ?_
 refine AB J J (CM (off := 0) (o' := 0) J J (by kernel_rfl) J) (AB J J (BW J J (by kernel_rfl) J) ?_)
 refine Bh J J (EK J J J) (fun b32 h32 => ?_)
 refine Az (AD J J J) (Az (A0 J J) ?_)
 cases b32
 rotate_left
 · try simp only [tdy] at h32
   have hnm : BJ (AA tk e st) = false := by rw [hh]; simp [BJ, h32]
   have hno := HQ hnm
   refine A3 J J J J (A3 J J J J (A3 J J J J (A3 J J J J (A3 J J J J (A3 J J J J (A3 J J J J (A3 J J J J (A3 J J J J (A3 J J J J (A3 J J J J (A3 J J J J (Az (AJ J J J) (Bj (by kernel_rfl) ?_)))))))))))))
   refine A5 J (Aa (Az (A0 J J) (Az (Aj J J J (Cb tk e st hm hi 6) J J J J) (Ad (Az (A1 J J) (Ae ?_))))))
   exact ⟨rn [], ⟨⟨⟨_, J, Bu (by rw [hno])⟩, O⟩, ⟨⟨_, J, by first | exact BLe.rf | exact AE (by rw [hno]; first | done | rfl)⟩, O⟩, ⟨⟨J, .inl nofun, fun _ _ => ⟨_, J⟩⟩, O⟩, J⟩⟩
 try simp only [tdy] at h32
 refine AB J J (A0 J J) (AB J J (AI J J J) (AB J J (Ao 0 0 J J J (by kernel_rfl) J) (AB J J (A4 J J J (by kernel_rfl) J) (AB J J (A0 J J) (AB J J (AI J J J) (AB J J (Ao 1 1 J J J (by kernel_rfl) J) (AB J J (A4 J J J (by kernel_rfl) J) ?_)))))))
 refine AB J J (Am 62 4 st.i J J J (by kernel_rfl) J (by omega) (by omega)) ?_
 refine AB J J (CM (off := 2) (o' := 2) J J (by kernel_rfl) J) (AB J J (BW J J (by kernel_rfl) J) ?_)
 refine Bh J J (AS J J J (Ht _) J J) (fun b46 h46 => ?_)
 refine Az (AD J J J) (Bj (by kernel_rfl) ?_)
 cases b46
 rotate_left
 · try simp only [tdy] at h46
   have hnm : BJ (AA tk e st) = false := by rw [hh]; simp [BJ, h46]
   have hno := HQ hnm
   refine A5 J (Aa (Az (A0 J J) (Az (Aj J J J (Cb tk e st hm hi 6) J J J J) (Ad (Az (A1 J J) (Ae ?_))))))
   exact ⟨rn [], ⟨⟨⟨_, J, Bu (by rw [hno])⟩, O⟩, ⟨⟨_, J, by first | exact BLe.rf | exact AE (by rw [hno]; first | done | rfl)⟩, O⟩, ⟨⟨J, .inl nofun, fun _ _ => ⟨_, J⟩⟩, O⟩, J⟩⟩
 try simp only [tdy] at h46
 have hnm : BJ (AA tk e st) = true := by rw [hh]; simp [BJ, h46]; omega
 have hlt := name_lt hnm
 have hno := (word_ok hnm).trans (by rw [hh])
 refine Ab J (Aa (Az (A0 J J) (Az (AI J J J) (Az (Ao 1 1 J J J (by kernel_rfl) J) (Az (A4 J J J (by kernel_rfl) J) ?_)))))
 refine Az (Bl J J J (IntWalk.i64_in _ (by omega))) ?_
 refine Az (AI J J J) (Az (Ao 1 1 J J J (by kernel_rfl) J) (Az (Ap 1 J J J J (by kernel_rfl) J J J) (A2 (A8 (Bw J (Az (A0 J J) (Az (AI J J J) (Az (Ao 0 0 J J J (by kernel_rfl) J) (Az (A4 J J J (by kernel_rfl) J) (Az (A0 J J) (Az (AI J J J) (Az (Ao 1 1 J J J (by kernel_rfl) J) (Az (A4 J J J (by kernel_rfl) J) ?_)))))))))))))
 refine Az (HO J J J (IntWalk.i64_in _ (by omega))) ?_
 refine Az (Am 62 4 st.i J J J (by kernel_rfl) J (by omega) (by omega)) ?_
 refine Az (CM (off := 2) (o' := 2) J J (by kernel_rfl) J) (Az (BW J J (by kernel_rfl) J) (Az (A1 J J) (Bj (by kernel_rfl) ?_)))
 refine AU ?_
 exact ⟨rn [], ⟨⟨⟨_, J, Bu (by rw [hno])⟩, O⟩, ⟨⟨_, J, by first | exact BLe.rf | exact AE (by rw [hno]; first | done | rfl)⟩, O⟩, ⟨⟨J, .inl nofun, fun _ _ => ⟨_, J⟩⟩, O⟩, J⟩⟩

set_option maxHeartbeats 4000000 in
theorem D6 (tk : List Tokent) (e : Int) (st : PS) (hm : tk.length ≤ 1048576) (hi : st.i ≤ tk.length) (hok : ∀ t ∈ tk, EL t) (b901 : Bool) : AC Tryz.prog 114 [.one (.ptr 200 0), .one (.c (.bool (b901)))] [(200, some (psB tk e st))] (.agg (Fi (AM tk e b901 st).1)) [(200, some (psB tk e (AM tk e b901 st).2))] := by
 refine En (n := 3) (k := 9) (T := [(4, .one (.ptr 9 0))]) (Lf := ((9, some (.box (Fi (AM tk e b901 st).1))) :: [(200, some (psB tk e (AM tk e b901 st).2))])) Tryz.func114 J J Tryz.ntmps114 J Tryz.results114 J J (by kernel_rfl) J J ⟨O, (by repeat (first | exact trivial | refine ⟨⟨_, J, BLe.rf⟩, ?_⟩)), (Af J), J⟩ ?_
 refine Aa (Az (Aw (.agg #[.string ⟨#[]⟩, .int .i64 0, .string ⟨#[]⟩]) 100 J (by kernel_rfl) J J J J) (A2 (A8 (A8 (Bw J (Az (A0 J J) (Az (AI J J J) (Az (Ao 3 3 J J J (by kernel_rfl) J) (Az (A4 J J J (by kernel_rfl) J) ?_)))))))))
 refine Bd (EK J J J) (fun b10 h10 => ?_)
 refine Az (A0 J J) ?_
 cases b10
 rotate_left
 · try simp only [tdy] at h10
   have h0k : (AA tk e st).kind = 0 := Ec (fun q => by omega)
   have htm : BN (AA tk e st) = false := term_zero h0k
   have hno := FI (b := b901) htm
   refine A3 J J J J (A3 J J J J (A3 J J J J (A3 J J J J (A3 J J J J (A3 J J J J (A3 J J J J (A3 J J J J (A3 J J J J (A3 J J J J (Az (AJ J J J) (Bj (by kernel_rfl) ?_)))))))))))
   refine A5 J (Aa (Az (A0 J J) (Az (Aj J J J (Cb tk e st hm hi 6) J J J J) (Ad (Az (Al [.string ⟨#[]⟩, .int .i64 0, .string ⟨#[]⟩] [(0, 1), (1, 2)] J (by kernel_rfl) J J J J J) (Az (Ap 3 J J J J (by kernel_rfl) J J J) (Ae ?_)))))))
   exact ⟨rn [(9, 100)], ⟨⟨⟨_, J, VLe.rf⟩, O⟩, ⟨⟨_, J, by first | exact BLe.rf | exact AE (by rw [hno]; first | done | rfl)⟩, ⟨_, J, by first | exact BLe.rf | exact AE (by rw [hno]; first | done | rfl)⟩, O⟩, ⟨⟨J, .inl nofun, fun _ _ => ⟨_, J⟩⟩, O⟩, J⟩⟩
 try simp only [tdy] at h10
 refine AB J J (A0 J J) (AB J J (AI J J J) (AB J J (Ao 1 1 J J J (by kernel_rfl) J) (AB J J (A4 J J J (by kernel_rfl) J) (AB J J (A0 J J) (AB J J (AI J J J) (AB J J (Ao 0 0 J J J (by kernel_rfl) J) (AB J J (A4 J J J (by kernel_rfl) J) (AB J J (Ak 62 4 J J (by kernel_rfl)) ?_))))))))
 refine Bh J J (Ee J J J) (fun b21 h21 => ?_)
 refine Az (AD J J J) (Bj (by kernel_rfl) ?_)
 cases b21
 rotate_left
 · try simp only [tdy] at h21
   have h0k : (AA tk e st).kind = 0 := Ec (fun q => by omega)
   have htm : BN (AA tk e st) = false := term_zero h0k
   have hno := FI (b := b901) htm
   refine A5 J (Aa (Az (A0 J J) (Az (Aj J J J (Cb tk e st hm hi 6) J J J J) (Ad (Az (Al [.string ⟨#[]⟩, .int .i64 0, .string ⟨#[]⟩] [(0, 1), (1, 2)] J (by kernel_rfl) J J J J J) (Az (Ap 3 J J J J (by kernel_rfl) J J J) (Ae ?_)))))))
   exact ⟨rn [(9, 100)], ⟨⟨⟨_, J, VLe.rf⟩, O⟩, ⟨⟨_, J, by first | exact BLe.rf | exact AE (by rw [hno]; first | done | rfl)⟩, ⟨_, J, by first | exact BLe.rf | exact AE (by rw [hno]; first | done | rfl)⟩, O⟩, ⟨⟨J, .inl nofun, fun _ _ => ⟨_, J⟩⟩, O⟩, J⟩⟩
 try simp only [tdy] at h21
 have hh : AA tk e st = (tk[st.i]'(by omega)) := EC (by omega) (by omega)
 have hto := hok _ (List.getElem_mem (l := tk) (n := st.i) (by omega))
 refine Ab J (A8 (Bw J (Az (A0 J J) (Az (AI J J J) (Az (Ao 0 0 J J J (by kernel_rfl) J) (Az (A4 J J J (by kernel_rfl) J) (Az (A0 J J) (Az (AI J J J) (Az (Ao 1 1 J J J (by kernel_rfl) J) (Az (A4 J J J (by kernel_rfl) J) ?_))))))))))
 refine Az (Am 62 4 st.i J J J (by kernel_rfl) J (by omega) (by omega)) ?_
 refine Az (Co (n := 4) J J (by kernel_rfl) J) (Az (Aw (.agg #[.int .i64 0, .int .i64 0, .string ⟨#[]⟩, .int .i64 0]) 101 J (by kernel_rfl) J J J J) (Az (Ap 4 J J J J (by kernel_rfl) J J J) (Bj (by kernel_rfl) ?_)))
 refine A8 (Aa (Az (Ao 0 0 J J J (by kernel_rfl) J) (Az (A4 J J J (by kernel_rfl) J) ?_)))
 refine Bd (AR J J J) (fun b38 h38 => ?_)
 refine Az (A0 J J) ?_
 cases b38
 rotate_left
 · try simp only [tdy] at h38
   have htm : BN (AA tk e st) = false := by rw [hh]; simp [BN, BJ, h38]
   have hno := FI (b := b901) htm
   refine A3 J J J J (A3 J J J J (A3 J J J J (A3 J J J J (Dc J J J (Dc J J J (Dc J J J (A3 J J J J (Az (AJ J J J) (A2 (A5 J (Aa (Az (A0 J J) (Az (Aj J J J (Cb tk e st hm hi 6) J J J J) (Ad (Az (Al [.string ⟨#[]⟩, .int .i64 0, .string ⟨#[]⟩] [(0, 1), (1, 2)] J (by kernel_rfl) J J J J J) (Az (Ap 3 J J J J (by kernel_rfl) J J J) (Ae ?_)))))))))))))))))
   exact ⟨rn [(9, 100)], ⟨⟨⟨_, J, VLe.rf⟩, O⟩, ⟨⟨_, J, by first | exact BLe.rf | exact AE (by rw [hno]; first | done | rfl)⟩, ⟨_, J, by first | exact BLe.rf | exact AE (by rw [hno]; first | done | rfl)⟩, O⟩, ⟨⟨J, .inl nofun, fun _ _ => ⟨_, J⟩⟩, O⟩, J⟩⟩
 try simp only [tdy] at h38
 refine AB J J (Ao 0 0 J J J (by kernel_rfl) J) (AB J J (A4 J J J (by kernel_rfl) J) ?_)
 refine Bh J J (AR J J J) (fun b42 h42 => ?_)
 refine AB J J (A0 J J) ?_
 cases b42
 · try simp only [tdy] at h42
   have htm : BN (AA tk e st) = true := by rw [hh]; exact tok_term hto h38 h42
   have hlt := term_lt htm
   refine A3 J J J J (A3 J J J J (A3 J J J J (AB J J (AD J J J) (Az (AD J J J) (A2 (Ab J (A8 (Aa (Az (A0 J J) (A2 ?_))))))))))
   cases b901
   rotate_left
   · try simp only [tdy] at h901
     have hno := term_over htm
     refine A5 J (Aa (Az (A0 J J) (Az (Aj J J J (Cb tk e st hm hi 7) J J J J) (Ad (Az (Al [.string ⟨#[]⟩, .int .i64 0, .string ⟨#[]⟩] [(0, 1), (1, 2)] J (by kernel_rfl) J J J J J) (Az (Ap 3 J J J J (by kernel_rfl) J J J) (Ae ?_)))))))
     exact ⟨rn [(9, 100)], ⟨⟨⟨_, J, VLe.rf⟩, O⟩, ⟨⟨_, J, by first | exact BLe.rf | exact AE (by rw [hno]; first | done | rfl)⟩, ⟨_, J, by first | exact BLe.rf | exact AE (by rw [hno]; first | done | rfl)⟩, O⟩, ⟨⟨J, .inl nofun, fun _ _ => ⟨_, J⟩⟩, O⟩, J⟩⟩
   try simp only [tdy] at h901
   have hn1 := Hi htm
   refine Ab J (Aa (Az (A0 J J) (Az (AI J J J) (Az (Ao 1 1 J J J (by kernel_rfl) J) (Az (A4 J J J (by kernel_rfl) J) ?_)))))
   refine Az (Bl J J J (IntWalk.i64_in _ (by omega))) ?_
   refine Az (AI J J J) (Az (Ao 1 1 J J J (by kernel_rfl) J) (Az (Ap 1 J J J J (by kernel_rfl) J J J) (A2 (A8 (Aa (Az (Ao 0 0 J J J (by kernel_rfl) J) (Az (A4 J J J (by kernel_rfl) J) ?_)))))))
   refine Bd (AR J J J) (fun b65 h65 => ?_)
   refine A2 ?_
   cases b65
   rotate_left
   · try simp only [tdy] at h65
     have hno := hn1.trans (by rw [hh, of_var h65])
     refine A5 J (Aa (Az (Ao 2 2 J J J (by kernel_rfl) J) (Az (A4 J J J (by kernel_rfl) J) (Az (Al [.string ⟨#[]⟩, .int .i64 0, .string ⟨#[]⟩] [(0, 1), (1, 2)] J (by kernel_rfl) J J J J J) (Az (Ap 3 J J J J (by kernel_rfl) J J J) (Ae ?_))))))
     exact ⟨rn [(9, 100)], ⟨⟨⟨_, J, VLe.rf⟩, O⟩, ⟨⟨_, J, by first | exact BLe.rf | exact AE (by rw [hno]; first | done | rfl)⟩, ⟨_, J, by first | exact BLe.rf | exact AE (by rw [hno]; first | done | rfl)⟩, O⟩, ⟨⟨J, .inl nofun, fun _ _ => ⟨_, J⟩⟩, O⟩, J⟩⟩
   try simp only [tdy] at h65
   have hno := hn1.trans (by rw [hh, of_any hto h65 h38])
   refine Ab J (Aa (Az (Ao 1 1 J J J (by kernel_rfl) J) (Az (A4 J J J (by kernel_rfl) J) (Az (Ao 2 2 J J J (by kernel_rfl) J) (Az (A4 J J J (by kernel_rfl) J) (Az (Al [.int .i64 0, .string ⟨#[]⟩] [(0, 1), (1, 1)] J (by kernel_rfl) J J J J J) (Az (Al [.string ⟨#[]⟩, .int .i64 0, .string ⟨#[]⟩] [(0, 1), (1, 2)] J (by kernel_rfl) J J J J J) (Az (Ap 3 J J J J (by kernel_rfl) J J J) (Ae ?_)))))))))
   exact ⟨rn [(9, 100)], ⟨⟨⟨_, J, VLe.rf⟩, O⟩, ⟨⟨_, J, by first | exact BLe.rf | exact AE (by rw [hno]; first | done | rfl)⟩, ⟨_, J, by first | exact BLe.rf | exact AE (by rw [hno]; first | done | rfl)⟩, O⟩, ⟨⟨J, .inl nofun, fun _ _ => ⟨_, J⟩⟩, O⟩, J⟩⟩
 try simp only [tdy] at h42
 refine AB J J (Ao 2 2 J J J (by kernel_rfl) J) (AB J J (A4 J J J (by kernel_rfl) J) ?_)
 refine Bh J J (AS J J J (Ht _) J J) (fun b46 h46 => ?_)
 refine AB J J (AJ J J J) (Az (AD J J J) (A2 ?_))
 cases b46
 rotate_left
 · try simp only [tdy] at h46
   have htm : BN (AA tk e st) = false := by rw [hh]; simp [BN, BJ, h42, h46]
   have hno := FI (b := b901) htm
   refine A5 J (Aa (Az (A0 J J) (Az (Aj J J J (Cb tk e st hm hi 6) J J J J) (Ad (Az (Al [.string ⟨#[]⟩, .int .i64 0, .string ⟨#[]⟩] [(0, 1), (1, 2)] J (by kernel_rfl) J J J J J) (Az (Ap 3 J J J J (by kernel_rfl) J J J) (Ae ?_)))))))
   exact ⟨rn [(9, 100)], ⟨⟨⟨_, J, VLe.rf⟩, O⟩, ⟨⟨_, J, by first | exact BLe.rf | exact AE (by rw [hno]; first | done | rfl)⟩, ⟨_, J, by first | exact BLe.rf | exact AE (by rw [hno]; first | done | rfl)⟩, O⟩, ⟨⟨J, .inl nofun, fun _ _ => ⟨_, J⟩⟩, O⟩, J⟩⟩
 try simp only [tdy] at h46
 have htm : BN (AA tk e st) = true := by rw [hh]; simp [BN, BJ, h42, h46]
 have hlt := term_lt htm
 refine Ab J (A8 (Aa (Az (A0 J J) (A2 ?_))))
 cases b901
 rotate_left
 · try simp only [tdy] at h901
   have hno := term_over htm
   refine A5 J (Aa (Az (A0 J J) (Az (Aj J J J (Cb tk e st hm hi 7) J J J J) (Ad (Az (Al [.string ⟨#[]⟩, .int .i64 0, .string ⟨#[]⟩] [(0, 1), (1, 2)] J (by kernel_rfl) J J J J J) (Az (Ap 3 J J J J (by kernel_rfl) J J J) (Ae ?_)))))))
   exact ⟨rn [(9, 100)], ⟨⟨⟨_, J, VLe.rf⟩, O⟩, ⟨⟨_, J, by first | exact BLe.rf | exact AE (by rw [hno]; first | done | rfl)⟩, ⟨_, J, by first | exact BLe.rf | exact AE (by rw [hno]; first | done | rfl)⟩, O⟩, ⟨⟨J, .inl nofun, fun _ _ => ⟨_, J⟩⟩, O⟩, J⟩⟩
 try simp only [tdy] at h901
 have hn1 := Hi htm
 refine Ab J (Aa (Az (A0 J J) (Az (AI J J J) (Az (Ao 1 1 J J J (by kernel_rfl) J) (Az (A4 J J J (by kernel_rfl) J) ?_)))))
 refine Az (Bl J J J (IntWalk.i64_in _ (by omega))) ?_
 refine Az (AI J J J) (Az (Ao 1 1 J J J (by kernel_rfl) J) (Az (Ap 1 J J J J (by kernel_rfl) J J J) (A2 (A8 (Aa (Az (Ao 0 0 J J J (by kernel_rfl) J) (Az (A4 J J J (by kernel_rfl) J) ?_)))))))
 refine Bd (AR J J J) (fun b65 h65 => ?_)
 refine A2 ?_
 cases b65
 rotate_left
 · try simp only [tdy] at h65
   have hno := hn1.trans (by rw [hh, of_var h65])
   refine A5 J (Aa (Az (Ao 2 2 J J J (by kernel_rfl) J) (Az (A4 J J J (by kernel_rfl) J) (Az (Al [.string ⟨#[]⟩, .int .i64 0, .string ⟨#[]⟩] [(0, 1), (1, 2)] J (by kernel_rfl) J J J J J) (Az (Ap 3 J J J J (by kernel_rfl) J J J) (Ae ?_))))))
   exact ⟨rn [(9, 100)], ⟨⟨⟨_, J, VLe.rf⟩, O⟩, ⟨⟨_, J, by first | exact BLe.rf | exact AE (by rw [hno]; first | done | rfl)⟩, ⟨_, J, by first | exact BLe.rf | exact AE (by rw [hno]; first | done | rfl)⟩, O⟩, ⟨⟨J, .inl nofun, fun _ _ => ⟨_, J⟩⟩, O⟩, J⟩⟩
 try simp only [tdy] at h65
 have hno := hn1.trans (by rw [hh, of_any hto h65 h38])
 refine Ab J (Aa (Az (Ao 1 1 J J J (by kernel_rfl) J) (Az (A4 J J J (by kernel_rfl) J) (Az (Ao 2 2 J J J (by kernel_rfl) J) (Az (A4 J J J (by kernel_rfl) J) (Az (Al [.int .i64 0, .string ⟨#[]⟩] [(0, 1), (1, 1)] J (by kernel_rfl) J J J J J) (Az (Al [.string ⟨#[]⟩, .int .i64 0, .string ⟨#[]⟩] [(0, 1), (1, 2)] J (by kernel_rfl) J J J J J) (Az (Ap 3 J J J J (by kernel_rfl) J J J) (Ae ?_)))))))))
 exact ⟨rn [(9, 100)], ⟨⟨⟨_, J, VLe.rf⟩, O⟩, ⟨⟨_, J, by first | exact BLe.rf | exact AE (by rw [hno]; first | done | rfl)⟩, ⟨_, J, by first | exact BLe.rf | exact AE (by rw [hno]; first | done | rfl)⟩, O⟩, ⟨⟨J, .inl nofun, fun _ _ => ⟨_, J⟩⟩, O⟩, J⟩⟩

set_option maxHeartbeats 4000000 in
theorem sAtom_c0 (tk : List Tokent) (e : Int) (st : PS) (hm : tk.length ≤ 1048576) (hi : st.i ≤ tk.length) (hok : ∀ t ∈ tk, EL t) : AC Tryz.prog 104 [.one (.ptr 200 0)] [(200, some (psB tk e st))] (.agg (atomO (Ci tk e st).1)) [(200, some (psB tk e (Ci tk e st).2)), (0, some (.arr 46 Bx (Ci tk e st).1.args true))] := by
 refine En (n := 2) (k := 9) (T := [(2, .one (.ptr 9 0))]) (Lf := ((9, some (.box (atomO (Ci tk e st).1))) :: [(200, some (psB tk e (Ci tk e st).2)), (0, some (.arr 46 Bx (Ci tk e st).1.args true))])) Tryz.func104 J J Tryz.ntmps104 J Tryz.results104 J J (by kernel_rfl) J J ⟨O, (by repeat (first | exact trivial | refine ⟨⟨_, J, BLe.rf⟩, ?_⟩)), (Af J), J⟩ ?_
 refine Aa (Az (Aw (.agg #[.string ⟨#[]⟩, .slice none 0 0]) 100 J (by kernel_rfl) J J J J) (Ad (Az (A0 J J) (Az (Aj J J J (sWord_c tk e st hm hi) J J J J) (Az (Al [.string ⟨#[]⟩, .slice none 0 0] [(0, 1), (1, 1)] J (by kernel_rfl) J J J J J) (Az (Aw (.agg #[.string ⟨#[]⟩, .slice none 0 0]) 101 J (by kernel_rfl) J J J J) (Az (Ap 2 J J J J (by kernel_rfl) J J J) (Ad (Az (A0 J J) (Az (Aj J J J (Gr tk e (BK tk e st).2 hm (HS hi) ⟨#[40]⟩) J J J J) (A2 (A8 (Aa (Az (A0 J J) (Az (A0 J J) (Az (AI J J J) (Az (Ao 1 1 J J J (by kernel_rfl) J) (Az (A4 J J J (by kernel_rfl) J) ?_))))))))))))))))))
 refine Dk (Aj J J J (Fx tk e (B7 tk e st) hm (open_le hi) ⟨#[41]⟩) J J J J) (fun b14 h14 => ?_)
 refine A2 ?_
 cases b14
 rotate_left
 · try simp only [tdy] at h14
   have hno := atomS_none h14
   have hlt := Ck h14
   refine A5 J (Aa (Az (A0 J J) (Az (AI J J J) (Az (Ao 1 1 J J J (by kernel_rfl) J) (Az (A4 J J J (by kernel_rfl) J) ?_)))))
   refine Az (Bl J J J (IntWalk.i64_in _ (by omega))) ?_
   refine Az (AI J J J) (Az (Ao 1 1 J J J (by kernel_rfl) J) (Az (Ap 1 J J J J (by kernel_rfl) J J J) (Ad (Az (Au 2 J J J (by kernel_rfl) J J) (Az (Ap 2 J J J J (by kernel_rfl) J J J) (A2 (Be (T := 46) (e := Bx) 102 100 1 J J J J J ?_)))))))
   refine AU ?_
   exact ⟨rn [(9, 100), (0, 102)], ⟨⟨⟨_, J, VLe.rf⟩, O⟩, ⟨⟨_, J, by first | exact BLe.rf | exact AE (by rw [hno]; first | done | rfl)⟩, ⟨_, J, by first | exact BLe.rf | exact AE (by rw [hno]; first | done | rfl)⟩, ⟨_, J, by first | exact BLe.rf | (refine BLe.arr ?_; rw [hno]; first | done | rfl)⟩, O⟩, ⟨⟨J, .inl nofun, fun _ _ => ⟨_, J⟩⟩, O⟩, J⟩⟩
 try simp only [tdy] at h14
 refine Ab J (A8 (AZ (Be (T := 46) (e := Bx) 103 101 1 J J J J J ?_)))
 refine B8 (ι := {q : PS × List Termt // ((q.1).i ≤ tk.length ∧ (q.2).length ≤ 6) ∧ Fe tk e (8 - (q.2).length) (q.1) (q.2) = Fe tk e 8 (B7 tk e st) []}) (fun p => []) (fun p => [(103, some (.arr 46 Bx (p.1.2) true)), (200, some (psB tk e (p.1.1)))]) [0, 2, 3] [100, 101] (fun p => 7 - (p.1.2).length) ⟨⟨B7 tk e st, []⟩, ⟨⟨open_le hi, by simp⟩, J⟩⟩ (rn []) ?_ ?_
 exact Ag (by repeat first | exact trivial | refine Ah J (by first | exact VLe.rf | exact A7 (by dsimp only; omega)) ?_) (by repeat first | exact trivial | refine Ai J (by first | exact BLe.rf | exact BLe.box AllC.rf | exact BLe.arr (by exact J)) ?_) J J
 rintro ⟨⟨st1, a⟩, hinv⟩
 dsimp only
 have hi1 : st1.i ≤ tk.length := hinv.1.1
 have hl : a.length ≤ 6 := hinv.1.2
 refine A8 (Aa (Az (A0 J J) (Az (AI J J J) (Az (Ao 3 3 J J J (by kernel_rfl) J) (Az (A4 J J J (by kernel_rfl) J) ?_)))))
 refine Bd (AR J J J) (fun b27 h27 => ?_)
 refine A2 ?_
 cases b27
 · try simp only [tdy] at h27
   have hi2 := hi1
   have hno := atomS_some h14 (hinv.2.symm.trans (IT h27))
   refine Bc J ?_
   refine Br (B2 ?_)
   refine Aa (Az (A0 J J) (Az (Aj J J J (Gr tk e _ hm hi2 ⟨#[41]⟩) J J J J) (Ad (Az (Au 2 J J J (by kernel_rfl) J J) (Az (Ap 2 J J J J (by kernel_rfl) J J J) (Ae ?_))))))
   exact ⟨rn [(9, 100), (0, 103)], ⟨⟨⟨_, J, VLe.rf⟩, O⟩, ⟨⟨_, J, by first | exact BLe.rf | exact AE (by rw [hno]; first | done | rfl)⟩, ⟨_, J, by first | exact BLe.rf | exact AE (by rw [hno]; first | done | rfl)⟩, ⟨_, J, by first | exact BLe.rf | (refine BLe.arr ?_; rw [hno]; first | done | rfl)⟩, O⟩, ⟨⟨J, .inl nofun, fun _ _ => ⟨_, J⟩⟩, O⟩, J⟩⟩
 try simp only [tdy] at h27
 refine A5 J (AP (AZ (A8 (Bw J (Az (Ao 1 1 J J J (by kernel_rfl) J) (Az (A4 J J J (by kernel_rfl) J) (Az (A0 J J) (Az (Ao 1 1 J J J (by kernel_rfl) J) (Az (A4 J J J (by kernel_rfl) J) (Az (Ax 46 3 J J J (by kernel_rfl)) ?_))))))))))
 refine Bd (AR J J J) (fun b34 h34 => ?_)
 refine Az (Aj J J J (D6 tk e st1 hm hi1 hok b34) J J J J) (Az (Aq Bx 46 [.tmp 35] ([(AM tk e b34 st1).1]) 104 J J J J J J J J FitL.rf J J J J J J (by kernel_rfl)) ?_)
 refine Az (B9 105 J J J J J J J J (by kernel_rfl) (by simp only [List.length_append, List.length_cons, List.length_nil]; omega)) ?_
 refine Az (Ao 1 1 J J J (by kernel_rfl) J) (Az (Ap 1 J J J J (by kernel_rfl) J J J) (Bj (by kernel_rfl) ?_))
 refine A8 (Aa (Az (A0 J J) (Az (A0 J J) (Az (AI J J J) (Az (Ao 1 1 J J J (by kernel_rfl) J) (Az (A4 J J J (by kernel_rfl) J) ?_))))))
 refine Dk (Aj J J J (Fx tk e (AM tk e b34 st1).2 hm (B5 hi1) ⟨#[44]⟩) J J J J) (fun b44 h44 => ?_)
 refine Az (Cn J J) (A2 ?_)
 cases b44
 · try simp only [tdy] at h44
   have hi2 := B5 (e := e) (b := b34) hi1
   have hno := atomS_some h14 (hinv.2.symm.trans (argsS_last' h34 h27 hl h44))
   refine A5 J ?_
   refine Br (G5 J (B2 ?_))
   refine Aa (Az (A0 J J) (Az (Aj J J J (Gr tk e _ hm hi2 ⟨#[41]⟩) J J J J) (Ad (Az (Au 2 J J J (by kernel_rfl) J J) (Az (Ap 2 J J J J (by kernel_rfl) J J J) (Ae ?_))))))
   exact ⟨rn [(9, 100), (0, 105)], ⟨⟨⟨_, J, VLe.rf⟩, O⟩, ⟨⟨_, J, by first | exact BLe.rf | exact AE (by rw [hno]; first | done | rfl)⟩, ⟨_, J, by first | exact BLe.rf | exact AE (by rw [hno]; first | done | rfl)⟩, ⟨_, J, by first | exact BLe.rf | (refine BLe.arr ?_; rw [hno]; first | done | rfl)⟩, O⟩, ⟨⟨J, .inl nofun, fun _ _ => ⟨_, J⟩⟩, O⟩, J⟩⟩
 try simp only [tdy] at h44
 have hmo := argsS_more' h34 h27 hl h44
 have hlt := hmo.2.1
 have hmo1 := hmo.1
 refine Ab J (AG (Az (A0 J J) (Az (AI J J J) (Az (Ao 1 1 J J J (by kernel_rfl) J) (Az (A4 J J J (by kernel_rfl) J) ?_)))))
 refine Az (Bl J J J (IntWalk.i64_in _ (by omega))) ?_
 refine Az (AI J J J) (Az (Ao 1 1 J J J (by kernel_rfl) J) (Az (Ap 1 J J J J (by kernel_rfl) J J J) (A2 ?_)))
 refine ⟨⟨⟨(AM tk e b34 st1).2.next, a ++ [(AM tk e b34 st1).1]⟩, ⟨⟨hlt, by simp only [List.length_append, List.length_cons, List.length_nil]; omega⟩, hmo.2.2.trans hinv.2⟩⟩, rn [(103, 105)], ?_, by dsimp only; simp only [List.length_append, List.length_cons, List.length_nil]; omega⟩
 exact Ag (by repeat first | exact trivial | refine Ah J (by first | exact VLe.rf | exact A7 (by dsimp only; omega)) ?_) (by repeat first | exact trivial | refine Ai J (by first | exact BLe.rf | exact BLe.box AllC.rf | exact BLe.arr (by exact J)) ?_) J J

theorem sAtom_c (tk : List Tokent) (e : Int) (st : PS) (hm : tk.length ≤ 1048576) (hi : st.i ≤ tk.length) (hok : ∀ t ∈ tk, EL t) (k : Nat) (hk : Nat.beq k 200 = false) : AC Tryz.prog 104 [.one (.ptr 200 0)] [(200, some (psB tk e st))] (.agg (atomK (Ci tk e st).1 k)) [(200, some (psB tk e (Ci tk e st).2)), (k, some (.arr 46 Bx (Ci tk e st).1.args true))] := AC.ps (sAtom_c0 tk e st hm hi hok) k hk (fun r h => atomK_ren h) (fun _ => rfl)

set_option maxHeartbeats 4000000 in
theorem sOp_c (tk : List Tokent) (e : Int) (st : PS) (hm : tk.length ≤ 1048576) (hi : st.i ≤ tk.length) : AC Tryz.prog 115 [.one (.ptr 200 0)] [(200, some (psB tk e st))] (.one (.c (.int .i64 (opS (AA tk e st))))) [(200, some (psB tk e st))] := by
 have h4 : opL4.length = 4 := rfl
 refine Bn Tryz.func115 J J Tryz.ntmps115 J Tryz.results115 ?_
 refine Aa (Az (A1 J J) (A2 (A8 (Aa (Az (CR (E := 9) (e := DM) [.const (.string ⟨#[61]⟩), .const (.string ⟨#[33, 61]⟩), .const (.string ⟨#[60]⟩), .const (.string ⟨#[60, 61]⟩)] (opL4) J J J J J J J J FitL.rf J J J (by kernel_rfl)) (Az (Ak 9 1 J J (by kernel_rfl)) (Az (A0 J J) (A2 (AZ ?_)))))))))
 refine B8 (ι := {q : Nat // q ≤ 4 ∧ NoneTo (fun x => Bt (AA tk e st) x) opL4 q}) (fun p => [(7, .one (.c (.int .i64 ((p.1) : Int))))]) (fun p => []) [0, 5, 6] [200] (fun p => 4 - (p.1)) ⟨0, ⟨by omega, .zero⟩⟩ (rn []) ?_ ?_
 exact Ag (by repeat first | exact trivial | refine Ah J (by first | exact VLe.rf | exact A7 (by dsimp only; omega)) ?_) (by repeat first | exact trivial | refine Ai J (by first | exact BLe.rf | exact BLe.box AllC.rf | exact BLe.arr (by exact J)) ?_) J J
 rintro ⟨k, hinv⟩
 dsimp only
 have hk : k ≤ 4 := hinv.1
 have hn := hinv.2
 refine Aa ?_
 refine Bd (BI J J J) (fun b8 h8 => ?_)
 refine A2 (A8 ?_)
 cases b8
 · try simp only [tdy] at h8
   have hno := opS_none (k := k) (by omega) hn
   refine Bc J ?_
   refine Br (B2 ?_)
   refine Aa (Az (A1 J J) (Ae ?_))
   exact ⟨rn [], ⟨⟨⟨_, J, A7 (by rw [hno])⟩, O⟩, ⟨⟨_, J, by first | exact BLe.rf | exact AE (by rw [hno]; first | done | rfl)⟩, O⟩, ⟨⟨J, .inl nofun, fun _ _ => ⟨_, J⟩⟩, O⟩, J⟩⟩
 try simp only [tdy] at h8
 refine A5 J (AP (A8 (AZ (Aa (Az (A0 J J) ?_)))))
 refine Az (Am 9 1 k J J J (by kernel_rfl) J (by omega) (by omega)) ?_
 refine Az (BW J J (by kernel_rfl) J) (Az (A1 J J) (Az (A1 J J) (Ad (Az (A0 J J) (Az (A0 J J) (Az (AI J J J) (Az (Ao 1 1 J J J (by kernel_rfl) J) (Az (A4 J J J (by kernel_rfl) J) (Az (A0 J J) ?_)))))))))
 refine Dk (Aj J J J (Fx tk e st hm hi _) J J J J) (fun b18 h18 => ?_)
 refine A2 ?_
 cases b18
 · try simp only [tdy] at h18
   refine Ab J (AG ?_)
   refine Az (Bl J J J (IntWalk.i64_in _ (by omega))) ?_
   refine Az (A0 J J) (A2 ?_)
   refine ⟨⟨k + 1, ⟨by omega, hn.succ (by omega) h18⟩⟩, rn [], ?_, by dsimp only; omega⟩
   exact Ag (by repeat first | exact trivial | refine Ah J (by first | exact VLe.rf | exact A7 (by dsimp only; omega)) ?_) (by repeat first | exact trivial | refine Ai J (by first | exact BLe.rf | exact BLe.box AllC.rf | exact BLe.arr (by exact J)) ?_) J J
 try simp only [tdy] at h18
 have hno := opS_at (by omega) h18
 refine A5 J (Aa (Az (A0 J J) ?_))
 refine Az (Bl J J J (IntWalk.i64_in _ (by omega))) ?_
 refine Az (A1 J J) (A2 ?_)
 refine AU (Bk (Bk ?_))
 exact ⟨rn [], ⟨⟨⟨_, J, A7 (by rw [hno])⟩, O⟩, ⟨⟨_, J, by first | exact BLe.rf | exact AE (by rw [hno]; first | done | rfl)⟩, O⟩, ⟨⟨J, .inl nofun, fun _ _ => ⟨_, J⟩⟩, O⟩, J⟩⟩

set_option maxHeartbeats 4000000 in
theorem sKind_c (t : Tokent) : AC Tryz.prog 81 [.agg (tokenC t)] [] (.one (.c (.int .i64 (CS t)))) [] := by
 have h3 : kindL3.length = 3 := rfl
 refine Bn Tryz.func81 J J Tryz.ntmps81 J Tryz.results81 ?_
 refine Aa (Az (Dr 100 J J J J J J J) (Az (A1 J J) (A2 (A8 (Aa (Az (CR (E := 9) (e := DM) [.const (.string ⟨#[115, 116, 97, 116, 101]⟩), .const (.string ⟨#[101, 118, 101, 110, 116]⟩), .const (.string ⟨#[118, 105, 101, 119]⟩)] (kindL3) J J J J J J J J FitL.rf J J J (by kernel_rfl)) (Az (Ak 9 1 J J (by kernel_rfl)) (Az (A0 J J) (A2 (AZ ?_))))))))))
 refine B8 (ι := {q : Nat // q ≤ 3 ∧ NoneTo (fun x => decide (t.kind = 1) && t.s == x) kindL3 q}) (fun p => [(7, .one (.c (.int .i64 ((p.1) : Int))))]) (fun p => []) [1, 5, 6] [100] (fun p => 3 - (p.1)) ⟨0, ⟨by omega, .zero⟩⟩ (rn []) ?_ ?_
 exact Ag (by repeat first | exact trivial | refine Ah J (by first | exact VLe.rf | exact A7 (by dsimp only; omega)) ?_) (by repeat first | exact trivial | refine Ai J (by first | exact BLe.rf | exact BLe.box AllC.rf | exact BLe.arr (by exact J)) ?_) J J
 rintro ⟨k, hinv⟩
 dsimp only
 have hk : k ≤ 3 := hinv.1
 have hn := hinv.2
 refine Aa ?_
 refine Bd (BI J J J) (fun b8 h8 => ?_)
 refine A2 (A8 ?_)
 cases b8
 · try simp only [tdy] at h8
   have hno := kindS_none (t := t) (k := k) (by omega) hn
   refine Bc J ?_
   refine Br (B2 ?_)
   refine Aa (Az (A1 J J) (Ae ?_))
   exact ⟨rn [], ⟨⟨⟨_, J, A7 (hno.symm)⟩, O⟩, O, O, J⟩⟩
 try simp only [tdy] at h8
 refine A5 J (AP (A8 (AZ (Aa (Az (A0 J J) ?_)))))
 refine Az (Am 9 1 k J J J (by kernel_rfl) J (by omega) (by omega)) ?_
 refine Az (BW J J (by kernel_rfl) J) (Az (A1 J J) (Az (A1 J J) (Ad (Az (Ao 0 0 J J J (by kernel_rfl) J) (Az (A4 J J J (by kernel_rfl) J) ?_)))))
 refine Bd (AR J J J) (fun b14 h14 => ?_)
 refine Az (A0 J J) ?_
 cases b14
 · try simp only [tdy] at h14
   have hk1 : (decide (t.kind = 1) && t.s == kindL3[k]'(by omega)) = false := by simp [h14]
   refine A3 J J J J (A3 J J J J (A3 J J J J (A3 J J J J (Az (AD J J J) (A2 (Ab J (AG ?_)))))))
   refine Az (Bl J J J (IntWalk.i64_in _ (by omega))) ?_
   refine Az (A0 J J) (A2 ?_)
   refine ⟨⟨k + 1, ⟨by omega, hn.succ (by omega) hk1⟩⟩, rn [], ?_, by dsimp only; omega⟩
   exact Ag (by repeat first | exact trivial | refine Ah J (by first | exact VLe.rf | exact A7 (by dsimp only; omega)) ?_) (by repeat first | exact trivial | refine Ai J (by first | exact BLe.rf | exact BLe.box AllC.rf | exact BLe.arr (by exact J)) ?_) J J
 try simp only [tdy] at h14
 refine AB J J (Ao 2 2 J J J (by kernel_rfl) J) (AB J J (A4 J J J (by kernel_rfl) J) (AB J J (A0 J J) ?_))
 refine Bh J J (DH J J J) (fun b19 h19 => ?_)
 refine Az (AJ J J J) (A2 ?_)
 cases b19
 · try simp only [tdy] at h19
   have hk1 : (decide (t.kind = 1) && t.s == kindL3[k]'(by omega)) = false := by simp [h19]
   refine Ab J (AG ?_)
   refine Az (Bl J J J (IntWalk.i64_in _ (by omega))) ?_
   refine Az (A0 J J) (A2 ?_)
   refine ⟨⟨k + 1, ⟨by omega, hn.succ (by omega) hk1⟩⟩, rn [], ?_, by dsimp only; omega⟩
   exact Ag (by repeat first | exact trivial | refine Ah J (by first | exact VLe.rf | exact A7 (by dsimp only; omega)) ?_) (by repeat first | exact trivial | refine Ai J (by first | exact BLe.rf | exact BLe.box AllC.rf | exact BLe.arr (by exact J)) ?_) J J
 try simp only [tdy] at h19
 have hno := kindS_at (t := t) (k := k) (by omega) h14 h19
 refine A5 J (Aa (Az (A0 J J) ?_))
 refine Az (Bl J J J (IntWalk.i64_in _ (by omega))) ?_
 refine Az (A1 J J) (A2 ?_)
 refine AU (Bk (Bk ?_))
 exact ⟨rn [], ⟨⟨⟨_, J, A7 (hno.symm)⟩, O⟩, O, O, J⟩⟩

set_option maxHeartbeats 4000000 in
theorem sLit_c0 (tk : List Tokent) (e : Int) (st : PS) (hm : tk.length ≤ 1048576) (hi : st.i ≤ tk.length) (hok : ∀ t ∈ tk, EL t) : AC Tryz.prog 106 [.one (.ptr 200 0)] [(200, some (psB tk e st))] (.agg (litO (DT tk e st).1)) [(200, some (psB tk e (DT tk e st).2)), (0, some (.arr 46 Bx (DT tk e st).1.atom.args true))] := by
 refine En (n := 10) (k := 9) (T := [(2, .one (.ptr 9 0))]) (Lf := ((9, some (.box (litO (DT tk e st).1))) :: [(200, some (psB tk e (DT tk e st).2)), (0, some (.arr 46 Bx (DT tk e st).1.atom.args true))])) Tryz.func106 J J Tryz.ntmps106 J Tryz.results106 J J (by kernel_rfl) J J ⟨O, (by repeat (first | exact trivial | refine ⟨⟨_, J, BLe.rf⟩, ?_⟩)), (Af J), J⟩ ?_
 refine Aa (Az (Aw (.agg #[.int .i64 0, .string ⟨#[]⟩, .slice none 0 0, .int .i64 0, .string ⟨#[]⟩, .int .i64 0, .string ⟨#[]⟩, .string ⟨#[]⟩, .int .i64 0, .string ⟨#[]⟩]) 100 J (by kernel_rfl) J J J J) (A2 (A8 (A8 (Bw J (Az (A0 J J) (Az (AI J J J) (Az (Ao 3 3 J J J (by kernel_rfl) J) (Az (A4 J J J (by kernel_rfl) J) ?_)))))))))
 refine Bd (AR J J J) (fun b8 h8 => ?_)
 refine Az (A0 J J) ?_
 cases b8
 · try simp only [tdy] at h8
   have h0k : (AA tk e st).kind = 0 := Ec (fun q => by omega)
   have hnt := not_zero h0k
   have hop := Ie (IA h0k)
   refine A3 J J J J (A3 J J J J (A3 J J J J (A3 J J J J (A3 J J J J (A3 J J J J (A3 J J J J (A3 J J J J (A3 J J J J (A3 J J J J (Az (AD J J J) (Az (A0 J J) (A3 J J J J (A3 J J J J (A3 J J J J (A3 J J J J (A3 J J J J (A3 J J J J (A3 J J J J (A3 J J J J (A3 J J J J (A3 J J J J (A3 J J J J (A3 J J J J ?_)))))))))))))))))))))))
   refine Az (AD J J J) (Az (A0 J J) (A3 J J J J (A3 J J J J (A3 J J J J (A3 J J J J (A3 J J J J (A3 J J J J (A3 J J J J (A3 J J J J (A3 J J J J (A3 J J J J (A3 J J J J (A3 J J J J (Az (AD J J J) (Bj (by kernel_rfl) ?_)))))))))))))))
   refine Ab J (A8 (A8 (Bw J (Az (A0 J J) (Az (AI J J J) (Az (Ao 3 3 J J J (by kernel_rfl) J) (Az (A4 J J J (by kernel_rfl) J) ?_)))))))
   refine Bd (AR J J J) (fun b63 h63 => ?_)
   refine Az (A0 J J) ?_
   cases b63
   rotate_left
   · exfalso; (try simp only [tdy] at h63); omega
   try simp only [tdy] at h63
   refine A3 J J J J (A3 J J J J (A3 J J J J (A3 J J J J (A3 J J J J (A3 J J J J (A3 J J J J (A3 J J J J (A3 J J J J (A3 J J J J (Az (AD J J J) (Az (A0 J J) (A3 J J J J (A3 J J J J (A3 J J J J (A3 J J J J (A3 J J J J (A3 J J J J (A3 J J J J (A3 J J J J (A3 J J J J (A3 J J J J (A3 J J J J (A3 J J J J ?_)))))))))))))))))))))))
   refine Az (AD J J J) (Az (A0 J J) (A3 J J J J (A3 J J J J (A3 J J J J (A3 J J J J (A3 J J J J (A3 J J J J (A3 J J J J (A3 J J J J (A3 J J J J (A3 J J J J (A3 J J J J (A3 J J J J (A3 J J J J (Az (AD J J J) (Az (A0 J J) (A3 J J J J (A3 J J J J (A3 J J J J (A3 J J J J (A3 J J J J (A3 J J J J (A3 J J J J ?_)))))))))))))))))))))))
   refine Az (AD J J J) (Bj (by kernel_rfl) ?_)
   refine Ab J (Aa (Az (Al [.int .i64 0, .string ⟨#[]⟩, .slice none 0 0, .int .i64 0, .string ⟨#[]⟩, .int .i64 0, .string ⟨#[]⟩, .string ⟨#[]⟩, .int .i64 0, .string ⟨#[]⟩] [(0, 1), (1, 2), (3, 1), (4, 3), (7, 3)] J (by kernel_rfl) J J J J J) (Az (Aw (.agg #[.int .i64 0, .string ⟨#[]⟩, .slice none 0 0, .int .i64 0, .string ⟨#[]⟩, .int .i64 0, .string ⟨#[]⟩, .string ⟨#[]⟩, .int .i64 0, .string ⟨#[]⟩]) 102 J (by kernel_rfl) J J J J) (Az (Ap 10 J J J J (by kernel_rfl) J J J) (Ad (Az (A0 J J) (Az (Aj J J J (D6 tk e st hm hi hok false) J J J J) (Az (Ao 4 4 J J J (by kernel_rfl) J) (Az (Ap 3 J J J J (by kernel_rfl) J J J) (Ad (Az (A0 J J) (Az (Aj J J J (sOp_c tk e (AM tk e false st).2 hm (B5 hi)) J J J J) (Az (Ao 3 3 J J J (by kernel_rfl) J) (Az (Ap 1 J J J J (by kernel_rfl) J J J) (A2 (A8 (Aa (Az (Ao 3 3 J J J (by kernel_rfl) J) (Az (A4 J J J (by kernel_rfl) J) ?_)))))))))))))))))))
   refine Bd (AR J J J) (fun b126 h126 => ?_)
   refine A2 ?_
   cases b126
   rotate_left
   · try simp only [tdy] at h126
     have hq := Cm (e := e) (c := 6) (B5 (e := e) (b := false) hi)
     have hno := EA hnt hop (opP_no h126)
     refine A5 J (AG (Az (A0 J J) (Az (Aj J J J (Cb tk e (AM tk e false st).2 hm (B5 hi) 6) J J J J) (Ad (Az (A0 J J) (Az (Aj J J J (D6 tk e _ hm hq hok false) J J J J) (Az (Ao 7 7 J J J (by kernel_rfl) J) (Az (Ap 3 J J J J (by kernel_rfl) J J J) (Ad (Az (Au 10 J J J (by kernel_rfl) J J) (Az (Ap 10 J J J J (by kernel_rfl) J J J) (A2 (Be (T := 46) (e := Bx) 103 100 2 J J J J J ?_)))))))))))))
     refine AU ?_
     exact ⟨rn [(9, 100), (0, 103)], ⟨⟨⟨_, J, VLe.rf⟩, O⟩, ⟨⟨_, J, by first | exact BLe.rf | exact AE (by rw [hno]; first | done | rfl)⟩, ⟨_, J, by first | exact BLe.rf | exact AE (by rw [hno]; first | done | rfl)⟩, ⟨_, J, by first | exact BLe.rf | (refine BLe.arr ?_; rw [hno]; first | done | rfl)⟩, O⟩, ⟨⟨J, .inl nofun, fun _ _ => ⟨_, J⟩⟩, O⟩, J⟩⟩
   try simp only [tdy] at h126
   have hq := Ca (Gv (tk := tk) (e := e) (st := (AM tk e false st).2) h126).2
   have hlt2 : (AM tk e false st).2.i < tk.length := hq
   have hno := EA hnt hop (Gv h126).1
   refine Bc J (AG (Az (A0 J J) (Az (AI J J J) (Az (Ao 1 1 J J J (by kernel_rfl) J) (Az (A4 J J J (by kernel_rfl) J) ?_)))))
   refine Az (Bl J J J (IntWalk.i64_in _ (by omega))) ?_
   refine Az (AI J J J) (Az (Ao 1 1 J J J (by kernel_rfl) J) (Az (Ap 1 J J J J (by kernel_rfl) J J J) (Ad (Az (A0 J J) (Az (Aj J J J (D6 tk e _ hm hq hok false) J J J J) (Az (Ao 7 7 J J J (by kernel_rfl) J) (Az (Ap 3 J J J J (by kernel_rfl) J J J) (Ad (Az (Au 10 J J J (by kernel_rfl) J J) (Az (Ap 10 J J J J (by kernel_rfl) J J J) (A2 (Be (T := 46) (e := Bx) 103 100 2 J J J J J ?_))))))))))))
   refine AU ?_
   exact ⟨rn [(9, 100), (0, 103)], ⟨⟨⟨_, J, VLe.rf⟩, O⟩, ⟨⟨_, J, by first | exact BLe.rf | exact AE (by rw [hno]; first | done | rfl)⟩, ⟨_, J, by first | exact BLe.rf | exact AE (by rw [hno]; first | done | rfl)⟩, ⟨_, J, by first | exact BLe.rf | (refine BLe.arr ?_; rw [hno]; first | done | rfl)⟩, O⟩, ⟨⟨J, .inl nofun, fun _ _ => ⟨_, J⟩⟩, O⟩, J⟩⟩
 try simp only [tdy] at h8
 refine AB J J (A0 J J) (AB J J (AI J J J) (AB J J (Ao 1 1 J J J (by kernel_rfl) J) (AB J J (A4 J J J (by kernel_rfl) J) (AB J J (A0 J J) (AB J J (AI J J J) (AB J J (Ao 0 0 J J J (by kernel_rfl) J) (AB J J (A4 J J J (by kernel_rfl) J) (AB J J (Ak 62 4 J J (by kernel_rfl)) ?_))))))))
 refine Bh J J (BI J J J) (fun b19 h19 => ?_)
 refine Az (AJ J J J) (Az (A0 J J) ?_)
 cases b19
 · try simp only [tdy] at h19
   have h0k : (AA tk e st).kind = 0 := Ec (fun q => by omega)
   have hnt := not_zero h0k
   have hop := Ie (IA h0k)
   refine A3 J J J J (A3 J J J J (A3 J J J J (A3 J J J J (A3 J J J J (A3 J J J J (A3 J J J J (A3 J J J J (A3 J J J J (A3 J J J J (A3 J J J J (A3 J J J J (Az (AD J J J) (Az (A0 J J) (A3 J J J J (A3 J J J J (A3 J J J J (A3 J J J J (A3 J J J J (A3 J J J J (A3 J J J J (A3 J J J J (A3 J J J J (A3 J J J J ?_)))))))))))))))))))))))
   refine A3 J J J J (A3 J J J J (Az (AD J J J) (Bj (by kernel_rfl) ?_)))
   refine Ab J (A8 (A8 (Bw J (Az (A0 J J) (Az (AI J J J) (Az (Ao 3 3 J J J (by kernel_rfl) J) (Az (A4 J J J (by kernel_rfl) J) ?_)))))))
   refine Bd (AR J J J) (fun b63 h63 => ?_)
   refine Az (A0 J J) ?_
   cases b63
   · exfalso; (try simp only [tdy] at h63); omega
   try simp only [tdy] at h63
   refine AB J J (A0 J J) (AB J J (AI J J J) (AB J J (Ao 1 1 J J J (by kernel_rfl) J) (AB J J (A4 J J J (by kernel_rfl) J) (AB J J (A0 J J) (AB J J (AI J J J) (AB J J (Ao 0 0 J J J (by kernel_rfl) J) (AB J J (A4 J J J (by kernel_rfl) J) (AB J J (Ak 62 4 J J (by kernel_rfl)) ?_))))))))
   refine Bh J J (BI J J J) (fun b74 h74 => ?_)
   refine Az (AJ J J J) (Az (A0 J J) ?_)
   cases b74
   rotate_left
   · exfalso; (try simp only [tdy] at h74); omega
   try simp only [tdy] at h74
   refine A3 J J J J (A3 J J J J (A3 J J J J (A3 J J J J (A3 J J J J (A3 J J J J (A3 J J J J (A3 J J J J (A3 J J J J (A3 J J J J (A3 J J J J (A3 J J J J (Az (AD J J J) (Az (A0 J J) (A3 J J J J (A3 J J J J (A3 J J J J (A3 J J J J (A3 J J J J (A3 J J J J (A3 J J J J (A3 J J J J (A3 J J J J (A3 J J J J ?_)))))))))))))))))))))))
   refine A3 J J J J (A3 J J J J (A3 J J J J (Az (AD J J J) (Az (A0 J J) (A3 J J J J (A3 J J J J (A3 J J J J (A3 J J J J (A3 J J J J (A3 J J J J (A3 J J J J (Az (AD J J J) (Bj (by kernel_rfl) ?_)))))))))))))
   refine Ab J (Aa (Az (Al [.int .i64 0, .string ⟨#[]⟩, .slice none 0 0, .int .i64 0, .string ⟨#[]⟩, .int .i64 0, .string ⟨#[]⟩, .string ⟨#[]⟩, .int .i64 0, .string ⟨#[]⟩] [(0, 1), (1, 2), (3, 1), (4, 3), (7, 3)] J (by kernel_rfl) J J J J J) (Az (Aw (.agg #[.int .i64 0, .string ⟨#[]⟩, .slice none 0 0, .int .i64 0, .string ⟨#[]⟩, .int .i64 0, .string ⟨#[]⟩, .string ⟨#[]⟩, .int .i64 0, .string ⟨#[]⟩]) 102 J (by kernel_rfl) J J J J) (Az (Ap 10 J J J J (by kernel_rfl) J J J) (Ad (Az (A0 J J) (Az (Aj J J J (D6 tk e st hm hi hok false) J J J J) (Az (Ao 4 4 J J J (by kernel_rfl) J) (Az (Ap 3 J J J J (by kernel_rfl) J J J) (Ad (Az (A0 J J) (Az (Aj J J J (sOp_c tk e (AM tk e false st).2 hm (B5 hi)) J J J J) (Az (Ao 3 3 J J J (by kernel_rfl) J) (Az (Ap 1 J J J J (by kernel_rfl) J J J) (A2 (A8 (Aa (Az (Ao 3 3 J J J (by kernel_rfl) J) (Az (A4 J J J (by kernel_rfl) J) ?_)))))))))))))))))))
   refine Bd (AR J J J) (fun b126 h126 => ?_)
   refine A2 ?_
   cases b126
   rotate_left
   · try simp only [tdy] at h126
     have hq := Cm (e := e) (c := 6) (B5 (e := e) (b := false) hi)
     have hno := EA hnt hop (opP_no h126)
     refine A5 J (AG (Az (A0 J J) (Az (Aj J J J (Cb tk e (AM tk e false st).2 hm (B5 hi) 6) J J J J) (Ad (Az (A0 J J) (Az (Aj J J J (D6 tk e _ hm hq hok false) J J J J) (Az (Ao 7 7 J J J (by kernel_rfl) J) (Az (Ap 3 J J J J (by kernel_rfl) J J J) (Ad (Az (Au 10 J J J (by kernel_rfl) J J) (Az (Ap 10 J J J J (by kernel_rfl) J J J) (A2 (Be (T := 46) (e := Bx) 103 100 2 J J J J J ?_)))))))))))))
     refine AU ?_
     exact ⟨rn [(9, 100), (0, 103)], ⟨⟨⟨_, J, VLe.rf⟩, O⟩, ⟨⟨_, J, by first | exact BLe.rf | exact AE (by rw [hno]; first | done | rfl)⟩, ⟨_, J, by first | exact BLe.rf | exact AE (by rw [hno]; first | done | rfl)⟩, ⟨_, J, by first | exact BLe.rf | (refine BLe.arr ?_; rw [hno]; first | done | rfl)⟩, O⟩, ⟨⟨J, .inl nofun, fun _ _ => ⟨_, J⟩⟩, O⟩, J⟩⟩
   try simp only [tdy] at h126
   have hq := Ca (Gv (tk := tk) (e := e) (st := (AM tk e false st).2) h126).2
   have hlt2 : (AM tk e false st).2.i < tk.length := hq
   have hno := EA hnt hop (Gv h126).1
   refine Bc J (AG (Az (A0 J J) (Az (AI J J J) (Az (Ao 1 1 J J J (by kernel_rfl) J) (Az (A4 J J J (by kernel_rfl) J) ?_)))))
   refine Az (Bl J J J (IntWalk.i64_in _ (by omega))) ?_
   refine Az (AI J J J) (Az (Ao 1 1 J J J (by kernel_rfl) J) (Az (Ap 1 J J J J (by kernel_rfl) J J J) (Ad (Az (A0 J J) (Az (Aj J J J (D6 tk e _ hm hq hok false) J J J J) (Az (Ao 7 7 J J J (by kernel_rfl) J) (Az (Ap 3 J J J J (by kernel_rfl) J J J) (Ad (Az (Au 10 J J J (by kernel_rfl) J J) (Az (Ap 10 J J J J (by kernel_rfl) J J J) (A2 (Be (T := 46) (e := Bx) 103 100 2 J J J J J ?_))))))))))))
   refine AU ?_
   exact ⟨rn [(9, 100), (0, 103)], ⟨⟨⟨_, J, VLe.rf⟩, O⟩, ⟨⟨_, J, by first | exact BLe.rf | exact AE (by rw [hno]; first | done | rfl)⟩, ⟨_, J, by first | exact BLe.rf | exact AE (by rw [hno]; first | done | rfl)⟩, ⟨_, J, by first | exact BLe.rf | (refine BLe.arr ?_; rw [hno]; first | done | rfl)⟩, O⟩, ⟨⟨J, .inl nofun, fun _ _ => ⟨_, J⟩⟩, O⟩, J⟩⟩
 try simp only [tdy] at h19
 have hh : AA tk e st = (tk[st.i]'(by omega)) := EC (by omega) (by omega)
 refine AB J J (A0 J J) (AB J J (AI J J J) (AB J J (Ao 0 0 J J J (by kernel_rfl) J) (AB J J (A4 J J J (by kernel_rfl) J) (AB J J (A0 J J) (AB J J (AI J J J) (AB J J (Ao 1 1 J J J (by kernel_rfl) J) (AB J J (A4 J J J (by kernel_rfl) J) ?_)))))))
 refine AB J J (Am 62 4 st.i J J J (by kernel_rfl) J (by omega) (by omega)) ?_
 refine AB J J (CM (off := 0) (o' := 0) J J (by kernel_rfl) J) (AB J J (BW J J (by kernel_rfl) J) ?_)
 refine Bh J J (AR J J J) (fun b33 h33 => ?_)
 refine Az (AJ J J J) (Az (A0 J J) ?_)
 cases b33
 · try simp only [tdy] at h33
   have hnt : CP (AA tk e st) = false := by rw [hh]; simp [CP, h33]
   have hop := Ie (tk := tk) (e := e) (st := st) (by rw [hh]; simp [BJ, h33])
   refine A3 J J J J (A3 J J J J (A3 J J J J (A3 J J J J (A3 J J J J (A3 J J J J (A3 J J J J (A3 J J J J (A3 J J J J (A3 J J J J (A3 J J J J (A3 J J J J (Az (AD J J J) (Bj (by kernel_rfl) ?_)))))))))))))
   refine Ab J (A8 (A8 (Bw J (Az (A0 J J) (Az (AI J J J) (Az (Ao 3 3 J J J (by kernel_rfl) J) (Az (A4 J J J (by kernel_rfl) J) ?_)))))))
   refine Bd (AR J J J) (fun b63 h63 => ?_)
   refine Az (A0 J J) ?_
   cases b63
   · exfalso; (try simp only [tdy] at h63); omega
   try simp only [tdy] at h63
   refine AB J J (A0 J J) (AB J J (AI J J J) (AB J J (Ao 1 1 J J J (by kernel_rfl) J) (AB J J (A4 J J J (by kernel_rfl) J) (AB J J (A0 J J) (AB J J (AI J J J) (AB J J (Ao 0 0 J J J (by kernel_rfl) J) (AB J J (A4 J J J (by kernel_rfl) J) (AB J J (Ak 62 4 J J (by kernel_rfl)) ?_))))))))
   refine Bh J J (BI J J J) (fun b74 h74 => ?_)
   refine Az (AJ J J J) (Az (A0 J J) ?_)
   cases b74
   · exfalso; (try simp only [tdy] at h74); omega
   try simp only [tdy] at h74
   refine AB J J (A0 J J) (AB J J (AI J J J) (AB J J (Ao 0 0 J J J (by kernel_rfl) J) (AB J J (A4 J J J (by kernel_rfl) J) (AB J J (A0 J J) (AB J J (AI J J J) (AB J J (Ao 1 1 J J J (by kernel_rfl) J) (AB J J (A4 J J J (by kernel_rfl) J) ?_)))))))
   refine AB J J (Am 62 4 st.i J J J (by kernel_rfl) J (by omega) (by omega)) ?_
   refine AB J J (CM (off := 0) (o' := 0) J J (by kernel_rfl) J) (AB J J (BW J J (by kernel_rfl) J) ?_)
   refine Bh J J (AR J J J) (fun b88 h88 => ?_)
   refine Az (AJ J J J) (Az (A0 J J) ?_)
   cases b88
   rotate_left
   · exfalso; (try simp only [tdy] at h88); omega
   try simp only [tdy] at h88
   refine A3 J J J J (A3 J J J J (A3 J J J J (A3 J J J J (A3 J J J J (A3 J J J J (A3 J J J J (A3 J J J J (A3 J J J J (A3 J J J J (A3 J J J J (A3 J J J J (A3 J J J J (Az (AD J J J) (Az (A0 J J) (A3 J J J J (A3 J J J J (A3 J J J J (A3 J J J J (A3 J J J J (A3 J J J J (A3 J J J J (Az (AD J J J) (Bj (by kernel_rfl) ?_)))))))))))))))))))))))
   refine Ab J (Aa (Az (Al [.int .i64 0, .string ⟨#[]⟩, .slice none 0 0, .int .i64 0, .string ⟨#[]⟩, .int .i64 0, .string ⟨#[]⟩, .string ⟨#[]⟩, .int .i64 0, .string ⟨#[]⟩] [(0, 1), (1, 2), (3, 1), (4, 3), (7, 3)] J (by kernel_rfl) J J J J J) (Az (Aw (.agg #[.int .i64 0, .string ⟨#[]⟩, .slice none 0 0, .int .i64 0, .string ⟨#[]⟩, .int .i64 0, .string ⟨#[]⟩, .string ⟨#[]⟩, .int .i64 0, .string ⟨#[]⟩]) 102 J (by kernel_rfl) J J J J) (Az (Ap 10 J J J J (by kernel_rfl) J J J) (Ad (Az (A0 J J) (Az (Aj J J J (D6 tk e st hm hi hok false) J J J J) (Az (Ao 4 4 J J J (by kernel_rfl) J) (Az (Ap 3 J J J J (by kernel_rfl) J J J) (Ad (Az (A0 J J) (Az (Aj J J J (sOp_c tk e (AM tk e false st).2 hm (B5 hi)) J J J J) (Az (Ao 3 3 J J J (by kernel_rfl) J) (Az (Ap 1 J J J J (by kernel_rfl) J J J) (A2 (A8 (Aa (Az (Ao 3 3 J J J (by kernel_rfl) J) (Az (A4 J J J (by kernel_rfl) J) ?_)))))))))))))))))))
   refine Bd (AR J J J) (fun b126 h126 => ?_)
   refine A2 ?_
   cases b126
   rotate_left
   · try simp only [tdy] at h126
     have hq := Cm (e := e) (c := 6) (B5 (e := e) (b := false) hi)
     have hno := EA hnt hop (opP_no h126)
     refine A5 J (AG (Az (A0 J J) (Az (Aj J J J (Cb tk e (AM tk e false st).2 hm (B5 hi) 6) J J J J) (Ad (Az (A0 J J) (Az (Aj J J J (D6 tk e _ hm hq hok false) J J J J) (Az (Ao 7 7 J J J (by kernel_rfl) J) (Az (Ap 3 J J J J (by kernel_rfl) J J J) (Ad (Az (Au 10 J J J (by kernel_rfl) J J) (Az (Ap 10 J J J J (by kernel_rfl) J J J) (A2 (Be (T := 46) (e := Bx) 103 100 2 J J J J J ?_)))))))))))))
     refine AU ?_
     exact ⟨rn [(9, 100), (0, 103)], ⟨⟨⟨_, J, VLe.rf⟩, O⟩, ⟨⟨_, J, by first | exact BLe.rf | exact AE (by rw [hno]; first | done | rfl)⟩, ⟨_, J, by first | exact BLe.rf | exact AE (by rw [hno]; first | done | rfl)⟩, ⟨_, J, by first | exact BLe.rf | (refine BLe.arr ?_; rw [hno]; first | done | rfl)⟩, O⟩, ⟨⟨J, .inl nofun, fun _ _ => ⟨_, J⟩⟩, O⟩, J⟩⟩
   try simp only [tdy] at h126
   have hq := Ca (Gv (tk := tk) (e := e) (st := (AM tk e false st).2) h126).2
   have hlt2 : (AM tk e false st).2.i < tk.length := hq
   have hno := EA hnt hop (Gv h126).1
   refine Bc J (AG (Az (A0 J J) (Az (AI J J J) (Az (Ao 1 1 J J J (by kernel_rfl) J) (Az (A4 J J J (by kernel_rfl) J) ?_)))))
   refine Az (Bl J J J (IntWalk.i64_in _ (by omega))) ?_
   refine Az (AI J J J) (Az (Ao 1 1 J J J (by kernel_rfl) J) (Az (Ap 1 J J J J (by kernel_rfl) J J J) (Ad (Az (A0 J J) (Az (Aj J J J (D6 tk e _ hm hq hok false) J J J J) (Az (Ao 7 7 J J J (by kernel_rfl) J) (Az (Ap 3 J J J J (by kernel_rfl) J J J) (Ad (Az (Au 10 J J J (by kernel_rfl) J J) (Az (Ap 10 J J J J (by kernel_rfl) J J J) (A2 (Be (T := 46) (e := Bx) 103 100 2 J J J J J ?_))))))))))))
   refine AU ?_
   exact ⟨rn [(9, 100), (0, 103)], ⟨⟨⟨_, J, VLe.rf⟩, O⟩, ⟨⟨_, J, by first | exact BLe.rf | exact AE (by rw [hno]; first | done | rfl)⟩, ⟨_, J, by first | exact BLe.rf | exact AE (by rw [hno]; first | done | rfl)⟩, ⟨_, J, by first | exact BLe.rf | (refine BLe.arr ?_; rw [hno]; first | done | rfl)⟩, O⟩, ⟨⟨J, .inl nofun, fun _ _ => ⟨_, J⟩⟩, O⟩, J⟩⟩
 try simp only [tdy] at h33
 refine AB J J (A0 J J) (AB J J (AI J J J) (AB J J (Ao 0 0 J J J (by kernel_rfl) J) (AB J J (A4 J J J (by kernel_rfl) J) (AB J J (A0 J J) (AB J J (AI J J J) (AB J J (Ao 1 1 J J J (by kernel_rfl) J) (AB J J (A4 J J J (by kernel_rfl) J) ?_)))))))
 refine AB J J (Am 62 4 st.i J J J (by kernel_rfl) J (by omega) (by omega)) ?_
 refine AB J J (CM (off := 2) (o' := 2) J J (by kernel_rfl) J) (AB J J (BW J J (by kernel_rfl) J) ?_)
 refine Bh J J (DH J J J) (fun b47 h47 => ?_)
 refine Az (AJ J J J) (Bj (by kernel_rfl) ?_)
 cases b47
 rotate_left
 · try simp only [tdy] at h47
   have hnt : CP (AA tk e st) = true := by rw [hh]; simp [CP, FG, h33, h47]
   have hlt := Ca (not_lt hnt)
   have hlt2 := not_lt hnt
   have hno := litS_not hnt
   refine A5 J (Aa (Az (A0 J J) (Az (AI J J J) (Az (Ao 1 1 J J J (by kernel_rfl) J) (Az (A4 J J J (by kernel_rfl) J) ?_)))))
   refine Az (Bl J J J (IntWalk.i64_in _ (by omega))) ?_
   refine Az (AI J J J) (Az (Ao 1 1 J J J (by kernel_rfl) J) (Az (Ap 1 J J J J (by kernel_rfl) J J J) (Ad (Az (A0 J J) (Az (Av [] [(200, some _)] [(200, some _), (101, some _)] J J J (sAtom_c tk e st.next hm hlt hok 101 J) J AllV.rf (BE J) J J J ⟨J, O⟩ J) (Az (Al [.int .i64 0, .string ⟨#[]⟩, .slice none 0 0, .int .i64 0, .string ⟨#[]⟩, .int .i64 0, .string ⟨#[]⟩, .string ⟨#[]⟩, .int .i64 0, .string ⟨#[]⟩] [(0, 1), (1, 2), (3, 1), (4, 3), (7, 3)] J (by kernel_rfl) J J J J J) (Az (Ap 10 J J J J (by kernel_rfl) J J J) (Ae ?_))))))))
   exact ⟨rn [(9, 100), (0, 101)], ⟨⟨⟨_, J, VLe.rf⟩, O⟩, ⟨⟨_, J, by first | exact BLe.rf | exact AE (by rw [hno]; first | done | rfl)⟩, ⟨_, J, by first | exact BLe.rf | exact AE (by rw [hno]; first | done | rfl)⟩, ⟨_, J, by first | exact BLe.rf | (refine BLe.arr ?_; rw [hno]; first | done | rfl)⟩, O⟩, ⟨⟨J, .inl nofun, fun _ _ => ⟨_, J⟩⟩, O⟩, J⟩⟩
 try simp only [tdy] at h47
 have hnt : CP (AA tk e st) = false := by rw [hh]; simp [CP, FG, h33, h47]
 refine Ab J (A8 (A8 (Bw J (Az (A0 J J) (Az (AI J J J) (Az (Ao 3 3 J J J (by kernel_rfl) J) (Az (A4 J J J (by kernel_rfl) J) ?_)))))))
 refine Bd (AR J J J) (fun b63 h63 => ?_)
 refine Az (A0 J J) ?_
 cases b63
 · exfalso; (try simp only [tdy] at h63); omega
 try simp only [tdy] at h63
 refine AB J J (A0 J J) (AB J J (AI J J J) (AB J J (Ao 1 1 J J J (by kernel_rfl) J) (AB J J (A4 J J J (by kernel_rfl) J) (AB J J (A0 J J) (AB J J (AI J J J) (AB J J (Ao 0 0 J J J (by kernel_rfl) J) (AB J J (A4 J J J (by kernel_rfl) J) (AB J J (Ak 62 4 J J (by kernel_rfl)) ?_))))))))
 refine Bh J J (BI J J J) (fun b74 h74 => ?_)
 refine Az (AJ J J J) (Az (A0 J J) ?_)
 cases b74
 · exfalso; (try simp only [tdy] at h74); omega
 try simp only [tdy] at h74
 refine AB J J (A0 J J) (AB J J (AI J J J) (AB J J (Ao 0 0 J J J (by kernel_rfl) J) (AB J J (A4 J J J (by kernel_rfl) J) (AB J J (A0 J J) (AB J J (AI J J J) (AB J J (Ao 1 1 J J J (by kernel_rfl) J) (AB J J (A4 J J J (by kernel_rfl) J) ?_)))))))
 refine AB J J (Am 62 4 st.i J J J (by kernel_rfl) J (by omega) (by omega)) ?_
 refine AB J J (CM (off := 0) (o' := 0) J J (by kernel_rfl) J) (AB J J (BW J J (by kernel_rfl) J) ?_)
 refine Bh J J (AR J J J) (fun b88 h88 => ?_)
 refine Az (AJ J J J) (Az (A0 J J) ?_)
 cases b88
 · exfalso; (try simp only [tdy] at h88); omega
 try simp only [tdy] at h88
 refine AB J J (A0 J J) (AB J J (AI J J J) (AB J J (Ao 0 0 J J J (by kernel_rfl) J) (AB J J (A4 J J J (by kernel_rfl) J) (AB J J (A0 J J) (AB J J (AI J J J) (AB J J (Ao 1 1 J J J (by kernel_rfl) J) (AB J J (A4 J J J (by kernel_rfl) J) ?_)))))))
 refine AB J J (Am 62 4 st.i J J J (by kernel_rfl) J (by omega) (by omega)) ?_
 refine AB J J (CM (off := 2) (o' := 2) J J (by kernel_rfl) J) (AB J J (BW J J (by kernel_rfl) J) ?_)
 refine Bh J J (AS J J J (Ht _) J J) (fun b102 h102 => ?_)
 refine AB J J (Cn J J) (Az (AJ J J J) (Az (A0 J J) ?_))
 cases b102
 rotate_left
 · try simp only [tdy] at h102
   have hop := Ie (tk := tk) (e := e) (st := st) (by rw [hh]; simp [BJ, h102])
   refine A3 J J J J (A3 J J J J (A3 J J J J (A3 J J J J (A3 J J J J (A3 J J J J (A3 J J J J (Az (AD J J J) (Bj (by kernel_rfl) ?_))))))))
   refine Ab J (Aa (Az (Al [.int .i64 0, .string ⟨#[]⟩, .slice none 0 0, .int .i64 0, .string ⟨#[]⟩, .int .i64 0, .string ⟨#[]⟩, .string ⟨#[]⟩, .int .i64 0, .string ⟨#[]⟩] [(0, 1), (1, 2), (3, 1), (4, 3), (7, 3)] J (by kernel_rfl) J J J J J) (Az (Aw (.agg #[.int .i64 0, .string ⟨#[]⟩, .slice none 0 0, .int .i64 0, .string ⟨#[]⟩, .int .i64 0, .string ⟨#[]⟩, .string ⟨#[]⟩, .int .i64 0, .string ⟨#[]⟩]) 102 J (by kernel_rfl) J J J J) (Az (Ap 10 J J J J (by kernel_rfl) J J J) (Ad (Az (A0 J J) (Az (Aj J J J (D6 tk e st hm hi hok false) J J J J) (Az (Ao 4 4 J J J (by kernel_rfl) J) (Az (Ap 3 J J J J (by kernel_rfl) J J J) (Ad (Az (A0 J J) (Az (Aj J J J (sOp_c tk e (AM tk e false st).2 hm (B5 hi)) J J J J) (Az (Ao 3 3 J J J (by kernel_rfl) J) (Az (Ap 1 J J J J (by kernel_rfl) J J J) (A2 (A8 (Aa (Az (Ao 3 3 J J J (by kernel_rfl) J) (Az (A4 J J J (by kernel_rfl) J) ?_)))))))))))))))))))
   refine Bd (AR J J J) (fun b126 h126 => ?_)
   refine A2 ?_
   cases b126
   rotate_left
   · try simp only [tdy] at h126
     have hq := Cm (e := e) (c := 6) (B5 (e := e) (b := false) hi)
     have hno := EA hnt hop (opP_no h126)
     refine A5 J (AG (Az (A0 J J) (Az (Aj J J J (Cb tk e (AM tk e false st).2 hm (B5 hi) 6) J J J J) (Ad (Az (A0 J J) (Az (Aj J J J (D6 tk e _ hm hq hok false) J J J J) (Az (Ao 7 7 J J J (by kernel_rfl) J) (Az (Ap 3 J J J J (by kernel_rfl) J J J) (Ad (Az (Au 10 J J J (by kernel_rfl) J J) (Az (Ap 10 J J J J (by kernel_rfl) J J J) (A2 (Be (T := 46) (e := Bx) 103 100 2 J J J J J ?_)))))))))))))
     refine AU ?_
     exact ⟨rn [(9, 100), (0, 103)], ⟨⟨⟨_, J, VLe.rf⟩, O⟩, ⟨⟨_, J, by first | exact BLe.rf | exact AE (by rw [hno]; first | done | rfl)⟩, ⟨_, J, by first | exact BLe.rf | exact AE (by rw [hno]; first | done | rfl)⟩, ⟨_, J, by first | exact BLe.rf | (refine BLe.arr ?_; rw [hno]; first | done | rfl)⟩, O⟩, ⟨⟨J, .inl nofun, fun _ _ => ⟨_, J⟩⟩, O⟩, J⟩⟩
   try simp only [tdy] at h126
   have hq := Ca (Gv (tk := tk) (e := e) (st := (AM tk e false st).2) h126).2
   have hlt2 : (AM tk e false st).2.i < tk.length := hq
   have hno := EA hnt hop (Gv h126).1
   refine Bc J (AG (Az (A0 J J) (Az (AI J J J) (Az (Ao 1 1 J J J (by kernel_rfl) J) (Az (A4 J J J (by kernel_rfl) J) ?_)))))
   refine Az (Bl J J J (IntWalk.i64_in _ (by omega))) ?_
   refine Az (AI J J J) (Az (Ao 1 1 J J J (by kernel_rfl) J) (Az (Ap 1 J J J J (by kernel_rfl) J J J) (Ad (Az (A0 J J) (Az (Aj J J J (D6 tk e _ hm hq hok false) J J J J) (Az (Ao 7 7 J J J (by kernel_rfl) J) (Az (Ap 3 J J J J (by kernel_rfl) J J J) (Ad (Az (Au 10 J J J (by kernel_rfl) J J) (Az (Ap 10 J J J J (by kernel_rfl) J J J) (A2 (Be (T := 46) (e := Bx) 103 100 2 J J J J J ?_))))))))))))
   refine AU ?_
   exact ⟨rn [(9, 100), (0, 103)], ⟨⟨⟨_, J, VLe.rf⟩, O⟩, ⟨⟨_, J, by first | exact BLe.rf | exact AE (by rw [hno]; first | done | rfl)⟩, ⟨_, J, by first | exact BLe.rf | exact AE (by rw [hno]; first | done | rfl)⟩, ⟨_, J, by first | exact BLe.rf | (refine BLe.arr ?_; rw [hno]; first | done | rfl)⟩, O⟩, ⟨⟨J, .inl nofun, fun _ _ => ⟨_, J⟩⟩, O⟩, J⟩⟩
 try simp only [tdy] at h102
 have hnm : BJ (AA tk e st) = true := by rw [hh]; simp [BJ, h33, h102]
 refine AB J J (A0 J J) (AB J J (A0 J J) (AB J J (AI J J J) (AB J J (Ao 1 1 J J J (by kernel_rfl) J) (AB J J (A4 J J J (by kernel_rfl) J) ?_))))
 refine AB J J (Bl J J J (IntWalk.i64_in _ (by omega))) ?_
 refine FF J J (Aj J J J (sIsN_c tk e st hm hi ⟨#[40]⟩) J J J J) (fun b112 h112 => ?_)
 refine Az (AJ J J J) (Bj (by kernel_rfl) ?_)
 cases b112
 rotate_left
 · try simp only [tdy] at h112
   have hop : CW tk e st = true := by simp [CW, hnm, h112]
   have hno := litS_is hnt hop
   refine A5 J (Aa (Az (A0 J J) (Az (Av [] [(200, some _)] [(200, some _), (104, some _)] J J J (sAtom_c tk e st hm hi hok 104 J) J AllV.rf (BE J) J J J ⟨J, O⟩ J) (Az (Al [.int .i64 0, .string ⟨#[]⟩, .slice none 0 0, .int .i64 0, .string ⟨#[]⟩, .int .i64 0, .string ⟨#[]⟩, .string ⟨#[]⟩, .int .i64 0, .string ⟨#[]⟩] [(0, 1), (1, 2), (3, 1), (4, 3), (7, 3)] J (by kernel_rfl) J J J J J) (Az (Ap 10 J J J J (by kernel_rfl) J J J) (Ae ?_))))))
   exact ⟨rn [(9, 100), (0, 104)], ⟨⟨⟨_, J, VLe.rf⟩, O⟩, ⟨⟨_, J, by first | exact BLe.rf | exact AE (by rw [hno]; first | done | rfl)⟩, ⟨_, J, by first | exact BLe.rf | exact AE (by rw [hno]; first | done | rfl)⟩, ⟨_, J, by first | exact BLe.rf | (refine BLe.arr ?_; rw [hno]; first | done | rfl)⟩, O⟩, ⟨⟨J, .inl nofun, fun _ _ => ⟨_, J⟩⟩, O⟩, J⟩⟩
 try simp only [tdy] at h112
 have hop : CW tk e st = false := by simp [CW, hnm, h112]
 refine Ab J (Aa (Az (Al [.int .i64 0, .string ⟨#[]⟩, .slice none 0 0, .int .i64 0, .string ⟨#[]⟩, .int .i64 0, .string ⟨#[]⟩, .string ⟨#[]⟩, .int .i64 0, .string ⟨#[]⟩] [(0, 1), (1, 2), (3, 1), (4, 3), (7, 3)] J (by kernel_rfl) J J J J J) (Az (Aw (.agg #[.int .i64 0, .string ⟨#[]⟩, .slice none 0 0, .int .i64 0, .string ⟨#[]⟩, .int .i64 0, .string ⟨#[]⟩, .string ⟨#[]⟩, .int .i64 0, .string ⟨#[]⟩]) 102 J (by kernel_rfl) J J J J) (Az (Ap 10 J J J J (by kernel_rfl) J J J) (Ad (Az (A0 J J) (Az (Aj J J J (D6 tk e st hm hi hok false) J J J J) (Az (Ao 4 4 J J J (by kernel_rfl) J) (Az (Ap 3 J J J J (by kernel_rfl) J J J) (Ad (Az (A0 J J) (Az (Aj J J J (sOp_c tk e (AM tk e false st).2 hm (B5 hi)) J J J J) (Az (Ao 3 3 J J J (by kernel_rfl) J) (Az (Ap 1 J J J J (by kernel_rfl) J J J) (A2 (A8 (Aa (Az (Ao 3 3 J J J (by kernel_rfl) J) (Az (A4 J J J (by kernel_rfl) J) ?_)))))))))))))))))))
 refine Bd (AR J J J) (fun b126 h126 => ?_)
 refine A2 ?_
 cases b126
 rotate_left
 · try simp only [tdy] at h126
   have hq := Cm (e := e) (c := 6) (B5 (e := e) (b := false) hi)
   have hno := EA hnt hop (opP_no h126)
   refine A5 J (AG (Az (A0 J J) (Az (Aj J J J (Cb tk e (AM tk e false st).2 hm (B5 hi) 6) J J J J) (Ad (Az (A0 J J) (Az (Aj J J J (D6 tk e _ hm hq hok false) J J J J) (Az (Ao 7 7 J J J (by kernel_rfl) J) (Az (Ap 3 J J J J (by kernel_rfl) J J J) (Ad (Az (Au 10 J J J (by kernel_rfl) J J) (Az (Ap 10 J J J J (by kernel_rfl) J J J) (A2 (Be (T := 46) (e := Bx) 103 100 2 J J J J J ?_)))))))))))))
   refine AU ?_
   exact ⟨rn [(9, 100), (0, 103)], ⟨⟨⟨_, J, VLe.rf⟩, O⟩, ⟨⟨_, J, by first | exact BLe.rf | exact AE (by rw [hno]; first | done | rfl)⟩, ⟨_, J, by first | exact BLe.rf | exact AE (by rw [hno]; first | done | rfl)⟩, ⟨_, J, by first | exact BLe.rf | (refine BLe.arr ?_; rw [hno]; first | done | rfl)⟩, O⟩, ⟨⟨J, .inl nofun, fun _ _ => ⟨_, J⟩⟩, O⟩, J⟩⟩
 try simp only [tdy] at h126
 have hq := Ca (Gv (tk := tk) (e := e) (st := (AM tk e false st).2) h126).2
 have hlt2 : (AM tk e false st).2.i < tk.length := hq
 have hno := EA hnt hop (Gv h126).1
 refine Bc J (AG (Az (A0 J J) (Az (AI J J J) (Az (Ao 1 1 J J J (by kernel_rfl) J) (Az (A4 J J J (by kernel_rfl) J) ?_)))))
 refine Az (Bl J J J (IntWalk.i64_in _ (by omega))) ?_
 refine Az (AI J J J) (Az (Ao 1 1 J J J (by kernel_rfl) J) (Az (Ap 1 J J J J (by kernel_rfl) J J J) (Ad (Az (A0 J J) (Az (Aj J J J (D6 tk e _ hm hq hok false) J J J J) (Az (Ao 7 7 J J J (by kernel_rfl) J) (Az (Ap 3 J J J J (by kernel_rfl) J J J) (Ad (Az (Au 10 J J J (by kernel_rfl) J J) (Az (Ap 10 J J J J (by kernel_rfl) J J J) (A2 (Be (T := 46) (e := Bx) 103 100 2 J J J J J ?_))))))))))))
 refine AU ?_
 exact ⟨rn [(9, 100), (0, 103)], ⟨⟨⟨_, J, VLe.rf⟩, O⟩, ⟨⟨_, J, by first | exact BLe.rf | exact AE (by rw [hno]; first | done | rfl)⟩, ⟨_, J, by first | exact BLe.rf | exact AE (by rw [hno]; first | done | rfl)⟩, ⟨_, J, by first | exact BLe.rf | (refine BLe.arr ?_; rw [hno]; first | done | rfl)⟩, O⟩, ⟨⟨J, .inl nofun, fun _ _ => ⟨_, J⟩⟩, O⟩, J⟩⟩

theorem sLit_c (tk : List Tokent) (e : Int) (st : PS) (hm : tk.length ≤ 1048576) (hi : st.i ≤ tk.length) (hok : ∀ t ∈ tk, EL t) (k : Nat) (hk : Nat.beq k 200 = false) : AC Tryz.prog 106 [.one (.ptr 200 0)] [(200, some (psB tk e st))] (.agg (litK (DT tk e st).1 k)) [(200, some (psB tk e (DT tk e st).2)), (k, some (.arr 46 Bx (DT tk e st).1.atom.args true))] := AC.ps (sLit_c0 tk e st hm hi hok) k hk (fun r h => litK_ren h) (fun _ => rfl)

set_option maxHeartbeats 4000000 in
theorem sBegins_c (tk : List Tokent) (e : Int) (st : PS) (hm : tk.length ≤ 1048576) (hi : st.i ≤ tk.length) : AC Tryz.prog 105 [.one (.ptr 200 0)] [(200, some (psB tk e st))] (.one (.c (.bool (BL (AA tk e st))))) [(200, some (psB tk e st))] := by
 refine Bn Tryz.func105 J J Tryz.ntmps105 J Tryz.results105 ?_
 refine Aa (Az (A1 J J) (A2 (A8 (A8 (Bw J (Az (A0 J J) (Az (AI J J J) (Az (Ao 3 3 J J J (by kernel_rfl) J) (Az (A4 J J J (by kernel_rfl) J) ?_)))))))))
 refine Bd (EK J J J) (fun b8 h8 => ?_)
 refine Az (A0 J J) ?_
 cases b8
 rotate_left
 · try simp only [tdy] at h8
   have h0k : (AA tk e st).kind = 0 := Ec (fun q => by omega)
   have hb := begins_zero h0k
   refine A3 J J J J (A3 J J J J (A3 J J J J (A3 J J J J (A3 J J J J (A3 J J J J (A3 J J J J (A3 J J J J (A3 J J J J (A3 J J J J (Az (AJ J J J) (Bj (by kernel_rfl) ?_)))))))))))
   refine A5 J (Aa (Az (A1 J J) (Ae ?_)))
   exact ⟨rn [], ⟨⟨⟨_, J, AH (by first | exact hb.symm | (rw [hh]; simp [BL, BN, BJ, CP, FG, *]))⟩, O⟩, ⟨⟨_, J, by first | exact BLe.rf | exact AE (by rw [hno]; first | done | rfl)⟩, O⟩, ⟨⟨J, .inl nofun, fun _ _ => ⟨_, J⟩⟩, O⟩, J⟩⟩
 try simp only [tdy] at h8
 refine AB J J (A0 J J) (AB J J (AI J J J) (AB J J (Ao 1 1 J J J (by kernel_rfl) J) (AB J J (A4 J J J (by kernel_rfl) J) (AB J J (A0 J J) (AB J J (AI J J J) (AB J J (Ao 0 0 J J J (by kernel_rfl) J) (AB J J (A4 J J J (by kernel_rfl) J) (AB J J (Ak 62 4 J J (by kernel_rfl)) ?_))))))))
 refine Bh J J (Ee J J J) (fun b19 h19 => ?_)
 refine Az (AD J J J) (Bj (by kernel_rfl) ?_)
 cases b19
 rotate_left
 · try simp only [tdy] at h19
   have h0k : (AA tk e st).kind = 0 := Ec (fun q => by omega)
   have hb := begins_zero h0k
   refine A5 J (Aa (Az (A1 J J) (Ae ?_)))
   exact ⟨rn [], ⟨⟨⟨_, J, AH (by first | exact hb.symm | (rw [hh]; simp [BL, BN, BJ, CP, FG, *]))⟩, O⟩, ⟨⟨_, J, by first | exact BLe.rf | exact AE (by rw [hno]; first | done | rfl)⟩, O⟩, ⟨⟨J, .inl nofun, fun _ _ => ⟨_, J⟩⟩, O⟩, J⟩⟩
 try simp only [tdy] at h19
 have hh : AA tk e st = (tk[st.i]'(by omega)) := EC (by omega) (by omega)
 refine Ab J (A8 (Bw J (Az (A0 J J) (Az (AI J J J) (Az (Ao 0 0 J J J (by kernel_rfl) J) (Az (A4 J J J (by kernel_rfl) J) (Az (A0 J J) (Az (AI J J J) (Az (Ao 1 1 J J J (by kernel_rfl) J) (Az (A4 J J J (by kernel_rfl) J) ?_))))))))))
 refine Az (Am 62 4 st.i J J J (by kernel_rfl) J (by omega) (by omega)) ?_
 refine Az (Co (n := 4) J J (by kernel_rfl) J) (Az (Aw (.agg #[.int .i64 0, .int .i64 0, .string ⟨#[]⟩, .int .i64 0]) 100 J (by kernel_rfl) J J J J) (Az (Ap 4 J J J J (by kernel_rfl) J J J) (Bj (by kernel_rfl) ?_)))
 refine Aa (Az (Ao 0 0 J J J (by kernel_rfl) J) (Az (A4 J J J (by kernel_rfl) J) ?_))
 refine Bd (AR J J J) (fun b33 h33 => ?_)
 refine Az (A0 J J) ?_
 cases b33
 rotate_left
 · try simp only [tdy] at h33
   refine A3 J J J J (A3 J J J J (A3 J J J J (Az (AJ J J J) (Az (A0 J J) (A3 J J J J (A3 J J J J (A3 J J J J (A3 J J J J (Dc J J J (Dc J J J (Dc J J J (Dc J J J (Dc J J J (Dc J J J (Dc J J J (Dc J J J (Dc J J J (A3 J J J J (Az (AJ J J J) (Az (A1 J J) (Ae ?_)))))))))))))))))))))
   exact ⟨rn [], ⟨⟨⟨_, J, AH (by first | exact hb.symm | (rw [hh]; simp [BL, BN, BJ, CP, FG, *]))⟩, O⟩, ⟨⟨_, J, by first | exact BLe.rf | exact AE (by rw [hno]; first | done | rfl)⟩, O⟩, ⟨⟨J, .inl nofun, fun _ _ => ⟨_, J⟩⟩, O⟩, J⟩⟩
 try simp only [tdy] at h33
 refine AB J J (Ao 0 0 J J J (by kernel_rfl) J) (AB J J (A4 J J J (by kernel_rfl) J) ?_)
 refine Bh J J (AR J J J) (fun b37 h37 => ?_)
 refine Az (AD J J J) (Az (A0 J J) ?_)
 cases b37
 rotate_left
 · try simp only [tdy] at h37
   refine A3 J J J J (A3 J J J J (A3 J J J J (A3 J J J J (Dc J J J (Dc J J J (Dc J J J (Dc J J J (Dc J J J (Dc J J J (Dc J J J (Dc J J J (Dc J J J (A3 J J J J (Az (AJ J J J) (Az (A1 J J) (Ae ?_))))))))))))))))
   exact ⟨rn [], ⟨⟨⟨_, J, AH (by first | exact hb.symm | (rw [hh]; simp [BL, BN, BJ, CP, FG, *]))⟩, O⟩, ⟨⟨_, J, by first | exact BLe.rf | exact AE (by rw [hno]; first | done | rfl)⟩, O⟩, ⟨⟨J, .inl nofun, fun _ _ => ⟨_, J⟩⟩, O⟩, J⟩⟩
 try simp only [tdy] at h37
 refine AB J J (Ao 0 0 J J J (by kernel_rfl) J) (AB J J (A4 J J J (by kernel_rfl) J) ?_)
 refine Bh J J (AR J J J) (fun b42 h42 => ?_)
 refine AB J J (A0 J J) ?_
 cases b42
 · try simp only [tdy] at h42
   refine A3 J J J J (A3 J J J J (A3 J J J J (A3 J J J J (Dc J J J (Dc J J J (Dc J J J (Dc J J J (A3 J J J J (AB J J (AD J J J) (Az (AD J J J) (Az (A1 J J) (Ae ?_))))))))))))
   exact ⟨rn [], ⟨⟨⟨_, J, AH (by first | exact hb.symm | (rw [hh]; simp [BL, BN, BJ, CP, FG, *]))⟩, O⟩, ⟨⟨_, J, by first | exact BLe.rf | exact AE (by rw [hno]; first | done | rfl)⟩, O⟩, ⟨⟨J, .inl nofun, fun _ _ => ⟨_, J⟩⟩, O⟩, J⟩⟩
 try simp only [tdy] at h42
 refine AB J J (Ao 2 2 J J J (by kernel_rfl) J) (AB J J (A4 J J J (by kernel_rfl) J) ?_)
 refine Bh J J (DH J J J) (fun b46 h46 => ?_)
 refine AB J J (A0 J J) ?_
 cases b46
 rotate_left
 · try simp only [tdy] at h46
   refine A3 J J J J (A3 J J J J (A3 J J J J (A3 J J J J (AB J J (AJ J J J) (AB J J (AJ J J J) (Az (AD J J J) (Az (A1 J J) (Ae ?_))))))))
   exact ⟨rn [], ⟨⟨⟨_, J, AH (by first | exact hb.symm | (rw [hh]; simp [BL, BN, BJ, CP, FG, *]))⟩, O⟩, ⟨⟨_, J, by first | exact BLe.rf | exact AE (by rw [hno]; first | done | rfl)⟩, O⟩, ⟨⟨J, .inl nofun, fun _ _ => ⟨_, J⟩⟩, O⟩, J⟩⟩
 try simp only [tdy] at h46
 refine AB J J (Ao 2 2 J J J (by kernel_rfl) J) (AB J J (A4 J J J (by kernel_rfl) J) ?_)
 refine Bh J J (AS J J J (Ht _) J J) (fun b50 h50 => ?_)
 refine AB J J (Cn J J) (AB J J (AD J J J) (AB J J (AJ J J J) (Az (AD J J J) (Az (A1 J J) (Ae ?_)))))
 cases b50
 rotate_left
 · try simp only [tdy] at h50
   exact ⟨rn [], ⟨⟨⟨_, J, AH (by first | exact hb.symm | (rw [hh]; simp [BL, BN, BJ, CP, FG, *]))⟩, O⟩, ⟨⟨_, J, by first | exact BLe.rf | exact AE (by rw [hno]; first | done | rfl)⟩, O⟩, ⟨⟨J, .inl nofun, fun _ _ => ⟨_, J⟩⟩, O⟩, J⟩⟩
 try simp only [tdy] at h50
 exact ⟨rn [], ⟨⟨⟨_, J, AH (by first | exact hb.symm | (rw [hh]; simp [BL, BN, BJ, CP, FG, *]))⟩, O⟩, ⟨⟨_, J, by first | exact BLe.rf | exact AE (by rw [hno]; first | done | rfl)⟩, O⟩, ⟨⟨J, .inl nofun, fun _ _ => ⟨_, J⟩⟩, O⟩, J⟩⟩

set_option maxHeartbeats 4000000 in
theorem sRule_c0 (tk : List Tokent) (e : Int) (st : PS) (hm : tk.length ≤ 1048576) (hi : st.i ≤ tk.length) (hok : ∀ t ∈ tk, EL t) : AC Tryz.prog 85 [.one (.ptr 200 0)] [(200, some (psB tk e st))] (.agg (ruleO (Cl tk e st).1)) [(200, some (psB tk e (Cl tk e st).2)), (0, some (.arr 46 Bx (Cl tk e st).1.head.args true)), (1, some (.arr 48 DI (Cl tk e st).1.body true))] := by
 refine En (n := 4) (k := 9) (T := [(2, .one (.ptr 9 0))]) (Lf := ((9, some (.box (ruleO (Cl tk e st).1))) :: [(200, some (psB tk e (Cl tk e st).2)), (0, some (.arr 46 Bx (Cl tk e st).1.head.args true)), (1, some (.arr 48 DI (Cl tk e st).1.body true))])) Tryz.func85 J J Tryz.ntmps85 J Tryz.results85 J J (by kernel_rfl) J J ⟨O, (by repeat (first | exact trivial | refine ⟨⟨_, J, BLe.rf⟩, ?_⟩)), (Af J), J⟩ ?_
 refine Aa (Az (Aw (.agg #[.int .i64 0, .string ⟨#[]⟩, .slice none 0 0, .slice none 0 0]) 100 J (by kernel_rfl) J J J J) (Ad (Az (Al [.int .i64 0, .string ⟨#[]⟩, .slice none 0 0, .slice none 0 0] [(0, 1), (1, 2), (3, 1)] J (by kernel_rfl) J J J J J) (Az (Aw (.agg #[.int .i64 0, .string ⟨#[]⟩, .slice none 0 0, .slice none 0 0]) 300 J (by kernel_rfl) J J J J) (Az (Ap 4 J J J J (by kernel_rfl) J J J) (A2 ?_))))))
 refine Hf (ι := {q : PS × Int // BX tk e st = ((q.2), (q.1)) ∧ (q.1).i ≤ tk.length}) (fun p => []) (fun p => [(200, some (psB tk e (p.1.1))), (300, some (.box [.c (.int .i64 (p.1.2)), .c (.string ⟨#[]⟩), .c (.slice none 0 0), .c (.slice none 0 0)]))]) [0, 2, 3] [100] ?_ ?_
 · refine Aa (Az (A0 J J) (Az (A0 J J) (Az (AI J J J) (Az (Ao 1 1 J J J (by kernel_rfl) J) (Az (A4 J J J (by kernel_rfl) J) ?_)))))
   refine Dk (Aj J J J (Fx tk e st hm hi ⟨#[43]⟩) J J J J) (fun b10 h10 => ?_)
   refine A2 ?_
   cases b10
   rotate_left
   · try simp only [tdy] at h10
     have hlt := Ck h10
     refine A5 J (Aa (Az (Ao 0 0 J J J (by kernel_rfl) J) (Az (Ap 1 J J J J (by kernel_rfl) J J J) (A2 (AG (Az (A0 J J) (Az (AI J J J) (Az (Ao 1 1 J J J (by kernel_rfl) J) (Az (A4 J J J (by kernel_rfl) J) ?_)))))))))
     refine Az (Bl J J J (IntWalk.i64_in _ (by omega))) ?_
     refine Az (AI J J J) (Az (Ao 1 1 J J J (by kernel_rfl) J) (Az (Ap 1 J J J J (by kernel_rfl) J J J) (A2 ?_)))
     refine ⟨⟨⟨st.next, 2⟩, ⟨plus_plus h10, hlt⟩⟩, rn [], ?_⟩
     exact Ag (by repeat first | exact trivial | refine Ah J (by first | exact VLe.rf | exact A7 (by dsimp only; omega)) ?_) (by repeat first | exact trivial | refine Ai J (by first | exact BLe.rf | exact BLe.box AllC.rf | exact BLe.arr (by exact J)) ?_) J J
   try simp only [tdy] at h10
   refine Bc J (Aa (Az (A0 J J) (Az (A0 J J) (Az (AI J J J) (Az (Ao 1 1 J J J (by kernel_rfl) J) (Az (A4 J J J (by kernel_rfl) J) ?_))))))
   refine Dk (Aj J J J (Fx tk e st hm hi ⟨#[45]⟩) J J J J) (fun b24 h24 => ?_)
   refine A2 ?_
   cases b24
   · try simp only [tdy] at h24
     refine Ab J ?_
     refine ⟨⟨⟨st, 1⟩, ⟨I6 h10 h24, hi⟩⟩, rn [], ?_⟩
     exact Ag (by repeat first | exact trivial | refine Ah J (by first | exact VLe.rf | exact A7 (by dsimp only; omega)) ?_) (by repeat first | exact trivial | refine Ai J (by first | exact BLe.rf | exact BLe.box AllC.rf | exact BLe.arr (by exact J)) ?_) J J
   try simp only [tdy] at h24
   have hlt := Ck h24
   refine A5 J (Aa (Az (Ao 0 0 J J J (by kernel_rfl) J) (Az (Ap 1 J J J J (by kernel_rfl) J J J) (A2 (AG (Az (A0 J J) (Az (AI J J J) (Az (Ao 1 1 J J J (by kernel_rfl) J) (Az (A4 J J J (by kernel_rfl) J) ?_)))))))))
   refine Az (Bl J J J (IntWalk.i64_in _ (by omega))) ?_
   refine Az (AI J J J) (Az (Ao 1 1 J J J (by kernel_rfl) J) (Az (Ap 1 J J J J (by kernel_rfl) J J J) (A2 ?_)))
   refine ⟨⟨⟨st.next, 3⟩, ⟨plus_minus h10 h24, hlt⟩⟩, rn [], ?_⟩
   exact Ag (by repeat first | exact trivial | refine Ah J (by first | exact VLe.rf | exact A7 (by dsimp only; omega)) ?_) (by repeat first | exact trivial | refine Ai J (by first | exact BLe.rf | exact BLe.box AllC.rf | exact BLe.arr (by exact J)) ?_) J J
 rintro ⟨⟨s0, k0⟩, hinv⟩
 dsimp only
 have hp := hinv.1
 have hs0 : s0.i ≤ tk.length := hinv.2
 refine Aa (Az (A0 J J) (Az (Av [] [(200, some _)] [(200, some _), (101, some _)] J J J (sAtom_c tk e s0 hm hs0 hok 101 J) J AllV.rf (BE J) J J J ⟨J, O⟩ J) (Az (Ao 1 1 J J J (by kernel_rfl) J) (Az (Ap 2 J J J J (by kernel_rfl) J J J) (A2 (A8 (Aa (Az (A0 J J) (Az (A0 J J) (Az (AI J J J) (Az (Ao 1 1 J J J (by kernel_rfl) J) (Az (A4 J J J (by kernel_rfl) J) ?_))))))))))))
 refine Dk (Aj J J J (Fx tk e (Ci tk e s0).2 hm (atomS_le hs0) ⟨#[58, 45]⟩) J J J J) (fun b41 h41 => ?_)
 refine A2 ?_
 cases b41
 · try simp only [tdy] at h41
   have hno := ruleS_bare' hp h41
   have hi2 := atomS_le (e := e) hs0
   refine Ab J (Aa (Az (A0 J J) (Az (Aj J J J (Gr tk e _ hm hi2 ⟨#[46]⟩) J J J J) (Ad (Az (Au 4 J J J (by kernel_rfl) J J) (Az (Ap 4 J J J J (by kernel_rfl) J J J) (A2 (Be (T := 48) (e := DI) 106 100 3 J J J J J ?_))))))))
   refine AU ?_
   exact ⟨rn [(9, 100), (0, 101), (1, 106)], ⟨⟨⟨_, J, VLe.rf⟩, O⟩, ⟨⟨_, J, by first | exact BLe.rf | exact AE (by rw [hno]; first | done | rfl)⟩, ⟨_, J, by first | exact BLe.rf | exact AE (by rw [hno]; first | done | rfl)⟩, ⟨_, J, by first | exact BLe.rf | (refine BLe.arr ?_; rw [hno]; first | done | rfl)⟩, ⟨_, J, by first | exact BLe.rf | (refine BLe.arr ?_; rw [hno]; first | done | rfl)⟩, O⟩, ⟨⟨J, .inl nofun, fun _ _ => ⟨_, J⟩⟩, O⟩, J⟩⟩
 try simp only [tdy] at h41
 have hb0 := Ca (Ck h41)
 have hlt := Ck h41
 refine A5 J (Aa (Az (A0 J J) (Az (AI J J J) (Az (Ao 1 1 J J J (by kernel_rfl) J) (Az (A4 J J J (by kernel_rfl) J) ?_)))))
 refine Az (Bl J J J (IntWalk.i64_in _ (by omega))) ?_
 refine Az (AI J J J) (Az (Ao 1 1 J J J (by kernel_rfl) J) (Az (Ap 1 J J J J (by kernel_rfl) J J J) (A2 (AZ (Be (T := 48) (e := DI) 102 300 3 J J J J J ?_)))))
 refine B8 (ι := {q : PS × List Litt // ((q.1).i ≤ tk.length ∧ (q.2).length ≤ 8) ∧ FC tk e (10 - (q.2).length) (q.1) (q.2) = FC tk e 10 (Ci tk e s0).2.next []}) (fun p => []) (fun p => [(102, some (.arr 48 DI (p.1.2) true)), (200, some (psB tk e (p.1.1)))]) [0, 2, 3] [100, 101, 300] (fun p => 9 - (p.1.2).length) ⟨⟨(Ci tk e s0).2.next, []⟩, ⟨⟨hb0, by simp⟩, J⟩⟩ (rn []) ?_ ?_
 exact Ag (by repeat first | exact trivial | refine Ah J (by first | exact VLe.rf | exact A7 (by dsimp only; omega)) ?_) (by repeat first | exact trivial | refine Ai J (by first | exact BLe.rf | exact BLe.box AllC.rf | exact BLe.arr (by exact J)) ?_) J J
 rintro ⟨⟨st1, a⟩, hinv⟩
 dsimp only
 have hi1 : st1.i ≤ tk.length := hinv.1.1
 have hl : a.length ≤ 8 := hinv.1.2
 have hinv1 := hinv.2
 refine A8 (Aa (Az (A0 J J) (Az (AI J J J) (Az (Ao 3 3 J J J (by kernel_rfl) J) (Az (A4 J J J (by kernel_rfl) J) ?_)))))
 refine Bd (AR J J J) (fun b53 h53 => ?_)
 refine A2 ?_
 cases b53
 · try simp only [tdy] at h53
   have hno := ruleS_body' hp h41 (hinv1.symm.trans (bodyS_bad h53))
   have hi2 := hi1
   refine Bc J ?_
   refine Br (B2 ?_)
   refine Aa (Az (A0 J J) (Az (Aj J J J (Gr tk e _ hm hi2 ⟨#[46]⟩) J J J J) (Ad (Az (Au 4 J J J (by kernel_rfl) J J) (Az (Ap 4 J J J J (by kernel_rfl) J J J) (Ae ?_))))))
   exact ⟨rn [(9, 100), (0, 101), (1, 102)], ⟨⟨⟨_, J, VLe.rf⟩, O⟩, ⟨⟨_, J, by first | exact BLe.rf | exact AE (by rw [hno]; first | done | rfl)⟩, ⟨_, J, by first | exact BLe.rf | exact AE (by rw [hno]; first | done | rfl)⟩, ⟨_, J, by first | exact BLe.rf | (refine BLe.arr ?_; rw [hno]; first | done | rfl)⟩, ⟨_, J, by first | exact BLe.rf | (refine BLe.arr ?_; rw [hno]; first | done | rfl)⟩, O⟩, ⟨⟨J, .inl nofun, fun _ _ => ⟨_, J⟩⟩, O⟩, J⟩⟩
 try simp only [tdy] at h53
 refine A5 J (AP (AZ ?_))
 refine Hf (ι := {q : PS // EE tk e a st1 = q ∧ q.i ≤ tk.length}) (fun p => []) (fun p => [(200, some (psB tk e (p.1)))]) [0, 2, 3] [100, 101, 102, 300] ?_ ?_
 · refine Aa (Az (Ao 3 3 J J J (by kernel_rfl) J) (Az (A4 J J J (by kernel_rfl) J) (Az (Ax 48 10 J J J (by kernel_rfl)) ?_)))
   refine Bd (AR J J J) (fun b57 h57 => ?_)
   refine Az (A0 J J) ?_
   cases b57
   · try simp only [tdy] at h57
     refine A3 J J J J (A3 J J J J (Az (AD J J J) (A2 (Ab J ?_))))
     refine ⟨⟨st1, ⟨full_off (fun q => h57 q.1), hi1⟩⟩, rn [], ?_⟩
     exact Ag (by repeat first | exact trivial | refine Ah J (by first | exact VLe.rf | exact A7 (by dsimp only; omega)) ?_) (by repeat first | exact trivial | refine Ai J (by first | exact BLe.rf | exact BLe.box AllC.rf | exact BLe.arr (by exact J)) ?_) J J
   try simp only [tdy] at h57
   refine AB J J (A0 J J) ?_
   refine FF J J (Aj J J J (sBegins_c tk e st1 hm hi1) J J J J) (fun b60 h60 => ?_)
   refine Az (AJ J J J) (A2 ?_)
   cases b60
   · try simp only [tdy] at h60
     refine Ab J ?_
     refine ⟨⟨st1, ⟨full_off (fun q => absurd q.2 (by rw [h60]; decide)), hi1⟩⟩, rn [], ?_⟩
     exact Ag (by repeat first | exact trivial | refine Ah J (by first | exact VLe.rf | exact A7 (by dsimp only; omega)) ?_) (by repeat first | exact trivial | refine Ai J (by first | exact BLe.rf | exact BLe.box AllC.rf | exact BLe.arr (by exact J)) ?_) J J
   try simp only [tdy] at h60
   refine A5 J (AG (Az (A0 J J) (Az (Aj J J J (Cb tk e st1 hm hi1 7) J J J J) (A2 ?_))))
   refine ⟨⟨Bg tk e 7 st1, ⟨full_on h57 h60, Cm hi1⟩⟩, rn [], ?_⟩
   exact Ag (by repeat first | exact trivial | refine Ah J (by first | exact VLe.rf | exact A7 (by dsimp only; omega)) ?_) (by repeat first | exact trivial | refine Ai J (by first | exact BLe.rf | exact BLe.box AllC.rf | exact BLe.arr (by exact J)) ?_) J J
 rintro ⟨s2, hinv⟩
 dsimp only
 have hf := hinv.1
 have hs2 : s2.i ≤ tk.length := hinv.2
 refine A8 (Bw J (Az (Ao 3 3 J J J (by kernel_rfl) J) (Az (A4 J J J (by kernel_rfl) J) (Az (A0 J J) (Az (Av [] [(200, some _)] [(200, some _), (103, some _)] J J J (sLit_c tk e s2 hm hs2 hok 103 J) J AllV.rf (BE J) J J J ⟨J, O⟩ J) (Az (Aq DI 48 [.tmp 67] ([(DT tk e s2).1]) 104 J J J J J J J J FitL.rf J J J J J J (by kernel_rfl)) ?_))))))
 refine Az (B9 105 J J J J J J J J (by kernel_rfl) (by simp only [List.length_append, List.length_cons, List.length_nil]; omega)) ?_
 refine Az (Ao 3 3 J J J (by kernel_rfl) J) (Az (Ap 1 J J J J (by kernel_rfl) J J J) (Bj (by kernel_rfl) ?_))
 refine A8 (Aa (Az (A0 J J) (Az (A0 J J) (Az (AI J J J) (Az (Ao 1 1 J J J (by kernel_rfl) J) (Az (A4 J J J (by kernel_rfl) J) ?_))))))
 refine Dk (Aj J J J (Fx tk e (DT tk e s2).2 hm (litS_le hs2) ⟨#[44]⟩) J J J J) (fun b76 h76 => ?_)
 refine Az (Cn J J) (A2 ?_)
 cases b76
 · try simp only [tdy] at h76
   have hno := ruleS_body' hp h41 (hinv1.symm.trans (bodyS_last h53 hf hl h76))
   have hi2 := litS_le (e := e) hs2
   refine A5 J ?_
   refine Br (G5 J (B2 ?_))
   refine Aa (Az (A0 J J) (Az (Aj J J J (Gr tk e _ hm hi2 ⟨#[46]⟩) J J J J) (Ad (Az (Au 4 J J J (by kernel_rfl) J J) (Az (Ap 4 J J J J (by kernel_rfl) J J J) (Ae ?_))))))
   exact ⟨rn [(9, 100), (0, 101), (1, 105)], ⟨⟨⟨_, J, VLe.rf⟩, O⟩, ⟨⟨_, J, by first | exact BLe.rf | exact AE (by rw [hno]; first | done | rfl)⟩, ⟨_, J, by first | exact BLe.rf | exact AE (by rw [hno]; first | done | rfl)⟩, ⟨_, J, by first | exact BLe.rf | (refine BLe.arr ?_; rw [hno]; first | done | rfl)⟩, ⟨_, J, by first | exact BLe.rf | (refine BLe.arr ?_; rw [hno]; first | done | rfl)⟩, O⟩, ⟨⟨J, .inl nofun, fun _ _ => ⟨_, J⟩⟩, O⟩, J⟩⟩
 try simp only [tdy] at h76
 have hmo := bodyS_more h53 hf hl h76
 have hlt := hmo.2.1
 have hmo1 := hmo.1
 refine Ab J (AG (Az (A0 J J) (Az (AI J J J) (Az (Ao 1 1 J J J (by kernel_rfl) J) (Az (A4 J J J (by kernel_rfl) J) ?_)))))
 refine Az (Bl J J J (IntWalk.i64_in _ (by omega))) ?_
 refine Az (AI J J J) (Az (Ao 1 1 J J J (by kernel_rfl) J) (Az (Ap 1 J J J J (by kernel_rfl) J J J) (A2 ?_)))
 refine ⟨⟨⟨(DT tk e s2).2.next, a ++ [(DT tk e s2).1]⟩, ⟨⟨hlt, by simp only [List.length_append, List.length_cons, List.length_nil]; omega⟩, hmo.2.2.trans hinv1⟩⟩, rn [(102, 105)], ?_, by dsimp only; simp only [List.length_append, List.length_cons, List.length_nil]; omega⟩
 exact Ag (by repeat first | exact trivial | refine Ah J (by first | exact VLe.rf | exact A7 (by dsimp only; omega)) ?_) (by repeat first | exact trivial | refine Ai J (by first | exact BLe.rf | exact BLe.box AllC.rf | exact BLe.arr (by exact J)) ?_) J J

theorem sRule_c (tk : List Tokent) (e : Int) (st : PS) (hm : tk.length ≤ 1048576) (hi : st.i ≤ tk.length) (hok : ∀ t ∈ tk, EL t) (k j : Nat) (hk : Nat.beq k 200 = false) (hj : Nat.beq j 200 = false) (hkj : Nat.beq k j = false) (hjk : Nat.beq j k = false) : AC Tryz.prog 85 [.one (.ptr 200 0)] [(200, some (psB tk e st))] (.agg (ruleK (Cl tk e st).1 k j)) [(200, some (psB tk e (Cl tk e st).2)), (k, some (.arr 46 Bx (Cl tk e st).1.head.args true)), (j, some (.arr 48 DI (Cl tk e st).1.body true))] := AC.ps2 (sRule_c0 tk e st hm hi hok) k j hk hj hkj hjk (fun r h h2 => ruleK_ren h h2) (fun _ => rfl) (fun _ => rfl)

set_option maxHeartbeats 4000000 in
theorem sDecl_c (tk : List Tokent) (e : Int) (st : PS) (hm : tk.length ≤ 1048576) (hi : st.i ≤ tk.length) (c : Int) : AC Tryz.prog 83 [.one (.ptr 200 0), .one (.c (.int .i64 (c)))] [(200, some (psB tk e st))] (.agg (declC (Ef tk e c st).1)) [(200, some (psB tk e (Ef tk e c st).2))] := by
 have h2 : (BY tk e ⟨#[47]⟩ (BK tk e st).2).i ≤ tk.length := slash_le (e := e) hi
 refine En (n := 3) (k := 9) (T := [(4, .one (.ptr 9 0))]) (Lf := ((9, some (.box (declC (Ef tk e c st).1))) :: [(200, some (psB tk e (Ef tk e c st).2))])) Tryz.func83 J J Tryz.ntmps83 J Tryz.results83 J J (by kernel_rfl) J J ⟨O, (by repeat (first | exact trivial | refine ⟨⟨_, J, BLe.rf⟩, ?_⟩)), (Af J), J⟩ ?_
 refine Aa (Az (Aw (.agg #[.int .i64 0, .string ⟨#[]⟩, .int .i64 0]) 100 J (by kernel_rfl) J J J J) (Ad (Az (A0 J J) (Az (A0 J J) (Az (Aj J J J (sWord_c tk e st hm hi) J J J J) (Az (Al [.int .i64 0, .string ⟨#[]⟩, .int .i64 0] [(0, 1), (1, 1), (2, 1)] J (by kernel_rfl) J J J J J) (Az (Aw (.agg #[.int .i64 0, .string ⟨#[]⟩, .int .i64 0]) 101 J (by kernel_rfl) J J J J) (Az (Ap 3 J J J J (by kernel_rfl) J J J) (Ad (Az (A0 J J) (Az (Aj J J J (Gr tk e (BK tk e st).2 hm (HS hi) ⟨#[47]⟩) J J J J) (A2 (A8 (A8 (Bw J (Az (A0 J J) (Az (AI J J J) (Az (Ao 3 3 J J J (by kernel_rfl) J) (Az (A4 J J J (by kernel_rfl) J) ?_)))))))))))))))))))
 refine Bd (EK J J J) (fun b16 h16 => ?_)
 refine Az (A0 J J) ?_
 cases b16
 rotate_left
 · try simp only [tdy] at h16
   have h0k : (AA tk e (BY tk e ⟨#[47]⟩ (BK tk e st).2)).kind = 0 := Ec (fun q => by omega)
   have hno := declS_no (k := c) (tk := tk) (e := e) (st := st) (by show ¬ (AA tk e (BY tk e ⟨#[47]⟩ (BK tk e st).2)).kind = 3; rw [h0k]; decide)
   refine A3 J J J J (A3 J J J J (A3 J J J J (A3 J J J J (A3 J J J J (A3 J J J J (A3 J J J J (A3 J J J J (A3 J J J J (A3 J J J J (Az (AJ J J J) (Az (A0 J J) (A3 J J J J (A3 J J J J (A3 J J J J (A3 J J J J (A3 J J J J (A3 J J J J (A3 J J J J (A3 J J J J (A3 J J J J (A3 J J J J (A3 J J J J (A3 J J J J ?_)))))))))))))))))))))))
   refine Az (AJ J J J) (Bj (by kernel_rfl) ?_)
   refine A5 J (Aa (Az (A0 J J) (Az (Aj J J J (Cb tk e (BY tk e ⟨#[47]⟩ (BK tk e st).2) hm h2 6) J J J J) (Ad (Az (Au 3 J J J (by kernel_rfl) J J) (Az (Ap 3 J J J J (by kernel_rfl) J J J) (Ae ?_)))))))
   exact ⟨rn [(9, 100)], ⟨⟨⟨_, J, VLe.rf⟩, O⟩, ⟨⟨_, J, by first | exact BLe.rf | exact AE (by rw [hno]; first | done | rfl)⟩, ⟨_, J, by first | exact BLe.rf | exact AE (by rw [hno]; first | done | rfl)⟩, O⟩, ⟨⟨J, .inl nofun, fun _ _ => ⟨_, J⟩⟩, O⟩, J⟩⟩
 try simp only [tdy] at h16
 refine AB J J (A0 J J) (AB J J (AI J J J) (AB J J (Ao 1 1 J J J (by kernel_rfl) J) (AB J J (A4 J J J (by kernel_rfl) J) (AB J J (A0 J J) (AB J J (AI J J J) (AB J J (Ao 0 0 J J J (by kernel_rfl) J) (AB J J (A4 J J J (by kernel_rfl) J) (AB J J (Ak 62 4 J J (by kernel_rfl)) ?_))))))))
 refine Bh J J (Ee J J J) (fun b27 h27 => ?_)
 refine Az (AD J J J) (Az (A0 J J) ?_)
 cases b27
 rotate_left
 · try simp only [tdy] at h27
   have h0k : (AA tk e (BY tk e ⟨#[47]⟩ (BK tk e st).2)).kind = 0 := Ec (fun q => by omega)
   have hno := declS_no (k := c) (tk := tk) (e := e) (st := st) (by show ¬ (AA tk e (BY tk e ⟨#[47]⟩ (BK tk e st).2)).kind = 3; rw [h0k]; decide)
   refine A3 J J J J (A3 J J J J (A3 J J J J (A3 J J J J (A3 J J J J (A3 J J J J (A3 J J J J (A3 J J J J (A3 J J J J (A3 J J J J (A3 J J J J (A3 J J J J (Az (AJ J J J) (Bj (by kernel_rfl) ?_)))))))))))))
   refine A5 J (Aa (Az (A0 J J) (Az (Aj J J J (Cb tk e (BY tk e ⟨#[47]⟩ (BK tk e st).2) hm h2 6) J J J J) (Ad (Az (Au 3 J J J (by kernel_rfl) J J) (Az (Ap 3 J J J J (by kernel_rfl) J J J) (Ae ?_)))))))
   exact ⟨rn [(9, 100)], ⟨⟨⟨_, J, VLe.rf⟩, O⟩, ⟨⟨_, J, by first | exact BLe.rf | exact AE (by rw [hno]; first | done | rfl)⟩, ⟨_, J, by first | exact BLe.rf | exact AE (by rw [hno]; first | done | rfl)⟩, O⟩, ⟨⟨J, .inl nofun, fun _ _ => ⟨_, J⟩⟩, O⟩, J⟩⟩
 try simp only [tdy] at h27
 have hh : AA tk e (BY tk e ⟨#[47]⟩ (BK tk e st).2) = (tk[(BY tk e ⟨#[47]⟩ (BK tk e st).2).i]'(by omega)) := EC (by omega) (by omega)
 refine AB J J (A0 J J) (AB J J (AI J J J) (AB J J (Ao 0 0 J J J (by kernel_rfl) J) (AB J J (A4 J J J (by kernel_rfl) J) (AB J J (A0 J J) (AB J J (AI J J J) (AB J J (Ao 1 1 J J J (by kernel_rfl) J) (AB J J (A4 J J J (by kernel_rfl) J) ?_)))))))
 refine AB J J (Am 62 4 ((BY tk e ⟨#[47]⟩ (BK tk e st).2).i) J J J (by kernel_rfl) J (by omega) (by omega)) ?_
 refine AB J J (CM (off := 0) (o' := 0) J J (by kernel_rfl) J) (AB J J (BW J J (by kernel_rfl) J) ?_)
 refine Bh J J (EK J J J) (fun b41 h41 => ?_)
 refine Az (AD J J J) (Bj (by kernel_rfl) ?_)
 cases b41
 rotate_left
 · try simp only [tdy] at h41
   have hno := declS_no (k := c) (tk := tk) (e := e) (st := st) (by show ¬ (AA tk e (BY tk e ⟨#[47]⟩ (BK tk e st).2)).kind = 3; rw [hh]; exact h41)
   refine A5 J (Aa (Az (A0 J J) (Az (Aj J J J (Cb tk e (BY tk e ⟨#[47]⟩ (BK tk e st).2) hm h2 6) J J J J) (Ad (Az (Au 3 J J J (by kernel_rfl) J J) (Az (Ap 3 J J J J (by kernel_rfl) J J J) (Ae ?_)))))))
   exact ⟨rn [(9, 100)], ⟨⟨⟨_, J, VLe.rf⟩, O⟩, ⟨⟨_, J, by first | exact BLe.rf | exact AE (by rw [hno]; first | done | rfl)⟩, ⟨_, J, by first | exact BLe.rf | exact AE (by rw [hno]; first | done | rfl)⟩, O⟩, ⟨⟨J, .inl nofun, fun _ _ => ⟨_, J⟩⟩, O⟩, J⟩⟩
 try simp only [tdy] at h41
 have hk3 : (AA tk e (BY tk e ⟨#[47]⟩ (BK tk e st).2)).kind = 3 := by rw [hh]; omega
 refine Ab J (A8 (Bw J (Az (A0 J J) (Az (AI J J J) (Az (Ao 0 0 J J J (by kernel_rfl) J) (Az (A4 J J J (by kernel_rfl) J) (Az (A0 J J) (Az (AI J J J) (Az (Ao 1 1 J J J (by kernel_rfl) J) (Az (A4 J J J (by kernel_rfl) J) ?_))))))))))
 refine Az (Am 62 4 ((BY tk e ⟨#[47]⟩ (BK tk e st).2).i) J J J (by kernel_rfl) J (by omega) (by omega)) ?_
 refine Az (CM (off := 1) (o' := 1) J J (by kernel_rfl) J) (Az (BW J J (by kernel_rfl) J) (Az (Ao 2 2 J J J (by kernel_rfl) J) (Az (Ap 1 J J J J (by kernel_rfl) J J J) (Bj (by kernel_rfl) ?_))))
 refine A8 (Aa (Az (Ao 2 2 J J J (by kernel_rfl) J) (Az (A4 J J J (by kernel_rfl) J) ?_)))
 refine Bd (CC J J J) (fun b60 h60 => ?_)
 refine A2 ?_
 cases b60
 rotate_left
 · try simp only [tdy] at h60
   have hno := (declS_big (k := c) hk3 (by show 6 < (AA tk e (BY tk e ⟨#[47]⟩ (BK tk e st).2)).n; rw [hh]; omega)).trans (congrArg (fun q => ((⟨c, (BK tk e st).1, q⟩ : Declt), _)) (congrArg Tokent.n hh))
   refine A5 J (Aa (Az (A0 J J) (Az (Aj J J J (Cb tk e (BY tk e ⟨#[47]⟩ (BK tk e st).2) hm h2 7) J J J J) (Ad (Az (Au 3 J J J (by kernel_rfl) J J) (Az (Ap 3 J J J J (by kernel_rfl) J J J) (Ae ?_)))))))
   exact ⟨rn [(9, 100)], ⟨⟨⟨_, J, VLe.rf⟩, O⟩, ⟨⟨_, J, by first | exact BLe.rf | exact AE (by rw [hno]; first | done | rfl)⟩, ⟨_, J, by first | exact BLe.rf | exact AE (by rw [hno]; first | done | rfl)⟩, O⟩, ⟨⟨J, .inl nofun, fun _ _ => ⟨_, J⟩⟩, O⟩, J⟩⟩
 try simp only [tdy] at h60
 have hlt := Ca (num_lt hk3)
 have hlt2 := num_lt hk3
 have hno := (declS_ok (k := c) hk3 (by show ¬ 6 < (AA tk e (BY tk e ⟨#[47]⟩ (BK tk e st).2)).n; rw [hh]; omega)).trans (congrArg (fun q => ((⟨c, (BK tk e st).1, q⟩ : Declt), _)) (congrArg Tokent.n hh))
 refine Ab J (Aa (Az (A0 J J) (Az (AI J J J) (Az (Ao 1 1 J J J (by kernel_rfl) J) (Az (A4 J J J (by kernel_rfl) J) ?_)))))
 refine Az (Bl J J J (IntWalk.i64_in _ (by omega))) ?_
 refine Az (AI J J J) (Az (Ao 1 1 J J J (by kernel_rfl) J) (Az (Ap 1 J J J J (by kernel_rfl) J J J) (Ad (Az (A0 J J) (Az (Aj J J J (Gr tk e (BY tk e ⟨#[47]⟩ (BK tk e st).2).next hm hlt ⟨#[46]⟩) J J J J) (Ad (Az (Au 3 J J J (by kernel_rfl) J J) (Az (Ap 3 J J J J (by kernel_rfl) J J J) (Ae ?_)))))))))
 exact ⟨rn [(9, 100)], ⟨⟨⟨_, J, VLe.rf⟩, O⟩, ⟨⟨_, J, by first | exact BLe.rf | exact AE (by rw [hno]; first | done | rfl)⟩, ⟨_, J, by first | exact BLe.rf | exact AE (by rw [hno]; first | done | rfl)⟩, O⟩, ⟨⟨J, .inl nofun, fun _ _ => ⟨_, J⟩⟩, O⟩, J⟩⟩
end Go.Proofs.YtkemjhlbokldhaaGreat

namespace Go.Proofs.YtkemjhlbokldhaaGreat
open Go.RowKit
set_option linter.unusedVariables false
set_option linter.unusedSimpArgs false
set_option maxRecDepth 100000

set_option maxHeartbeats 4000000 in
theorem isLet_c (c : Int) : AC Tryz.prog 44 [.one (.c (.int .u8 (c)))] [] (.one (.c (.bool (Ct c)))) [] := by
 refine Bn Tryz.func44 J J Tryz.ntmps44 J Tryz.results44 ?_
 refine Aa (Az (A1 J J) (Ad (Az (A0 J J) ?_)))
 refine Bd (Ee J J J) (fun b4 h4 => ?_)
 refine Az (A0 J J) ?_
 cases b4
 · try simp only [tdy] at h4
   refine A3 J J J J (A3 J J J J (Az (AD J J J) (Az (A1 J J) (Ae ?_))))
   exact ⟨rn [], ⟨⟨⟨_, J, AH (by first | ((unfold Ct; symm; first | (rw [decide_eq_true_eq]; omega) | (rw [decide_eq_false_iff_not]; omega))))⟩, O⟩, O, O, J⟩⟩
 try simp only [tdy] at h4
 refine AB J J (A0 J J) ?_
 refine Bh J J (E3 J J J) (fun b7 h7 => ?_)
 refine Az (AJ J J J) (Az (A1 J J) (Ae ?_))
 cases b7
 rotate_left
 · try simp only [tdy] at h7
   exact ⟨rn [], ⟨⟨⟨_, J, AH (by first | ((unfold Ct; symm; first | (rw [decide_eq_true_eq]; omega) | (rw [decide_eq_false_iff_not]; omega))))⟩, O⟩, O, O, J⟩⟩
 try simp only [tdy] at h7
 exact ⟨rn [], ⟨⟨⟨_, J, AH (by first | ((unfold Ct; symm; first | (rw [decide_eq_true_eq]; omega) | (rw [decide_eq_false_iff_not]; omega))))⟩, O⟩, O, O, J⟩⟩

set_option maxHeartbeats 4000000 in
theorem isUp_c (c : Int) : AC Tryz.prog 45 [.one (.c (.int .u8 (c)))] [] (.one (.c (.bool (upB c)))) [] := by
 refine Bn Tryz.func45 J J Tryz.ntmps45 J Tryz.results45 ?_
 refine Aa (Az (A1 J J) (Ad (Az (A0 J J) ?_)))
 refine Bd (Ee J J J) (fun b4 h4 => ?_)
 refine Az (A0 J J) ?_
 cases b4
 · try simp only [tdy] at h4
   refine A3 J J J J (A3 J J J J (Az (AD J J J) (Az (A1 J J) (Ae ?_))))
   exact ⟨rn [], ⟨⟨⟨_, J, AH (by first | ((unfold upB; symm; first | (rw [decide_eq_true_eq]; omega) | (rw [decide_eq_false_iff_not]; omega))))⟩, O⟩, O, O, J⟩⟩
 try simp only [tdy] at h4
 refine AB J J (A0 J J) ?_
 refine Bh J J (E3 J J J) (fun b7 h7 => ?_)
 refine Az (AJ J J J) (Az (A1 J J) (Ae ?_))
 cases b7
 rotate_left
 · try simp only [tdy] at h7
   exact ⟨rn [], ⟨⟨⟨_, J, AH (by first | ((unfold upB; symm; first | (rw [decide_eq_true_eq]; omega) | (rw [decide_eq_false_iff_not]; omega))))⟩, O⟩, O, O, J⟩⟩
 try simp only [tdy] at h7
 exact ⟨rn [], ⟨⟨⟨_, J, AH (by first | ((unfold upB; symm; first | (rw [decide_eq_true_eq]; omega) | (rw [decide_eq_false_iff_not]; omega))))⟩, O⟩, O, O, J⟩⟩

set_option maxHeartbeats 4000000 in
theorem isDig_c (c : Int) : AC Tryz.prog 46 [.one (.c (.int .u8 (c)))] [] (.one (.c (.bool (Cf c)))) [] := by
 refine Bn Tryz.func46 J J Tryz.ntmps46 J Tryz.results46 ?_
 refine Aa (Az (A1 J J) (Ad (Az (A0 J J) ?_)))
 refine Bd (Ee J J J) (fun b4 h4 => ?_)
 refine Az (A0 J J) ?_
 cases b4
 · try simp only [tdy] at h4
   refine A3 J J J J (A3 J J J J (Az (AD J J J) (Az (A1 J J) (Ae ?_))))
   exact ⟨rn [], ⟨⟨⟨_, J, AH (by first | ((unfold Cf; symm; first | (rw [decide_eq_true_eq]; omega) | (rw [decide_eq_false_iff_not]; omega))))⟩, O⟩, O, O, J⟩⟩
 try simp only [tdy] at h4
 refine AB J J (A0 J J) ?_
 refine Bh J J (E3 J J J) (fun b7 h7 => ?_)
 refine Az (AJ J J J) (Az (A1 J J) (Ae ?_))
 cases b7
 rotate_left
 · try simp only [tdy] at h7
   exact ⟨rn [], ⟨⟨⟨_, J, AH (by first | ((unfold Cf; symm; first | (rw [decide_eq_true_eq]; omega) | (rw [decide_eq_false_iff_not]; omega))))⟩, O⟩, O, O, J⟩⟩
 try simp only [tdy] at h7
 exact ⟨rn [], ⟨⟨⟨_, J, AH (by first | ((unfold Cf; symm; first | (rw [decide_eq_true_eq]; omega) | (rw [decide_eq_false_iff_not]; omega))))⟩, O⟩, O, O, J⟩⟩

set_option maxHeartbeats 4000000 in
theorem cls_c (c : Int) : AC Tryz.prog 98 [.one (.c (.int .u8 (c)))] [] (.one (.c (.int .i64 (cls c)))) [] := by
 refine Bn Tryz.func98 J J Tryz.ntmps98 J Tryz.results98 ?_
 refine Aa (Az (A1 J J) (A2 (A8 (Aa (Az (A0 J J) ?_)))))
 refine Bd (Ee J J J) (fun b4 h4 => ?_)
 refine Az (A0 J J) ?_
 cases b4
 · try simp only [tdy] at h4
   refine A3 J J J J (A3 J J J J (Az (AD J J J) (A2 (Ab J (A8 (Aa (Az (A0 J J) ?_)))))))
   refine Bd (Ee J J J) (fun b10 h10 => ?_)
   refine Az (A0 J J) ?_
   cases b10
   · try simp only [tdy] at h10
     refine A3 J J J J (A3 J J J J (Az (AD J J J) (A2 (Ab J (A8 (Aa (Az (A0 J J) ?_)))))))
     refine Bd (Ee J J J) (fun b16 h16 => ?_)
     refine Az (A0 J J) ?_
     cases b16
     · try simp only [tdy] at h16
       refine A3 J J J J (A3 J J J J (Az (AD J J J) (A2 (Ab J (Aa (Az (A1 J J) (Ae ?_)))))))
       exact ⟨rn [], ⟨⟨⟨_, J, A7 (by first | ((unfold cls Ct upB Cf; grind)) | ((unfold cls Ct upB Cf; simp [*])))⟩, O⟩, O, O, J⟩⟩
     try simp only [tdy] at h16
     refine AB J J (A0 J J) ?_
     refine Bh J J (E3 J J J) (fun b19 h19 => ?_)
     refine Az (AJ J J J) (A2 ?_)
     cases b19
     rotate_left
     · try simp only [tdy] at h19
       refine A5 J (Aa (Az (A1 J J) (Ae ?_)))
       exact ⟨rn [], ⟨⟨⟨_, J, A7 (by first | ((unfold cls Ct upB Cf; grind)) | ((unfold cls Ct upB Cf; simp [*])))⟩, O⟩, O, O, J⟩⟩
     try simp only [tdy] at h19
     refine Ab J (Aa (Az (A1 J J) (Ae ?_)))
     exact ⟨rn [], ⟨⟨⟨_, J, A7 (by first | ((unfold cls Ct upB Cf; grind)) | ((unfold cls Ct upB Cf; simp [*])))⟩, O⟩, O, O, J⟩⟩
   try simp only [tdy] at h10
   refine AB J J (A0 J J) ?_
   refine Bh J J (E3 J J J) (fun b13 h13 => ?_)
   refine Az (AJ J J J) (A2 ?_)
   cases b13
   rotate_left
   · try simp only [tdy] at h13
     refine A5 J (Aa (Az (A1 J J) (Ae ?_)))
     exact ⟨rn [], ⟨⟨⟨_, J, A7 (by first | ((unfold cls Ct upB Cf; grind)) | ((unfold cls Ct upB Cf; simp [*])))⟩, O⟩, O, O, J⟩⟩
   try simp only [tdy] at h13
   refine Ab J (A8 (Aa (Az (A0 J J) ?_)))
   refine Bd (Ee J J J) (fun b16 h16 => ?_)
   refine Az (A0 J J) ?_
   cases b16
   · try simp only [tdy] at h16
     refine A3 J J J J (A3 J J J J (Az (AD J J J) (A2 (Ab J (Aa (Az (A1 J J) (Ae ?_)))))))
     exact ⟨rn [], ⟨⟨⟨_, J, A7 (by first | ((unfold cls Ct upB Cf; grind)) | ((unfold cls Ct upB Cf; simp [*])))⟩, O⟩, O, O, J⟩⟩
   try simp only [tdy] at h16
   refine AB J J (A0 J J) ?_
   refine Bh J J (E3 J J J) (fun b19 h19 => ?_)
   refine Az (AJ J J J) (A2 ?_)
   cases b19
   rotate_left
   · try simp only [tdy] at h19
     refine A5 J (Aa (Az (A1 J J) (Ae ?_)))
     exact ⟨rn [], ⟨⟨⟨_, J, A7 (by first | ((unfold cls Ct upB Cf; grind)) | ((unfold cls Ct upB Cf; simp [*])))⟩, O⟩, O, O, J⟩⟩
   try simp only [tdy] at h19
   refine Ab J (Aa (Az (A1 J J) (Ae ?_)))
   exact ⟨rn [], ⟨⟨⟨_, J, A7 (by first | ((unfold cls Ct upB Cf; grind)) | ((unfold cls Ct upB Cf; simp [*])))⟩, O⟩, O, O, J⟩⟩
 try simp only [tdy] at h4
 refine AB J J (A0 J J) ?_
 refine Bh J J (E3 J J J) (fun b7 h7 => ?_)
 refine Az (AJ J J J) (A2 ?_)
 cases b7
 rotate_left
 · try simp only [tdy] at h7
   refine A5 J (Aa (Az (A1 J J) (Ae ?_)))
   exact ⟨rn [], ⟨⟨⟨_, J, A7 (by first | ((unfold cls Ct upB Cf; grind)) | ((unfold cls Ct upB Cf; simp [*])))⟩, O⟩, O, O, J⟩⟩
 try simp only [tdy] at h7
 refine Ab J (A8 (Aa (Az (A0 J J) ?_)))
 refine Bd (Ee J J J) (fun b10 h10 => ?_)
 refine Az (A0 J J) ?_
 cases b10
 · try simp only [tdy] at h10
   refine A3 J J J J (A3 J J J J (Az (AD J J J) (A2 (Ab J (A8 (Aa (Az (A0 J J) ?_)))))))
   refine Bd (Ee J J J) (fun b16 h16 => ?_)
   refine Az (A0 J J) ?_
   cases b16
   · try simp only [tdy] at h16
     refine A3 J J J J (A3 J J J J (Az (AD J J J) (A2 (Ab J (Aa (Az (A1 J J) (Ae ?_)))))))
     exact ⟨rn [], ⟨⟨⟨_, J, A7 (by first | ((unfold cls Ct upB Cf; grind)) | ((unfold cls Ct upB Cf; simp [*])))⟩, O⟩, O, O, J⟩⟩
   try simp only [tdy] at h16
   refine AB J J (A0 J J) ?_
   refine Bh J J (E3 J J J) (fun b19 h19 => ?_)
   refine Az (AJ J J J) (A2 ?_)
   cases b19
   rotate_left
   · try simp only [tdy] at h19
     refine A5 J (Aa (Az (A1 J J) (Ae ?_)))
     exact ⟨rn [], ⟨⟨⟨_, J, A7 (by first | ((unfold cls Ct upB Cf; grind)) | ((unfold cls Ct upB Cf; simp [*])))⟩, O⟩, O, O, J⟩⟩
   try simp only [tdy] at h19
   refine Ab J (Aa (Az (A1 J J) (Ae ?_)))
   exact ⟨rn [], ⟨⟨⟨_, J, A7 (by first | ((unfold cls Ct upB Cf; grind)) | ((unfold cls Ct upB Cf; simp [*])))⟩, O⟩, O, O, J⟩⟩
 try simp only [tdy] at h10
 refine AB J J (A0 J J) ?_
 refine Bh J J (E3 J J J) (fun b13 h13 => ?_)
 refine Az (AJ J J J) (A2 ?_)
 cases b13
 rotate_left
 · try simp only [tdy] at h13
   refine A5 J (Aa (Az (A1 J J) (Ae ?_)))
   exact ⟨rn [], ⟨⟨⟨_, J, A7 (by first | ((unfold cls Ct upB Cf; grind)) | ((unfold cls Ct upB Cf; simp [*])))⟩, O⟩, O, O, J⟩⟩
 try simp only [tdy] at h13
 refine Ab J (A8 (Aa (Az (A0 J J) ?_)))
 refine Bd (Ee J J J) (fun b16 h16 => ?_)
 refine Az (A0 J J) ?_
 cases b16
 · try simp only [tdy] at h16
   refine A3 J J J J (A3 J J J J (Az (AD J J J) (A2 (Ab J (Aa (Az (A1 J J) (Ae ?_)))))))
   exact ⟨rn [], ⟨⟨⟨_, J, A7 (by first | ((unfold cls Ct upB Cf; grind)) | ((unfold cls Ct upB Cf; simp [*])))⟩, O⟩, O, O, J⟩⟩
 try simp only [tdy] at h16
 refine AB J J (A0 J J) ?_
 refine Bh J J (E3 J J J) (fun b19 h19 => ?_)
 refine Az (AJ J J J) (A2 ?_)
 cases b19
 rotate_left
 · try simp only [tdy] at h19
   refine A5 J (Aa (Az (A1 J J) (Ae ?_)))
   exact ⟨rn [], ⟨⟨⟨_, J, A7 (by first | ((unfold cls Ct upB Cf; grind)) | ((unfold cls Ct upB Cf; simp [*])))⟩, O⟩, O, O, J⟩⟩
 try simp only [tdy] at h19
 refine Ab J (Aa (Az (A1 J J) (Ae ?_)))
 exact ⟨rn [], ⟨⟨⟨_, J, A7 (by first | ((unfold cls Ct upB Cf; grind)) | ((unfold cls Ct upB Cf; simp [*])))⟩, O⟩, O, O, J⟩⟩

set_option maxHeartbeats 4000000 in
theorem Hl (s : ByteArray) (i : Nat) (hs0 : s.size ≤ 1048576) (hi : i ≤ s.size) : AC Tryz.prog 43 [.one (.c (.string s)), .one (.c (.int .i64 ((i : Int))))] [] (.one (.c (.int .i64 ((B3 s i : Int))))) [] := by
 refine Bn Tryz.func43 J J Tryz.ntmps43 J Tryz.results43 ?_
 refine Aa (Az (A1 J J) (A2 (A8 (AZ ?_))))
 refine B8 (ι := {q : Nat // q ≤ s.size ∧ B3 s q = B3 s i}) (fun p => [(1, .one (.c (.int .i64 (((p.1) : Int)))))]) (fun p => []) [0] [] (fun p => s.size - (p.1)) ⟨i, ⟨hi, J⟩⟩ (rn []) ?_ ?_
 exact Ag (by repeat first | exact trivial | refine Ah J (by first | exact VLe.rf | exact A7 (by dsimp only; omega)) ?_) (by repeat first | exact trivial | refine Ai J (by first | exact BLe.rf | exact BLe.box AllC.rf | exact BLe.arr (by exact J)) ?_) J J
 rintro ⟨j, hinv⟩
 dsimp only
 obtain ⟨hj, hsk⟩ := hinv
 have hj : j ≤ s.size := hj
 have hsk : B3 s j = B3 s i := hsk
 refine A8 (Aa (Az (A0 J J) (Az (A0 J J) (Az (D4 J J (by kernel_rfl)) ?_))))
 refine Bd (BI J J J) (fun b9 h9 => ?_)
 refine A2 ?_
 cases b9
 · try simp only [tdy] at h9
   have hno : (j : Int) = (B3 s i : Int) := congrArg Int.ofNat ((GM (s := s) (i := j) (by omega)).symm.trans hsk)
   refine Bc J ?_
   refine Br (B2 ?_)
   refine Aa (Az (A0 J J) (Az (A1 J J) (Ae ?_)))
   exact ⟨rn [], ⟨⟨⟨_, J, A7 (hno)⟩, O⟩, O, O, J⟩⟩
 try simp only [tdy] at h9
 refine A5 J (AP (AZ (Aa (Az (A0 J J) (Az (A0 J J) ?_)))))
 refine Az (CL J J J (by kernel_rfl) (k := j) J (by omega)) ?_
 refine A2 (AZ (A8 (Aa ?_)))
 refine Bd (AR J J J) (fun b15 h15 => ?_)
 refine Az (A1 J J) (A2 ?_)
 cases b15
 rotate_left
 · try simp only [tdy] at h15
   have hb : CH (s[j]'(by omega)).toNat = true := by simp [CH, h15]
   have hs := CJ (s := s) (i := j) (by omega) hb
   refine A5 J (AP (A5 J (AG (Az (A0 J J) ?_))))
   refine Az (Bl J J J (IntWalk.i64_in _ (by omega))) ?_
   refine Az (A1 J J) (A2 ?_)
   refine ⟨⟨j + 1, ⟨by omega, hs.symm.trans hsk⟩⟩, rn [], ?_, by dsimp only; omega⟩
   exact Ag (by repeat first | exact trivial | refine Ah J (by first | exact VLe.rf | exact A7 (by dsimp only; omega)) ?_) (by repeat first | exact trivial | refine Ai J (by first | exact BLe.rf | exact BLe.box AllC.rf | exact BLe.arr (by exact J)) ?_) J J
 try simp only [tdy] at h15
 refine Bc J (Aa ?_)
 refine Bd (AR J J J) (fun b16 h16 => ?_)
 refine Az (A1 J J) (A2 ?_)
 cases b16
 rotate_left
 · try simp only [tdy] at h16
   have hb : CH (s[j]'(by omega)).toNat = true := by simp [CH, h16]
   have hs := CJ (s := s) (i := j) (by omega) hb
   refine A5 J (AP (A5 J (AG (Az (A0 J J) ?_))))
   refine Az (Bl J J J (IntWalk.i64_in _ (by omega))) ?_
   refine Az (A1 J J) (A2 ?_)
   refine ⟨⟨j + 1, ⟨by omega, hs.symm.trans hsk⟩⟩, rn [], ?_, by dsimp only; omega⟩
   exact Ag (by repeat first | exact trivial | refine Ah J (by first | exact VLe.rf | exact A7 (by dsimp only; omega)) ?_) (by repeat first | exact trivial | refine Ai J (by first | exact BLe.rf | exact BLe.box AllC.rf | exact BLe.arr (by exact J)) ?_) J J
 try simp only [tdy] at h16
 refine Bc J (Aa ?_)
 refine Bd (AR J J J) (fun b17 h17 => ?_)
 refine Az (A1 J J) (A2 ?_)
 cases b17
 rotate_left
 · try simp only [tdy] at h17
   have hb : CH (s[j]'(by omega)).toNat = true := by simp [CH, h17]
   have hs := CJ (s := s) (i := j) (by omega) hb
   refine A5 J (AP (A5 J (AG (Az (A0 J J) ?_))))
   refine Az (Bl J J J (IntWalk.i64_in _ (by omega))) ?_
   refine Az (A1 J J) (A2 ?_)
   refine ⟨⟨j + 1, ⟨by omega, hs.symm.trans hsk⟩⟩, rn [], ?_, by dsimp only; omega⟩
   exact Ag (by repeat first | exact trivial | refine Ah J (by first | exact VLe.rf | exact A7 (by dsimp only; omega)) ?_) (by repeat first | exact trivial | refine Ai J (by first | exact BLe.rf | exact BLe.box AllC.rf | exact BLe.arr (by exact J)) ?_) J J
 try simp only [tdy] at h17
 refine Bc J (AG ?_)
 refine Bd (AR J J J) (fun b18 h18 => ?_)
 refine Az (A1 J J) (A2 ?_)
 cases b18
 rotate_left
 · try simp only [tdy] at h18
   have hb : CH (s[j]'(by omega)).toNat = true := by simp [CH, h18]
   have hs := CJ (s := s) (i := j) (by omega) hb
   refine A5 J (AG (Az (A0 J J) ?_))
   refine Az (Bl J J J (IntWalk.i64_in _ (by omega))) ?_
   refine Az (A1 J J) (A2 ?_)
   refine ⟨⟨j + 1, ⟨by omega, hs.symm.trans hsk⟩⟩, rn [], ?_, by dsimp only; omega⟩
   exact Ag (by repeat first | exact trivial | refine Ah J (by first | exact VLe.rf | exact A7 (by dsimp only; omega)) ?_) (by repeat first | exact trivial | refine Ai J (by first | exact BLe.rf | exact BLe.box AllC.rf | exact BLe.arr (by exact J)) ?_) J J
 try simp only [tdy] at h18
 have hb : CH (s[j]'(by omega)).toNat = false := by simp [CH, *]
 refine Bc J (Aa ?_)
 refine Bd (AR J J J) (fun b22 h22 => ?_)
 refine Az (A1 J J) (A2 ?_)
 cases b22
 · try simp only [tdy] at h22
   have hno : (j : Int) = (B3 s i : Int) := congrArg Int.ofNat ((E0 (s := s) (i := j) (by omega) hb h22).symm.trans hsk)
   refine Bc J (Aa (Az (A0 J J) (Az (A1 J J) (A2 ?_))))
   refine AU (Bk (Bk (Bk ?_)))
   exact ⟨rn [], ⟨⟨⟨_, J, A7 (hno)⟩, O⟩, O, O, J⟩⟩
 try simp only [tdy] at h22
 obtain ⟨q, le, hc, hq1, hq2⟩ := noteQ s j (by omega) hb h22 hs0
 refine A5 J (Aa (Az (A0 J J) (Az (A0 J J) ?_)))
 refine Az (D8 J J (by kernel_rfl) (.yes (l := j) J (by omega)) .no (by omega) (by first | exact Nat.le_refl _ | omega) J) ?_
 refine Az (AS J J J hc J J) (Az (A1 J J) (A2 (A8 (Aa (Az (A0 J J) ?_)))))
 refine Bd (BI J J J) (fun b28 h28 => ?_)
 refine A2 ?_
 cases b28
 rotate_left
 · try simp only [tdy] at h28
   have hno : (s.size : Int) = (B3 s i : Int) := congrArg Int.ofNat ((hq1 h28).symm.trans hsk)
   refine A5 J (Aa (Az (A0 J J) (Az (D4 J J (by kernel_rfl)) (Az (A1 J J) (A2 ?_)))))
   refine AU (Bk (Bk (Bk ?_)))
   exact ⟨rn [], ⟨⟨⟨_, J, A7 (hno)⟩, O⟩, O, O, J⟩⟩
 try simp only [tdy] at h28
 have he := (hq2 h28).1
 have he2 := (hq2 h28).2.1
 have he3 := (hq2 h28).2.2.1
 have hn := (hq2 h28).2.2.2
 refine Ab J (AG (Az (A0 J J) (Az (A0 J J) ?_)))
 refine Az (Bl J J J (IntWalk.i64_in _ (by omega))) ?_
 refine Az (A1 J J) (A2 ?_)
 refine ⟨⟨le, ⟨by omega, hn.symm.trans hsk⟩⟩, rn [], ?_, by dsimp only; omega⟩
 exact Ag (by repeat first | exact trivial | refine Ah J (by first | exact VLe.rf | exact A7 (by dsimp only; omega)) ?_) (by repeat first | exact trivial | refine Ai J (by first | exact BLe.rf | exact BLe.box AllC.rf | exact BLe.arr (by exact J)) ?_) J J
end Go.Proofs.YtkemjhlbokldhaaGreat

namespace Go.Proofs.YtkemjhlbokldhaaGreat
open Go.RowKit
set_option linter.unusedVariables false
set_option linter.unusedSimpArgs false
set_option maxRecDepth 100000

set_option maxHeartbeats 4000000 in
theorem wordAt_c (s : ByteArray) (j : Nat) (hs0 : s.size ≤ 1048576) (hj : j < s.size) (ha : B0 s[j].toNat = true) : AC Tryz.prog 47 [.one (.c (.string s)), .one (.c (.int .i64 ((j : Int))))] [] (.tup [.agg (tokenC (BT s j (s[j].toNat : Int)).1), .one (.c (.int .i64 ((BT s j (s[j].toNat : Int)).2.1))), .one (.c (.int .i64 ((BT s j (s[j].toNat : Int)).2.2)))]) [] := by
 have hgt := Et hj ha
 have hle := D5 (s := s) j (by omega)
 refine AC_bodyCTT (n := 4) (k := 9) (T := [(4, .one (.ptr 9 0)), (5, .one (.c (.int .i64 ((BT s j (s[j].toNat : Int)).2.1)))), (6, .one (.c (.int .i64 ((BT s j (s[j].toNat : Int)).2.2))))]) (Lf := ((9, some (.box (tokenC (BT s j (s[j].toNat : Int)).1))) :: [])) Tryz.func47 J J Tryz.ntmps47 J Tryz.results47 J J J J J J (by kernel_rfl) J J ⟨O, (by repeat (first | exact trivial | refine ⟨⟨_, J, BLe.rf⟩, ?_⟩)), (Af J), J⟩ ?_
 refine Aa (Az (Aw (.agg #[.int .i64 0, .int .i64 0, .string ⟨#[]⟩, .int .i64 0]) 100 J (by kernel_rfl) J J J J) (Az (A1 J J) (Az (A1 J J) (Ad (Az (A0 J J) (Az (A1 J J) (A2 (A8 (AZ ?_)))))))))
 refine B8 (ι := {q : Nat // (j ≤ q ∧ q ≤ s.size) ∧ Bp s q = Bp s j}) (fun p => [(7, .one (.c (.int .i64 (((p.1) : Int)))))]) (fun p => []) [0, 1, 4] [100] (fun p => s.size - (p.1)) ⟨j, ⟨⟨Nat.le_refl _, by omega⟩, J⟩⟩ (rn []) ?_ ?_
 exact Ag (by repeat first | exact trivial | refine Ah J (by first | exact VLe.rf | exact A7 (by dsimp only; omega)) ?_) (by repeat first | exact trivial | refine Ai J (by first | exact BLe.rf | exact BLe.box AllC.rf | exact BLe.arr (by exact J)) ?_) J J
 rintro ⟨e, hinv⟩
 dsimp only
 have he0 : j ≤ e := hinv.1.1
 have he1 : e ≤ s.size := hinv.1.2
 have hw : Bp s e = Bp s j := hinv.2
 refine A8 (Aa (Az (A0 J J) (Az (A0 J J) (Az (D4 J J (by kernel_rfl)) ?_))))
 refine Bd (BI J J J) (fun b15 h15 => ?_)
 refine Az (A0 J J) ?_
 cases b15
 · try simp only [tdy] at h15
   have hee : e = Bp s j := by rw [← hw, GF (s := s) (i := e) (by omega)]
   refine A3 J J J J (A3 J J J J (A3 J J J J (A3 J J J J (A3 J J J J (Dc J J J (Dc J J J (Dc J J J (Dc J J J (A3 J J J J (A3 J J J J (Dc J J J (Dc J J J (Dc J J J (Dc J J J (A3 J J J J (Az (AD J J J) (A2 (Bc J ?_))))))))))))))))))
   refine Br (B2 ?_)
   refine Aa (Az (A0 J J) (Az (A0 J J) (Az (A0 J J) ?_)))
   refine Az (D8 J J (by kernel_rfl) (.yes (l := j) J (by omega)) (.yes (l := e) J (by omega)) (by omega) (by first | exact Nat.le_refl _ | omega) J) ?_
   refine Az (A1 J J) (A2 (A8 (AZ (Aa (Az (A0 J J) ?_)))))
   refine Az (CL J J J (by kernel_rfl) (k := 0) J (by simp; omega)) ?_
   refine Bd (AS J J J (isDig_c _) J J) (fun b43 h43 => ?_)
   refine Az (A1 J J) (A2 ?_)
   cases b43
   rotate_left
   · try simp only [tdy] at h43
     rw [EF (s := s) (j := j) (e := e) (by omega) (by omega)] at h43
     refine A5 J (Aa (Az (A0 J J) (Az (AS J J J (textNumI_c _) J J) (Az (A0 J J) (Az (B1 J J J) ?_)))))
     refine Bd (B1 J J J) (fun b48 h48 => ?_)
     refine Az (A1 J J) (Az (A1 J J) (A2 (A8 (Aa (Az (A0 J J) (Az (Cn J J) (A2 ?_)))))))
     cases b48
     · try simp only [tdy] at h48
       have hno := H5 hee h43 h48
       refine A5 J (Aa (Az (Al [.int .i64 0, .int .i64 0, .string ⟨#[]⟩, .int .i64 0] [(0, 1), (1, 1), (2, 1), (3, 1)] J (by kernel_rfl) J J J J J) (Az (Ap 4 J J J J (by kernel_rfl) J J J) (Az (A1 J J) (Az (A1 J J) (A2 ?_))))))
       refine AU (Bk ?_)
       exact ⟨rn [(9, 100)], ⟨⟨⟨_, J, VLe.rf⟩, ⟨_, J, A7 (by rw [hno])⟩, ⟨_, J, A7 (by rw [hno])⟩, O⟩, ⟨⟨_, J, by refine AE ?_; rw [hno]; rfl⟩, O⟩, O, J⟩⟩
     try simp only [tdy] at h48
     have hno := res_num hee h43 h48
     refine Ab J (Aa (Az (A0 J J) (Az (A0 J J) (Az (Al [.int .i64 0, .int .i64 0, .string ⟨#[]⟩, .int .i64 0] [(0, 1), (1, 1), (2, 1), (3, 1)] J (by kernel_rfl) J J J J J) (Az (A0 J J) (Az (Ap 4 J J J J (by kernel_rfl) J J J) (Az (A1 J J) (Az (A1 J J) (A2 ?_)))))))))
     refine AU (Bk ?_)
     exact ⟨rn [(9, 100)], ⟨⟨⟨_, J, VLe.rf⟩, ⟨_, J, A7 (by rw [hno])⟩, ⟨_, J, A7 (by rw [hno])⟩, O⟩, ⟨⟨_, J, by refine AE ?_; rw [hno]; rfl⟩, O⟩, O, J⟩⟩
   try simp only [tdy] at h43
   rw [EF (s := s) (j := j) (e := e) (by omega) (by omega)] at h43
   refine Bc J (Aa (Az (A0 J J) ?_))
   refine Az (CL J J J (by kernel_rfl) (k := 0) J (by simp; omega)) ?_
   refine Bd (AS J J J (isLet_c _) J J) (fun b59 h59 => ?_)
   refine Az (A1 J J) (A2 ?_)
   cases b59
   rotate_left
   · try simp only [tdy] at h59
     rw [EF (s := s) (j := j) (e := e) (by omega) (by omega)] at h59
     refine Ac J (Aa (Az (A0 J J) ?_))
     refine Bd (AS J J J (wordOkI_c _) J J) (fun b61 h61 => ?_)
     refine Az (Cn J J) (A2 ?_)
     cases b61
     · try simp only [tdy] at h61
       have hno := GR hee h43 h61 (var_not hee hj hgt h59)
       refine A5 J (Aa (Az (Al [.int .i64 0, .int .i64 0, .string ⟨#[]⟩, .int .i64 0] [(0, 1), (1, 1), (2, 1), (3, 1)] J (by kernel_rfl) J J J J J) (Az (Ap 4 J J J J (by kernel_rfl) J J J) (Az (A1 J J) (Az (A1 J J) (A2 ?_))))))
       refine AU (Bk ?_)
       exact ⟨rn [(9, 100)], ⟨⟨⟨_, J, VLe.rf⟩, ⟨_, J, A7 (by rw [hno])⟩, ⟨_, J, A7 (by rw [hno])⟩, O⟩, ⟨⟨_, J, by refine AE ?_; rw [hno]; rfl⟩, O⟩, O, J⟩⟩
     try simp only [tdy] at h61
     have hno := HZ hee h43 h61
     refine Ab J (Aa (Az (A0 J J) (Az (A0 J J) (Az (Al [.int .i64 0, .int .i64 0, .string ⟨#[]⟩, .int .i64 0] [(0, 1), (1, 1), (2, 1), (3, 1)] J (by kernel_rfl) J J J J J) (Az (A0 J J) (Az (Ap 4 J J J J (by kernel_rfl) J J J) (Az (A1 J J) (Az (A1 J J) (A2 ?_)))))))))
     refine AU (Bk ?_)
     exact ⟨rn [(9, 100)], ⟨⟨⟨_, J, VLe.rf⟩, ⟨_, J, A7 (by rw [hno])⟩, ⟨_, J, A7 (by rw [hno])⟩, O⟩, ⟨⟨_, J, by refine AE ?_; rw [hno]; rfl⟩, O⟩, O, J⟩⟩
   try simp only [tdy] at h59
   rw [EF (s := s) (j := j) (e := e) (by omega) (by omega)] at h59
   refine Ab J (A8 (Aa (Az (A0 J J) (Az (D4 J J (by kernel_rfl)) ?_))))
   refine Bd (CC J J J) (fun b70 h70 => ?_)
   refine A2 ?_
   cases b70
   rotate_left
   · try simp only [tdy] at h70
     have hno := GR hee h43 (long_not (by omega)).1 (long_not (by omega)).2
     refine A5 J (Aa (Az (Al [.int .i64 0, .int .i64 0, .string ⟨#[]⟩, .int .i64 0] [(0, 1), (1, 1), (2, 1), (3, 1)] J (by kernel_rfl) J J J J J) (Az (Ap 4 J J J J (by kernel_rfl) J J J) (Az (A1 J J) (Az (A1 J J) (Ae ?_))))))
     exact ⟨rn [(9, 100)], ⟨⟨⟨_, J, VLe.rf⟩, ⟨_, J, A7 (by rw [hno])⟩, ⟨_, J, A7 (by rw [hno])⟩, O⟩, ⟨⟨_, J, by refine AE ?_; rw [hno]; rfl⟩, O⟩, O, J⟩⟩
   try simp only [tdy] at h70
   have hno := res_var hee h43 (word_not hee hj hgt h59) (var_yes hee hj hgt ha h59 h43 (by omega))
   refine Ab J (Aa (Az (A0 J J) (Az (A0 J J) (Az (Al [.int .i64 0, .int .i64 0, .string ⟨#[]⟩, .int .i64 0] [(0, 1), (1, 1), (2, 1), (3, 1)] J (by kernel_rfl) J J J J J) (Az (A0 J J) (Az (Ap 4 J J J J (by kernel_rfl) J J J) (Az (A1 J J) (Az (A1 J J) (Ae ?_)))))))))
   exact ⟨rn [(9, 100)], ⟨⟨⟨_, J, VLe.rf⟩, ⟨_, J, A7 (by rw [hno])⟩, ⟨_, J, A7 (by rw [hno])⟩, O⟩, ⟨⟨_, J, by refine AE ?_; rw [hno]; rfl⟩, O⟩, O, J⟩⟩
 try simp only [tdy] at h15
 refine AB J J (A0 J J) (AB J J (A0 J J) ?_)
 refine AB J J (CL J J J (by kernel_rfl) (k := e) J (by omega)) ?_
 refine Bh J J (AS J J J (isLet_c _) J J) (fun b20 h20 => ?_)
 refine AB J J (A0 J J) ?_
 cases b20
 rotate_left
 · try simp only [tdy] at h20
   have ha2 : B0 (s[e]'(by omega)).toNat = true := by simp [B0, h20]
   have hw2 := (EO (s := s) (i := e) (by omega) ha2).symm.trans hw
   refine A3 J J J J (A3 J J J J (A3 J J J J (A3 J J J J (AB J J (AJ J J J) (AB J J (A0 J J) (A3 J J J J (A3 J J J J (A3 J J J J (A3 J J J J (AB J J (AJ J J J) (Az (AJ J J J) (A2 (A5 J (AP (AZ (AG (Az (A0 J J) ?_)))))))))))))))))
   refine Az (Bl J J J (IntWalk.i64_in _ (by omega))) ?_
   refine Az (A1 J J) (A2 ?_)
   refine ⟨⟨e + 1, ⟨⟨by omega, by omega⟩, hw2⟩⟩, rn [], ?_, by dsimp only; omega⟩
   exact Ag (by repeat first | exact trivial | refine Ah J (by first | exact VLe.rf | exact A7 (by dsimp only; omega)) ?_) (by repeat first | exact trivial | refine Ai J (by first | exact BLe.rf | exact BLe.box AllC.rf | exact BLe.arr (by exact J)) ?_) J J
 try simp only [tdy] at h20
 refine AB J J (A0 J J) (AB J J (A0 J J) ?_)
 refine AB J J (CL J J J (by kernel_rfl) (k := e) J (by omega)) ?_
 refine Bh J J (AS J J J (isUp_c _) J J) (fun b25 h25 => ?_)
 refine AB J J (AD J J J) (AB J J (A0 J J) ?_)
 cases b25
 rotate_left
 · try simp only [tdy] at h25
   have ha2 : B0 (s[e]'(by omega)).toNat = true := by simp [B0, h25]
   have hw2 := (EO (s := s) (i := e) (by omega) ha2).symm.trans hw
   refine A3 J J J J (A3 J J J J (A3 J J J J (A3 J J J J (AB J J (AJ J J J) (Az (AJ J J J) (A2 (A5 J (AP (AZ (AG (Az (A0 J J) ?_)))))))))))
   refine Az (Bl J J J (IntWalk.i64_in _ (by omega))) ?_
   refine Az (A1 J J) (A2 ?_)
   refine ⟨⟨e + 1, ⟨⟨by omega, by omega⟩, hw2⟩⟩, rn [], ?_, by dsimp only; omega⟩
   exact Ag (by repeat first | exact trivial | refine Ah J (by first | exact VLe.rf | exact A7 (by dsimp only; omega)) ?_) (by repeat first | exact trivial | refine Ai J (by first | exact BLe.rf | exact BLe.box AllC.rf | exact BLe.arr (by exact J)) ?_) J J
 try simp only [tdy] at h25
 refine AB J J (A0 J J) (AB J J (A0 J J) ?_)
 refine AB J J (CL J J J (by kernel_rfl) (k := e) J (by omega)) ?_
 refine Bh J J (AS J J J (isDig_c _) J J) (fun b31 h31 => ?_)
 refine AB J J (AD J J J) (Az (AJ J J J) (A2 ?_))
 cases b31
 rotate_left
 · try simp only [tdy] at h31
   have ha2 : B0 (s[e]'(by omega)).toNat = true := by simp [B0, h31]
   have hw2 := (EO (s := s) (i := e) (by omega) ha2).symm.trans hw
   refine A5 J (AP (AZ (AG (Az (A0 J J) ?_))))
   refine Az (Bl J J J (IntWalk.i64_in _ (by omega))) ?_
   refine Az (A1 J J) (A2 ?_)
   refine ⟨⟨e + 1, ⟨⟨by omega, by omega⟩, hw2⟩⟩, rn [], ?_, by dsimp only; omega⟩
   exact Ag (by repeat first | exact trivial | refine Ah J (by first | exact VLe.rf | exact A7 (by dsimp only; omega)) ?_) (by repeat first | exact trivial | refine Ai J (by first | exact BLe.rf | exact BLe.box AllC.rf | exact BLe.arr (by exact J)) ?_) J J
 try simp only [tdy] at h31
 have hee : e = Bp s j := by rw [← hw, GE (s := s) (i := e) (by omega) (by simp [B0, *])]
 refine Bc J ?_
 refine Br (B2 ?_)
 refine Aa (Az (A0 J J) (Az (A0 J J) (Az (A0 J J) ?_)))
 refine Az (D8 J J (by kernel_rfl) (.yes (l := j) J (by omega)) (.yes (l := e) J (by omega)) (by omega) (by first | exact Nat.le_refl _ | omega) J) ?_
 refine Az (A1 J J) (A2 (A8 (AZ (Aa (Az (A0 J J) ?_)))))
 refine Az (CL J J J (by kernel_rfl) (k := 0) J (by simp; omega)) ?_
 refine Bd (AS J J J (isDig_c _) J J) (fun b43 h43 => ?_)
 refine Az (A1 J J) (A2 ?_)
 cases b43
 rotate_left
 · try simp only [tdy] at h43
   rw [EF (s := s) (j := j) (e := e) (by omega) (by omega)] at h43
   refine A5 J (Aa (Az (A0 J J) (Az (AS J J J (textNumI_c _) J J) (Az (A0 J J) (Az (B1 J J J) ?_)))))
   refine Bd (B1 J J J) (fun b48 h48 => ?_)
   refine Az (A1 J J) (Az (A1 J J) (A2 (A8 (Aa (Az (A0 J J) (Az (Cn J J) (A2 ?_)))))))
   cases b48
   · try simp only [tdy] at h48
     have hno := H5 hee h43 h48
     refine A5 J (Aa (Az (Al [.int .i64 0, .int .i64 0, .string ⟨#[]⟩, .int .i64 0] [(0, 1), (1, 1), (2, 1), (3, 1)] J (by kernel_rfl) J J J J J) (Az (Ap 4 J J J J (by kernel_rfl) J J J) (Az (A1 J J) (Az (A1 J J) (A2 ?_))))))
     refine AU (Bk ?_)
     exact ⟨rn [(9, 100)], ⟨⟨⟨_, J, VLe.rf⟩, ⟨_, J, A7 (by rw [hno])⟩, ⟨_, J, A7 (by rw [hno])⟩, O⟩, ⟨⟨_, J, by refine AE ?_; rw [hno]; rfl⟩, O⟩, O, J⟩⟩
   try simp only [tdy] at h48
   have hno := res_num hee h43 h48
   refine Ab J (Aa (Az (A0 J J) (Az (A0 J J) (Az (Al [.int .i64 0, .int .i64 0, .string ⟨#[]⟩, .int .i64 0] [(0, 1), (1, 1), (2, 1), (3, 1)] J (by kernel_rfl) J J J J J) (Az (A0 J J) (Az (Ap 4 J J J J (by kernel_rfl) J J J) (Az (A1 J J) (Az (A1 J J) (A2 ?_)))))))))
   refine AU (Bk ?_)
   exact ⟨rn [(9, 100)], ⟨⟨⟨_, J, VLe.rf⟩, ⟨_, J, A7 (by rw [hno])⟩, ⟨_, J, A7 (by rw [hno])⟩, O⟩, ⟨⟨_, J, by refine AE ?_; rw [hno]; rfl⟩, O⟩, O, J⟩⟩
 try simp only [tdy] at h43
 rw [EF (s := s) (j := j) (e := e) (by omega) (by omega)] at h43
 refine Bc J (Aa (Az (A0 J J) ?_))
 refine Az (CL J J J (by kernel_rfl) (k := 0) J (by simp; omega)) ?_
 refine Bd (AS J J J (isLet_c _) J J) (fun b59 h59 => ?_)
 refine Az (A1 J J) (A2 ?_)
 cases b59
 rotate_left
 · try simp only [tdy] at h59
   rw [EF (s := s) (j := j) (e := e) (by omega) (by omega)] at h59
   refine Ac J (Aa (Az (A0 J J) ?_))
   refine Bd (AS J J J (wordOkI_c _) J J) (fun b61 h61 => ?_)
   refine Az (Cn J J) (A2 ?_)
   cases b61
   · try simp only [tdy] at h61
     have hno := GR hee h43 h61 (var_not hee hj hgt h59)
     refine A5 J (Aa (Az (Al [.int .i64 0, .int .i64 0, .string ⟨#[]⟩, .int .i64 0] [(0, 1), (1, 1), (2, 1), (3, 1)] J (by kernel_rfl) J J J J J) (Az (Ap 4 J J J J (by kernel_rfl) J J J) (Az (A1 J J) (Az (A1 J J) (A2 ?_))))))
     refine AU (Bk ?_)
     exact ⟨rn [(9, 100)], ⟨⟨⟨_, J, VLe.rf⟩, ⟨_, J, A7 (by rw [hno])⟩, ⟨_, J, A7 (by rw [hno])⟩, O⟩, ⟨⟨_, J, by refine AE ?_; rw [hno]; rfl⟩, O⟩, O, J⟩⟩
   try simp only [tdy] at h61
   have hno := HZ hee h43 h61
   refine Ab J (Aa (Az (A0 J J) (Az (A0 J J) (Az (Al [.int .i64 0, .int .i64 0, .string ⟨#[]⟩, .int .i64 0] [(0, 1), (1, 1), (2, 1), (3, 1)] J (by kernel_rfl) J J J J J) (Az (A0 J J) (Az (Ap 4 J J J J (by kernel_rfl) J J J) (Az (A1 J J) (Az (A1 J J) (A2 ?_)))))))))
   refine AU (Bk ?_)
   exact ⟨rn [(9, 100)], ⟨⟨⟨_, J, VLe.rf⟩, ⟨_, J, A7 (by rw [hno])⟩, ⟨_, J, A7 (by rw [hno])⟩, O⟩, ⟨⟨_, J, by refine AE ?_; rw [hno]; rfl⟩, O⟩, O, J⟩⟩
 try simp only [tdy] at h59
 rw [EF (s := s) (j := j) (e := e) (by omega) (by omega)] at h59
 refine Ab J (A8 (Aa (Az (A0 J J) (Az (D4 J J (by kernel_rfl)) ?_))))
 refine Bd (CC J J J) (fun b70 h70 => ?_)
 refine A2 ?_
 cases b70
 rotate_left
 · try simp only [tdy] at h70
   have hno := GR hee h43 (long_not (by omega)).1 (long_not (by omega)).2
   refine A5 J (Aa (Az (Al [.int .i64 0, .int .i64 0, .string ⟨#[]⟩, .int .i64 0] [(0, 1), (1, 1), (2, 1), (3, 1)] J (by kernel_rfl) J J J J J) (Az (Ap 4 J J J J (by kernel_rfl) J J J) (Az (A1 J J) (Az (A1 J J) (Ae ?_))))))
   exact ⟨rn [(9, 100)], ⟨⟨⟨_, J, VLe.rf⟩, ⟨_, J, A7 (by rw [hno])⟩, ⟨_, J, A7 (by rw [hno])⟩, O⟩, ⟨⟨_, J, by refine AE ?_; rw [hno]; rfl⟩, O⟩, O, J⟩⟩
 try simp only [tdy] at h70
 have hno := res_var hee h43 (word_not hee hj hgt h59) (var_yes hee hj hgt ha h59 h43 (by omega))
 refine Ab J (Aa (Az (A0 J J) (Az (A0 J J) (Az (Al [.int .i64 0, .int .i64 0, .string ⟨#[]⟩, .int .i64 0] [(0, 1), (1, 1), (2, 1), (3, 1)] J (by kernel_rfl) J J J J J) (Az (A0 J J) (Az (Ap 4 J J J J (by kernel_rfl) J J J) (Az (A1 J J) (Az (A1 J J) (Ae ?_)))))))))
 exact ⟨rn [(9, 100)], ⟨⟨⟨_, J, VLe.rf⟩, ⟨_, J, A7 (by rw [hno])⟩, ⟨_, J, A7 (by rw [hno])⟩, O⟩, ⟨⟨_, J, by refine AE ?_; rw [hno]; rfl⟩, O⟩, O, J⟩⟩
end Go.Proofs.YtkemjhlbokldhaaGreat

namespace Go.Proofs.YtkemjhlbokldhaaGreat
open Go.RowKit
set_option linter.unusedVariables false
set_option linter.unusedSimpArgs false
set_option maxRecDepth 100000

set_option maxHeartbeats 4000000 in
theorem hasPre_c (s p : ByteArray) : AC Tryz.prog 75 [.one (.c (.string s)), .one (.c (.string p))] [] (.one (.c (.bool (Lib.hasPrefix s.data.toList p.data.toList)))) [] := by
 refine Bn Tryz.func75 J J Tryz.ntmps75 J Tryz.results75 ?_
 refine Aa (Az (A1 J J) (Ad (Az (A0 J J) (Az (A0 J J) ?_))))
 refine Bd (AS J J J (litePre_c _ _) J J) (fun b7 h7 => ?_)
 refine Az (A1 J J) (Ae ?_)
 cases b7
 rotate_left
 · try simp only [tdy] at h7
   exact ⟨rn [], ⟨⟨⟨_, J, AH (by simp [*])⟩, O⟩, O, O, J⟩⟩
 try simp only [tdy] at h7
 exact ⟨rn [], ⟨⟨⟨_, J, AH (by simp [*])⟩, O⟩, O, O, J⟩⟩

set_option maxHeartbeats 4000000 in
theorem symbolAt_c (s : ByteArray) (j : Nat) (hs0 : s.size ≤ 1048576) (hj : j < s.size) : AC Tryz.prog 48 [.one (.c (.string s)), .one (.c (.int .i64 ((j : Int))))] [] (.one (.c (.string (C2 s j)))) [] := by
 have htl := HT
 refine Bn Tryz.func48 J J Tryz.ntmps48 J Tryz.results48 ?_
 refine Aa (Az (A1 J J) (A2 (A8 (Aa (Az (CR (E := 9) (e := DM) [.const (.string ⟨#[58, 45]⟩), .const (.string ⟨#[33, 61]⟩), .const (.string ⟨#[60, 61]⟩)] (twos) J J J J J J J J FitL.rf J J J (by kernel_rfl)) (Az (Ak 9 1 J J (by kernel_rfl)) (Az (A0 J J) (A2 (AZ ?_)))))))))
 refine B8 (ι := {q : Nat // q ≤ 3 ∧ NoneTo (fun p : ByteArray => Lib.hasPrefix (s.extract j s.size).data.toList p.data.toList) twos q}) (fun p => [(9, .one (.c (.int .i64 (((p.1) : Int)))))]) (fun p => []) [0, 1, 7, 8] [] (fun p => 3 - (p.1)) ⟨0, ⟨by omega, .zero⟩⟩ (rn []) ?_ ?_
 exact Ag (by repeat first | exact trivial | refine Ah J (by first | exact VLe.rf | exact A7 (by dsimp only; omega)) ?_) (by repeat first | exact trivial | refine Ai J (by first | exact BLe.rf | exact BLe.box AllC.rf | exact BLe.arr (by exact J)) ?_) J J
 rintro ⟨k, hinv⟩
 dsimp only
 have hk : k ≤ 3 := hinv.1
 have hn := hinv.2
 refine Aa ?_
 refine Bd (BI J J J) (fun b10 h10 => ?_)
 refine A2 (A8 ?_)
 cases b10
 · try simp only [tdy] at h10
   have h2 := no_two (s := s) (i := j) (by omega) hn (k := k) (by omega)
   refine Bc J ?_
   refine Br (B2 ?_)
   refine A8 (Aa (Az (A0 J J) (Az (A0 J J) ?_)))
   refine Az (CL J J J (by kernel_rfl) (k := j) J (by omega)) ?_
   refine Az (AS J J J (idxByte_c signB _ (by decide)) J J) ?_
   refine Bd (Ee J J J) (fun b24 h24 => ?_)
   refine A2 ?_
   cases b24
   · try simp only [tdy] at h24
     have hno := (sym_none (s := s) (i := j) (by omega) h2 (by omega)).symm
     refine Ab J (Aa (Az (A1 J J) (Ae ?_)))
     exact ⟨rn [], ⟨⟨⟨_, J, Bu (hno)⟩, O⟩, O, O, J⟩⟩
   try simp only [tdy] at h24
   have hno := (sym_one (s := s) (i := j) (by omega) h2 h24).symm
   refine A5 J (Aa (Az (A0 J J) (Az (A0 J J) (Az (A0 J J) ?_))))
   refine Az (Bl J J J (IntWalk.i64_in _ (by omega))) ?_
   refine Az (D8 J J (by kernel_rfl) (.yes (l := j) J (by omega)) (.yes (l := j + 1) J (by omega)) (by omega) (by first | exact Nat.le_refl _ | omega) J) ?_
   refine Az (A1 J J) (Ae ?_)
   exact ⟨rn [], ⟨⟨⟨_, J, Bu (hno)⟩, O⟩, O, O, J⟩⟩
 try simp only [tdy] at h10
 refine A5 J (AP (A8 (AZ (Aa ?_))))
 refine Az (Am 9 1 k J J J (by kernel_rfl) J J (by rw [HT]; omega)) ?_
 refine Az (BW J J (by kernel_rfl) J) (Az (A1 J J) (Ad (Az (A0 J J) (Az (A0 J J) ?_))))
 refine Az (D8 J J (by kernel_rfl) (.yes (l := j) J (by omega)) .no (by omega) (by first | exact Nat.le_refl _ | omega) J) ?_
 refine Az (A0 J J) ?_
 refine Bd (AS J J J (hasPre_c _ _) J J) (fun b17 h17 => ?_)
 refine A2 ?_
 cases b17
 · try simp only [tdy] at h17
   refine Ab J (AG ?_)
   refine Az (Bl J J J (IntWalk.i64_in _ (by omega))) ?_
   refine Az (A0 J J) (A2 ?_)
   refine ⟨⟨k + 1, ⟨by omega, hn.succ (by rw [HT]; omega) h17⟩⟩, rn [], ?_, by dsimp only; omega⟩
   exact Ag (by repeat first | exact trivial | refine Ah J (by first | exact VLe.rf | exact A7 (by dsimp only; omega)) ?_) (by repeat first | exact trivial | refine Ai J (by first | exact BLe.rf | exact BLe.box AllC.rf | exact BLe.arr (by exact J)) ?_) J J
 try simp only [tdy] at h17
 have hno := (sym_two (s := s) (i := j) (by omega) (k := k) (by rw [HT]; omega) h17).symm
 refine A5 J (Aa (Az (A0 J J) (Az (A1 J J) (A2 ?_))))
 refine AU (Bk (Bk ?_))
 exact ⟨rn [], ⟨⟨⟨_, J, Bu (hno)⟩, O⟩, O, O, J⟩⟩

set_option maxHeartbeats 4000000 in
theorem sign_c (s : ByteArray) (j : Nat) (hs0 : s.size ≤ 1048576) (hj : j < s.size) : AC Tryz.prog 99 [.one (.c (.string s)), .one (.c (.int .i64 ((j : Int))))] [] (.one (.c (.string (C2 s j)))) [] := by
 have hol := CX
 refine Bn Tryz.func99 J J Tryz.ntmps99 J Tryz.results99 ?_
 refine Aa (Az (A1 J J) (A2 (A8 (Aa (Az (A0 J J) ?_)))))
 refine Az (Bl J J J (IntWalk.i64_in _ (by omega))) ?_
 refine Az (A0 J J) (Az (D4 J J (by kernel_rfl)) ?_)
 refine Bd (BI J J J) (fun b13 h13 => ?_)
 refine A2 ?_
 cases b13
 · try simp only [tdy] at h13
   have h2 : ¬ (j + 1 < s.size ∧ EM (s.extract j (j + 2)) = true) := fun q => by omega
   refine Ab J (Aa (Az (A0 J J) (Az (A0 J J) ?_)))
   refine Az (CL J J J (by kernel_rfl) (k := j) J (by omega)) ?_
   refine Az (A1 J J) (A2 (A8 (Aa (Az (CR (E := 9) (e := DM) [.const (.string ⟨#[40]⟩), .const (.string ⟨#[41]⟩), .const (.string ⟨#[44]⟩), .const (.string ⟨#[46]⟩), .const (.string ⟨#[61]⟩), .const (.string ⟨#[60]⟩), .const (.string ⟨#[43]⟩), .const (.string ⟨#[45]⟩), .const (.string ⟨#[47]⟩)] (ones) J J J J J J J J FitL.rf J J J (by kernel_rfl)) (Az (Ak 9 1 J J (by kernel_rfl)) (Az (A0 J J) (A2 (AZ ?_))))))))
   refine B8 (ι := {q : Nat // q ≤ 9 ∧ NoneTo (fun p : ByteArray => decide (hd0 p = s[j].toNat)) ones q}) (fun p => [(35, .one (.c (.int .i64 (((p.1) : Int)))))]) (fun p => []) [6, 33, 34] [] (fun p => 9 - (p.1)) ⟨0, ⟨by omega, .zero⟩⟩ (rn []) ?_ ?_
   exact Ag (by repeat first | exact trivial | refine Ah J (by first | exact VLe.rf | exact A7 (by dsimp only; omega)) ?_) (by repeat first | exact trivial | refine Ai J (by first | exact BLe.rf | exact BLe.box AllC.rf | exact BLe.arr (by exact J)) ?_) J J
   rintro ⟨k, hinv⟩
   dsimp only
   have hk : k ≤ 9 := hinv.1
   have hn := hinv.2
   refine Aa ?_
   refine Bd (BI J J J) (fun b36 h36 => ?_)
   refine A2 (A8 ?_)
   cases b36
   · try simp only [tdy] at h36
     have hno := (sym_miss (s := s) (i := j) (by omega) h2 (k := k) (by omega) hn).symm
     refine Bc J ?_
     refine Br (B2 ?_)
     refine Aa (Az (A1 J J) (Ae ?_))
     exact ⟨rn [], ⟨⟨⟨_, J, Bu (by first | exact hno | exact hno.symm | (rw [hno]; exact ba_iff.1 (by assumption)))⟩, O⟩, O, O, J⟩⟩
   try simp only [tdy] at h36
   refine A5 J (AP (A8 (AZ (Aa ?_))))
   refine Az (Am 9 1 k J J J (by kernel_rfl) J J (by rw [CX]; omega)) ?_
   refine Az (BW J J (by kernel_rfl) J) (Az (A1 J J) (Ad (Az (A0 J J) ?_)))
   refine Az (CL J J J (by kernel_rfl) (k := 0) J (by rw [Fr (by rw [CX]; omega)]; decide)) ?_
   refine Az (A0 J J) ?_
   refine Bd (AR J J J) (fun b42 h42 => ?_)
   refine A2 ?_
   cases b42
   rotate_left
   · try simp only [tdy] at h42
     have hno := (sym_hit (s := s) (i := j) (by omega) h2 (k := k) (by rw [CX]; omega) (by rw [Fr (by rw [CX]; omega)]; decide) h42).symm
     refine A5 J (Aa (Az (A0 J J) (Az (A1 J J) (A2 ?_))))
     refine AU (Bk (Bk ?_))
     exact ⟨rn [], ⟨⟨⟨_, J, Bu (by first | exact hno | exact hno.symm | (rw [hno]; exact ba_iff.1 (by assumption)))⟩, O⟩, O, O, J⟩⟩
   try simp only [tdy] at h42
   have hd : hd0 (ones[k]'(by rw [CX]; omega)) = _ := HG (by rw [Fr (by rw [CX]; omega)]; decide)
   refine Ab J (AG ?_)
   refine Az (Bl J J J (IntWalk.i64_in _ (by omega))) ?_
   refine Az (A0 J J) (A2 ?_)
   refine ⟨⟨k + 1, ⟨by omega, hn.succ (by rw [CX]; omega) (by rw [decide_eq_false_iff_not, hd]; exact h42)⟩⟩, rn [], ?_, by dsimp only; omega⟩
   exact Ag (by repeat first | exact trivial | refine Ah J (by first | exact VLe.rf | exact A7 (by dsimp only; omega)) ?_) (by repeat first | exact trivial | refine Ai J (by first | exact BLe.rf | exact BLe.box AllC.rf | exact BLe.arr (by exact J)) ?_) J J
 try simp only [tdy] at h13
 refine A5 J (Aa (Az (A0 J J) (Az (A0 J J) (Az (A0 J J) ?_))))
 refine Az (Bl J J J (IntWalk.i64_in _ (by omega))) ?_
 refine Az (D8 J J (by kernel_rfl) (.yes (l := j) J (by omega)) (.yes (l := j + 2) J (by omega)) (by omega) (by first | exact Nat.le_refl _ | omega) J) ?_
 refine Az (A1 J J) (Ad (Az (A0 J J) ?_))
 refine Bd (DH J J J) (fun b20 h20 => ?_)
 refine Az (A0 J J) ?_
 cases b20
 rotate_left
 · try simp only [tdy] at h20
   have hno := sym_pair (s := s) (i := j) (by omega) (ba_iff.1 h20) rfl
   refine A3 J J J J (A3 J J J J (Az (AJ J J J) (Az (A0 J J) (A3 J J J J (A3 J J J J (Az (AJ J J J) (A2 (A5 J (Aa (Az (A0 J J) (Az (A1 J J) (Ae ?_))))))))))))
   exact ⟨rn [], ⟨⟨⟨_, J, Bu (by first | exact hno | exact hno.symm | (rw [hno]; exact ba_iff.1 (by assumption)))⟩, O⟩, O, O, J⟩⟩
 try simp only [tdy] at h20
 refine AB J J (A0 J J) ?_
 refine Bh J J (DH J J J) (fun b23 h23 => ?_)
 refine Az (AD J J J) (Az (A0 J J) ?_)
 cases b23
 rotate_left
 · try simp only [tdy] at h23
   have hno := sym_pair (s := s) (i := j) (by omega) (ba_iff.1 h23) rfl
   refine A3 J J J J (A3 J J J J (Az (AJ J J J) (A2 (A5 J (Aa (Az (A0 J J) (Az (A1 J J) (Ae ?_))))))))
   exact ⟨rn [], ⟨⟨⟨_, J, Bu (by first | exact hno | exact hno.symm | (rw [hno]; exact ba_iff.1 (by assumption)))⟩, O⟩, O, O, J⟩⟩
 try simp only [tdy] at h23
 refine AB J J (A0 J J) ?_
 refine Bh J J (DH J J J) (fun b27 h27 => ?_)
 refine Az (AD J J J) (A2 ?_)
 cases b27
 rotate_left
 · try simp only [tdy] at h27
   have hno := sym_pair (s := s) (i := j) (by omega) (ba_iff.1 h27) rfl
   refine A5 J (Aa (Az (A0 J J) (Az (A1 J J) (Ae ?_))))
   exact ⟨rn [], ⟨⟨⟨_, J, Bu (by first | exact hno | exact hno.symm | (rw [hno]; exact ba_iff.1 (by assumption)))⟩, O⟩, O, O, J⟩⟩
 try simp only [tdy] at h27
 have h2 : ¬ (j + 1 < s.size ∧ EM (s.extract j (j + 2)) = true) := not_two h20 h23 h27
 refine Ab J (Aa (Az (A0 J J) (Az (A0 J J) ?_)))
 refine Az (CL J J J (by kernel_rfl) (k := j) J (by omega)) ?_
 refine Az (A1 J J) (A2 (A8 (Aa (Az (CR (E := 9) (e := DM) [.const (.string ⟨#[40]⟩), .const (.string ⟨#[41]⟩), .const (.string ⟨#[44]⟩), .const (.string ⟨#[46]⟩), .const (.string ⟨#[61]⟩), .const (.string ⟨#[60]⟩), .const (.string ⟨#[43]⟩), .const (.string ⟨#[45]⟩), .const (.string ⟨#[47]⟩)] (ones) J J J J J J J J FitL.rf J J J (by kernel_rfl)) (Az (Ak 9 1 J J (by kernel_rfl)) (Az (A0 J J) (A2 (AZ ?_))))))))
 refine B8 (ι := {q : Nat // q ≤ 9 ∧ NoneTo (fun p : ByteArray => decide (hd0 p = s[j].toNat)) ones q}) (fun p => [(35, .one (.c (.int .i64 (((p.1) : Int)))))]) (fun p => []) [6, 33, 34] [] (fun p => 9 - (p.1)) ⟨0, ⟨by omega, .zero⟩⟩ (rn []) ?_ ?_
 exact Ag (by repeat first | exact trivial | refine Ah J (by first | exact VLe.rf | exact A7 (by dsimp only; omega)) ?_) (by repeat first | exact trivial | refine Ai J (by first | exact BLe.rf | exact BLe.box AllC.rf | exact BLe.arr (by exact J)) ?_) J J
 rintro ⟨k, hinv⟩
 dsimp only
 have hk : k ≤ 9 := hinv.1
 have hn := hinv.2
 refine Aa ?_
 refine Bd (BI J J J) (fun b36 h36 => ?_)
 refine A2 (A8 ?_)
 cases b36
 · try simp only [tdy] at h36
   have hno := (sym_miss (s := s) (i := j) (by omega) h2 (k := k) (by omega) hn).symm
   refine Bc J ?_
   refine Br (B2 ?_)
   refine Aa (Az (A1 J J) (Ae ?_))
   exact ⟨rn [], ⟨⟨⟨_, J, Bu (by first | exact hno | exact hno.symm | (rw [hno]; exact ba_iff.1 (by assumption)))⟩, O⟩, O, O, J⟩⟩
 try simp only [tdy] at h36
 refine A5 J (AP (A8 (AZ (Aa ?_))))
 refine Az (Am 9 1 k J J J (by kernel_rfl) J J (by rw [CX]; omega)) ?_
 refine Az (BW J J (by kernel_rfl) J) (Az (A1 J J) (Ad (Az (A0 J J) ?_)))
 refine Az (CL J J J (by kernel_rfl) (k := 0) J (by rw [Fr (by rw [CX]; omega)]; decide)) ?_
 refine Az (A0 J J) ?_
 refine Bd (AR J J J) (fun b42 h42 => ?_)
 refine A2 ?_
 cases b42
 rotate_left
 · try simp only [tdy] at h42
   have hno := (sym_hit (s := s) (i := j) (by omega) h2 (k := k) (by rw [CX]; omega) (by rw [Fr (by rw [CX]; omega)]; decide) h42).symm
   refine A5 J (Aa (Az (A0 J J) (Az (A1 J J) (A2 ?_))))
   refine AU (Bk (Bk ?_))
   exact ⟨rn [], ⟨⟨⟨_, J, Bu (by first | exact hno | exact hno.symm | (rw [hno]; exact ba_iff.1 (by assumption)))⟩, O⟩, O, O, J⟩⟩
 try simp only [tdy] at h42
 have hd : hd0 (ones[k]'(by rw [CX]; omega)) = _ := HG (by rw [Fr (by rw [CX]; omega)]; decide)
 refine Ab J (AG ?_)
 refine Az (Bl J J J (IntWalk.i64_in _ (by omega))) ?_
 refine Az (A0 J J) (A2 ?_)
 refine ⟨⟨k + 1, ⟨by omega, hn.succ (by rw [CX]; omega) (by rw [decide_eq_false_iff_not, hd]; exact h42)⟩⟩, rn [], ?_, by dsimp only; omega⟩
 exact Ag (by repeat first | exact trivial | refine Ah J (by first | exact VLe.rf | exact A7 (by dsimp only; omega)) ?_) (by repeat first | exact trivial | refine Ai J (by first | exact BLe.rf | exact BLe.box AllC.rf | exact BLe.arr (by exact J)) ?_) J J
end Go.Proofs.YtkemjhlbokldhaaGreat

namespace Go.Proofs.YtkemjhlbokldhaaGreat
open Go.RowKit
set_option linter.unusedVariables false
set_option linter.unusedSimpArgs false
set_option maxRecDepth 100000

set_option maxHeartbeats 4000000 in
theorem lexI_c0 (s : ByteArray) (hs0 : s.size ≤ 1048576) : AC Tryz.prog 17 [.one (.c (.string s))] [] (.tup [.one (.own 0), .one (.c (.int .i64 ((AF s).2.1))), .one (.c (.int .i64 ((AF s).2.2)))]) [(0, some (.arr 62 C1 (AF s).1 true))] := by
 refine AC_body3 Tryz.func17 J J Tryz.ntmps17 J Tryz.results17 J J J J J J ?_
 refine Aa (Az (A1 J J) (Az (A1 J J) (Az (A1 J J) (A2 (A8 (Aa (Az (A0 J J) (Az (D4 J J (by kernel_rfl)) ?_))))))))
 refine Bd (CC J J J) (fun b14 h14 => ?_)
 refine A2 ?_
 cases b14
 rotate_left
 · try simp only [tdy] at h14
   have hno := lexAll_big h14
   refine A5 J (Aa (Az (A1 J J) (Az (A1 J J) (Az (A1 J J) (A2 (DG (T := 62) (e := C1) 100 2 J J J ?_))))))
   refine AU ?_
   exact ⟨rn [(0, 100)], ⟨⟨⟨_, J, VLe.rf⟩, ⟨_, J, A7 (by rw [hno])⟩, ⟨_, J, A7 (by rw [hno])⟩, O⟩, ⟨⟨_, J, by first | exact BLe.rf | exact BLe.arr (by rw [hno])⟩, O⟩, O, J⟩⟩
 try simp only [tdy] at h14
 refine Ab J (Aa (Az (Hh (E := 62) (e := C1) 101 J J J (by kernel_rfl)) (Az (A1 J J) (A2 (A8 (Aa (Az (A0 J J) ?_)))))))
 refine Az (AS J J J (Hl s 0 hs0 (by omega)) J J) ?_
 refine Az (A1 J J) (A2 (AZ ?_))
 refine B8 (ι := {q : Nat × List Tokent // ((q.1) ≤ s.size ∧ B3 s (q.1) = (q.1)) ∧ Fb (q.2) (lexR s (q.1)) = lexR s 0 ∧ (q.2).length ≤ (q.1)}) (fun p => [(5, .one (.own 101)), (6, .one (.c (.int .i64 (((p.1.1) : Int)))))]) (fun p => [(101, some (.arr 62 C1 (p.1.2) true))]) [0] [] (fun p => s.size - (p.1.1)) ⟨⟨B3 s 0, []⟩, ⟨⟨Hm _ (by omega), DX _⟩, comb_start.trans (lex_skip (DX _)), by simp⟩⟩ (rn []) ?_ ?_
 exact Ag (by repeat first | exact trivial | refine Ah J (by first | exact VLe.rf | exact A7 (by dsimp only; omega)) ?_) (by repeat first | exact trivial | refine Ai J (by first | exact BLe.rf | exact BLe.box AllC.rf | exact BLe.arr (by exact J)) ?_) J J
 rintro ⟨⟨j, out⟩, hinv⟩
 dsimp only
 have hj : j ≤ s.size := hinv.1.1
 have hs : B3 s j = j := hinv.1.2
 have hc := hinv.2.1
 have hl : out.length ≤ j := hinv.2.2
 refine A8 (Aa (Az (A0 J J) (Az (A0 J J) (Az (D4 J J (by kernel_rfl)) ?_))))
 refine Bd (BI J J J) (fun b21 h21 => ?_)
 refine A2 ?_
 cases b21
 · try simp only [tdy] at h21
   have hno := (Dz (s := s) (by omega)).trans (comb_end hc (by omega)).symm.symm
   refine Bc J ?_
   refine Br (B2 ?_)
   refine Aa (Az (A0 J J) (Az (A1 J J) (Az (A1 J J) (Az (A1 J J) (Ae ?_)))))
   exact ⟨rn [(0, 101)], ⟨⟨⟨_, J, VLe.rf⟩, ⟨_, J, A7 (by rw [hno])⟩, ⟨_, J, A7 (by rw [hno])⟩, O⟩, ⟨⟨_, J, by first | exact BLe.rf | exact BLe.arr (by rw [hno])⟩, O⟩, O, J⟩⟩
 try simp only [tdy] at h21
 refine A5 J (AP (A8 (AZ (Aa (Az (A0 J J) (Az (A0 J J) ?_))))))
 refine Az (CL J J J (by kernel_rfl) (k := j) J (by omega)) ?_
 refine Az (A1 J J) (A2 (A8 (Aa (Az (A0 J J) ?_))))
 refine Bd (AS J J J (isLet_c _) J J) (fun b29 h29 => ?_)
 refine Az (A0 J J) ?_
 cases b29
 rotate_left
 · try simp only [tdy] at h29
   have ha : B0 s[j].toNat = true := by simp [B0, h29]
   refine A3 J J J J (A3 J J J J (Az (AJ J J J) (Az (A0 J J) (A3 J J J J (A3 J J J J (Az (AJ J J J) (A2 (A5 J (Aa (Az (A0 J J) (Az (A0 J J) ?_)))))))))))
   refine Az (AS J J J (wordAt_c s j hs0 (by omega) ha) J J) ?_
   refine Az (A0 J J) (Az (B1 J J J) (Az (B1 J J J) (Az (B1 J J J) (Az (Aw (.agg #[.int .i64 0, .int .i64 0, .string ⟨#[]⟩, .int .i64 0]) 102 J (by kernel_rfl) J J J J) (Az (Ap 4 J J J J (by kernel_rfl) J J J) (Az (A1 J J) (Az (A1 J J) (A2 (A8 (Aa (Az (A0 J J) ?_)))))))))))
   refine Bd (EK J J J) (fun b46 h46 => ?_)
   refine A2 ?_
   cases b46
   rotate_left
   · try simp only [tdy] at h46
     have hno : (AF s) = ([], (BT s j (s[j].toNat : Int)).2.2, (j : Int)) := (Dz (by omega)).trans (Fa hc (lexw_bad (by omega) hs ha h46) h46)
     refine A5 J (Aa (Az (A0 J J) (Az (A0 J J) (Az (A1 J J) (Az (A1 J J) (Az (A1 J J) (A2 (DG (T := 62) (e := C1) 100 2 J J J ?_))))))))
     refine AU (Bk (Bk ?_))
     exact ⟨rn [(0, 100)], ⟨⟨⟨_, J, VLe.rf⟩, ⟨_, J, A7 (by rw [hno])⟩, ⟨_, J, A7 (by rw [hno])⟩, O⟩, ⟨⟨_, J, by first | exact BLe.rf | exact BLe.arr (by rw [hno])⟩, O⟩, O, J⟩⟩
   try simp only [tdy] at h46
   have hok := lexw_ok (s := s) (j := j) (by omega) hs ha (Classical.not_not.1 (by simpa using h46))
   have hc2 := EU hc hok.1
   have hle := D5 (s := s) j (by omega)
   have hgt := Et (s := s) (i := j) (by omega) ha
   have hnx := hok.2
   have hge := ET (s := s) (Bp s j)
   have hle2 := Hm (s := s) (Bp s j) hle
   refine Ab J (Aa (Az (A0 J J) (Az (Au 4 J J J (by kernel_rfl) J J) (Az (Aq C1 62 [.tmp 50] ([(BT s j (s[j].toNat : Int)).1]) 103 J J J J J J J J FitL.rf J J J J J J (by kernel_rfl)) ?_))))
   refine Az (B9 104 J J J J J J J J (by kernel_rfl) (by simp only [List.length_append, List.length_cons, List.length_nil] at *; omega)) ?_
   refine Az (A1 J J) (Ad (Az (A0 J J) (Az (A1 J J) (A2 ?_))))
   refine Br (B2 ?_)
   refine AW_slot (t := 6) (y := .one (.c (.int .i64 ((_ : Nat) : Int)))) J (congrArg (fun z : Int => AVal.one (.c (.int .i64 z))) hnx) ?_
   refine AG (Az (A0 J J) (Az (A0 J J) (Az (AS J J J (Hl s _ hs0 hle) J J) (Az (A1 J J) (A2 ?_)))))
   refine ⟨⟨⟨B3 s (Bp s j), out ++ [(BT s j (s[j].toNat : Int)).1]⟩, ⟨⟨hle2, DX _⟩, (Ed hc2 (DX _).symm), by simp only [List.length_append, List.length_cons, List.length_nil]; omega⟩⟩, rn [(101, 104)], ?_, by dsimp only; omega⟩
   exact Ag (by repeat first | exact trivial | refine Ah J (by first | exact VLe.rf | exact A7 (by dsimp only; omega)) ?_) (by repeat first | exact trivial | refine Ai J (by first | exact BLe.rf | exact BLe.box AllC.rf | exact BLe.arr (by exact J)) ?_) J J
 try simp only [tdy] at h29
 refine AB J J (A0 J J) ?_
 refine Bh J J (AS J J J (isUp_c _) J J) (fun b32 h32 => ?_)
 refine Az (AD J J J) (Az (A0 J J) ?_)
 cases b32
 rotate_left
 · try simp only [tdy] at h32
   have ha : B0 s[j].toNat = true := by simp [B0, h32]
   refine A3 J J J J (A3 J J J J (Az (AJ J J J) (A2 (A5 J (Aa (Az (A0 J J) (Az (A0 J J) ?_)))))))
   refine Az (AS J J J (wordAt_c s j hs0 (by omega) ha) J J) ?_
   refine Az (A0 J J) (Az (B1 J J J) (Az (B1 J J J) (Az (B1 J J J) (Az (Aw (.agg #[.int .i64 0, .int .i64 0, .string ⟨#[]⟩, .int .i64 0]) 102 J (by kernel_rfl) J J J J) (Az (Ap 4 J J J J (by kernel_rfl) J J J) (Az (A1 J J) (Az (A1 J J) (A2 (A8 (Aa (Az (A0 J J) ?_)))))))))))
   refine Bd (EK J J J) (fun b46 h46 => ?_)
   refine A2 ?_
   cases b46
   rotate_left
   · try simp only [tdy] at h46
     have hno : (AF s) = ([], (BT s j (s[j].toNat : Int)).2.2, (j : Int)) := (Dz (by omega)).trans (Fa hc (lexw_bad (by omega) hs ha h46) h46)
     refine A5 J (Aa (Az (A0 J J) (Az (A0 J J) (Az (A1 J J) (Az (A1 J J) (Az (A1 J J) (A2 (DG (T := 62) (e := C1) 100 2 J J J ?_))))))))
     refine AU (Bk (Bk ?_))
     exact ⟨rn [(0, 100)], ⟨⟨⟨_, J, VLe.rf⟩, ⟨_, J, A7 (by rw [hno])⟩, ⟨_, J, A7 (by rw [hno])⟩, O⟩, ⟨⟨_, J, by first | exact BLe.rf | exact BLe.arr (by rw [hno])⟩, O⟩, O, J⟩⟩
   try simp only [tdy] at h46
   have hok := lexw_ok (s := s) (j := j) (by omega) hs ha (Classical.not_not.1 (by simpa using h46))
   have hc2 := EU hc hok.1
   have hle := D5 (s := s) j (by omega)
   have hgt := Et (s := s) (i := j) (by omega) ha
   have hnx := hok.2
   have hge := ET (s := s) (Bp s j)
   have hle2 := Hm (s := s) (Bp s j) hle
   refine Ab J (Aa (Az (A0 J J) (Az (Au 4 J J J (by kernel_rfl) J J) (Az (Aq C1 62 [.tmp 50] ([(BT s j (s[j].toNat : Int)).1]) 103 J J J J J J J J FitL.rf J J J J J J (by kernel_rfl)) ?_))))
   refine Az (B9 104 J J J J J J J J (by kernel_rfl) (by simp only [List.length_append, List.length_cons, List.length_nil] at *; omega)) ?_
   refine Az (A1 J J) (Ad (Az (A0 J J) (Az (A1 J J) (A2 ?_))))
   refine Br (B2 ?_)
   refine AW_slot (t := 6) (y := .one (.c (.int .i64 ((_ : Nat) : Int)))) J (congrArg (fun z : Int => AVal.one (.c (.int .i64 z))) hnx) ?_
   refine AG (Az (A0 J J) (Az (A0 J J) (Az (AS J J J (Hl s _ hs0 hle) J J) (Az (A1 J J) (A2 ?_)))))
   refine ⟨⟨⟨B3 s (Bp s j), out ++ [(BT s j (s[j].toNat : Int)).1]⟩, ⟨⟨hle2, DX _⟩, (Ed hc2 (DX _).symm), by simp only [List.length_append, List.length_cons, List.length_nil]; omega⟩⟩, rn [(101, 104)], ?_, by dsimp only; omega⟩
   exact Ag (by repeat first | exact trivial | refine Ah J (by first | exact VLe.rf | exact A7 (by dsimp only; omega)) ?_) (by repeat first | exact trivial | refine Ai J (by first | exact BLe.rf | exact BLe.box AllC.rf | exact BLe.arr (by exact J)) ?_) J J
 try simp only [tdy] at h32
 refine AB J J (A0 J J) ?_
 refine Bh J J (AS J J J (isDig_c _) J J) (fun b36 h36 => ?_)
 refine Az (AD J J J) (A2 ?_)
 cases b36
 · try simp only [tdy] at h36
   have ha : B0 s[j].toNat = false := by simp [B0, *]
   refine Ab J (Aa (Az (A0 J J) (Az (A0 J J) ?_)))
   refine Az (AS J J J (symbolAt_c s j hs0 (by omega)) J J) ?_
   refine Az (A1 J J) (A2 (A8 (Aa (Az (A0 J J) ?_))))
   refine Bd (DH J J J) (fun b58 h58 => ?_)
   refine A2 ?_
   cases b58
   rotate_left
   · try simp only [tdy] at h58
     have h58b := ba_iff.1 h58
     have hno : (AF s) = ([], 2, (j : Int)) := (Dz (by omega)).trans (Fa hc (lex_nosign (by omega) hs ha (by rw [h58b]; rfl)) (by decide))
     refine A5 J (Aa (Az (A0 J J) (Az (A1 J J) (Az (A1 J J) (Az (A1 J J) (A2 (DG (T := 62) (e := C1) 100 2 J J J ?_)))))))
     refine AU (Bk (Bk ?_))
     exact ⟨rn [(0, 100)], ⟨⟨⟨_, J, VLe.rf⟩, ⟨_, J, A7 (by rw [hno])⟩, ⟨_, J, A7 (by rw [hno])⟩, O⟩, ⟨⟨_, J, by first | exact BLe.rf | exact BLe.arr (by rw [hno])⟩, O⟩, O, J⟩⟩
   try simp only [tdy] at h58
   have hy : ¬ (C2 s j).size = 0 := fun q => absurd (ba_iff.2 (size_zero q)) (by rw [h58]; decide)
   have hc2 := EU hc (lex_sign (by omega) hs ha hy)
   have hle := symAt_size (s := s) (i := j) (by omega)
   have hnx : (j : Int) + ((C2 s j).size : Int) = ((j + (C2 s j).size : Nat) : Int) := by omega
   have hge := ET (s := s) (j + (C2 s j).size)
   have hle2 := Hm (s := s) (j + (C2 s j).size) hle
   refine Ab J (Aa (Az (A0 J J) (Az (A0 J J) (Az (A0 J J) (Az (Al [.int .i64 0, .int .i64 0, .string ⟨#[]⟩, .int .i64 0] [(0, 1), (1, 1), (2, 1), (3, 1)] J (by kernel_rfl) J J J J J) (Az (Aq C1 62 [.tmp 63] ([(⟨4, 0, C2 s j, (j : Int)⟩ : Tokent)]) 105 J J J J J J J J FitL.rf J J J J J J (by kernel_rfl)) ?_))))))
   refine Az (B9 106 J J J J J J J J (by kernel_rfl) (by simp only [List.length_append, List.length_cons, List.length_nil] at *; omega)) ?_
   refine Az (A1 J J) (A2 (AG (Az (A0 J J) (Az (A0 J J) (Az (D4 J J (by kernel_rfl)) ?_)))))
   refine Az (Bl J J J (IntWalk.i64_in _ (by omega))) ?_
   refine Az (A1 J J) (A2 ?_)
   refine AW_slot (t := 6) (y := .one (.c (.int .i64 ((_ : Nat) : Int)))) J (congrArg (fun z : Int => AVal.one (.c (.int .i64 z))) hnx) ?_
   refine AG (Az (A0 J J) (Az (A0 J J) (Az (AS J J J (Hl s _ hs0 hle) J J) (Az (A1 J J) (A2 ?_)))))
   refine ⟨⟨⟨B3 s (j + (C2 s j).size), out ++ [⟨4, 0, C2 s j, (j : Int)⟩]⟩, ⟨⟨hle2, DX _⟩, (Ed hc2 (DX _).symm), by simp only [List.length_append, List.length_cons, List.length_nil]; omega⟩⟩, rn [(101, 106)], ?_, by dsimp only; omega⟩
   exact Ag (by repeat first | exact trivial | refine Ah J (by first | exact VLe.rf | exact A7 (by dsimp only; omega)) ?_) (by repeat first | exact trivial | refine Ai J (by first | exact BLe.rf | exact BLe.box AllC.rf | exact BLe.arr (by exact J)) ?_) J J
 try simp only [tdy] at h36
 have ha : B0 s[j].toNat = true := by simp [B0, h36]
 refine A5 J (Aa (Az (A0 J J) (Az (A0 J J) ?_)))
 refine Az (AS J J J (wordAt_c s j hs0 (by omega) ha) J J) ?_
 refine Az (A0 J J) (Az (B1 J J J) (Az (B1 J J J) (Az (B1 J J J) (Az (Aw (.agg #[.int .i64 0, .int .i64 0, .string ⟨#[]⟩, .int .i64 0]) 102 J (by kernel_rfl) J J J J) (Az (Ap 4 J J J J (by kernel_rfl) J J J) (Az (A1 J J) (Az (A1 J J) (A2 (A8 (Aa (Az (A0 J J) ?_)))))))))))
 refine Bd (EK J J J) (fun b46 h46 => ?_)
 refine A2 ?_
 cases b46
 rotate_left
 · try simp only [tdy] at h46
   have hno : (AF s) = ([], (BT s j (s[j].toNat : Int)).2.2, (j : Int)) := (Dz (by omega)).trans (Fa hc (lexw_bad (by omega) hs ha h46) h46)
   refine A5 J (Aa (Az (A0 J J) (Az (A0 J J) (Az (A1 J J) (Az (A1 J J) (Az (A1 J J) (A2 (DG (T := 62) (e := C1) 100 2 J J J ?_))))))))
   refine AU (Bk (Bk ?_))
   exact ⟨rn [(0, 100)], ⟨⟨⟨_, J, VLe.rf⟩, ⟨_, J, A7 (by rw [hno])⟩, ⟨_, J, A7 (by rw [hno])⟩, O⟩, ⟨⟨_, J, by first | exact BLe.rf | exact BLe.arr (by rw [hno])⟩, O⟩, O, J⟩⟩
 try simp only [tdy] at h46
 have hok := lexw_ok (s := s) (j := j) (by omega) hs ha (Classical.not_not.1 (by simpa using h46))
 have hc2 := EU hc hok.1
 have hle := D5 (s := s) j (by omega)
 have hgt := Et (s := s) (i := j) (by omega) ha
 have hnx := hok.2
 have hge := ET (s := s) (Bp s j)
 have hle2 := Hm (s := s) (Bp s j) hle
 refine Ab J (Aa (Az (A0 J J) (Az (Au 4 J J J (by kernel_rfl) J J) (Az (Aq C1 62 [.tmp 50] ([(BT s j (s[j].toNat : Int)).1]) 103 J J J J J J J J FitL.rf J J J J J J (by kernel_rfl)) ?_))))
 refine Az (B9 104 J J J J J J J J (by kernel_rfl) (by simp only [List.length_append, List.length_cons, List.length_nil] at *; omega)) ?_
 refine Az (A1 J J) (Ad (Az (A0 J J) (Az (A1 J J) (A2 ?_))))
 refine Br (B2 ?_)
 refine AW_slot (t := 6) (y := .one (.c (.int .i64 ((_ : Nat) : Int)))) J (congrArg (fun z : Int => AVal.one (.c (.int .i64 z))) hnx) ?_
 refine AG (Az (A0 J J) (Az (A0 J J) (Az (AS J J J (Hl s _ hs0 hle) J J) (Az (A1 J J) (A2 ?_)))))
 refine ⟨⟨⟨B3 s (Bp s j), out ++ [(BT s j (s[j].toNat : Int)).1]⟩, ⟨⟨hle2, DX _⟩, (Ed hc2 (DX _).symm), by simp only [List.length_append, List.length_cons, List.length_nil]; omega⟩⟩, rn [(101, 104)], ?_, by dsimp only; omega⟩
 exact Ag (by repeat first | exact trivial | refine Ah J (by first | exact VLe.rf | exact A7 (by dsimp only; omega)) ?_) (by repeat first | exact trivial | refine Ai J (by first | exact BLe.rf | exact BLe.box AllC.rf | exact BLe.arr (by exact J)) ?_) J J
theorem lexI_c (s : ByteArray) (hs0 : s.size ≤ 1048576) (k : Nat) : AC Tryz.prog 17 [.one (.c (.string s))] [] (.tup [.one (.own k), .one (.c (.int .i64 ((AF s).2.1))), .one (.c (.int .i64 ((AF s).2.2)))]) [(k, some (.arr 62 C1 (AF s).1 true))] := AC.at (lexI_c0 s hs0) k

set_option maxHeartbeats 4000000 in
theorem lexS_c (s : ByteArray) (hs0 : s.size ≤ 1048576) : AC Tryz.prog 80 [.one (.c (.string s))] [] (.tup [.one (.sl C1 (AF s).1), .one (.c (.int .i64 ((AF s).2.1))), .one (.c (.int .i64 ((AF s).2.2)))]) [] := by
 refine AC_body3 Tryz.func80 J J Tryz.ntmps80 J Tryz.results80 J J J J J J ?_
 refine Aa (Az (A1 J J) (Az (A1 J J) (Az (A1 J J) (A2 (A8 (Aa (Az (A0 J J) (Az (D4 J J (by kernel_rfl)) ?_))))))))
 refine Bd (CC J J J) (fun b15 h15 => ?_)
 refine A2 ?_
 cases b15
 rotate_left
 · try simp only [tdy] at h15
   have hno := lexAll_big h15
   refine A5 J (Aa (Az (A1 J J) (Az (A1 J J) (Az (A1 J J) (A2 (DG (T := 62) (e := C1) 100 2 J J J ?_))))))
   refine G6 100 2 J J ?_
   refine AU ?_
   exact ⟨rn [], ⟨⟨⟨_, J, I4 (by rw [hno])⟩, ⟨_, J, A7 (by rw [hno])⟩, ⟨_, J, A7 (by rw [hno])⟩, O⟩, O, O, J⟩⟩
 try simp only [tdy] at h15
 refine Ab J (Aa (Az (Hh (E := 62) (e := C1) 101 J J J (by kernel_rfl)) (Az (A1 J J) (A2 (A8 (Aa (Az (A1 J J) (A2 (AZ ?_)))))))))
 refine B8 (ι := {q : Nat × List Tokent // (q.1) ≤ s.size ∧ Fb (q.2) (lexR s (q.1)) = lexR s 0 ∧ (q.2).length ≤ (q.1)}) (fun p => [(5, .one (.own 101)), (6, .one (.c (.int .i64 (((p.1.1) : Int)))))]) (fun p => [(101, some (.arr 62 C1 (p.1.2) true))]) [0] [] (fun p => s.size - (p.1.1)) ⟨⟨0, []⟩, ⟨by omega, comb_start, by simp⟩⟩ (rn []) ?_ ?_
 exact Ag (by repeat first | exact trivial | refine Ah J (by first | exact VLe.rf | exact A7 (by dsimp only; omega)) ?_) (by repeat first | exact trivial | refine Ai J (by first | exact BLe.rf | exact BLe.box AllC.rf | exact BLe.arr (by exact J)) ?_) J J
 rintro ⟨⟨j, out⟩, hinv⟩
 dsimp only
 have hj : j ≤ s.size := hinv.1
 have hc := hinv.2.1
 have hl : out.length ≤ j := hinv.2.2
 refine A8 (Aa (Az (A0 J J) (Az (A0 J J) (Az (D4 J J (by kernel_rfl)) ?_))))
 refine Bd (BI J J J) (fun b20 h20 => ?_)
 refine A2 ?_
 cases b20
 · try simp only [tdy] at h20
   have hno := (Dz (s := s) (by omega)).trans (comb_end hc (by omega)).symm.symm
   refine Bc J ?_
   refine Br (B2 ?_)
   refine Aa (Az (A0 J J) (Az (A1 J J) (Az (A1 J J) (Az (A1 J J) (A2 (G6 101 2 J J ?_))))))
   refine AU ?_
   exact ⟨rn [], ⟨⟨⟨_, J, I4 (by rw [hno])⟩, ⟨_, J, A7 (by rw [hno])⟩, ⟨_, J, A7 (by rw [hno])⟩, O⟩, O, O, J⟩⟩
 try simp only [tdy] at h20
 refine A5 J (AP (AZ (Aa (Az (A0 J J) (Az (A0 J J) ?_)))))
 refine Az (CL J J J (by kernel_rfl) (k := j) J (by omega)) ?_
 refine Az (A1 J J) (A2 (A8 (Aa (Az (A0 J J) ?_))))
 refine Bd (AR J J J) (fun b25 h25 => ?_)
 refine Az (A0 J J) ?_
 cases b25
 rotate_left
 · try simp only [tdy] at h25
   have hb : CH s[j].toNat = true := by simp [CH, h25]
   refine A3 J J J J (A3 J J J J (Az (AJ J J J) (Az (A0 J J) (A3 J J J J (A3 J J J J (Az (AJ J J J) (Az (A0 J J) (A3 J J J J (A3 J J J J (Az (AJ J J J) (A2 (A5 J (Aa (Az (A0 J J) ?_))))))))))))))
   refine Az (Bl J J J (IntWalk.i64_in _ (by omega))) ?_
   refine Az (A1 J J) (A2 ?_)
   refine Br (B2 ?_)
   refine ⟨⟨⟨j + 1, out⟩, ⟨by omega, Ed hc (CJ (by omega) hb), by dsimp only; omega⟩⟩, rn [], ?_, by dsimp only; omega⟩
   exact Ag (by repeat first | exact trivial | refine Ah J (by first | exact VLe.rf | exact A7 (by dsimp only; omega)) ?_) (by repeat first | exact trivial | refine Ai J (by first | exact BLe.rf | exact BLe.box AllC.rf | exact BLe.arr (by exact J)) ?_) J J
 try simp only [tdy] at h25
 refine AB J J (A0 J J) ?_
 refine Bh J J (AR J J J) (fun b28 h28 => ?_)
 refine Az (AD J J J) (Az (A0 J J) ?_)
 cases b28
 rotate_left
 · try simp only [tdy] at h28
   have hb : CH s[j].toNat = true := by simp [CH, h28]
   refine A3 J J J J (A3 J J J J (Az (AJ J J J) (Az (A0 J J) (A3 J J J J (A3 J J J J (Az (AJ J J J) (A2 (A5 J (Aa (Az (A0 J J) ?_))))))))))
   refine Az (Bl J J J (IntWalk.i64_in _ (by omega))) ?_
   refine Az (A1 J J) (A2 ?_)
   refine Br (B2 ?_)
   refine ⟨⟨⟨j + 1, out⟩, ⟨by omega, Ed hc (CJ (by omega) hb), by dsimp only; omega⟩⟩, rn [], ?_, by dsimp only; omega⟩
   exact Ag (by repeat first | exact trivial | refine Ah J (by first | exact VLe.rf | exact A7 (by dsimp only; omega)) ?_) (by repeat first | exact trivial | refine Ai J (by first | exact BLe.rf | exact BLe.box AllC.rf | exact BLe.arr (by exact J)) ?_) J J
 try simp only [tdy] at h28
 refine AB J J (A0 J J) ?_
 refine Bh J J (AR J J J) (fun b32 h32 => ?_)
 refine Az (AD J J J) (Az (A0 J J) ?_)
 cases b32
 rotate_left
 · try simp only [tdy] at h32
   have hb : CH s[j].toNat = true := by simp [CH, h32]
   refine A3 J J J J (A3 J J J J (Az (AJ J J J) (A2 (A5 J (Aa (Az (A0 J J) ?_))))))
   refine Az (Bl J J J (IntWalk.i64_in _ (by omega))) ?_
   refine Az (A1 J J) (A2 ?_)
   refine Br (B2 ?_)
   refine ⟨⟨⟨j + 1, out⟩, ⟨by omega, Ed hc (CJ (by omega) hb), by dsimp only; omega⟩⟩, rn [], ?_, by dsimp only; omega⟩
   exact Ag (by repeat first | exact trivial | refine Ah J (by first | exact VLe.rf | exact A7 (by dsimp only; omega)) ?_) (by repeat first | exact trivial | refine Ai J (by first | exact BLe.rf | exact BLe.box AllC.rf | exact BLe.arr (by exact J)) ?_) J J
 try simp only [tdy] at h32
 refine AB J J (A0 J J) ?_
 refine Bh J J (AR J J J) (fun b36 h36 => ?_)
 refine Az (AD J J J) (A2 ?_)
 cases b36
 rotate_left
 · try simp only [tdy] at h36
   have hb : CH s[j].toNat = true := by simp [CH, h36]
   refine A5 J (Aa (Az (A0 J J) ?_))
   refine Az (Bl J J J (IntWalk.i64_in _ (by omega))) ?_
   refine Az (A1 J J) (A2 ?_)
   refine Br (B2 ?_)
   refine ⟨⟨⟨j + 1, out⟩, ⟨by omega, Ed hc (CJ (by omega) hb), by dsimp only; omega⟩⟩, rn [], ?_, by dsimp only; omega⟩
   exact Ag (by repeat first | exact trivial | refine Ah J (by first | exact VLe.rf | exact A7 (by dsimp only; omega)) ?_) (by repeat first | exact trivial | refine Ai J (by first | exact BLe.rf | exact BLe.box AllC.rf | exact BLe.arr (by exact J)) ?_) J J
 try simp only [tdy] at h36
 have hb : CH s[j].toNat = false := by simp [CH, *]
 refine Ab J (A8 (Aa (Az (A0 J J) ?_)))
 refine Bd (AR J J J) (fun b41 h41 => ?_)
 refine A2 ?_
 cases b41
 rotate_left
 · try simp only [tdy] at h41
   have hn1 := note_lt (s := s) (i := j) (by omega) h41
   have hn2 := Ge (s := s) (i := j) (by omega) hb h41
   have hn3 := lineEnd_le (s := s) j (by omega)
   refine Ac J (AZ ?_)
   refine B8 (ι := {q : Nat // (j ≤ q ∧ q ≤ s.size) ∧ Ce s q = Ce s j}) (fun p => [(6, .one (.c (.int .i64 (((p.1) : Int)))))]) (fun p => []) [0, 5, 7] [101] (fun p => s.size - (p.1)) ⟨j, ⟨⟨Nat.le_refl _, by omega⟩, J⟩⟩ (rn []) ?_ ?_
   exact Ag (by repeat first | exact trivial | refine Ah J (by first | exact VLe.rf | exact A7 (by dsimp only; omega)) ?_) (by repeat first | exact trivial | refine Ai J (by first | exact BLe.rf | exact BLe.box AllC.rf | exact BLe.arr (by exact J)) ?_) J J
   rintro ⟨e, hinv⟩
   dsimp only
   have he0 : j ≤ e := hinv.1.1
   have he1 : e ≤ s.size := hinv.1.2
   have he := hinv.2
   refine A8 (Aa (Az (A0 J J) (Az (A0 J J) (Az (D4 J J (by kernel_rfl)) ?_))))
   refine Bd (BI J J J) (fun b45 h45 => ?_)
   refine Az (A0 J J) ?_
   cases b45
   · try simp only [tdy] at h45
     have hee : e = Ce s j := by rw [← he, lineEnd_end (s := s) (i := e) (by omega)]
     have hn4 : B3 s j = B3 s e := by rw [hn2, hee]
     refine A3 J J J J (A3 J J J J (A3 J J J J (A3 J J J J (Az (AD J J J) (A2 (Bc J ?_))))))
     refine Br (B2 ?_)
     refine Br (B2 ?_)
     refine ⟨⟨⟨e, out⟩, ⟨by omega, Ed hc hn4, by dsimp only; omega⟩⟩, rn [], ?_, by dsimp only; omega⟩
     exact Ag (by repeat first | exact trivial | refine Ah J (by first | exact VLe.rf | exact A7 (by dsimp only; omega)) ?_) (by repeat first | exact trivial | refine Ai J (by first | exact BLe.rf | exact BLe.box AllC.rf | exact BLe.arr (by exact J)) ?_) J J
   try simp only [tdy] at h45
   refine AB J J (A0 J J) (AB J J (A0 J J) ?_)
   refine AB J J (CL J J J (by kernel_rfl) (k := e) J (by omega)) ?_
   refine Bh J J (EK J J J) (fun b50 h50 => ?_)
   refine Az (AJ J J J) (A2 ?_)
   cases b50
   · try simp only [tdy] at h50
     have hee : e = Ce s j := by rw [← he, lineEnd_at (s := s) (i := e) (by omega) (by omega)]
     have hn4 : B3 s j = B3 s e := by rw [hn2, hee]
     refine Bc J ?_
     refine Br (B2 ?_)
     refine Br (B2 ?_)
     refine ⟨⟨⟨e, out⟩, ⟨by omega, Ed hc hn4, by dsimp only; omega⟩⟩, rn [], ?_, by dsimp only; omega⟩
     exact Ag (by repeat first | exact trivial | refine Ah J (by first | exact VLe.rf | exact A7 (by dsimp only; omega)) ?_) (by repeat first | exact trivial | refine Ai J (by first | exact BLe.rf | exact BLe.box AllC.rf | exact BLe.arr (by exact J)) ?_) J J
   try simp only [tdy] at h50
   have he2 := (Ex (s := s) (i := e) (by omega) h50).symm.trans he
   refine A5 J (AP (AZ (AG (Az (A0 J J) ?_))))
   refine Az (Bl J J J (IntWalk.i64_in _ (by omega))) ?_
   refine Az (A1 J J) (A2 ?_)
   refine ⟨⟨e + 1, ⟨⟨by omega, by omega⟩, he2⟩⟩, rn [], ?_, by dsimp only; omega⟩
   exact Ag (by repeat first | exact trivial | refine Ah J (by first | exact VLe.rf | exact A7 (by dsimp only; omega)) ?_) (by repeat first | exact trivial | refine Ai J (by first | exact BLe.rf | exact BLe.box AllC.rf | exact BLe.arr (by exact J)) ?_) J J
 try simp only [tdy] at h41
 have hs := E0 (s := s) (i := j) (by omega) hb h41
 refine Ab J (A8 (Aa (Az (A0 J J) (Az (AS J J J (cls_c _) J J) ?_))))
 refine Bd (AR J J J) (fun b56 h56 => ?_)
 refine A2 ?_
 cases b56
 rotate_left
 · try simp only [tdy] at h56
   have ha := cls_pos.1.1 h56
   refine A5 J (Aa (Az (A0 J J) (Az (A0 J J) ?_)))
   refine Az (AS J J J (sign_c s j hs0 (by omega)) J J) ?_
   refine Az (A1 J J) (A2 (A8 (Aa (Az (A0 J J) ?_))))
   refine Bd (DH J J J) (fun b61 h61 => ?_)
   refine A2 ?_
   cases b61
   rotate_left
   · try simp only [tdy] at h61
     have h61b := ba_iff.1 h61
     have hno : (AF s) = ([], 2, (j : Int)) := (Dz (by omega)).trans (Fa hc (lex_nosign (by omega) hs ha (by rw [h61b]; rfl)) (by decide))
     refine A5 J (Aa (Az (A0 J J) (Az (A1 J J) (Az (A1 J J) (Az (A1 J J) (A2 (DG (T := 62) (e := C1) 100 2 J J J ?_)))))))
     refine G6 100 2 J J ?_
     refine AU (Bk (Bk ?_))
     exact ⟨rn [], ⟨⟨⟨_, J, I4 (by rw [hno])⟩, ⟨_, J, A7 (by rw [hno])⟩, ⟨_, J, A7 (by rw [hno])⟩, O⟩, O, O, J⟩⟩
   try simp only [tdy] at h61
   have hy : ¬ (C2 s j).size = 0 := fun q => absurd (ba_iff.2 (size_zero q)) (by rw [h61]; decide)
   have hc2 := EU hc (lex_sign (by omega) hs ha hy)
   have hle := symAt_size (s := s) (i := j) (by omega)
   refine Ab J (Aa (Az (A0 J J) (Az (A0 J J) (Az (A0 J J) (Az (Al [.int .i64 0, .int .i64 0, .string ⟨#[]⟩, .int .i64 0] [(0, 1), (1, 1), (2, 1), (3, 1)] J (by kernel_rfl) J J J J J) (Az (Aq C1 62 [.tmp 66] ([(⟨4, 0, C2 s j, (j : Int)⟩ : Tokent)]) 102 J J J J J J J J FitL.rf J J J J J J (by kernel_rfl)) ?_))))))
   refine Az (B9 103 J J J J J J J J (by kernel_rfl) (by simp only [List.length_append, List.length_cons, List.length_nil] at *; omega)) ?_
   refine Az (A1 J J) (Ad (Az (A0 J J) (Az (A0 J J) (Az (D4 J J (by kernel_rfl)) ?_))))
   refine Az (Bl J J J (IntWalk.i64_in _ (by omega))) ?_
   refine Az (A1 J J) (A2 ?_)
   refine Br (B2 ?_)
   refine ⟨⟨⟨j + (C2 s j).size, out ++ [(⟨4, 0, C2 s j, (j : Int)⟩ : Tokent)]⟩, ⟨by omega, hc2, by simp only [List.length_append, List.length_cons, List.length_nil]; omega⟩⟩, rn [(101, 103)], ?_, by dsimp only; omega⟩
   exact Ag (by repeat first | exact trivial | refine Ah J (by first | exact VLe.rf | exact A7 (by dsimp only; omega)) ?_) (by repeat first | exact trivial | refine Ai J (by first | exact BLe.rf | exact BLe.box AllC.rf | exact BLe.arr (by exact J)) ?_) J J
 try simp only [tdy] at h56
 have ha : B0 s[j].toNat = true := by cases q : B0 s[j].toNat with | true => rfl | false => exact absurd (cls_pos.1.2 q) h56
 have hgt := Et (s := s) (i := j) (by omega) ha
 have hwl := D5 (s := s) j (by omega)
 refine Ab J (Aa (Az (A0 J J) (Az (A1 J J) (A2 (A8 (AZ ?_))))))
 refine B8 (ι := {q : Nat // (j ≤ q ∧ q ≤ s.size) ∧ Bp s q = Bp s j}) (fun p => [(9, .one (.c (.int .i64 (((p.1) : Int)))))]) (fun p => []) [0, 5, 6, 7] [101] (fun p => s.size - (p.1)) ⟨j, ⟨⟨Nat.le_refl _, by omega⟩, J⟩⟩ (rn []) ?_ ?_
 exact Ag (by repeat first | exact trivial | refine Ah J (by first | exact VLe.rf | exact A7 (by dsimp only; omega)) ?_) (by repeat first | exact trivial | refine Ai J (by first | exact BLe.rf | exact BLe.box AllC.rf | exact BLe.arr (by exact J)) ?_) J J
 rintro ⟨e, hinv⟩
 dsimp only
 have he0 : j ≤ e := hinv.1.1
 have he1 : e ≤ s.size := hinv.1.2
 have hw : Bp s e = Bp s j := hinv.2
 refine A8 (Aa (Az (A0 J J) (Az (A0 J J) (Az (D4 J J (by kernel_rfl)) ?_))))
 refine Bd (BI J J J) (fun b77 h77 => ?_)
 refine Az (A0 J J) ?_
 cases b77
 · try simp only [tdy] at h77
   have hee : e = Bp s j := by rw [← hw, GF (s := s) (i := e) (by omega)]
   refine A3 J J J J (A3 J J J J (A3 J J J J (A3 J J J J (A3 J J J J (Az (AD J J J) (A2 (Bc J ?_)))))))
   refine Br (B2 ?_)
   refine Aa (Az (A0 J J) (Az (A0 J J) (Az (A0 J J) ?_)))
   refine Az (D8 J J (by kernel_rfl) (.yes (l := j) J (by omega)) (.yes (l := e) J (by omega)) (by omega) (by first | exact Nat.le_refl _ | omega) J) ?_
   refine Az (A1 J J) (A2 (A8 (Aa (Az (A0 J J) (Az (AS J J J (cls_c _) J J) ?_)))))
   refine Bd (AR J J J) (fun b93 h93 => ?_)
   refine A2 ?_
   cases b93
   rotate_left
   · try simp only [tdy] at h93
     have hd := cls_dig.1 h93
     refine A5 J (Aa (Az (A0 J J) (Az (AS J J J (textNumS_c _) J J) (Az (A0 J J) (Az (B1 J J J) ?_)))))
     refine Bd (B1 J J J) (fun b98 h98 => ?_)
     refine Az (A1 J J) (Az (A1 J J) (A2 (A8 (Aa (Az (A0 J J) (Az (Cn J J) (A2 ?_)))))))
     cases b98
     · try simp only [tdy] at h98
       have hno : (AF s) = ([], 3, (j : Int)) := (Dz (by omega)).trans (Fa hc (lexS_bad (by omega) hs ha (H5 hee hd h98) (by decide)) (by decide))
       refine A5 J (Aa (Az (A0 J J) (Az (A1 J J) (Az (A1 J J) (Az (A1 J J) (A2 (DG (T := 62) (e := C1) 100 2 J J J ?_)))))))
       refine G6 100 2 J J ?_
       refine AU (Bk (Bk ?_))
       exact ⟨rn [], ⟨⟨⟨_, J, I4 (by rw [hno])⟩, ⟨_, J, A7 (by rw [hno])⟩, ⟨_, J, A7 (by rw [hno])⟩, O⟩, O, O, J⟩⟩
     try simp only [tdy] at h98
     have hc2 := EU hc (Hs (by omega) hs ha hee (res_num hee hd h98))
     refine Ab J (AG (Az (A0 J J) (Az (A0 J J) (Az (A0 J J) (Az (Al [.int .i64 0, .int .i64 0, .string ⟨#[]⟩, .int .i64 0] [(0, 1), (1, 1), (2, 1), (3, 1)] J (by kernel_rfl) J J J J J) (Az (Aq C1 62 [.tmp 105] ([(⟨3, D9 (s.extract j e), ⟨#[]⟩, (j : Int)⟩ : Tokent)]) 104 J J J J J J J J FitL.rf J J J J J J (by kernel_rfl)) ?_))))))
     refine Az (B9 105 J J J J J J J J (by kernel_rfl) (by simp only [List.length_append, List.length_cons, List.length_nil] at *; omega)) ?_
     refine Az (A1 J J) (A2 (AG (Az (A0 J J) (Az (A1 J J) (A2 ?_)))))
     refine ⟨⟨⟨e, out ++ [(⟨3, D9 (s.extract j e), ⟨#[]⟩, (j : Int)⟩ : Tokent)]⟩, ⟨by omega, hc2, by simp only [List.length_append, List.length_cons, List.length_nil]; omega⟩⟩, rn [(101, 105)], ?_, by dsimp only; omega⟩
     exact Ag (by repeat first | exact trivial | refine Ah J (by first | exact VLe.rf | exact A7 (by dsimp only; omega)) ?_) (by repeat first | exact trivial | refine Ai J (by first | exact BLe.rf | exact BLe.box AllC.rf | exact BLe.arr (by exact J)) ?_) J J
   try simp only [tdy] at h93
   have hd : Cf s[j].toNat = false := by cases q : Cf s[j].toNat with | false => rfl | true => exact absurd (cls_dig.2 q) h93
   refine Bc J (Aa (Az (A0 J J) ?_))
   refine Bd (AS J J J (wordOkS_c _) J J) (fun b109 h109 => ?_)
   refine A2 ?_
   cases b109
   rotate_left
   · try simp only [tdy] at h109
     have hc2 := EU hc (Hs (by omega) hs ha hee (HZ hee hd h109))
     refine A5 J (AG (Az (A0 J J) (Az (A0 J J) (Az (A0 J J) (Az (Al [.int .i64 0, .int .i64 0, .string ⟨#[]⟩, .int .i64 0] [(0, 1), (1, 1), (2, 1), (3, 1)] J (by kernel_rfl) J J J J J) (Az (Aq C1 62 [.tmp 113] ([(⟨1, 0, (s.extract j e), (j : Int)⟩ : Tokent)]) 106 J J J J J J J J FitL.rf J J J J J J (by kernel_rfl)) ?_))))))
     refine Az (B9 107 J J J J J J J J (by kernel_rfl) (by simp only [List.length_append, List.length_cons, List.length_nil] at *; omega)) ?_
     refine Az (A1 J J) (A2 (AG (Az (A0 J J) (Az (A1 J J) (A2 ?_)))))
     refine ⟨⟨⟨e, out ++ [(⟨1, 0, (s.extract j e), (j : Int)⟩ : Tokent)]⟩, ⟨by omega, hc2, by simp only [List.length_append, List.length_cons, List.length_nil]; omega⟩⟩, rn [(101, 107)], ?_, by dsimp only; omega⟩
     exact Ag (by repeat first | exact trivial | refine Ah J (by first | exact VLe.rf | exact A7 (by dsimp only; omega)) ?_) (by repeat first | exact trivial | refine Ai J (by first | exact BLe.rf | exact BLe.box AllC.rf | exact BLe.arr (by exact J)) ?_) J J
   try simp only [tdy] at h109
   refine Bc J (Aa (Az (A0 J J) ?_))
   refine Bd (AS J J J (varOkS_c _) J J) (fun b117 h117 => ?_)
   refine A2 ?_
   cases b117
   · try simp only [tdy] at h117
     have hno : (AF s) = ([], 4, (j : Int)) := (Dz (by omega)).trans (Fa hc (lexS_bad (by omega) hs ha (GR hee hd h109 h117) (by decide)) (by decide))
     refine Bc J (Aa (Az (A0 J J) (Az (A1 J J) (Az (A1 J J) (Az (A1 J J) (A2 (DG (T := 62) (e := C1) 100 2 J J J ?_)))))))
     refine G6 100 2 J J ?_
     refine AU (Bk (Bk ?_))
     exact ⟨rn [], ⟨⟨⟨_, J, I4 (by rw [hno])⟩, ⟨_, J, A7 (by rw [hno])⟩, ⟨_, J, A7 (by rw [hno])⟩, O⟩, O, O, J⟩⟩
   try simp only [tdy] at h117
   have hc2 := EU hc (Hs (by omega) hs ha hee (res_var hee hd h109 h117))
   refine A5 J (AG (Az (A0 J J) (Az (A0 J J) (Az (A0 J J) (Az (Al [.int .i64 0, .int .i64 0, .string ⟨#[]⟩, .int .i64 0] [(0, 1), (1, 1), (2, 1), (3, 1)] J (by kernel_rfl) J J J J J) (Az (Aq C1 62 [.tmp 121] ([(⟨2, 0, (s.extract j e), (j : Int)⟩ : Tokent)]) 108 J J J J J J J J FitL.rf J J J J J J (by kernel_rfl)) ?_))))))
   refine Az (B9 109 J J J J J J J J (by kernel_rfl) (by simp only [List.length_append, List.length_cons, List.length_nil] at *; omega)) ?_
   refine Az (A1 J J) (A2 (AG (Az (A0 J J) (Az (A1 J J) (A2 ?_)))))
   refine ⟨⟨⟨e, out ++ [(⟨2, 0, (s.extract j e), (j : Int)⟩ : Tokent)]⟩, ⟨by omega, hc2, by simp only [List.length_append, List.length_cons, List.length_nil]; omega⟩⟩, rn [(101, 109)], ?_, by dsimp only; omega⟩
   exact Ag (by repeat first | exact trivial | refine Ah J (by first | exact VLe.rf | exact A7 (by dsimp only; omega)) ?_) (by repeat first | exact trivial | refine Ai J (by first | exact BLe.rf | exact BLe.box AllC.rf | exact BLe.arr (by exact J)) ?_) J J
 try simp only [tdy] at h77
 refine AB J J (A0 J J) (AB J J (A0 J J) ?_)
 refine AB J J (CL J J J (by kernel_rfl) (k := e) J (by omega)) ?_
 refine AB J J (AS J J J (cls_c _) J J) ?_
 refine Bh J J (CC J J J) (fun b83 h83 => ?_)
 refine Az (AJ J J J) (A2 ?_)
 cases b83
 rotate_left
 · try simp only [tdy] at h83
   have hw2 := (EO (s := s) (i := e) (by omega) (cls_pos.2.1 h83)).symm.trans hw
   refine A5 J (AP (AZ (AG (Az (A0 J J) ?_))))
   refine Az (Bl J J J (IntWalk.i64_in _ (by omega))) ?_
   refine Az (A1 J J) (A2 ?_)
   refine ⟨⟨e + 1, ⟨⟨by omega, by omega⟩, hw2⟩⟩, rn [], ?_, by dsimp only; omega⟩
   exact Ag (by repeat first | exact trivial | refine Ah J (by first | exact VLe.rf | exact A7 (by dsimp only; omega)) ?_) (by repeat first | exact trivial | refine Ai J (by first | exact BLe.rf | exact BLe.box AllC.rf | exact BLe.arr (by exact J)) ?_) J J
 try simp only [tdy] at h83
 have hee : e = Bp s j := by rw [← hw, GE (s := s) (i := e) (by omega) (by cases q : B0 s[e].toNat with | false => rfl | true => exact absurd (cls_pos.2.2 q) (by omega))]
 refine Bc J ?_
 refine Br (B2 ?_)
 refine Aa (Az (A0 J J) (Az (A0 J J) (Az (A0 J J) ?_)))
 refine Az (D8 J J (by kernel_rfl) (.yes (l := j) J (by omega)) (.yes (l := e) J (by omega)) (by omega) (by first | exact Nat.le_refl _ | omega) J) ?_
 refine Az (A1 J J) (A2 (A8 (Aa (Az (A0 J J) (Az (AS J J J (cls_c _) J J) ?_)))))
 refine Bd (AR J J J) (fun b93 h93 => ?_)
 refine A2 ?_
 cases b93
 rotate_left
 · try simp only [tdy] at h93
   have hd := cls_dig.1 h93
   refine A5 J (Aa (Az (A0 J J) (Az (AS J J J (textNumS_c _) J J) (Az (A0 J J) (Az (B1 J J J) ?_)))))
   refine Bd (B1 J J J) (fun b98 h98 => ?_)
   refine Az (A1 J J) (Az (A1 J J) (A2 (A8 (Aa (Az (A0 J J) (Az (Cn J J) (A2 ?_)))))))
   cases b98
   · try simp only [tdy] at h98
     have hno : (AF s) = ([], 3, (j : Int)) := (Dz (by omega)).trans (Fa hc (lexS_bad (by omega) hs ha (H5 hee hd h98) (by decide)) (by decide))
     refine A5 J (Aa (Az (A0 J J) (Az (A1 J J) (Az (A1 J J) (Az (A1 J J) (A2 (DG (T := 62) (e := C1) 100 2 J J J ?_)))))))
     refine G6 100 2 J J ?_
     refine AU (Bk (Bk ?_))
     exact ⟨rn [], ⟨⟨⟨_, J, I4 (by rw [hno])⟩, ⟨_, J, A7 (by rw [hno])⟩, ⟨_, J, A7 (by rw [hno])⟩, O⟩, O, O, J⟩⟩
   try simp only [tdy] at h98
   have hc2 := EU hc (Hs (by omega) hs ha hee (res_num hee hd h98))
   refine Ab J (AG (Az (A0 J J) (Az (A0 J J) (Az (A0 J J) (Az (Al [.int .i64 0, .int .i64 0, .string ⟨#[]⟩, .int .i64 0] [(0, 1), (1, 1), (2, 1), (3, 1)] J (by kernel_rfl) J J J J J) (Az (Aq C1 62 [.tmp 105] ([(⟨3, D9 (s.extract j e), ⟨#[]⟩, (j : Int)⟩ : Tokent)]) 104 J J J J J J J J FitL.rf J J J J J J (by kernel_rfl)) ?_))))))
   refine Az (B9 105 J J J J J J J J (by kernel_rfl) (by simp only [List.length_append, List.length_cons, List.length_nil] at *; omega)) ?_
   refine Az (A1 J J) (A2 (AG (Az (A0 J J) (Az (A1 J J) (A2 ?_)))))
   refine ⟨⟨⟨e, out ++ [(⟨3, D9 (s.extract j e), ⟨#[]⟩, (j : Int)⟩ : Tokent)]⟩, ⟨by omega, hc2, by simp only [List.length_append, List.length_cons, List.length_nil]; omega⟩⟩, rn [(101, 105)], ?_, by dsimp only; omega⟩
   exact Ag (by repeat first | exact trivial | refine Ah J (by first | exact VLe.rf | exact A7 (by dsimp only; omega)) ?_) (by repeat first | exact trivial | refine Ai J (by first | exact BLe.rf | exact BLe.box AllC.rf | exact BLe.arr (by exact J)) ?_) J J
 try simp only [tdy] at h93
 have hd : Cf s[j].toNat = false := by cases q : Cf s[j].toNat with | false => rfl | true => exact absurd (cls_dig.2 q) h93
 refine Bc J (Aa (Az (A0 J J) ?_))
 refine Bd (AS J J J (wordOkS_c _) J J) (fun b109 h109 => ?_)
 refine A2 ?_
 cases b109
 rotate_left
 · try simp only [tdy] at h109
   have hc2 := EU hc (Hs (by omega) hs ha hee (HZ hee hd h109))
   refine A5 J (AG (Az (A0 J J) (Az (A0 J J) (Az (A0 J J) (Az (Al [.int .i64 0, .int .i64 0, .string ⟨#[]⟩, .int .i64 0] [(0, 1), (1, 1), (2, 1), (3, 1)] J (by kernel_rfl) J J J J J) (Az (Aq C1 62 [.tmp 113] ([(⟨1, 0, (s.extract j e), (j : Int)⟩ : Tokent)]) 106 J J J J J J J J FitL.rf J J J J J J (by kernel_rfl)) ?_))))))
   refine Az (B9 107 J J J J J J J J (by kernel_rfl) (by simp only [List.length_append, List.length_cons, List.length_nil] at *; omega)) ?_
   refine Az (A1 J J) (A2 (AG (Az (A0 J J) (Az (A1 J J) (A2 ?_)))))
   refine ⟨⟨⟨e, out ++ [(⟨1, 0, (s.extract j e), (j : Int)⟩ : Tokent)]⟩, ⟨by omega, hc2, by simp only [List.length_append, List.length_cons, List.length_nil]; omega⟩⟩, rn [(101, 107)], ?_, by dsimp only; omega⟩
   exact Ag (by repeat first | exact trivial | refine Ah J (by first | exact VLe.rf | exact A7 (by dsimp only; omega)) ?_) (by repeat first | exact trivial | refine Ai J (by first | exact BLe.rf | exact BLe.box AllC.rf | exact BLe.arr (by exact J)) ?_) J J
 try simp only [tdy] at h109
 refine Bc J (Aa (Az (A0 J J) ?_))
 refine Bd (AS J J J (varOkS_c _) J J) (fun b117 h117 => ?_)
 refine A2 ?_
 cases b117
 · try simp only [tdy] at h117
   have hno : (AF s) = ([], 4, (j : Int)) := (Dz (by omega)).trans (Fa hc (lexS_bad (by omega) hs ha (GR hee hd h109 h117) (by decide)) (by decide))
   refine Bc J (Aa (Az (A0 J J) (Az (A1 J J) (Az (A1 J J) (Az (A1 J J) (A2 (DG (T := 62) (e := C1) 100 2 J J J ?_)))))))
   refine G6 100 2 J J ?_
   refine AU (Bk (Bk ?_))
   exact ⟨rn [], ⟨⟨⟨_, J, I4 (by rw [hno])⟩, ⟨_, J, A7 (by rw [hno])⟩, ⟨_, J, A7 (by rw [hno])⟩, O⟩, O, O, J⟩⟩
 try simp only [tdy] at h117
 have hc2 := EU hc (Hs (by omega) hs ha hee (res_var hee hd h109 h117))
 refine A5 J (AG (Az (A0 J J) (Az (A0 J J) (Az (A0 J J) (Az (Al [.int .i64 0, .int .i64 0, .string ⟨#[]⟩, .int .i64 0] [(0, 1), (1, 1), (2, 1), (3, 1)] J (by kernel_rfl) J J J J J) (Az (Aq C1 62 [.tmp 121] ([(⟨2, 0, (s.extract j e), (j : Int)⟩ : Tokent)]) 108 J J J J J J J J FitL.rf J J J J J J (by kernel_rfl)) ?_))))))
 refine Az (B9 109 J J J J J J J J (by kernel_rfl) (by simp only [List.length_append, List.length_cons, List.length_nil] at *; omega)) ?_
 refine Az (A1 J J) (A2 (AG (Az (A0 J J) (Az (A1 J J) (A2 ?_)))))
 refine ⟨⟨⟨e, out ++ [(⟨2, 0, (s.extract j e), (j : Int)⟩ : Tokent)]⟩, ⟨by omega, hc2, by simp only [List.length_append, List.length_cons, List.length_nil]; omega⟩⟩, rn [(101, 109)], ?_, by dsimp only; omega⟩
 exact Ag (by repeat first | exact trivial | refine Ah J (by first | exact VLe.rf | exact A7 (by dsimp only; omega)) ?_) (by repeat first | exact trivial | refine Ai J (by first | exact BLe.rf | exact BLe.box AllC.rf | exact BLe.arr (by exact J)) ?_) J J
end Go.Proofs.YtkemjhlbokldhaaGreat

namespace Go.Proofs.YtkemjhlbokldhaaGreat
open Go.RowKit
set_option linter.unusedVariables false
set_option linter.unusedSimpArgs false
set_option maxRecDepth 100000

set_option maxHeartbeats 4000000 in
theorem parseT_c0 (s : ByteArray) (hs0 : s.size ≤ 1048576) : AC Tryz.prog 56 [.one (.c (.string (s)))] [] (.tup [.agg [.own 0, .own 1], .one (.c (.int .i64 ((Dv s).2.1))), .one (.c (.int .i64 ((Dv s).2.2)))]) [(0, some (.arr 51 CN (Dv s).1.decls true)), (1, some (.arr 42 ruleQ (Dv s).1.rules true))] := by
 have hm : (AF s).1.length ≤ 1048576 := by have := lexAll_len' s; omega
 have hok := lexAll_ok s
 refine AC_bodyCTT (n := 2) (k := 9) (T := [(2, .one (.ptr 9 0)), (3, .one (.c (.int .i64 ((Dv s).2.1)))), (4, .one (.c (.int .i64 ((Dv s).2.2))))]) (Lf := ((9, some (.box [.own 0, .own 1])) :: [(0, some (.arr 51 CN (Dv s).1.decls true)), (1, some (.arr 42 ruleQ (Dv s).1.rules true))])) Tryz.func56 J J Tryz.ntmps56 J Tryz.results56 J J J J J J (by kernel_rfl) J J ⟨O, (by repeat (first | exact trivial | refine ⟨⟨_, J, BLe.rf⟩, ?_⟩)), (Af J), J⟩ ?_
 refine Aa (Az (Aw (.agg #[.slice none 0 0, .slice none 0 0]) 100 J (by kernel_rfl) J J J J) (Az (A1 J J) (Az (A1 J J) (Ad (Az (A0 J J) (Az (AS J J J (lexS_c s hs0) J J) (Az (A0 J J) (Az (B1 J J J) (Az (B1 J J J) (Az (B1 J J J) (Az (A1 J J) (Az (A1 J J) (Az (A1 J J) (A2 (A8 (Aa (Az (A0 J J) ?_)))))))))))))))))
 refine Bd (EK J J J) (fun b20 h20 => ?_)
 refine A2 ?_
 cases b20
 rotate_left
 · try simp only [tdy] at h20
   have hno := parseS_lex h20
   refine A5 J (Aa (Az (Al [.slice none 0 0, .slice none 0 0] [(0, 1), (1, 1)] J (by kernel_rfl) J J J J J) (Az (A0 J J) (Az (A0 J J) (Az (Ap 2 J J J J (by kernel_rfl) J J J) (Az (A1 J J) (Az (A1 J J) (A2 (Be (T := 51) (e := CN) 101 100 0 J J J J J ?_)))))))))
   refine Be (T := 42) (e := ruleQ) 102 100 1 J J J J J ?_
   refine AU ?_
   exact ⟨rn [(9, 100), (0, 101), (1, 102)], ⟨⟨⟨_, J, VLe.rf⟩, ⟨_, J, A7 (by rw [hno])⟩, ⟨_, J, A7 (by rw [hno])⟩, O⟩, ⟨⟨_, J, by first | exact BLe.rf | exact AE (by rw [hno]; first | done | rfl)⟩, ⟨_, J, by first | exact BLe.rf | (refine BLe.arr ?_; rw [hno]; first | done | rfl)⟩, ⟨_, J, by first | exact BLe.rf | (refine BLe.arr ?_; rw [hno]; first | done | rfl)⟩, O⟩, O, J⟩⟩
 try simp only [tdy] at h20
 have hl0 : (AF s).2.1 = 0 := by omega
 refine Ab J (Aa (Az (A0 J J) (Az (A0 J J) (Az (D4 J J (by kernel_rfl)) (Az (Al [.slice none 0 0, .int .i64 0, .int .i64 0, .int .i64 0, .int .i64 0] [(0, 1), (1, 1), (2, 1), (3, 1), (4, 1)] J (by kernel_rfl) J J J J J) (Az (Dr 200 J J J J J J J) (Az (A1 J J) (Ad (Az (Al [.slice none 0 0, .slice none 0 0] [(0, 1), (1, 1)] J (by kernel_rfl) J J J J J) (Az (Aw (.agg #[.slice none 0 0, .slice none 0 0]) 103 J (by kernel_rfl) J J J J) (Az (Ap 2 J J J J (by kernel_rfl) J J J) (A2 (A8 (AZ (Be (T := 51) (e := CN) 104 103 0 J J J J J ?_)))))))))))))))
 refine Be (T := 42) (e := ruleQ) 105 103 1 J J J J J ?_
 refine B8 (ι := {q : PS × List Declt × List Rulet // okU (tk := (AF s).1) (q.1) (q.2.1) (q.2.2) ∧ G8 (AF s).1 (s.size : Int) (q.1) (q.2.1) (q.2.2) = G8 (AF s).1 (s.size : Int) ⟨0, 0, 0⟩ [] []}) (fun p => []) (fun p => [(104, some (.arr 51 CN (p.1.2.1) true)), (105, some (.arr 42 ruleQ (p.1.2.2) true)), (200, some (psB (AF s).1 (s.size : Int) (p.1.1)))]) [2, 5, 8, 9] [100, 103] (fun p => muP (p.1.1) (p.1.2.1) (p.1.2.2)) ⟨⟨(⟨0, 0, 0⟩ : PS), [], []⟩, ⟨okU_zero, J⟩⟩ (rn []) ?_ ?_
 exact Ag (by repeat first | exact trivial | refine Ah J (by first | exact VLe.rf | exact A7 (by dsimp only; omega)) ?_) (by repeat first | exact trivial | refine Ai J (by first | exact BLe.rf | exact BLe.box AllC.rf | exact BLe.arr (by exact J)) ?_) J J
 rintro ⟨⟨st1, ds, rs⟩, hinv⟩
 dsimp only
 have hinv2 : G8 (AF s).1 (s.size : Int) st1 ds rs = G8 (AF s).1 (s.size : Int) ⟨0, 0, 0⟩ [] [] := hinv.2
 have hokU : okU (tk := (AF s).1) st1 ds rs := hinv.1
 refine A8 (Aa (Az (A0 J J) (Az (AI J J J) (Az (Ao 3 3 J J J (by kernel_rfl) J) (Az (A4 J J J (by kernel_rfl) J) ?_)))))
 refine Bd (AR J J J) (fun b34 h34 => ?_)
 refine Az (A0 J J) ?_
 cases b34
 · try simp only [tdy] at h34
   have hx := hinv2.symm.trans (progU_end (fun q => by omega))
   refine A3 J J J J (A3 J J J J (A3 J J J J (A3 J J J J (A3 J J J J (A3 J J J J (A3 J J J J (Az (AD J J J) (A2 (Bc J ?_)))))))))
   refine Br (B2 ?_)
   refine A8 (Aa (Az (A0 J J) (Az (AI J J J) (Az (Ao 3 3 J J J (by kernel_rfl) J) (Az (A4 J J J (by kernel_rfl) J) ?_)))))
   refine Bd (EK J J J) (fun b127 h127 => ?_)
   refine A2 ?_
   cases b127
   · try simp only [tdy] at h127
     have hno := (I8 hl0 hx).trans (endR_ok (by omega))
     refine Ab J (Aa (Az (Au 2 J J J (by kernel_rfl) J J) (Az (Ap 2 J J J J (by kernel_rfl) J J J) (Az (A1 J J) (Az (A1 J J) (Ae ?_))))))
     exact ⟨rn [(9, 100), (0, 104), (1, 105)], ⟨⟨⟨_, J, VLe.rf⟩, ⟨_, J, A7 (by rw [hno])⟩, ⟨_, J, A7 (by rw [hno])⟩, O⟩, ⟨⟨_, J, by first | exact BLe.rf | exact AE (by rw [hno]; first | done | rfl)⟩, ⟨_, J, by first | exact BLe.rf | (refine BLe.arr ?_; rw [hno]; first | done | rfl)⟩, ⟨_, J, by first | exact BLe.rf | (refine BLe.arr ?_; rw [hno]; first | done | rfl)⟩, O⟩, O, J⟩⟩
   try simp only [tdy] at h127
   have hno := (I8 hl0 hx).trans (endR_no (by omega))
   refine Ac J (Bw J (Az (Al [.slice none 0 0, .slice none 0 0] [(0, 1), (1, 1)] J (by kernel_rfl) J J J J J) (Az (A0 J J) (Az (AI J J J) (Az (Ao 3 3 J J J (by kernel_rfl) J) (Az (A4 J J J (by kernel_rfl) J) (Az (A0 J J) (Az (AI J J J) (Az (Ao 4 4 J J J (by kernel_rfl) J) (Az (A4 J J J (by kernel_rfl) J) (Az (Ap 2 J J J J (by kernel_rfl) J J J) (Az (A1 J J) (Az (A1 J J) (Bj (by kernel_rfl) ?_))))))))))))))
   refine Be (T := 51) (e := CN) 101 100 0 J J J J J ?_
   refine Be (T := 42) (e := ruleQ) 102 100 1 J J J J J ?_
   refine AU ?_
   exact ⟨rn [(9, 100), (0, 101), (1, 102)], ⟨⟨⟨_, J, VLe.rf⟩, ⟨_, J, A7 (by rw [hno])⟩, ⟨_, J, A7 (by rw [hno])⟩, O⟩, ⟨⟨_, J, by first | exact BLe.rf | exact AE (by rw [hno]; first | done | rfl)⟩, ⟨_, J, by first | exact BLe.rf | (refine BLe.arr ?_; rw [hno]; first | done | rfl)⟩, ⟨_, J, by first | exact BLe.rf | (refine BLe.arr ?_; rw [hno]; first | done | rfl)⟩, O⟩, O, J⟩⟩
 try simp only [tdy] at h34
 have hq := hokU.2 h34
 have hi1 : st1.i ≤ (AF s).1.length := hq.1
 have hl : ds.length ≤ 16 ∧ rs.length ≤ 24 := hq.2
 have h43 : ds.length + rs.length < 43 := by omega
 refine AB J J (A0 J J) (AB J J (AI J J J) (AB J J (Ao 1 1 J J J (by kernel_rfl) J) (AB J J (A4 J J J (by kernel_rfl) J) (AB J J (A0 J J) (AB J J (Ak 62 4 J J (by kernel_rfl)) ?_)))))
 refine Bh J J (BI J J J) (fun b42 h42 => ?_)
 refine Az (AJ J J J) (A2 ?_)
 cases b42
 · try simp only [tdy] at h42
   have hx := hinv2.symm.trans (progU_end (fun q => by omega))
   refine Bc J ?_
   refine Br (B2 ?_)
   refine A8 (Aa (Az (A0 J J) (Az (AI J J J) (Az (Ao 3 3 J J J (by kernel_rfl) J) (Az (A4 J J J (by kernel_rfl) J) ?_)))))
   refine Bd (EK J J J) (fun b127 h127 => ?_)
   refine A2 ?_
   cases b127
   · try simp only [tdy] at h127
     have hno := (I8 hl0 hx).trans (endR_ok (by omega))
     refine Ab J (Aa (Az (Au 2 J J J (by kernel_rfl) J J) (Az (Ap 2 J J J J (by kernel_rfl) J J J) (Az (A1 J J) (Az (A1 J J) (Ae ?_))))))
     exact ⟨rn [(9, 100), (0, 104), (1, 105)], ⟨⟨⟨_, J, VLe.rf⟩, ⟨_, J, A7 (by rw [hno])⟩, ⟨_, J, A7 (by rw [hno])⟩, O⟩, ⟨⟨_, J, by first | exact BLe.rf | exact AE (by rw [hno]; first | done | rfl)⟩, ⟨_, J, by first | exact BLe.rf | (refine BLe.arr ?_; rw [hno]; first | done | rfl)⟩, ⟨_, J, by first | exact BLe.rf | (refine BLe.arr ?_; rw [hno]; first | done | rfl)⟩, O⟩, O, J⟩⟩
   try simp only [tdy] at h127
   have hno := (I8 hl0 hx).trans (endR_no (by omega))
   refine Ac J (Bw J (Az (Al [.slice none 0 0, .slice none 0 0] [(0, 1), (1, 1)] J (by kernel_rfl) J J J J J) (Az (A0 J J) (Az (AI J J J) (Az (Ao 3 3 J J J (by kernel_rfl) J) (Az (A4 J J J (by kernel_rfl) J) (Az (A0 J J) (Az (AI J J J) (Az (Ao 4 4 J J J (by kernel_rfl) J) (Az (A4 J J J (by kernel_rfl) J) (Az (Ap 2 J J J J (by kernel_rfl) J J J) (Az (A1 J J) (Az (A1 J J) (Bj (by kernel_rfl) ?_))))))))))))))
   refine Be (T := 51) (e := CN) 101 100 0 J J J J J ?_
   refine Be (T := 42) (e := ruleQ) 102 100 1 J J J J J ?_
   refine AU ?_
   exact ⟨rn [(9, 100), (0, 101), (1, 102)], ⟨⟨⟨_, J, VLe.rf⟩, ⟨_, J, A7 (by rw [hno])⟩, ⟨_, J, A7 (by rw [hno])⟩, O⟩, ⟨⟨_, J, by first | exact BLe.rf | exact AE (by rw [hno]; first | done | rfl)⟩, ⟨_, J, by first | exact BLe.rf | (refine BLe.arr ?_; rw [hno]; first | done | rfl)⟩, ⟨_, J, by first | exact BLe.rf | (refine BLe.arr ?_; rw [hno]; first | done | rfl)⟩, O⟩, O, J⟩⟩
 try simp only [tdy] at h42
 have hlt : st1.i < (AF s).1.length := by omega
 have hh : (AA (AF s).1 (s.size : Int) st1) = ((AF s).1[st1.i]'(by omega)) := EC h34 hlt
 refine A5 J (AP (AZ (Aa (Az (A0 J J) (Az (A0 J J) (Az (AI J J J) (Az (Ao 1 1 J J J (by kernel_rfl) J) (Az (A4 J J J (by kernel_rfl) J) ?_))))))))
 refine Az (Am 62 4 st1.i J J J (by kernel_rfl) J (by omega) (by omega)) ?_
 refine Az (Co (n := 4) J J (by kernel_rfl) J) (Az (AS J J J (sKind_c _) J J) (Az (A1 J J) (A2 (A8 (Aa (Az (A0 J J) ?_))))))
 refine Bd (CC J J J) (fun b53 h53 => ?_)
 refine A2 ?_
 cases b53
 rotate_left
 · try simp only [tdy] at h53
   have hk : 0 < (CS (AA (AF s).1 (s.size : Int) st1)) := by rw [hh]; omega
   refine A5 J ?_
   refine Hf (ι := {q : PS // FQ (AF s).1 (s.size : Int) ds st1 = q ∧ q.i < (AF s).1.length}) (fun p => []) (fun p => [(200, some (psB (AF s).1 (s.size : Int) (p.1)))]) [2, 5, 8, 9, 10] [100, 103, 104, 105] ?_ ?_
   · refine Aa (Az (Ao 0 0 J J J (by kernel_rfl) J) (Az (A4 J J J (by kernel_rfl) J) (Az (Ax 51 3 J J J (by kernel_rfl)) ?_)))
     refine Bd (AR J J J) (fun b57 h57 => ?_)
     refine A2 ?_
     cases b57
     · try simp only [tdy] at h57
       refine Ab J ?_
       refine ⟨⟨st1, ⟨fullD_off h57, hlt⟩⟩, rn [], ?_⟩
       exact Ag (by repeat first | exact trivial | refine Ah J (by first | exact VLe.rf | exact A7 (by dsimp only; omega)) ?_) (by repeat first | exact trivial | refine Ai J (by first | exact BLe.rf | exact BLe.box AllC.rf | exact BLe.arr (by exact J)) ?_) J J
     try simp only [tdy] at h57
     refine A5 J (AG (Az (A0 J J) (Az (Aj J J J (Cb (AF s).1 (s.size : Int) st1 hm hi1 7) J J J J) (A2 ?_))))
     refine ⟨⟨Bg (AF s).1 (s.size : Int) 7 st1, ⟨fullD_on h57, by rw [Es]; exact hlt⟩⟩, rn [], ?_⟩
     exact Ag (by repeat first | exact trivial | refine Ah J (by first | exact VLe.rf | exact A7 (by dsimp only; omega)) ?_) (by repeat first | exact trivial | refine Ai J (by first | exact BLe.rf | exact BLe.box AllC.rf | exact BLe.arr (by exact J)) ?_) J J
   rintro ⟨s2, hinv1⟩
   dsimp only
   have hf := hinv1.1
   have hs2 : s2.i < (AF s).1.length := hinv1.2
   have hd := progU_decl h34 hlt hl hk hf
   rw [hh] at hd
   refine Aa (Az (A0 J J) (Az (AI J J J) (Az (Ao 1 1 J J J (by kernel_rfl) J) (Az (A4 J J J (by kernel_rfl) J) ?_))))
   refine Az (Bl J J J (IntWalk.i64_in _ (by omega))) ?_
   refine Az (AI J J J) (Az (Ao 1 1 J J J (by kernel_rfl) J) (Az (Ap 1 J J J J (by kernel_rfl) J J J) (A2 (A8 (Bw J (Az (Ao 0 0 J J J (by kernel_rfl) J) (Az (A4 J J J (by kernel_rfl) J) (Az (A0 J J) (Az (A0 J J) ?_)))))))))
   refine Az (Aj J J J (sDecl_c (AF s).1 (s.size : Int) s2.next hm (Ca hs2) (CS ((AF s).1[st1.i]'(by omega)))) J J J J) ?_
   refine Az (Aq CN 51 [.tmp 71] ([(Ef (AF s).1 (s.size : Int) (CS ((AF s).1[st1.i]'(by omega))) s2.next).1]) 106 J J J J J J J J FitL.rf J J J J J J (by kernel_rfl)) ?_
   refine Az (B9 107 J J J J J J J J (by kernel_rfl) (by simp only [List.length_append, List.length_cons, List.length_nil]; omega)) ?_
   refine Az (Ao 0 0 J J J (by kernel_rfl) J) (Az (Ap 1 J J J J (by kernel_rfl) J J J) (Bj (by kernel_rfl) ?_))
   refine Br (B2 ?_)
   refine ⟨⟨⟨(Ef (AF s).1 (s.size : Int) (CS ((AF s).1[st1.i]'(by omega))) s2.next).2, ds ++ [(Ef (AF s).1 (s.size : Int) (CS ((AF s).1[st1.i]'(by omega))) s2.next).1], rs⟩, ⟨okU_decl hl hd.2, hd.1.trans hinv2⟩⟩, rn [(104, 107)], ?_, Il h34 h43⟩
   exact Ag (by repeat first | exact trivial | refine Ah J (by first | exact VLe.rf | exact A7 (by dsimp only; omega)) ?_) (by repeat first | exact trivial | refine Ai J (by first | exact BLe.rf | exact BLe.box AllC.rf | exact BLe.arr (by exact J)) ?_) J J
 try simp only [tdy] at h53
 have hk : ¬ 0 < (CS (AA (AF s).1 (s.size : Int) st1)) := by rw [hh]; omega
 refine Ab J (Aa (Az (A0 J J) (Az (A0 J J) (Az (AI J J J) (Az (Ao 1 1 J J J (by kernel_rfl) J) (Az (A4 J J J (by kernel_rfl) J) ?_))))))
 refine Az (Am 62 4 st1.i J J J (by kernel_rfl) J (by omega) (by omega)) ?_
 refine Az (Co (n := 4) J J (by kernel_rfl) J) (Az (Aw (.agg #[.int .i64 0, .int .i64 0, .string ⟨#[]⟩, .int .i64 0]) 108 J (by kernel_rfl) J J J J) (Az (Ap 4 J J J J (by kernel_rfl) J J J) (Ad (Az (Ao 0 0 J J J (by kernel_rfl) J) (Az (A4 J J J (by kernel_rfl) J) ?_)))))
 refine Bd (AR J J J) (fun b84 h84 => ?_)
 refine Az (A0 J J) ?_
 cases b84
 · try simp only [tdy] at h84
   have hnm : BJ (AA (AF s).1 (s.size : Int) st1) = false := by rw [hh]; simp [BJ, h84]
   refine A3 J J J J (A3 J J J J (A3 J J J J (A3 J J J J (Az (AD J J J) (Az (A0 J J) (AB J J (A0 J J) (AB J J (A0 J J) (AB J J (AI J J J) (AB J J (Ao 1 1 J J J (by kernel_rfl) J) (AB J J (A4 J J J (by kernel_rfl) J) ?_))))))))))
   refine FF J J (Aj J J J (Fx (AF s).1 (s.size : Int) st1 hm hi1 ⟨#[43]⟩) J J J J) (fun b97 h97 => ?_)
   refine Az (AD J J J) (Az (A0 J J) ?_)
   cases b97
   rotate_left
   · try simp only [tdy] at h97
     have hst : Bo (AA (AF s).1 (s.size : Int) st1) = true := by simp [Bo, h97]
     refine A3 J J J J (A3 J J J J (A3 J J J J (A3 J J J J (A3 J J J J (A3 J J J J (Az (AJ J J J) (Az (A1 J J) (A2 ?_))))))))
     refine Hf (ι := {q : PS // EN (AF s).1 (s.size : Int) rs st1 = q ∧ q.i ≤ (AF s).1.length}) (fun p => []) (fun p => [(200, some (psB (AF s).1 (s.size : Int) (p.1)))]) [2, 5, 8, 9] [100, 103, 104, 105, 108] ?_ ?_
     · refine Aa (Az (A0 J J) (Az (A0 J J) (AB J J (Ao 1 1 J J J (by kernel_rfl) J) (AB J J (A4 J J J (by kernel_rfl) J) (AB J J (Ax 42 4 J J J (by kernel_rfl)) ?_)))))
       refine Bh J J (AR J J J) (fun b112 h112 => ?_)
       refine Az (AJ J J J) (A2 ?_)
       cases b112
       · try simp only [tdy] at h112
         refine Ab J ?_
         refine ⟨⟨st1, ⟨Ft (fun q => h112 q.2), hi1⟩⟩, rn [], ?_⟩
         exact Ag (by repeat first | exact trivial | refine Ah J (by first | exact VLe.rf | exact A7 (by dsimp only; omega)) ?_) (by repeat first | exact trivial | refine Ai J (by first | exact BLe.rf | exact BLe.box AllC.rf | exact BLe.arr (by exact J)) ?_) J J
       try simp only [tdy] at h112
       refine A5 J (AG (Az (A0 J J) (Az (Aj J J J (Cb (AF s).1 (s.size : Int) st1 hm hi1 7) J J J J) (A2 ?_))))
       refine ⟨⟨Bg (AF s).1 (s.size : Int) 7 st1, ⟨Iu hst h112, Cm hi1⟩⟩, rn [], ?_⟩
       exact Ag (by repeat first | exact trivial | refine Ah J (by first | exact VLe.rf | exact A7 (by dsimp only; omega)) ?_) (by repeat first | exact trivial | refine Ai J (by first | exact BLe.rf | exact BLe.box AllC.rf | exact BLe.arr (by exact J)) ?_) J J
     rintro ⟨s2, hinv1⟩
     dsimp only
     have hf := hinv1.1
     have hs2 : s2.i ≤ (AF s).1.length := hinv1.2
     have hd := Gt h34 hlt hl hk hf
     refine Bw J (Az (Ao 1 1 J J J (by kernel_rfl) J) (Az (A4 J J J (by kernel_rfl) J) (Az (A0 J J) (Az (Av [] [(200, some _)] [(200, some _), (109, some _), (110, some _)] J J J (sRule_c (AF s).1 (s.size : Int) s2 hm hs2 hok 109 110 J J J J) J AllV.rf (BE J) J J J ⟨J, O⟩ J) (Az (Hg (E := 42) (e := ruleQ) [.tmp 119] ([(Cl (AF s).1 (s.size : Int) s2).1]) 111 J J J J J J J J FitL.rf J J J J J J (by kernel_rfl)) ?_)))))
     refine Az (B9 112 J J J J J J J J (by kernel_rfl) (by simp only [List.length_append, List.length_cons, List.length_nil]; omega)) ?_
     refine Az (Ao 1 1 J J J (by kernel_rfl) J) (Az (Ap 1 J J J J (by kernel_rfl) J J J) (Bj (by kernel_rfl) ?_))
     refine ⟨⟨⟨(Cl (AF s).1 (s.size : Int) s2).2, ds, rs ++ [(Cl (AF s).1 (s.size : Int) s2).1]⟩, ⟨Ij hl hd.2, hd.1.trans hinv2⟩⟩, rn [(105, 112)], ?_, F6 h34 h43⟩
     exact Ag (by repeat first | exact trivial | refine Ah J (by first | exact VLe.rf | exact A7 (by dsimp only; omega)) ?_) (by repeat first | exact trivial | refine Ai J (by first | exact BLe.rf | exact BLe.box AllC.rf | exact BLe.arr (by exact J)) ?_) J J
   try simp only [tdy] at h97
   refine AB J J (A0 J J) (AB J J (A0 J J) (AB J J (AI J J J) (AB J J (Ao 1 1 J J J (by kernel_rfl) J) (AB J J (A4 J J J (by kernel_rfl) J) ?_))))
   refine FF J J (Aj J J J (Fx (AF s).1 (s.size : Int) st1 hm hi1 ⟨#[45]⟩) J J J J) (fun b105 h105 => ?_)
   refine Az (AD J J J) (Az (A1 J J) (A2 ?_))
   refine Hf (ι := {q : PS // EN (AF s).1 (s.size : Int) rs st1 = q ∧ q.i ≤ (AF s).1.length}) (fun p => []) (fun p => [(200, some (psB (AF s).1 (s.size : Int) (p.1)))]) [2, 5, 8, 9] [100, 103, 104, 105, 108] ?_ ?_
   · refine Aa (Az (A0 J J) (Az (A0 J J) ?_))
     cases b105
     · try simp only [tdy] at h105
       have hst : Bo (AA (AF s).1 (s.size : Int) st1) = false := by simp [Bo, hnm, h97, h105]
       refine A3 J J J J (A3 J J J J (A3 J J J J (A3 J J J J (Az (AD J J J) (A2 (Ab J ?_))))))
       refine ⟨⟨st1, ⟨Ft (fun q => absurd q.1 (by rw [hst]; decide)), hi1⟩⟩, rn [], ?_⟩
       exact Ag (by repeat first | exact trivial | refine Ah J (by first | exact VLe.rf | exact A7 (by dsimp only; omega)) ?_) (by repeat first | exact trivial | refine Ai J (by first | exact BLe.rf | exact BLe.box AllC.rf | exact BLe.arr (by exact J)) ?_) J J
     try simp only [tdy] at h105
     have hst : Bo (AA (AF s).1 (s.size : Int) st1) = true := by simp [Bo, h105]
     refine AB J J (Ao 1 1 J J J (by kernel_rfl) J) (AB J J (A4 J J J (by kernel_rfl) J) (AB J J (Ax 42 4 J J J (by kernel_rfl)) ?_))
     refine Bh J J (AR J J J) (fun b112 h112 => ?_)
     refine Az (AJ J J J) (A2 ?_)
     cases b112
     · try simp only [tdy] at h112
       refine Ab J ?_
       refine ⟨⟨st1, ⟨Ft (fun q => h112 q.2), hi1⟩⟩, rn [], ?_⟩
       exact Ag (by repeat first | exact trivial | refine Ah J (by first | exact VLe.rf | exact A7 (by dsimp only; omega)) ?_) (by repeat first | exact trivial | refine Ai J (by first | exact BLe.rf | exact BLe.box AllC.rf | exact BLe.arr (by exact J)) ?_) J J
     try simp only [tdy] at h112
     refine A5 J (AG (Az (A0 J J) (Az (Aj J J J (Cb (AF s).1 (s.size : Int) st1 hm hi1 7) J J J J) (A2 ?_))))
     refine ⟨⟨Bg (AF s).1 (s.size : Int) 7 st1, ⟨Iu hst h112, Cm hi1⟩⟩, rn [], ?_⟩
     exact Ag (by repeat first | exact trivial | refine Ah J (by first | exact VLe.rf | exact A7 (by dsimp only; omega)) ?_) (by repeat first | exact trivial | refine Ai J (by first | exact BLe.rf | exact BLe.box AllC.rf | exact BLe.arr (by exact J)) ?_) J J
   rintro ⟨s2, hinv1⟩
   dsimp only
   have hf := hinv1.1
   have hs2 : s2.i ≤ (AF s).1.length := hinv1.2
   have hd := Gt h34 hlt hl hk hf
   refine Bw J (Az (Ao 1 1 J J J (by kernel_rfl) J) (Az (A4 J J J (by kernel_rfl) J) (Az (A0 J J) (Az (Av [] [(200, some _)] [(200, some _), (109, some _), (110, some _)] J J J (sRule_c (AF s).1 (s.size : Int) s2 hm hs2 hok 109 110 J J J J) J AllV.rf (BE J) J J J ⟨J, O⟩ J) (Az (Hg (E := 42) (e := ruleQ) [.tmp 119] ([(Cl (AF s).1 (s.size : Int) s2).1]) 111 J J J J J J J J FitL.rf J J J J J J (by kernel_rfl)) ?_)))))
   refine Az (B9 112 J J J J J J J J (by kernel_rfl) (by simp only [List.length_append, List.length_cons, List.length_nil]; omega)) ?_
   refine Az (Ao 1 1 J J J (by kernel_rfl) J) (Az (Ap 1 J J J J (by kernel_rfl) J J J) (Bj (by kernel_rfl) ?_))
   refine ⟨⟨⟨(Cl (AF s).1 (s.size : Int) s2).2, ds, rs ++ [(Cl (AF s).1 (s.size : Int) s2).1]⟩, ⟨Ij hl hd.2, hd.1.trans hinv2⟩⟩, rn [(105, 112)], ?_, F6 h34 h43⟩
   exact Ag (by repeat first | exact trivial | refine Ah J (by first | exact VLe.rf | exact A7 (by dsimp only; omega)) ?_) (by repeat first | exact trivial | refine Ai J (by first | exact BLe.rf | exact BLe.box AllC.rf | exact BLe.arr (by exact J)) ?_) J J
 try simp only [tdy] at h84
 refine AB J J (Ao 2 2 J J J (by kernel_rfl) J) (AB J J (A4 J J J (by kernel_rfl) J) ?_)
 refine Bh J J (AS J J J (Ht _) J J) (fun b88 h88 => ?_)
 refine AB J J (Cn J J) (Az (AJ J J J) (Az (A0 J J) ?_))
 cases b88
 · try simp only [tdy] at h88
   have hnm : BJ (AA (AF s).1 (s.size : Int) st1) = true := by rw [hh]; simp [BJ, h84, h88]
   have hst : Bo (AA (AF s).1 (s.size : Int) st1) = true := by simp [Bo, hnm]
   refine A3 J J J J (A3 J J J J (A3 J J J J (A3 J J J J (A3 J J J J (A3 J J J J (Az (AJ J J J) (Az (A0 J J) (A3 J J J J (A3 J J J J (A3 J J J J (A3 J J J J (A3 J J J J (A3 J J J J (Az (AJ J J J) (Az (A1 J J) (A2 ?_))))))))))))))))
   refine Hf (ι := {q : PS // EN (AF s).1 (s.size : Int) rs st1 = q ∧ q.i ≤ (AF s).1.length}) (fun p => []) (fun p => [(200, some (psB (AF s).1 (s.size : Int) (p.1)))]) [2, 5, 8, 9] [100, 103, 104, 105, 108] ?_ ?_
   · refine Aa (Az (A0 J J) (Az (A0 J J) (AB J J (Ao 1 1 J J J (by kernel_rfl) J) (AB J J (A4 J J J (by kernel_rfl) J) (AB J J (Ax 42 4 J J J (by kernel_rfl)) ?_)))))
     refine Bh J J (AR J J J) (fun b112 h112 => ?_)
     refine Az (AJ J J J) (A2 ?_)
     cases b112
     · try simp only [tdy] at h112
       refine Ab J ?_
       refine ⟨⟨st1, ⟨Ft (fun q => h112 q.2), hi1⟩⟩, rn [], ?_⟩
       exact Ag (by repeat first | exact trivial | refine Ah J (by first | exact VLe.rf | exact A7 (by dsimp only; omega)) ?_) (by repeat first | exact trivial | refine Ai J (by first | exact BLe.rf | exact BLe.box AllC.rf | exact BLe.arr (by exact J)) ?_) J J
     try simp only [tdy] at h112
     refine A5 J (AG (Az (A0 J J) (Az (Aj J J J (Cb (AF s).1 (s.size : Int) st1 hm hi1 7) J J J J) (A2 ?_))))
     refine ⟨⟨Bg (AF s).1 (s.size : Int) 7 st1, ⟨Iu hst h112, Cm hi1⟩⟩, rn [], ?_⟩
     exact Ag (by repeat first | exact trivial | refine Ah J (by first | exact VLe.rf | exact A7 (by dsimp only; omega)) ?_) (by repeat first | exact trivial | refine Ai J (by first | exact BLe.rf | exact BLe.box AllC.rf | exact BLe.arr (by exact J)) ?_) J J
   rintro ⟨s2, hinv1⟩
   dsimp only
   have hf := hinv1.1
   have hs2 : s2.i ≤ (AF s).1.length := hinv1.2
   have hd := Gt h34 hlt hl hk hf
   refine Bw J (Az (Ao 1 1 J J J (by kernel_rfl) J) (Az (A4 J J J (by kernel_rfl) J) (Az (A0 J J) (Az (Av [] [(200, some _)] [(200, some _), (109, some _), (110, some _)] J J J (sRule_c (AF s).1 (s.size : Int) s2 hm hs2 hok 109 110 J J J J) J AllV.rf (BE J) J J J ⟨J, O⟩ J) (Az (Hg (E := 42) (e := ruleQ) [.tmp 119] ([(Cl (AF s).1 (s.size : Int) s2).1]) 111 J J J J J J J J FitL.rf J J J J J J (by kernel_rfl)) ?_)))))
   refine Az (B9 112 J J J J J J J J (by kernel_rfl) (by simp only [List.length_append, List.length_cons, List.length_nil]; omega)) ?_
   refine Az (Ao 1 1 J J J (by kernel_rfl) J) (Az (Ap 1 J J J J (by kernel_rfl) J J J) (Bj (by kernel_rfl) ?_))
   refine ⟨⟨⟨(Cl (AF s).1 (s.size : Int) s2).2, ds, rs ++ [(Cl (AF s).1 (s.size : Int) s2).1]⟩, ⟨Ij hl hd.2, hd.1.trans hinv2⟩⟩, rn [(105, 112)], ?_, F6 h34 h43⟩
   exact Ag (by repeat first | exact trivial | refine Ah J (by first | exact VLe.rf | exact A7 (by dsimp only; omega)) ?_) (by repeat first | exact trivial | refine Ai J (by first | exact BLe.rf | exact BLe.box AllC.rf | exact BLe.arr (by exact J)) ?_) J J
 try simp only [tdy] at h88
 have hnm : BJ (AA (AF s).1 (s.size : Int) st1) = false := by rw [hh]; simp [BJ, h88]
 refine AB J J (A0 J J) (AB J J (A0 J J) (AB J J (AI J J J) (AB J J (Ao 1 1 J J J (by kernel_rfl) J) (AB J J (A4 J J J (by kernel_rfl) J) ?_))))
 refine FF J J (Aj J J J (Fx (AF s).1 (s.size : Int) st1 hm hi1 ⟨#[43]⟩) J J J J) (fun b97 h97 => ?_)
 refine Az (AD J J J) (Az (A0 J J) ?_)
 cases b97
 rotate_left
 · try simp only [tdy] at h97
   have hst : Bo (AA (AF s).1 (s.size : Int) st1) = true := by simp [Bo, h97]
   refine A3 J J J J (A3 J J J J (A3 J J J J (A3 J J J J (A3 J J J J (A3 J J J J (Az (AJ J J J) (Az (A1 J J) (A2 ?_))))))))
   refine Hf (ι := {q : PS // EN (AF s).1 (s.size : Int) rs st1 = q ∧ q.i ≤ (AF s).1.length}) (fun p => []) (fun p => [(200, some (psB (AF s).1 (s.size : Int) (p.1)))]) [2, 5, 8, 9] [100, 103, 104, 105, 108] ?_ ?_
   · refine Aa (Az (A0 J J) (Az (A0 J J) (AB J J (Ao 1 1 J J J (by kernel_rfl) J) (AB J J (A4 J J J (by kernel_rfl) J) (AB J J (Ax 42 4 J J J (by kernel_rfl)) ?_)))))
     refine Bh J J (AR J J J) (fun b112 h112 => ?_)
     refine Az (AJ J J J) (A2 ?_)
     cases b112
     · try simp only [tdy] at h112
       refine Ab J ?_
       refine ⟨⟨st1, ⟨Ft (fun q => h112 q.2), hi1⟩⟩, rn [], ?_⟩
       exact Ag (by repeat first | exact trivial | refine Ah J (by first | exact VLe.rf | exact A7 (by dsimp only; omega)) ?_) (by repeat first | exact trivial | refine Ai J (by first | exact BLe.rf | exact BLe.box AllC.rf | exact BLe.arr (by exact J)) ?_) J J
     try simp only [tdy] at h112
     refine A5 J (AG (Az (A0 J J) (Az (Aj J J J (Cb (AF s).1 (s.size : Int) st1 hm hi1 7) J J J J) (A2 ?_))))
     refine ⟨⟨Bg (AF s).1 (s.size : Int) 7 st1, ⟨Iu hst h112, Cm hi1⟩⟩, rn [], ?_⟩
     exact Ag (by repeat first | exact trivial | refine Ah J (by first | exact VLe.rf | exact A7 (by dsimp only; omega)) ?_) (by repeat first | exact trivial | refine Ai J (by first | exact BLe.rf | exact BLe.box AllC.rf | exact BLe.arr (by exact J)) ?_) J J
   rintro ⟨s2, hinv1⟩
   dsimp only
   have hf := hinv1.1
   have hs2 : s2.i ≤ (AF s).1.length := hinv1.2
   have hd := Gt h34 hlt hl hk hf
   refine Bw J (Az (Ao 1 1 J J J (by kernel_rfl) J) (Az (A4 J J J (by kernel_rfl) J) (Az (A0 J J) (Az (Av [] [(200, some _)] [(200, some _), (109, some _), (110, some _)] J J J (sRule_c (AF s).1 (s.size : Int) s2 hm hs2 hok 109 110 J J J J) J AllV.rf (BE J) J J J ⟨J, O⟩ J) (Az (Hg (E := 42) (e := ruleQ) [.tmp 119] ([(Cl (AF s).1 (s.size : Int) s2).1]) 111 J J J J J J J J FitL.rf J J J J J J (by kernel_rfl)) ?_)))))
   refine Az (B9 112 J J J J J J J J (by kernel_rfl) (by simp only [List.length_append, List.length_cons, List.length_nil]; omega)) ?_
   refine Az (Ao 1 1 J J J (by kernel_rfl) J) (Az (Ap 1 J J J J (by kernel_rfl) J J J) (Bj (by kernel_rfl) ?_))
   refine ⟨⟨⟨(Cl (AF s).1 (s.size : Int) s2).2, ds, rs ++ [(Cl (AF s).1 (s.size : Int) s2).1]⟩, ⟨Ij hl hd.2, hd.1.trans hinv2⟩⟩, rn [(105, 112)], ?_, F6 h34 h43⟩
   exact Ag (by repeat first | exact trivial | refine Ah J (by first | exact VLe.rf | exact A7 (by dsimp only; omega)) ?_) (by repeat first | exact trivial | refine Ai J (by first | exact BLe.rf | exact BLe.box AllC.rf | exact BLe.arr (by exact J)) ?_) J J
 try simp only [tdy] at h97
 refine AB J J (A0 J J) (AB J J (A0 J J) (AB J J (AI J J J) (AB J J (Ao 1 1 J J J (by kernel_rfl) J) (AB J J (A4 J J J (by kernel_rfl) J) ?_))))
 refine FF J J (Aj J J J (Fx (AF s).1 (s.size : Int) st1 hm hi1 ⟨#[45]⟩) J J J J) (fun b105 h105 => ?_)
 refine Az (AD J J J) (Az (A1 J J) (A2 ?_))
 refine Hf (ι := {q : PS // EN (AF s).1 (s.size : Int) rs st1 = q ∧ q.i ≤ (AF s).1.length}) (fun p => []) (fun p => [(200, some (psB (AF s).1 (s.size : Int) (p.1)))]) [2, 5, 8, 9] [100, 103, 104, 105, 108] ?_ ?_
 · refine Aa (Az (A0 J J) (Az (A0 J J) ?_))
   cases b105
   · try simp only [tdy] at h105
     have hst : Bo (AA (AF s).1 (s.size : Int) st1) = false := by simp [Bo, hnm, h97, h105]
     refine A3 J J J J (A3 J J J J (A3 J J J J (A3 J J J J (Az (AD J J J) (A2 (Ab J ?_))))))
     refine ⟨⟨st1, ⟨Ft (fun q => absurd q.1 (by rw [hst]; decide)), hi1⟩⟩, rn [], ?_⟩
     exact Ag (by repeat first | exact trivial | refine Ah J (by first | exact VLe.rf | exact A7 (by dsimp only; omega)) ?_) (by repeat first | exact trivial | refine Ai J (by first | exact BLe.rf | exact BLe.box AllC.rf | exact BLe.arr (by exact J)) ?_) J J
   try simp only [tdy] at h105
   have hst : Bo (AA (AF s).1 (s.size : Int) st1) = true := by simp [Bo, h105]
   refine AB J J (Ao 1 1 J J J (by kernel_rfl) J) (AB J J (A4 J J J (by kernel_rfl) J) (AB J J (Ax 42 4 J J J (by kernel_rfl)) ?_))
   refine Bh J J (AR J J J) (fun b112 h112 => ?_)
   refine Az (AJ J J J) (A2 ?_)
   cases b112
   · try simp only [tdy] at h112
     refine Ab J ?_
     refine ⟨⟨st1, ⟨Ft (fun q => h112 q.2), hi1⟩⟩, rn [], ?_⟩
     exact Ag (by repeat first | exact trivial | refine Ah J (by first | exact VLe.rf | exact A7 (by dsimp only; omega)) ?_) (by repeat first | exact trivial | refine Ai J (by first | exact BLe.rf | exact BLe.box AllC.rf | exact BLe.arr (by exact J)) ?_) J J
   try simp only [tdy] at h112
   refine A5 J (AG (Az (A0 J J) (Az (Aj J J J (Cb (AF s).1 (s.size : Int) st1 hm hi1 7) J J J J) (A2 ?_))))
   refine ⟨⟨Bg (AF s).1 (s.size : Int) 7 st1, ⟨Iu hst h112, Cm hi1⟩⟩, rn [], ?_⟩
   exact Ag (by repeat first | exact trivial | refine Ah J (by first | exact VLe.rf | exact A7 (by dsimp only; omega)) ?_) (by repeat first | exact trivial | refine Ai J (by first | exact BLe.rf | exact BLe.box AllC.rf | exact BLe.arr (by exact J)) ?_) J J
 rintro ⟨s2, hinv1⟩
 dsimp only
 have hf := hinv1.1
 have hs2 : s2.i ≤ (AF s).1.length := hinv1.2
 have hd := Gt h34 hlt hl hk hf
 refine Bw J (Az (Ao 1 1 J J J (by kernel_rfl) J) (Az (A4 J J J (by kernel_rfl) J) (Az (A0 J J) (Az (Av [] [(200, some _)] [(200, some _), (109, some _), (110, some _)] J J J (sRule_c (AF s).1 (s.size : Int) s2 hm hs2 hok 109 110 J J J J) J AllV.rf (BE J) J J J ⟨J, O⟩ J) (Az (Hg (E := 42) (e := ruleQ) [.tmp 119] ([(Cl (AF s).1 (s.size : Int) s2).1]) 111 J J J J J J J J FitL.rf J J J J J J (by kernel_rfl)) ?_)))))
 refine Az (B9 112 J J J J J J J J (by kernel_rfl) (by simp only [List.length_append, List.length_cons, List.length_nil]; omega)) ?_
 refine Az (Ao 1 1 J J J (by kernel_rfl) J) (Az (Ap 1 J J J J (by kernel_rfl) J J J) (Bj (by kernel_rfl) ?_))
 refine ⟨⟨⟨(Cl (AF s).1 (s.size : Int) s2).2, ds, rs ++ [(Cl (AF s).1 (s.size : Int) s2).1]⟩, ⟨Ij hl hd.2, hd.1.trans hinv2⟩⟩, rn [(105, 112)], ?_, F6 h34 h43⟩
 exact Ag (by repeat first | exact trivial | refine Ah J (by first | exact VLe.rf | exact A7 (by dsimp only; omega)) ?_) (by repeat first | exact trivial | refine Ai J (by first | exact BLe.rf | exact BLe.box AllC.rf | exact BLe.arr (by exact J)) ?_) J J
end Go.Proofs.YtkemjhlbokldhaaGreat

namespace Go.Proofs.YtkemjhlbokldhaaGreat
open Go.RowKit
set_option linter.unusedVariables false
set_option linter.unusedSimpArgs false

theorem beq_nil {s : ByteArray} (h : s.size = 0 → False) : (s == (⟨#[]⟩ : ByteArray)) = false := ba_no.2 fun e => h (by rw [e]; rfl)
theorem nil_beq : ((⟨#[]⟩ : ByteArray) == (⟨#[]⟩ : ByteArray)) = true := ba_iff.2 rfl
theorem kept_nil : E2 (⟨#[]⟩ : ByteArray) = false := by simp [E2, ByteArray.toList_eq]
theorem nil_empty : (⟨#[]⟩ : ByteArray).toList.isEmpty = true := by rw [ByteArray.toList_eq]; rfl
theorem size_empty {s : ByteArray} (h : 1 ≤ s.size) : s.toList.isEmpty = false := by
 rw [ByteArray.toList_eq]
 cases hl : s.data.toList with
 | nil => have : s.data.toList.length = s.size := by simp
          rw [hl] at this; simp at this; omega
 | cons c l => rfl
theorem wordB_pos {s : ByteArray} (h : C7 s = true) : 1 ≤ s.size ∧ s.size ≤ 12 := by
 simp only [C7, DO, Bool.and_eq_true, decide_eq_true_eq] at h; omega
theorem varB_pos {s : ByteArray} (h : Eu s = true) : 1 ≤ s.size ∧ s.size ≤ 12 := by
 simp only [Eu, DO, Bool.and_eq_true, decide_eq_true_eq] at h; omega
theorem same_noVal : Dq noVal noVal = true := by unfold Dq; simp [noVal, nil_beq]
theorem same_noTerm : Dh BP BP = true := by unfold Dh; simp [BP, same_noVal, nil_beq]
section
variable {tk : List Tokent} {e : Int}
theorem termOf_good {t : Tokent} (h : EL t) (h2 : BN t = true) : Cv (Hj t) = true := by
 by_cases k2 : t.kind = 2
 · have hv : Eu t.s = true := by rcases h with h | h | h | h; all_goals first | exact h.2 | omega
   have := varB_pos hv
   rw [of_var k2]; unfold Cv
   rw [if_neg (by show ¬ (t.s == (⟨#[]⟩ : ByteArray)) = true; rw [beq_nil (by omega)]; decide)]
   show (Eu t.s && Dq noVal noVal) = true
   rw [hv, same_noVal]; rfl
 · by_cases k3 : t.kind = 3
   · have hv : Df t.n = true := by rcases h with h | h | h | h; all_goals first | exact h.2.2 | omega
     rw [of_num k2 k3]; unfold Cv
     rw [if_pos nil_beq]
     show (CV ⟨t.n, ⟨#[]⟩⟩ && !E2 ⟨#[]⟩) = true
     unfold CV
     rw [if_pos nil_empty, kept_nil]
     show (Df t.n && !false) = true
     rw [hv]; rfl
   · have hn : BJ t = true := by simpa [BN, k2, k3] using h2
     have k1 := IB hn
     have hw : C7 t.s = true := by rcases h with h | h | h | h; all_goals first | exact h.2.2 | omega
     have hp := wordB_pos hw
     have hkp : E2 t.s = false := by simpa [BJ, k1] using hn
     rw [of_name k2 k3]; unfold Cv
     rw [if_pos nil_beq]
     show (CV ⟨0, t.s⟩ && !E2 t.s) = true
     unfold CV
     rw [if_neg (by show ¬ t.s.toList.isEmpty = true; rw [size_empty hp.1]; decide), hkp]
     show ((0 : Int) == 0 && C7 t.s && !false) = true
     rw [hw]; rfl
theorem plus_range (st : PS) : 1 ≤ (BX tk e st).1 ∧ (BX tk e st).1 ≤ 3 := by
 unfold BX
 split
 · exact ⟨by dsimp only; omega, by dsimp only; omega⟩
 · split <;> exact ⟨by dsimp only; omega, by dsimp only; omega⟩
theorem rule_join {k : Int} {a : Atomt} {b : List Litt} (h1 : 1 ≤ k ∧ k ≤ 3) (h2 : Db a = true) (h3 : ∀ t ∈ b, Cs t = true) (h4 : b.length ≤ 8) : Cx ⟨k, a, b⟩ = true := by
 show (decide (1 ≤ k ∧ k ≤ 3) && (Db a && (decide (b.length ≤ 8) && b.all Cs))) = true
 rw [h2, decide_eq_true h1, decide_eq_true h4, List.all_eq_true.2 h3]; rfl
variable (hk : ∀ t ∈ tk, EL t)
include hk
theorem termP_good {st : PS} (hc : (AM tk e false st).2.code = 0) : Cv (AM tk e false st).1 = true ∧ BN (AA tk e st) = true := by
 by_cases h : BN (AA tk e st) = true
 · rw [Hi h]
   refine ⟨termOf_good ?_ h, h⟩
   rcases here_tok (e := e) (st := st) hk with q | q
   · exact absurd q (term_kind h)
   · exact q
 · rw [FI (by simpa using h)] at hc
   exact absurd hc (Bq (by decide))
theorem argsI_good : ∀ (f : Nat) (st : PS) (a : List Termt), (∀ t ∈ a, Cv t = true) → a.length ≤ 6 → (Dp tk e f st a).2.code = 0 → (∀ t ∈ (Dp tk e f st a).1, Cv t = true) ∧ (Dp tk e f st a).1.length ≤ 6
 | 0, st, a, h, hl, _ => ⟨h, hl⟩
 | f + 1, st, a, h, hl, hc => by
   unfold Dp at hc ⊢
   by_cases h0 : st.code = 0
   · rw [if_pos h0] at hc ⊢
     by_cases h1 : BN (AA tk e st) = true ∧ a.length = 6
     · rw [if_pos h1] at hc; exact absurd hc (Bq (by decide))
     · rw [if_neg h1] at hc ⊢
       have step : (AM tk e false st).2.code = 0 → (∀ t ∈ a ++ [(AM tk e false st).1], Cv t = true) ∧ (a ++ [(AM tk e false st).1]).length ≤ 6 := fun q => by
         have g := termP_good hk q
         refine ⟨fun t ht => ?_, ?_⟩
         · rcases List.mem_append.1 ht with ht | ht
           · exact h t ht
           · rw [List.mem_singleton.1 ht]; exact g.1
         · have : ¬ a.length = 6 := fun e6 => h1 ⟨g.2, e6⟩
           simp; omega
       by_cases h3 : Bt (AA tk e (AM tk e false st).2) ⟨#[44]⟩ = true
       · rw [if_pos h3] at hc ⊢
         have q := (D0 (tk := tk) (e := e) (st := (AM tk e false st).2) (by rw [DY h3]; decide)).1
         exact argsI_good f _ _ (step q).1 (step q).2 hc
       · rw [if_neg h3] at hc ⊢; exact step hc
   · rw [if_neg h0] at hc; exact absurd hc h0
theorem wordP_good {st : PS} (hc : (BK tk e st).2.code = 0) : DR (BK tk e st).1 = true := by
 by_cases h : BJ (AA tk e st) = true
 · rw [word_ok h]
   have k1 := IB h
   rcases here_tok (e := e) (st := st) hk with q | q
   · omega
   · have hw : C7 (AA tk e st).s = true := by rcases q with h | h | h | h; all_goals first | exact h.2.2 | omega
     have hkp : E2 (AA tk e st).s = false := by simpa [BJ, k1] using h
     show DR (AA tk e st).s = true
     unfold DR; rw [hw, hkp]; rfl
 · rw [HQ (by simpa using h)] at hc; exact absurd hc (Bq (by decide))
theorem HL {st : PS} (hc : (Cd tk e st).2.code = 0) : Db (Cd tk e st).1 = true := by
 by_cases h : Bt (AA tk e (B7 tk e st)) ⟨#[41]⟩ = true
 · have q := (D0 (tk := tk) (e := e) (st := B7 tk e st) (by rw [DY h]; decide)).1
   have w := wordP_good hk (DE q)
   rw [atomI_none h]
   show (DR (BK tk e st).1 && _) = true
   rw [w]; rfl
 · have hs := FE (tk := tk) (e := e) (st := st) (by simpa using h) (Prod.eta (Dp tk e 8 (B7 tk e st) [])).symm
   rw [hs] at hc ⊢
   have ha := DE hc
   have hg := argsI_good hk 8 (B7 tk e st) [] (by simp) (by simp) ha
   have ho : (B7 tk e st).code = 0 := Classical.byContradiction fun q => by
     rw [argsI_bad q] at ha; exact q ha
   have w := wordP_good hk (DE ho)
   show (DR (BK tk e st).1 && (decide ((Dp tk e 8 (B7 tk e st) []).1.length ≤ 6) && (Dp tk e 8 (B7 tk e st) []).1.all Cv)) = true
   rw [w, decide_eq_true hg.2, List.all_eq_true.2 hg.1]; rfl
theorem litI_good {st : PS} (hc : (CQ tk e st).2.code = 0) : Cs (CQ tk e st).1 = true := by
 by_cases hn : CP (AA tk e st) = true
 · rw [litI_not hn] at hc ⊢
   have := HL hk hc
   unfold Cs
   rw [if_pos (.inr rfl)]
   show (Db (Cd tk e st.next).1 && (decide ((0 : Int) = 0) && (Dh BP BP && Dh BP BP))) = true
   rw [this, same_noTerm]; rfl
 · have hn' : CP (AA tk e st) = false := by simpa using hn
   by_cases ho : CW tk e st = true
   · rw [litI_is hn' ho] at hc ⊢
     have := HL hk hc
     unfold Cs
     rw [if_pos (.inl rfl)]
     show (Db (Cd tk e st).1 && (decide ((0 : Int) = 0) && (Dh BP BP && Dh BP BP))) = true
     rw [this, same_noTerm]; rfl
   · have ho' : CW tk e st = false := by simpa using ho
     by_cases hp : opI (AA tk e (AM tk e false st).2) < 1
     · rw [CF hn' ho' hp] at hc; exact absurd hc (Bq (by decide))
     · have hs := CE hn' ho' hp
       rw [hs] at hc ⊢
       have k4 := opI_kind (t := AA tk e (AM tk e false st).2) (by omega)
       have c1 := (D0 (tk := tk) (e := e) (st := (AM tk e false st).2) (by rw [k4]; decide)).1
       have g1 := (termP_good hk c1).1
       have g2 := (termP_good hk hc).1
       have r := opN_range (AA tk e (AM tk e false st).2).s
       have hq := (opI_pos (AA tk e (AM tk e false st).2)).2 (by omega)
       have hle : opI (AA tk e (AM tk e false st).2) ≤ 4 := by rw [hq]; unfold opS; split <;> omega
       unfold Cs
       rw [if_neg (by rintro (h | h) <;> cases h), if_pos rfl]
       show (decide (1 ≤ opI (AA tk e (AM tk e false st).2) ∧ opI (AA tk e (AM tk e false st).2) ≤ 4) && (((⟨#[]⟩ : ByteArray) == (⟨#[]⟩ : ByteArray)) && (decide ((0 : Nat) = 0) && (Cv (AM tk e false st).1 && Cv (AM tk e false (AM tk e false st).2.next).1)))) = true
       rw [g1, g2, nil_beq, decide_eq_true (show 1 ≤ opI (AA tk e (AM tk e false st).2) ∧ opI (AA tk e (AM tk e false st).2) ≤ 4 by omega)]; rfl
theorem bodyI_good : ∀ (f : Nat) (st : PS) (a : List Litt), (∀ t ∈ a, Cs t = true) → a.length ≤ 8 → (CU tk e f st a).2.code = 0 → (∀ t ∈ (CU tk e f st a).1, Cs t = true) ∧ (CU tk e f st a).1.length ≤ 8
 | 0, st, a, h, hl, _ => ⟨h, hl⟩
 | f + 1, st, a, h, hl, hc => by
   unfold CU at hc ⊢
   by_cases h0 : st.code = 0
   · rw [if_pos h0] at hc ⊢
     by_cases h1 : BL (AA tk e st) = true ∧ a.length = 8
     · rw [if_pos h1] at hc; exact absurd hc (Bq (by decide))
     · rw [if_neg h1] at hc ⊢
       have step : (CQ tk e st).2.code = 0 → (∀ t ∈ a ++ [(CQ tk e st).1], Cs t = true) ∧ (a ++ [(CQ tk e st).1]).length ≤ 8 := fun q => by
         have g := litI_good hk q
         refine ⟨fun t ht => ?_, ?_⟩
         · rcases List.mem_append.1 ht with ht | ht
           · exact h t ht
           · rw [List.mem_singleton.1 ht]; exact g
         · have : ¬ a.length = 8 := fun e6 => by
             have hb : BL (AA tk e st) = false := by
               cases hq : BL (AA tk e st)
               · rfl
               · exact absurd ⟨hq, e6⟩ h1
             exact lit_none hb q
           simp; omega
       by_cases h3 : Bt (AA tk e (CQ tk e st).2) ⟨#[44]⟩ = true
       · rw [if_pos h3] at hc ⊢
         have q := (D0 (tk := tk) (e := e) (st := (CQ tk e st).2) (by rw [DY h3]; decide)).1
         exact bodyI_good f _ _ (step q).1 (step q).2 hc
       · rw [if_neg h3] at hc ⊢; exact step hc
   · rw [if_neg h0] at hc; exact absurd hc h0
theorem ruleI_good {st : PS} (hc : (C6 tk e st).2.code = 0) : Cx (C6 tk e st).1 = true := by
 by_cases h : Bt (AA tk e (Cd tk e (BX tk e st).2).2) ⟨#[58, 45]⟩ = true
 · rw [ruleI_body h] at hc ⊢
   have hb := DE hc
   have hg := bodyI_good hk 10 _ [] (by simp) (by simp) hb
   have ha := (D0 (tk := tk) (e := e) (st := (Cd tk e (BX tk e st).2).2) (by rw [DY h]; decide)).1
   exact rule_join (plus_range st) (HL hk ha) hg.1 hg.2
 · rw [ruleI_bare (by simpa using h)] at hc ⊢
   exact rule_join (plus_range st) (HL hk (DE hc)) (by simp) (by simp)
theorem declI_good {k : Int} {st : PS} (h1 : 1 ≤ k ∧ k ≤ 3) (hc : (CT tk e k st).2.code = 0) : Cc (CT tk e k st).1 = true := by
 by_cases h : (AA tk e (BB tk e st.next)).kind = 3
 · by_cases h2 : 6 < (AA tk e (BB tk e st.next)).n
   · rw [declI_big h h2] at hc
     have := DE hc
     exact absurd this (Bq (by decide))
   · rw [declI_ok h h2] at hc ⊢
     have hs := (D0 (tk := tk) (e := e) (st := BB tk e st.next) (by rw [h]; decide)).1
     have hw := wordP_good hk (DE hs)
     have hn : Df (AA tk e (BB tk e st.next)).n = true := by
       rcases here_tok (e := e) (st := BB tk e st.next) hk with q | q
       · omega
       · rcases q with h | h | h | h; all_goals first | exact h.2.2 | omega
     have hn2 : 0 ≤ (AA tk e (BB tk e st.next)).n := by
       unfold Df at hn; rw [decide_eq_true_eq] at hn; exact hn.1
     show (decide (1 ≤ k ∧ k ≤ 3 ∧ 0 ≤ (AA tk e (BB tk e st.next)).n ∧ (AA tk e (BB tk e st.next)).n ≤ 6) && DR (BK tk e st.next).1) = true
     rw [hw, decide_eq_true (show 1 ≤ k ∧ k ≤ 3 ∧ 0 ≤ (AA tk e (BB tk e st.next)).n ∧ (AA tk e (BB tk e st.next)).n ≤ 6 by omega)]; rfl
 · rw [declI_no h] at hc
   have := DE hc
   exact absurd this (Bq (by decide))
theorem progI_good : ∀ (f : Nat) (st : PS) (ds : List Declt) (rs : List Rulet), (∀ d ∈ ds, Cc d = true) → (∀ r ∈ rs, Cx r = true) → ds.length ≤ 16 → rs.length ≤ 24 → (Dn tk e f st ds rs).2.2.code = 0 →
   (∀ d ∈ (Dn tk e f st ds rs).1, Cc d = true) ∧ (∀ r ∈ (Dn tk e f st ds rs).2.1, Cx r = true) ∧ (Dn tk e f st ds rs).1.length ≤ 16 ∧ (Dn tk e f st ds rs).2.1.length ≤ 24
 | 0, st, ds, rs, h1, h2, h3, h4, _ => ⟨h1, h2, h3, h4⟩
 | f + 1, st, ds, rs, h1, h2, h3, h4, hc => by
   unfold Dn at hc ⊢
   by_cases h0 : st.code = 0 ∧ st.i < tk.length
   · rw [if_pos h0] at hc ⊢
     by_cases hf : (0 < BO (AA tk e st) ∧ ds.length = 16) ∨ (Bo (AA tk e st) = true ∧ rs.length = 24)
     · rw [if_pos hf, Du (Bq (by decide))] at hc
       exact absurd hc (Bq (by decide))
     · rw [if_neg hf] at hc ⊢
       by_cases hd : 0 < BO (AA tk e st)
       · rw [if_pos hd] at hc ⊢
         have c1 : (CT tk e (BO (AA tk e st)) st).2.code = 0 := Classical.byContradiction fun q => by
           rw [Du q] at hc; exact q hc
         have hr : BO (AA tk e st) ≤ 3 := by
           have := (kindI_pos (AA tk e st)).2 hd
           have r := kindN_range (AA tk e st).s
           rw [this]; unfold CS; split <;> omega
         refine progI_good f _ _ _ (fun d hd2 => ?_) h2 ?_ h4 hc
         · rcases List.mem_append.1 hd2 with q | q
           · exact h1 d q
           · rw [List.mem_singleton.1 q]; exact declI_good hk ⟨by omega, hr⟩ c1
         · have : ¬ ds.length = 16 := fun q => hf (.inl ⟨hd, q⟩)
           simp; omega
       · rw [if_neg hd] at hc ⊢
         by_cases hs : Bo (AA tk e st) = true
         · rw [if_pos hs] at hc ⊢
           have c1 : (C6 tk e st).2.code = 0 := Classical.byContradiction fun q => by
             rw [Du q] at hc; exact q hc
           refine progI_good f _ _ _ h1 (fun r hr => ?_) h3 ?_ hc
           · rcases List.mem_append.1 hr with q | q
             · exact h2 r q
             · rw [List.mem_singleton.1 q]; exact ruleI_good hk c1
           · have : ¬ rs.length = 24 := fun q => hf (.inr ⟨hs, q⟩)
             simp; omega
         · rw [if_neg hs, Du (Bq (by decide))] at hc
           exact absurd hc (Bq (by decide))
   · rw [if_neg h0] at hc ⊢; exact ⟨h1, h2, h3, h4⟩
end
theorem program_join {ds : List Declt} {rs : List Rulet} (h1 : ∀ d ∈ ds, Cc d = true) (h2 : ∀ r ∈ rs, Cx r = true) (h3 : ds.length ≤ 16) (h4 : rs.length ≤ 24) : Bm ⟨ds, rs⟩ = true := by
 show (decide (ds.length ≤ 16 ∧ rs.length ≤ 24) && (ds.all Cc && rs.all Cx)) = true
 rw [decide_eq_true (show ds.length ≤ 16 ∧ rs.length ≤ 24 from ⟨h3, h4⟩), List.all_eq_true.2 h1, List.all_eq_true.2 h2]; rfl
theorem parse_good (s : ByteArray) : Bm (Dw s).1 = true := by
 unfold Dw
 have hn : Bm ⟨[], []⟩ = true := rfl
 split
 · unfold Iv
   split
   · rename_i h
     have g := progI_good (e := (s.size : Int)) (lexAll_ok s) 43 ⟨0, 0, 0⟩ [] [] (by simp) (by simp) (by simp) (by simp) h
     exact program_join g.1 g.2.1 g.2.2.1 g.2.2.2
   · exact hn
 · exact hn
end Go.Proofs.YtkemjhlbokldhaaGreat

namespace Go.Proofs.YtkemjhlbokldhaaGreat
open Go.RowKit
set_option linter.unusedVariables false

def AV (P : Program) (N : Nat) (K : List Nat) (l0 : Locs) (c : Code) (Kn : St → Prop) (Q : Exit → St → Prop) (s : St) : Prop :=
 ∀ (g0 : Gh) (w0 : World), MemR g0 l0 w0 → ∀ (g : Gh) (a : Act) (w : World), Rep N g s a w → Step K g0 l0 w0 g s.l w → c.wp P (Ends N K g0 l0 w0 (NormR Kn Q)) a w
section
variable {P : Program} {N : Nat} {K : List Nat} {l0 : Locs} {Kn : St → Prop} {Q : Exit → St → Prop} {s : St}
theorem AW_of_AV {c : Code} (h : AV P N K s.l c Kn Q s) : AW P N K c Kn Q s := fun g a w r => h g w r.mem g a w r (Step.refl ..)
theorem A6 {c : Code} (h : AW P N K c Kn Q s) : AV P N K l0 c Kn Q s := fun g0 w0 m0 g a w r hs => Go.wp_mono (h g a w r) fun e a1 w1 h1 => h1.trans m0 r.mem hs
theorem AK {x y : Code} (h : AV P N K l0 x (AV P N K l0 y Kn Q) Q s) : AV P N K l0 (.seq x y) Kn Q s := fun g0 w0 m0 g a w r hs =>
 wp_seq (Go.wp_mono (h g0 w0 m0 g a w r hs) fun e a1 w1 h1 => by
   obtain ⟨g1, s1, r1, hs1, hR⟩ := h1
   cases e with
   | normal => exact hR g0 w0 m0 g1 a1 w1 r1 hs1
   | exit id => exact ⟨g1, s1, r1, hs1, hR⟩
   | goto l => exact ⟨g1, s1, r1, hs1, hR⟩
   | ret => exact ⟨g1, s1, r1, hs1, hR⟩
   | panic ch => exact ⟨g1, s1, r1, hs1, hR⟩
   | outgrown => exact ⟨g1, s1, r1, hs1, hR⟩)
theorem AV_cond {c : Operand} {x y : Code} {b : Bool} (hc : evo s.t c = some (.one (.c (.bool b)))) (ht : b = true → AV P N K l0 x Kn Q s) (hf : b = false → AV P N K l0 y Kn Q s) : AV P N K l0 (.cond c x y) Kn Q s := fun g0 w0 m0 g a w r hs => by
 obtain ⟨hv, _⟩ : a.eval c = .bool b ∧ wfV (.bool b) := B4 r (BC hc) (Cg hc)
 exact wp_cond_split hv (fun h => ht h g0 w0 m0 g a w r hs) (fun h => hf h g0 w0 m0 g a w r hs)
theorem D1 {c : Operand} {x y : Code} (hc : evo s.t c = some (.one (.c (.bool true)))) (h : AV P N K l0 x Kn Q s) : AV P N K l0 (.cond c x y) Kn Q s := AV_cond hc (fun _ => h) (fun h => by cases h)
theorem Ba {c : Operand} {x y : Code} (hc : evo s.t c = some (.one (.c (.bool false)))) (h : AV P N K l0 y Kn Q s) : AV P N K l0 (.cond c x y) Kn Q s := AV_cond hc (fun h => by cases h) (fun _ => h)
def Gho (N : Nat) (K : List Nat) (s s' : St) : Prop := ∀ (g : Gh) (a : Act) (w : World), Rep N g s a w → ∃ g', Rep N g' s' a w ∧ Step K g s.l w g' s'.l w
theorem EJ {c : Code} {s' : St} (h : Gho N K s s') (hA : AV P N K l0 c Kn Q s') : AV P N K l0 c Kn Q s := fun g0 w0 m0 g a w r hs => by
 obtain ⟨g', r', st⟩ := h g a w r
 exact hA g0 w0 m0 g' a w r' (hs.trans m0 r.mem st)
theorem AV_le {c : Code} {S : St} {r : Nat → Nat} (h : LeS K r s S) (hA : AV P N K l0 c Kn Q S) : AV P N K l0 c Kn Q s := fun g0 w0 m0 g a w R hs => hA g0 w0 m0 _ a w (R.le h) (hs.trans m0 R.mem (Step.unren h.l h.k))
end

theorem flat_disj {L : List (List Nat)} (h : L.flatten.Nodup) {i j : Nat} (hij : i ≠ j) {b c : List Nat} (hb : L[i]? = some b) (hc : L[j]? = some c) {x : Nat} (hx : x ∈ b) (hy : x ∈ c) : False := by
 have h2 := (List.pairwise_flatten.1 h).2
 obtain ⟨hi, rfl⟩ := List.getElem?_eq_some_iff.1 hb
 obtain ⟨hj, rfl⟩ := List.getElem?_eq_some_iff.1 hc
 rcases Nat.lt_or_gt_of_ne hij with h3 | h3
 · exact List.pairwise_iff_getElem.1 h2 i j hi hj h3 x hx x hy rfl
 · exact List.pairwise_iff_getElem.1 h2 j i hj hi h3 x hy x hx rfl
theorem flat_nodup {L : List (List Nat)} (h : L.flatten.Nodup) {i : Nat} {b : List Nat} (hb : L[i]? = some b) : b.Nodup := by
 obtain ⟨hi, rfl⟩ := List.getElem?_eq_some_iff.1 hb
 exact (List.pairwise_flatten.1 h).1 _ (List.getElem_mem hi)
theorem FR4 {w : World} {cs : List Value} {u0 u1 : Value} {c2 c3 : Cell} {b : List Nat} : FR w cs [.c u0, .c u1, c2, c3] b ↔ ∃ v2 v3 b2 b3, cs = [u0, u1, v2, v3] ∧ wfV u0 ∧ wfV u1 ∧ CFR w v2 c2 b2 ∧ CFR w v3 c3 b3 ∧ b = b2 ++ b3 := by
 constructor
 · intro h
   match cs, h with
   | [x0, x1, x2, x3], ⟨b0, r0, e0, ⟨k0, h0, z0⟩, b1, r1, e1, ⟨k1, h1, z1⟩, b2, r2, e2, h2, b3, r3, e3, h3, z3⟩ =>
     have z3 : r3 = [] := z3
     subst k0; subst k1; subst z0; subst z1; subst z3
     exact ⟨x2, x3, b2, b3, rfl, h0, h1, h2, h3, by rw [e0, e1, e2, e3]; simp⟩
   | [], h => exact h.elim
   | [_], ⟨_, _, _, _, h⟩ => exact h.elim
   | [_, _], ⟨_, _, _, _, _, _, _, _, h⟩ => exact h.elim
   | [_, _, _], ⟨_, _, _, _, _, _, _, _, _, _, _, _, h⟩ => exact h.elim
   | _ :: _ :: _ :: _ :: _ :: _, ⟨_, _, _, _, _, _, _, _, _, _, _, _, _, _, _, _, h⟩ => exact h.elim
 · rintro ⟨v2, v3, b2, b3, rfl, h0, h1, h2, h3, rfl⟩
   exact ⟨[], b2 ++ b3, rfl, ⟨rfl, h0, rfl⟩, [], b2 ++ b3, rfl, ⟨rfl, h1, rfl⟩, b2, b3, rfl, h2, b3, [], by simp, h3, rfl⟩
theorem IQ {α : Type} {T : TypeId} {e : Enc α} {w : World} {v : Value} {xs : List α} {b : List Nat} (h : CFR w v (.en (Fg T e) xs) b) : ∃ b', CFR w v (.sl e xs) b' ∧ ∀ c ∈ b', c ∈ b := by
 obtain ⟨a, n, cap, b', h1, h2, h3⟩ := tight_slice h.2
 exact ⟨b', ⟨a, n, cap, h1, h2⟩, h3⟩
theorem Elems.conv2 {α β : Type} {e : Enc α} {e' : Enc β} {w : World} {g off : Nat} {xs : List α} {ys : List β} {bss : List (List Nat)} {R : Nat → List Nat → Prop} (hsz : e'.size = e.size) (h : Elems e w g off xs bss) (hl : ys.length = xs.length)
   (hR : ∀ (j : Nat) (x : α) (y : β) (b : List Nat), xs[j]? = some x → ys[j]? = some y → bss[j]? = some b → ∀ cs, e.rep w cs x b → (∀ q u, cs[q]? = some u → w.cell? ⟨g, off + j * e.size + q, none⟩ = some u) → ∃ b', e'.rep w cs y b' ∧ R j b') :
   ∃ bss', Elems e' w g off ys bss' ∧ ∀ j b', bss'[j]? = some b' → R j b' := by
 let e2 : Enc (List Value × α) := { size := e.size, rep := fun w cs x bs => cs = x.1 ∧ e.rep w cs x.2 bs, len := fun h => e.len h.2, keep := fun h k s => ⟨h.1, e.keep h.2 k s⟩, lt := fun h => e.lt h.2 }
 have one : ∀ j : Fin xs.length, ∃ cs, e.rep w cs xs[j] (bss[j]'(by rw [h.1]; exact j.2)) ∧ ∀ q u, cs[q]? = some u → w.cell? ⟨g, off + j * e.size + q, none⟩ = some u := fun j =>
   h.2 j.1 _ _ (List.getElem?_eq_getElem j.2) (List.getElem?_eq_getElem (by rw [h.1]; exact j.2))
 have hE : Elems e2 w g off (List.ofFn fun j : Fin xs.length => (Classical.choose (one j), xs[j])) bss := by
   refine ⟨by simp [h.1], fun i x b hx hb => ?_⟩
   rw [List.getElem?_ofFn] at hx
   split at hx
   · rename_i hi
     cases hx
     obtain ⟨s1, s2⟩ := Classical.choose_spec (one ⟨i, hi⟩)
     have e1 : bss[i]'(by rw [h.1]; exact hi) = b := by rw [List.getElem?_eq_getElem (by rw [h.1]; exact hi)] at hb; exact Option.some.inj hb
     exact ⟨Classical.choose (one ⟨i, hi⟩), ⟨rfl, e1 ▸ s1⟩, s2⟩
   · cases hx
 refine Elems.conv (e := e2) (e' := e') hsz hE (by simp [hl]) fun j x y b hx hy hb cs hr => ?_
 rw [List.getElem?_ofFn] at hx
 split at hx
 · rename_i hj
   cases hx
   obtain ⟨rfl, hr2⟩ := hr
   exact hR j xs[j] y b (List.getElem?_eq_getElem hj) hy hb _ hr2 (Classical.choose_spec (one ⟨j, hj⟩)).2
 · cases hx

def Opened {α β γ : Type} (e : Enc α) (xs : List α) (T : TypeId) (ei : Enc β) (zs : List β) (e' : Enc γ) (ys : Value → List γ) : Prop :=
 ∀ (w : World) (gb : Nat) (bss : List (List Nat)), Elems e w gb 0 xs bss → bss.flatten.Nodup →
   ∃ V bss' hb, Elems e' w gb 0 (ys V) bss' ∧ (∀ b ∈ bss'.flatten, b ∈ bss.flatten ∧ (V = .slice none 0 0 ∨ b ≠ hb)) ∧
     ((V = .slice none 0 0 ∧ zs = []) ∨ ∃ cap vs bi, V = .slice (some ⟨hb, 0, none⟩) zs.length cap ∧ zs.length ≤ cap ∧ cap ≤ maxLen ∧ w.heap[hb]? = some (.cells vs T (0, 0)) ∧ vs.size = cap * ei.size ∧ Elems ei w hb 0 zs bi ∧ hb ∈ bss.flatten ∧ ∀ b ∈ bi.flatten, b ∈ bss.flatten ∧ b ≠ hb)
theorem tight_open {α : Type} {T : TypeId} {e : Enc α} {w : World} {v : Value} {xs : List α} {b : List Nat} (h : (Fg T e).rep w [v] xs b) (hn : b.Nodup) :
   (v = .slice none 0 0 ∧ xs = [] ∧ b = []) ∨ ∃ hb cap vs bi, v = .slice (some ⟨hb, 0, none⟩) xs.length cap ∧ xs.length ≤ cap ∧ cap ≤ maxLen ∧ w.heap[hb]? = some (.cells vs T (0, 0)) ∧ vs.size = cap * e.size ∧ Elems e w hb 0 xs bi ∧ hb ∈ b ∧ ∀ c ∈ bi.flatten, c ∈ b ∧ c ≠ hb := by
 obtain ⟨a, cap, h0, h⟩ := h
 have hv : v = .slice a xs.length cap := by simpa using h0
 rcases h with ⟨rfl, rfl, rfl, rfl⟩ | ⟨g, vs, bss, rfl, h2, h3, h4, h5, h6, rfl⟩
 · exact .inl ⟨hv, rfl, rfl⟩
 · refine .inr ⟨g, cap, vs, bss, hv, h2, h3, h4, h5, h6, List.mem_cons_self .., fun c hc => ⟨List.mem_cons_of_mem _ hc, fun e => ?_⟩⟩
   subst e
   exact (List.nodup_cons.1 hn).1 hc
def BS (rs : List Rulet) : List (Rulet × Option Value × Option Value) := rs.map fun r => (r, none, none)
theorem plain_get {rs : List Rulet} {i j : Nat} {y : Rulet × Option Value × Option Value} {z : Rulet × Option Value × Option Value} (h : ((BS rs).set i z)[j]? = some y) (hi : i < rs.length) : (j = i ∧ y = z) ∨ (j ≠ i ∧ ∃ x, rs[j]? = some x ∧ y = (x, none, none)) := by
 rw [List.getElem?_set] at h
 split at h
 · rename_i e
   subst e
   rw [if_pos (by simp [BS]; exact hi)] at h
   cases h
   exact .inl ⟨rfl, rfl⟩
 · rename_i e
   simp only [BS, List.getElem?_map, Option.map_eq_some_iff] at h
   obtain ⟨x, h1, h2⟩ := h
   exact .inr ⟨fun q => e q.symm, x, h1, h2.symm⟩
theorem IY {w : World} {cs : List Value} {x : Rulet} {b : List Nat} (h : ruleQ.rep w cs x b) : ∃ b', ruleH.rep w cs (x, none, none) b' ∧ ∀ c ∈ b', c ∈ b := by
 obtain ⟨v2, v3, b2, b3, rfl, h0, h1, h2, h3, rfl⟩ := FR4.1 h
 obtain ⟨c2, g2, m2⟩ := IQ h2
 obtain ⟨c3, g3, m3⟩ := IQ h3
 refine ⟨c2 ++ c3, FR4.2 ⟨v2, v3, c2, c3, rfl, h0, h1, g2, g3, rfl⟩, fun c hc => ?_⟩
 rcases List.mem_append.1 hc with hc | hc
 · exact List.mem_append_left _ (m2 c hc)
 · exact List.mem_append_right _ (m3 c hc)
theorem IZ {rs : List Rulet} {i : Nat} (hi : i < rs.length) : Opened ruleQ rs 46 Bx rs[i].head.args ruleH (fun V => (BS rs).set i (rs[i], some V, none)) := fun w gb bss hE hn => by
 have hib : i < bss.length := hE.1 ▸ hi
 obtain ⟨cs, hr, hcell⟩ := hE.2 i _ _ (List.getElem?_eq_getElem hi) (List.getElem?_eq_getElem hib)
 obtain ⟨v2, v3, b2, b3, rfl, h0, h1, h2, h3, hb⟩ := FR4.1 hr
 have hbi : bss[i]? = some (b2 ++ b3) := by rw [List.getElem?_eq_getElem hib, hb]
 have hnb := List.nodup_append.1 (flat_nodup hn hbi)
 have hin : ∀ c ∈ b2 ++ b3, c ∈ bss.flatten := fun c hc => List.mem_flatten.2 ⟨_, List.mem_of_getElem? hbi, hc⟩
 have hV : ∀ cs' b', ruleQ.rep w cs' rs[i] b' → (∀ q u, cs'[q]? = some u → w.cell? ⟨gb, 0 + i * ruleQ.size + q, none⟩ = some u) → ∃ u3, cs' = [.int .i64 rs[i].kind, .string rs[i].head.name, v2, u3] := fun cs' b' hr' hc' => by
   obtain ⟨x2, x3, d2, d3, rfl, _⟩ := FR4.1 hr'
   have e1 := hc' 2 x2 rfl
   rw [hcell 2 v2 rfl] at e1
   cases e1
   exact ⟨x3, rfl⟩
 obtain ⟨bss', hE', hR⟩ := Elems.conv2 (e := ruleQ) (e' := ruleH) (ys := (BS rs).set i (rs[i], some v2, none)) (R := fun j b' => ∃ b, bss[j]? = some b ∧ ∀ c ∈ b', c ∈ b ∧ (j = i → c ∈ b3)) rfl hE (by simp [BS]) (fun j x y b hx hy hb2 cs' hr' hc' => by
   rcases plain_get hy hi with ⟨rfl, rfl⟩ | ⟨hne, x', hx', rfl⟩
   · have ex : rs[j] = x := by rw [List.getElem?_eq_getElem hi] at hx; exact Option.some.inj hx
     subst ex
     have eb : b = b2 ++ b3 := by rw [hbi] at hb2; exact (Option.some.inj hb2).symm
     subst eb
     obtain ⟨u3, rfl⟩ := hV cs' _ hr' hc'
     have e3 : u3 = v3 := by
       have := hc' 3 u3 rfl
       rw [hcell 3 v3 rfl] at this
       exact (Option.some.inj this).symm
     subst e3
     obtain ⟨c3, g3, m3⟩ := IQ h3
     exact ⟨c3, FR4.2 ⟨v2, u3, [], c3, rfl, h0, h1, ⟨h2.1, rfl, rfl⟩, g3, rfl⟩, _, hbi, fun c hc => ⟨List.mem_append_right _ (m3 c hc), fun _ => m3 c hc⟩⟩
   · have ex : x' = x := by rw [hx] at hx'; exact (Option.some.inj hx').symm
     subst ex
     obtain ⟨b', q1, q2⟩ := IY hr'
     exact ⟨b', q1, b, hb2, fun c hc => ⟨q2 c hc, fun e => absurd e hne⟩⟩)
 have sub : ∀ c ∈ bss'.flatten, c ∈ bss.flatten ∧ ∀ x ∈ b2, c ≠ x := fun c hc => by
   obtain ⟨b', hb', hcb⟩ := List.mem_flatten.1 hc
   obtain ⟨j, hj, rfl⟩ := List.getElem_of_mem hb'
   obtain ⟨b, q1, q2⟩ := hR j _ (List.getElem?_eq_getElem hj)
   refine ⟨List.mem_flatten.2 ⟨b, List.mem_of_getElem? q1, (q2 c hcb).1⟩, fun x hx e => ?_⟩
   subst e
   by_cases hji : j = i
   · exact hnb.2.2 c hx c ((q2 c hcb).2 hji) rfl
   · exact flat_disj hn hji q1 hbi (q2 c hcb).1 (List.mem_append_left _ hx)
 rcases tight_open h2.2 hnb.1 with ⟨e1, e2, e3⟩ | ⟨hb', cap, vs, bi, e1, e2, e3, e4, e5, e6, e7, e8⟩
 · exact ⟨v2, bss', 0, hE', fun b hb => ⟨(sub b hb).1, .inl e1⟩, .inl ⟨e1, e2⟩⟩
 · exact ⟨v2, bss', hb', hE', fun b hb => ⟨(sub b hb).1, .inr ((sub b hb).2 _ e7)⟩, .inr ⟨cap, vs, bi, e1, e2, e3, e4, e5, e6, hin _ (List.mem_append_left _ e7), fun b hb => ⟨hin _ (List.mem_append_left _ (e8 b hb).1), (e8 b hb).2⟩⟩⟩
theorem opened_body {rs : List Rulet} {i : Nat} (hi : i < rs.length) : Opened ruleQ rs 48 DI rs[i].body ruleH (fun V => (BS rs).set i (rs[i], none, some V)) := fun w gb bss hE hn => by
 have hib : i < bss.length := hE.1 ▸ hi
 obtain ⟨cs, hr, hcell⟩ := hE.2 i _ _ (List.getElem?_eq_getElem hi) (List.getElem?_eq_getElem hib)
 obtain ⟨v2, v3, b2, b3, rfl, h0, h1, h2, h3, hb⟩ := FR4.1 hr
 have hbi : bss[i]? = some (b2 ++ b3) := by rw [List.getElem?_eq_getElem hib, hb]
 have hnb := List.nodup_append.1 (flat_nodup hn hbi)
 have hin : ∀ c ∈ b2 ++ b3, c ∈ bss.flatten := fun c hc => List.mem_flatten.2 ⟨_, List.mem_of_getElem? hbi, hc⟩
 have hV : ∀ cs' b', ruleQ.rep w cs' rs[i] b' → (∀ q u, cs'[q]? = some u → w.cell? ⟨gb, 0 + i * ruleQ.size + q, none⟩ = some u) → ∃ u2, cs' = [.int .i64 rs[i].kind, .string rs[i].head.name, u2, v3] := fun cs' b' hr' hc' => by
   obtain ⟨x2, x3, d2, d3, rfl, _⟩ := FR4.1 hr'
   have e1 := hc' 3 x3 rfl
   rw [hcell 3 v3 rfl] at e1
   cases e1
   exact ⟨x2, rfl⟩
 obtain ⟨bss', hE', hR⟩ := Elems.conv2 (e := ruleQ) (e' := ruleH) (ys := (BS rs).set i (rs[i], none, some v3)) (R := fun j b' => ∃ b, bss[j]? = some b ∧ ∀ c ∈ b', c ∈ b ∧ (j = i → c ∈ b2)) rfl hE (by simp [BS]) (fun j x y b hx hy hb2 cs' hr' hc' => by
   rcases plain_get hy hi with ⟨rfl, rfl⟩ | ⟨hne, x', hx', rfl⟩
   · have ex : rs[j] = x := by rw [List.getElem?_eq_getElem hi] at hx; exact Option.some.inj hx
     subst ex
     have eb : b = b2 ++ b3 := by rw [hbi] at hb2; exact (Option.some.inj hb2).symm
     subst eb
     obtain ⟨u2, rfl⟩ := hV cs' _ hr' hc'
     have e3 : u2 = v2 := by
       have := hc' 2 u2 rfl
       rw [hcell 2 v2 rfl] at this
       exact (Option.some.inj this).symm
     subst e3
     obtain ⟨c2, g2, m2⟩ := IQ h2
     exact ⟨c2, FR4.2 ⟨u2, v3, c2, [], rfl, h0, h1, g2, ⟨h3.1, rfl, rfl⟩, by simp⟩, _, hbi, fun c hc => ⟨List.mem_append_left _ (m2 c hc), fun _ => m2 c hc⟩⟩
   · have ex : x' = x := by rw [hx] at hx'; exact (Option.some.inj hx').symm
     subst ex
     obtain ⟨b', q1, q2⟩ := IY hr'
     exact ⟨b', q1, b, hb2, fun c hc => ⟨q2 c hc, fun e => absurd e hne⟩⟩)
 have sub : ∀ c ∈ bss'.flatten, c ∈ bss.flatten ∧ ∀ x ∈ b3, c ≠ x := fun c hc => by
   obtain ⟨b', hb', hcb⟩ := List.mem_flatten.1 hc
   obtain ⟨j, hj, rfl⟩ := List.getElem_of_mem hb'
   obtain ⟨b, q1, q2⟩ := hR j _ (List.getElem?_eq_getElem hj)
   refine ⟨List.mem_flatten.2 ⟨b, List.mem_of_getElem? q1, (q2 c hcb).1⟩, fun x hx e => ?_⟩
   subst e
   by_cases hji : j = i
   · exact hnb.2.2 c ((q2 c hcb).2 hji) c hx rfl
   · exact flat_disj hn hji q1 hbi (q2 c hcb).1 (List.mem_append_right _ hx)
 rcases tight_open h3.2 hnb.2.1 with ⟨e1, e2, e3⟩ | ⟨hb', cap, vs, bi, e1, e2, e3, e4, e5, e6, e7, e8⟩
 · exact ⟨v3, bss', 0, hE', fun b hb => ⟨(sub b hb).1, .inl e1⟩, .inl ⟨e1, e2⟩⟩
 · exact ⟨v3, bss', hb', hE', fun b hb => ⟨(sub b hb).1, .inr ((sub b hb).2 _ e7)⟩, .inr ⟨cap, vs, bi, e1, e2, e3, e4, e5, e6, hin _ (List.mem_append_right _ e7), fun b hb => ⟨hin _ (List.mem_append_right _ (e8 b hb).1), (e8 b hb).2⟩⟩⟩
end Go.Proofs.YtkemjhlbokldhaaGreat

/- Lemmas of the walks, part 7. -/
import Derived.Test.YtkemjhlbokldhaaE6
/- What is read without a fault is well formed. -/
namespace Go.Proofs.Ytkemjhlbokldhaa
open Go.RowKit
set_option linter.unusedVariables false
set_option linter.unusedSimpArgs false

theorem beq_nil {s : ByteArray} (h : s.size = 0 → False) : (s == (⟨#[]⟩ : ByteArray)) = false := ba_no.2 fun e => h (by rw [e]; rfl)
theorem nil_beq : ((⟨#[]⟩ : ByteArray) == (⟨#[]⟩ : ByteArray)) = true := ba_iff.2 rfl
theorem kept_nil : keptB (⟨#[]⟩ : ByteArray) = false := by simp [keptB, ByteArray.toList_eq]
theorem nil_empty : (⟨#[]⟩ : ByteArray).toList.isEmpty = true := by rw [ByteArray.toList_eq]; rfl
theorem size_empty {s : ByteArray} (h : 1 ≤ s.size) : s.toList.isEmpty = false := by
 rw [ByteArray.toList_eq]
 cases hl : s.data.toList with
 | nil => have : s.data.toList.length = s.size := by simp
          rw [hl] at this; simp at this; omega
 | cons c l => rfl
theorem wordB_pos {s : ByteArray} (h : wordB s = true) : 1 ≤ s.size ∧ s.size ≤ 12 := by
 simp only [wordB, shortB, Bool.and_eq_true, decide_eq_true_eq] at h; omega
theorem varB_pos {s : ByteArray} (h : varB s = true) : 1 ≤ s.size ∧ s.size ≤ 12 := by
 simp only [varB, shortB, Bool.and_eq_true, decide_eq_true_eq] at h; omega
theorem same_noVal : sameVal noVal noVal = true := by unfold sameVal; simp [noVal, nil_beq]
theorem same_noTerm : sameTerm noTerm noTerm = true := by unfold sameTerm; simp [noTerm, same_noVal, nil_beq]
section
variable {tk : List Tokent} {e : Int}
theorem termOf_good {t : Tokent} (h : tokOk t) (h2 : termT t = true) : termB (termOfT t) = true := by
 by_cases k2 : t.kind = 2
 · have hv : varB t.s = true := by rcases h with h | h | h | h; all_goals first | exact h.2 | omega
   have := varB_pos hv
   rw [of_var k2]; unfold termB
   rw [if_neg (by show ¬ (t.s == (⟨#[]⟩ : ByteArray)) = true; rw [beq_nil (by omega)]; decide)]
   show (varB t.s && sameVal noVal noVal) = true
   rw [hv, same_noVal]; rfl
 · by_cases k3 : t.kind = 3
   · have hv : numB t.n = true := by rcases h with h | h | h | h; all_goals first | exact h.2.2 | omega
     rw [of_num k2 k3]; unfold termB
     rw [if_pos nil_beq]
     show (valOk ⟨t.n, ⟨#[]⟩⟩ && !keptB ⟨#[]⟩) = true
     unfold valOk
     rw [if_pos nil_empty, kept_nil]
     show (numB t.n && !false) = true
     rw [hv]; rfl
   · have hn : nameT t = true := by simpa [termT, k2, k3] using h2
     have k1 := name_kind hn
     have hw : wordB t.s = true := by rcases h with h | h | h | h; all_goals first | exact h.2.2 | omega
     have hp := wordB_pos hw
     have hkp : keptB t.s = false := by simpa [nameT, k1] using hn
     rw [of_name k2 k3]; unfold termB
     rw [if_pos nil_beq]
     show (valOk ⟨0, t.s⟩ && !keptB t.s) = true
     unfold valOk
     rw [if_neg (by show ¬ t.s.toList.isEmpty = true; rw [size_empty hp.1]; decide), hkp]
     show ((0 : Int) == 0 && wordB t.s && !false) = true
     rw [hw]; rfl
theorem plus_range (st : PS) : 1 ≤ (plusP tk e st).1 ∧ (plusP tk e st).1 ≤ 3 := by
 unfold plusP
 split
 · exact ⟨by dsimp only; omega, by dsimp only; omega⟩
 · split <;> exact ⟨by dsimp only; omega, by dsimp only; omega⟩
theorem rule_join {k : Int} {a : Atomt} {b : List Litt} (h1 : 1 ≤ k ∧ k ≤ 3) (h2 : atomB a = true) (h3 : ∀ t ∈ b, litB t = true) (h4 : b.length ≤ 8) : ruleB ⟨k, a, b⟩ = true := by
 show (decide (1 ≤ k ∧ k ≤ 3) && (atomB a && (decide (b.length ≤ 8) && b.all litB))) = true
 rw [h2, decide_eq_true h1, decide_eq_true h4, List.all_eq_true.2 h3]; rfl
variable (hk : ∀ t ∈ tk, tokOk t)
include hk
theorem termP_good {st : PS} (hc : (termP tk e false st).2.code = 0) : termB (termP tk e false st).1 = true ∧ termT (hereT tk e st) = true := by
 by_cases h : termT (hereT tk e st) = true
 · rw [term_ok h]
   refine ⟨termOf_good ?_ h, h⟩
   rcases here_tok (e := e) (st := st) hk with q | q
   · exact absurd q (term_kind h)
   · exact q
 · rw [term_no (by simpa using h)] at hc
   exact absurd hc (fault_code (by decide))
theorem argsI_good : ∀ (f : Nat) (st : PS) (a : List Termt), (∀ t ∈ a, termB t = true) → a.length ≤ 6 → (argsI tk e f st a).2.code = 0 → (∀ t ∈ (argsI tk e f st a).1, termB t = true) ∧ (argsI tk e f st a).1.length ≤ 6
 | 0, st, a, h, hl, _ => ⟨h, hl⟩
 | f + 1, st, a, h, hl, hc => by
   unfold argsI at hc ⊢
   by_cases h0 : st.code = 0
   · rw [if_pos h0] at hc ⊢
     by_cases h1 : termT (hereT tk e st) = true ∧ a.length = 6
     · rw [if_pos h1] at hc; exact absurd hc (fault_code (by decide))
     · rw [if_neg h1] at hc ⊢
       have step : (termP tk e false st).2.code = 0 → (∀ t ∈ a ++ [(termP tk e false st).1], termB t = true) ∧ (a ++ [(termP tk e false st).1]).length ≤ 6 := fun q => by
         have g := termP_good hk q
         refine ⟨fun t ht => ?_, ?_⟩
         · rcases List.mem_append.1 ht with ht | ht
           · exact h t ht
           · rw [List.mem_singleton.1 ht]; exact g.1
         · have : ¬ a.length = 6 := fun e6 => h1 ⟨g.2, e6⟩
           simp; omega
       by_cases h3 : signT (hereT tk e (termP tk e false st).2) ⟨#[44]⟩ = true
       · rw [if_pos h3] at hc ⊢
         have q := (here_good (tk := tk) (e := e) (st := (termP tk e false st).2) (by rw [sign_kind h3]; decide)).1
         exact argsI_good f _ _ (step q).1 (step q).2 hc
       · rw [if_neg h3] at hc ⊢; exact step hc
   · rw [if_neg h0] at hc; exact absurd hc h0
theorem wordP_good {st : PS} (hc : (wordP tk e st).2.code = 0) : nameB (wordP tk e st).1 = true := by
 by_cases h : nameT (hereT tk e st) = true
 · rw [word_ok h]
   have k1 := name_kind h
   rcases here_tok (e := e) (st := st) hk with q | q
   · omega
   · have hw : wordB (hereT tk e st).s = true := by rcases q with h | h | h | h; all_goals first | exact h.2.2 | omega
     have hkp : keptB (hereT tk e st).s = false := by simpa [nameT, k1] using h
     show nameB (hereT tk e st).s = true
     unfold nameB; rw [hw, hkp]; rfl
 · rw [word_no (by simpa using h)] at hc; exact absurd hc (fault_code (by decide))
theorem atomI_good {st : PS} (hc : (atomI tk e st).2.code = 0) : atomB (atomI tk e st).1 = true := by
 by_cases h : signT (hereT tk e (atomOpen tk e st)) ⟨#[41]⟩ = true
 · have q := (here_good (tk := tk) (e := e) (st := atomOpen tk e st) (by rw [sign_kind h]; decide)).1
   have w := wordP_good hk (take_code q)
   rw [atomI_none h]
   show (nameB (wordP tk e st).1 && _) = true
   rw [w]; rfl
 · have hs := atomI_some (tk := tk) (e := e) (st := st) (by simpa using h) (Prod.eta (argsI tk e 8 (atomOpen tk e st) [])).symm
   rw [hs] at hc ⊢
   have ha := take_code hc
   have hg := argsI_good hk 8 (atomOpen tk e st) [] (by simp) (by simp) ha
   have ho : (atomOpen tk e st).code = 0 := Classical.byContradiction fun q => by
     rw [argsI_bad q] at ha; exact q ha
   have w := wordP_good hk (take_code ho)
   show (nameB (wordP tk e st).1 && (decide ((argsI tk e 8 (atomOpen tk e st) []).1.length ≤ 6) && (argsI tk e 8 (atomOpen tk e st) []).1.all termB)) = true
   rw [w, decide_eq_true hg.2, List.all_eq_true.2 hg.1]; rfl
theorem litI_good {st : PS} (hc : (litI tk e st).2.code = 0) : litB (litI tk e st).1 = true := by
 by_cases hn : notT (hereT tk e st) = true
 · rw [litI_not hn] at hc ⊢
   have := atomI_good hk hc
   unfold litB
   rw [if_pos (.inr rfl)]
   show (atomB (atomI tk e st.next).1 && (decide ((0 : Int) = 0) && (sameTerm noTerm noTerm && sameTerm noTerm noTerm))) = true
   rw [this, same_noTerm]; rfl
 · have hn' : notT (hereT tk e st) = false := by simpa using hn
   by_cases ho : openT tk e st = true
   · rw [litI_is hn' ho] at hc ⊢
     have := atomI_good hk hc
     unfold litB
     rw [if_pos (.inl rfl)]
     show (atomB (atomI tk e st).1 && (decide ((0 : Int) = 0) && (sameTerm noTerm noTerm && sameTerm noTerm noTerm))) = true
     rw [this, same_noTerm]; rfl
   · have ho' : openT tk e st = false := by simpa using ho
     by_cases hp : opI (hereT tk e (termP tk e false st).2) < 1
     · rw [litI_bad hn' ho' hp] at hc; exact absurd hc (fault_code (by decide))
     · have hs := litI_cmp hn' ho' hp
       rw [hs] at hc ⊢
       have k4 := opI_kind (t := hereT tk e (termP tk e false st).2) (by omega)
       have c1 := (here_good (tk := tk) (e := e) (st := (termP tk e false st).2) (by rw [k4]; decide)).1
       have g1 := (termP_good hk c1).1
       have g2 := (termP_good hk hc).1
       have r := opN_range (hereT tk e (termP tk e false st).2).s
       have hq := (opI_pos (hereT tk e (termP tk e false st).2)).2 (by omega)
       have hle : opI (hereT tk e (termP tk e false st).2) ≤ 4 := by rw [hq]; unfold opS; split <;> omega
       unfold litB
       rw [if_neg (by rintro (h | h) <;> cases h), if_pos rfl]
       show (decide (1 ≤ opI (hereT tk e (termP tk e false st).2) ∧ opI (hereT tk e (termP tk e false st).2) ≤ 4) && (((⟨#[]⟩ : ByteArray) == (⟨#[]⟩ : ByteArray)) && (decide ((0 : Nat) = 0) && (termB (termP tk e false st).1 && termB (termP tk e false (termP tk e false st).2.next).1)))) = true
       rw [g1, g2, nil_beq, decide_eq_true (show 1 ≤ opI (hereT tk e (termP tk e false st).2) ∧ opI (hereT tk e (termP tk e false st).2) ≤ 4 by omega)]; rfl
theorem bodyI_good : ∀ (f : Nat) (st : PS) (a : List Litt), (∀ t ∈ a, litB t = true) → a.length ≤ 8 → (bodyI tk e f st a).2.code = 0 → (∀ t ∈ (bodyI tk e f st a).1, litB t = true) ∧ (bodyI tk e f st a).1.length ≤ 8
 | 0, st, a, h, hl, _ => ⟨h, hl⟩
 | f + 1, st, a, h, hl, hc => by
   unfold bodyI at hc ⊢
   by_cases h0 : st.code = 0
   · rw [if_pos h0] at hc ⊢
     by_cases h1 : beginsT (hereT tk e st) = true ∧ a.length = 8
     · rw [if_pos h1] at hc; exact absurd hc (fault_code (by decide))
     · rw [if_neg h1] at hc ⊢
       have step : (litI tk e st).2.code = 0 → (∀ t ∈ a ++ [(litI tk e st).1], litB t = true) ∧ (a ++ [(litI tk e st).1]).length ≤ 8 := fun q => by
         have g := litI_good hk q
         refine ⟨fun t ht => ?_, ?_⟩
         · rcases List.mem_append.1 ht with ht | ht
           · exact h t ht
           · rw [List.mem_singleton.1 ht]; exact g
         · have : ¬ a.length = 8 := fun e6 => by
             have hb : beginsT (hereT tk e st) = false := by
               cases hq : beginsT (hereT tk e st)
               · rfl
               · exact absurd ⟨hq, e6⟩ h1
             exact lit_none hb q
           simp; omega
       by_cases h3 : signT (hereT tk e (litI tk e st).2) ⟨#[44]⟩ = true
       · rw [if_pos h3] at hc ⊢
         have q := (here_good (tk := tk) (e := e) (st := (litI tk e st).2) (by rw [sign_kind h3]; decide)).1
         exact bodyI_good f _ _ (step q).1 (step q).2 hc
       · rw [if_neg h3] at hc ⊢; exact step hc
   · rw [if_neg h0] at hc; exact absurd hc h0
theorem ruleI_good {st : PS} (hc : (ruleI tk e st).2.code = 0) : ruleB (ruleI tk e st).1 = true := by
 by_cases h : signT (hereT tk e (atomI tk e (plusP tk e st).2).2) ⟨#[58, 45]⟩ = true
 · rw [ruleI_body h] at hc ⊢
   have hb := take_code hc
   have hg := bodyI_good hk 10 _ [] (by simp) (by simp) hb
   have ha := (here_good (tk := tk) (e := e) (st := (atomI tk e (plusP tk e st).2).2) (by rw [sign_kind h]; decide)).1
   exact rule_join (plus_range st) (atomI_good hk ha) hg.1 hg.2
 · rw [ruleI_bare (by simpa using h)] at hc ⊢
   exact rule_join (plus_range st) (atomI_good hk (take_code hc)) (by simp) (by simp)
theorem declI_good {k : Int} {st : PS} (h1 : 1 ≤ k ∧ k ≤ 3) (hc : (declI tk e k st).2.code = 0) : declB (declI tk e k st).1 = true := by
 by_cases h : (hereT tk e (slashP tk e st.next)).kind = 3
 · by_cases h2 : 6 < (hereT tk e (slashP tk e st.next)).n
   · rw [declI_big h h2] at hc
     have := take_code hc
     exact absurd this (fault_code (by decide))
   · rw [declI_ok h h2] at hc ⊢
     have hs := (here_good (tk := tk) (e := e) (st := slashP tk e st.next) (by rw [h]; decide)).1
     have hw := wordP_good hk (take_code hs)
     have hn : numB (hereT tk e (slashP tk e st.next)).n = true := by
       rcases here_tok (e := e) (st := slashP tk e st.next) hk with q | q
       · omega
       · rcases q with h | h | h | h; all_goals first | exact h.2.2 | omega
     have hn2 : 0 ≤ (hereT tk e (slashP tk e st.next)).n := by
       unfold numB at hn; rw [decide_eq_true_eq] at hn; exact hn.1
     show (decide (1 ≤ k ∧ k ≤ 3 ∧ 0 ≤ (hereT tk e (slashP tk e st.next)).n ∧ (hereT tk e (slashP tk e st.next)).n ≤ 6) && nameB (wordP tk e st.next).1) = true
     rw [hw, decide_eq_true (show 1 ≤ k ∧ k ≤ 3 ∧ 0 ≤ (hereT tk e (slashP tk e st.next)).n ∧ (hereT tk e (slashP tk e st.next)).n ≤ 6 by omega)]; rfl
 · rw [declI_no h] at hc
   have := take_code hc
   exact absurd this (fault_code (by decide))
theorem progI_good : ∀ (f : Nat) (st : PS) (ds : List Declt) (rs : List Rulet), (∀ d ∈ ds, declB d = true) → (∀ r ∈ rs, ruleB r = true) → ds.length ≤ 16 → rs.length ≤ 24 → (progI tk e f st ds rs).2.2.code = 0 →
   (∀ d ∈ (progI tk e f st ds rs).1, declB d = true) ∧ (∀ r ∈ (progI tk e f st ds rs).2.1, ruleB r = true) ∧ (progI tk e f st ds rs).1.length ≤ 16 ∧ (progI tk e f st ds rs).2.1.length ≤ 24
 | 0, st, ds, rs, h1, h2, h3, h4, _ => ⟨h1, h2, h3, h4⟩
 | f + 1, st, ds, rs, h1, h2, h3, h4, hc => by
   unfold progI at hc ⊢
   by_cases h0 : st.code = 0 ∧ st.i < tk.length
   · rw [if_pos h0] at hc ⊢
     by_cases hf : (0 < kindI (hereT tk e st) ∧ ds.length = 16) ∨ (startsT (hereT tk e st) = true ∧ rs.length = 24)
     · rw [if_pos hf, progI_bad (fault_code (by decide))] at hc
       exact absurd hc (fault_code (by decide))
     · rw [if_neg hf] at hc ⊢
       by_cases hd : 0 < kindI (hereT tk e st)
       · rw [if_pos hd] at hc ⊢
         have c1 : (declI tk e (kindI (hereT tk e st)) st).2.code = 0 := Classical.byContradiction fun q => by
           rw [progI_bad q] at hc; exact q hc
         have hr : kindI (hereT tk e st) ≤ 3 := by
           have := (kindI_pos (hereT tk e st)).2 hd
           have r := kindN_range (hereT tk e st).s
           rw [this]; unfold kindS; split <;> omega
         refine progI_good f _ _ _ (fun d hd2 => ?_) h2 ?_ h4 hc
         · rcases List.mem_append.1 hd2 with q | q
           · exact h1 d q
           · rw [List.mem_singleton.1 q]; exact declI_good hk ⟨by omega, hr⟩ c1
         · have : ¬ ds.length = 16 := fun q => hf (.inl ⟨hd, q⟩)
           simp; omega
       · rw [if_neg hd] at hc ⊢
         by_cases hs : startsT (hereT tk e st) = true
         · rw [if_pos hs] at hc ⊢
           have c1 : (ruleI tk e st).2.code = 0 := Classical.byContradiction fun q => by
             rw [progI_bad q] at hc; exact q hc
           refine progI_good f _ _ _ h1 (fun r hr => ?_) h3 ?_ hc
           · rcases List.mem_append.1 hr with q | q
             · exact h2 r q
             · rw [List.mem_singleton.1 q]; exact ruleI_good hk c1
           · have : ¬ rs.length = 24 := fun q => hf (.inr ⟨hs, q⟩)
             simp; omega
         · rw [if_neg hs, progI_bad (fault_code (by decide))] at hc
           exact absurd hc (fault_code (by decide))
   · rw [if_neg h0] at hc ⊢; exact ⟨h1, h2, h3, h4⟩
end
theorem program_join {ds : List Declt} {rs : List Rulet} (h1 : ∀ d ∈ ds, declB d = true) (h2 : ∀ r ∈ rs, ruleB r = true) (h3 : ds.length ≤ 16) (h4 : rs.length ≤ 24) : programB ⟨ds, rs⟩ = true := by
 show (decide (ds.length ≤ 16 ∧ rs.length ≤ 24) && (ds.all declB && rs.all ruleB)) = true
 rw [decide_eq_true (show ds.length ≤ 16 ∧ rs.length ≤ 24 from ⟨h3, h4⟩), List.all_eq_true.2 h1, List.all_eq_true.2 h2]; rfl
theorem parse_good (s : ByteArray) : programB (parseI s).1 = true := by
 unfold parseI
 have hn : programB ⟨[], []⟩ = true := rfl
 split
 · unfold endR
   split
   · rename_i h
     have g := progI_good (e := (s.size : Int)) (lexAll_ok s) 43 ⟨0, 0, 0⟩ [] [] (by simp) (by simp) (by simp) (by simp) h
     exact program_join g.1 g.2.1 g.2.2.1 g.2.2.2
   · exact hn
 · exact hn
end Go.Proofs.Ytkemjhlbokldhaa

/- A printed text is taken apart into the words and signs that were printed. -/
namespace Go.Proofs.Ytkemjhlbokldhaa
open Go.RowKit
set_option linter.unusedVariables false
set_option linter.unusedSimpArgs false

abbrev Key : Type := Int × Int × ByteArray
def tkey (t : Tokent) : Key := (t.kind, t.n, t.s)
/-- The text w stands in s at i. -/
def Has (s : ByteArray) (i : Nat) (w : ByteArray) : Prop := i + w.size ≤ s.size ∧ (s.data.toList.drop i).take w.size = w.data.toList
theorem size_list (w : ByteArray) : w.data.toList.length = w.size := by simp
theorem Has.ext {s w : ByteArray} {i : Nat} (h : Has s i w) : s.extract i (i + w.size) = w := by
 refine ByteArray.ext (Array.ext' ?_)
 rw [ext_bytes h.1, h.2]
theorem Has.app {s a b : ByteArray} {i : Nat} (h : Has s i (a ++ b)) : Has s i a ∧ Has s (i + a.size) b := by
 obtain ⟨h1, h2⟩ := h
 rw [size_app] at h1 h2
 rw [ByteArray.data_append, Array.toList_append] at h2
 refine ⟨⟨by omega, ?_⟩, ⟨by omega, ?_⟩⟩
 · have := congrArg (List.take a.size) h2
   rw [List.take_take, Nat.min_eq_left (by omega), List.take_append_of_le_length (by rw [size_list]; exact Nat.le_refl _), List.take_of_length_le (l := a.data.toList) (by rw [size_list]; exact Nat.le_refl _)] at this
   exact this
 · have := congrArg (List.drop a.size) h2
   rw [List.drop_take, List.drop_drop, List.drop_append_of_le_length (by rw [size_list]; exact Nat.le_refl _), show a.data.toList.drop a.size = [] from List.drop_of_length_le (by rw [size_list]; exact Nat.le_refl _), List.nil_append, Nat.add_sub_cancel_left] at this
   exact this
theorem Has.get {s w : ByteArray} {i : Nat} (h : Has s i w) {k : Nat} (hk : k < w.size) : s[i + k]'(by have := h.1; omega) = w[k] := by
 have h1 := h.1
 have e1 := byte_at (s := s) (j := i + k) (by omega)
 have e2 := byte_at (s := w) (j := k) hk
 rw [← h.2, List.getElem?_take, if_pos hk, List.getElem?_drop, e1] at e2
 exact Option.some.inj e2
theorem Has.all (s : ByteArray) : Has s 0 s := by
 refine ⟨by omega, ?_⟩
 rw [List.drop_zero, List.take_of_length_le (by rw [size_list]; exact Nat.le_refl _)]
/-- No letter and no digit stands at j. -/
def Stop (s : ByteArray) (j : Nat) : Prop := ∀ h : j < s.size, alnumB s[j].toNat = false
def LexTo (s : ByteArray) (i : Nat) (ks : List Key) (j : Nat) : Prop := ∃ toks : List Tokent, toks.map tkey = ks ∧ ∀ out, combL out (lexR s i) = combL (out ++ toks) (lexR s j)
theorem LexTo.refl {s : ByteArray} {i : Nat} : LexTo s i [] i := ⟨[], rfl, fun out => by rw [List.append_nil]⟩
theorem LexTo.trans {s : ByteArray} {i j k : Nat} {a b : List Key} (h : LexTo s i a j) (h2 : LexTo s j b k) : LexTo s i (a ++ b) k := by
 obtain ⟨t, e1, f1⟩ := h
 obtain ⟨u, e2, f2⟩ := h2
 exact ⟨t ++ u, by rw [List.map_append, e1, e2], fun out => by rw [f1, f2, List.append_assoc]⟩
theorem LexTo.tok {s : ByteArray} {i j : Nat} {t : Tokent} (h : lexR s i = consL t (lexR s j)) : LexTo s i [tkey t] j := ⟨[t], rfl, fun out => by rw [h, comb_cons]⟩
theorem LexTo.skip {s : ByteArray} {i j : Nat} (h : skipS s i = skipS s j) : LexTo s i [] j := ⟨[], rfl, fun out => by rw [List.append_nil, lex_skip h]⟩
/-! ### What a text is read ars -/
def RdS (w : ByteArray) (ks : List Key) : Prop := ∀ s i, Has s i w → Stop s (i + w.size) → LexTo s i ks (i + w.size)
def Rd (w : ByteArray) (ks : List Key) : Prop := ∀ s i, Has s i w → LexTo s i ks (i + w.size)
def Bar (w : ByteArray) : Prop := ∃ h : 0 < w.size, alnumB w[0].toNat = false
theorem Rd.weak {w : ByteArray} {ks : List Key} (h : Rd w ks) : RdS w ks := fun s i hs _ => h s i hs
theorem Bar.stop {s w : ByteArray} {i : Nat} (h : Bar w) (hs : Has s i w) : Stop s i := fun hi => by
 obtain ⟨h0, h1⟩ := h
 have e := hs.get h0
 simp only [Nat.add_zero] at e
 rw [e]; exact h1
theorem Bar.app {a b : ByteArray} (h : Bar a) : Bar (a ++ b) := by
 obtain ⟨h0, h1⟩ := h
 refine ⟨by rw [size_app]; omega, ?_⟩
 have e : (a ++ b)[0]'(by rw [size_app]; omega) = a[0] := by rw [ByteArray.getElem_append_left h0]
 rw [e]; exact h1
theorem Rd.nil : Rd ⟨#[]⟩ [] := fun s i h => LexTo.refl
theorem Rd.app {a b : ByteArray} {ka kb : List Key} (h : Rd a ka) (h2 : Rd b kb) : Rd (a ++ b) (ka ++ kb) := fun s i hs => by
 obtain ⟨h3, h4⟩ := hs.app
 rw [size_app, ← Nat.add_assoc]
 exact (h s i h3).trans (h2 s _ h4)
theorem Rd.appS {a b : ByteArray} {ka kb : List Key} (h : Rd a ka) (h2 : RdS b kb) : RdS (a ++ b) (ka ++ kb) := fun s i hs st => by
 obtain ⟨h3, h4⟩ := hs.app
 rw [size_app, ← Nat.add_assoc] at st ⊢
 exact (h s i h3).trans (h2 s _ h4 st)
theorem RdS.app {a b : ByteArray} {ka kb : List Key} (h : RdS a ka) (hb : Bar b) (h2 : Rd b kb) : Rd (a ++ b) (ka ++ kb) := fun s i hs => by
 obtain ⟨h3, h4⟩ := hs.app
 rw [size_app, ← Nat.add_assoc]
 exact (h s i h3 (hb.stop h4)).trans (h2 s _ h4)
theorem RdS.appS {a b : ByteArray} {ka kb : List Key} (h : RdS a ka) (hb : Bar b) (h2 : RdS b kb) : RdS (a ++ b) (ka ++ kb) := fun s i hs st => by
 obtain ⟨h3, h4⟩ := hs.app
 rw [size_app, ← Nat.add_assoc] at st ⊢
 exact (h s i h3 (hb.stop h4)).trans (h2 s _ h4 st)
/-! ### words -/
theorem alnum_lex {c : Int} (h : alnumB c = true) : blank c = false ∧ ¬ c = 35 := by
 simp only [alnumB, letB, upB, digB, Bool.or_eq_true, decide_eq_true_eq] at h
 constructor
 · simp only [blank, Bool.or_eq_false_iff, decide_eq_false_iff_not]; omega
 · omega
theorem wordEnd_is {s w : ByteArray} {i : Nat} (h : Has s i w) (ha : ∀ k (hk : k < w.size), alnumB w[k].toNat = true) (hs : Stop s (i + w.size)) : wordEnd s i = i + w.size := by
 have h1 := h.1
 have step : ∀ n, n ≤ w.size → wordEnd s (i + (w.size - n)) = i + w.size := by
   intro n
   induction n with
   | zero =>
     intro _
     rw [Nat.sub_zero]
     by_cases q : i + w.size < s.size
     · exact wordEnd_off q (hs q)
     · exact wordEnd_end q
   | succ n ih =>
     intro hn
     have hk : w.size - (n + 1) < w.size := by omega
     have e := h.get hk
     rw [wordEnd_on (i := i + (w.size - (n + 1))) (by omega) (by rw [e]; exact ha _ hk)]
     have := ih (by omega)
     rw [show i + (w.size - (n + 1)) + 1 = i + (w.size - n) by omega]
     exact this
 have := step w.size (Nat.le_refl _)
 rw [Nat.sub_self, Nat.add_zero] at this
 exact this
theorem allB_at {p : Int → Bool} {s : ByteArray} (h : allB p s = true) (k : Nat) (hk : k < s.size) : p s[k].toNat = true := by
 unfold allB at h
 rw [List.all_eq_true] at h
 have := h _ (List.getElem_mem (l := s.data.toList) (n := k) (by simpa using hk))
 rw [getElem_data s k hk] at this
 exact this
theorem wordC_alnum {c : Int} (h : wordC c = true) : alnumB c = true := by
 unfold wordC at h; unfold alnumB
 simp only [Bool.or_eq_true] at *
 rcases h with h | h
 · exact .inl (.inl h)
 · exact .inr h
section
variable {s w : ByteArray} {i : Nat}
theorem read_any (h : Has s i w) (h0 : 0 < w.size) (ha : ∀ k (hk : k < w.size), alnumB w[k].toNat = true) (hs : Stop s (i + w.size)) {t : Tokent} (ht : ∀ hi : i < s.size, wordRes s i (s[i].toNat : Int) = (t, ((i + w.size : Nat) : Int), 0)) : LexTo s i [tkey t] (i + w.size) := by
 have h1 := h.1
 have hi : i < s.size := by omega
 have e := h.get h0
 simp only [Nat.add_zero] at e
 have hal : alnumB s[i].toNat = true := by rw [e]; exact ha 0 h0
 have hb := alnum_lex hal
 have hsk := skip_stop hi hb.1 hb.2
 exact LexTo.tok (lexS_ok hi hsk hal (wordEnd_is h ha hs).symm (ht hi))
theorem head_at {p : Int → Bool} (h : headB p w = true) (h0 : 0 < w.size) : p w[0].toNat = true := by rw [headB_eq h0] at h; exact h
end
theorem read_word {w : ByteArray} (h : wordB w = true) : RdS w [(1, 0, w)] := fun s i hs st => by
 have hp := wordB_pos h
 have hq : allB wordC w = true ∧ headB letB w = true := by
   simp only [wordB, Bool.and_eq_true] at h; exact ⟨h.1.1, h.2⟩
 have ha : ∀ k (hk : k < w.size), alnumB w[k].toNat = true := fun k hk => wordC_alnum (allB_at hq.1 k hk)
 have e := hs.get (k := 0) (by omega)
 simp only [Nat.add_zero] at e
 have hl := head_at hq.2 (by omega)
 have hd : digB w[0].toNat = false := by
   unfold letB at hl; unfold digB
   simp only [decide_eq_true_eq, decide_eq_false_iff_not] at *; omega
 exact read_any (t := ⟨1, 0, w, i⟩) hs (by omega) ha st fun hi => by
   have := res_word (s := s) (c := (s[i].toNat : Int)) (wordEnd_is hs ha st).symm (by rw [e]; exact hd) (by rw [hs.ext]; exact h)
   rw [hs.ext] at this
   exact this
theorem read_var {w : ByteArray} (h : varB w = true) : RdS w [(2, 0, w)] := fun s i hs st => by
 have hp := varB_pos h
 have hq : allB alnumB w = true ∧ headB upB w = true := by
   simp only [varB, Bool.and_eq_true] at h; exact ⟨h.1.1, h.2⟩
 have ha : ∀ k (hk : k < w.size), alnumB w[k].toNat = true := fun k hk => allB_at hq.1 k hk
 have e := hs.get (k := 0) (by omega)
 simp only [Nat.add_zero] at e
 have hl := head_at hq.2 (by omega)
 have hd : digB w[0].toNat = false ∧ letB w[0].toNat = false := by
   unfold upB at hl; unfold digB letB
   simp only [decide_eq_true_eq, decide_eq_false_iff_not] at *; omega
 have hw : wordB w = false := by
   unfold wordB
   rw [headB_eq (by omega), hd.2]; simp
 exact read_any (t := ⟨2, 0, w, i⟩) hs (by omega) ha st fun hi => by
   have := res_var (s := s) (c := (s[i].toNat : Int)) (wordEnd_is hs ha st).symm (by rw [e]; exact hd.1) (by rw [hs.ext]; exact hw) (by rw [hs.ext]; exact h)
   rw [hs.ext] at this
   exact this
theorem num_is {n : Int} (h : numB n = true) : ∃ m : Nat, n = m ∧ m ≤ 281474976710655 ∧ numText n = bytes (numTxt m) := by
 have h' := h
 unfold numB at h'
 rw [decide_eq_true_eq] at h'
 exact ⟨n.toNat, by omega, by omega, by unfold numText; rw [if_pos h]⟩
theorem read_num {n : Int} (h : numB n = true) : RdS (numText n) [(3, n, ⟨#[]⟩)] := fun s i hs st => by
 obtain ⟨m, rfl, hm, e⟩ := num_is h
 rw [e] at hs st ⊢
 generalize hw : bytes (numTxt m) = w at *
 have hl : w.data.toList = numTxt m := by rw [← hw]; simp [bytes]
 have hsz : w.size = (numTxt m).length := by rw [← hl]; simp
 have hpos : 0 < w.size := by
   have := numTxt_ne m
   rw [hsz]; exact List.length_pos_iff.2 this
 have hdig : ∀ k (hk : k < w.size), digB w[k].toNat = true := fun k hk => by
   have h1 := List.all_eq_true.1 (numTxt_dig m) (w.data.toList[k]'(by simpa using hk)) (by rw [← hl]; exact List.getElem_mem _)
   rw [getElem_data w k hk] at h1
   simp only [isDig, Bool.and_eq_true, decide_eq_true_eq] at h1
   unfold digB
   rw [decide_eq_true_eq]; omega
 have ha : ∀ k (hk : k < w.size), alnumB w[k].toNat = true := fun k hk => by simp [alnumB, hdig k hk]
 have ht : textNum w = some m := by rw [← hw]; exact textNum_numTxt hm
 have e2 := hs.get hpos
 simp only [Nat.add_zero] at e2
 have key := read_any (t := ⟨3, (m : Int), ⟨#[]⟩, i⟩) hs hpos ha st fun hi => by
   have := res_num (s := s) (c := (s[i].toNat : Int)) (wordEnd_is hs ha st).symm (by rw [e2]; exact hdig 0 hpos) (by rw [hs.ext]; unfold textOk; rw [ht]; rfl)
   rw [hs.ext] at this
   rw [this]
   unfold textN
   rw [ht]
 exact key
/-! ### signs -/
theorem read_two {w : ByteArray} (h : isTwo w = true) (hb : ∃ h0 : 0 < w.size, blank w[0].toNat = false ∧ ¬ (w[0].toNat : Int) = 35 ∧ alnumB w[0].toNat = false) : Rd w [(4, 0, w)] := fun s i hs => by
 obtain ⟨h0, b1, b2, b3⟩ := hb
 have h1 := hs.1
 have e := hs.get h0
 simp only [Nat.add_zero] at e
 have h2 : w.size = 2 := twos_size (by
   rw [twos_mem, List.any_eq_true] at h
   obtain ⟨p, hp, q⟩ := h
   rw [ba_iff.1 q]; exact hp)
 have hx := hs.ext
 rw [h2] at hx h1 ⊢
 have hi : i < s.size := by omega
 have hy := sym_pair (s := s) (i := i) (by omega) hx h
 have hk := skip_stop hi (by rw [e]; exact b1) (by rw [e]; exact b2)
 have := lex_sign hi hk (by rw [e]; exact b3) (by rw [hy, h2]; decide)
 rw [hy, h2] at this
 exact LexTo.tok this
/-- A sign of one byte, where no longer one stands. -/
theorem read_one {s w : ByteArray} {i : Nat} (hs : Has s i w) (hw : w.size = 1) (hm : hd0 w ∈ signs) (hn : ¬ (i + 1 < s.size ∧ isTwo (s.extract i (i + 2)) = true)) : LexTo s i [(4, 0, w)] (i + w.size) := by
 have h1 := hs.1
 have h0 : 0 < w.size := by omega
 have e := hs.get h0
 simp only [Nat.add_zero] at e
 have hi : i < s.size := by omega
 have he : hd0 w = (s[i].toNat : Int) := by rw [hd0_eq h0, e]
 have hy : symAt s i = w := by
   unfold symAt
   rw [dif_pos hi, if_neg hn, if_pos (by rw [← he]; exact hm), one_ext hi hw he]
 have hb : blank (s[i].toNat : Int) = false ∧ ¬ (s[i].toNat : Int) = 35 ∧ alnumB (s[i].toNat : Int) = false := by
   rw [← he]
   generalize hd0 w = c at hm ⊢
   simp only [signs, List.mem_cons, List.not_mem_nil, or_false] at hm
   rcases hm with h | h | h | h | h | h | h | h | h <;> subst h <;> decide
 have hk := skip_stop hi hb.1 hb.2.1
 have := lex_sign hi hk hb.2.2 (by rw [hy, hw]; decide)
 rw [hy] at this
 exact LexTo.tok this
theorem two_head {y : ByteArray} (h : isTwo y = true) : hd0 y = 58 ∨ hd0 y = 33 ∨ hd0 y = 60 := by
 simp only [isTwo, Bool.or_eq_true] at h
 rcases h with h | h | h
 · left; rw [ba_iff.1 h]; rfl
 · right; left; rw [ba_iff.1 h]; rfl
 · right; right; rw [ba_iff.1 h]; rfl
theorem ext_hd0 {s : ByteArray} {i : Nat} (h : i + 1 < s.size) : hd0 (s.extract i (i + 2)) = (s[i].toNat : Int) := by
 have hz : (s.extract i (i + 2)).size = 2 := by rw [ByteArray.size_extract]; omega
 rw [hd0_eq (by omega), ext_head (by omega) (by omega) (by omega)]
theorem read_sign {w : ByteArray} (hw : w.size = 1) (hm : hd0 w ∈ signs) (hn : ¬ hd0 w = 60) : Rd w [(4, 0, w)] := fun s i hs => by
 refine read_one hs hw hm ?_
 rintro ⟨h1, h2⟩
 have h0 : 0 < w.size := by omega
 have e := hs.get h0
 simp only [Nat.add_zero] at e
 have he : hd0 w = (s[i].toNat : Int) := by rw [hd0_eq h0, e]
 have h3 := two_head h2
 rw [ext_hd0 h1, ← he] at h3
 simp only [signs, List.mem_cons, List.not_mem_nil, or_false] at hm
 omega
theorem read_less : Rd ⟨#[60, 32]⟩ [(4, 0, ⟨#[60]⟩)] := fun s i hs => by
 have hs' : Has s i ((⟨#[60]⟩ : ByteArray) ++ (⟨#[32]⟩ : ByteArray)) := hs
 obtain ⟨ha, hb⟩ := hs'.app
 have e1 := hb.get (k := 0) (by decide)
 have hz : (⟨#[60]⟩ : ByteArray).size = 1 := rfl
 have hz2 : (⟨#[32]⟩ : ByteArray).size = 1 := rfl
 have hb1 := hb.1
 have h1 := read_one ha hz (by decide) (by
   rintro ⟨h1, h2⟩
   simp only [isTwo, Bool.or_eq_true] at h2
   have hsz : (s.extract i (i + 2)).size = 2 := by rw [ByteArray.size_extract]; omega
   have g : (s.extract i (i + 2))[1]'(by omega) = s[i + 1] := by rw [ByteArray.getElem_extract]
   have g2 : s[i + 1] = (32 : UInt8) := e1
   rcases h2 with h2 | h2 | h2
   · have q := ba_iff.1 h2
     simp only [q] at g; rw [g2] at g; exact absurd g (by show ¬ ((45 : UInt8) = 32); decide)
   · have q := ba_iff.1 h2
     simp only [q] at g; rw [g2] at g; exact absurd g (by show ¬ ((61 : UInt8) = 32); decide)
   · have q := ba_iff.1 h2
     simp only [q] at g; rw [g2] at g; exact absurd g (by show ¬ ((61 : UInt8) = 32); decide))
 have hbl : LexTo s (i + 1) [] (i + 2) := LexTo.skip (skip_blank (by omega) (by
   have e2 : s[i + 1]'(by omega) = (32 : UInt8) := e1
   rw [e2]; decide))
 exact h1.trans hbl
theorem read_blank {w : ByteArray} (hw : w.size = 1) (h : blank (hd0 w) = true) : Rd w [] := fun s i hs => by
 have h1 := hs.1
 have h0 : 0 < w.size := by omega
 have e := hs.get h0
 simp only [Nat.add_zero] at e
 have he : hd0 w = (s[i].toNat : Int) := by rw [hd0_eq h0, e]
 rw [hw]
 exact LexTo.skip (skip_blank (by omega) (by rw [← he]; exact h))
def kSign (s : ByteArray) : Key := (4, 0, s)
theorem rd_open : Rd ⟨#[40]⟩ [kSign ⟨#[40]⟩] := read_sign rfl (by decide) (by decide)
theorem rd_close : Rd ⟨#[41]⟩ [kSign ⟨#[41]⟩] := read_sign rfl (by decide) (by decide)
theorem rd_dot : Rd ⟨#[46]⟩ [kSign ⟨#[46]⟩] := read_sign rfl (by decide) (by decide)
theorem rd_slash : Rd ⟨#[47]⟩ [kSign ⟨#[47]⟩] := read_sign rfl (by decide) (by decide)
theorem rd_plus : Rd ⟨#[43]⟩ [kSign ⟨#[43]⟩] := read_sign rfl (by decide) (by decide)
theorem rd_minus : Rd ⟨#[45]⟩ [kSign ⟨#[45]⟩] := read_sign rfl (by decide) (by decide)
theorem rd_eq : Rd ⟨#[61]⟩ [kSign ⟨#[61]⟩] := read_sign rfl (by decide) (by decide)
theorem rd_space : Rd ⟨#[32]⟩ [] := read_blank rfl (by decide)
theorem rd_line : Rd ⟨#[10]⟩ [] := read_blank rfl (by decide)
theorem rd_comma : Rd comma [kSign ⟨#[44]⟩] := (read_sign (w := ⟨#[44]⟩) rfl (by decide) (by decide)).app rd_space
theorem rd_if : Rd ⟨#[58, 45]⟩ [kSign ⟨#[58, 45]⟩] := read_two rfl ⟨by decide, by decide, by decide, by decide⟩
theorem rd_ne : Rd ⟨#[33, 61]⟩ [kSign ⟨#[33, 61]⟩] := read_two rfl ⟨by decide, by decide, by decide, by decide⟩
theorem rd_le : Rd ⟨#[60, 61]⟩ [kSign ⟨#[60, 61]⟩] := read_two rfl ⟨by decide, by decide, by decide, by decide⟩
theorem bar_comma : Bar comma := ⟨by decide, by decide⟩
theorem bar_open : Bar ⟨#[40]⟩ := ⟨by decide, by decide⟩
theorem bar_close : Bar ⟨#[41]⟩ := ⟨by decide, by decide⟩
theorem bar_space : Bar ⟨#[32]⟩ := ⟨by decide, by decide⟩
theorem bar_slash : Bar ⟨#[47]⟩ := ⟨by decide, by decide⟩
/-! ### terms, atoms, literals, rules -/
def termK (t : Termt) : Key := if (t.var == (⟨#[]⟩ : ByteArray)) = true then (if t.val.s.toList.isEmpty = true then (3, t.val.n, ⟨#[]⟩) else (1, 0, t.val.s)) else (2, 0, t.var)
theorem rd_term {t : Termt} (h : termB t = true) : RdS (termText t) [termK t] := by
 unfold termB at h; unfold termText termK
 by_cases hv : (t.var == (⟨#[]⟩ : ByteArray)) = true
 · rw [if_pos hv] at h ⊢
   rw [if_pos hv]
   simp only [Bool.and_eq_true] at h
   unfold valText
   rw [if_pos h.1]
   have hok := h.1
   unfold valOk at hok
   by_cases he : t.val.s.toList.isEmpty = true
   · rw [if_pos he] at hok ⊢
     rw [if_pos he]
     exact read_num hok
   · rw [if_neg he] at hok ⊢
     rw [if_neg he]
     simp only [Bool.and_eq_true] at hok
     exact read_word hok.2
 · rw [if_neg hv] at h ⊢
   rw [if_neg hv]
   simp only [Bool.and_eq_true] at h
   exact read_var h.1
theorem joinB_two (x y : ByteArray) (r : List ByteArray) (sep : ByteArray) : joinB (x :: y :: r) sep = x ++ sep ++ joinB (y :: r) sep := by
 apply texts_ext
 simp only [joinB, List.map_cons, ByteArray.data_append, Array.toList_append, Lib.join_cons, Lib.joinTail, List.flatten_cons, List.append_assoc]
def joinK : List (List Key) → List Key
 | [] => []
 | [x] => x
 | x :: y :: r => x ++ kSign ⟨#[44]⟩ :: joinK (y :: r)
theorem rd_join {α : Type} {f : α → ByteArray} {g : α → List Key} : ∀ (xs : List α), (∀ x ∈ xs, RdS (f x) (g x)) → RdS (joinB (xs.map f) comma) (joinK (xs.map g))
 | [], _ => by rw [List.map_nil, joinB_nil]; exact Rd.nil.weak
 | [x], h => by
   show RdS (joinB [f x] comma) (g x)
   rw [joinB_first]; exact h x (by simp)
 | x :: y :: r, h => by
   have ih := rd_join (y :: r) fun z hz => h z (List.mem_cons_of_mem _ hz)
   show RdS (joinB (f x :: f y :: r.map f) comma) (g x ++ kSign ⟨#[44]⟩ :: joinK (g y :: r.map g))
   rw [joinB_two]
   have e : g x ++ kSign ⟨#[44]⟩ :: joinK (g y :: r.map g) = (g x ++ [kSign ⟨#[44]⟩]) ++ joinK (g y :: r.map g) := by simp
   rw [e]
   exact ((h x (by simp)).app bar_comma rd_comma).appS ih
def atomK' (a : Atomt) : List Key := (1, 0, a.name) :: kSign ⟨#[40]⟩ :: (joinK (a.args.map fun t => [termK t]) ++ [kSign ⟨#[41]⟩])
theorem rd_atom {a : Atomt} (h : atomB a = true) : Rd (atomText a) (atomK' a) := by
 rw [atomText_ok h]
 simp only [atomB, nameB, Bool.and_eq_true] at h
 have h1 := (read_word h.1.1).app bar_open rd_open
 have h2 := h1.appS (rd_join (f := termText) (g := fun t => [termK t]) a.args fun t ht => rd_term (List.all_eq_true.1 h.2.2 t ht))
 have h3 := h2.app bar_close rd_close
 have e : atomK' a = [(1, 0, a.name)] ++ [kSign ⟨#[40]⟩] ++ joinK (a.args.map fun t => [termK t]) ++ [kSign ⟨#[41]⟩] := by simp [atomK']
 rw [e]; exact h3
def litK' (l : Litt) : List Key := if l.kind = 1 then atomK' l.atom else if l.kind = 2 then (1, 0, notS) :: atomK' l.atom else [termK l.a, kSign (opText l.op), termK l.b]
theorem rd_not : Rd ⟨#[110, 111, 116, 32]⟩ [(1, 0, notS)] := (read_word (w := notS) (by decide)).app bar_space rd_space
theorem op_four {op : Int} (h : 1 ≤ op ∧ op ≤ 4) : op = 1 ∨ op = 2 ∨ op = 3 ∨ op = 4 := by omega
theorem rd_op {op : Int} (h : 1 ≤ op ∧ op ≤ 4) : Rd (opText op ++ ⟨#[32]⟩) [kSign (opText op)] := by
 rcases op_four h with rfl | rfl | rfl | rfl
 · exact rd_eq.app rd_space
 · exact rd_ne.app rd_space
 · exact read_less
 · exact rd_le.app rd_space
theorem rd_lit {l : Litt} (h : litB l = true) : RdS (litText l) (litK' l) := by
 unfold litText litK'
 by_cases h1 : l.kind = 1
 · rw [if_pos h1, if_pos h1]
   unfold litB at h
   rw [if_pos (.inl h1)] at h
   simp only [Bool.and_eq_true] at h
   exact (rd_atom h.1).weak
 · by_cases h2 : l.kind = 2
   · rw [if_neg h1, if_neg h1, if_pos h2, if_pos h2]
     unfold litB at h
     rw [if_pos (.inr h2)] at h
     simp only [Bool.and_eq_true] at h
     exact (rd_not.app (rd_atom h.1)).weak
   · rw [if_neg h1, if_neg h1, if_neg h2, if_neg h2]
     obtain ⟨q1, q2, q3, q4⟩ := litB_cmp h h1 h2
     have e : termText l.a ++ ⟨#[32]⟩ ++ opText l.op ++ ⟨#[32]⟩ ++ termText l.b = termText l.a ++ ⟨#[32]⟩ ++ (opText l.op ++ ⟨#[32]⟩) ++ termText l.b := by simp only [ByteArray.append_assoc]
     rw [e]
     exact (((rd_term q3).app bar_space rd_space).app (rd_op ⟨q1, q2⟩)).appS (rd_term q4)
def signK (k : Int) : List Key := if k = 1 then [] else [kSign (signText k)]
def bodyK (l : List Litt) : List Key := if l = [] then [] else kSign ⟨#[58, 45]⟩ :: joinK (l.map litK')
def ruleK' (r : Rulet) : List Key := signK r.kind ++ atomK' r.head ++ bodyK r.body ++ [kSign ⟨#[46]⟩]
theorem rd_sign {k : Int} (h : 1 ≤ k ∧ k ≤ 3) : Rd (signText k) (signK k) := by
 have : k = 1 ∨ k = 2 ∨ k = 3 := by omega
 rcases this with rfl | rfl | rfl
 · exact Rd.nil
 · exact rd_plus
 · exact rd_minus
theorem bar_dot : Bar ⟨#[46]⟩ := ⟨by decide, by decide⟩
theorem rd_rule {r : Rulet} (h : ruleB r = true) : Rd (ruleText r) (ruleK' r) := by
 obtain ⟨k1, k2, k3, k4⟩ := ruleB_parts h
 have ha : atomB r.head = true := by
   simp only [ruleB, Bool.and_eq_true] at h; exact h.2.1
 rw [ruleText_ok h]
 have h1 := (rd_sign ⟨k1, k2⟩).app (rd_atom ha)
 refine RdS.app ?_ bar_dot rd_dot
 unfold bodyK bodyTo
 by_cases hb : r.body = []
 · rw [if_pos hb, if_pos (by rw [hb]; rfl), app_nil, List.append_nil]; exact h1.weak
 · have hl : ¬ r.body.length = 0 := fun q => hb (List.eq_nil_of_length_eq_zero q)
   rw [if_neg hb, if_neg hl, joinTo_all (Nat.le_refl _)]
   have h2 : Rd (⟨#[32, 58, 45, 32]⟩ : ByteArray) [kSign ⟨#[58, 45]⟩] := (rd_space.app rd_if).app rd_space
   exact h1.appS (h2.appS (rd_join r.body fun l hl => rd_lit (k4 l hl)))
def declK' (d : Declt) : List Key := [(1, 0, declWord d.kind), (1, 0, d.name), kSign ⟨#[47]⟩, (3, d.arity, ⟨#[]⟩), kSign ⟨#[46]⟩]
theorem rd_decl {d : Declt} (h : declB d = true) : Rd (declText d) (declK' d) := by
 simp only [declB, nameB, Bool.and_eq_true, decide_eq_true_eq] at h
 have hk : wordB (declWord d.kind) = true := by
   have : d.kind = 1 ∨ d.kind = 2 ∨ d.kind = 3 := by omega
   rcases this with e | e | e <;> rw [e] <;> decide
 have hn : numB d.arity = true := by unfold numB; rw [decide_eq_true_eq]; omega
 unfold declText
 have e : (⟨#[46, 10]⟩ : ByteArray) = ⟨#[46]⟩ ++ ⟨#[10]⟩ := rfl
 have h0 : Rd (⟨#[46, 10]⟩ : ByteArray) [kSign ⟨#[46]⟩] := rd_dot.app rd_line
 exact ((((((read_word hk).app bar_space rd_space).appS (read_word h.2.1)).app bar_slash rd_slash).appS (read_num hn)).app ⟨by decide, by decide⟩ h0)
theorem rd_lineR {r : Rulet} (h : ruleB r = true) : Rd (lineText r) (ruleK' r) := by
 have := (rd_rule h).app rd_line
 rw [List.append_nil] at this
 exact this
theorem rd_cat {α : Type} {f : α → ByteArray} {g : α → List Key} {xs : List α} (h : ∀ x ∈ xs, Rd (f x) (g x)) : ∀ k, k ≤ xs.length → Rd (catTo f xs k) ((xs.take k).flatMap g)
 | 0, _ => Rd.nil
 | k + 1, hk => by
   rw [catTo_more (by omega), List.take_succ_eq_append_getElem (by omega), List.flatMap_append]
   have := (rd_cat h k (by omega)).app (h _ (List.getElem_mem (l := xs) (n := k) (by omega)))
   simpa using this
def progK (p : Programt) : List Key := p.decls.flatMap declK' ++ p.rules.flatMap ruleK'
theorem rd_prog {p : Programt} (h : programB p = true) : Rd (progBody p p.decls.length p.rules.length) (progK p) := by
 simp only [programB, Bool.and_eq_true] at h
 have h1 := rd_cat (fun d hd => rd_decl (List.all_eq_true.1 h.2.1 d hd)) p.decls.length (Nat.le_refl _)
 have h2 := rd_cat (fun r hr => rd_lineR (List.all_eq_true.1 h.2.2 r hr)) p.rules.length (Nat.le_refl _)
 rw [List.take_of_length_le (Nat.le_refl _)] at h1 h2
 exact h1.app h2
/-- What is printed of a program is taken apart into its words and signs. -/
theorem lex_prog {p : Programt} (h : programB p = true) (hs : (progBody p p.decls.length p.rules.length).size ≤ 6000) : ∃ toks, lexAll (progBody p p.decls.length p.rules.length) = (toks, 0, 0) ∧ toks.map tkey = progK p := by
 generalize hw : progBody p p.decls.length p.rules.length = w at hs ⊢
 have h1 := rd_prog h
 rw [hw] at h1
 obtain ⟨toks, e, f⟩ := h1 w 0 (Has.all w)
 have h2 := f []
 rw [comb_start, lex_end (j := 0 + w.size) (by omega)] at h2
 refine ⟨toks, ?_, e⟩
 rw [lexAll_eq (by omega), h2]
 simp [combL]
end Go.Proofs.Ytkemjhlbokldhaa

/- The words and signs of a printed program are read ars the program. -/
namespace Go.Proofs.Ytkemjhlbokldhaa
open Go.RowKit
set_option linter.unusedVariables false
set_option linter.unusedSimpArgs false

theorem same_val {a : Val} (h : sameVal a noVal = true) : a = noVal := by
 unfold sameVal at h
 simp only [Bool.and_eq_true, beq_iff_eq] at h
 have h2 : a.s = noVal.s := ba_iff.1 (by simpa using h.2)
 cases a
 simp only at h h2
 rw [h.1, h2]
theorem same_term {a : Termt} (h : sameTerm a noTerm = true) : a = noTerm := by
 unfold sameTerm at h
 simp only [Bool.and_eq_true] at h
 have h1 := ba_iff.1 h.1
 have h2 := same_val h.2
 cases a
 simp only at h1 h2
 rw [h1, h2]; rfl
theorem kept_words {s : ByteArray} (h : keptB s = false) : kindN s = 0 ∧ ¬ s = notS := by
 simp only [keptB, Bool.or_eq_false_iff, ByteArray.toList_eq] at h
 obtain ⟨⟨⟨h1, h2⟩, h3⟩, h4⟩ := h
 have n : ∀ l : List UInt8, (s.data.toList == l) = false → ¬ s = (⟨l.toArray⟩ : ByteArray) := fun l hl e => by
   rw [e] at hl; simp at hl
 constructor
 · unfold kindN
   rw [if_neg (fun q => n _ h1 (ba_iff.1 q)), if_neg (fun q => n _ h2 (ba_iff.1 q)), if_neg (fun q => n _ h3 (ba_iff.1 q))]
 · exact n _ h4
section
variable {tk : List Tokent} {e : Int}
/-- The rest of the words and signs. -/
def Ok (tk : List Tokent) (st : PS) (ks : List Key) : Prop := st.code = 0 ∧ (tk.drop st.i).map tkey = ks
theorem ok_cons {st : PS} {k : Key} {ks : List Key} (h : Ok tk st (k :: ks)) : ∃ hi : st.i < tk.length, tkey tk[st.i] = k ∧ hereT tk e st = tk[st.i] ∧ Ok tk st.next ks := by
 obtain ⟨h0, h1⟩ := h
 have hi : st.i < tk.length := by
   refine Classical.byContradiction fun q => ?_
   rw [List.drop_of_length_le (by omega)] at h1
   cases h1
 rw [List.drop_eq_getElem_cons hi, List.map_cons] at h1
 have h2 := List.cons.inj h1
 exact ⟨hi, h2.1, here_ok h0 hi, h0, h2.2⟩
theorem ok_nil {st : PS} (h : Ok tk st []) : ¬ st.i < tk.length := by
 intro hi
 have h1 := h.2
 rw [List.drop_eq_getElem_cons hi, List.map_cons] at h1
 cases h1
/-- What comes next. -/
theorem ok_here {st : PS} {a : Int} {b : Int} {s : ByteArray} {ks : List Key} (h : Ok tk st ((a, b, s) :: ks)) : (hereT tk e st).kind = a ∧ (hereT tk e st).n = b ∧ (hereT tk e st).s = s ∧ Ok tk st.next ks ∧ st.i < tk.length := by
 obtain ⟨hi, h1, h2, h3⟩ := ok_cons (e := e) h
 rw [h2]
 have : ((tk[st.i]).kind, (tk[st.i]).n, (tk[st.i]).s) = (a, b, s) := h1
 simp only [Prod.mk.injEq] at this
 exact ⟨this.1, this.2.1, this.2.2, h3, hi⟩
theorem ok_sign {st : PS} {s : ByteArray} {ks : List Key} (h : Ok tk st (kSign s :: ks)) (s2 : ByteArray) : signT (hereT tk e st) s2 = (s == s2) := by
 obtain ⟨h1, _, h3, _⟩ := ok_here (e := e) h
 unfold signT; rw [h1, h3]; rfl
theorem ok_name {st : PS} {b : Int} {s : ByteArray} {ks : List Key} (h : Ok tk st ((1, b, s) :: ks)) (s2 : ByteArray) : signT (hereT tk e st) s2 = false ∧ nameT (hereT tk e st) = !keptB s ∧ notT (hereT tk e st) = (s == notS) := by
 obtain ⟨h1, _, h3, _⟩ := ok_here (e := e) h
 unfold signT nameT notT; rw [h1, h3]; exact ⟨rfl, by simp, by simp⟩
theorem take_at {st : PS} {s : ByteArray} {ks : List Key} (h : Ok tk st (kSign s :: ks)) : takeP tk e s st = st.next ∧ Ok tk st.next ks :=
 ⟨take_ok (by rw [ok_sign h]; exact ba_iff.2 rfl), (ok_here (e := e) h).2.2.2.1⟩
theorem nameB_kept {s : ByteArray} (h : nameB s = true) : wordB s = true ∧ keptB s = false := by
 unfold nameB at h
 simp only [Bool.and_eq_true, Bool.not_eq_true'] at h; exact h
theorem word_at {st : PS} {s : ByteArray} {ks : List Key} (h : Ok tk st ((1, 0, s) :: ks)) (hs : nameB s = true) : wordP tk e st = (s, st.next) ∧ Ok tk st.next ks := by
 obtain ⟨h1, _, h3, h4, _⟩ := ok_here (e := e) h
 have hn : nameT (hereT tk e st) = true := by rw [(ok_name h ⟨#[]⟩).2.1, (nameB_kept hs).2]; rfl
 refine ⟨?_, h4⟩
 rw [word_ok hn, h3]
theorem term_at {st : PS} {t : Termt} {ks : List Key} (h : Ok tk st (termK t :: ks)) (ht : termB t = true) : termP tk e false st = (t, st.next) ∧ Ok tk st.next ks ∧ termT (hereT tk e st) = true ∧ notT (hereT tk e st) = false := by
 have key : ∀ (a b : Int) (s : ByteArray), termK t = (a, b, s) → Ok tk st ((a, b, s) :: ks) := fun a b s q => by rw [← q]; exact h
 unfold termB at ht
 by_cases hv : (t.var == (⟨#[]⟩ : ByteArray)) = true
 · rw [if_pos hv] at ht
   simp only [Bool.and_eq_true, Bool.not_eq_true'] at ht
   have hok := ht.1
   unfold valOk at hok
   have hv' := ba_iff.1 hv
   by_cases he : t.val.s.toList.isEmpty = true
   · have ks' := key 3 t.val.n ⟨#[]⟩ (by unfold termK; rw [if_pos hv, if_pos he])
     obtain ⟨h1, h2, h3, h4, _⟩ := ok_here (e := e) ks'
     have hT : termT (hereT tk e st) = true := by simp [termT, h1]
     have hs : t.val.s = ⟨#[]⟩ := by
       rw [ByteArray.toList_eq] at he
       refine texts_ext ?_
       have : t.val.s.data.toList = [] := by simpa using he
       rw [this]
     refine ⟨?_, h4, hT, by simp [notT, h1]⟩
     rw [term_ok hT, of_num (by omega) h1, h2]
     cases t with | mk v w => cases w with | mk n s => simp only at hv' hs; subst hv'; subst hs; rfl
   · have ks' := key 1 0 t.val.s (by unfold termK; rw [if_pos hv, if_neg he])
     obtain ⟨h1, h2, h3, h4, _⟩ := ok_here (e := e) ks'
     have hk := ok_name (e := e) ks' ⟨#[]⟩
     have hT : termT (hereT tk e st) = true := by simp [termT, hk.2.1, ht.2]
     rw [if_neg he] at hok
     simp only [Bool.and_eq_true, beq_iff_eq] at hok
     refine ⟨?_, h4, hT, ?_⟩
     · rw [term_ok hT, of_name (by omega) (by omega), h3]
       have hn := hok.1
       cases t with | mk v w => cases w with | mk n s => simp only at hv' hn; subst hv'; subst hn; rfl
     · rw [hk.2.2]
       exact ba_no.2 (kept_words ht.2).2
 · rw [if_neg hv] at ht
   simp only [Bool.and_eq_true] at ht
   have ks' := key 2 0 t.var (by unfold termK; rw [if_neg hv])
   obtain ⟨h1, h2, h3, h4, _⟩ := ok_here (e := e) ks'
   have hT : termT (hereT tk e st) = true := by simp [termT, h1]
   refine ⟨?_, h4, hT, by simp [notT, h1]⟩
   have hw := same_val ht.2
   rw [term_ok hT, of_var h1, h3]
   cases t with | mk v w => simp only at hw; subst hw; rfl
theorem args_at {ks : List Key} : ∀ (ts : List Termt) (f : Nat) (st : PS) (a : List Termt), ¬ ts = [] → (∀ t ∈ ts, termB t = true) → Ok tk st (joinK (ts.map fun t => [termK t]) ++ kSign ⟨#[41]⟩ :: ks) → a.length + ts.length ≤ 6 → ts.length ≤ f →
   ∃ st', argsI tk e f st a = (a ++ ts, st') ∧ Ok tk st' (kSign ⟨#[41]⟩ :: ks)
 | [], f, st, a, hn, _, _, _, _ => absurd rfl hn
 | [t], f, st, a, _, ht, ho, hl, hf => by
   obtain ⟨f, rfl⟩ : ∃ f', f = f' + 1 := ⟨f - 1, by simp at hf; omega⟩
   obtain ⟨h1, h2, h3, _⟩ := term_at (e := e) ho (ht t (by simp))
   refine ⟨st.next, ?_, h2⟩
   unfold argsI
   rw [if_pos ho.1, if_neg (by rintro ⟨_, q⟩; simp at hl; omega), h1, if_neg (by rw [ok_sign h2]; decide)]
 | t :: u :: r, f, st, a, _, ht, ho, hl, hf => by
   obtain ⟨f, rfl⟩ : ∃ f', f = f' + 1 := ⟨f - 1, by simp at hf; omega⟩
   have ho' : Ok tk st (termK t :: kSign ⟨#[44]⟩ :: (joinK ((u :: r).map fun t => [termK t]) ++ kSign ⟨#[41]⟩ :: ks)) := ho
   obtain ⟨h1, h2, h3, _⟩ := term_at (e := e) ho' (ht t (by simp))
   have h4 := (ok_here (e := e) (a := 4) (b := 0) (s := ⟨#[44]⟩) h2).2.2.2.1
   obtain ⟨st', g1, g2⟩ := args_at (u :: r) f st.next.next (a ++ [t]) (by simp) (fun x hx => ht x (List.mem_cons_of_mem _ hx)) h4 (by simp at hl ⊢; omega) (by simp at hf ⊢; omega)
   refine ⟨st', ?_, g2⟩
   unfold argsI
   rw [if_pos ho.1, if_neg (by rintro ⟨_, q⟩; simp at hl; omega), h1, if_pos (by rw [ok_sign h2]; exact ba_iff.2 rfl)]
   rw [g1]
   simp
theorem atom_parts {a : Atomt} (h : atomB a = true) : nameB a.name = true ∧ a.args.length ≤ 6 ∧ ∀ t ∈ a.args, termB t = true := by
 simp only [atomB, Bool.and_eq_true, decide_eq_true_eq] at h
 exact ⟨h.1, h.2.1, List.all_eq_true.1 h.2.2⟩
theorem atom_at {st : PS} {a : Atomt} {ks : List Key} (h : Ok tk st (atomK' a ++ ks)) (ha : atomB a = true) : ∃ st', atomI tk e st = (a, st') ∧ Ok tk st' ks := by
 obtain ⟨p1, p2, p3⟩ := atom_parts ha
 have h' : Ok tk st ((1, 0, a.name) :: kSign ⟨#[40]⟩ :: (joinK (a.args.map fun t => [termK t]) ++ kSign ⟨#[41]⟩ :: ks)) := by
   have e1 : atomK' a ++ ks = (1, 0, a.name) :: kSign ⟨#[40]⟩ :: (joinK (a.args.map fun t => [termK t]) ++ kSign ⟨#[41]⟩ :: ks) := by simp [atomK']
   rw [e1] at h; exact h
 obtain ⟨w1, w2⟩ := word_at (e := e) h' p1
 obtain ⟨t1, t2⟩ := take_at (e := e) w2
 have ho : atomOpen tk e st = st.next.next := by unfold atomOpen; rw [w1, t1]
 by_cases hn : a.args = []
 · rw [hn] at t2
   have t3 : Ok tk st.next.next (kSign ⟨#[41]⟩ :: ks) := t2
   refine ⟨st.next.next.next, ?_, (take_at (e := e) t3).2⟩
   rw [atomI_none (by rw [ho, ok_sign t3]; exact ba_iff.2 rfl), w1, ho]
   cases a with | mk n l => simp only at hn; rw [hn]
 · have hc : signT (hereT tk e (atomOpen tk e st)) ⟨#[41]⟩ = false := by
     rw [ho]
     cases ha2 : a.args with
     | nil => exact absurd ha2 hn
     | cons t r =>
       have hT : termT (hereT tk e st.next.next) = true := by
         rw [ha2] at t2
         have ht := p3 t (by rw [ha2]; simp)
         cases r with
         | nil => exact (term_at (e := e) (t := t) t2 ht).2.2.1
         | cons u r => exact (term_at (e := e) (t := t) t2 ht).2.2.1
       cases q : signT (hereT tk e st.next.next) ⟨#[41]⟩ with
       | false => rfl
       | true =>
         have k4 := sign_kind q
         simp [termT, nameT, k4] at hT
   obtain ⟨st', g1, g2⟩ := args_at (e := e) a.args 8 st.next.next [] hn p3 t2 (by simpa using p2) (by omega)
   have hs := atomI_some (tk := tk) (e := e) (st := st) (s2 := st') (a := a.args) hc (by rw [ho, g1]; rfl)
   obtain ⟨q1, q2⟩ := take_at (e := e) g2
   refine ⟨st'.next, ?_, q2⟩
   rw [hs, q1, w1]
theorem lit_at {st : PS} {l : Litt} {ks : List Key} (h : Ok tk st (litK' l ++ ks)) (hl : litB l = true) : ∃ st', litI tk e st = (l, st') ∧ Ok tk st' ks ∧ beginsT (hereT tk e st) = true := by
 unfold litK' at h
 have hl0 := hl
 unfold litB at hl
 by_cases h1 : l.kind = 1
 · rw [if_pos h1] at h
   rw [if_pos (.inl h1)] at hl
   simp only [Bool.and_eq_true, decide_eq_true_eq] at hl
   obtain ⟨p1, p2, p3⟩ := atom_parts hl.1
   have h' : Ok tk st ((1, 0, l.atom.name) :: kSign ⟨#[40]⟩ :: (joinK (l.atom.args.map fun t => [termK t]) ++ kSign ⟨#[41]⟩ :: ks)) := by
     have e1 : atomK' l.atom ++ ks = (1, 0, l.atom.name) :: kSign ⟨#[40]⟩ :: (joinK (l.atom.args.map fun t => [termK t]) ++ kSign ⟨#[41]⟩ :: ks) := by simp [atomK']
     rw [e1] at h; exact h
   have hn := ok_name (e := e) h' ⟨#[]⟩
   have hk := nameB_kept p1
   have hnot : notT (hereT tk e st) = false := by rw [hn.2.2]; exact ba_no.2 (kept_words hk.2).2
   have hnm : nameT (hereT tk e st) = true := by rw [hn.2.1, hk.2]; rfl
   have hop : openT tk e st = true := by
     unfold openT
     rw [hnm, ok_sign (ok_here (e := e) h').2.2.2.1, ba_iff.2 rfl]; rfl
   obtain ⟨st', g1, g2⟩ := atom_at (e := e) h hl.1
   refine ⟨st', ?_, g2, by simp [beginsT, termT, hnm]⟩
   rw [litI_is hnot hop, g1]
   have q1 := same_term hl.2.2.1
   have q2 := same_term hl.2.2.2
   have q3 := hl.2.1
   cases l with | mk k at' op a b => simp only at h1 q1 q2 q3; rw [h1, q1, q2, q3]
 · by_cases h2 : l.kind = 2
   · rw [if_neg h1, if_pos h2] at h
     rw [if_pos (.inr h2)] at hl
     simp only [Bool.and_eq_true, decide_eq_true_eq] at hl
     have h' : Ok tk st ((1, 0, notS) :: (atomK' l.atom ++ ks)) := h
     have hnot : notT (hereT tk e st) = true := by rw [(ok_name (e := e) h' ⟨#[]⟩).2.2]; exact ba_iff.2 rfl
     obtain ⟨st', g1, g2⟩ := atom_at (e := e) (ok_here (e := e) h').2.2.2.1 hl.1
     refine ⟨st', ?_, g2, by simp [beginsT, hnot]⟩
     rw [litI_not hnot, g1]
     have q1 := same_term hl.2.2.1
     have q2 := same_term hl.2.2.2
     have q3 := hl.2.1
     cases l with | mk k at' op a b => simp only at h2 q1 q2 q3; rw [h2, q1, q2, q3]
   · rw [if_neg h1, if_neg h2] at h
     rw [if_neg (by rintro (q | q); exact h1 q; exact h2 q)] at hl
     by_cases h3 : l.kind = 3
     · rw [if_pos h3] at hl
       simp only [Bool.and_eq_true, decide_eq_true_eq] at hl
       obtain ⟨⟨o1, o2⟩, n1, n2, ta, tb⟩ := hl
       have h' : Ok tk st (termK l.a :: kSign (opText l.op) :: termK l.b :: ks) := h
       obtain ⟨g1, g2, g3, g4⟩ := term_at (e := e) h' ta
       have hnext := fun s2 => ok_sign (e := e) g2 s2
       have hopen : openT tk e st = false := by
         unfold openT
         rw [hnext]
         rcases op_four ⟨o1, o2⟩ with q | q | q | q <;> rw [q] <;> (cases nameT (hereT tk e st) <;> decide)
       have hop : opI (hereT tk e st.next) = l.op := by
         obtain ⟨k1, _, k3, _⟩ := ok_here (e := e) (a := 4) (b := 0) (s := opText l.op) g2
         unfold opI
         rw [if_pos k1, k3]
         rcases op_four ⟨o1, o2⟩ with q | q | q | q <;> rw [q] <;> decide
       have hbeg : beginsT (hereT tk e st) = true := by simp [beginsT, g3]
       obtain ⟨b1, b2, _⟩ := term_at (e := e) (ok_here (e := e) (a := 4) (b := 0) (s := opText l.op) g2).2.2.2.1 tb
       refine ⟨st.next.next.next, ?_, b2, hbeg⟩
       have hc := litI_cmp (tk := tk) (e := e) (st := st) g4 hopen (by rw [g1]; show ¬ opI (hereT tk e st.next) < 1; rw [hop]; omega)
       rw [g1] at hc
       have hc2 : litI tk e st = (⟨3, noAtom, opI (hereT tk e st.next), l.a, (termP tk e false st.next.next).1⟩, (termP tk e false st.next.next).2) := hc
       rw [hc2, b1, hop]
       have a1 := ba_iff.1 n1
       have a2 := List.eq_nil_of_length_eq_zero n2
       cases l with | mk k at' op a b => cases at' with | mk nm ar => simp only at h3 a1 a2; rw [h3, a1, a2]
     · rw [if_neg h3] at hl; cases hl
theorem body_at {ks : List Key} : ∀ (ls : List Litt) (f : Nat) (st : PS) (a : List Litt), ¬ ls = [] → (∀ l ∈ ls, litB l = true) → Ok tk st (joinK (ls.map litK') ++ kSign ⟨#[46]⟩ :: ks) → a.length + ls.length ≤ 8 → ls.length ≤ f →
   ∃ st', bodyI tk e f st a = (a ++ ls, st') ∧ Ok tk st' (kSign ⟨#[46]⟩ :: ks)
 | [], f, st, a, hn, _, _, _, _ => absurd rfl hn
 | [l], f, st, a, _, ht, ho, hl, hf => by
   obtain ⟨f, rfl⟩ : ∃ f', f = f' + 1 := ⟨f - 1, by simp at hf; omega⟩
   obtain ⟨st', h1, h2, h3⟩ := lit_at (e := e) (l := l) ho (ht l (by simp))
   refine ⟨st', ?_, h2⟩
   unfold bodyI
   rw [if_pos ho.1, if_neg (by rintro ⟨_, q⟩; simp at hl; omega), h1, if_neg (by rw [ok_sign h2]; decide)]
 | l :: u :: r, f, st, a, _, ht, ho, hl, hf => by
   obtain ⟨f, rfl⟩ : ∃ f', f = f' + 1 := ⟨f - 1, by simp at hf; omega⟩
   have ho' : Ok tk st (litK' l ++ (kSign ⟨#[44]⟩ :: (joinK ((u :: r).map litK') ++ kSign ⟨#[46]⟩ :: ks))) := by
     have e1 : joinK ((l :: u :: r).map litK') ++ kSign ⟨#[46]⟩ :: ks = litK' l ++ (kSign ⟨#[44]⟩ :: (joinK ((u :: r).map litK') ++ kSign ⟨#[46]⟩ :: ks)) := by
       show (litK' l ++ kSign ⟨#[44]⟩ :: joinK ((u :: r).map litK')) ++ kSign ⟨#[46]⟩ :: ks = _
       simp
     rw [e1] at ho; exact ho
   obtain ⟨st1, h1, h2, h3⟩ := lit_at (e := e) ho' (ht l (by simp))
   have h4 := (ok_here (e := e) (a := 4) (b := 0) (s := ⟨#[44]⟩) h2).2.2.2.1
   obtain ⟨st', g1, g2⟩ := body_at (u :: r) f st1.next (a ++ [l]) (by simp) (fun x hx => ht x (List.mem_cons_of_mem _ hx)) h4 (by simp at hl ⊢; omega) (by simp at hf ⊢; omega)
   refine ⟨st', ?_, g2⟩
   unfold bodyI
   rw [if_pos ho.1, if_neg (by rintro ⟨_, q⟩; simp at hl; omega), h1, if_pos (by rw [ok_sign h2]; exact ba_iff.2 rfl)]
   rw [g1]
   simp
theorem rule_at {st : PS} {r : Rulet} {ks : List Key} (h : Ok tk st (ruleK' r ++ ks)) (hr : ruleB r = true) : ∃ st', ruleI tk e st = (r, st') ∧ Ok tk st' ks ∧ startsT (hereT tk e st) = true ∧ ¬ 0 < kindI (hereT tk e st) := by
 obtain ⟨k1, k2, k3, k4⟩ := ruleB_parts hr
 have ha : atomB r.head = true := by
   simp only [ruleB, Bool.and_eq_true] at hr; exact hr.2.1
 obtain ⟨p1, p2, p3⟩ := atom_parts ha
 have hk := nameB_kept p1
 have h' : Ok tk st (signK r.kind ++ (atomK' r.head ++ (bodyK r.body ++ kSign ⟨#[46]⟩ :: ks))) := by
   have e1 : ruleK' r ++ ks = signK r.kind ++ (atomK' r.head ++ (bodyK r.body ++ kSign ⟨#[46]⟩ :: ks)) := by simp [ruleK']
   rw [e1] at h; exact h
 have hp : ∃ s0, plusP tk e st = (r.kind, s0) ∧ Ok tk s0 (atomK' r.head ++ (bodyK r.body ++ kSign ⟨#[46]⟩ :: ks)) ∧ startsT (hereT tk e st) = true ∧ ¬ 0 < kindI (hereT tk e st) := by
   have hc : r.kind = 1 ∨ r.kind = 2 ∨ r.kind = 3 := by omega
   rcases hc with q | q | q
   · rw [q] at h' ⊢
     have h2 : Ok tk st ((1, 0, r.head.name) :: ((kSign ⟨#[40]⟩ :: (joinK (r.head.args.map fun t => [termK t]) ++ [kSign ⟨#[41]⟩])) ++ (bodyK r.body ++ kSign ⟨#[46]⟩ :: ks))) := h'
     have hn := fun s2 => ok_name (e := e) h2 s2
     obtain ⟨u1, _, u3, _⟩ := ok_here (e := e) h2
     have hnm : nameT (hereT tk e st) = true := by rw [(hn ⟨#[]⟩).2.1, hk.2]; rfl
     refine ⟨st, plus_none (hn _).1 (hn _).1, h', by simp [startsT, hnm], ?_⟩
     have q2 := (kindI_pos (hereT tk e st)).1
     have q3 : kindS (hereT tk e st) = 0 := by unfold kindS; rw [if_pos u1, u3]; exact (kept_words hk.2).1
     rw [q2, q3]; decide
   · rw [q] at h' ⊢
     have h2 : Ok tk st (kSign ⟨#[43]⟩ :: (atomK' r.head ++ (bodyK r.body ++ kSign ⟨#[46]⟩ :: ks))) := h'
     have hs := ok_sign (e := e) h2 ⟨#[43]⟩
     have hs' : signT (hereT tk e st) ⟨#[43]⟩ = true := by rw [hs]; exact ba_iff.2 rfl
     refine ⟨st.next, plus_plus hs', (ok_here (e := e) (a := 4) (b := 0) (s := ⟨#[43]⟩) h2).2.2.2.1, by simp [startsT, hs'], ?_⟩
     intro q2; have := kindI_kind q2; have := sign_kind hs'; omega
   · rw [q] at h' ⊢
     have h2 : Ok tk st (kSign ⟨#[45]⟩ :: (atomK' r.head ++ (bodyK r.body ++ kSign ⟨#[46]⟩ :: ks))) := h'
     have hs' : signT (hereT tk e st) ⟨#[45]⟩ = true := by rw [ok_sign (e := e) h2]; exact ba_iff.2 rfl
     have hs0 : signT (hereT tk e st) ⟨#[43]⟩ = false := by rw [ok_sign (e := e) h2]; decide
     refine ⟨st.next, plus_minus hs0 hs', (ok_here (e := e) (a := 4) (b := 0) (s := ⟨#[45]⟩) h2).2.2.2.1, by simp [startsT, hs'], ?_⟩
     intro q2; have := kindI_kind q2; have := sign_kind hs'; omega
 obtain ⟨s0, f1, f2, f3, f4⟩ := hp
 obtain ⟨s1, g1, g2⟩ := atom_at (e := e) f2 ha
 have e1 : (atomI tk e s0).2 = s1 := by rw [g1]
 have e2 : (atomI tk e s0).1 = r.head := by rw [g1]
 by_cases hb : r.body = []
 · have g3 : Ok tk s1 (kSign ⟨#[46]⟩ :: ks) := by
     have : bodyK r.body = [] := by unfold bodyK; rw [if_pos hb]
     rw [this] at g2; exact g2
   obtain ⟨t1, t2⟩ := take_at (e := e) g3
   refine ⟨s1.next, ?_, t2, f3, f4⟩
   rw [ruleI_bare' f1 (by rw [e1, ok_sign g3]; decide), e1, e2, t1]
   cases r with | mk k hd bd => simp only at hb; rw [hb]
 · have g3 : Ok tk s1 (kSign ⟨#[58, 45]⟩ :: (joinK (r.body.map litK') ++ kSign ⟨#[46]⟩ :: ks)) := by
     have : bodyK r.body = kSign ⟨#[58, 45]⟩ :: joinK (r.body.map litK') := by unfold bodyK; rw [if_neg hb]
     rw [this] at g2; exact g2
   have g4 := (ok_here (e := e) (a := 4) (b := 0) (s := ⟨#[58, 45]⟩) g3).2.2.2.1
   obtain ⟨s2, b1, b2⟩ := body_at (e := e) r.body 10 s1.next [] hb k4 g4 (by simp; omega) (by omega)
   obtain ⟨t1, t2⟩ := take_at (e := e) b2
   refine ⟨s2.next, ?_, t2, f3, f4⟩
   rw [ruleI_body' f1 (by rw [e1, ok_sign g3]; exact ba_iff.2 rfl), e1, e2, b1]
   show (_, takeP tk e ⟨#[46]⟩ s2) = _
   rw [t1]
   rfl
theorem decl_at {st : PS} {d : Declt} {ks : List Key} (h : Ok tk st (declK' d ++ ks)) (hd : declB d = true) : ∃ st', declI tk e d.kind st = (d, st') ∧ Ok tk st' ks ∧ kindI (hereT tk e st) = d.kind := by
 simp only [declB, Bool.and_eq_true, decide_eq_true_eq] at hd
 have h' : Ok tk st ((1, 0, declWord d.kind) :: (1, 0, d.name) :: kSign ⟨#[47]⟩ :: (3, d.arity, ⟨#[]⟩) :: kSign ⟨#[46]⟩ :: ks) := h
 obtain ⟨u1, _, u3, u4, _⟩ := ok_here (e := e) h'
 obtain ⟨w1, w2⟩ := word_at (e := e) u4 hd.2
 obtain ⟨t1, t2⟩ := take_at (e := e) w2
 have hs : slashP tk e st.next = st.next.next.next := by unfold slashP; rw [w1, t1]
 obtain ⟨v1, v2, v3, v4, _⟩ := ok_here (e := e) t2
 obtain ⟨x1, x2⟩ := take_at (e := e) v4
 refine ⟨st.next.next.next.next.next, ?_, x2, ?_⟩
 · rw [declI_ok (by rw [hs]; exact v1) (by rw [hs, v2]; omega), hs, v2, w1, x1]
 · unfold kindI
   rw [if_pos u1, u3]
   have : d.kind = 1 ∨ d.kind = 2 ∨ d.kind = 3 := by omega
   rcases this with q | q | q <;> rw [q] <;> decide
theorem rules_at : ∀ (rs' : List Rulet) (f : Nat) (st : PS) (ds : List Declt) (rs : List Rulet), (∀ r ∈ rs', ruleB r = true) → Ok tk st (rs'.flatMap ruleK') → rs.length + rs'.length ≤ 24 → rs'.length + 1 ≤ f →
   ∃ st', progI tk e f st ds rs = (ds, rs ++ rs', st') ∧ st'.code = 0
 | [], f, st, ds, rs, _, ho, _, hf => by
   obtain ⟨f, rfl⟩ : ∃ f', f = f' + 1 := ⟨f - 1, by omega⟩
   have := ok_nil ho
   refine ⟨st, ?_, ho.1⟩
   rw [progI, if_neg (fun q => this q.2), List.append_nil]
 | r :: rs', f, st, ds, rs, hr, ho, hl, hf => by
   obtain ⟨f, rfl⟩ : ∃ f', f = f' + 1 := ⟨f - 1, by omega⟩
   simp only [List.length_cons] at hl hf
   have ho' : Ok tk st (ruleK' r ++ rs'.flatMap ruleK') := by rw [List.flatMap_cons] at ho; exact ho
   obtain ⟨s1, g1, g2, g3, g4⟩ := rule_at (e := e) ho' (hr r (by simp))
   have hi : st.code = 0 ∧ st.i < tk.length := here_good (tk := tk) (e := e) (st := st) (starts_kind g3)
   obtain ⟨st', q1, q2⟩ := rules_at rs' f s1 ds (rs ++ [r]) (fun x hx => hr x (List.mem_cons_of_mem _ hx)) g2 (by simp; omega) (by omega)
   refine ⟨st', ?_, q2⟩
   rw [progI, if_pos hi, if_neg (by rintro (q | q); exact g4 q.1; omega), if_neg g4, if_pos g3, g1]
   show progI tk e f s1 ds (rs ++ [r]) = _
   rw [q1]; simp
theorem decls_at : ∀ (ds' : List Declt) (rs' : List Rulet) (f : Nat) (st : PS) (ds : List Declt), (∀ d ∈ ds', declB d = true) → (∀ r ∈ rs', ruleB r = true) → Ok tk st (ds'.flatMap declK' ++ rs'.flatMap ruleK') → ds.length + ds'.length ≤ 16 → rs'.length ≤ 24 → ds'.length + rs'.length + 1 ≤ f →
   ∃ st', progI tk e f st ds [] = (ds ++ ds', rs', st') ∧ st'.code = 0
 | [], rs', f, st, ds, _, hr, ho, _, hl2, hf => by
   obtain ⟨st', q1, q2⟩ := rules_at (e := e) rs' f st ds [] hr ho (by simp; omega) (by simp at hf; omega)
   exact ⟨st', by rw [q1]; simp, q2⟩
 | d :: ds', rs', f, st, ds, hd, hr, ho, hl, hl2, hf => by
   obtain ⟨f, rfl⟩ : ∃ f', f = f' + 1 := ⟨f - 1, by omega⟩
   simp only [List.length_cons] at hl hf
   have ho' : Ok tk st (declK' d ++ (ds'.flatMap declK' ++ rs'.flatMap ruleK')) := by rw [List.flatMap_cons, List.append_assoc] at ho; exact ho
   obtain ⟨s1, g1, g2, g3⟩ := decl_at (e := e) ho' (hd d (by simp))
   have hdk := hd d (by simp)
   simp only [declB, Bool.and_eq_true, decide_eq_true_eq] at hdk
   have hk : 0 < kindI (hereT tk e st) := by rw [g3]; omega
   have hi : st.code = 0 ∧ st.i < tk.length := here_good (tk := tk) (e := e) (st := st) (by rw [kindI_kind hk]; decide)
   obtain ⟨st', q1, q2⟩ := decls_at ds' rs' f s1 (ds ++ [d]) (fun x hx => hd x (List.mem_cons_of_mem _ hx)) hr g2 (by simp; omega) hl2 (by omega)
   refine ⟨st', ?_, q2⟩
   rw [progI, if_pos hi, if_neg (by rintro (q | q); omega; simp at q), if_pos hk, g3, g1]
   show progI tk e f s1 (ds ++ [d]) [] = _
   rw [q1]; simp
end
/-- A printed program is read ars itself. -/
theorem parse_print {p : Programt} {w : ByteArray} (h : programText p = (w, true)) : parseI w = (p, 0, 0) ∧ programB p = true := by
 unfold programText at h
 by_cases hp : programB p = true
 · rw [if_pos hp] at h
   by_cases hs : 6000 < (progBody p p.decls.length p.rules.length).size
   · rw [if_pos hs] at h; simp at h
   · rw [if_neg hs] at h
     have hw : progBody p p.decls.length p.rules.length = w := congrArg Prod.fst h
     obtain ⟨toks, e1, e2⟩ := lex_prog hp (by omega)
     rw [hw] at e1
     have hq := hp
     simp only [programB, Bool.and_eq_true, decide_eq_true_eq] at hq
     obtain ⟨st', q1, q2⟩ := decls_at (tk := toks) (e := (w.size : Int)) p.decls p.rules 43 ⟨0, 0, 0⟩ [] (List.all_eq_true.1 hq.2.1) (List.all_eq_true.1 hq.2.2) ⟨rfl, by rw [List.drop_zero]; exact e2⟩ (by simp; omega) hq.1.2 (by omega)
     refine ⟨?_, hp⟩
     unfold parseI
     rw [e1]
     show (if (0 : Int) = 0 then endR (progI toks (w.size : Int) 43 ⟨0, 0, 0⟩ [] []) else _) = _
     rw [if_pos rfl, q1, List.nil_append]
     exact endR_ok q2
 · rw [if_neg hp] at h; simp at h
end Go.Proofs.Ytkemjhlbokldhaa

/- What the law of reprinting asks, in plain words. -/
namespace Go.Proofs.Ytkemjhlbokldhaa
open Go.RowKit
set_option linter.unusedVariables false
set_option linter.unusedSimpArgs false

theorem parse_bad {s : ByteArray} (h : ¬ (parseI s).2.1 = 0) : (parseI s).1 = ⟨[], []⟩ := by
 unfold parseI at *
 split
 · rename_i h1
   rw [if_pos h1] at h
   unfold endR at *
   split
   · rename_i h2; rw [if_pos h2] at h; exact absurd rfl h
   · rfl
 · rfl
theorem print_le (p : Programt) : (programText p).1.size ≤ 6000 := by
 unfold programText
 split
 · split
   · exact Nat.zero_le _
   · dsimp only; omega
 · exact Nat.zero_le _
theorem catTo_pos {α : Type} {f : α → ByteArray} {xs : List α} (h : ∀ x, 1 ≤ (f x).size) : ∀ k, k ≤ xs.length → k ≤ (catTo f xs k).size
 | 0, _ => Nat.zero_le _
 | k + 1, hk => by
   have ih := catTo_pos (xs := xs) h k (by omega)
   rw [catTo_more (xs := xs) (k := k) (by omega), size_app]
   have := h (xs[k]'(by omega))
   omega
theorem print_pos {p : Programt} {w : ByteArray} (h : programText p = (w, true)) : (w == (⟨#[]⟩ : ByteArray)) = decide (p.rules.length + p.decls.length = 0) := by
 unfold programText at h
 by_cases hp : programB p = true
 · rw [if_pos hp] at h
   by_cases hs : 6000 < (progBody p p.decls.length p.rules.length).size
   · rw [if_pos hs] at h; simp at h
   · rw [if_neg hs] at h
     have hw : progBody p p.decls.length p.rules.length = w := congrArg Prod.fst h
     have a1 := catTo_pos (f := declText) (xs := p.decls) (fun d => by
       have : (⟨#[32]⟩ : ByteArray).size = 1 := rfl
       simp only [declText, size_app]; omega) p.decls.length (Nat.le_refl _)
     have a2 := catTo_pos (f := lineText) (xs := p.rules) (fun r => by
       have : (⟨#[10]⟩ : ByteArray).size = 1 := rfl
       simp only [lineText, size_app]; omega) p.rules.length (Nat.le_refl _)
     by_cases h0 : p.rules.length + p.decls.length = 0
     · rw [decide_eq_true h0, ← hw]
       have e1 : p.decls.length = 0 := by omega
       have e2 : p.rules.length = 0 := by omega
       rw [ba_iff]
       unfold progBody
       rw [e1, e2]; rfl
     · rw [decide_eq_false h0, ba_no]
       intro e
       have hz : w.size = 0 := by rw [e]; rfl
       rw [← hw] at hz
       unfold progBody at hz
       rw [size_app] at hz
       omega
 · rw [if_neg hp] at h; simp at h
theorem count_pos (a b : Nat) : (!decide (a + b = 0)) = decide ((a : Int) + b > 0) := by
 by_cases h : a + b = 0
 · rw [decide_eq_true h, decide_eq_false (by omega)]; rfl
 · rw [decide_eq_false h, decide_eq_true (by omega)]; rfl
theorem print_two {p : Programt} (h : (programText p).2 = true) : programText p = ((programText p).1, true) := Prod.ext rfl h
end Go.Proofs.Ytkemjhlbokldhaa

/- The walk of FnReprint (printed by walk.py) -/
namespace Go.Proofs.Ytkemjhlbokldhaa
open Go.RowKit
set_option linter.unusedVariables false
set_option linter.unusedSimpArgs false
set_option maxRecDepth 100000

set_option maxHeartbeats 4000000 in
theorem lawFnReprint.fn (b : List Int) : AC Try.prog 6 [.one (.sl (intE .u8) b)] [] (.one (.c (.bool true))) [] := by
 refine AC_body1 Try.func6 rfl rfl Try.ntmps6 rfl Try.results6 ?_
 refine AW_seq ?_
 refine AW_regionN ?_
 refine AN_p (x_assign rfl rfl) ?_
 refine AN_nil ?_
 refine AW_seq ?_
 refine AW_seq ?_
 refine AW_regionN ?_
 refine AN_p (x_move rfl rfl) ?_
 refine AN_p (x_len (E := 5) (n := 1) rfl rfl (by kernel_rfl)) ?_
 refine AN_b (x_gtr rfl rfl rfl) (fun b18 h18 => ?_)
 refine AN_nil ?_
 cases b18
 rotate_left
 · try simp only [tdy] at h18
   refine AW_condT rfl ?_
   refine AW_seq ?_
   refine AW_regionN ?_
   refine AN_p (x_assign rfl rfl) ?_
   refine AN_nil ?_
   refine AW_ret ?_
   exact ⟨rn [], ⟨⟨⟨_, rfl, vle_bool rfl⟩, trivial⟩, trivial, trivial, rfl⟩⟩
 try simp only [tdy] at h18
 have hb : b.length ≤ 1048576 := by omega
 refine AW_condF rfl ?_
 refine AW_skip ?_
 refine AW_seq ?_
 refine AW_regionN ?_
 refine AN_p (x_move rfl rfl) ?_
 refine AN_x rfl rfl rfl (drawParse_x b hb) rfl rfl (fun _ => rfl) (fun _ => rfl) trivial (fun _ => rfl) ?_
 rintro x20 g20
 try dsimp only at g20
 try dsimp only
 refine AN_p (x_assign rfl rfl) ?_
 refine AN_nil ?_
 refine AW_seq ?_
 refine AW_regionN ?_
 refine AN_p (x_move rfl rfl) ?_
 refine AN_p (x_callR rfl rfl rfl (AC.renum (res := .tup [.agg [.own 100, .own 101], .one (.c (.int .i64 ((parseI x20).2.1))), .one (.c (.int .i64 ((parseI x20).2.2)))]) (L := [(100, some (.arr 97 declE (parseI x20).1.decls true)), (101, some (.arr 36 ruleE (parseI x20).1.rules true))]) (r := rn [(100, 0), (101, 1)]) (parseI_c0 x20 (by omega)) ⟨⟨_, rfl, BLe.rf⟩, ⟨_, rfl, BLe.rf⟩, trivial⟩ rfl) rfl AllV.rf rfl rfl rfl rfl rfl) ?_
 refine AN_p (x_move rfl rfl) ?_
 refine AN_p (x_extract rfl rfl rfl) ?_
 refine AN_p (x_extract rfl rfl rfl) ?_
 refine AN_p (x_extract rfl rfl rfl) ?_
 refine AN_p (x_alloc (z := .agg #[.slice none 0 0, .slice none 0 0]) 102 rfl (by kernel_rfl) rfl rfl rfl rfl) ?_
 refine AN_p (x_store (n := 2) rfl rfl rfl rfl (by kernel_rfl) rfl rfl rfl) ?_
 refine AN_p (x_assign rfl rfl) ?_
 refine AN_p (x_assign rfl rfl) ?_
 refine AN_nil ?_
 refine AW_seq ?_
 refine AW_regionN ?_
 refine AN_p (x_move rfl rfl) ?_
 refine AN_p (x_call0 rfl rfl rfl (parseR_c x20 (by omega)) rfl rfl) ?_
 refine AN_p (x_move rfl rfl) ?_
 refine AN_p (x_extract rfl rfl rfl) ?_
 refine AN_p (x_extract rfl rfl rfl) ?_
 refine AN_p (x_extract rfl rfl rfl) ?_
 refine AN_p (x_alloc (z := .agg #[.slice none 0 0, .slice none 0 0]) 103 rfl (by kernel_rfl) rfl rfl rfl rfl) ?_
 refine AN_p (x_store (n := 2) rfl rfl rfl rfl (by kernel_rfl) rfl rfl rfl) ?_
 refine AN_p (x_assign rfl rfl) ?_
 refine AN_p (x_assign rfl rfl) ?_
 refine AN_nil ?_
 refine AW_seq ?_
 refine AW_seq ?_
 refine AW_shutB 100 102 0 rfl rfl rfl rfl ?_
 refine AW_shutB 101 102 1 rfl rfl rfl rfl ?_
 refine AW_regionN ?_
 refine AN_p (x_move rfl rfl) ?_
 refine AN_p (x_move rfl rfl) ?_
 refine AN_b (x_neq rfl rfl rfl) (fun b35 h35 => ?_)
 refine AN_p (x_move rfl rfl) ?_
 cases b35
 rotate_left
 · exfalso; simp at h35
 try simp only [tdy] at h35
 refine AN_g rfl rfl (x_move rfl rfl) ?_
 refine AN_g rfl rfl (x_move rfl rfl) ?_
 refine AN_gb rfl rfl (x_neq rfl rfl rfl) (fun b39 h39 => ?_)
 refine AN_p (x_pickF rfl rfl rfl) ?_
 refine AN_nil ?_
 cases b39
 rotate_left
 · exfalso; simp at h39
 try simp only [tdy] at h39
 refine AW_condF rfl ?_
 refine AW_skip ?_
 refine AW_seq ?_
 refine AW_seq ?_
 refine AW_regionN ?_
 refine AN_p (x_move rfl rfl) ?_
 refine AN_b (x_neq rfl rfl rfl) (fun b42 h42 => ?_)
 refine AN_nil ?_
 cases b42
 rotate_left
 · try simp only [tdy] at h42
   have he := parse_bad (s := x20) (by simpa using h42)
   refine AW_condT rfl ?_
   refine AW_seq ?_
   refine AW_regionN ?_
   refine AN_p (x_field (off := 1) (o' := 1) rfl rfl rfl (by kernel_rfl) rfl) ?_
   refine AN_p (x_load1 rfl rfl rfl (by kernel_rfl) rfl) ?_
   refine AN_p (x_len (E := 36) (n := 4) rfl rfl (by kernel_rfl)) ?_
   refine AN_b (x_eql rfl rfl rfl) (fun b46 h46 => ?_)
   refine AN_p (x_move rfl rfl) ?_
   cases b46
   · exfalso; rw [he] at h46; simp at h46
   try simp only [tdy] at h46
   refine AN_g rfl rfl (x_field (off := 0) (o' := 0) rfl rfl rfl (by kernel_rfl) rfl) ?_
   refine AN_g rfl rfl (x_load1 rfl rfl rfl (by kernel_rfl) rfl) ?_
   refine AN_g rfl rfl (x_len (E := 97) (n := 3) rfl rfl (by kernel_rfl)) ?_
   refine AN_gb rfl rfl (x_eql rfl rfl rfl) (fun b51 h51 => ?_)
   refine AN_p (x_pickT rfl rfl rfl) ?_
   refine AN_p (x_assign rfl rfl) ?_
   refine AN_nil ?_
   refine AW_ret ?_
   cases b51
   · exfalso; rw [he] at h51; simp at h51
   try simp only [tdy] at h51
   exact ⟨rn [], ⟨⟨⟨_, rfl, vle_bool rfl⟩, trivial⟩, trivial, trivial, rfl⟩⟩
 try simp only [tdy] at h42
 have hgd := parse_good x20
 have hgp := programB_parts hgd
 have hle := print_le (parseI x20).1
 refine AW_condF rfl ?_
 refine AW_skip ?_
 refine AW_seq ?_
 refine AW_regionN ?_
 refine AN_p (x_loadN (n := 2) rfl rfl rfl (by kernel_rfl) rfl rfl) ?_
 refine AN_p (x_call0 rfl rfl rfl (printProgI_c (parseI x20).1) rfl rfl) ?_
 refine AN_p (x_move rfl rfl) ?_
 refine AN_p (x_extract rfl rfl rfl) ?_
 refine AN_b (x_extract rfl rfl rfl) (fun b57 h57 => ?_)
 refine AN_p (x_assign rfl rfl) ?_
 refine AN_p (x_assign rfl rfl) ?_
 refine AN_nil ?_
 refine AW_seq ?_
 refine AW_seq ?_
 refine AW_regionN ?_
 refine AN_p (x_move rfl rfl) ?_
 refine AN_p (x_not rfl rfl) ?_
 refine AN_nil ?_
 cases b57
 · try simp only [tdy] at h57
   refine AW_condT rfl ?_
   refine AW_seq ?_
   refine AW_regionN ?_
   refine AN_p (x_loadN (n := 2) rfl rfl rfl (by kernel_rfl) rfl rfl) ?_
   refine AN_b (x_call0 rfl rfl rfl (progI_c (parseI x20).1) rfl rfl) (fun b61 h61 => ?_)
   refine AN_p (x_assign rfl rfl) ?_
   refine AN_nil ?_
   refine AW_ret ?_
   cases b61
   · exfalso; rw [hgd] at h61; cases h61
   try simp only [tdy] at h61
   exact ⟨rn [], ⟨⟨⟨_, rfl, vle_bool rfl⟩, trivial⟩, trivial, trivial, rfl⟩⟩
 try simp only [tdy] at h57
 have hpt := print_two h57
 have hpp := (parse_print hpt).1
 have hpz := print_pos hpt
 refine AW_condF rfl ?_
 refine AW_skip ?_
 refine AW_seq ?_
 refine AW_regionN ?_
 refine AN_p (x_move rfl rfl) ?_
 refine AN_p (x_callR rfl rfl rfl (AC.renum (res := .tup [.agg [.own 104, .own 105], .one (.c (.int .i64 ((parseI (programText (parseI x20).1).1).2.1))), .one (.c (.int .i64 ((parseI (programText (parseI x20).1).1).2.2)))]) (L := [(104, some (.arr 97 declE (parseI (programText (parseI x20).1).1).1.decls true)), (105, some (.arr 36 ruleE (parseI (programText (parseI x20).1).1).1.rules true))]) (r := rn [(104, 0), (105, 1)]) (parseI_c0 (programText (parseI x20).1).1 (by omega)) ⟨⟨_, rfl, BLe.rf⟩, ⟨_, rfl, BLe.rf⟩, trivial⟩ rfl) rfl AllV.rf rfl rfl rfl rfl rfl) ?_
 refine AN_p (x_move rfl rfl) ?_
 refine AN_p (x_extract rfl rfl rfl) ?_
 refine AN_p (x_extract rfl rfl rfl) ?_
 refine AN_p (x_extract rfl rfl rfl) ?_
 refine AN_p (x_alloc (z := .agg #[.slice none 0 0, .slice none 0 0]) 106 rfl (by kernel_rfl) rfl rfl rfl rfl) ?_
 refine AN_p (x_store (n := 2) rfl rfl rfl rfl (by kernel_rfl) rfl rfl rfl) ?_
 refine AN_p (x_assign rfl rfl) ?_
 refine AN_p (x_assign rfl rfl) ?_
 refine AN_nil ?_
 refine AW_seq ?_
 refine AW_shutB 104 106 0 rfl rfl rfl rfl ?_
 refine AW_shutB 105 106 1 rfl rfl rfl rfl ?_
 refine AW_regionN ?_
 refine AN_p (x_loadN (n := 2) rfl rfl rfl (by kernel_rfl) rfl rfl) ?_
 refine AN_p (x_call0 rfl rfl rfl (printProgI_c (parseI (programText (parseI x20).1).1).1) rfl rfl) ?_
 refine AN_p (x_move rfl rfl) ?_
 refine AN_p (x_extract rfl rfl rfl) ?_
 refine AN_b (x_extract rfl rfl rfl) (fun b72 h72 => ?_)
 refine AN_p (x_assign rfl rfl) ?_
 refine AN_p (x_assign rfl rfl) ?_
 refine AN_nil ?_
 refine AW_seq ?_
 refine AW_regionN ?_
 refine AN_p (x_move rfl rfl) ?_
 refine AN_b (x_eql rfl rfl rfl) (fun b74 h74 => ?_)
 refine AN_p (x_move rfl rfl) ?_
 cases b74
 · exfalso; rw [hpp] at h74; simp at h74
 try simp only [tdy] at h74
 refine AN_g rfl rfl (x_move rfl rfl) ?_
 refine AN_g rfl rfl (x_move rfl rfl) ?_
 refine AN_gb rfl rfl (x_seql rfl rfl rfl) (fun b78 h78 => ?_)
 refine AN_p (x_pickT rfl rfl rfl) ?_
 refine AN_p (x_move rfl rfl) ?_
 cases b78
 · exfalso; rw [hpp] at h78; simp [ba_beq_self] at h78
 try simp only [tdy] at h78
 refine AN_g rfl rfl (x_move rfl rfl) ?_
 refine AN_gb rfl rfl (x_sneq rfl rfl rfl) (fun b82 h82 => ?_)
 refine AN_g rfl rfl (x_field (off := 1) (o' := 1) rfl rfl rfl (by kernel_rfl) rfl) ?_
 refine AN_g rfl rfl (x_load1 rfl rfl rfl (by kernel_rfl) rfl) ?_
 refine AN_g rfl rfl (x_len (E := 36) (n := 4) rfl rfl (by kernel_rfl)) ?_
 refine AN_g rfl rfl (x_field (off := 0) (o' := 0) rfl rfl rfl (by kernel_rfl) rfl) ?_
 refine AN_g rfl rfl (x_load1 rfl rfl rfl (by kernel_rfl) rfl) ?_
 refine AN_g rfl rfl (x_len (E := 97) (n := 3) rfl rfl (by kernel_rfl)) ?_
 refine AN_g rfl rfl (x_add rfl rfl rfl (IntWalk.i64_in _ (by omega))) ?_
 refine AN_gb rfl rfl (x_gtr rfl rfl rfl) (fun b90 h90 => ?_)
 refine AN_gb rfl rfl (x_beql rfl rfl rfl (by kernel_rfl)) (fun b91 h91 => ?_)
 refine AN_p (x_pickT rfl rfl rfl) ?_
 refine AN_p (x_assign rfl rfl) ?_
 refine AN_nil ?_
 refine AW_ret ?_
 cases b91
 · exfalso; rw [hpz, count_pos] at h82; rw [← h82, ← h90] at h91; simp at h91
 try simp only [tdy] at h91
 exact ⟨rn [], ⟨⟨⟨_, rfl, vle_bool rfl⟩, trivial⟩, trivial, trivial, rfl⟩⟩
theorem lawFnReprint.walk (w : World) (a0 : Option Addr) (n0 c0 : Nat) (x0 : List Int) (bs0 : List Nat) (g0 : SliceRep (intE .u8) w a0 n0 c0 x0 bs0) : Calls Try.prog 6 #[.slice a0 n0 c0] w fun e w' => e = .returned (.bool true) ∧ Below w.heap.size w w' :=
 (lawFnReprint.fn x0).calls w _ ⟨arg_sl g0 (fun i hi => (sliceE (intE .u8)).lt (sliceE_iff.2 g0) i hi), trivial⟩
end Go.Proofs.Ytkemjhlbokldhaa

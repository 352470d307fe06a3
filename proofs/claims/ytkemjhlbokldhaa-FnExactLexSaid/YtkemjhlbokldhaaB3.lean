/- Lemmas of the walks, part 3. -/
import Derived.Test.YtkemjhlbokldhaaB2
import Derived.Laws.CopyRow
import Derived.Laws.NewBlocks
import Derived.Lib.AppendZerosOnto
import Derived.Lib.Overlaps
import Derived.Lib.SliceRun
import Derived.Lib.JoinLaws
import Derived.Shelf.Spec.SlicesInsert
import Derived.Deep.RegionLaw
/- The sign at a place, ars the program and the reference look for it. -/
namespace Go.Proofs.Ytkemjhlbokldhaa
open Go.RowKit
set_option linter.unusedVariables false
set_option linter.unusedSimpArgs false

def twos : List ByteArray := [⟨#[58, 45]⟩, ⟨#[33, 61]⟩, ⟨#[60, 61]⟩]
def ones : List ByteArray := [⟨#[40]⟩, ⟨#[41]⟩, ⟨#[44]⟩, ⟨#[46]⟩, ⟨#[61]⟩, ⟨#[60]⟩, ⟨#[43]⟩, ⟨#[45]⟩, ⟨#[47]⟩]
def signB : ByteArray := ⟨#[40, 41, 44, 46, 61, 60, 43, 45, 47]⟩
theorem twos_len : twos.length = 3 := rfl
theorem ones_len : ones.length = 9 := rfl
theorem twos_mem (x : ByteArray) : isTwo x = twos.any (fun y => x == y) := by
  simp [isTwo, twos]
theorem twos_size {p : ByteArray} (h : p ∈ twos) : p.size = 2 := by
  simp only [twos, List.mem_cons, List.not_mem_nil, or_false] at h
  rcases h with rfl | rfl | rfl <;> rfl
section
variable {s : ByteArray} {i : Nat}
theorem sym_two (hi : i < s.size) {k : Nat} (hk : k < twos.length) (h : Lib.hasPrefix (s.extract i s.size).data.toList twos[k].data.toList = true) : symAt s i = twos[k] := by
  obtain ⟨h1, h2⟩ := (two_pre (by omega) (twos_size (List.getElem_mem hk))).1 h
  have h3 : isTwo twos[k] = true := by rw [twos_mem, List.any_eq_true]; exact ⟨_, List.getElem_mem hk, ba_iff.2 rfl⟩
  unfold symAt
  rw [dif_pos hi, h2, if_pos ⟨h1, h3⟩]
theorem no_two (hi : i < s.size) {k : Nat} (hn : NoneTo (fun p : ByteArray => Lib.hasPrefix (s.extract i s.size).data.toList p.data.toList) twos k) (hk : 3 ≤ k) : ¬ (i + 1 < s.size ∧ isTwo (s.extract i (i + 2)) = true) := by
  rintro ⟨h1, h2⟩
  rw [twos_mem, List.any_eq_true] at h2
  obtain ⟨p, hp, h3⟩ := h2
  obtain ⟨j, hj, rfl⟩ := List.getElem_of_mem hp
  have h4 := hn j hj (by rw [twos_len] at hj; omega)
  have h5 := (two_pre (s := s) (i := i) (by omega) (twos_size (List.getElem_mem hj))).2 ⟨h1, ba_iff.1 h3⟩
  simp only [h5] at h4; cases h4
theorem in_signs {c : UInt8} : 0 ≤ Lib.indexByte signB.data.toList c ↔ ((c.toNat : Int) ∈ signs) := by
  constructor
  · intro h
    obtain ⟨o, ho⟩ : ∃ o : Nat, Lib.indexByte signB.data.toList c = o := ⟨(Lib.indexByte signB.data.toList c).toNat, by omega⟩
    obtain ⟨h1, _⟩ := Lib.indexByte_some ho
    have h2 : c ∈ signB.data.toList := List.mem_of_getElem? h1
    have h3 : signB.data.toList = [40, 41, 44, 46, 61, 60, 43, 45, 47] := rfl
    rw [h3] at h2
    simp only [List.mem_cons, List.not_mem_nil, or_false] at h2
    rcases h2 with rfl | rfl | rfl | rfl | rfl | rfl | rfl | rfl | rfl <;> decide
  · intro h
    refine Int.not_lt.1 fun hl => ?_
    have h0 := Lib.indexByte_ge signB.data.toList c
    have h1 := Lib.indexByte_none (l := signB.data.toList) (c := c) (by omega)
    have hc : ∀ n : Nat, n < 256 → (c.toNat : Int) = n → c = UInt8.ofNat n := fun n hn h => by
      apply UInt8.toNat.inj
      rw [UInt8.toNat_ofNat_of_lt' (by omega)]; omega
    simp only [signs, List.mem_cons, List.not_mem_nil, or_false] at h
    rcases h with h | h | h | h | h | h | h | h | h
    · exact h1 0 (by rw [hc 40 (by decide) h]; rfl)
    · exact h1 1 (by rw [hc 41 (by decide) h]; rfl)
    · exact h1 2 (by rw [hc 44 (by decide) h]; rfl)
    · exact h1 3 (by rw [hc 46 (by decide) h]; rfl)
    · exact h1 4 (by rw [hc 61 (by decide) h]; rfl)
    · exact h1 5 (by rw [hc 60 (by decide) h]; rfl)
    · exact h1 6 (by rw [hc 43 (by decide) h]; rfl)
    · exact h1 7 (by rw [hc 45 (by decide) h]; rfl)
    · exact h1 8 (by rw [hc 47 (by decide) h]; rfl)
theorem back_u8 (c : UInt8) : (c.toNat : Int).toNat.toUInt8 = c := by
  apply UInt8.toNat.inj
  have := c.toNat_lt
  simp
theorem sym_one (hi : i < s.size) (h2 : ¬ (i + 1 < s.size ∧ isTwo (s.extract i (i + 2)) = true)) (h : 0 ≤ Lib.indexByte signB.data.toList (s[i].toNat : Int).toNat.toUInt8) : symAt s i = s.extract i (i + 1) := by
  rw [back_u8] at h
  unfold symAt
  rw [dif_pos hi, if_neg h2, if_pos (in_signs.1 h)]
theorem sym_none (hi : i < s.size) (h2 : ¬ (i + 1 < s.size ∧ isTwo (s.extract i (i + 2)) = true)) (h : ¬ 0 ≤ Lib.indexByte signB.data.toList (s[i].toNat : Int).toNat.toUInt8) : symAt s i = ⟨#[]⟩ := by
  rw [back_u8] at h
  unfold symAt
  rw [dif_pos hi, if_neg h2, if_neg fun q => h (in_signs.2 q)]
/-! the reference -/
theorem sym_pair (hi : i + 1 < s.size) {p : ByteArray} (h : s.extract i (i + 2) = p) (hp : isTwo p = true) : symAt s i = p := by
  unfold symAt
  rw [dif_pos (by omega), h, if_pos ⟨hi, hp⟩]
theorem ones_size {k : Nat} (hk : k < ones.length) : ones[k].size = 1 := by
  have : ∀ p ∈ ones, p.size = 1 := by
    intro p hp
    simp only [ones, List.mem_cons, List.not_mem_nil, or_false] at hp
    rcases hp with rfl | rfl | rfl | rfl | rfl | rfl | rfl | rfl | rfl <;> rfl
  exact this _ (List.getElem_mem hk)
def hd0 (p : ByteArray) : Int := match p.data.toList with | [] => -1 | c :: _ => c.toNat
theorem hd0_eq {p : ByteArray} (h : 0 < p.size) : hd0 p = p[0].toNat := by
  have h1 := getElem_data p 0 h
  unfold hd0
  cases hl : p.data.toList with
  | nil => have : p.data.toList.length = p.size := by simp
           rw [hl] at this; simp at this; omega
  | cons c l => simp [hl] at h1; simp [h1]
theorem ones_signs : ones.map hd0 = signs := rfl
theorem one_ext (hi : i < s.size) {p : ByteArray} (hp : p.size = 1) (h : hd0 p = s[i].toNat) : s.extract i (i + 1) = p := by
  have h0 : 0 < p.size := by omega
  rw [hd0_eq h0] at h
  refine ByteArray.ext (Array.ext' ?_)
  rw [ext_bytes (by omega)]
  have e1 : s.data.toList.drop i = s[i] :: s.data.toList.drop (i + 1) := by
    rw [List.drop_eq_getElem_cons (by simpa using hi), getElem_data s i hi]
  have e2 : p.data.toList = [p[0]] := by
    have h2 := getElem_data p 0 h0
    have h3 : p.data.toList.length = 1 := by simpa using hp
    match hl : p.data.toList, h3 with
    | [c], _ => simp [hl] at h2; rw [h2]
  rw [e1, e2]
  simp only [List.take_succ_cons, List.take_zero]
  rw [UInt8.toNat.inj (show s[i].toNat = p[0].toNat by omega)]
theorem sym_hit (hi : i < s.size) (h2 : ¬ (i + 1 < s.size ∧ isTwo (s.extract i (i + 2)) = true)) {k : Nat} (hk : k < ones.length) (h0 : 0 < ones[k].size) (h : (ones[k][0].toNat : Int) = s[i].toNat) : symAt s i = ones[k] := by
  have e : hd0 ones[k] = s[i].toNat := by rw [hd0_eq h0]; exact h
  unfold symAt
  have hm : (s[i].toNat : Int) ∈ signs := by
    rw [← ones_signs, List.mem_map]
    exact ⟨ones[k], List.getElem_mem hk, e⟩
  rw [dif_pos hi, if_neg h2, if_pos hm, one_ext hi (ones_size hk) e]
theorem sym_miss (hi : i < s.size) (h2 : ¬ (i + 1 < s.size ∧ isTwo (s.extract i (i + 2)) = true)) {k : Nat} (hk : 9 ≤ k) (hn : NoneTo (fun p : ByteArray => decide (hd0 p = s[i].toNat)) ones k) : symAt s i = ⟨#[]⟩ := by
  unfold symAt
  have hm : ¬ (s[i].toNat : Int) ∈ signs := by
    rw [← ones_signs, List.mem_map]
    rintro ⟨p, hp, e⟩
    obtain ⟨j, hj, rfl⟩ := List.getElem_of_mem hp
    have := hn j hj (by rw [ones_len] at hj; omega)
    simp [e] at this
  rw [dif_pos hi, if_neg h2, if_neg hm]
theorem not_two {y : ByteArray} (h1 : (y == (⟨#[58, 45]⟩ : ByteArray)) = false) (h2 : (y == (⟨#[33, 61]⟩ : ByteArray)) = false) (h3 : (y == (⟨#[60, 61]⟩ : ByteArray)) = false) : ¬ (i + 1 < s.size ∧ isTwo y = true) := by
  simp [isTwo, h1, h2, h3]
end
/-! what comes next -/
section
variable {s : ByteArray} {j : Nat}
theorem size_zero {y : ByteArray} (h : y.size = 0) : y = ⟨#[]⟩ := by
  obtain ⟨⟨l⟩⟩ := y
  have : l.length = 0 := h
  rw [List.eq_nil_of_length_eq_zero this]
theorem cls_dig {c : Int} : cls c = 3 ↔ digB c = true := by
  unfold cls
  by_cases h1 : letB c = true
  · have : digB c = false := by
      unfold letB at h1; unfold digB
      simp only [decide_eq_true_eq, decide_eq_false_iff_not] at *; omega
    simp [h1, this]
  · by_cases h2 : upB c = true
    · have : digB c = false := by
        unfold upB at h2; unfold digB
        simp only [decide_eq_true_eq, decide_eq_false_iff_not] at *; omega
      simp [h1, h2, this]
    · by_cases h3 : digB c = true <;> simp [h1, h2, h3]
theorem cls_pos {c : Int} : (cls c = 0 ↔ alnumB c = false) ∧ (0 < cls c ↔ alnumB c = true) := by
  have := alnum_cls c
  have h2 : 0 ≤ cls c := by
    unfold cls; repeat' split
    all_goals omega
  constructor
  · rw [this, decide_eq_false_iff_not]; omega
  · rw [this, decide_eq_true_eq]
theorem lexw_bad (h : j < s.size) (hs : skipS s j = j) (ha : alnumB s[j].toNat = true) (hc : ¬ (wordRes s j (s[j].toNat : Int)).2.2 = 0) : lexR s j = ([], (wordRes s j (s[j].toNat : Int)).2.2, (j : Int)) := by
  unfold wordRes at *
  cases ht : wordTok s j (wordEnd s j) (s[j].toNat : Int) with
  | mk o c =>
    cases o with
    | none => rw [ht] at hc; rw [lex_wrong h hs ha ht]
    | some t => rw [ht] at hc; exact absurd rfl hc
theorem tok_none {i e : Nat} {c k : Int} (h : wordTok s i e c = (none, k)) : ¬ k = 0 := by
  unfold wordTok at h
  repeat' split at h
  all_goals (first | (simp only [Prod.mk.injEq] at h; omega) | (simp at h; done) | (have := congrArg Prod.snd h; simp at this; omega))
theorem lexw_ok (h : j < s.size) (hs : skipS s j = j) (ha : alnumB s[j].toNat = true) (hc : (wordRes s j (s[j].toNat : Int)).2.2 = 0) : lexR s j = consL (wordRes s j (s[j].toNat : Int)).1 (lexR s (wordEnd s j)) ∧ (wordRes s j (s[j].toNat : Int)).2.1 = ((wordEnd s j : Nat) : Int) := by
  unfold wordRes at *
  cases ht : wordTok s j (wordEnd s j) (s[j].toNat : Int) with
  | mk o c =>
    cases o with
    | none => rw [ht] at hc; exact absurd hc (tok_none ht)
    | some t => exact ⟨lex_word h hs ha ht, rfl⟩
theorem comb_bad {out : List Tokent} {r : LexR} {c p : Int} (h : combL out (lexR s j) = r) (h2 : lexR s j = ([], c, p)) (hc : ¬ c = 0) : r = ([], c, p) := by
  rw [← h, h2]; simp [combL, hc]
theorem comb_ok {out : List Tokent} {r : LexR} {t : Tokent} {k : Nat} (h : combL out (lexR s j) = r) (h2 : lexR s j = consL t (lexR s k)) : combL (out ++ [t]) (lexR s k) = r := by
  rw [← comb_cons, ← h2]; exact h
theorem comb_skip {out : List Tokent} {r : LexR} {k : Nat} (h : combL out (lexR s j) = r) (hk : skipS s j = skipS s k) : combL out (lexR s k) = r := by
  rw [← lex_skip hk]; exact h
theorem comb_end {out : List Tokent} {r : LexR} (h : combL out (lexR s j) = r) (h2 : ¬ j < s.size) : r = (out, 0, 0) := by
  rw [← h, lex_end h2]; simp [combL]
theorem consL_wf {t : Tokent} {r : LexR} (h : ¬ (consL t r).2.1 = 0) : (consL t r).1 = [] := by
  unfold consL at *
  by_cases q : r.2.1 = 0
  · rw [if_pos q] at h; exact absurd q h
  · rw [if_neg q]
theorem lexR_wf {i : Nat} (h : ¬ (lexR s i).2.1 = 0) : (lexR s i).1 = [] := by
  rw [lexR] at *
  split
  · rename_i h1
    rw [dif_pos h1] at h
    split
    · rename_i ha
      rw [dif_pos ha] at h
      split
      · rename_i t c ht
        simp only [ht] at h
        exact consL_wf h
      · rfl
    · rename_i ha
      rw [dif_neg ha] at h
      split
      · rfl
      · rename_i hy
        rw [dif_neg hy] at h
        exact consL_wf h
  · rfl
theorem comb_start : combL [] (lexR s j) = lexR s j := by
  unfold combL
  by_cases h : (lexR s j).2.1 = 0
  · rw [if_pos h]; rfl
  · rw [if_neg h, ← lexR_wf h]
theorem lexAll_big (h : 6000 < (s.size : Int)) : lexAll s = ([], 1, 0) := by unfold lexAll; rw [if_pos (by omega)]
theorem lexAll_eq (h : ¬ 6000 < (s.size : Int)) : lexAll s = lexR s 0 := by unfold lexAll; rw [if_neg (by omega)]
/-- The reference's word. -/
theorem lexS_ok {k : Nat} {t : Tokent} (h : j < s.size) (hs : skipS s j = j) (ha : alnumB s[j].toNat = true) (he : k = wordEnd s j) (hc : wordRes s j (s[j].toNat : Int) = (t, (k : Int), 0)) : lexR s j = consL t (lexR s k) := by
  have := (lexw_ok h hs ha (by rw [hc])).1
  rw [hc, ← he] at this; exact this
theorem lexS_bad {c : Int} (h : j < s.size) (hs : skipS s j = j) (ha : alnumB s[j].toNat = true) (hc : wordRes s j (s[j].toNat : Int) = (⟨0, 0, ⟨#[]⟩, 0⟩, 0, c)) (h0 : ¬ c = 0) : lexR s j = ([], c, (j : Int)) := by
  have := lexw_bad h hs ha (by rw [hc]; exact h0)
  rw [hc] at this; exact this
end
end Go.Proofs.Ytkemjhlbokldhaa

/- The abstract walk: a field of an element of an own array written anew. -/
namespace Go.Proofs.Ytkemjhlbokldhaa
open Go.RowKit
set_option linter.unusedVariables false
section ops
variable {P : Program} {N : Nat} {s : St} {ty : TypeId} {pos : String} {after : Array Edge} {gd : Option (Nat × Bool)}
end ops
end Go.Proofs.Ytkemjhlbokldhaa

/- Elements ars the cells that hold them: what a function that moves elements about does with an array of one's own, footprint and all. -/
namespace Go.Proofs.Ytkemjhlbokldhaa
open Go.RowKit
set_option linter.unusedVariables false

/-- A datum, the cells that hold it, and its footprint. -/
structure Raw (α : Type) where
  x : α
  vs : List Value
  b : List Nat
theorem CLe.rx {α : Type} {e : Enc α} {f : α → List Cell} [hc : CellsOf e f] {x : α} {vs : List Value} {b : List Nat} {j : Nat} {y : Cell} (h : nthC (f x) j = some y) : CLe (.rx e x vs b j) y := fun g l w v h1 => by
  obtain ⟨v', h2, h3⟩ := ((hc.iff.1 h1.2.1).all2 h1.2.2).get (nthC_get h)
  have h4 := h1.1.1
  rw [h4] at h2; cases h2
  exact h3
end Go.Proofs.Ytkemjhlbokldhaa

/- Contracts told of the cells of a row, ars contracts of arrays of one's own. -/
namespace Go.Proofs.Ytkemjhlbokldhaa
open Go.RowKit
set_option linter.unusedVariables false

section
variable {g : Gh} {l : Locs} {w w' : World}
end
/-! ### Elements of some cells, copied and cleared -/
theorem FR.flatLen {α : Type} {e : Enc α} {f : α → List Cell} [hc : CellsOf e f] {w : World} : ∀ {xs : List α} {vs : List Value} {b : List Nat}, FR w vs (xs.flatMap f) b → vs.length = xs.length * e.size
  | [], [], b, h => by simp
  | [], _ :: _, b, h => h.elim
  | x :: xs, vs, b, h => by
    rw [List.flatMap_cons] at h
    obtain ⟨v1, v2, b1, b2, rfl, rfl, h1, h2⟩ := FR.app.1 h
    have l1 := e.len (hc.iff.2 h1)
    have l2 := FR.flatLen (e := e) h2
    rw [List.length_append, l1, l2, List.length_cons, Nat.add_mul]; omega
theorem FR.parts {α : Type} {e : Enc α} {f : α → List Cell} [hc : CellsOf e f] {w : World} {xs : List α} {cells : List Value} {bs : List Nat} (h : FR w cells (xs.flatMap f) bs) {i : Nat} (hi : i ≤ xs.length) :
    ∃ b1 b3, bs = b1 ++ b3 ∧ FR w (cells.take (i * e.size)) ((xs.take i).flatMap f) b1 ∧ FR w (cells.drop (i * e.size)) ((xs.drop i).flatMap f) b3 := by
  have e0 : xs.flatMap f = (xs.take i).flatMap f ++ (xs.drop i).flatMap f := by rw [← List.flatMap_append, List.take_append_drop]
  rw [e0] at h
  obtain ⟨v1, v2, b1, b3, rfl, rfl, h1, h2⟩ := FR.app.1 h
  have l1 := FR.flatLen (e := e) h1
  rw [List.length_take, Nat.min_eq_left hi] at l1
  exact ⟨b1, b3, rfl, by rw [List.take_left' l1]; exact h1, by rw [List.drop_left' l1]; exact h2⟩
end Go.Proofs.Ytkemjhlbokldhaa

/- Results that nobody writes any more; arrays whose elements are shared; appending and clearing in regions. -/
namespace Go.Proofs.Ytkemjhlbokldhaa
open Go.RowKit
set_option linter.unusedVariables false

/-! ### An array's elements are no longer its own alone -/
section
variable {g : Gh} {l : Locs} {w : World}
variable {P : Program} {N : Nat} {K : List Nat} {Kn : St → Prop} {Q : Exit → St → Prop} {s : St}
end

/-! ### A result that is given up to be read alone -/
def frzC {α : Type} (e : Enc α) (xs : List α) : Cell → Cell
  | .own _ => .sl e xs
  | c => c
def AVal.frz1 {α : Type} (e : Enc α) (xs : List α) : AVal → AVal
  | .one x => .one (frzC e xs x)
  | .agg xs' => .agg (xs'.map (frzC e xs))
  | .tup xs' => .tup xs'
def AVal.frz {α : Type} (e : Enc α) (xs : List α) : AVal → AVal
  | .tup xs' => .tup (xs'.map (AVal.frz1 e xs))
  | x => x.frz1 e xs
section
variable {g g' : Gh} {w : World} {α : Type} {T : TypeId} {e : Enc α} {xs : List α} {d : Bool}
theorem frzC_ok (hs : CellR g' [] w (g.hd 0) (.sl e xs)) {v : Value} {c : Cell} (hc : cleanC c = true) (hi : ∀ k ∈ c.ids, k = 0) (h : CellR g [(0, some (.arr T e xs d))] w v c) : CellR g' [] w v (frzC e xs c) := by
  cases c with
  | c u => exact h
  | own k =>
    have hk0 : k = 0 := hi k (by simp [Cell.ids])
    subst hk0
    have : v = g.hd 0 := h _ _ _ _ _ rfl
    rw [this]; exact hs
  | any => trivial
  | _ => cases hc
theorem frz1_ok (hs : CellR g' [] w (g.hd 0) (.sl e xs)) : ∀ {v : Value} {x : AVal}, cleanV x = true → (∀ k ∈ x.ids1, k = 0) → VR1 g [(0, some (.arr T e xs d))] w v x → VR1 g' [] w v (x.frz1 e xs)
  | v, .one c, hc, hi, h => frzC_ok hs hc hi h
  | v, .agg cs, hc, hi, ⟨vs, h1, h2⟩ => by
    refine ⟨vs, h1, ?_⟩
    clear h1
    have hc' : ∀ c ∈ cs, cleanC c = true := fun c hm => List.all_eq_true.1 hc c hm
    have hi' : ∀ c ∈ cs, ∀ k ∈ c.ids, k = 0 := fun c hm k hk => hi k (List.mem_flatMap.2 ⟨c, hm, hk⟩)
    clear hc hi
    induction cs generalizing vs with
    | nil => cases vs with | nil => trivial | cons _ _ => exact h2.elim
    | cons c cs ih =>
      cases vs with
      | nil => exact h2.elim
      | cons u us => exact ⟨frzC_ok hs (hc' c (by simp)) (hi' c (by simp)) h2.1, ih us h2.2 (fun c hm => hc' c (by simp [hm])) (fun c hm => hi' c (by simp [hm]))⟩
  | v, .tup _, _, _, h => h.elim
end
theorem AC.frz {P : Program} {f : FuncId} {args : List AVal} {res : AVal} {α : Type} {T : TypeId} {e : Enc α} {xs : List α} {d : Bool} (h : AC P f args [] res [(0, some (.arr T e xs d))]) (hc : cleanV res = true) (hi : ∀ k ∈ res.ids, k = 0) : AC P f args [] (res.frz e xs) [] := by
  refine ⟨h.fn, fun g w cargs m ha => (h.run g w cargs m ha).mono ?_⟩
  rintro r w' ⟨v, g1, rfl, m1, hv, hs⟩
  have hk : lkl [(0, some (Blk.arr T e xs d))] 0 = some (.arr T e xs d) := rfl
  obtain ⟨m2, s2, c2, _⟩ := shut_mem m1 hk
  have T1 := Step.trans m m1 hs (s2 [])
  have no : ∀ k b, lkl [] k ≠ some b := fun k b h => by simp [lkl, lk] at h
  have m3 : MemR (g1.shut 0) [] w' := ⟨m2.ilt, fun k cs h => (no _ _ h).elim, fun k β T e2 ys d h => (no _ _ h).elim, fun j k b b' _ h => (no _ _ h).elim, fun k β T e2 ys h => (no _ _ h).elim, fun j k β γ T U e2 e3 ys zs _ h => (no _ _ h).elim⟩
  have hsl : CellR (g1.shut 0) [] w' (g1.hd 0) (.sl e xs) := c2
  refine ⟨v, g1.shut 0, rfl, m3, ?_, ⟨T1.os, T1.tape, T1.output, T1.size, T1.keep, T1.imm, T1.imm', fun b hb => ?_, fun k hk => by cases hk⟩⟩
  · cases res with
    | one x => exact frz1_ok (d := d) (T := T) hsl hc (fun k hk => hi k hk) hv
    | agg cs => exact frz1_ok (x := .agg cs) (d := d) (T := T) hsl hc (fun k hk => hi k hk) hv
    | tup ys =>
      obtain ⟨vs, h1, h2⟩ := hv
      refine ⟨vs, h1, ?_⟩
      clear h1
      have hc' : ∀ y ∈ ys, cleanV y = true := fun y hm => by
        have := List.all_eq_true.1 hc y hm
        cases y with
        | one _ => exact this
        | agg _ => exact this
        | tup _ => cases this
      have hi' : ∀ y ∈ ys, ∀ k ∈ y.ids1, k = 0 := fun y hm k hk => hi k (List.mem_flatMap.2 ⟨y, hm, hk⟩)
      clear hc hi h ha
      induction ys generalizing vs with
      | nil => cases vs with | nil => trivial | cons _ _ => exact h2.elim
      | cons y ys ih =>
        cases vs with
        | nil => exact h2.elim
        | cons u us => exact ⟨frz1_ok (d := d) (T := T) hsl (hc' y (by simp)) (hi' y (by simp)) h2.1, ih us h2.2 (fun y hm => hc' y (by simp [hm])) (fun y hm => hi' y (by simp [hm]))⟩
  · obtain ⟨k, blk, h1, _⟩ := hb
    exact (no _ _ h1).elim

/-! ### append and clear, where their runs are known by equations -/
end Go.Proofs.Ytkemjhlbokldhaa

/- Operations whose new array is at once given up to be read alone. -/
namespace Go.Proofs.Ytkemjhlbokldhaa
open Go.RowKit
set_option linter.unusedVariables false

theorem above : ∀ L : List Nat, ∃ k, ∀ i ∈ L, i < k
  | [] => ⟨0, fun i h => by cases h⟩
  | a :: L => by
    obtain ⟨k, hk⟩ := above L
    refine ⟨max (a + 1) k, fun i hi => ?_⟩
    rcases List.mem_cons.1 hi with rfl | hi
    · omega
    · have := hk i hi; omega
section
variable {g g' : Gh} {l l' : Locs} {w w' : World}
theorem okK.congr {l2 : Locs} (h : ∀ j, lkl l' j = lkl l2 j) {k : Nat} (hk : okK g l g' l' k) : okK g l g' l2 k :=
  ⟨fun cs hc => hk.1 cs (by rw [h]; exact hc), fun α T e xs d hc => hk.2 α T e xs d (by rw [h]; exact hc)⟩
theorem okK.back {l2 : Locs} (h : ∀ j, lkl l j = lkl l2 j) {k : Nat} : okK g l g l2 k := okK.same (h k).symm rfl rfl
theorem MemR.congr (h : ∀ j, lkl l j = lkl l' j) (m : MemR g l w) : MemR g l' w := by
  refine ⟨m.ilt, fun k cs hc => ?_, fun k α T e xs d hc => m.arr k _ _ _ _ _ (by rw [h]; exact hc), fun j k b b' hjk h1 h2 => m.dis j k _ _ hjk (by rw [h]; exact h1) (by rw [h]; exact h2), fun k α T e xs hc => m.fr k _ _ _ _ (by rw [h]; exact hc), fun j k α β T U e f xs ys hjk h1 h2 => m.fd j k _ _ _ _ _ _ _ _ hjk (by rw [h]; exact h1) (by rw [h]; exact h2)⟩
  obtain ⟨vs, t, h1, h2, h3⟩ := m.box k cs (by rw [h]; exact hc)
  exact ⟨vs, t, h1, h2.mono fun a c _ hr => CellR.step (fun _ _ => rfl) (fun _ h => h) (Nat.le_refl _) (fun i _ => okK.back h) hr, h3⟩
theorem VR.congr (h : ∀ j, lkl l j = lkl l' j) {v : Value} {x : AVal} (hv : VR g l w v x) : VR g l' w v x := hv.step (fun _ _ => rfl) (fun _ h => h) (Nat.le_refl _) (fun i _ => okK.back h)
theorem OwnB.congr (h : ∀ j, lkl l j = lkl l' j) {b : Nat} (hb : OwnB g l b) : OwnB g l' b := by
  obtain ⟨k, blk, h1, h2⟩ := hb
  exact ⟨k, blk, by rw [← h]; exact h1, h2⟩
end
theorem OpOK.frz {P : Program} {N d : Nat} {o : Oper} {rt : List (Nat × AVal)} {rl : List (Nat × Blk)} {α : Type} {T : TypeId} {e : Enc α} {xs : List α} {dp : Bool} {L : List Nat}
    (h : ∀ k, (∀ i ∈ L, i < k) → OpOK P N o ⟨rt, rl, [(d, .one (.own k))], [(k, some (.arr T e xs dp))], [k]⟩) : OpOK P N o ⟨rt, rl, [(d, .one (.sl e xs))], [], []⟩ := fun K g s a w hp r => by
  obtain ⟨k, hk⟩ := above (L ++ (keys s.l ++ s.ids))
  have hkl : lk s.l k = none := by
    cases hq : lk s.l k with
    | none => rfl
    | some y =>
      have h1 : k ∈ keys s.l := List.mem_map.2 ⟨_, lk_mem hq, rfl⟩
      have := hk k (List.mem_append_right _ (List.mem_append_left _ h1))
      omega
  have hki : k ∉ s.ids := fun hm => by
    have := hk k (List.mem_append_right _ (List.mem_append_right _ hm))
    omega
  have hkk : lkl s.l k = none := by unfold lkl; rw [hkl]
  have h1 := h k (fun i hi => hk i (List.mem_append_left _ hi)) K g s a w ⟨hp.1, hp.2.1, fun j hj => by simp at hj; subst hj; exact ⟨hkl, hki⟩⟩ r
  refine Oper.wp_mono ?_ h1
  rintro a' w' ⟨g', r', st⟩
  have hu : (Cert.upd ⟨rt, rl, [(d, .one (.own k))], [(k, some (.arr T e xs dp))], [k]⟩ s) = ⟨(d, .one (.own k)) :: s.t, (k, some (.arr T e xs dp)) :: s.l⟩ := rfl
  rw [hu] at r' st
  have hka : lkl ((k, some (Blk.arr T e xs dp)) :: s.l) k = some (.arr T e xs dp) := lkl_cons_self
  obtain ⟨m1, st1, c1, ok1⟩ := shut_mem r'.mem hka
  have T2 := Step.trans r.mem r'.mem st (st1 K)
  have hl : ∀ j, lkl ((k, none) :: (k, some (Blk.arr T e xs dp)) :: s.l) j = lkl s.l j := fun j => by
    by_cases q : k = j
    · subst q; rw [lkl_cons_self, hkk]
    · rw [lkl_cons_ne q, lkl_cons_ne q]
  have hv : a'.tmps.getD d undef = g'.hd k := (r'.tmp d _ (lk_cons_self ..) : CellR g' _ w' _ (.own k)) _ _ _ _ _ hka
  refine ⟨g'.shut k, ⟨r'.size, r'.defers, fun j x hj => ?_, m1.congr hl⟩, ⟨T2.os, T2.tape, T2.output, T2.size, T2.keep, T2.imm, T2.imm', fun b hb => T2.own b (OwnB.congr (fun j => (hl j).symm) hb), fun j hj hn => ?_⟩⟩
  · have hj : lk ((d, AVal.one (.sl e xs)) :: s.t) j = some x := hj
    by_cases hjt : d = j
    · subst hjt
      rw [lk_cons_self] at hj; cases hj
      rw [hv]; exact VR.congr (x := .one (.sl e xs)) hl c1
    · rw [lk_cons_ne hjt] at hj
      have h2 := r'.tmp j x (by show lk ((d, AVal.one (.own k)) :: s.t) j = some x; rw [lk_cons_ne hjt]; exact hj)
      have h3 : VR (g'.shut k) ((k, none) :: (k, some (Blk.arr T e xs dp)) :: s.l) w' (a'.tmps.getD j undef) x := h2.step (fun _ _ => rfl) (fun _ h => .inl h) (Nat.le_refl _) (fun i _ => ok1 i)
      exact VR.congr hl h3
  · obtain ⟨z1, z2, z3⟩ := T2.base j hj hn
    exact ⟨hn, okK.congr hl z2, fun cs hc => ⟨cs, hc⟩⟩
theorem noId_mk {k : Nat} {l : List Nat} (h : k ∉ l) : noId k l = true := by
  unfold noId
  rw [List.all_eq_true]
  intro i hi
  cases hq : Nat.beq i k
  · rfl
  · exact absurd (Nat.eq_of_beq_eq_true hq ▸ hi) h
section ops
variable {P : Program} {N : Nat} {s : St} {d : Nat} {ty : TypeId} {pos : String} {after : Array Edge} {gd : Option (Nat × Bool)}
theorem y_bslice_sl {α : Type} {e : Enc α} {f : α → List Cell} [hc : CellsOf e f] {T E len : Nat} (ops : List Operand) {parts : Array (Nat × Operand)} {Xs : List AVal} (xs : List α) {ds : List Cell} {dp : Bool} (hN : Nat.blt d N = true)
    (hparts : parts = ((ops.zipIdx 0).map fun x => (x.2, x.1)).toArray) (hev : evl s.t ops = some Xs) (hfl : flats Xs = true) (hsol : (Xs.flatMap AVal.cells).all (solid s.l) = true)
    (hlen : ops.length = len) (hsz : Xs.all (fun X => Nat.beq X.cells.length e.size) = true)
    (hmv : mvC s.l (Xs.flatMap AVal.cells) = some (ds, [], dp)) (hfit : FitL ds (xs.flatMap f)) (hxs : xs.length = len) (hpos : Nat.blt 0 len = true) (hsmall : Nat.ble (len * e.size) 16777216 = true)
    (hT : arrOk P T E e.size = true) :
    Stp P N ⟨some d, .buildSlice T len parts, ty, pos, after, gd⟩ s ⟨(d, .one (.sl e xs)) :: s.t, s.l⟩ ⟨rdl s.t ops, rlC s.l (Xs.flatMap AVal.cells), [(d, .one (.sl e xs))], [], []⟩ :=
  ⟨OpOK.frz (T := E) (dp := dp) (L := keys s.l ++ s.ids) fun k hk => (y_bslice ops xs k hN hparts hev hfl hsol hlen hsz hmv hfit rfl hxs hpos hsmall (by
      cases hq : lk s.l k with
      | none => rfl
      | some y =>
        have h1 : k ∈ keys s.l := List.mem_map.2 ⟨_, lk_mem hq, rfl⟩
        have := hk k (List.mem_append_left _ h1)
        omega) (noId_mk fun hm => by
        have := hk k (List.mem_append_right _ hm)
        omega) hT).1, ⟨(evl_ok (N := N) hev).1, rlC_self, fun j hj => by cases hj⟩, rfl⟩
end ops
end Go.Proofs.Ytkemjhlbokldhaa

/- A sign (printed by walk.py) -/
namespace Go.Proofs.Ytkemjhlbokldhaa
open Go.RowKit
set_option linter.unusedVariables false
set_option linter.unusedSimpArgs false
set_option maxRecDepth 100000

set_option maxHeartbeats 4000000 in
theorem hasPre_c (s p : ByteArray) : AC Try.prog 104 [.one (.c (.string s)), .one (.c (.string p))] [] (.one (.c (.bool (Lib.hasPrefix s.data.toList p.data.toList)))) [] := by
  refine AC_body1 Try.func104 rfl rfl Try.ntmps104 rfl Try.results104 ?_
  refine AW_seq ?_
  refine AW_region ?_
  refine AL_p (x_assign rfl rfl) ?_
  refine AL_nil ?_
  refine AW_seq ?_
  refine AW_region ?_
  refine AL_p (x_move rfl rfl) ?_
  refine AL_p (x_move rfl rfl) ?_
  refine AL_b (x_call0 rfl rfl rfl (litePre_c _ _) rfl rfl) (fun b7 h7 => ?_)
  refine AL_p (x_assign rfl rfl) ?_
  refine AL_nil ?_
  refine AW_ret ?_
  cases b7
  rotate_left
  · try simp only [tdy] at h7
    exact ⟨rn [], ⟨⟨⟨_, rfl, vle_bool (by simp [*])⟩, trivial⟩, trivial, trivial, rfl⟩⟩
  try simp only [tdy] at h7
  exact ⟨rn [], ⟨⟨⟨_, rfl, vle_bool (by simp [*])⟩, trivial⟩, trivial, trivial, rfl⟩⟩

set_option maxHeartbeats 4000000 in
theorem symbolAt_c (s : ByteArray) (j : Nat) (hs0 : s.size ≤ 1048576) (hj : j < s.size) : AC Try.prog 52 [.one (.c (.string s)), .one (.c (.int .i64 ((j : Int))))] [] (.one (.c (.string (symAt s j)))) [] := by
  have htl := twos_len
  refine AC_body1 Try.func52 rfl rfl Try.ntmps52 rfl Try.results52 ?_
  refine AW_seq ?_
  refine AW_region ?_
  refine AL_p (x_assign rfl rfl) ?_
  refine AL_nil ?_
  refine AW_seq ?_
  refine AW_seq ?_
  refine AW_region ?_
  refine AL_p (y_bslice_sl (E := 9) (e := strE) [.const (.string ⟨#[58, 45]⟩), .const (.string ⟨#[33, 61]⟩), .const (.string ⟨#[60, 61]⟩)] (twos) rfl rfl rfl rfl rfl rfl rfl rfl FitL.rf rfl rfl rfl (by kernel_rfl)) ?_
  refine AL_p (x_len (E := 9) (n := 1) rfl rfl (by kernel_rfl)) ?_
  refine AL_p (x_move rfl rfl) ?_
  refine AL_nil ?_
  refine AW_block ?_
  refine AW_loop2 (ι := {q : Nat // q ≤ 3 ∧ NoneTo (fun p : ByteArray => Lib.hasPrefix (s.extract j s.size).data.toList p.data.toList) twos q}) (fun p => [(9, .one (.c (.int .i64 (((p.1) : Int)))))]) (fun p => []) [0, 1, 7, 8] [] (fun p => 3 - (p.1)) ⟨0, ⟨by omega, .zero⟩⟩ (rn []) ?_ ?_
  exact ⟨by (repeat refine ⟨⟨_, rfl, by first | exact VLe.rf | exact vle_int (by dsimp only; omega)⟩, ?_⟩); exact trivial, by (repeat refine ⟨⟨_, rfl, by first | exact BLe.rf | exact BLe.box AllC.rf | exact BLe.arr (by exact rfl)⟩, ?_⟩); exact trivial, by repeat (first | exact trivial | refine ⟨⟨rfl, by first | (left; intro h; cases h) | (right; rfl), by first | exact (fun _ h => ⟨_, h⟩) | exact (fun _ _ => ⟨_, rfl⟩) | (intro _ h; cases h)⟩, ?_⟩), rfl⟩
  rintro ⟨k, hinv⟩
  dsimp only
  have hk : k ≤ 3 := hinv.1
  have hn := hinv.2
  refine AW_seq ?_
  refine AW_region ?_
  refine AL_b (x_lss rfl rfl rfl) (fun b10 h10 => ?_)
  refine AL_nil ?_
  refine AW_seq ?_
  cases b10
  · try simp only [tdy] at h10
    have h2 := no_two (s := s) (i := j) (by omega) hn (k := k) (by omega)
    refine AW_condF rfl ?_
    refine AW_exit (BQ_hit ?_)
    refine AW_seq ?_
    refine AW_seq ?_
    refine AW_region ?_
    refine AL_p (x_move rfl rfl) ?_
    refine AL_p (x_move rfl rfl) ?_
    refine AL_p (x_sindex rfl rfl rfl (by kernel_rfl) (k := j) rfl (by omega)) ?_
    refine AL_p (x_call0 rfl rfl rfl (idxByte_c signB _ (by decide)) rfl rfl) ?_
    refine AL_b (x_geq rfl rfl rfl) (fun b24 h24 => ?_)
    refine AL_nil ?_
    cases b24
    · try simp only [tdy] at h24
      have hno := (sym_none (s := s) (i := j) (by omega) h2 (by omega)).symm
      refine AW_condF rfl ?_
      refine AW_skip ?_
      refine AW_seq ?_
      refine AW_region ?_
      refine AL_p (x_assign rfl rfl) ?_
      refine AL_nil ?_
      refine AW_ret ?_
      exact ⟨rn [], ⟨⟨⟨_, rfl, vle_str (hno)⟩, trivial⟩, trivial, trivial, rfl⟩⟩
    try simp only [tdy] at h24
    have hno := (sym_one (s := s) (i := j) (by omega) h2 h24).symm
    refine AW_condT rfl ?_
    refine AW_seq ?_
    refine AW_region ?_
    refine AL_p (x_move rfl rfl) ?_
    refine AL_p (x_move rfl rfl) ?_
    refine AL_p (x_move rfl rfl) ?_
    refine AL_p (x_add rfl rfl rfl (IntWalk.i64_in _ (by omega))) ?_
    refine AL_p (x_sslice rfl rfl (by kernel_rfl) (.yes (l := j) rfl (by omega)) (.yes (l := j + 1) rfl (by omega)) (by omega) (by first | exact Nat.le_refl _ | omega) rfl) ?_
    refine AL_p (x_assign rfl rfl) ?_
    refine AL_nil ?_
    refine AW_ret ?_
    exact ⟨rn [], ⟨⟨⟨_, rfl, vle_str (hno)⟩, trivial⟩, trivial, trivial, rfl⟩⟩
  try simp only [tdy] at h10
  refine AW_condT rfl ?_
  refine AW_skip ?_
  refine AW_seq ?_
  refine AW_block ?_
  refine AW_seq ?_
  refine AW_region ?_
  refine AL_p (x_index (E := 9) (n := 1) rfl rfl rfl (by kernel_rfl) rfl (k := k) rfl (by rw [twos_len]; omega)) ?_
  refine AL_p (x_eload1 rfl rfl (by kernel_rfl) rfl) ?_
  refine AL_p (x_assign rfl rfl) ?_
  refine AL_nil ?_
  refine AW_seq ?_
  refine AW_region ?_
  refine AL_p (x_move rfl rfl) ?_
  refine AL_p (x_move rfl rfl) ?_
  refine AL_p (x_sslice rfl rfl (by kernel_rfl) (.yes (l := j) rfl (by omega)) .no (by omega) (by first | exact Nat.le_refl _ | omega) rfl) ?_
  refine AL_p (x_move rfl rfl) ?_
  refine AL_b (x_call0 rfl rfl rfl (hasPre_c _ _) rfl rfl) (fun b17 h17 => ?_)
  refine AL_nil ?_
  cases b17
  · try simp only [tdy] at h17
    refine AW_condF rfl ?_
    refine AW_skip ?_
    refine AW_region ?_
    refine AL_p (x_add rfl rfl rfl (IntWalk.i64_in _ (by omega))) ?_
    refine AL_p (x_move rfl rfl) ?_
    refine AL_nil ?_
    refine ⟨⟨k + 1, ⟨by omega, hn.succ (by rw [twos_len]; omega) h17⟩⟩, rn [], ?_, by dsimp only; omega⟩
    exact ⟨by (repeat refine ⟨⟨_, rfl, by first | exact VLe.rf | exact vle_int (by dsimp only; omega)⟩, ?_⟩); exact trivial, by (repeat refine ⟨⟨_, rfl, by first | exact BLe.rf | exact BLe.box AllC.rf | exact BLe.arr (by exact rfl)⟩, ?_⟩); exact trivial, by repeat (first | exact trivial | refine ⟨⟨rfl, by first | (left; intro h; cases h) | (right; rfl), by first | exact (fun _ h => ⟨_, h⟩) | exact (fun _ _ => ⟨_, rfl⟩) | (intro _ h; cases h)⟩, ?_⟩), rfl⟩
  try simp only [tdy] at h17
  have hno := (sym_two (s := s) (i := j) (by omega) (k := k) (by rw [twos_len]; omega) h17).symm
  refine AW_condT rfl ?_
  refine AW_seq ?_
  refine AW_region ?_
  refine AL_p (x_move rfl rfl) ?_
  refine AL_p (x_assign rfl rfl) ?_
  refine AL_nil ?_
  refine AW_ret (BQ_ret (BQ_ret ?_))
  exact ⟨rn [], ⟨⟨⟨_, rfl, vle_str (hno)⟩, trivial⟩, trivial, trivial, rfl⟩⟩

set_option maxHeartbeats 4000000 in
theorem sign_c (s : ByteArray) (j : Nat) (hs0 : s.size ≤ 1048576) (hj : j < s.size) : AC Try.prog 43 [.one (.c (.string s)), .one (.c (.int .i64 ((j : Int))))] [] (.one (.c (.string (symAt s j)))) [] := by
  have hol := ones_len
  refine AC_body1 Try.func43 rfl rfl Try.ntmps43 rfl Try.results43 ?_
  refine AW_seq ?_
  refine AW_region ?_
  refine AL_p (x_assign rfl rfl) ?_
  refine AL_nil ?_
  refine AW_seq ?_
  refine AW_seq ?_
  refine AW_region ?_
  refine AL_p (x_move rfl rfl) ?_
  refine AL_p (x_add rfl rfl rfl (IntWalk.i64_in _ (by omega))) ?_
  refine AL_p (x_move rfl rfl) ?_
  refine AL_p (x_lens rfl rfl (by kernel_rfl)) ?_
  refine AL_b (x_lss rfl rfl rfl) (fun b13 h13 => ?_)
  refine AL_nil ?_
  cases b13
  · try simp only [tdy] at h13
    have h2 : ¬ (j + 1 < s.size ∧ isTwo (s.extract j (j + 2)) = true) := fun q => by omega
    refine AW_condF rfl ?_
    refine AW_skip ?_
    refine AW_seq ?_
    refine AW_region ?_
    refine AL_p (x_move rfl rfl) ?_
    refine AL_p (x_move rfl rfl) ?_
    refine AL_p (x_sindex rfl rfl rfl (by kernel_rfl) (k := j) rfl (by omega)) ?_
    refine AL_p (x_assign rfl rfl) ?_
    refine AL_nil ?_
    refine AW_seq ?_
    refine AW_seq ?_
    refine AW_region ?_
    refine AL_p (y_bslice_sl (E := 9) (e := strE) [.const (.string ⟨#[40]⟩), .const (.string ⟨#[41]⟩), .const (.string ⟨#[44]⟩), .const (.string ⟨#[46]⟩), .const (.string ⟨#[61]⟩), .const (.string ⟨#[60]⟩), .const (.string ⟨#[43]⟩), .const (.string ⟨#[45]⟩), .const (.string ⟨#[47]⟩)] (ones) rfl rfl rfl rfl rfl rfl rfl rfl FitL.rf rfl rfl rfl (by kernel_rfl)) ?_
    refine AL_p (x_len (E := 9) (n := 1) rfl rfl (by kernel_rfl)) ?_
    refine AL_p (x_move rfl rfl) ?_
    refine AL_nil ?_
    refine AW_block ?_
    refine AW_loop2 (ι := {q : Nat // q ≤ 9 ∧ NoneTo (fun p : ByteArray => decide (hd0 p = s[j].toNat)) ones q}) (fun p => [(35, .one (.c (.int .i64 (((p.1) : Int)))))]) (fun p => []) [6, 33, 34] [] (fun p => 9 - (p.1)) ⟨0, ⟨by omega, .zero⟩⟩ (rn []) ?_ ?_
    exact ⟨by (repeat refine ⟨⟨_, rfl, by first | exact VLe.rf | exact vle_int (by dsimp only; omega)⟩, ?_⟩); exact trivial, by (repeat refine ⟨⟨_, rfl, by first | exact BLe.rf | exact BLe.box AllC.rf | exact BLe.arr (by exact rfl)⟩, ?_⟩); exact trivial, by repeat (first | exact trivial | refine ⟨⟨rfl, by first | (left; intro h; cases h) | (right; rfl), by first | exact (fun _ h => ⟨_, h⟩) | exact (fun _ _ => ⟨_, rfl⟩) | (intro _ h; cases h)⟩, ?_⟩), rfl⟩
    rintro ⟨k, hinv⟩
    dsimp only
    have hk : k ≤ 9 := hinv.1
    have hn := hinv.2
    refine AW_seq ?_
    refine AW_region ?_
    refine AL_b (x_lss rfl rfl rfl) (fun b36 h36 => ?_)
    refine AL_nil ?_
    refine AW_seq ?_
    cases b36
    · try simp only [tdy] at h36
      have hno := (sym_miss (s := s) (i := j) (by omega) h2 (k := k) (by omega) hn).symm
      refine AW_condF rfl ?_
      refine AW_exit (BQ_hit ?_)
      refine AW_seq ?_
      refine AW_region ?_
      refine AL_p (x_assign rfl rfl) ?_
      refine AL_nil ?_
      refine AW_ret ?_
      exact ⟨rn [], ⟨⟨⟨_, rfl, vle_str (by first | exact hno | exact hno.symm | (rw [hno]; exact ba_iff.1 (by assumption)))⟩, trivial⟩, trivial, trivial, rfl⟩⟩
    try simp only [tdy] at h36
    refine AW_condT rfl ?_
    refine AW_skip ?_
    refine AW_seq ?_
    refine AW_block ?_
    refine AW_seq ?_
    refine AW_region ?_
    refine AL_p (x_index (E := 9) (n := 1) rfl rfl rfl (by kernel_rfl) rfl (k := k) rfl (by rw [ones_len]; omega)) ?_
    refine AL_p (x_eload1 rfl rfl (by kernel_rfl) rfl) ?_
    refine AL_p (x_assign rfl rfl) ?_
    refine AL_nil ?_
    refine AW_seq ?_
    refine AW_region ?_
    refine AL_p (x_move rfl rfl) ?_
    refine AL_p (x_sindex rfl rfl rfl (by kernel_rfl) (k := 0) rfl (by rw [ones_size (by rw [ones_len]; omega)]; decide)) ?_
    refine AL_p (x_move rfl rfl) ?_
    refine AL_b (x_eql rfl rfl rfl) (fun b42 h42 => ?_)
    refine AL_nil ?_
    cases b42
    rotate_left
    · try simp only [tdy] at h42
      have hno := (sym_hit (s := s) (i := j) (by omega) h2 (k := k) (by rw [ones_len]; omega) (by rw [ones_size (by rw [ones_len]; omega)]; decide) h42).symm
      refine AW_condT rfl ?_
      refine AW_seq ?_
      refine AW_region ?_
      refine AL_p (x_move rfl rfl) ?_
      refine AL_p (x_assign rfl rfl) ?_
      refine AL_nil ?_
      refine AW_ret (BQ_ret (BQ_ret ?_))
      exact ⟨rn [], ⟨⟨⟨_, rfl, vle_str (by first | exact hno | exact hno.symm | (rw [hno]; exact ba_iff.1 (by assumption)))⟩, trivial⟩, trivial, trivial, rfl⟩⟩
    try simp only [tdy] at h42
    have hd : hd0 (ones[k]'(by rw [ones_len]; omega)) = _ := hd0_eq (by rw [ones_size (by rw [ones_len]; omega)]; decide)
    refine AW_condF rfl ?_
    refine AW_skip ?_
    refine AW_region ?_
    refine AL_p (x_add rfl rfl rfl (IntWalk.i64_in _ (by omega))) ?_
    refine AL_p (x_move rfl rfl) ?_
    refine AL_nil ?_
    refine ⟨⟨k + 1, ⟨by omega, hn.succ (by rw [ones_len]; omega) (by rw [decide_eq_false_iff_not, hd]; exact h42)⟩⟩, rn [], ?_, by dsimp only; omega⟩
    exact ⟨by (repeat refine ⟨⟨_, rfl, by first | exact VLe.rf | exact vle_int (by dsimp only; omega)⟩, ?_⟩); exact trivial, by (repeat refine ⟨⟨_, rfl, by first | exact BLe.rf | exact BLe.box AllC.rf | exact BLe.arr (by exact rfl)⟩, ?_⟩); exact trivial, by repeat (first | exact trivial | refine ⟨⟨rfl, by first | (left; intro h; cases h) | (right; rfl), by first | exact (fun _ h => ⟨_, h⟩) | exact (fun _ _ => ⟨_, rfl⟩) | (intro _ h; cases h)⟩, ?_⟩), rfl⟩
  try simp only [tdy] at h13
  refine AW_condT rfl ?_
  refine AW_seq ?_
  refine AW_region ?_
  refine AL_p (x_move rfl rfl) ?_
  refine AL_p (x_move rfl rfl) ?_
  refine AL_p (x_move rfl rfl) ?_
  refine AL_p (x_add rfl rfl rfl (IntWalk.i64_in _ (by omega))) ?_
  refine AL_p (x_sslice rfl rfl (by kernel_rfl) (.yes (l := j) rfl (by omega)) (.yes (l := j + 2) rfl (by omega)) (by omega) (by first | exact Nat.le_refl _ | omega) rfl) ?_
  refine AL_p (x_assign rfl rfl) ?_
  refine AL_nil ?_
  refine AW_seq ?_
  refine AW_region ?_
  refine AL_p (x_move rfl rfl) ?_
  refine AL_b (x_seql rfl rfl rfl) (fun b20 h20 => ?_)
  refine AL_p (x_move rfl rfl) ?_
  cases b20
  rotate_left
  · try simp only [tdy] at h20
    have hno := sym_pair (s := s) (i := j) (by omega) (ba_iff.1 h20) rfl
    refine AL_o rfl rfl rfl rfl ?_
    refine AL_o rfl rfl rfl rfl ?_
    refine AL_p (x_pickT rfl rfl rfl) ?_
    refine AL_p (x_move rfl rfl) ?_
    refine AL_o rfl rfl rfl rfl ?_
    refine AL_o rfl rfl rfl rfl ?_
    refine AL_p (x_pickT rfl rfl rfl) ?_
    refine AL_nil ?_
    refine AW_condT rfl ?_
    refine AW_seq ?_
    refine AW_region ?_
    refine AL_p (x_move rfl rfl) ?_
    refine AL_p (x_assign rfl rfl) ?_
    refine AL_nil ?_
    refine AW_ret ?_
    exact ⟨rn [], ⟨⟨⟨_, rfl, vle_str (by first | exact hno | exact hno.symm | (rw [hno]; exact ba_iff.1 (by assumption)))⟩, trivial⟩, trivial, trivial, rfl⟩⟩
  try simp only [tdy] at h20
  refine AL_g rfl rfl (x_move rfl rfl) ?_
  refine AL_gb rfl rfl (x_seql rfl rfl rfl) (fun b23 h23 => ?_)
  refine AL_p (x_pickF rfl rfl rfl) ?_
  refine AL_p (x_move rfl rfl) ?_
  cases b23
  rotate_left
  · try simp only [tdy] at h23
    have hno := sym_pair (s := s) (i := j) (by omega) (ba_iff.1 h23) rfl
    refine AL_o rfl rfl rfl rfl ?_
    refine AL_o rfl rfl rfl rfl ?_
    refine AL_p (x_pickT rfl rfl rfl) ?_
    refine AL_nil ?_
    refine AW_condT rfl ?_
    refine AW_seq ?_
    refine AW_region ?_
    refine AL_p (x_move rfl rfl) ?_
    refine AL_p (x_assign rfl rfl) ?_
    refine AL_nil ?_
    refine AW_ret ?_
    exact ⟨rn [], ⟨⟨⟨_, rfl, vle_str (by first | exact hno | exact hno.symm | (rw [hno]; exact ba_iff.1 (by assumption)))⟩, trivial⟩, trivial, trivial, rfl⟩⟩
  try simp only [tdy] at h23
  refine AL_g rfl rfl (x_move rfl rfl) ?_
  refine AL_gb rfl rfl (x_seql rfl rfl rfl) (fun b27 h27 => ?_)
  refine AL_p (x_pickF rfl rfl rfl) ?_
  refine AL_nil ?_
  cases b27
  rotate_left
  · try simp only [tdy] at h27
    have hno := sym_pair (s := s) (i := j) (by omega) (ba_iff.1 h27) rfl
    refine AW_condT rfl ?_
    refine AW_seq ?_
    refine AW_region ?_
    refine AL_p (x_move rfl rfl) ?_
    refine AL_p (x_assign rfl rfl) ?_
    refine AL_nil ?_
    refine AW_ret ?_
    exact ⟨rn [], ⟨⟨⟨_, rfl, vle_str (by first | exact hno | exact hno.symm | (rw [hno]; exact ba_iff.1 (by assumption)))⟩, trivial⟩, trivial, trivial, rfl⟩⟩
  try simp only [tdy] at h27
  have h2 : ¬ (j + 1 < s.size ∧ isTwo (s.extract j (j + 2)) = true) := not_two h20 h23 h27
  refine AW_condF rfl ?_
  refine AW_skip ?_
  refine AW_seq ?_
  refine AW_region ?_
  refine AL_p (x_move rfl rfl) ?_
  refine AL_p (x_move rfl rfl) ?_
  refine AL_p (x_sindex rfl rfl rfl (by kernel_rfl) (k := j) rfl (by omega)) ?_
  refine AL_p (x_assign rfl rfl) ?_
  refine AL_nil ?_
  refine AW_seq ?_
  refine AW_seq ?_
  refine AW_region ?_
  refine AL_p (y_bslice_sl (E := 9) (e := strE) [.const (.string ⟨#[40]⟩), .const (.string ⟨#[41]⟩), .const (.string ⟨#[44]⟩), .const (.string ⟨#[46]⟩), .const (.string ⟨#[61]⟩), .const (.string ⟨#[60]⟩), .const (.string ⟨#[43]⟩), .const (.string ⟨#[45]⟩), .const (.string ⟨#[47]⟩)] (ones) rfl rfl rfl rfl rfl rfl rfl rfl FitL.rf rfl rfl rfl (by kernel_rfl)) ?_
  refine AL_p (x_len (E := 9) (n := 1) rfl rfl (by kernel_rfl)) ?_
  refine AL_p (x_move rfl rfl) ?_
  refine AL_nil ?_
  refine AW_block ?_
  refine AW_loop2 (ι := {q : Nat // q ≤ 9 ∧ NoneTo (fun p : ByteArray => decide (hd0 p = s[j].toNat)) ones q}) (fun p => [(35, .one (.c (.int .i64 (((p.1) : Int)))))]) (fun p => []) [6, 33, 34] [] (fun p => 9 - (p.1)) ⟨0, ⟨by omega, .zero⟩⟩ (rn []) ?_ ?_
  exact ⟨by (repeat refine ⟨⟨_, rfl, by first | exact VLe.rf | exact vle_int (by dsimp only; omega)⟩, ?_⟩); exact trivial, by (repeat refine ⟨⟨_, rfl, by first | exact BLe.rf | exact BLe.box AllC.rf | exact BLe.arr (by exact rfl)⟩, ?_⟩); exact trivial, by repeat (first | exact trivial | refine ⟨⟨rfl, by first | (left; intro h; cases h) | (right; rfl), by first | exact (fun _ h => ⟨_, h⟩) | exact (fun _ _ => ⟨_, rfl⟩) | (intro _ h; cases h)⟩, ?_⟩), rfl⟩
  rintro ⟨k, hinv⟩
  dsimp only
  have hk : k ≤ 9 := hinv.1
  have hn := hinv.2
  refine AW_seq ?_
  refine AW_region ?_
  refine AL_b (x_lss rfl rfl rfl) (fun b36 h36 => ?_)
  refine AL_nil ?_
  refine AW_seq ?_
  cases b36
  · try simp only [tdy] at h36
    have hno := (sym_miss (s := s) (i := j) (by omega) h2 (k := k) (by omega) hn).symm
    refine AW_condF rfl ?_
    refine AW_exit (BQ_hit ?_)
    refine AW_seq ?_
    refine AW_region ?_
    refine AL_p (x_assign rfl rfl) ?_
    refine AL_nil ?_
    refine AW_ret ?_
    exact ⟨rn [], ⟨⟨⟨_, rfl, vle_str (by first | exact hno | exact hno.symm | (rw [hno]; exact ba_iff.1 (by assumption)))⟩, trivial⟩, trivial, trivial, rfl⟩⟩
  try simp only [tdy] at h36
  refine AW_condT rfl ?_
  refine AW_skip ?_
  refine AW_seq ?_
  refine AW_block ?_
  refine AW_seq ?_
  refine AW_region ?_
  refine AL_p (x_index (E := 9) (n := 1) rfl rfl rfl (by kernel_rfl) rfl (k := k) rfl (by rw [ones_len]; omega)) ?_
  refine AL_p (x_eload1 rfl rfl (by kernel_rfl) rfl) ?_
  refine AL_p (x_assign rfl rfl) ?_
  refine AL_nil ?_
  refine AW_seq ?_
  refine AW_region ?_
  refine AL_p (x_move rfl rfl) ?_
  refine AL_p (x_sindex rfl rfl rfl (by kernel_rfl) (k := 0) rfl (by rw [ones_size (by rw [ones_len]; omega)]; decide)) ?_
  refine AL_p (x_move rfl rfl) ?_
  refine AL_b (x_eql rfl rfl rfl) (fun b42 h42 => ?_)
  refine AL_nil ?_
  cases b42
  rotate_left
  · try simp only [tdy] at h42
    have hno := (sym_hit (s := s) (i := j) (by omega) h2 (k := k) (by rw [ones_len]; omega) (by rw [ones_size (by rw [ones_len]; omega)]; decide) h42).symm
    refine AW_condT rfl ?_
    refine AW_seq ?_
    refine AW_region ?_
    refine AL_p (x_move rfl rfl) ?_
    refine AL_p (x_assign rfl rfl) ?_
    refine AL_nil ?_
    refine AW_ret (BQ_ret (BQ_ret ?_))
    exact ⟨rn [], ⟨⟨⟨_, rfl, vle_str (by first | exact hno | exact hno.symm | (rw [hno]; exact ba_iff.1 (by assumption)))⟩, trivial⟩, trivial, trivial, rfl⟩⟩
  try simp only [tdy] at h42
  have hd : hd0 (ones[k]'(by rw [ones_len]; omega)) = _ := hd0_eq (by rw [ones_size (by rw [ones_len]; omega)]; decide)
  refine AW_condF rfl ?_
  refine AW_skip ?_
  refine AW_region ?_
  refine AL_p (x_add rfl rfl rfl (IntWalk.i64_in _ (by omega))) ?_
  refine AL_p (x_move rfl rfl) ?_
  refine AL_nil ?_
  refine ⟨⟨k + 1, ⟨by omega, hn.succ (by rw [ones_len]; omega) (by rw [decide_eq_false_iff_not, hd]; exact h42)⟩⟩, rn [], ?_, by dsimp only; omega⟩
  exact ⟨by (repeat refine ⟨⟨_, rfl, by first | exact VLe.rf | exact vle_int (by dsimp only; omega)⟩, ?_⟩); exact trivial, by (repeat refine ⟨⟨_, rfl, by first | exact BLe.rf | exact BLe.box AllC.rf | exact BLe.arr (by exact rfl)⟩, ?_⟩); exact trivial, by repeat (first | exact trivial | refine ⟨⟨rfl, by first | (left; intro h; cases h) | (right; rfl), by first | exact (fun _ h => ⟨_, h⟩) | exact (fun _ _ => ⟨_, rfl⟩) | (intro _ h; cases h)⟩, ?_⟩), rfl⟩
end Go.Proofs.Ytkemjhlbokldhaa

/- What a slot holds, said in other words. -/
namespace Go.Proofs.Ytkemjhlbokldhaa
open Go.RowKit
set_option linter.unusedVariables false

/-- What a slot holds, said in other words. -/
theorem AW_slot {P : Program} {N : Nat} {K : List Nat} {c : Code} {Kn : St → Prop} {Q : Exit → St → Prop} {s : St} {t : Nat} {x y : AVal} (ht : lk s.t t = some x) (h : x = y) (hA : AW P N K c Kn Q ⟨(t, y) :: s.t, s.l⟩) : AW P N K c Kn Q s := fun g a w r =>
  hA g a w ⟨r.size, r.defers, fun k z hk => by
    by_cases e : t = k
    · subst e; rw [lk_cons_self] at hk; cases hk; exact r.tmp _ _ (h ▸ ht)
    · rw [lk_cons_ne e] at hk; exact r.tmp k z hk, r.mem⟩
end Go.Proofs.Ytkemjhlbokldhaa

/- All words and signs (printed by walk.py) -/
namespace Go.Proofs.Ytkemjhlbokldhaa
open Go.RowKit
set_option linter.unusedVariables false
set_option linter.unusedSimpArgs false
set_option maxRecDepth 100000

set_option maxHeartbeats 4000000 in
theorem lexI_c0 (s : ByteArray) (hs0 : s.size ≤ 1048576) : AC Try.prog 17 [.one (.c (.string s))] [] (.tup [.one (.own 0), .one (.c (.int .i64 ((lexAll s).2.1))), .one (.c (.int .i64 ((lexAll s).2.2)))]) [(0, some (.arr 83 tokenE (lexAll s).1 true))] := by
  refine AC_body3 Try.func17 rfl rfl Try.ntmps17 rfl Try.results17 rfl rfl rfl rfl rfl rfl ?_
  refine AW_seq ?_
  refine AW_region ?_
  refine AL_p (x_assign rfl rfl) ?_
  refine AL_p (x_assign rfl rfl) ?_
  refine AL_p (x_assign rfl rfl) ?_
  refine AL_nil ?_
  refine AW_seq ?_
  refine AW_seq ?_
  refine AW_region ?_
  refine AL_p (x_move rfl rfl) ?_
  refine AL_p (x_lens rfl rfl (by kernel_rfl)) ?_
  refine AL_b (x_gtr rfl rfl rfl) (fun b14 h14 => ?_)
  refine AL_nil ?_
  cases b14
  rotate_left
  · try simp only [tdy] at h14
    have hno := lexAll_big h14
    refine AW_condT rfl ?_
    refine AW_seq ?_
    refine AW_region ?_
    refine AL_p (x_assign rfl rfl) ?_
    refine AL_p (x_assign rfl rfl) ?_
    refine AL_p (x_assign rfl rfl) ?_
    refine AL_nil ?_
    refine AW_adoptT (T := 83) (e := tokenE) 100 2 rfl rfl rfl ?_
    refine AW_ret ?_
    exact ⟨rn [(0, 100)], ⟨⟨⟨_, rfl, VLe.rf⟩, ⟨_, rfl, vle_int (by rw [hno])⟩, ⟨_, rfl, vle_int (by rw [hno])⟩, trivial⟩, ⟨⟨_, rfl, by first | exact BLe.rf | exact BLe.arr (by rw [hno])⟩, trivial⟩, trivial, rfl⟩⟩
  try simp only [tdy] at h14
  refine AW_condF rfl ?_
  refine AW_skip ?_
  refine AW_seq ?_
  refine AW_region ?_
  refine AL_p (y_bslice0 (E := 83) (e := tokenE) 101 rfl rfl rfl (by kernel_rfl)) ?_
  refine AL_p (x_assign rfl rfl) ?_
  refine AL_nil ?_
  refine AW_seq ?_
  refine AW_seq ?_
  refine AW_region ?_
  refine AL_p (x_move rfl rfl) ?_
  refine AL_p (x_call0 rfl rfl rfl (skipped_c s 0 hs0 (by omega)) rfl rfl) ?_
  refine AL_p (x_assign rfl rfl) ?_
  refine AL_nil ?_
  refine AW_block ?_
  refine AW_loop2 (ι := {q : Nat × List Tokent // ((q.1) ≤ s.size ∧ skipS s (q.1) = (q.1)) ∧ combL (q.2) (lexR s (q.1)) = lexR s 0 ∧ (q.2).length ≤ (q.1)}) (fun p => [(5, .one (.own 101)), (6, .one (.c (.int .i64 (((p.1.1) : Int)))))]) (fun p => [(101, some (.arr 83 tokenE (p.1.2) true))]) [0] [] (fun p => s.size - (p.1.1)) ⟨⟨skipS s 0, []⟩, ⟨⟨skip_le _ (by omega), skip_skip _⟩, comb_start.trans (lex_skip (skip_skip _)), by simp⟩⟩ (rn []) ?_ ?_
  exact ⟨by (repeat refine ⟨⟨_, rfl, by first | exact VLe.rf | exact vle_int (by dsimp only; omega)⟩, ?_⟩); exact trivial, by (repeat refine ⟨⟨_, rfl, by first | exact BLe.rf | exact BLe.box AllC.rf | exact BLe.arr (by exact rfl)⟩, ?_⟩); exact trivial, by repeat (first | exact trivial | refine ⟨⟨rfl, by first | (left; intro h; cases h) | (right; rfl), by first | exact (fun _ h => ⟨_, h⟩) | exact (fun _ _ => ⟨_, rfl⟩) | (intro _ h; cases h)⟩, ?_⟩), rfl⟩
  rintro ⟨⟨j, out⟩, hinv⟩
  dsimp only
  have hj : j ≤ s.size := hinv.1.1
  have hs : skipS s j = j := hinv.1.2
  have hc := hinv.2.1
  have hl : out.length ≤ j := hinv.2.2
  refine AW_seq ?_
  refine AW_seq ?_
  refine AW_region ?_
  refine AL_p (x_move rfl rfl) ?_
  refine AL_p (x_move rfl rfl) ?_
  refine AL_p (x_lens rfl rfl (by kernel_rfl)) ?_
  refine AL_b (x_lss rfl rfl rfl) (fun b21 h21 => ?_)
  refine AL_nil ?_
  cases b21
  · try simp only [tdy] at h21
    have hno := (lexAll_eq (s := s) (by omega)).trans (comb_end hc (by omega)).symm.symm
    refine AW_condF rfl ?_
    refine AW_exit (BQ_hit ?_)
    refine AW_seq ?_
    refine AW_region ?_
    refine AL_p (x_move rfl rfl) ?_
    refine AL_p (x_assign rfl rfl) ?_
    refine AL_p (x_assign rfl rfl) ?_
    refine AL_p (x_assign rfl rfl) ?_
    refine AL_nil ?_
    refine AW_ret ?_
    exact ⟨rn [(0, 101)], ⟨⟨⟨_, rfl, VLe.rf⟩, ⟨_, rfl, vle_int (by rw [hno])⟩, ⟨_, rfl, vle_int (by rw [hno])⟩, trivial⟩, ⟨⟨_, rfl, by first | exact BLe.rf | exact BLe.arr (by rw [hno])⟩, trivial⟩, trivial, rfl⟩⟩
  try simp only [tdy] at h21
  refine AW_condT rfl ?_
  refine AW_skip ?_
  refine AW_seq ?_
  refine AW_block ?_
  refine AW_seq ?_
  refine AW_region ?_
  refine AL_p (x_move rfl rfl) ?_
  refine AL_p (x_move rfl rfl) ?_
  refine AL_p (x_sindex rfl rfl rfl (by kernel_rfl) (k := j) rfl (by omega)) ?_
  refine AL_p (x_assign rfl rfl) ?_
  refine AL_nil ?_
  refine AW_seq ?_
  refine AW_seq ?_
  refine AW_region ?_
  refine AL_p (x_move rfl rfl) ?_
  refine AL_b (x_call0 rfl rfl rfl (isLet_c _) rfl rfl) (fun b29 h29 => ?_)
  refine AL_p (x_move rfl rfl) ?_
  cases b29
  rotate_left
  · try simp only [tdy] at h29
    have ha : alnumB s[j].toNat = true := by simp [alnumB, h29]
    refine AL_o rfl rfl rfl rfl ?_
    refine AL_o rfl rfl rfl rfl ?_
    refine AL_p (x_pickT rfl rfl rfl) ?_
    refine AL_p (x_move rfl rfl) ?_
    refine AL_o rfl rfl rfl rfl ?_
    refine AL_o rfl rfl rfl rfl ?_
    refine AL_p (x_pickT rfl rfl rfl) ?_
    refine AL_nil ?_
    refine AW_condT rfl ?_
    refine AW_seq ?_
    refine AW_region ?_
    refine AL_p (x_move rfl rfl) ?_
    refine AL_p (x_move rfl rfl) ?_
    refine AL_p (x_call0 rfl rfl rfl (wordAt_c s j hs0 (by omega) ha) rfl rfl) ?_
    refine AL_p (x_move rfl rfl) ?_
    refine AL_p (x_extract rfl rfl rfl) ?_
    refine AL_p (x_extract rfl rfl rfl) ?_
    refine AL_p (x_extract rfl rfl rfl) ?_
    refine AL_p (x_alloc (z := .agg #[.int .i64 0, .int .i64 0, .string ⟨#[]⟩, .int .i64 0]) 102 rfl (by kernel_rfl) rfl rfl rfl rfl) ?_
    refine AL_p (x_store (n := 4) rfl rfl rfl rfl (by kernel_rfl) rfl rfl rfl) ?_
    refine AL_p (x_assign rfl rfl) ?_
    refine AL_p (x_assign rfl rfl) ?_
    refine AL_nil ?_
    refine AW_seq ?_
    refine AW_seq ?_
    refine AW_region ?_
    refine AL_p (x_move rfl rfl) ?_
    refine AL_b (x_neq rfl rfl rfl) (fun b46 h46 => ?_)
    refine AL_nil ?_
    cases b46
    rotate_left
    · try simp only [tdy] at h46
      have hno : (lexAll s) = ([], (wordRes s j (s[j].toNat : Int)).2.2, (j : Int)) := (lexAll_eq (by omega)).trans (comb_bad hc (lexw_bad (by omega) hs ha h46) h46)
      refine AW_condT rfl ?_
      refine AW_seq ?_
      refine AW_region ?_
      refine AL_p (x_move rfl rfl) ?_
      refine AL_p (x_move rfl rfl) ?_
      refine AL_p (x_assign rfl rfl) ?_
      refine AL_p (x_assign rfl rfl) ?_
      refine AL_p (x_assign rfl rfl) ?_
      refine AL_nil ?_
      refine AW_adoptT (T := 83) (e := tokenE) 100 2 rfl rfl rfl ?_
      refine AW_ret (BQ_ret (BQ_ret ?_))
      exact ⟨rn [(0, 100)], ⟨⟨⟨_, rfl, VLe.rf⟩, ⟨_, rfl, vle_int (by rw [hno])⟩, ⟨_, rfl, vle_int (by rw [hno])⟩, trivial⟩, ⟨⟨_, rfl, by first | exact BLe.rf | exact BLe.arr (by rw [hno])⟩, trivial⟩, trivial, rfl⟩⟩
    try simp only [tdy] at h46
    have hok := lexw_ok (s := s) (j := j) (by omega) hs ha (Classical.not_not.1 (by simpa using h46))
    have hc2 := comb_ok hc hok.1
    have hle := wordEnd_le (s := s) j (by omega)
    have hgt := wordEnd_gt (s := s) (i := j) (by omega) ha
    have hnx := hok.2
    have hge := skip_ge (s := s) (wordEnd s j)
    have hle2 := skip_le (s := s) (wordEnd s j) hle
    refine AW_condF rfl ?_
    refine AW_skip ?_
    refine AW_seq ?_
    refine AW_region ?_
    refine AL_p (x_move rfl rfl) ?_
    refine AL_p (x_loadN (n := 4) rfl rfl rfl (by kernel_rfl) rfl rfl) ?_
    refine AL_p (y_bslice (E := 83) (e := tokenE) [.tmp 50] ([(wordRes s j (s[j].toNat : Int)).1]) 103 rfl rfl rfl rfl rfl rfl rfl rfl FitL.rf rfl rfl rfl rfl rfl rfl (by kernel_rfl)) ?_
    refine AL_p (y_append 104 rfl rfl rfl rfl rfl rfl rfl rfl (by kernel_rfl) (by simp only [List.length_append, List.length_cons, List.length_nil] at *; omega)) ?_
    refine AL_p (x_assign rfl rfl) ?_
    refine AL_nil ?_
    refine AW_seq ?_
    refine AW_region ?_
    refine AL_p (x_move rfl rfl) ?_
    refine AL_p (x_assign rfl rfl) ?_
    refine AL_nil ?_
    refine AW_exit (BQ_hit ?_)
    refine AW_slot (t := 6) (y := .one (.c (.int .i64 ((_ : Nat) : Int)))) rfl (congrArg (fun z : Int => AVal.one (.c (.int .i64 z))) hnx) ?_
    refine AW_region ?_
    refine AL_p (x_move rfl rfl) ?_
    refine AL_p (x_move rfl rfl) ?_
    refine AL_p (x_call0 rfl rfl rfl (skipped_c s _ hs0 hle) rfl rfl) ?_
    refine AL_p (x_assign rfl rfl) ?_
    refine AL_nil ?_
    refine ⟨⟨⟨skipS s (wordEnd s j), out ++ [(wordRes s j (s[j].toNat : Int)).1]⟩, ⟨⟨hle2, skip_skip _⟩, (comb_skip hc2 (skip_skip _).symm), by simp only [List.length_append, List.length_cons, List.length_nil]; omega⟩⟩, rn [(101, 104)], ?_, by dsimp only; omega⟩
    exact ⟨by (repeat refine ⟨⟨_, rfl, by first | exact VLe.rf | exact vle_int (by dsimp only; omega)⟩, ?_⟩); exact trivial, by (repeat refine ⟨⟨_, rfl, by first | exact BLe.rf | exact BLe.box AllC.rf | exact BLe.arr (by exact rfl)⟩, ?_⟩); exact trivial, by repeat (first | exact trivial | refine ⟨⟨rfl, by first | (left; intro h; cases h) | (right; rfl), by first | exact (fun _ h => ⟨_, h⟩) | exact (fun _ _ => ⟨_, rfl⟩) | (intro _ h; cases h)⟩, ?_⟩), rfl⟩
  try simp only [tdy] at h29
  refine AL_g rfl rfl (x_move rfl rfl) ?_
  refine AL_gb rfl rfl (x_call0 rfl rfl rfl (isUp_c _) rfl rfl) (fun b32 h32 => ?_)
  refine AL_p (x_pickF rfl rfl rfl) ?_
  refine AL_p (x_move rfl rfl) ?_
  cases b32
  rotate_left
  · try simp only [tdy] at h32
    have ha : alnumB s[j].toNat = true := by simp [alnumB, h32]
    refine AL_o rfl rfl rfl rfl ?_
    refine AL_o rfl rfl rfl rfl ?_
    refine AL_p (x_pickT rfl rfl rfl) ?_
    refine AL_nil ?_
    refine AW_condT rfl ?_
    refine AW_seq ?_
    refine AW_region ?_
    refine AL_p (x_move rfl rfl) ?_
    refine AL_p (x_move rfl rfl) ?_
    refine AL_p (x_call0 rfl rfl rfl (wordAt_c s j hs0 (by omega) ha) rfl rfl) ?_
    refine AL_p (x_move rfl rfl) ?_
    refine AL_p (x_extract rfl rfl rfl) ?_
    refine AL_p (x_extract rfl rfl rfl) ?_
    refine AL_p (x_extract rfl rfl rfl) ?_
    refine AL_p (x_alloc (z := .agg #[.int .i64 0, .int .i64 0, .string ⟨#[]⟩, .int .i64 0]) 102 rfl (by kernel_rfl) rfl rfl rfl rfl) ?_
    refine AL_p (x_store (n := 4) rfl rfl rfl rfl (by kernel_rfl) rfl rfl rfl) ?_
    refine AL_p (x_assign rfl rfl) ?_
    refine AL_p (x_assign rfl rfl) ?_
    refine AL_nil ?_
    refine AW_seq ?_
    refine AW_seq ?_
    refine AW_region ?_
    refine AL_p (x_move rfl rfl) ?_
    refine AL_b (x_neq rfl rfl rfl) (fun b46 h46 => ?_)
    refine AL_nil ?_
    cases b46
    rotate_left
    · try simp only [tdy] at h46
      have hno : (lexAll s) = ([], (wordRes s j (s[j].toNat : Int)).2.2, (j : Int)) := (lexAll_eq (by omega)).trans (comb_bad hc (lexw_bad (by omega) hs ha h46) h46)
      refine AW_condT rfl ?_
      refine AW_seq ?_
      refine AW_region ?_
      refine AL_p (x_move rfl rfl) ?_
      refine AL_p (x_move rfl rfl) ?_
      refine AL_p (x_assign rfl rfl) ?_
      refine AL_p (x_assign rfl rfl) ?_
      refine AL_p (x_assign rfl rfl) ?_
      refine AL_nil ?_
      refine AW_adoptT (T := 83) (e := tokenE) 100 2 rfl rfl rfl ?_
      refine AW_ret (BQ_ret (BQ_ret ?_))
      exact ⟨rn [(0, 100)], ⟨⟨⟨_, rfl, VLe.rf⟩, ⟨_, rfl, vle_int (by rw [hno])⟩, ⟨_, rfl, vle_int (by rw [hno])⟩, trivial⟩, ⟨⟨_, rfl, by first | exact BLe.rf | exact BLe.arr (by rw [hno])⟩, trivial⟩, trivial, rfl⟩⟩
    try simp only [tdy] at h46
    have hok := lexw_ok (s := s) (j := j) (by omega) hs ha (Classical.not_not.1 (by simpa using h46))
    have hc2 := comb_ok hc hok.1
    have hle := wordEnd_le (s := s) j (by omega)
    have hgt := wordEnd_gt (s := s) (i := j) (by omega) ha
    have hnx := hok.2
    have hge := skip_ge (s := s) (wordEnd s j)
    have hle2 := skip_le (s := s) (wordEnd s j) hle
    refine AW_condF rfl ?_
    refine AW_skip ?_
    refine AW_seq ?_
    refine AW_region ?_
    refine AL_p (x_move rfl rfl) ?_
    refine AL_p (x_loadN (n := 4) rfl rfl rfl (by kernel_rfl) rfl rfl) ?_
    refine AL_p (y_bslice (E := 83) (e := tokenE) [.tmp 50] ([(wordRes s j (s[j].toNat : Int)).1]) 103 rfl rfl rfl rfl rfl rfl rfl rfl FitL.rf rfl rfl rfl rfl rfl rfl (by kernel_rfl)) ?_
    refine AL_p (y_append 104 rfl rfl rfl rfl rfl rfl rfl rfl (by kernel_rfl) (by simp only [List.length_append, List.length_cons, List.length_nil] at *; omega)) ?_
    refine AL_p (x_assign rfl rfl) ?_
    refine AL_nil ?_
    refine AW_seq ?_
    refine AW_region ?_
    refine AL_p (x_move rfl rfl) ?_
    refine AL_p (x_assign rfl rfl) ?_
    refine AL_nil ?_
    refine AW_exit (BQ_hit ?_)
    refine AW_slot (t := 6) (y := .one (.c (.int .i64 ((_ : Nat) : Int)))) rfl (congrArg (fun z : Int => AVal.one (.c (.int .i64 z))) hnx) ?_
    refine AW_region ?_
    refine AL_p (x_move rfl rfl) ?_
    refine AL_p (x_move rfl rfl) ?_
    refine AL_p (x_call0 rfl rfl rfl (skipped_c s _ hs0 hle) rfl rfl) ?_
    refine AL_p (x_assign rfl rfl) ?_
    refine AL_nil ?_
    refine ⟨⟨⟨skipS s (wordEnd s j), out ++ [(wordRes s j (s[j].toNat : Int)).1]⟩, ⟨⟨hle2, skip_skip _⟩, (comb_skip hc2 (skip_skip _).symm), by simp only [List.length_append, List.length_cons, List.length_nil]; omega⟩⟩, rn [(101, 104)], ?_, by dsimp only; omega⟩
    exact ⟨by (repeat refine ⟨⟨_, rfl, by first | exact VLe.rf | exact vle_int (by dsimp only; omega)⟩, ?_⟩); exact trivial, by (repeat refine ⟨⟨_, rfl, by first | exact BLe.rf | exact BLe.box AllC.rf | exact BLe.arr (by exact rfl)⟩, ?_⟩); exact trivial, by repeat (first | exact trivial | refine ⟨⟨rfl, by first | (left; intro h; cases h) | (right; rfl), by first | exact (fun _ h => ⟨_, h⟩) | exact (fun _ _ => ⟨_, rfl⟩) | (intro _ h; cases h)⟩, ?_⟩), rfl⟩
  try simp only [tdy] at h32
  refine AL_g rfl rfl (x_move rfl rfl) ?_
  refine AL_gb rfl rfl (x_call0 rfl rfl rfl (isDig_c _) rfl rfl) (fun b36 h36 => ?_)
  refine AL_p (x_pickF rfl rfl rfl) ?_
  refine AL_nil ?_
  cases b36
  · try simp only [tdy] at h36
    have ha : alnumB s[j].toNat = false := by simp [alnumB, *]
    refine AW_condF rfl ?_
    refine AW_skip ?_
    refine AW_seq ?_
    refine AW_region ?_
    refine AL_p (x_move rfl rfl) ?_
    refine AL_p (x_move rfl rfl) ?_
    refine AL_p (x_call0 rfl rfl rfl (symbolAt_c s j hs0 (by omega)) rfl rfl) ?_
    refine AL_p (x_assign rfl rfl) ?_
    refine AL_nil ?_
    refine AW_seq ?_
    refine AW_seq ?_
    refine AW_region ?_
    refine AL_p (x_move rfl rfl) ?_
    refine AL_b (x_seql rfl rfl rfl) (fun b58 h58 => ?_)
    refine AL_nil ?_
    cases b58
    rotate_left
    · try simp only [tdy] at h58
      have h58b := ba_iff.1 h58
      have hno : (lexAll s) = ([], 2, (j : Int)) := (lexAll_eq (by omega)).trans (comb_bad hc (lex_nosign (by omega) hs ha (by rw [h58b]; rfl)) (by decide))
      refine AW_condT rfl ?_
      refine AW_seq ?_
      refine AW_region ?_
      refine AL_p (x_move rfl rfl) ?_
      refine AL_p (x_assign rfl rfl) ?_
      refine AL_p (x_assign rfl rfl) ?_
      refine AL_p (x_assign rfl rfl) ?_
      refine AL_nil ?_
      refine AW_adoptT (T := 83) (e := tokenE) 100 2 rfl rfl rfl ?_
      refine AW_ret (BQ_ret (BQ_ret ?_))
      exact ⟨rn [(0, 100)], ⟨⟨⟨_, rfl, VLe.rf⟩, ⟨_, rfl, vle_int (by rw [hno])⟩, ⟨_, rfl, vle_int (by rw [hno])⟩, trivial⟩, ⟨⟨_, rfl, by first | exact BLe.rf | exact BLe.arr (by rw [hno])⟩, trivial⟩, trivial, rfl⟩⟩
    try simp only [tdy] at h58
    have hy : ¬ (symAt s j).size = 0 := fun q => absurd (ba_iff.2 (size_zero q)) (by rw [h58]; decide)
    have hc2 := comb_ok hc (lex_sign (by omega) hs ha hy)
    have hle := symAt_size (s := s) (i := j) (by omega)
    have hnx : (j : Int) + ((symAt s j).size : Int) = ((j + (symAt s j).size : Nat) : Int) := by omega
    have hge := skip_ge (s := s) (j + (symAt s j).size)
    have hle2 := skip_le (s := s) (j + (symAt s j).size) hle
    refine AW_condF rfl ?_
    refine AW_skip ?_
    refine AW_seq ?_
    refine AW_region ?_
    refine AL_p (x_move rfl rfl) ?_
    refine AL_p (x_move rfl rfl) ?_
    refine AL_p (x_move rfl rfl) ?_
    refine AL_p (x_build (zs := [.int .i64 0, .int .i64 0, .string ⟨#[]⟩, .int .i64 0]) (places := [(0, 1), (1, 1), (2, 1), (3, 1)]) rfl (by kernel_rfl) rfl rfl rfl rfl rfl) ?_
    refine AL_p (y_bslice (E := 83) (e := tokenE) [.tmp 63] ([(⟨4, 0, symAt s j, (j : Int)⟩ : Tokent)]) 105 rfl rfl rfl rfl rfl rfl rfl rfl FitL.rf rfl rfl rfl rfl rfl rfl (by kernel_rfl)) ?_
    refine AL_p (y_append 106 rfl rfl rfl rfl rfl rfl rfl rfl (by kernel_rfl) (by simp only [List.length_append, List.length_cons, List.length_nil] at *; omega)) ?_
    refine AL_p (x_assign rfl rfl) ?_
    refine AL_nil ?_
    refine AW_region ?_
    refine AL_p (x_move rfl rfl) ?_
    refine AL_p (x_move rfl rfl) ?_
    refine AL_p (x_lens rfl rfl (by kernel_rfl)) ?_
    refine AL_p (x_add rfl rfl rfl (IntWalk.i64_in _ (by omega))) ?_
    refine AL_p (x_assign rfl rfl) ?_
    refine AL_nil ?_
    refine AW_slot (t := 6) (y := .one (.c (.int .i64 ((_ : Nat) : Int)))) rfl (congrArg (fun z : Int => AVal.one (.c (.int .i64 z))) hnx) ?_
    refine AW_region ?_
    refine AL_p (x_move rfl rfl) ?_
    refine AL_p (x_move rfl rfl) ?_
    refine AL_p (x_call0 rfl rfl rfl (skipped_c s _ hs0 hle) rfl rfl) ?_
    refine AL_p (x_assign rfl rfl) ?_
    refine AL_nil ?_
    refine ⟨⟨⟨skipS s (j + (symAt s j).size), out ++ [⟨4, 0, symAt s j, (j : Int)⟩]⟩, ⟨⟨hle2, skip_skip _⟩, (comb_skip hc2 (skip_skip _).symm), by simp only [List.length_append, List.length_cons, List.length_nil]; omega⟩⟩, rn [(101, 106)], ?_, by dsimp only; omega⟩
    exact ⟨by (repeat refine ⟨⟨_, rfl, by first | exact VLe.rf | exact vle_int (by dsimp only; omega)⟩, ?_⟩); exact trivial, by (repeat refine ⟨⟨_, rfl, by first | exact BLe.rf | exact BLe.box AllC.rf | exact BLe.arr (by exact rfl)⟩, ?_⟩); exact trivial, by repeat (first | exact trivial | refine ⟨⟨rfl, by first | (left; intro h; cases h) | (right; rfl), by first | exact (fun _ h => ⟨_, h⟩) | exact (fun _ _ => ⟨_, rfl⟩) | (intro _ h; cases h)⟩, ?_⟩), rfl⟩
  try simp only [tdy] at h36
  have ha : alnumB s[j].toNat = true := by simp [alnumB, h36]
  refine AW_condT rfl ?_
  refine AW_seq ?_
  refine AW_region ?_
  refine AL_p (x_move rfl rfl) ?_
  refine AL_p (x_move rfl rfl) ?_
  refine AL_p (x_call0 rfl rfl rfl (wordAt_c s j hs0 (by omega) ha) rfl rfl) ?_
  refine AL_p (x_move rfl rfl) ?_
  refine AL_p (x_extract rfl rfl rfl) ?_
  refine AL_p (x_extract rfl rfl rfl) ?_
  refine AL_p (x_extract rfl rfl rfl) ?_
  refine AL_p (x_alloc (z := .agg #[.int .i64 0, .int .i64 0, .string ⟨#[]⟩, .int .i64 0]) 102 rfl (by kernel_rfl) rfl rfl rfl rfl) ?_
  refine AL_p (x_store (n := 4) rfl rfl rfl rfl (by kernel_rfl) rfl rfl rfl) ?_
  refine AL_p (x_assign rfl rfl) ?_
  refine AL_p (x_assign rfl rfl) ?_
  refine AL_nil ?_
  refine AW_seq ?_
  refine AW_seq ?_
  refine AW_region ?_
  refine AL_p (x_move rfl rfl) ?_
  refine AL_b (x_neq rfl rfl rfl) (fun b46 h46 => ?_)
  refine AL_nil ?_
  cases b46
  rotate_left
  · try simp only [tdy] at h46
    have hno : (lexAll s) = ([], (wordRes s j (s[j].toNat : Int)).2.2, (j : Int)) := (lexAll_eq (by omega)).trans (comb_bad hc (lexw_bad (by omega) hs ha h46) h46)
    refine AW_condT rfl ?_
    refine AW_seq ?_
    refine AW_region ?_
    refine AL_p (x_move rfl rfl) ?_
    refine AL_p (x_move rfl rfl) ?_
    refine AL_p (x_assign rfl rfl) ?_
    refine AL_p (x_assign rfl rfl) ?_
    refine AL_p (x_assign rfl rfl) ?_
    refine AL_nil ?_
    refine AW_adoptT (T := 83) (e := tokenE) 100 2 rfl rfl rfl ?_
    refine AW_ret (BQ_ret (BQ_ret ?_))
    exact ⟨rn [(0, 100)], ⟨⟨⟨_, rfl, VLe.rf⟩, ⟨_, rfl, vle_int (by rw [hno])⟩, ⟨_, rfl, vle_int (by rw [hno])⟩, trivial⟩, ⟨⟨_, rfl, by first | exact BLe.rf | exact BLe.arr (by rw [hno])⟩, trivial⟩, trivial, rfl⟩⟩
  try simp only [tdy] at h46
  have hok := lexw_ok (s := s) (j := j) (by omega) hs ha (Classical.not_not.1 (by simpa using h46))
  have hc2 := comb_ok hc hok.1
  have hle := wordEnd_le (s := s) j (by omega)
  have hgt := wordEnd_gt (s := s) (i := j) (by omega) ha
  have hnx := hok.2
  have hge := skip_ge (s := s) (wordEnd s j)
  have hle2 := skip_le (s := s) (wordEnd s j) hle
  refine AW_condF rfl ?_
  refine AW_skip ?_
  refine AW_seq ?_
  refine AW_region ?_
  refine AL_p (x_move rfl rfl) ?_
  refine AL_p (x_loadN (n := 4) rfl rfl rfl (by kernel_rfl) rfl rfl) ?_
  refine AL_p (y_bslice (E := 83) (e := tokenE) [.tmp 50] ([(wordRes s j (s[j].toNat : Int)).1]) 103 rfl rfl rfl rfl rfl rfl rfl rfl FitL.rf rfl rfl rfl rfl rfl rfl (by kernel_rfl)) ?_
  refine AL_p (y_append 104 rfl rfl rfl rfl rfl rfl rfl rfl (by kernel_rfl) (by simp only [List.length_append, List.length_cons, List.length_nil] at *; omega)) ?_
  refine AL_p (x_assign rfl rfl) ?_
  refine AL_nil ?_
  refine AW_seq ?_
  refine AW_region ?_
  refine AL_p (x_move rfl rfl) ?_
  refine AL_p (x_assign rfl rfl) ?_
  refine AL_nil ?_
  refine AW_exit (BQ_hit ?_)
  refine AW_slot (t := 6) (y := .one (.c (.int .i64 ((_ : Nat) : Int)))) rfl (congrArg (fun z : Int => AVal.one (.c (.int .i64 z))) hnx) ?_
  refine AW_region ?_
  refine AL_p (x_move rfl rfl) ?_
  refine AL_p (x_move rfl rfl) ?_
  refine AL_p (x_call0 rfl rfl rfl (skipped_c s _ hs0 hle) rfl rfl) ?_
  refine AL_p (x_assign rfl rfl) ?_
  refine AL_nil ?_
  refine ⟨⟨⟨skipS s (wordEnd s j), out ++ [(wordRes s j (s[j].toNat : Int)).1]⟩, ⟨⟨hle2, skip_skip _⟩, (comb_skip hc2 (skip_skip _).symm), by simp only [List.length_append, List.length_cons, List.length_nil]; omega⟩⟩, rn [(101, 104)], ?_, by dsimp only; omega⟩
  exact ⟨by (repeat refine ⟨⟨_, rfl, by first | exact VLe.rf | exact vle_int (by dsimp only; omega)⟩, ?_⟩); exact trivial, by (repeat refine ⟨⟨_, rfl, by first | exact BLe.rf | exact BLe.box AllC.rf | exact BLe.arr (by exact rfl)⟩, ?_⟩); exact trivial, by repeat (first | exact trivial | refine ⟨⟨rfl, by first | (left; intro h; cases h) | (right; rfl), by first | exact (fun _ h => ⟨_, h⟩) | exact (fun _ _ => ⟨_, rfl⟩) | (intro _ h; cases h)⟩, ?_⟩), rfl⟩
theorem lexI_c (s : ByteArray) (hs0 : s.size ≤ 1048576) (k : Nat) : AC Try.prog 17 [.one (.c (.string s))] [] (.tup [.one (.own k), .one (.c (.int .i64 ((lexAll s).2.1))), .one (.c (.int .i64 ((lexAll s).2.2)))]) [(k, some (.arr 83 tokenE (lexAll s).1 true))] := AC.at (lexI_c0 s hs0) k

set_option maxHeartbeats 4000000 in
theorem lexS_c (s : ByteArray) (hs0 : s.size ≤ 1048576) : AC Try.prog 16 [.one (.c (.string s))] [] (.tup [.one (.sl tokenE (lexAll s).1), .one (.c (.int .i64 ((lexAll s).2.1))), .one (.c (.int .i64 ((lexAll s).2.2)))]) [] := by
  refine AC_body3 Try.func16 rfl rfl Try.ntmps16 rfl Try.results16 rfl rfl rfl rfl rfl rfl ?_
  refine AW_seq ?_
  refine AW_region ?_
  refine AL_p (x_assign rfl rfl) ?_
  refine AL_p (x_assign rfl rfl) ?_
  refine AL_p (x_assign rfl rfl) ?_
  refine AL_nil ?_
  refine AW_seq ?_
  refine AW_seq ?_
  refine AW_region ?_
  refine AL_p (x_move rfl rfl) ?_
  refine AL_p (x_lens rfl rfl (by kernel_rfl)) ?_
  refine AL_b (x_gtr rfl rfl rfl) (fun b15 h15 => ?_)
  refine AL_nil ?_
  cases b15
  rotate_left
  · try simp only [tdy] at h15
    have hno := lexAll_big h15
    refine AW_condT rfl ?_
    refine AW_seq ?_
    refine AW_region ?_
    refine AL_p (x_assign rfl rfl) ?_
    refine AL_p (x_assign rfl rfl) ?_
    refine AL_p (x_assign rfl rfl) ?_
    refine AL_nil ?_
    refine AW_adoptT (T := 83) (e := tokenE) 100 2 rfl rfl rfl ?_
    refine AW_shut 100 2 rfl rfl ?_
    refine AW_ret ?_
    exact ⟨rn [], ⟨⟨⟨_, rfl, vle_sl (by rw [hno])⟩, ⟨_, rfl, vle_int (by rw [hno])⟩, ⟨_, rfl, vle_int (by rw [hno])⟩, trivial⟩, trivial, trivial, rfl⟩⟩
  try simp only [tdy] at h15
  refine AW_condF rfl ?_
  refine AW_skip ?_
  refine AW_seq ?_
  refine AW_region ?_
  refine AL_p (y_bslice0 (E := 83) (e := tokenE) 101 rfl rfl rfl (by kernel_rfl)) ?_
  refine AL_p (x_assign rfl rfl) ?_
  refine AL_nil ?_
  refine AW_seq ?_
  refine AW_seq ?_
  refine AW_region ?_
  refine AL_p (x_assign rfl rfl) ?_
  refine AL_nil ?_
  refine AW_block ?_
  refine AW_loop2 (ι := {q : Nat × List Tokent // (q.1) ≤ s.size ∧ combL (q.2) (lexR s (q.1)) = lexR s 0 ∧ (q.2).length ≤ (q.1)}) (fun p => [(5, .one (.own 101)), (6, .one (.c (.int .i64 (((p.1.1) : Int)))))]) (fun p => [(101, some (.arr 83 tokenE (p.1.2) true))]) [0] [] (fun p => s.size - (p.1.1)) ⟨⟨0, []⟩, ⟨by omega, comb_start, by simp⟩⟩ (rn []) ?_ ?_
  exact ⟨by (repeat refine ⟨⟨_, rfl, by first | exact VLe.rf | exact vle_int (by dsimp only; omega)⟩, ?_⟩); exact trivial, by (repeat refine ⟨⟨_, rfl, by first | exact BLe.rf | exact BLe.box AllC.rf | exact BLe.arr (by exact rfl)⟩, ?_⟩); exact trivial, by repeat (first | exact trivial | refine ⟨⟨rfl, by first | (left; intro h; cases h) | (right; rfl), by first | exact (fun _ h => ⟨_, h⟩) | exact (fun _ _ => ⟨_, rfl⟩) | (intro _ h; cases h)⟩, ?_⟩), rfl⟩
  rintro ⟨⟨j, out⟩, hinv⟩
  dsimp only
  have hj : j ≤ s.size := hinv.1
  have hc := hinv.2.1
  have hl : out.length ≤ j := hinv.2.2
  refine AW_seq ?_
  refine AW_seq ?_
  refine AW_region ?_
  refine AL_p (x_move rfl rfl) ?_
  refine AL_p (x_move rfl rfl) ?_
  refine AL_p (x_lens rfl rfl (by kernel_rfl)) ?_
  refine AL_b (x_lss rfl rfl rfl) (fun b20 h20 => ?_)
  refine AL_nil ?_
  cases b20
  · try simp only [tdy] at h20
    have hno := (lexAll_eq (s := s) (by omega)).trans (comb_end hc (by omega)).symm.symm
    refine AW_condF rfl ?_
    refine AW_exit (BQ_hit ?_)
    refine AW_seq ?_
    refine AW_region ?_
    refine AL_p (x_move rfl rfl) ?_
    refine AL_p (x_assign rfl rfl) ?_
    refine AL_p (x_assign rfl rfl) ?_
    refine AL_p (x_assign rfl rfl) ?_
    refine AL_nil ?_
    refine AW_shut 101 2 rfl rfl ?_
    refine AW_ret ?_
    exact ⟨rn [], ⟨⟨⟨_, rfl, vle_sl (by rw [hno])⟩, ⟨_, rfl, vle_int (by rw [hno])⟩, ⟨_, rfl, vle_int (by rw [hno])⟩, trivial⟩, trivial, trivial, rfl⟩⟩
  try simp only [tdy] at h20
  refine AW_condT rfl ?_
  refine AW_skip ?_
  refine AW_block ?_
  refine AW_seq ?_
  refine AW_region ?_
  refine AL_p (x_move rfl rfl) ?_
  refine AL_p (x_move rfl rfl) ?_
  refine AL_p (x_sindex rfl rfl rfl (by kernel_rfl) (k := j) rfl (by omega)) ?_
  refine AL_p (x_assign rfl rfl) ?_
  refine AL_nil ?_
  refine AW_seq ?_
  refine AW_seq ?_
  refine AW_region ?_
  refine AL_p (x_move rfl rfl) ?_
  refine AL_b (x_eql rfl rfl rfl) (fun b25 h25 => ?_)
  refine AL_p (x_move rfl rfl) ?_
  cases b25
  rotate_left
  · try simp only [tdy] at h25
    have hb : blank s[j].toNat = true := by simp [blank, h25]
    refine AL_o rfl rfl rfl rfl ?_
    refine AL_o rfl rfl rfl rfl ?_
    refine AL_p (x_pickT rfl rfl rfl) ?_
    refine AL_p (x_move rfl rfl) ?_
    refine AL_o rfl rfl rfl rfl ?_
    refine AL_o rfl rfl rfl rfl ?_
    refine AL_p (x_pickT rfl rfl rfl) ?_
    refine AL_p (x_move rfl rfl) ?_
    refine AL_o rfl rfl rfl rfl ?_
    refine AL_o rfl rfl rfl rfl ?_
    refine AL_p (x_pickT rfl rfl rfl) ?_
    refine AL_nil ?_
    refine AW_condT rfl ?_
    refine AW_seq ?_
    refine AW_region ?_
    refine AL_p (x_move rfl rfl) ?_
    refine AL_p (x_add rfl rfl rfl (IntWalk.i64_in _ (by omega))) ?_
    refine AL_p (x_assign rfl rfl) ?_
    refine AL_nil ?_
    refine AW_exit (BQ_hit ?_)
    refine ⟨⟨⟨j + 1, out⟩, ⟨by omega, comb_skip hc (skip_blank (by omega) hb), by dsimp only; omega⟩⟩, rn [], ?_, by dsimp only; omega⟩
    exact ⟨by (repeat refine ⟨⟨_, rfl, by first | exact VLe.rf | exact vle_int (by dsimp only; omega)⟩, ?_⟩); exact trivial, by (repeat refine ⟨⟨_, rfl, by first | exact BLe.rf | exact BLe.box AllC.rf | exact BLe.arr (by exact rfl)⟩, ?_⟩); exact trivial, by repeat (first | exact trivial | refine ⟨⟨rfl, by first | (left; intro h; cases h) | (right; rfl), by first | exact (fun _ h => ⟨_, h⟩) | exact (fun _ _ => ⟨_, rfl⟩) | (intro _ h; cases h)⟩, ?_⟩), rfl⟩
  try simp only [tdy] at h25
  refine AL_g rfl rfl (x_move rfl rfl) ?_
  refine AL_gb rfl rfl (x_eql rfl rfl rfl) (fun b28 h28 => ?_)
  refine AL_p (x_pickF rfl rfl rfl) ?_
  refine AL_p (x_move rfl rfl) ?_
  cases b28
  rotate_left
  · try simp only [tdy] at h28
    have hb : blank s[j].toNat = true := by simp [blank, h28]
    refine AL_o rfl rfl rfl rfl ?_
    refine AL_o rfl rfl rfl rfl ?_
    refine AL_p (x_pickT rfl rfl rfl) ?_
    refine AL_p (x_move rfl rfl) ?_
    refine AL_o rfl rfl rfl rfl ?_
    refine AL_o rfl rfl rfl rfl ?_
    refine AL_p (x_pickT rfl rfl rfl) ?_
    refine AL_nil ?_
    refine AW_condT rfl ?_
    refine AW_seq ?_
    refine AW_region ?_
    refine AL_p (x_move rfl rfl) ?_
    refine AL_p (x_add rfl rfl rfl (IntWalk.i64_in _ (by omega))) ?_
    refine AL_p (x_assign rfl rfl) ?_
    refine AL_nil ?_
    refine AW_exit (BQ_hit ?_)
    refine ⟨⟨⟨j + 1, out⟩, ⟨by omega, comb_skip hc (skip_blank (by omega) hb), by dsimp only; omega⟩⟩, rn [], ?_, by dsimp only; omega⟩
    exact ⟨by (repeat refine ⟨⟨_, rfl, by first | exact VLe.rf | exact vle_int (by dsimp only; omega)⟩, ?_⟩); exact trivial, by (repeat refine ⟨⟨_, rfl, by first | exact BLe.rf | exact BLe.box AllC.rf | exact BLe.arr (by exact rfl)⟩, ?_⟩); exact trivial, by repeat (first | exact trivial | refine ⟨⟨rfl, by first | (left; intro h; cases h) | (right; rfl), by first | exact (fun _ h => ⟨_, h⟩) | exact (fun _ _ => ⟨_, rfl⟩) | (intro _ h; cases h)⟩, ?_⟩), rfl⟩
  try simp only [tdy] at h28
  refine AL_g rfl rfl (x_move rfl rfl) ?_
  refine AL_gb rfl rfl (x_eql rfl rfl rfl) (fun b32 h32 => ?_)
  refine AL_p (x_pickF rfl rfl rfl) ?_
  refine AL_p (x_move rfl rfl) ?_
  cases b32
  rotate_left
  · try simp only [tdy] at h32
    have hb : blank s[j].toNat = true := by simp [blank, h32]
    refine AL_o rfl rfl rfl rfl ?_
    refine AL_o rfl rfl rfl rfl ?_
    refine AL_p (x_pickT rfl rfl rfl) ?_
    refine AL_nil ?_
    refine AW_condT rfl ?_
    refine AW_seq ?_
    refine AW_region ?_
    refine AL_p (x_move rfl rfl) ?_
    refine AL_p (x_add rfl rfl rfl (IntWalk.i64_in _ (by omega))) ?_
    refine AL_p (x_assign rfl rfl) ?_
    refine AL_nil ?_
    refine AW_exit (BQ_hit ?_)
    refine ⟨⟨⟨j + 1, out⟩, ⟨by omega, comb_skip hc (skip_blank (by omega) hb), by dsimp only; omega⟩⟩, rn [], ?_, by dsimp only; omega⟩
    exact ⟨by (repeat refine ⟨⟨_, rfl, by first | exact VLe.rf | exact vle_int (by dsimp only; omega)⟩, ?_⟩); exact trivial, by (repeat refine ⟨⟨_, rfl, by first | exact BLe.rf | exact BLe.box AllC.rf | exact BLe.arr (by exact rfl)⟩, ?_⟩); exact trivial, by repeat (first | exact trivial | refine ⟨⟨rfl, by first | (left; intro h; cases h) | (right; rfl), by first | exact (fun _ h => ⟨_, h⟩) | exact (fun _ _ => ⟨_, rfl⟩) | (intro _ h; cases h)⟩, ?_⟩), rfl⟩
  try simp only [tdy] at h32
  refine AL_g rfl rfl (x_move rfl rfl) ?_
  refine AL_gb rfl rfl (x_eql rfl rfl rfl) (fun b36 h36 => ?_)
  refine AL_p (x_pickF rfl rfl rfl) ?_
  refine AL_nil ?_
  cases b36
  rotate_left
  · try simp only [tdy] at h36
    have hb : blank s[j].toNat = true := by simp [blank, h36]
    refine AW_condT rfl ?_
    refine AW_seq ?_
    refine AW_region ?_
    refine AL_p (x_move rfl rfl) ?_
    refine AL_p (x_add rfl rfl rfl (IntWalk.i64_in _ (by omega))) ?_
    refine AL_p (x_assign rfl rfl) ?_
    refine AL_nil ?_
    refine AW_exit (BQ_hit ?_)
    refine ⟨⟨⟨j + 1, out⟩, ⟨by omega, comb_skip hc (skip_blank (by omega) hb), by dsimp only; omega⟩⟩, rn [], ?_, by dsimp only; omega⟩
    exact ⟨by (repeat refine ⟨⟨_, rfl, by first | exact VLe.rf | exact vle_int (by dsimp only; omega)⟩, ?_⟩); exact trivial, by (repeat refine ⟨⟨_, rfl, by first | exact BLe.rf | exact BLe.box AllC.rf | exact BLe.arr (by exact rfl)⟩, ?_⟩); exact trivial, by repeat (first | exact trivial | refine ⟨⟨rfl, by first | (left; intro h; cases h) | (right; rfl), by first | exact (fun _ h => ⟨_, h⟩) | exact (fun _ _ => ⟨_, rfl⟩) | (intro _ h; cases h)⟩, ?_⟩), rfl⟩
  try simp only [tdy] at h36
  have hb : blank s[j].toNat = false := by simp [blank, *]
  refine AW_condF rfl ?_
  refine AW_skip ?_
  refine AW_seq ?_
  refine AW_seq ?_
  refine AW_region ?_
  refine AL_p (x_move rfl rfl) ?_
  refine AL_b (x_eql rfl rfl rfl) (fun b41 h41 => ?_)
  refine AL_nil ?_
  cases b41
  rotate_left
  · try simp only [tdy] at h41
    have hn1 := note_lt (s := s) (i := j) (by omega) h41
    have hn2 := skip_note (s := s) (i := j) (by omega) hb h41
    have hn3 := lineEnd_le (s := s) j (by omega)
    refine AW_condT rfl ?_
    refine AW_seq ?_
    refine AW_block ?_
    refine AW_loop2 (ι := {q : Nat // (j ≤ q ∧ q ≤ s.size) ∧ lineEnd s q = lineEnd s j}) (fun p => [(6, .one (.c (.int .i64 (((p.1) : Int)))))]) (fun p => []) [0, 5, 7] [101] (fun p => s.size - (p.1)) ⟨j, ⟨⟨Nat.le_refl _, by omega⟩, rfl⟩⟩ (rn []) ?_ ?_
    exact ⟨by (repeat refine ⟨⟨_, rfl, by first | exact VLe.rf | exact vle_int (by dsimp only; omega)⟩, ?_⟩); exact trivial, by (repeat refine ⟨⟨_, rfl, by first | exact BLe.rf | exact BLe.box AllC.rf | exact BLe.arr (by exact rfl)⟩, ?_⟩); exact trivial, by repeat (first | exact trivial | refine ⟨⟨rfl, by first | (left; intro h; cases h) | (right; rfl), by first | exact (fun _ h => ⟨_, h⟩) | exact (fun _ _ => ⟨_, rfl⟩) | (intro _ h; cases h)⟩, ?_⟩), rfl⟩
    rintro ⟨e, hinv⟩
    dsimp only
    have he0 : j ≤ e := hinv.1.1
    have he1 : e ≤ s.size := hinv.1.2
    have he := hinv.2
    refine AW_seq ?_
    refine AW_seq ?_
    refine AW_region ?_
    refine AL_p (x_move rfl rfl) ?_
    refine AL_p (x_move rfl rfl) ?_
    refine AL_p (x_lens rfl rfl (by kernel_rfl)) ?_
    refine AL_b (x_lss rfl rfl rfl) (fun b45 h45 => ?_)
    refine AL_p (x_move rfl rfl) ?_
    cases b45
    · try simp only [tdy] at h45
      have hee : e = lineEnd s j := by rw [← he, lineEnd_end (s := s) (i := e) (by omega)]
      have hn4 : skipS s j = skipS s e := by rw [hn2, hee]
      refine AL_o rfl rfl rfl rfl ?_
      refine AL_o rfl rfl rfl rfl ?_
      refine AL_o rfl rfl rfl rfl ?_
      refine AL_o rfl rfl rfl rfl ?_
      refine AL_p (x_pickF rfl rfl rfl) ?_
      refine AL_nil ?_
      refine AW_condF rfl ?_
      refine AW_exit (BQ_hit ?_)
      refine AW_exit (BQ_hit ?_)
      refine ⟨⟨⟨e, out⟩, ⟨by omega, comb_skip hc hn4, by dsimp only; omega⟩⟩, rn [], ?_, by dsimp only; omega⟩
      exact ⟨by (repeat refine ⟨⟨_, rfl, by first | exact VLe.rf | exact vle_int (by dsimp only; omega)⟩, ?_⟩); exact trivial, by (repeat refine ⟨⟨_, rfl, by first | exact BLe.rf | exact BLe.box AllC.rf | exact BLe.arr (by exact rfl)⟩, ?_⟩); exact trivial, by repeat (first | exact trivial | refine ⟨⟨rfl, by first | (left; intro h; cases h) | (right; rfl), by first | exact (fun _ h => ⟨_, h⟩) | exact (fun _ _ => ⟨_, rfl⟩) | (intro _ h; cases h)⟩, ?_⟩), rfl⟩
    try simp only [tdy] at h45
    refine AL_g rfl rfl (x_move rfl rfl) ?_
    refine AL_g rfl rfl (x_move rfl rfl) ?_
    refine AL_g rfl rfl (x_sindex rfl rfl rfl (by kernel_rfl) (k := e) rfl (by omega)) ?_
    refine AL_gb rfl rfl (x_neq rfl rfl rfl) (fun b50 h50 => ?_)
    refine AL_p (x_pickT rfl rfl rfl) ?_
    refine AL_nil ?_
    cases b50
    · try simp only [tdy] at h50
      have hee : e = lineEnd s j := by rw [← he, lineEnd_at (s := s) (i := e) (by omega) (by omega)]
      have hn4 : skipS s j = skipS s e := by rw [hn2, hee]
      refine AW_condF rfl ?_
      refine AW_exit (BQ_hit ?_)
      refine AW_exit (BQ_hit ?_)
      refine ⟨⟨⟨e, out⟩, ⟨by omega, comb_skip hc hn4, by dsimp only; omega⟩⟩, rn [], ?_, by dsimp only; omega⟩
      exact ⟨by (repeat refine ⟨⟨_, rfl, by first | exact VLe.rf | exact vle_int (by dsimp only; omega)⟩, ?_⟩); exact trivial, by (repeat refine ⟨⟨_, rfl, by first | exact BLe.rf | exact BLe.box AllC.rf | exact BLe.arr (by exact rfl)⟩, ?_⟩); exact trivial, by repeat (first | exact trivial | refine ⟨⟨rfl, by first | (left; intro h; cases h) | (right; rfl), by first | exact (fun _ h => ⟨_, h⟩) | exact (fun _ _ => ⟨_, rfl⟩) | (intro _ h; cases h)⟩, ?_⟩), rfl⟩
    try simp only [tdy] at h50
    have he2 := (lineEnd_on (s := s) (i := e) (by omega) h50).symm.trans he
    refine AW_condT rfl ?_
    refine AW_skip ?_
    refine AW_block ?_
    refine AW_region ?_
    refine AL_p (x_move rfl rfl) ?_
    refine AL_p (x_add rfl rfl rfl (IntWalk.i64_in _ (by omega))) ?_
    refine AL_p (x_assign rfl rfl) ?_
    refine AL_nil ?_
    refine ⟨⟨e + 1, ⟨⟨by omega, by omega⟩, he2⟩⟩, rn [], ?_, by dsimp only; omega⟩
    exact ⟨by (repeat refine ⟨⟨_, rfl, by first | exact VLe.rf | exact vle_int (by dsimp only; omega)⟩, ?_⟩); exact trivial, by (repeat refine ⟨⟨_, rfl, by first | exact BLe.rf | exact BLe.box AllC.rf | exact BLe.arr (by exact rfl)⟩, ?_⟩); exact trivial, by repeat (first | exact trivial | refine ⟨⟨rfl, by first | (left; intro h; cases h) | (right; rfl), by first | exact (fun _ h => ⟨_, h⟩) | exact (fun _ _ => ⟨_, rfl⟩) | (intro _ h; cases h)⟩, ?_⟩), rfl⟩
  try simp only [tdy] at h41
  have hs := skip_stop (s := s) (i := j) (by omega) hb h41
  refine AW_condF rfl ?_
  refine AW_skip ?_
  refine AW_seq ?_
  refine AW_seq ?_
  refine AW_region ?_
  refine AL_p (x_move rfl rfl) ?_
  refine AL_p (x_call0 rfl rfl rfl (cls_c _) rfl rfl) ?_
  refine AL_b (x_eql rfl rfl rfl) (fun b56 h56 => ?_)
  refine AL_nil ?_
  cases b56
  rotate_left
  · try simp only [tdy] at h56
    have ha := cls_pos.1.1 h56
    refine AW_condT rfl ?_
    refine AW_seq ?_
    refine AW_region ?_
    refine AL_p (x_move rfl rfl) ?_
    refine AL_p (x_move rfl rfl) ?_
    refine AL_p (x_call0 rfl rfl rfl (sign_c s j hs0 (by omega)) rfl rfl) ?_
    refine AL_p (x_assign rfl rfl) ?_
    refine AL_nil ?_
    refine AW_seq ?_
    refine AW_seq ?_
    refine AW_region ?_
    refine AL_p (x_move rfl rfl) ?_
    refine AL_b (x_seql rfl rfl rfl) (fun b61 h61 => ?_)
    refine AL_nil ?_
    cases b61
    rotate_left
    · try simp only [tdy] at h61
      have h61b := ba_iff.1 h61
      have hno : (lexAll s) = ([], 2, (j : Int)) := (lexAll_eq (by omega)).trans (comb_bad hc (lex_nosign (by omega) hs ha (by rw [h61b]; rfl)) (by decide))
      refine AW_condT rfl ?_
      refine AW_seq ?_
      refine AW_region ?_
      refine AL_p (x_move rfl rfl) ?_
      refine AL_p (x_assign rfl rfl) ?_
      refine AL_p (x_assign rfl rfl) ?_
      refine AL_p (x_assign rfl rfl) ?_
      refine AL_nil ?_
      refine AW_adoptT (T := 83) (e := tokenE) 100 2 rfl rfl rfl ?_
      refine AW_shut 100 2 rfl rfl ?_
      refine AW_ret (BQ_ret (BQ_ret ?_))
      exact ⟨rn [], ⟨⟨⟨_, rfl, vle_sl (by rw [hno])⟩, ⟨_, rfl, vle_int (by rw [hno])⟩, ⟨_, rfl, vle_int (by rw [hno])⟩, trivial⟩, trivial, trivial, rfl⟩⟩
    try simp only [tdy] at h61
    have hy : ¬ (symAt s j).size = 0 := fun q => absurd (ba_iff.2 (size_zero q)) (by rw [h61]; decide)
    have hc2 := comb_ok hc (lex_sign (by omega) hs ha hy)
    have hle := symAt_size (s := s) (i := j) (by omega)
    refine AW_condF rfl ?_
    refine AW_skip ?_
    refine AW_seq ?_
    refine AW_region ?_
    refine AL_p (x_move rfl rfl) ?_
    refine AL_p (x_move rfl rfl) ?_
    refine AL_p (x_move rfl rfl) ?_
    refine AL_p (x_build (zs := [.int .i64 0, .int .i64 0, .string ⟨#[]⟩, .int .i64 0]) (places := [(0, 1), (1, 1), (2, 1), (3, 1)]) rfl (by kernel_rfl) rfl rfl rfl rfl rfl) ?_
    refine AL_p (y_bslice (E := 83) (e := tokenE) [.tmp 66] ([(⟨4, 0, symAt s j, (j : Int)⟩ : Tokent)]) 102 rfl rfl rfl rfl rfl rfl rfl rfl FitL.rf rfl rfl rfl rfl rfl rfl (by kernel_rfl)) ?_
    refine AL_p (y_append 103 rfl rfl rfl rfl rfl rfl rfl rfl (by kernel_rfl) (by simp only [List.length_append, List.length_cons, List.length_nil] at *; omega)) ?_
    refine AL_p (x_assign rfl rfl) ?_
    refine AL_nil ?_
    refine AW_seq ?_
    refine AW_region ?_
    refine AL_p (x_move rfl rfl) ?_
    refine AL_p (x_move rfl rfl) ?_
    refine AL_p (x_lens rfl rfl (by kernel_rfl)) ?_
    refine AL_p (x_add rfl rfl rfl (IntWalk.i64_in _ (by omega))) ?_
    refine AL_p (x_assign rfl rfl) ?_
    refine AL_nil ?_
    refine AW_exit (BQ_hit ?_)
    refine ⟨⟨⟨j + (symAt s j).size, out ++ [(⟨4, 0, symAt s j, (j : Int)⟩ : Tokent)]⟩, ⟨by omega, hc2, by simp only [List.length_append, List.length_cons, List.length_nil]; omega⟩⟩, rn [(101, 103)], ?_, by dsimp only; omega⟩
    exact ⟨by (repeat refine ⟨⟨_, rfl, by first | exact VLe.rf | exact vle_int (by dsimp only; omega)⟩, ?_⟩); exact trivial, by (repeat refine ⟨⟨_, rfl, by first | exact BLe.rf | exact BLe.box AllC.rf | exact BLe.arr (by exact rfl)⟩, ?_⟩); exact trivial, by repeat (first | exact trivial | refine ⟨⟨rfl, by first | (left; intro h; cases h) | (right; rfl), by first | exact (fun _ h => ⟨_, h⟩) | exact (fun _ _ => ⟨_, rfl⟩) | (intro _ h; cases h)⟩, ?_⟩), rfl⟩
  try simp only [tdy] at h56
  have ha : alnumB s[j].toNat = true := by cases q : alnumB s[j].toNat with | true => rfl | false => exact absurd (cls_pos.1.2 q) h56
  have hgt := wordEnd_gt (s := s) (i := j) (by omega) ha
  have hwl := wordEnd_le (s := s) j (by omega)
  refine AW_condF rfl ?_
  refine AW_skip ?_
  refine AW_seq ?_
  refine AW_region ?_
  refine AL_p (x_move rfl rfl) ?_
  refine AL_p (x_assign rfl rfl) ?_
  refine AL_nil ?_
  refine AW_seq ?_
  refine AW_block ?_
  refine AW_loop2 (ι := {q : Nat // (j ≤ q ∧ q ≤ s.size) ∧ wordEnd s q = wordEnd s j}) (fun p => [(9, .one (.c (.int .i64 (((p.1) : Int)))))]) (fun p => []) [0, 5, 6, 7] [101] (fun p => s.size - (p.1)) ⟨j, ⟨⟨Nat.le_refl _, by omega⟩, rfl⟩⟩ (rn []) ?_ ?_
  exact ⟨by (repeat refine ⟨⟨_, rfl, by first | exact VLe.rf | exact vle_int (by dsimp only; omega)⟩, ?_⟩); exact trivial, by (repeat refine ⟨⟨_, rfl, by first | exact BLe.rf | exact BLe.box AllC.rf | exact BLe.arr (by exact rfl)⟩, ?_⟩); exact trivial, by repeat (first | exact trivial | refine ⟨⟨rfl, by first | (left; intro h; cases h) | (right; rfl), by first | exact (fun _ h => ⟨_, h⟩) | exact (fun _ _ => ⟨_, rfl⟩) | (intro _ h; cases h)⟩, ?_⟩), rfl⟩
  rintro ⟨e, hinv⟩
  dsimp only
  have he0 : j ≤ e := hinv.1.1
  have he1 : e ≤ s.size := hinv.1.2
  have hw : wordEnd s e = wordEnd s j := hinv.2
  refine AW_seq ?_
  refine AW_seq ?_
  refine AW_region ?_
  refine AL_p (x_move rfl rfl) ?_
  refine AL_p (x_move rfl rfl) ?_
  refine AL_p (x_lens rfl rfl (by kernel_rfl)) ?_
  refine AL_b (x_lss rfl rfl rfl) (fun b77 h77 => ?_)
  refine AL_p (x_move rfl rfl) ?_
  cases b77
  · try simp only [tdy] at h77
    have hee : e = wordEnd s j := by rw [← hw, wordEnd_end (s := s) (i := e) (by omega)]
    refine AL_o rfl rfl rfl rfl ?_
    refine AL_o rfl rfl rfl rfl ?_
    refine AL_o rfl rfl rfl rfl ?_
    refine AL_o rfl rfl rfl rfl ?_
    refine AL_o rfl rfl rfl rfl ?_
    refine AL_p (x_pickF rfl rfl rfl) ?_
    refine AL_nil ?_
    refine AW_condF rfl ?_
    refine AW_exit (BQ_hit ?_)
    refine AW_seq ?_
    refine AW_region ?_
    refine AL_p (x_move rfl rfl) ?_
    refine AL_p (x_move rfl rfl) ?_
    refine AL_p (x_move rfl rfl) ?_
    refine AL_p (x_sslice rfl rfl (by kernel_rfl) (.yes (l := j) rfl (by omega)) (.yes (l := e) rfl (by omega)) (by omega) (by first | exact Nat.le_refl _ | omega) rfl) ?_
    refine AL_p (x_assign rfl rfl) ?_
    refine AL_nil ?_
    refine AW_seq ?_
    refine AW_seq ?_
    refine AW_region ?_
    refine AL_p (x_move rfl rfl) ?_
    refine AL_p (x_call0 rfl rfl rfl (cls_c _) rfl rfl) ?_
    refine AL_b (x_eql rfl rfl rfl) (fun b93 h93 => ?_)
    refine AL_nil ?_
    cases b93
    rotate_left
    · try simp only [tdy] at h93
      have hd := cls_dig.1 h93
      refine AW_condT rfl ?_
      refine AW_seq ?_
      refine AW_region ?_
      refine AL_p (x_move rfl rfl) ?_
      refine AL_p (x_call0 rfl rfl rfl (textNumS_c _) rfl rfl) ?_
      refine AL_p (x_move rfl rfl) ?_
      refine AL_p (x_extract rfl rfl rfl) ?_
      refine AL_b (x_extract rfl rfl rfl) (fun b98 h98 => ?_)
      refine AL_p (x_assign rfl rfl) ?_
      refine AL_p (x_assign rfl rfl) ?_
      refine AL_nil ?_
      refine AW_seq ?_
      refine AW_seq ?_
      refine AW_region ?_
      refine AL_p (x_move rfl rfl) ?_
      refine AL_p (x_not rfl rfl) ?_
      refine AL_nil ?_
      cases b98
      · try simp only [tdy] at h98
        have hno : (lexAll s) = ([], 3, (j : Int)) := (lexAll_eq (by omega)).trans (comb_bad hc (lexS_bad (by omega) hs ha (res_badnum hee hd h98) (by decide)) (by decide))
        refine AW_condT rfl ?_
        refine AW_seq ?_
        refine AW_region ?_
        refine AL_p (x_move rfl rfl) ?_
        refine AL_p (x_assign rfl rfl) ?_
        refine AL_p (x_assign rfl rfl) ?_
        refine AL_p (x_assign rfl rfl) ?_
        refine AL_nil ?_
        refine AW_adoptT (T := 83) (e := tokenE) 100 2 rfl rfl rfl ?_
        refine AW_shut 100 2 rfl rfl ?_
        refine AW_ret (BQ_ret (BQ_ret ?_))
        exact ⟨rn [], ⟨⟨⟨_, rfl, vle_sl (by rw [hno])⟩, ⟨_, rfl, vle_int (by rw [hno])⟩, ⟨_, rfl, vle_int (by rw [hno])⟩, trivial⟩, trivial, trivial, rfl⟩⟩
      try simp only [tdy] at h98
      have hc2 := comb_ok hc (lexS_ok (by omega) hs ha hee (res_num hee hd h98))
      refine AW_condF rfl ?_
      refine AW_skip ?_
      refine AW_region ?_
      refine AL_p (x_move rfl rfl) ?_
      refine AL_p (x_move rfl rfl) ?_
      refine AL_p (x_move rfl rfl) ?_
      refine AL_p (x_build (zs := [.int .i64 0, .int .i64 0, .string ⟨#[]⟩, .int .i64 0]) (places := [(0, 1), (1, 1), (2, 1), (3, 1)]) rfl (by kernel_rfl) rfl rfl rfl rfl rfl) ?_
      refine AL_p (y_bslice (E := 83) (e := tokenE) [.tmp 105] ([(⟨3, textN (s.extract j e), ⟨#[]⟩, (j : Int)⟩ : Tokent)]) 104 rfl rfl rfl rfl rfl rfl rfl rfl FitL.rf rfl rfl rfl rfl rfl rfl (by kernel_rfl)) ?_
      refine AL_p (y_append 105 rfl rfl rfl rfl rfl rfl rfl rfl (by kernel_rfl) (by simp only [List.length_append, List.length_cons, List.length_nil] at *; omega)) ?_
      refine AL_p (x_assign rfl rfl) ?_
      refine AL_nil ?_
      refine AW_region ?_
      refine AL_p (x_move rfl rfl) ?_
      refine AL_p (x_assign rfl rfl) ?_
      refine AL_nil ?_
      refine ⟨⟨⟨e, out ++ [(⟨3, textN (s.extract j e), ⟨#[]⟩, (j : Int)⟩ : Tokent)]⟩, ⟨by omega, hc2, by simp only [List.length_append, List.length_cons, List.length_nil]; omega⟩⟩, rn [(101, 105)], ?_, by dsimp only; omega⟩
      exact ⟨by (repeat refine ⟨⟨_, rfl, by first | exact VLe.rf | exact vle_int (by dsimp only; omega)⟩, ?_⟩); exact trivial, by (repeat refine ⟨⟨_, rfl, by first | exact BLe.rf | exact BLe.box AllC.rf | exact BLe.arr (by exact rfl)⟩, ?_⟩); exact trivial, by repeat (first | exact trivial | refine ⟨⟨rfl, by first | (left; intro h; cases h) | (right; rfl), by first | exact (fun _ h => ⟨_, h⟩) | exact (fun _ _ => ⟨_, rfl⟩) | (intro _ h; cases h)⟩, ?_⟩), rfl⟩
    try simp only [tdy] at h93
    have hd : digB s[j].toNat = false := by cases q : digB s[j].toNat with | false => rfl | true => exact absurd (cls_dig.2 q) h93
    refine AW_condF rfl ?_
    refine AW_seq ?_
    refine AW_region ?_
    refine AL_p (x_move rfl rfl) ?_
    refine AL_b (x_call0 rfl rfl rfl (wordOkS_c _) rfl rfl) (fun b109 h109 => ?_)
    refine AL_nil ?_
    cases b109
    rotate_left
    · try simp only [tdy] at h109
      have hc2 := comb_ok hc (lexS_ok (by omega) hs ha hee (res_word hee hd h109))
      refine AW_condT rfl ?_
      refine AW_region ?_
      refine AL_p (x_move rfl rfl) ?_
      refine AL_p (x_move rfl rfl) ?_
      refine AL_p (x_move rfl rfl) ?_
      refine AL_p (x_build (zs := [.int .i64 0, .int .i64 0, .string ⟨#[]⟩, .int .i64 0]) (places := [(0, 1), (1, 1), (2, 1), (3, 1)]) rfl (by kernel_rfl) rfl rfl rfl rfl rfl) ?_
      refine AL_p (y_bslice (E := 83) (e := tokenE) [.tmp 113] ([(⟨1, 0, (s.extract j e), (j : Int)⟩ : Tokent)]) 106 rfl rfl rfl rfl rfl rfl rfl rfl FitL.rf rfl rfl rfl rfl rfl rfl (by kernel_rfl)) ?_
      refine AL_p (y_append 107 rfl rfl rfl rfl rfl rfl rfl rfl (by kernel_rfl) (by simp only [List.length_append, List.length_cons, List.length_nil] at *; omega)) ?_
      refine AL_p (x_assign rfl rfl) ?_
      refine AL_nil ?_
      refine AW_region ?_
      refine AL_p (x_move rfl rfl) ?_
      refine AL_p (x_assign rfl rfl) ?_
      refine AL_nil ?_
      refine ⟨⟨⟨e, out ++ [(⟨1, 0, (s.extract j e), (j : Int)⟩ : Tokent)]⟩, ⟨by omega, hc2, by simp only [List.length_append, List.length_cons, List.length_nil]; omega⟩⟩, rn [(101, 107)], ?_, by dsimp only; omega⟩
      exact ⟨by (repeat refine ⟨⟨_, rfl, by first | exact VLe.rf | exact vle_int (by dsimp only; omega)⟩, ?_⟩); exact trivial, by (repeat refine ⟨⟨_, rfl, by first | exact BLe.rf | exact BLe.box AllC.rf | exact BLe.arr (by exact rfl)⟩, ?_⟩); exact trivial, by repeat (first | exact trivial | refine ⟨⟨rfl, by first | (left; intro h; cases h) | (right; rfl), by first | exact (fun _ h => ⟨_, h⟩) | exact (fun _ _ => ⟨_, rfl⟩) | (intro _ h; cases h)⟩, ?_⟩), rfl⟩
    try simp only [tdy] at h109
    refine AW_condF rfl ?_
    refine AW_seq ?_
    refine AW_region ?_
    refine AL_p (x_move rfl rfl) ?_
    refine AL_b (x_call0 rfl rfl rfl (varOkS_c _) rfl rfl) (fun b117 h117 => ?_)
    refine AL_nil ?_
    cases b117
    · try simp only [tdy] at h117
      have hno : (lexAll s) = ([], 4, (j : Int)) := (lexAll_eq (by omega)).trans (comb_bad hc (lexS_bad (by omega) hs ha (res_none hee hd h109 h117) (by decide)) (by decide))
      refine AW_condF rfl ?_
      refine AW_seq ?_
      refine AW_region ?_
      refine AL_p (x_move rfl rfl) ?_
      refine AL_p (x_assign rfl rfl) ?_
      refine AL_p (x_assign rfl rfl) ?_
      refine AL_p (x_assign rfl rfl) ?_
      refine AL_nil ?_
      refine AW_adoptT (T := 83) (e := tokenE) 100 2 rfl rfl rfl ?_
      refine AW_shut 100 2 rfl rfl ?_
      refine AW_ret (BQ_ret (BQ_ret ?_))
      exact ⟨rn [], ⟨⟨⟨_, rfl, vle_sl (by rw [hno])⟩, ⟨_, rfl, vle_int (by rw [hno])⟩, ⟨_, rfl, vle_int (by rw [hno])⟩, trivial⟩, trivial, trivial, rfl⟩⟩
    try simp only [tdy] at h117
    have hc2 := comb_ok hc (lexS_ok (by omega) hs ha hee (res_var hee hd h109 h117))
    refine AW_condT rfl ?_
    refine AW_region ?_
    refine AL_p (x_move rfl rfl) ?_
    refine AL_p (x_move rfl rfl) ?_
    refine AL_p (x_move rfl rfl) ?_
    refine AL_p (x_build (zs := [.int .i64 0, .int .i64 0, .string ⟨#[]⟩, .int .i64 0]) (places := [(0, 1), (1, 1), (2, 1), (3, 1)]) rfl (by kernel_rfl) rfl rfl rfl rfl rfl) ?_
    refine AL_p (y_bslice (E := 83) (e := tokenE) [.tmp 121] ([(⟨2, 0, (s.extract j e), (j : Int)⟩ : Tokent)]) 108 rfl rfl rfl rfl rfl rfl rfl rfl FitL.rf rfl rfl rfl rfl rfl rfl (by kernel_rfl)) ?_
    refine AL_p (y_append 109 rfl rfl rfl rfl rfl rfl rfl rfl (by kernel_rfl) (by simp only [List.length_append, List.length_cons, List.length_nil] at *; omega)) ?_
    refine AL_p (x_assign rfl rfl) ?_
    refine AL_nil ?_
    refine AW_region ?_
    refine AL_p (x_move rfl rfl) ?_
    refine AL_p (x_assign rfl rfl) ?_
    refine AL_nil ?_
    refine ⟨⟨⟨e, out ++ [(⟨2, 0, (s.extract j e), (j : Int)⟩ : Tokent)]⟩, ⟨by omega, hc2, by simp only [List.length_append, List.length_cons, List.length_nil]; omega⟩⟩, rn [(101, 109)], ?_, by dsimp only; omega⟩
    exact ⟨by (repeat refine ⟨⟨_, rfl, by first | exact VLe.rf | exact vle_int (by dsimp only; omega)⟩, ?_⟩); exact trivial, by (repeat refine ⟨⟨_, rfl, by first | exact BLe.rf | exact BLe.box AllC.rf | exact BLe.arr (by exact rfl)⟩, ?_⟩); exact trivial, by repeat (first | exact trivial | refine ⟨⟨rfl, by first | (left; intro h; cases h) | (right; rfl), by first | exact (fun _ h => ⟨_, h⟩) | exact (fun _ _ => ⟨_, rfl⟩) | (intro _ h; cases h)⟩, ?_⟩), rfl⟩
  try simp only [tdy] at h77
  refine AL_g rfl rfl (x_move rfl rfl) ?_
  refine AL_g rfl rfl (x_move rfl rfl) ?_
  refine AL_g rfl rfl (x_sindex rfl rfl rfl (by kernel_rfl) (k := e) rfl (by omega)) ?_
  refine AL_g rfl rfl (x_call0 rfl rfl rfl (cls_c _) rfl rfl) ?_
  refine AL_gb rfl rfl (x_gtr rfl rfl rfl) (fun b83 h83 => ?_)
  refine AL_p (x_pickT rfl rfl rfl) ?_
  refine AL_nil ?_
  cases b83
  rotate_left
  · try simp only [tdy] at h83
    have hw2 := (wordEnd_on (s := s) (i := e) (by omega) (cls_pos.2.1 h83)).symm.trans hw
    refine AW_condT rfl ?_
    refine AW_skip ?_
    refine AW_block ?_
    refine AW_region ?_
    refine AL_p (x_move rfl rfl) ?_
    refine AL_p (x_add rfl rfl rfl (IntWalk.i64_in _ (by omega))) ?_
    refine AL_p (x_assign rfl rfl) ?_
    refine AL_nil ?_
    refine ⟨⟨e + 1, ⟨⟨by omega, by omega⟩, hw2⟩⟩, rn [], ?_, by dsimp only; omega⟩
    exact ⟨by (repeat refine ⟨⟨_, rfl, by first | exact VLe.rf | exact vle_int (by dsimp only; omega)⟩, ?_⟩); exact trivial, by (repeat refine ⟨⟨_, rfl, by first | exact BLe.rf | exact BLe.box AllC.rf | exact BLe.arr (by exact rfl)⟩, ?_⟩); exact trivial, by repeat (first | exact trivial | refine ⟨⟨rfl, by first | (left; intro h; cases h) | (right; rfl), by first | exact (fun _ h => ⟨_, h⟩) | exact (fun _ _ => ⟨_, rfl⟩) | (intro _ h; cases h)⟩, ?_⟩), rfl⟩
  try simp only [tdy] at h83
  have hee : e = wordEnd s j := by rw [← hw, wordEnd_off (s := s) (i := e) (by omega) (by cases q : alnumB s[e].toNat with | false => rfl | true => exact absurd (cls_pos.2.2 q) (by omega))]
  refine AW_condF rfl ?_
  refine AW_exit (BQ_hit ?_)
  refine AW_seq ?_
  refine AW_region ?_
  refine AL_p (x_move rfl rfl) ?_
  refine AL_p (x_move rfl rfl) ?_
  refine AL_p (x_move rfl rfl) ?_
  refine AL_p (x_sslice rfl rfl (by kernel_rfl) (.yes (l := j) rfl (by omega)) (.yes (l := e) rfl (by omega)) (by omega) (by first | exact Nat.le_refl _ | omega) rfl) ?_
  refine AL_p (x_assign rfl rfl) ?_
  refine AL_nil ?_
  refine AW_seq ?_
  refine AW_seq ?_
  refine AW_region ?_
  refine AL_p (x_move rfl rfl) ?_
  refine AL_p (x_call0 rfl rfl rfl (cls_c _) rfl rfl) ?_
  refine AL_b (x_eql rfl rfl rfl) (fun b93 h93 => ?_)
  refine AL_nil ?_
  cases b93
  rotate_left
  · try simp only [tdy] at h93
    have hd := cls_dig.1 h93
    refine AW_condT rfl ?_
    refine AW_seq ?_
    refine AW_region ?_
    refine AL_p (x_move rfl rfl) ?_
    refine AL_p (x_call0 rfl rfl rfl (textNumS_c _) rfl rfl) ?_
    refine AL_p (x_move rfl rfl) ?_
    refine AL_p (x_extract rfl rfl rfl) ?_
    refine AL_b (x_extract rfl rfl rfl) (fun b98 h98 => ?_)
    refine AL_p (x_assign rfl rfl) ?_
    refine AL_p (x_assign rfl rfl) ?_
    refine AL_nil ?_
    refine AW_seq ?_
    refine AW_seq ?_
    refine AW_region ?_
    refine AL_p (x_move rfl rfl) ?_
    refine AL_p (x_not rfl rfl) ?_
    refine AL_nil ?_
    cases b98
    · try simp only [tdy] at h98
      have hno : (lexAll s) = ([], 3, (j : Int)) := (lexAll_eq (by omega)).trans (comb_bad hc (lexS_bad (by omega) hs ha (res_badnum hee hd h98) (by decide)) (by decide))
      refine AW_condT rfl ?_
      refine AW_seq ?_
      refine AW_region ?_
      refine AL_p (x_move rfl rfl) ?_
      refine AL_p (x_assign rfl rfl) ?_
      refine AL_p (x_assign rfl rfl) ?_
      refine AL_p (x_assign rfl rfl) ?_
      refine AL_nil ?_
      refine AW_adoptT (T := 83) (e := tokenE) 100 2 rfl rfl rfl ?_
      refine AW_shut 100 2 rfl rfl ?_
      refine AW_ret (BQ_ret (BQ_ret ?_))
      exact ⟨rn [], ⟨⟨⟨_, rfl, vle_sl (by rw [hno])⟩, ⟨_, rfl, vle_int (by rw [hno])⟩, ⟨_, rfl, vle_int (by rw [hno])⟩, trivial⟩, trivial, trivial, rfl⟩⟩
    try simp only [tdy] at h98
    have hc2 := comb_ok hc (lexS_ok (by omega) hs ha hee (res_num hee hd h98))
    refine AW_condF rfl ?_
    refine AW_skip ?_
    refine AW_region ?_
    refine AL_p (x_move rfl rfl) ?_
    refine AL_p (x_move rfl rfl) ?_
    refine AL_p (x_move rfl rfl) ?_
    refine AL_p (x_build (zs := [.int .i64 0, .int .i64 0, .string ⟨#[]⟩, .int .i64 0]) (places := [(0, 1), (1, 1), (2, 1), (3, 1)]) rfl (by kernel_rfl) rfl rfl rfl rfl rfl) ?_
    refine AL_p (y_bslice (E := 83) (e := tokenE) [.tmp 105] ([(⟨3, textN (s.extract j e), ⟨#[]⟩, (j : Int)⟩ : Tokent)]) 104 rfl rfl rfl rfl rfl rfl rfl rfl FitL.rf rfl rfl rfl rfl rfl rfl (by kernel_rfl)) ?_
    refine AL_p (y_append 105 rfl rfl rfl rfl rfl rfl rfl rfl (by kernel_rfl) (by simp only [List.length_append, List.length_cons, List.length_nil] at *; omega)) ?_
    refine AL_p (x_assign rfl rfl) ?_
    refine AL_nil ?_
    refine AW_region ?_
    refine AL_p (x_move rfl rfl) ?_
    refine AL_p (x_assign rfl rfl) ?_
    refine AL_nil ?_
    refine ⟨⟨⟨e, out ++ [(⟨3, textN (s.extract j e), ⟨#[]⟩, (j : Int)⟩ : Tokent)]⟩, ⟨by omega, hc2, by simp only [List.length_append, List.length_cons, List.length_nil]; omega⟩⟩, rn [(101, 105)], ?_, by dsimp only; omega⟩
    exact ⟨by (repeat refine ⟨⟨_, rfl, by first | exact VLe.rf | exact vle_int (by dsimp only; omega)⟩, ?_⟩); exact trivial, by (repeat refine ⟨⟨_, rfl, by first | exact BLe.rf | exact BLe.box AllC.rf | exact BLe.arr (by exact rfl)⟩, ?_⟩); exact trivial, by repeat (first | exact trivial | refine ⟨⟨rfl, by first | (left; intro h; cases h) | (right; rfl), by first | exact (fun _ h => ⟨_, h⟩) | exact (fun _ _ => ⟨_, rfl⟩) | (intro _ h; cases h)⟩, ?_⟩), rfl⟩
  try simp only [tdy] at h93
  have hd : digB s[j].toNat = false := by cases q : digB s[j].toNat with | false => rfl | true => exact absurd (cls_dig.2 q) h93
  refine AW_condF rfl ?_
  refine AW_seq ?_
  refine AW_region ?_
  refine AL_p (x_move rfl rfl) ?_
  refine AL_b (x_call0 rfl rfl rfl (wordOkS_c _) rfl rfl) (fun b109 h109 => ?_)
  refine AL_nil ?_
  cases b109
  rotate_left
  · try simp only [tdy] at h109
    have hc2 := comb_ok hc (lexS_ok (by omega) hs ha hee (res_word hee hd h109))
    refine AW_condT rfl ?_
    refine AW_region ?_
    refine AL_p (x_move rfl rfl) ?_
    refine AL_p (x_move rfl rfl) ?_
    refine AL_p (x_move rfl rfl) ?_
    refine AL_p (x_build (zs := [.int .i64 0, .int .i64 0, .string ⟨#[]⟩, .int .i64 0]) (places := [(0, 1), (1, 1), (2, 1), (3, 1)]) rfl (by kernel_rfl) rfl rfl rfl rfl rfl) ?_
    refine AL_p (y_bslice (E := 83) (e := tokenE) [.tmp 113] ([(⟨1, 0, (s.extract j e), (j : Int)⟩ : Tokent)]) 106 rfl rfl rfl rfl rfl rfl rfl rfl FitL.rf rfl rfl rfl rfl rfl rfl (by kernel_rfl)) ?_
    refine AL_p (y_append 107 rfl rfl rfl rfl rfl rfl rfl rfl (by kernel_rfl) (by simp only [List.length_append, List.length_cons, List.length_nil] at *; omega)) ?_
    refine AL_p (x_assign rfl rfl) ?_
    refine AL_nil ?_
    refine AW_region ?_
    refine AL_p (x_move rfl rfl) ?_
    refine AL_p (x_assign rfl rfl) ?_
    refine AL_nil ?_
    refine ⟨⟨⟨e, out ++ [(⟨1, 0, (s.extract j e), (j : Int)⟩ : Tokent)]⟩, ⟨by omega, hc2, by simp only [List.length_append, List.length_cons, List.length_nil]; omega⟩⟩, rn [(101, 107)], ?_, by dsimp only; omega⟩
    exact ⟨by (repeat refine ⟨⟨_, rfl, by first | exact VLe.rf | exact vle_int (by dsimp only; omega)⟩, ?_⟩); exact trivial, by (repeat refine ⟨⟨_, rfl, by first | exact BLe.rf | exact BLe.box AllC.rf | exact BLe.arr (by exact rfl)⟩, ?_⟩); exact trivial, by repeat (first | exact trivial | refine ⟨⟨rfl, by first | (left; intro h; cases h) | (right; rfl), by first | exact (fun _ h => ⟨_, h⟩) | exact (fun _ _ => ⟨_, rfl⟩) | (intro _ h; cases h)⟩, ?_⟩), rfl⟩
  try simp only [tdy] at h109
  refine AW_condF rfl ?_
  refine AW_seq ?_
  refine AW_region ?_
  refine AL_p (x_move rfl rfl) ?_
  refine AL_b (x_call0 rfl rfl rfl (varOkS_c _) rfl rfl) (fun b117 h117 => ?_)
  refine AL_nil ?_
  cases b117
  · try simp only [tdy] at h117
    have hno : (lexAll s) = ([], 4, (j : Int)) := (lexAll_eq (by omega)).trans (comb_bad hc (lexS_bad (by omega) hs ha (res_none hee hd h109 h117) (by decide)) (by decide))
    refine AW_condF rfl ?_
    refine AW_seq ?_
    refine AW_region ?_
    refine AL_p (x_move rfl rfl) ?_
    refine AL_p (x_assign rfl rfl) ?_
    refine AL_p (x_assign rfl rfl) ?_
    refine AL_p (x_assign rfl rfl) ?_
    refine AL_nil ?_
    refine AW_adoptT (T := 83) (e := tokenE) 100 2 rfl rfl rfl ?_
    refine AW_shut 100 2 rfl rfl ?_
    refine AW_ret (BQ_ret (BQ_ret ?_))
    exact ⟨rn [], ⟨⟨⟨_, rfl, vle_sl (by rw [hno])⟩, ⟨_, rfl, vle_int (by rw [hno])⟩, ⟨_, rfl, vle_int (by rw [hno])⟩, trivial⟩, trivial, trivial, rfl⟩⟩
  try simp only [tdy] at h117
  have hc2 := comb_ok hc (lexS_ok (by omega) hs ha hee (res_var hee hd h109 h117))
  refine AW_condT rfl ?_
  refine AW_region ?_
  refine AL_p (x_move rfl rfl) ?_
  refine AL_p (x_move rfl rfl) ?_
  refine AL_p (x_move rfl rfl) ?_
  refine AL_p (x_build (zs := [.int .i64 0, .int .i64 0, .string ⟨#[]⟩, .int .i64 0]) (places := [(0, 1), (1, 1), (2, 1), (3, 1)]) rfl (by kernel_rfl) rfl rfl rfl rfl rfl) ?_
  refine AL_p (y_bslice (E := 83) (e := tokenE) [.tmp 121] ([(⟨2, 0, (s.extract j e), (j : Int)⟩ : Tokent)]) 108 rfl rfl rfl rfl rfl rfl rfl rfl FitL.rf rfl rfl rfl rfl rfl rfl (by kernel_rfl)) ?_
  refine AL_p (y_append 109 rfl rfl rfl rfl rfl rfl rfl rfl (by kernel_rfl) (by simp only [List.length_append, List.length_cons, List.length_nil] at *; omega)) ?_
  refine AL_p (x_assign rfl rfl) ?_
  refine AL_nil ?_
  refine AW_region ?_
  refine AL_p (x_move rfl rfl) ?_
  refine AL_p (x_assign rfl rfl) ?_
  refine AL_nil ?_
  refine ⟨⟨⟨e, out ++ [(⟨2, 0, (s.extract j e), (j : Int)⟩ : Tokent)]⟩, ⟨by omega, hc2, by simp only [List.length_append, List.length_cons, List.length_nil]; omega⟩⟩, rn [(101, 109)], ?_, by dsimp only; omega⟩
  exact ⟨by (repeat refine ⟨⟨_, rfl, by first | exact VLe.rf | exact vle_int (by dsimp only; omega)⟩, ?_⟩); exact trivial, by (repeat refine ⟨⟨_, rfl, by first | exact BLe.rf | exact BLe.box AllC.rf | exact BLe.arr (by exact rfl)⟩, ?_⟩); exact trivial, by repeat (first | exact trivial | refine ⟨⟨rfl, by first | (left; intro h; cases h) | (right; rfl), by first | exact (fun _ h => ⟨_, h⟩) | exact (fun _ _ => ⟨_, rfl⟩) | (intro _ h; cases h)⟩, ?_⟩), rfl⟩
end Go.Proofs.Ytkemjhlbokldhaa

/- The laws' marks: MarkA (printed by genmark.py) -/
namespace Go.Proofs.Ytkemjhlbokldhaa
open Go.RowKit
set_option linter.unusedVariables false
set_option linter.unusedSimpArgs false
set_option maxRecDepth 100000

end Go.Proofs.Ytkemjhlbokldhaa

/- Sizes of data (printed by mktot.py) -/
namespace Go.Proofs.Ytkemjhlbokldhaa
open Go.RowKit
set_option linter.unusedVariables false

end Go.Proofs.Ytkemjhlbokldhaa

/- Plain laws on relations that are copied, marked, counted. -/
namespace Go.Proofs.Ytkemjhlbokldhaa
open Go.RowKit
set_option linter.unusedVariables false

end Go.Proofs.Ytkemjhlbokldhaa

/- How many words and signs a text has. -/
namespace Go.Proofs.Ytkemjhlbokldhaa
open Go.RowKit
set_option linter.unusedVariables false

theorem consL_len {t : Tokent} {r : LexR} : (consL t r).1.length ≤ r.1.length + 1 := by
  unfold consL; split
  · simp
  · simp
theorem lexR_len {s : ByteArray} (i : Nat) : (lexR s i).1.length ≤ s.size - i := by
  rw [lexR]
  split
  · rename_i h
    have hg := skip_ge (s := s) i
    split
    · rename_i ha
      have hw := wordEnd_gt h ha
      split
      · rename_i t c ht
        have ih := lexR_len (s := s) (wordEnd s (skipS s i))
        have := consL_len (t := t) (r := lexR s (wordEnd s (skipS s i)))
        have h2 := wordEnd_le (s := s) (skipS s i) (by omega)
        dsimp only; omega
      · simp
    · split
      · simp
      · rename_i hy
        have ih := lexR_len (s := s) (skipS s i + (symAt s (skipS s i)).size)
        have := consL_len (t := ⟨4, 0, symAt s (skipS s i), skipS s i⟩) (r := lexR s (skipS s i + (symAt s (skipS s i)).size))
        have h2 := symAt_size (s := s) (i := skipS s i) h
        dsimp only; omega
  · simp
termination_by s.size - i
theorem lexAll_len (s : ByteArray) : (lexAll s).1.length ≤ 6000 := by
  unfold lexAll; split
  · simp
  · have := lexR_len (s := s) 0; omega
theorem lexAll_cnt (s : ByteArray) : cntL cntToken (lexAll s).1 ≤ 1152921504606846976 := by
  have h := cntL_le (c := cntToken) (M := 4) (xs := (lexAll s).1) (fun x _ => by simp [cntToken])
  have := lexAll_len s
  omega
end Go.Proofs.Ytkemjhlbokldhaa

/- The walk of FnExactLex (printed by walk.py) -/
namespace Go.Proofs.Ytkemjhlbokldhaa
open Go.RowKit
set_option linter.unusedVariables false
set_option linter.unusedSimpArgs false
set_option maxRecDepth 100000

set_option maxHeartbeats 4000000 in
theorem lawFnExactLex.walk (w : World) (x0 : ByteArray) (h0 : x0.size ≤ maxLen) :
    Calls Try.prog 4 #[.string x0] w fun e w' => e = .returned (.bool true) ∧ Below w.heap.size w w' := by
  refine AM_law (r := 2) Try.func4 rfl Try.ntmps4 rfl Try.results4 w _ (args := [.one (.c (.string x0))]) ⟨⟨rfl, h0⟩, trivial⟩ (fun B => ?_)
  refine AM_seq ?_
  refine AM_region ?_
  refine AL_p (x_assign rfl rfl) ?_
  refine AL_nil ?_
  refine AM_seq ?_
  refine AM_seq ?_
  refine AM_region ?_
  refine AL_p (x_move rfl rfl) ?_
  refine AL_p (x_lens rfl rfl (by kernel_rfl)) ?_
  refine AL_b (x_gtr rfl rfl rfl) (fun b16 h16 => ?_)
  refine AL_nil ?_
  cases b16
  rotate_left
  · try simp only [tdy] at h16
    refine AM_condT rfl ?_
    refine AM_seq ?_
    refine AM_region ?_
    refine AL_p (x_assign rfl rfl) ?_
    refine AL_nil ?_
    refine AM_ret ?_
    exact rfl
  try simp only [tdy] at h16
  refine AM_condF rfl ?_
  refine AM_skip ?_
  refine AM_seq ?_
  refine AM_region ?_
  refine AL_p (x_move rfl rfl) ?_
  refine AL_p (x_call0 rfl rfl rfl (lexS_c x0 (by omega)) rfl rfl) ?_
  refine AL_p (x_move rfl rfl) ?_
  refine AL_p (x_extract rfl rfl rfl) ?_
  refine AL_p (x_extract rfl rfl rfl) ?_
  refine AL_p (x_extract rfl rfl rfl) ?_
  refine AL_p (x_assign rfl rfl) ?_
  refine AL_p (x_assign rfl rfl) ?_
  refine AL_p (x_assign rfl rfl) ?_
  refine AL_nil ?_
  refine AM_raise (fun B' => [(0, .one (.c _)), (3, .one (.slo B' tokenE ((lexAll x0).1))), (4, .one (.c _)), (5, .one (.c _))]) (fun B' => ⟨⟨_, rfl, .c⟩, ⟨_, rfl, .sl⟩, ⟨_, rfl, .c⟩, ⟨_, rfl, .c⟩, trivial⟩) (fun B' => ?_)
  refine AM_seq ?_
  refine AM_region ?_
  refine AL_p (x_move rfl rfl) ?_
  refine AL_p (x_callR rfl rfl rfl (lexI_c x0 (by omega) 100) rfl AllV.rf rfl rfl rfl rfl rfl) ?_
  refine AL_p (x_move rfl rfl) ?_
  refine AL_p (x_extract rfl rfl rfl) ?_
  refine AL_p (x_extract rfl rfl rfl) ?_
  refine AL_p (x_extract rfl rfl rfl) ?_
  refine AL_p (x_assign rfl rfl) ?_
  refine AL_p (x_assign rfl rfl) ?_
  refine AL_p (x_assign rfl rfl) ?_
  refine AL_nil ?_
  refine AM_seq ?_
  refine AM_seq ?_
  refine AM_region ?_
  refine AL_p (x_move rfl rfl) ?_
  refine AL_p (x_move rfl rfl) ?_
  refine AL_p (x_callR rfl rfl rfl (eqTokenS_c ((lexAll x0).1)) rfl AllV.rf rfl rfl rfl rfl rfl) ?_
  refine AL_p (x_not rfl rfl) ?_
  refine AL_p (x_move rfl rfl) ?_
  refine AL_g rfl rfl (x_move rfl rfl) ?_
  refine AL_g rfl rfl (x_move rfl rfl) ?_
  refine AL_gb rfl rfl (x_neq rfl rfl rfl) (fun b36 h36 => ?_)
  refine AL_p (x_pickF rfl rfl rfl) ?_
  refine AL_p (x_move rfl rfl) ?_
  cases b36
  rotate_left
  · exfalso; first | (simp [ba_beq_self] at h36; done) | (simp at h36; omega)
  try simp only [tdy] at h36
  refine AL_g rfl rfl (x_move rfl rfl) ?_
  refine AL_g rfl rfl (x_move rfl rfl) ?_
  refine AL_gb rfl rfl (x_neq rfl rfl rfl) (fun b41 h41 => ?_)
  refine AL_p (x_pickF rfl rfl rfl) ?_
  refine AL_nil ?_
  cases b41
  rotate_left
  · exfalso; first | (simp [ba_beq_self] at h41; done) | (simp at h41; omega)
  try simp only [tdy] at h41
  refine AM_condF rfl ?_
  refine AM_skip ?_
  refine AM_seq ?_
  refine AM_region ?_
  refine AL_p (x_assign rfl rfl) ?_
  refine AL_nil ?_
  refine AM_seq ?_
  refine AM_regionM ?_
  refine LM_p (x_move rfl rfl) ?_
  refine LM_p (x_move rfl rfl) ?_
  have n0 : cntL cntToken ((lexAll x0).1) ≤ 1152921504606846976 := lexAll_cnt x0
  have v0 := markL_cnt markToken markToken_cnt ((lexAll x0).1) (1)
  refine LM_markOK (z := (lexAll x0).1) (z' := (markL markToken (lexAll x0).1 (1)).1) 6 (fun B' => [(0, .one (.c _)), (3, .one (.slo B' tokenE ((lexAll x0).1))), (4, .one (.c _)), (5, .one (.c _)), (9, .one (.c _))]) rfl rfl rfl rfl rfl ⟨_, _, Try.func19, rfl, rfl⟩ (fun w a n cap bs h hF => markTokenS_any a n cap _ bs _ 0 w h hF (by omega) (by omega)) rfl (wf64 (by omega) (by omega)) (fun B' => ⟨⟨_, rfl, .c⟩, ⟨_, rfl, .slo⟩, ⟨_, rfl, .c⟩, ⟨_, rfl, .c⟩, ⟨_, rfl, .c⟩, trivial⟩) (fun B' => ?_)
  refine LM_p (x_assign rfl rfl) ?_
  refine LM_nil ?_
  refine AM_seq ?_
  refine AM_region ?_
  refine AL_p (x_assign rfl rfl) ?_
  refine AL_nil ?_
  refine AM_seq ?_
  refine AM_region ?_
  refine AL_p (x_move rfl rfl) ?_
  refine AL_p (x_move rfl rfl) ?_
  refine AL_p (x_callR rfl rfl rfl (heldTokenS_c ((lexAll x0).1) _ (1) rfl (by omega) (by omega)) rfl AllV.rf rfl rfl rfl rfl rfl) ?_
  refine AL_p (x_assign rfl rfl) ?_
  refine AL_nil ?_
  refine AM_seq ?_
  refine AM_seq ?_
  refine AM_region ?_
  refine AL_p (x_move rfl rfl) ?_
  refine AL_b (x_lss rfl rfl rfl) (fun b50 h50 => ?_)
  refine AL_nil ?_
  cases b50
  rotate_left
  · exfalso; first | (simp [ba_beq_self] at h50; done) | (simp at h50; omega)
  try simp only [tdy] at h50
  refine AM_condF rfl ?_
  refine AM_skip ?_
  refine AM_seq ?_
  refine AM_seq ?_
  refine AM_region ?_
  refine AL_p (x_move rfl rfl) ?_
  refine AL_p (x_move rfl rfl) ?_
  refine AL_b (x_neq rfl rfl rfl) (fun b53 h53 => ?_)
  refine AL_nil ?_
  cases b53
  rotate_left
  · exfalso; first | (simp [ba_beq_self] at h53; done) | (simp at h53; omega)
  try simp only [tdy] at h53
  refine AM_condF rfl ?_
  refine AM_skip ?_
  refine AM_seq ?_
  refine AM_region ?_
  refine AL_p (x_move rfl rfl) ?_
  refine AL_p (x_callR rfl rfl rfl (lexI_c x0 (by omega) 101) rfl AllV.rf rfl rfl rfl rfl rfl) ?_
  refine AL_p (x_move rfl rfl) ?_
  refine AL_p (x_extract rfl rfl rfl) ?_
  refine AL_p (x_extract rfl rfl rfl) ?_
  refine AL_p (x_extract rfl rfl rfl) ?_
  refine AL_p (x_assign rfl rfl) ?_
  refine AL_p (x_assign rfl rfl) ?_
  refine AL_p (x_assign rfl rfl) ?_
  refine AL_nil ?_
  refine AM_seq ?_
  refine AM_seq ?_
  refine AM_region ?_
  refine AL_p (x_move rfl rfl) ?_
  refine AL_p (x_move rfl rfl) ?_
  refine AL_p (x_callR rfl rfl rfl (eqTokenS_c ((lexAll x0).1)) rfl AllV.rf rfl rfl rfl rfl rfl) ?_
  refine AL_p (x_not rfl rfl) ?_
  refine AL_p (x_move rfl rfl) ?_
  refine AL_g rfl rfl (x_move rfl rfl) ?_
  refine AL_g rfl rfl (x_move rfl rfl) ?_
  refine AL_gb rfl rfl (x_neq rfl rfl rfl) (fun b67 h67 => ?_)
  refine AL_p (x_pickF rfl rfl rfl) ?_
  refine AL_p (x_move rfl rfl) ?_
  cases b67
  rotate_left
  · exfalso; first | (simp [ba_beq_self] at h67; done) | (simp at h67; omega)
  try simp only [tdy] at h67
  refine AL_g rfl rfl (x_move rfl rfl) ?_
  refine AL_g rfl rfl (x_move rfl rfl) ?_
  refine AL_gb rfl rfl (x_neq rfl rfl rfl) (fun b72 h72 => ?_)
  refine AL_p (x_pickF rfl rfl rfl) ?_
  refine AL_nil ?_
  cases b72
  rotate_left
  · exfalso; first | (simp [ba_beq_self] at h72; done) | (simp at h72; omega)
  try simp only [tdy] at h72
  refine AM_condF rfl ?_
  refine AM_skip ?_
  refine AM_seq ?_
  refine AM_region ?_
  refine AL_p (x_assign rfl rfl) ?_
  refine AL_nil ?_
  refine AM_seq ?_
  refine AM_region ?_
  refine AL_p (x_move rfl rfl) ?_
  refine AL_p (x_move rfl rfl) ?_
  refine AL_p (x_callR rfl rfl rfl (heldTokenS_c ((lexAll x0).1) _ (1) rfl (by omega) (by omega)) rfl AllV.rf rfl rfl rfl rfl rfl) ?_
  refine AL_p (x_assign rfl rfl) ?_
  refine AL_nil ?_
  refine AM_seq ?_
  refine AM_seq ?_
  refine AM_region ?_
  refine AL_p (x_move rfl rfl) ?_
  refine AL_b (x_lss rfl rfl rfl) (fun b78 h78 => ?_)
  refine AL_nil ?_
  cases b78
  rotate_left
  · exfalso; first | (simp [ba_beq_self] at h78; done) | (simp at h78; omega)
  try simp only [tdy] at h78
  refine AM_condF rfl ?_
  refine AM_skip ?_
  refine AM_seq ?_
  refine AM_seq ?_
  refine AM_region ?_
  refine AL_p (x_move rfl rfl) ?_
  refine AL_p (x_move rfl rfl) ?_
  refine AL_b (x_neq rfl rfl rfl) (fun b81 h81 => ?_)
  refine AL_nil ?_
  cases b81
  rotate_left
  · exfalso; first | (simp [ba_beq_self] at h81; done) | (simp at h81; omega)
  try simp only [tdy] at h81
  refine AM_condF rfl ?_
  refine AM_skip ?_
  refine AM_seq ?_
  refine AM_region ?_
  refine AL_p (x_assign rfl rfl) ?_
  refine AL_nil ?_
  refine AM_ret ?_
  exact rfl
end Go.Proofs.Ytkemjhlbokldhaa
